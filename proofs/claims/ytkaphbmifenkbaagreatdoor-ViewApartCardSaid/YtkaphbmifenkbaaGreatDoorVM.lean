/- Rows as they are seen: what Map tells. No conditions. -/
import Derived.Test.YtkaphbmifenkbaaGreatDoorVG
import Derived.Test.YtkaphbmifenkbaaGreatDoorVBounds
set_option linter.all false
namespace Go.Vx
set_option maxRecDepth 100000
theorem par_yields {r:List Int} (dir:Int) (hb:lenL r≤100000):Yields (weak_Paragraph dLoad r dir) (fun v=>(v.2=0∨v.2=1)∧lenL v.1=lenL r):=by
 unfold weak_Paragraph
 refine .bind _ (classes_yields hb) fun l ⟨ll,_⟩=>?_
 refine .cut (fun q=>∃ b,q = .go b∧(b=0∨b=1)) ?_ ?_
 · refine .ite (fun _=>.bind _ (base2_yields (l:=l) (by omega)) fun b hb=>.ret ⟨b,rfl,hb⟩) (fun h=>.ret ⟨dir,rfl,?_⟩)
   by_cases h0:dir=0
   · exact .inl h0
   · by_cases h1:dir=1
     · exact .inr h1
     · simp [h0,h1] at h
 rintro q ⟨b,rfl,hb0⟩
 exact .go (.bind _ (levels_bounds (r:=r) (by omega) (by omega) hb0) fun o ho=>.ret ⟨hb0,by simp only;omega⟩)
section
variable {cells:List T_api_Cell}
theorem wid_split {i:Int} (h0:0≤i) (h1:i < lenL cells) (hw:(getL d_api_Cell cells i).fW≠0):widL cells=widL (cells.take i.toNat)++([(getL d_api_Cell cells i).fW]++widL (cells.drop (i+1).toNat)):=by
 rw [← widL_one hw,← widL_app,← widL_app,List.singleton_append,← drop_get d_api_Cell h0 h1,List.take_append_drop]
theorem wid_at {i:Int} (h0:0≤i) (h1:i < lenL cells) (hw:(getL d_api_Cell cells i).fW≠0):getL 0 (widL cells) (lenL (widL (cells.take i.toNat)))=(getL d_api_Cell cells i).fW∧lenL (widL (cells.take i.toNat)) < lenL (widL cells):=by
 have e:=wid_split h0 h1 hw
 have n1:=lenL_nn (widL (cells.take i.toNat))
 have n2:=lenL_nn (widL (cells.drop (i+1).toNat))
 generalize hA:widL (cells.take i.toNat)=A at *
 generalize hB:widL (cells.drop (i+1).toNat)=B at *
 rw [e,getL_app n1,if_neg (by omega),lenL_app,lenL_app]
 refine ⟨getL_one (by omega),?_⟩
 simp;omega
theorem wid_next {i:Int} (h0:0≤i) (h1:i < lenL cells):lenL (widL (cells.take (i+1).toNat))=lenL (widL (cells.take i.toNat))+(if (getL d_api_Cell cells i).fW=0 then 0 else 1):=by
 rw [take_get d_api_Cell h0 h1,widL_app,lenL_app]
 split
 · rename_i h;rw [widL_one0 h];rfl
 · rename_i h;rw [widL_one h];rfl
theorem mem_get {α:Type} (d:α) {l:List α} {x:α} (h:x∈l) : ∃ i,0≤i∧i < lenL l∧getL d l i=x:=by
 obtain ⟨n,hn,rfl⟩:=List.mem_iff_getElem.1 h
 exact ⟨n,by omega,by simp only [lenL];omega,by simp [getL,hn]⟩
theorem wid12 (hf : ∀ i,0≤i→i < lenL cells→FitP (getL d_api_Cell cells i)) : ∀ i,0≤i→i < lenL (widL cells)→getL 0 (widL cells) i=1∨getL 0 (widL cells) i=2:=by
 intro i i0 i1
 have hm:=getL_mem (0:Int) i0 i1
 obtain ⟨c,hc,e⟩:=List.mem_map.1 hm
 obtain ⟨hc,hw⟩:=List.mem_filter.1 hc
 obtain ⟨j,j0,j1,rfl⟩:=mem_get d_api_Cell hc
 obtain ⟨_,_,h⟩:=hf j j0 j1
 have hw:(getL d_api_Cell cells j).fW≠0:=by simpa using hw
 rw [← e]
 omega
theorem pos_eq (hf : ∀ i,0≤i→i < lenL cells→FitP (getL d_api_Cell cells i)) (hp : ∀ i,0≤i→i < lenL cells→PairP cells i) :
  ∀ i:Nat,(i:Int)≤lenL cells→preI (getL 0 (widL cells)) (lenL (widL (cells.take i)))=i+(if (i:Int) < lenL cells∧(getL d_api_Cell cells i).fW=0 then 1 else 0):=by
 intro i
 induction i with
 | zero =>
  intro _
  rw [if_neg]
  · rfl
  · rintro ⟨h1,h2⟩
    have:=((hp 0 (by omega) h1).1 h2).1
    omega
 | succ i ih =>
  intro hi
  have ih:=ih (by omega)
  have h1:(i:Int) < lenL cells:=by omega
  have hn:=wid_next (cells:=cells) (i:=i) (by omega) h1
  rw [show ((i:Int)+1).toNat=i+1 by omega,show (i:Int).toNat=i by omega] at hn
  have hP:=hp i (by omega) h1
  have hF:=(hf i (by omega) h1).2.2
  rw [show (((i+1:Nat)):Int)=(i:Int)+1 by omega] at hi ⊢
  have hN:(i:Int)+1 < lenL cells→(getL d_api_Cell cells ((i:Int)+1)).fW=0→(getL d_api_Cell cells (i:Int)).fW=2:=fun h2 h3=>by
   have:=((hp (i+1) (by omega) h2).1 h3).2
   rw [show (i:Int)+1-1=i by omega] at this
   exact this
  by_cases hz:(getL d_api_Cell cells (i:Int)).fW=0
  · rw [if_pos hz] at hn
    rw [if_pos ⟨h1,hz⟩] at ih
    rw [hn,Int.add_zero,ih,if_neg]
    · omega
    · rintro ⟨h2,h3⟩
      have:=hN h2 h3;omega
  · rw [if_neg hz] at hn
    rw [if_neg (fun h=>hz h.2)] at ih
    obtain ⟨w1,w2⟩:=wid_at (cells:=cells) (i:=i) (by omega) h1 hz
    rw [show (i:Int).toNat=i by omega] at w1 w2
    rw [hn,preI_succ (lenL_nn _),ih,w1]
    by_cases h2:(getL d_api_Cell cells (i:Int)).fW=2
    · have:=hP.2 h2
      rw [if_pos this];omega
    · rw [if_neg (fun h=>h2 (hN h.1 h.2))];omega
end
structure SeenP (r:T_api_Row) (x:T_view_Line):Prop where
 v:lenL x.fV2L=lenL r.fCells
 l:lenL x.fL2V=lenL r.fCells
 c:lenL x.fCells=lenL r.fCells
 vl : ∀ p,0≤p→p < lenL r.fCells→0≤getL 0 x.fV2L p∧getL 0 x.fV2L p < lenL r.fCells∧getL 0 x.fL2V (getL 0 x.fV2L p)=p
 lv : ∀ i,0≤i→i < lenL r.fCells→0≤getL 0 x.fL2V i∧getL 0 x.fL2V i < lenL r.fCells∧getL 0 x.fV2L (getL 0 x.fL2V i)=i
 wide : ∀ i,0≤i→i < lenL r.fCells→(getL d_api_Cell r.fCells i).fW=2→getL 0 x.fL2V (i+1)=getL 0 x.fL2V i+1
theorem row_len {r:T_api_Row} (hr:RowP r):preI (getL 0 (widL r.fCells)) (lenL (widL r.fCells))=lenL r.fCells:=by
 have hn:=lenL_nn r.fCells
 have:=pos_eq hr.fit hr.pair (lenL r.fCells).toNat (by omega)
 rw [take_all (Int.le_refl _),if_neg (by omega)] at this
 omega
theorem row_pos {r:T_api_Row} (hr:RowP r) {i:Int} (h0:0≤i) (h1:i < lenL r.fCells) (hw:(getL d_api_Cell r.fCells i).fW≠0):preI (getL 0 (widL r.fCells)) (lenL (widL (r.fCells.take i.toNat)))=i:=by
 have:=pos_eq hr.fit hr.pair i.toNat (by omega)
 rw [show ((i.toNat:Nat):Int)=i by omega] at this
 rw [if_neg (fun h=>hw h.2)] at this
 omega
theorem seen_of {r:T_api_Row} (hr:RowP r) {f g:Int→Int} {x:T_view_Line} (h:LinP (lenL (widL r.fCells)) (getL 0 (widL r.fCells)) f g x):SeenP r x:=by
 have hN:=row_len hr
 obtain ⟨a,b,c,d,e,at_⟩:=h
 rw [hN] at a b c d e
 refine ⟨a,b,c,d,e,fun i i0 i1 hw=>?_⟩
 have hp:=row_pos hr i0 i1 (by omega)
 obtain ⟨w1,w2⟩:=wid_at i0 i1 (show (getL d_api_Cell r.fCells i).fW≠0 by omega)
 have k0:=lenL_nn (widL (r.fCells.take i.toNat))
 have q0:=at_ _ k0 w2 0 (by omega) (by omega)
 have q1:=at_ _ k0 w2 1 (by omega) (by omega)
 rw [hp] at q0 q1
 rw [q1,show getL 0 x.fL2V i=getL 0 x.fL2V (i+0) by rw [Int.add_zero],q0]
 omega
theorem lay_seen {r:T_api_Row} (hr:RowP r) (hb:lenL r.fCells≤1000) {cells:List T_api_Cell} {levels:List Int} (base:Int) (hc:lenL cells=lenL r.fCells) (hl:lenL levels=lenL (widL r.fCells)) :
  Yields (view_lay cells levels (widL r.fCells) base) (fun x=>x.fBase=base∧SeenP r x):=by
 have h1:=letL_len r.fCells
 have h2:=wid_len r.fCells
 obtain ⟨v,f,g,ev,lv,hf,hg⟩:=visual_perm (levels:=levels) hl (by omega)
 exact (lay_yields hl rfl (by omega) (wid12 hr.fit) ev lv hf hg (by rw [row_len hr,hc])).mono fun x hx=>⟨hx.1,seen_of hr hx.2⟩
theorem preI_turn {w:Int→Int} {n:Int} : ∀ m:Nat,(m:Int)≤n→preI (fun p=>w (n-1-p)) m=preI w n-preI w (n-m)
 | 0,_=>by show 0=preI w n-preI w (n-0);rw [Int.sub_zero];omega
 | m+1,h=>by
  have ih:=preI_turn (w:=w) (n:=n) m (by omega)
  rw [show (((m+1:Nat)):Int)=(m:Int)+1 by omega,preI_succ (by omega),ih]
  have e:preI w (n-m)=preI w (n-(m+1))+w (n-(m+1)):=by
   have:=preI_succ (w:=w) (i:=n-(m+1)) (by omega)
   rw [show n-((m:Int)+1)+1=n-m by omega] at this
   exact this
  rw [show n-1-(m:Int)=n-((m:Int)+1) by omega]
  omega
def PlainP (r:T_api_Row) (l:Int) (x:T_view_Line):Prop:=(l=0→∀ i,0≤i→i < lenL r.fCells→getL 0 x.fV2L i=i)∧(l=1→∀ i,0≤i→i < lenL r.fCells→(getL d_api_Cell r.fCells i).fW=1→getL 0 x.fL2V i=lenL r.fCells-1-i)
theorem lay_plain {r:T_api_Row} (hr:RowP r) (hb:lenL r.fCells≤1000) {cells:List T_api_Cell} {levels:List Int} (base:Int) (hc:lenL cells=lenL r.fCells) (hl:lenL levels=lenL (widL r.fCells))
  {l:Int} (hl0:l=0∨l=1) (hlv : ∀ i,0≤i→i < lenL levels→getL 0 levels i=l):Yields (view_lay cells levels (widL r.fCells) base) (fun x=>x.fBase=base∧SeenP r x∧PlainP r l x):=by
 have h1:=letL_len r.fCells
 have h2:=wid_len r.fCells
 have hn:=lenL_nn (widL r.fCells)
 have hN:=row_len hr
 obtain ⟨v,ev,lv,hv⟩:=visual_const (a:=levels) (l:=l) hl (by omega) (by omega) (by omega) (fun i i0 i1=>hlv i i0 (by omega))
 have w12:=wid12 hr.fit
 rcases hl0 with rfl | rfl
 · refine (lay_yields (f:=fun p=>p) (g:=fun q=>q) hl rfl (by omega) w12 ev lv (fun p p0 p1=>⟨by rw [hv p p0 p1];rfl,p0,p1,rfl⟩) (fun q q0 q1=>⟨q0,q1,rfl⟩) (by rw [hN,hc])).mono fun x hx=>⟨hx.1,seen_of hr hx.2,fun _ i i0 i1=>?_,fun h=>by omega⟩
   obtain ⟨a,b,c,d⟩:=blk_spec (w:=getL 0 (widL r.fCells)) (n:=(lenL (widL r.fCells)).toNat) (x:=i) i0 (by show i < preI _ _;rw [hN];exact i1)
   rw [preI_succ a] at d
   have e:=hx.2.at_ _ a (by omega) (i-preI (getL 0 (widL r.fCells)) (blk (getL 0 (widL r.fCells)) (lenL (widL r.fCells)).toNat i)) (by omega) (by omega)
   have e':getL 0 x.fL2V i=i:=by
    rw [show preI (getL 0 (widL r.fCells)) (blk (getL 0 (widL r.fCells)) (lenL (widL r.fCells)).toNat i)+(i-preI (getL 0 (widL r.fCells)) (blk (getL 0 (widL r.fCells)) (lenL (widL r.fCells)).toNat i))=i by omega] at e
    exact e
   have:=((seen_of hr hx.2).lv i i0 i1).2.2
   rw [e'] at this
   exact this
 · refine (lay_yields (f:=fun p=>lenL (widL r.fCells)-1-p) (g:=fun q=>lenL (widL r.fCells)-1-q) hl rfl (by omega) w12 ev lv (fun p p0 p1=>⟨by rw [hv p p0 p1];rfl,by omega,by omega,by omega⟩) (fun q q0 q1=>⟨by omega,by omega,by omega⟩) (by rw [hN,hc])).mono fun x hx=>⟨hx.1,seen_of hr hx.2,fun h=>by omega,fun _ i i0 i1 hw=>?_⟩
   have hp:=row_pos hr i0 i1 (by omega)
   obtain ⟨w1,w2⟩:=wid_at i0 i1 (show (getL d_api_Cell r.fCells i).fW≠0 by omega)
   have k0:=lenL_nn (widL (r.fCells.take i.toNat))
   have q0:=hx.2.at_ _ k0 w2 0 (by omega) (by omega)
   rw [hp,Int.add_zero,Int.add_zero] at q0
   rw [q0]
   have t:=preI_turn (w:=getL 0 (widL r.fCells)) (n:=lenL (widL r.fCells)) (lenL (widL r.fCells)-1-lenL (widL (r.fCells.take i.toNat))).toNat (by omega)
   rw [Int.toNat_of_nonneg (by omega),show lenL (widL r.fCells)-(lenL (widL r.fCells)-1-lenL (widL (r.fCells.take i.toNat)))=lenL (widL (r.fCells.take i.toNat))+1 by omega,preI_succ k0,hp,w1,hN] at t
   rw [t];omega
theorem fixed_yields {r:T_api_Row} (hr:RowP r) (hb:lenL r.fCells≤1000):Yields (view_fixed r) (fun x=>SeenP r x∧PlainP r (if r.fDir=1 then 1 else 0) x):=by
 have h1:=letL_len r.fCells
 have h2:=wid_len r.fCells
 have hn:=lenL_nn (letL r.fCells)
 unfold view_fixed
 refine .call (letters_eq (by omega)) (.chk (mkOk hn (by simp only;omega) (by omega)) (.ite (fun h=>?_) (fun h=>?_)))
 · have h : ¬ r.fDir=1:=by simpa using h
   rw [if_neg h]
   exact .bind _ (lay_plain hr hb (levels:=repL (lenL (letL r.fCells)) 0) 0 rfl (by rw [lenL_rep _ hn,h2]) (.inl rfl) (fun i i0 i1=>getL_rep i0 (by rw [lenL_rep _ hn] at i1;exact i1))) fun x hx=>.ret hx.2
 · have h:r.fDir=1:=by simpa using h
   rw [if_pos h]
   refine .cut (fun o=>∃ q,o = .go q∧lenL q=lenL (letL r.fCells)∧∀ i,0≤i→i < lenL (letL r.fCells)→getL 0 q i=1) ?_ ?_
   · refine .loop (fun x=>0≤x.1∧x.1≤lenL (letL r.fCells)∧lenL x.2=lenL (letL r.fCells)∧∀ i,0≤i→i < x.1→getL 0 x.2 i=1) (fun x=>(lenL (letL r.fCells)-x.1).toNat) ⟨by simp only;omega,hn,lenL_rep _ hn,fun i i0 i1=>by simp only at i1;omega⟩ ?_
     rintro ⟨v,q⟩ ⟨v0,v1,hq,hg⟩
     simp only at v0 v1 hq hg ⊢
     refine .ite (fun h=>?_) (fun h=>?_)
     · have h:v < lenL (letL r.fCells):=by simpa using h
       refine .chk ⟨v0,h⟩ (.chk (inR64 (by omega) (by omega)) (.ret ⟨⟨by simp only;omega,by simp only;omega,by simpa using hq,fun i i0 i1=>?_⟩,by simp only;omega⟩))
       simp only at i1 ⊢
       rw [getL_put v0 i0 (by omega)]
       split
       · rfl
       · exact hg i i0 (by omega)
     · have h : ¬ v < lenL (letL r.fCells):=by simpa using h
       exact .ret ⟨q,rfl,hq,fun i i0 i1=>hg i i0 (by omega)⟩
   · rintro _ ⟨q,rfl,hq,hg⟩
     exact .go (.bind _ (lay_plain hr hb (levels:=q) 1 rfl (by rw [hq,h2]) (.inr rfl) (fun i i0 i1=>hg i i0 (by omega))) fun x hx=>.ret hx.2)
theorem subL_split {α:Type} {l:List α} {a b c:Int} (h0:0≤a) (h1:a≤b) (h2:b≤c):subL l a c=subL l a b++subL l b c:=by
 unfold subL
 have e:(c-a).toNat=(b-a).toNat+(c-b).toNat:=by omega
 rw [e,List.take_add,List.drop_drop,show a.toNat+(b-a).toNat=b.toNat by omega]
theorem subL_one {α:Type} (d:α) {l:List α} {y:Int} (h0:0≤y) (h1:y < lenL l):subL l y (y+1)=[getL d l y]:=by
 unfold subL
 rw [drop_get d h0 h1,show (y+1-y).toNat=1 by omega];rfl
theorem subL_nil {α:Type} {l:List α} {y:Int} : subL l y y=[]:=by
 unfold subL;rw [show (y-y).toNat=0 by omega];rfl
theorem subL_mem {α:Type} {l:List α} {a b:Int} {x:α} (h:x∈subL l a b):x∈l:=List.mem_of_mem_drop (List.mem_of_mem_take h)
section
variable {l:List T_api_Row}
theorem few_mem (hF:FewP l) {r:T_api_Row} (h:r∈l):lenL r.fCells≤100:=by
 obtain ⟨i,i0,i1,rfl⟩:=mem_get d_api_Row h
 exact hF.2 i i0 i1
theorem gat_sub (hF:FewP l) {a b:Int} (h0:0≤a) (h1:a≤b) (h2:b≤lenL l):view_gather (subL l a b)=some (gatL (subL l a b))∧lenL (gatL (subL l a b))≤6000:=by
 have hs:=lenL_sub h0 h1 h2
 have:=hF.1
 refine ⟨gather_eq (by omega) (fun r h=>few_mem hF (subL_mem h)),?_⟩
 have:=gatL_len (l:=subL l a b) (k:=100) (fun r h=>few_mem hF (subL_mem h))
 omega
theorem gat_row {a y b:Int} (h0:0≤a) (h1:a≤y) (h2:y < lenL l) (h3:y < b):gatL (subL l a b)=gatL (subL l a y)++(letL (getL d_api_Row l y).fCells++gatL (subL l (y+1) b)):=by
 rw [subL_split (b:=y) h0 h1 (by omega),gatL_app,subL_split (a:=y) (b:=y+1) (c:=b) (by omega) (by omega) (by omega),gatL_app,subL_one d_api_Row (by omega) h2,gatL_one]
def ReadP (l:List T_api_Row) (from' to:Int) (p:T_view_paragraph):Prop :=
 p.ffrom=from'∧p.fto=to∧lenL p.flevels=lenL (gatL (subL l from' to))∧lenL p.fglyphs=lenL p.flevels∧(p.fbase=0∨p.fbase=1) ∧
  weak_Paragraph dLoad (gatL (subL l from' to)) (getL d_api_Row l from').fDir=some (p.flevels,p.fbase)
theorem read_yields (hF:FewP l) {from' to:Int} (boxes:Bool) (h0:0≤from') (h1:from' < to) (h2:to≤lenL l):Yields (view_read dLoad l from' to boxes) (ReadP l from' to):=by
 obtain ⟨g1,g2⟩:=gat_sub hF h0 (by omega) h2
 unfold view_read
 refine .chk ⟨h0,by omega,h2⟩ (.call g1 (.chk ⟨h0,by omega⟩ ?_))
 obtain ⟨⟨ls,b⟩,hp,hb0,hl⟩:=par_yields (r:=gatL (subL l from' to)) (getL d_api_Row l from').fDir (by omega)
 simp only at hb0 hl
 exact .call hp (.bind _ (glyphs_yields boxes (by omega)) fun g hg=>.ret ⟨rfl,rfl,hl,by simp only;omega,hb0,hp⟩)
theorem see_yields (hF:FewP l) (hR:RowsP l) {y:Int} {p:T_view_paragraph} (h0:0≤p.ffrom) (h1:p.ffrom≤y) (h2:y < lenL l) (hl:lenL (gatL (subL l p.ffrom y))+lenL (letL (getL d_api_Row l y).fCells)≤lenL p.flevels) (hg:lenL p.fglyphs=lenL p.flevels) :
  Yields (view_see dLoad l y p) (fun x=>SeenP (getL d_api_Row l y) x∧x.fBase=p.fbase∧(p.fbase=0→(∀ i,0≤i→i < lenL p.flevels→getL 0 p.flevels i=0)→PlainP (getL d_api_Row l y) 0 x)):=by
 have hr:=hR y (by omega) h2
 have hw:=hF.2 y (by omega) h2
 obtain ⟨g1,g2⟩:=gat_sub hF h0 h1 (show y≤lenL l by omega)
 have n1:=lenL_nn (gatL (subL l p.ffrom y))
 unfold view_see
 refine .chk ⟨h0,h1,by omega⟩ (.call g1 (.chk ⟨by omega,h2⟩ ?_))
 generalize hrr:getL d_api_Row l y=r at *
 have l1:=letL_len r.fCells
 have l2:=wid_len r.fCells
 have n2:=lenL_nn (letL r.fCells)
 have n3:=lenL_nn r.fCells
 refine .call (letters_eq (by omega)) ?_
 simp only
 generalize hS:lenL (gatL (subL l p.ffrom y))=S at *
 have hsub:=lenL_sub (xs:=p.flevels) (l:=S) (h:=S+lenL (letL r.fCells)) n1 (by omega) hl
 obtain ⟨q,hq,q1,q2⟩:=reset_yields (d:=dLoad) (cls:=clsL) class_L (r:=letL r.fCells) (levels:=subL p.flevels S (S+lenL (letL r.fCells))) p.fbase (by rw [hsub];omega) (by omega)
 refine .chk (inR64 (by omega) (by omega)) (.chk ⟨n1,by omega,hl⟩ (.call hq (.chk ⟨by omega,h2⟩ (.chk (mkOk n3 (by omega) (by omega)) (.cut (fun o=>∃ c,o = .go c∧lenL c=lenL r.fCells) ?_ ?_)))))
 · refine .chk ⟨by omega,h2⟩ (.loop (fun x=>x.1=S+lenL (letL (r.fCells.take x.2.1.toNat))∧0≤x.2.1∧x.2.1≤lenL r.fCells∧lenL x.2.2=lenL r.fCells) (fun x=>(lenL r.fCells-x.2.1).toNat) ⟨by show S=S+0;omega,by simp only;omega,n3,lenL_rep _ n3⟩ ?_)
   rintro ⟨n,v,c⟩ ⟨hn,v0,v1,hc⟩
   simp only at hn v0 v1 hc ⊢
   refine .ite (fun h=>?_) (fun _=>.ret ⟨_,rfl,hc⟩)
   have h:v < lenL r.fCells:=by simpa using h
   have nx:=wid_next v0 h
   rw [wid_len,wid_len] at nx
   have n4:=lenL_nn (letL (r.fCells.take v.toNat))
   refine .chk ⟨v0,h⟩ (.ite (fun hz=>?_) (fun hz=>?_))
   · have hz:(getL d_api_Cell r.fCells v).fW≠0:=by simpa using hz
     rw [if_neg hz] at nx
     have wa:=(wid_at v0 h hz).2
     rw [wid_len,wid_len] at wa
     refine .ite (fun _=>.chk ⟨by omega,by omega⟩ ?_) (fun _=>?_) <;>
      exact .chk (inR64 (by omega) (by omega)) (.chk ⟨v0,h⟩ (.chk (inR64 (by omega) (by omega)) (.ret ⟨⟨by simp only;rw [nx];omega,by simp only;omega,by simp only;omega,by simpa using hc⟩,by simp only;omega⟩)))
   · have hz:(getL d_api_Cell r.fCells v).fW=0:=by simpa using hz
     rw [if_pos hz] at nx
     exact .chk ⟨v0,h⟩ (.chk (inR64 (by omega) (by omega)) (.ret ⟨⟨by simp only;rw [nx];omega,by simp only;omega,by simp only;omega,by simpa using hc⟩,by simp only;omega⟩))
 · rintro _ ⟨c,rfl,hc⟩
   refine .go ?_
   have ql:lenL q=lenL (widL r.fCells):=by rw [q1,hsub,l2];omega
   by_cases hz:p.fbase=0∧∀ i,0≤i→i < lenL p.flevels→getL 0 p.flevels i=0
   · refine .bind _ (lay_plain hr (by omega) (levels:=q) p.fbase hc ql (.inl rfl) (fun i i0 i1=>?_)) fun x hx=>.ret ⟨hx.2.1,hx.1,fun _ _=>hx.2.2⟩
     rw [q2 i i0 (by omega)]
     split
     · exact hz.1
     · rw [getL_sub n1 i0 (by omega)]
       exact hz.2 _ (by omega) (by omega)
   · exact .bind _ (lay_seen hr (by omega) (levels:=q) p.fbase hc ql) fun x hx=>.ret ⟨hx.2,hx.1,fun h1 h2=>absurd ⟨h1,h2⟩ hz⟩
theorem chain_rng {y:Int} (h0:0≤y) (h1:y < lenL l):0≤chainUp l 31 y∧chainUp l 31 y≤y∧y < chainDown l 32 (y+1)∧chainDown l 32 (y+1)≤lenL l:=by
 obtain ⟨a1,a2,_⟩:=up_spec l 31 y h0
 obtain ⟨b1,b2,_⟩:=down_spec l 32 (y+1) (by omega)
 omega
theorem Map_no {d:T_ucd_Data} {y:Int} (boxes:Bool) (h:view_sane l=some false∨y < 0∨lenL l≤y):view_Map d l y boxes=some (d_view_Line,false):=by
 refine Yields.eq ?_
 unfold view_Map
 by_cases hc:y < 0∨lenL l≤y
 · have e:(if (decide (y < 0))=true then true else (decide ((lenL l)≤y)))=true:=by
    by_cases q:y < 0
    · simp [q]
    · simp [q];omega
   simp only [e]
   exact .call (b:=false) rfl (.ite (fun _=>.ret rfl) (fun h=>by cases h))
 · have e:(if (decide (y < 0))=true then true else (decide ((lenL l)≤y)))=false:=by simp;omega
   simp only [e]
   exact .call (b:=false) (h.resolve_right hc) (.ite (fun _=>.ret rfl) (fun h=>by cases h))
theorem Map_yes {d:T_ucd_Data} {y:Int} (boxes:Bool) (h:view_sane l=some true) (h0:0≤y) (h1:y < lenL l) (hb:lenL l≤100000):view_Map d l y boxes =
  iteO (getL d_api_Row l y).fExplicit (bindO (view_fixed (getL d_api_Row l y)) fun v=>some (v,true)) (bindO (view_read d l (chainUp l 31 y) (chainDown l 32 (y+1)) boxes) fun p=>bindO (view_see d l y p) fun x=>some (x,true)):=by
 unfold view_Map
 have e:(if (decide (y < 0))=true then true else (decide ((lenL l)≤y)))=false:=by simp;omega
 simp only [e]
 rw [show (if (!false)=true then view_sane l else some false)=some true from h,bindO_eq',show (if false=true then true else !true)=false from rfl,iteO_false,chk_ok ⟨h0,h1⟩,chk_ok ⟨h0,h1⟩,chain_eq h0 h1 hb]
 rfl
theorem map_yields (hF:FewP l) (hR:RowsP l) {y:Int} (boxes:Bool) (h:view_sane l=some true) (h0:0≤y) (h1:y < lenL l) :
  Yields (view_Map dLoad l y boxes) (fun x=>x.2=true∧SeenP (getL d_api_Row l y) x.1 ∧
   ((getL d_api_Row l y).fExplicit=true→PlainP (getL d_api_Row l y) (if (getL d_api_Row l y).fDir=1 then 1 else 0) x.1) ∧
   ((getL d_api_Row l y).fExplicit=false→∃ ls b,weak_Paragraph dLoad (gatL (subL l (chainUp l 31 y) (chainDown l 32 (y+1)))) (getL d_api_Row l (chainUp l 31 y)).fDir=some (ls,b) ∧
    (b=0→(∀ i,0≤i→i < lenL ls→getL 0 ls i=0)→PlainP (getL d_api_Row l y) 0 x.1))):=by
 have hl:=hF.1
 rw [Map_yes boxes h h0 h1 (by omega)]
 have hw:=hF.2 y h0 h1
 refine .ite (fun he=>?_) (fun he=>?_)
 · exact .bind _ (fixed_yields (hR y h0 h1) (by omega)) fun x hx=>.ret ⟨rfl,hx.1,fun _=>hx.2,fun h=>absurd h (by rw [he];decide)⟩
 · obtain ⟨c1,c2,c3,c4⟩:=chain_rng h0 h1
   refine .bind _ (read_yields hF boxes c1 (by omega) c4) fun p hp=>?_
   obtain ⟨p1,p2,p3,p4,p5,p6⟩:=hp
   have hgr:=gat_row (l:=l) c1 c2 h1 c3
   have n5:=lenL_nn (gatL (subL l (y+1) (chainDown l 32 (y+1))))
   refine .bind _ (see_yields hF hR (p:=p) (by omega) (by omega) h1 ?_ p4) fun x hx=>.ret ⟨rfl,hx.1,fun h=>absurd h (by rw [he];decide),fun _=>⟨_,_,p6,hx.2.2⟩⟩
   rw [p3,hgr,p1,lenL_app,lenL_app]
   omega
end
end Go.Vx
