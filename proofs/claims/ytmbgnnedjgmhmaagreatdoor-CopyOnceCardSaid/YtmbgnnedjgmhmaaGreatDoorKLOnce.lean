/- KM, KSel, KLAll, KCp, KCq, KLWord, KSpn, KLCAll, KLOnce in one. No conditions. -/
import Derived.Test.YtmbgnnedjgmhmaaGreatDoorKG
import Derived.Test.YtmbgnnedjgmhmaaGreatDoorKBounds
import Derived.Test.YtmbgnnedjgmhmaaGreatDoorKTwA
set_option linter.all false
section
namespace Go.Vx
set_option maxRecDepth 100000
theorem par_yields {r:List Int} (dir:Int) (hb:Z0 r≤100000):Zd (Qq Xn r dir) (fun v=>(v.2=0∨v.2=1)∧Z0 v.1=Z0 r):=by
 unfold Qq
 refine .bind _ (classes_yields hb) fun l ⟨ll,_⟩=>?_
 refine .cut (fun q=>∃ b,q = .go b∧(b=0∨b=1)) ?_ ?_
 · refine .ite (fun _=>.bind _ (base2_yields (l:=l) (by omega)) fun b hb=>.ret ⟨b,rfl,hb⟩) (fun h=>.ret ⟨dir,rfl,?_⟩)
   by_cases h0:dir=0
   · exact .inl h0
   · by_cases h1:dir=1
     · exact .inr h1
     · simp [h0,h1] at h
 rintro q ⟨b,rfl,hb0⟩
 exact .go (.bind _ (levels_bounds (r:=r) (by omega) (by omega) hb0) fun o ho=>.ret ⟨hb0,by simp only;omega⟩)
section
variable {cells:List Zc}
theorem wid_split {i:Int} (h0:0≤i) (h1:i < Z0 cells) (hw:(Z1 Z2 cells i).fW≠0):Xo cells=Xo (cells.take i.toNat)++([(Z1 Z2 cells i).fW]++Xo (cells.drop (i+1).toNat)):=by
 rw [← widL_one hw,← Z6e,← Z6e,List.singleton_append,← drop_get Z2 h0 h1,List.take_append_drop]
theorem wid_at {i:Int} (h0:0≤i) (h1:i < Z0 cells) (hw:(Z1 Z2 cells i).fW≠0):Z1 0 (Xo cells) (Z0 (Xo (cells.take i.toNat)))=(Z1 Z2 cells i).fW∧Z0 (Xo (cells.take i.toNat)) < Z0 (Xo cells):=by
 have e:=wid_split h0 h1 hw
 have n1:=Zb (Xo (cells.take i.toNat))
 have n2:=Zb (Xo (cells.drop (i+1).toNat))
 generalize hA:Xo (cells.take i.toNat)=A at *
 generalize hB:Xo (cells.drop (i+1).toNat)=B at *
 rw [e,Yc n1,if_neg (by omega),Zh,Zh]
 refine ⟨Xv (by omega),?_⟩
 simp;omega
theorem wid_next {i:Int} (h0:0≤i) (h1:i < Z0 cells):Z0 (Xo (cells.take (i+1).toNat))=Z0 (Xo (cells.take i.toNat))+(if (Z1 Z2 cells i).fW=0 then 0 else 1):=by
 rw [Z49 Z2 h0 h1,Z6e,Zh]
 split
 · rename_i h;rw [widL_one0 h];rfl
 · rename_i h;rw [widL_one h];rfl
theorem mem_get {α:Type} (d:α) {l:List α} {x:α} (h:x∈l) : ∃ i,0≤i∧i < Z0 l∧Z1 d l i=x:=by
 obtain ⟨n,hn,rfl⟩:=List.mem_iff_getElem.1 h
 exact ⟨n,by omega,by simp only [Z0];omega,by simp [Z1,hn]⟩
theorem wid12 (hf : ∀ i,0≤i→i < Z0 cells→FitP (Z1 Z2 cells i)) : ∀ i,0≤i→i < Z0 (Xo cells)→Z1 0 (Xo cells) i=1∨Z1 0 (Xo cells) i=2:=by
 intro i i0 i1
 have hm:=Z6l (0:Int) i0 i1
 obtain ⟨c,hc,e⟩:=List.mem_map.1 hm
 obtain ⟨hc,hw⟩:=List.mem_filter.1 hc
 obtain ⟨j,j0,j1,rfl⟩:=mem_get Z2 hc
 obtain ⟨_,_,h⟩:=hf j j0 j1
 have hw:(Z1 Z2 cells j).fW≠0:=by simpa using hw
 rw [← e]
 omega
theorem pos_eq (hf : ∀ i,0≤i→i < Z0 cells→FitP (Z1 Z2 cells i)) (hp : ∀ i,0≤i→i < Z0 cells→PairP cells i) :
  ∀ i:Nat,(i:Int)≤Z0 cells→Yf (Z1 0 (Xo cells)) (Z0 (Xo (cells.take i)))=i+(if (i:Int) < Z0 cells∧(Z1 Z2 cells i).fW=0 then 1 else 0):=by
 intro i
 induction i with
 | zero =>
  intro _
  rw [if_neg]
  · rfl
  · rintro ⟨h1,h2⟩
    have:=((hp 0 (by omega) h1).1 h2).1
    omega
 | succ i ih =>
  intro hi
  have ih:=ih (by omega)
  have h1:(i:Int) < Z0 cells:=by omega
  have hn:=wid_next (cells:=cells) (i:=i) (by omega) h1
  rw [show ((i:Int)+1).toNat=i+1 by omega,show (i:Int).toNat=i by omega] at hn
  have hP:=hp i (by omega) h1
  have hF:=(hf i (by omega) h1).2.2
  rw [show (((i+1:Nat)):Int)=(i:Int)+1 by omega] at hi ⊢
  have hN:(i:Int)+1 < Z0 cells→(Z1 Z2 cells ((i:Int)+1)).fW=0→(Z1 Z2 cells (i:Int)).fW=2:=fun h2 h3=>by
   have:=((hp (i+1) (by omega) h2).1 h3).2
   rw [show (i:Int)+1-1=i by omega] at this
   exact this
  by_cases hz:(Z1 Z2 cells (i:Int)).fW=0
  · rw [if_pos hz] at hn
    rw [if_pos ⟨h1,hz⟩] at ih
    rw [hn,Int.add_zero,ih,if_neg]
    · omega
    · rintro ⟨h2,h3⟩
      have:=hN h2 h3;omega
  · rw [if_neg hz] at hn
    rw [if_neg (fun h=>hz h.2)] at ih
    obtain ⟨w1,w2⟩:=wid_at (cells:=cells) (i:=i) (by omega) h1 hz
    rw [show (i:Int).toNat=i by omega] at w1 w2
    rw [hn,Xu (Zb _),ih,w1]
    by_cases h2:(Z1 Z2 cells (i:Int)).fW=2
    · have:=hP.2 h2
      rw [if_pos this];omega
    · rw [if_neg (fun h=>h2 (hN h.1 h.2))];omega
end
structure SeenP (r:Z5) (x:Zi):Prop where
 v:Z0 x.fV2L=Z0 r.fCells
 l:Z0 x.fL2V=Z0 r.fCells
 c:Z0 x.fCells=Z0 r.fCells
 vl : ∀ p,0≤p→p < Z0 r.fCells→0≤Z1 0 x.fV2L p∧Z1 0 x.fV2L p < Z0 r.fCells∧Z1 0 x.fL2V (Z1 0 x.fV2L p)=p
 lv : ∀ i,0≤i→i < Z0 r.fCells→0≤Z1 0 x.fL2V i∧Z1 0 x.fL2V i < Z0 r.fCells∧Z1 0 x.fV2L (Z1 0 x.fL2V i)=i
 wide : ∀ i,0≤i→i < Z0 r.fCells→(Z1 Z2 r.fCells i).fW=2→Z1 0 x.fL2V (i+1)=Z1 0 x.fL2V i+1
theorem row_len {r:Z5} (hr:RowP r):Yf (Z1 0 (Xo r.fCells)) (Z0 (Xo r.fCells))=Z0 r.fCells:=by
 have hn:=Zb r.fCells
 have:=pos_eq hr.fit hr.pair (Z0 r.fCells).toNat (by omega)
 rw [Z4a (Int.le_refl _),if_neg (by omega)] at this
 omega
theorem row_pos {r:Z5} (hr:RowP r) {i:Int} (h0:0≤i) (h1:i < Z0 r.fCells) (hw:(Z1 Z2 r.fCells i).fW≠0):Yf (Z1 0 (Xo r.fCells)) (Z0 (Xo (r.fCells.take i.toNat)))=i:=by
 have:=pos_eq hr.fit hr.pair i.toNat (by omega)
 rw [show ((i.toNat:Nat):Int)=i by omega] at this
 rw [if_neg (fun h=>hw h.2)] at this
 omega
theorem seen_of {r:Z5} (hr:RowP r) {f g:Int→Int} {x:Zi} (h:LinP (Z0 (Xo r.fCells)) (Z1 0 (Xo r.fCells)) f g x):SeenP r x:=by
 have hN:=row_len hr
 obtain ⟨a,b,c,d,e,at_⟩:=h
 rw [hN] at a b c d e
 refine ⟨a,b,c,d,e,fun i i0 i1 hw=>?_⟩
 have hp:=row_pos hr i0 i1 (by omega)
 obtain ⟨w1,w2⟩:=wid_at i0 i1 (show (Z1 Z2 r.fCells i).fW≠0 by omega)
 have k0:=Zb (Xo (r.fCells.take i.toNat))
 have q0:=at_ _ k0 w2 0 (by omega) (by omega)
 have q1:=at_ _ k0 w2 1 (by omega) (by omega)
 rw [hp] at q0 q1
 rw [q1,show Z1 0 x.fL2V i=Z1 0 x.fL2V (i+0) by rw [Int.add_zero],q0]
 omega
theorem lay_seen {r:Z5} (hr:RowP r) (hb:Z0 r.fCells≤1000) {cells:List Zc} {levels:List Int} (base:Int) (hc:Z0 cells=Z0 r.fCells) (hl:Z0 levels=Z0 (Xo r.fCells)) :
  Zd (Z32 cells levels (Xo r.fCells) base) (fun x=>x.fBase=base∧SeenP r x):=by
 have h1:=Z58 r.fCells
 have h2:=Z4v r.fCells
 obtain ⟨v,f,g,ev,lv,hf,hg⟩:=visual_perm (levels:=levels) hl (by omega)
 exact (lay_yields hl rfl (by omega) (wid12 hr.fit) ev lv hf hg (by rw [row_len hr,hc])).mono fun x hx=>⟨hx.1,seen_of hr hx.2⟩
theorem preI_turn {w:Int→Int} {n:Int} : ∀ m:Nat,(m:Int)≤n→Yf (fun p=>w (n-1-p)) m=Yf w n-Yf w (n-m)
 | 0,_=>by show 0=Yf w n-Yf w (n-0);rw [Int.sub_zero];omega
 | m+1,h=>by
  have ih:=preI_turn (w:=w) (n:=n) m (by omega)
  rw [show (((m+1:Nat)):Int)=(m:Int)+1 by omega,Xu (by omega),ih]
  have e:Yf w (n-m)=Yf w (n-(m+1))+w (n-(m+1)):=by
   have:=Xu (w:=w) (i:=n-(m+1)) (by omega)
   rw [show n-((m:Int)+1)+1=n-m by omega] at this
   exact this
  rw [show n-1-(m:Int)=n-((m:Int)+1) by omega]
  omega
def PlainP (r:Z5) (l:Int) (x:Zi):Prop:=(l=0→∀ i,0≤i→i < Z0 r.fCells→Z1 0 x.fV2L i=i)∧(l=1→∀ i,0≤i→i < Z0 r.fCells→(Z1 Z2 r.fCells i).fW=1→Z1 0 x.fL2V i=Z0 r.fCells-1-i)
theorem lay_plain {r:Z5} (hr:RowP r) (hb:Z0 r.fCells≤1000) {cells:List Zc} {levels:List Int} (base:Int) (hc:Z0 cells=Z0 r.fCells) (hl:Z0 levels=Z0 (Xo r.fCells))
  {l:Int} (hl0:l=0∨l=1) (hlv : ∀ i,0≤i→i < Z0 levels→Z1 0 levels i=l):Zd (Z32 cells levels (Xo r.fCells) base) (fun x=>x.fBase=base∧SeenP r x∧PlainP r l x):=by
 have h1:=Z58 r.fCells
 have h2:=Z4v r.fCells
 have hn:=Zb (Xo r.fCells)
 have hN:=row_len hr
 obtain ⟨v,ev,lv,hv⟩:=visual_const (a:=levels) (l:=l) hl (by omega) (by omega) (by omega) (fun i i0 i1=>hlv i i0 (by omega))
 have w12:=wid12 hr.fit
 rcases hl0 with rfl | rfl
 · refine (lay_yields (f:=fun p=>p) (g:=fun q=>q) hl rfl (by omega) w12 ev lv (fun p p0 p1=>⟨by rw [hv p p0 p1];rfl,p0,p1,rfl⟩) (fun q q0 q1=>⟨q0,q1,rfl⟩) (by rw [hN,hc])).mono fun x hx=>⟨hx.1,seen_of hr hx.2,fun _ i i0 i1=>?_,fun h=>by omega⟩
   obtain ⟨a,b,c,d⟩:=Z7o (w:=Z1 0 (Xo r.fCells)) (n:=(Z0 (Xo r.fCells)).toNat) (x:=i) i0 (by show i < Yf _ _;rw [hN];exact i1)
   rw [Xu a] at d
   have e:=hx.2.at_ _ a (by omega) (i-Yf (Z1 0 (Xo r.fCells)) (blk (Z1 0 (Xo r.fCells)) (Z0 (Xo r.fCells)).toNat i)) (by omega) (by omega)
   have e':Z1 0 x.fL2V i=i:=by
    rw [show Yf (Z1 0 (Xo r.fCells)) (blk (Z1 0 (Xo r.fCells)) (Z0 (Xo r.fCells)).toNat i)+(i-Yf (Z1 0 (Xo r.fCells)) (blk (Z1 0 (Xo r.fCells)) (Z0 (Xo r.fCells)).toNat i))=i by omega] at e
    exact e
   have:=((seen_of hr hx.2).lv i i0 i1).2.2
   rw [e'] at this
   exact this
 · refine (lay_yields (f:=fun p=>Z0 (Xo r.fCells)-1-p) (g:=fun q=>Z0 (Xo r.fCells)-1-q) hl rfl (by omega) w12 ev lv (fun p p0 p1=>⟨by rw [hv p p0 p1];rfl,by omega,by omega,by omega⟩) (fun q q0 q1=>⟨by omega,by omega,by omega⟩) (by rw [hN,hc])).mono fun x hx=>⟨hx.1,seen_of hr hx.2,fun h=>by omega,fun _ i i0 i1 hw=>?_⟩
   have hp:=row_pos hr i0 i1 (by omega)
   obtain ⟨w1,w2⟩:=wid_at i0 i1 (show (Z1 Z2 r.fCells i).fW≠0 by omega)
   have k0:=Zb (Xo (r.fCells.take i.toNat))
   have q0:=hx.2.at_ _ k0 w2 0 (by omega) (by omega)
   rw [hp,Int.add_zero,Int.add_zero] at q0
   rw [q0]
   have t:=preI_turn (w:=Z1 0 (Xo r.fCells)) (n:=Z0 (Xo r.fCells)) (Z0 (Xo r.fCells)-1-Z0 (Xo (r.fCells.take i.toNat))).toNat (by omega)
   rw [Int.toNat_of_nonneg (by omega),show Z0 (Xo r.fCells)-(Z0 (Xo r.fCells)-1-Z0 (Xo (r.fCells.take i.toNat)))=Z0 (Xo (r.fCells.take i.toNat))+1 by omega,Xu k0,hp,w1,hN] at t
   rw [t];omega
theorem fixed_yields {r:Z5} (hr:RowP r) (hb:Z0 r.fCells≤1000):Zd (Z2g r) (fun x=>SeenP r x∧PlainP r (if r.fDir=1 then 1 else 0) x):=by
 have h1:=Z58 r.fCells
 have h2:=Z4v r.fCells
 have hn:=Zb (Z1i r.fCells)
 unfold Z2g
 refine .call (letters_eq (by omega)) (.chk (mkOk hn (by simp only;omega) (by omega)) (.ite (fun h=>?_) (fun h=>?_)))
 · have h : ¬ r.fDir=1:=by simpa using h
   rw [if_neg h]
   exact .bind _ (lay_plain hr hb (levels:=Z0n (Z0 (Z1i r.fCells)) 0) 0 rfl (by rw [Y0 _ hn,h2]) (.inl rfl) (fun i i0 i1=>Z4l i0 (by rw [Y0 _ hn] at i1;exact i1))) fun x hx=>.ret hx.2
 · have h:r.fDir=1:=by simpa using h
   rw [if_pos h]
   refine .cut (fun o=>∃ q,o = .go q∧Z0 q=Z0 (Z1i r.fCells)∧∀ i,0≤i→i < Z0 (Z1i r.fCells)→Z1 0 q i=1) ?_ ?_
   · refine .loop (fun x=>0≤x.1∧x.1≤Z0 (Z1i r.fCells)∧Z0 x.2=Z0 (Z1i r.fCells)∧∀ i,0≤i→i < x.1→Z1 0 x.2 i=1) (fun x=>(Z0 (Z1i r.fCells)-x.1).toNat) ⟨by simp only;omega,hn,Y0 _ hn,fun i i0 i1=>by simp only at i1;omega⟩ ?_
     rintro ⟨v,q⟩ ⟨v0,v1,hq,hg⟩
     simp only at v0 v1 hq hg ⊢
     refine .ite (fun h=>?_) (fun h=>?_)
     · have h:v < Z0 (Z1i r.fCells):=by simpa using h
       refine .chk ⟨v0,h⟩ (.chk (Zg (by omega) (by omega)) (.ret ⟨⟨by simp only;omega,by simp only;omega,by simpa using hq,fun i i0 i1=>?_⟩,by simp only;omega⟩))
       simp only at i1 ⊢
       rw [Zl v0 i0 (by omega)]
       split
       · rfl
       · exact hg i i0 (by omega)
     · have h : ¬ v < Z0 (Z1i r.fCells):=by simpa using h
       exact .ret ⟨q,rfl,hq,fun i i0 i1=>hg i i0 (by omega)⟩
   · rintro _ ⟨q,rfl,hq,hg⟩
     exact .go (.bind _ (lay_plain hr hb (levels:=q) 1 rfl (by rw [hq,h2]) (.inr rfl) (fun i i0 i1=>hg i i0 (by omega))) fun x hx=>.ret hx.2)
theorem Z75 {α:Type} {l:List α} {a b c:Int} (h0:0≤a) (h1:a≤b) (h2:b≤c):X7 l a c=X7 l a b++X7 l b c:=by
 unfold X7
 have e:(c-a).toNat=(b-a).toNat+(c-b).toNat:=by omega
 rw [e,List.take_add,List.drop_drop,show a.toNat+(b-a).toNat=b.toNat by omega]
theorem subL_one {α:Type} (d:α) {l:List α} {y:Int} (h0:0≤y) (h1:y < Z0 l):X7 l y (y+1)=[Z1 d l y]:=by
 unfold X7
 rw [drop_get d h0 h1,show (y+1-y).toNat=1 by omega];rfl
theorem subL_nil {α:Type} {l:List α} {y:Int} : X7 l y y=[]:=by
 unfold X7;rw [show (y-y).toNat=0 by omega];rfl
theorem subL_mem {α:Type} {l:List α} {a b:Int} {x:α} (h:x∈X7 l a b):x∈l:=List.mem_of_mem_drop (List.mem_of_mem_take h)
section
variable {l:List Z5}
theorem few_mem (hF:FewP l) {r:Z5} (h:r∈l):Z0 r.fCells≤100:=by
 obtain ⟨i,i0,i1,rfl⟩:=mem_get Z3 h
 exact hF.2 i i0 i1
theorem gat_sub (hF:FewP l) {a b:Int} (h0:0≤a) (h1:a≤b) (h2:b≤Z0 l):Z1o (X7 l a b)=some (gatL (X7 l a b))∧Z0 (gatL (X7 l a b))≤6000:=by
 have hs:=Ye h0 h1 h2
 have:=hF.1
 refine ⟨gather_eq (by omega) (fun r h=>few_mem hF (subL_mem h)),?_⟩
 have:=gatL_len (l:=X7 l a b) (k:=100) (fun r h=>few_mem hF (subL_mem h))
 omega
theorem gat_row {a y b:Int} (h0:0≤a) (h1:a≤y) (h2:y < Z0 l) (h3:y < b):gatL (X7 l a b)=gatL (X7 l a y)++(Z1i (Z1 Z3 l y).fCells++gatL (X7 l (y+1) b)):=by
 rw [Z75 (b:=y) h0 h1 (by omega),gatL_app,Z75 (a:=y) (b:=y+1) (c:=b) (by omega) (by omega) (by omega),gatL_app,subL_one Z3 (by omega) h2,gatL_one]
def ReadP (l:List Z5) (from' to:Int) (p:Yh):Prop :=
 p.ffrom=from'∧p.fto=to∧Z0 p.flevels=Z0 (gatL (X7 l from' to))∧Z0 p.fglyphs=Z0 p.flevels∧(p.fbase=0∨p.fbase=1) ∧
  Qq Xn (gatL (X7 l from' to)) (Z1 Z3 l from').fDir=some (p.flevels,p.fbase)
theorem read_yields (hF:FewP l) {from' to:Int} (boxes:Bool) (h0:0≤from') (h1:from' < to) (h2:to≤Z0 l):Zd (Z21 Xn l from' to boxes) (ReadP l from' to):=by
 obtain ⟨g1,g2⟩:=gat_sub hF h0 (by omega) h2
 unfold Z21
 refine .chk ⟨h0,by omega,h2⟩ (.call g1 (.chk ⟨h0,by omega⟩ ?_))
 obtain ⟨⟨ls,b⟩,hp,hb0,hl⟩:=par_yields (r:=gatL (X7 l from' to)) (Z1 Z3 l from').fDir (by omega)
 simp only at hb0 hl
 exact .call hp (.bind _ (glyphs_yields boxes (by omega)) fun g hg=>.ret ⟨rfl,rfl,hl,by simp only;omega,hb0,hp⟩)
theorem see_yields (hF:FewP l) (hR:RowsP l) {y:Int} {p:Yh} (h0:0≤p.ffrom) (h1:p.ffrom≤y) (h2:y < Z0 l) (hl:Z0 (gatL (X7 l p.ffrom y))+Z0 (Z1i (Z1 Z3 l y).fCells)≤Z0 p.flevels) (hg:Z0 p.fglyphs=Z0 p.flevels) :
  Zd (Z5j Xn l y p) (fun x=>SeenP (Z1 Z3 l y) x∧x.fBase=p.fbase∧(p.fbase=0→(∀ i,0≤i→i < Z0 p.flevels→Z1 0 p.flevels i=0)→PlainP (Z1 Z3 l y) 0 x)):=by
 have hr:=hR y (by omega) h2
 have hw:=hF.2 y (by omega) h2
 obtain ⟨g1,g2⟩:=gat_sub hF h0 h1 (show y≤Z0 l by omega)
 have n1:=Zb (gatL (X7 l p.ffrom y))
 unfold Z5j
 refine .chk ⟨h0,h1,by omega⟩ (.call g1 (.chk ⟨by omega,h2⟩ ?_))
 generalize hrr:Z1 Z3 l y=r at *
 have l1:=Z58 r.fCells
 have l2:=Z4v r.fCells
 have n2:=Zb (Z1i r.fCells)
 have n3:=Zb r.fCells
 refine .call (letters_eq (by omega)) ?_
 simp only
 generalize hS:Z0 (gatL (X7 l p.ffrom y))=S at *
 have hsub:=Ye (xs:=p.flevels) (l:=S) (h:=S+Z0 (Z1i r.fCells)) n1 (by omega) hl
 obtain ⟨q,hq,q1,q2⟩:=reset_yields (d:=Xn) (cls:=clsL) class_L (r:=Z1i r.fCells) (levels:=X7 p.flevels S (S+Z0 (Z1i r.fCells))) p.fbase (by rw [hsub];omega) (by omega)
 refine .chk (Zg (by omega) (by omega)) (.chk ⟨n1,by omega,hl⟩ (.call hq (.chk ⟨by omega,h2⟩ (.chk (mkOk n3 (by omega) (by omega)) (.cut (fun o=>∃ c,o = .go c∧Z0 c=Z0 r.fCells) ?_ ?_)))))
 · refine .chk ⟨by omega,h2⟩ (.loop (fun x=>x.1=S+Z0 (Z1i (r.fCells.take x.2.1.toNat))∧0≤x.2.1∧x.2.1≤Z0 r.fCells∧Z0 x.2.2=Z0 r.fCells) (fun x=>(Z0 r.fCells-x.2.1).toNat) ⟨by show S=S+0;omega,by simp only;omega,n3,Y0 _ n3⟩ ?_)
   rintro ⟨n,v,c⟩ ⟨hn,v0,v1,hc⟩
   simp only at hn v0 v1 hc ⊢
   refine .ite (fun h=>?_) (fun _=>.ret ⟨_,rfl,hc⟩)
   have h:v < Z0 r.fCells:=by simpa using h
   have nx:=wid_next v0 h
   rw [Z4v,Z4v] at nx
   have n4:=Zb (Z1i (r.fCells.take v.toNat))
   refine .chk ⟨v0,h⟩ (.ite (fun hz=>?_) (fun hz=>?_))
   · have hz:(Z1 Z2 r.fCells v).fW≠0:=by simpa using hz
     rw [if_neg hz] at nx
     have wa:=(wid_at v0 h hz).2
     rw [Z4v,Z4v] at wa
     refine .ite (fun _=>.chk ⟨by omega,by omega⟩ ?_) (fun _=>?_) <;>
      exact .chk (Zg (by omega) (by omega)) (.chk ⟨v0,h⟩ (.chk (Zg (by omega) (by omega)) (.ret ⟨⟨by simp only;rw [nx];omega,by simp only;omega,by simp only;omega,by simpa using hc⟩,by simp only;omega⟩)))
   · have hz:(Z1 Z2 r.fCells v).fW=0:=by simpa using hz
     rw [if_pos hz] at nx
     exact .chk ⟨v0,h⟩ (.chk (Zg (by omega) (by omega)) (.ret ⟨⟨by simp only;rw [nx];omega,by simp only;omega,by simp only;omega,by simpa using hc⟩,by simp only;omega⟩))
 · rintro _ ⟨c,rfl,hc⟩
   refine .go ?_
   have ql:Z0 q=Z0 (Xo r.fCells):=by rw [q1,hsub,l2];omega
   by_cases hz:p.fbase=0∧∀ i,0≤i→i < Z0 p.flevels→Z1 0 p.flevels i=0
   · refine .bind _ (lay_plain hr (by omega) (levels:=q) p.fbase hc ql (.inl rfl) (fun i i0 i1=>?_)) fun x hx=>.ret ⟨hx.2.1,hx.1,fun _ _=>hx.2.2⟩
     rw [q2 i i0 (by omega)]
     split
     · exact hz.1
     · rw [Z14 n1 i0 (by omega)]
       exact hz.2 _ (by omega) (by omega)
   · exact .bind _ (lay_seen hr (by omega) (levels:=q) p.fbase hc ql) fun x hx=>.ret ⟨hx.2,hx.1,fun h1 h2=>absurd ⟨h1,h2⟩ hz⟩
theorem chain_rng {y:Int} (h0:0≤y) (h1:y < Z0 l):0≤Q0 l 31 y∧Q0 l 31 y≤y∧y < Yw l 32 (y+1)∧Yw l 32 (y+1)≤Z0 l:=by
 obtain ⟨a1,a2,_⟩:=up_spec l 31 y h0
 obtain ⟨b1,b2,_⟩:=down_spec l 32 (y+1) (by omega)
 omega
theorem Map_yes {d:Za} {y:Int} (boxes:Bool) (h:Xg l=some true) (h0:0≤y) (h1:y < Z0 l) (hb:Z0 l≤100000):Z11 d l y boxes =
  Z6 (Z1 Z3 l y).fExplicit (Z7 (Z2g (Z1 Z3 l y)) fun v=>some (v,true)) (Z7 (Z21 d l (Q0 l 31 y) (Yw l 32 (y+1)) boxes) fun p=>Z7 (Z5j d l y p) fun x=>some (x,true)):=by
 unfold Z11
 have e:(if (decide (y < 0))=true then true else (decide ((Z0 l)≤y)))=false:=by simp;omega
 simp only [e]
 rw [show (if (!false)=true then Xg l else some false)=some true from h,Z6d,show (if false=true then true else !true)=false from rfl,Z3o,Yq ⟨h0,h1⟩,Yq ⟨h0,h1⟩,chain_eq h0 h1 hb]
 rfl
theorem map_yields (hF:FewP l) (hR:RowsP l) {y:Int} (boxes:Bool) (h:Xg l=some true) (h0:0≤y) (h1:y < Z0 l) :
  Zd (Z11 Xn l y boxes) (fun x=>x.2=true∧SeenP (Z1 Z3 l y) x.1 ∧
   ((Z1 Z3 l y).fExplicit=true→PlainP (Z1 Z3 l y) (if (Z1 Z3 l y).fDir=1 then 1 else 0) x.1) ∧
   ((Z1 Z3 l y).fExplicit=false→∃ ls b,Qq Xn (gatL (X7 l (Q0 l 31 y) (Yw l 32 (y+1)))) (Z1 Z3 l (Q0 l 31 y)).fDir=some (ls,b) ∧
    (b=0→(∀ i,0≤i→i < Z0 ls→Z1 0 ls i=0)→PlainP (Z1 Z3 l y) 0 x.1))):=by
 have hl:=hF.1
 rw [Map_yes boxes h h0 h1 (by omega)]
 have hw:=hF.2 y h0 h1
 refine .ite (fun he=>?_) (fun he=>?_)
 · exact .bind _ (fixed_yields (hR y h0 h1) (by omega)) fun x hx=>.ret ⟨rfl,hx.1,fun _=>hx.2,fun h=>absurd h (by rw [he];decide)⟩
 · obtain ⟨c1,c2,c3,c4⟩:=chain_rng h0 h1
   refine .bind _ (read_yields hF boxes c1 (by omega) c4) fun p hp=>?_
   obtain ⟨p1,p2,p3,p4,p5,p6⟩:=hp
   have hgr:=gat_row (l:=l) c1 c2 h1 c3
   have n5:=Zb (gatL (X7 l (y+1) (Yw l 32 (y+1))))
   refine .bind _ (see_yields hF hR (p:=p) (by omega) (by omega) h1 ?_ p4) fun x hx=>.ret ⟨rfl,hx.1,fun h=>absurd h (by rw [he];decide),fun _=>⟨_,_,p6,hx.2.2⟩⟩
   rw [p3,hgr,p1,Zh,Zh]
   omega
end
end Go.Vx
end
section
namespace Go.Vx
set_option maxRecDepth 100000
def Z0e (P:Int→Bool):Nat→List Int
 | 0=>[]
 | n+1=>if P n=true then Z0e P n++[(n:Int)] else Z0e P n
theorem Z6h (P:Int→Bool) : ∀ n,Z0 (Z0e P n)≤n
 | 0=>by simp [Z0e]
 | n+1=>by
  have:=Z6h P n
  unfold Z0e
  split
  · simp;omega
  · omega
theorem selL_mem (P:Int→Bool) : ∀ (n:Nat) (x:Int),x∈Z0e P n ↔ 0≤x∧x < n∧P x=true
 | 0,x=>by simp [Z0e];omega
 | n+1,x=>by
  have ih:=selL_mem P n x
  unfold Z0e
  by_cases h:P n=true
  · rw [if_pos h,List.mem_append,ih,List.mem_singleton]
    constructor
    · rintro (⟨a,b,c⟩ | rfl)
      · exact ⟨a,by omega,c⟩
      · exact ⟨by omega,by omega,h⟩
    · rintro ⟨a,b,c⟩
      by_cases e:x=n
      · exact .inr e
      · exact .inl ⟨a,by omega,c⟩
  · rw [if_neg h,ih]
    constructor
    · rintro ⟨a,b,c⟩;exact ⟨a,by omega,c⟩
    · rintro ⟨a,b,c⟩
      refine ⟨a,?_,c⟩
      by_cases e:x=n
      · subst e;exact absurd c h
      · omega
theorem Z8n (P:Int→Bool) : ∀ (n:Nat) (i j:Int),0≤i→i < j→j < Z0 (Z0e P n)→Z1 0 (Z0e P n) i < Z1 0 (Z0e P n) j
 | 0,i,j,_,_,h=>by simp [Z0e] at h;omega
 | n+1,i,j,h0,h1,h2=>by
  have hn:=Zb (Z0e P n)
  unfold Z0e at h2 ⊢
  by_cases h:P n=true
  · rw [if_pos h] at h2 ⊢
    simp only [Zh,Zk,Zm] at h2
    rw [Yc h0,Yc (show 0≤j by omega)]
    by_cases e:j < Z0 (Z0e P n)
    · rw [if_pos (by omega),if_pos e];exact Z8n P n i j h0 h1 e
    · rw [if_pos (by omega),if_neg e,Xv (by omega)]
      exact ((selL_mem P n _).1 (Z6l 0 h0 (by omega))).2.1
  · rw [if_neg h] at h2 ⊢
    exact Z8n P n i j h0 h1 h2
theorem selL_count (P:Int→Bool) : ∀ (n:Nat) (x:Int),(Z0e P n).count x=if 0≤x∧x < n∧P x=true then 1 else 0
 | 0,x=>by rw [if_neg (by omega)];rfl
 | n+1,x=>by
  have ih:=selL_count P n x
  unfold Z0e
  by_cases h:P n=true
  · rw [if_pos h,List.count_append,ih]
    by_cases e:x=n
    · subst e
      rw [if_neg (by omega),if_pos ⟨by omega,by omega,h⟩]
      simp
    · rw [List.count_cons_of_ne (by omega)]
      simp only [List.count_nil,Nat.add_zero]
      congr 1
      exact propext ⟨fun ⟨a,b,c⟩=>⟨a,by omega,c⟩,fun ⟨a,b,c⟩=>⟨a,by omega,c⟩⟩
  · rw [if_neg h,ih]
    congr 1
    refine propext ⟨fun ⟨a,b,c⟩=>⟨a,by omega,c⟩,fun ⟨a,b,c⟩=>⟨a,?_,c⟩⟩
    by_cases e:x=n
    · subst e;exact absurd c h
    · omega
theorem selL_congr {P Q:Int→Bool} : ∀ n:Nat,(∀ x:Int,0≤x→x < n→P x=Q x)→Z0e P n=Z0e Q n
 | 0,_=>rfl
 | n+1,h=>by
  unfold Z0e
  rw [selL_congr n (fun x a b=>h x a (by omega)),h n (by omega) (by omega)]
def txtC (c:Zc):List Int:=[letC c]++(if c.fM.x0=0 then [] else [c.fM.x0])++(if c.fM.x1=0 then [] else [c.fM.x1])
def txtL (cells:List Zc) (l:List Int):List Int:=l.flatMap fun k=>txtC (Z1 Z2 cells k)
def Z1n (cells:List Zc):List Int:=cells.flatMap fun c=>if c.fW=0 then [] else txtC c
theorem txtC_len (c:Zc):1≤Z0 (txtC c)∧Z0 (txtC c)≤3:=by
 unfold txtC
 split<;>split<;>simp
theorem txtL_app (cells:List Zc) (a b:List Int):txtL cells (a++b)=txtL cells a++txtL cells b:=by simp [txtL]
theorem txtL_one (cells:List Zc) (a:Int):txtL cells [a]=txtC (Z1 Z2 cells a):=by simp [txtL]
theorem txtL_len (cells:List Zc) : ∀ l:List Int,Z0 (txtL cells l)≤3*Z0 l
 | []=>by simp [txtL]
 | a :: l=>by
  have:=txtL_len cells l
  have h:=txtC_len (Z1 Z2 cells a)
  rw [show a :: l=[a]++l from rfl,txtL_app,txtL_one,Zh,Zh]
  simp;omega
theorem txt_all {cells:List Zc} : ∀ n:Nat,(n:Int)≤Z0 cells→txtL cells (Z0e (fun i=>!((Z1 Z2 cells i).fW == 0)) n)=Z1n (cells.take n)
 | 0,_=>by simp [Z0e,txtL,Z1n]
 | n+1,h=>by
  have ih:=txt_all (cells:=cells) n (by omega)
  have ht:=Z49 Z2 (l:=cells) (i:=n) (by omega) (by omega)
  rw [show ((n:Int)+1).toNat=n+1 by omega,show (n:Int).toNat=n by omega] at ht
  have e:Z1n (cells.take (n+1))=Z1n (cells.take n)++(if (Z1 Z2 cells n).fW=0 then [] else txtC (Z1 Z2 cells n)):=by
   rw [ht];simp [Z1n]
  rw [e]
  unfold Z0e
  by_cases hw:(Z1 Z2 cells n).fW=0
  · rw [if_neg (by simp [hw]),if_pos hw,List.append_nil,ih]
  · rw [if_pos (by simp [hw]),if_neg hw,txtL_app,txtL_one,ih]
def Z1d (l:List Int):List Int:=(l.reverse.dropWhile (· == 32)).reverse
theorem trimL_nil:Z1d []=[]:=rfl
theorem trimL_32 (a:List Int):Z1d (a++[32])=Z1d a:=by simp [Z1d]
theorem trimL_no {a:List Int} {c:Int} (h:c≠32):Z1d (a++[c])=a++[c]:=by simp [Z1d,h]
theorem snocL {l:List Int} (h:0 < Z0 l):l=X7 l 0 (Z0 l-1)++[Z1 0 l (Z0 l-1)]:=by
 have h1:=Z75 (l:=l) (a:=0) (b:=Z0 l-1) (c:=Z0 l) (by omega) (by omega) (by omega)
 have h2:=subL_one (0:Int) (l:=l) (y:=Z0 l-1) (by omega) (by omega)
 rw [show Z0 l-1+1=Z0 l by omega] at h2
 rw [h2] at h1
 have h3:X7 l 0 (Z0 l)=l:=by simp [X7,Z0]
 rw [h3] at h1
 exact h1
theorem trimL_len (l:List Int):Z0 (Z1d l)≤Z0 l:=by
 simp only [Z1d,Z0,List.length_reverse]
 have:=(List.dropWhile_suffix (· == 32) (l:=l.reverse)).length_le
 simp only [List.length_reverse] at this
 omega
end Go.Vx
end
section
namespace Go.Vx
set_option maxRecDepth 100000
theorem ints_same (a:List Int) (hb:Z0 a≤100000):X9 a a=some true:=by rw [ints_eq (by omega),decide_eq_true rfl]
theorem sane_iff {l:List Z5} (hb:Z0 l≤100000):Zd (Xg l) (fun b=>(b=true→∀ i,0≤i→i < Z0 l→Yx (Z1 Z3 l i)=some true)∧(b=false→∃ i,0≤i∧i < Z0 l∧Yx (Z1 Z3 l i)=some false)):=by
 unfold Xg
 have hn:=Zb l
 refine .cut (fun o=>(o = .go ()∧∀ i,0≤i→i < Z0 l→Yx (Z1 Z3 l i)=some true)∨(o = .out false∧∃ i,0≤i∧i < Z0 l∧Yx (Z1 Z3 l i)=some false)) ?_ ?_
 · refine .loop (fun v=>0≤v∧v≤Z0 l∧∀ i,0≤i→i < v→Yx (Z1 Z3 l i)=some true) (fun v=>(Z0 l-v).toNat) ⟨by omega,by omega,fun i a b=>by omega⟩ ?_
   rintro v ⟨v0,v1,hv⟩
   refine .ite (fun h=>?_) (fun h=>?_)
   · have h:v < Z0 l:=by simpa using h
     obtain ⟨b,hb1,-⟩:=row_yields (Z1 Z3 l v)
     refine .chk ⟨v0,h⟩ (.call hb1 (.ite (fun hc=>.ret (.inr ⟨rfl,v,v0,h,?_⟩)) (fun hc=>.chk (Zg (by omega) (by omega)) (.ret ⟨⟨by omega,by omega,fun i a c=>?_⟩,by show (_-_:Int).toNat < (_-_:Int).toNat;omega⟩))))
     · rw [hb1,show b=false by simpa using hc]
     · by_cases e:i=v
       · subst e;rw [hb1,show b=true by simpa using hc]
       · exact hv i a (by omega)
   · have h : ¬ v < Z0 l:=by simpa using h
     exact .ret (.inl ⟨rfl,fun i a c=>hv i a (by omega)⟩)
 · rintro o (⟨rfl,h⟩ | ⟨rfl,h⟩)
   · exact .go (.ret ⟨fun _=>h,fun h=>by cases h⟩)
   · exact .out ⟨fun h=>(by cases h),fun _=>h⟩
theorem sane_of {l:List Z5} (hb:Z0 l≤100000) (h : ∀ i,0≤i→i < Z0 l→Yx (Z1 Z3 l i)=some true):Xg l=some true:=by
 obtain ⟨b,h1,h2,h3⟩:=sane_iff hb
 cases b with
 | true=>exact h1
 | false =>
  obtain ⟨i,i0,i1,hi⟩:=h3 rfl
  rw [h i i0 i1] at hi;cases hi
theorem sane_at {l:List Z5} (hb:Z0 l≤100000) (h:Xg l=some true) : ∀ i,0≤i→i < Z0 l→Yx (Z1 Z3 l i)=some true:=by
 obtain ⟨b,h1,h2,h3⟩:=sane_iff hb
 rw [h] at h1;cases h1
 exact h2 rfl
theorem bnd_65535 (y:Int):Z0a .i64 y 65535=y % 65536:=bnd_mask y 16 (by omega)
theorem colour_eq (c:Int):Zd (Q6 c) (fun p=>(!(p.1 == 3))=true→Z0w c=some true):=by
 unfold Q6 Z0w
 refine .ite (fun h=>?_) (fun h=>.ite (fun h2=>?_) (fun h2=>.ite (fun h3=>?_) (fun h3=>?_)))
 · have:c=0:=by simpa using h
   subst this
   exact .ret (fun _=>rfl)
 · have h2:1≤c∧c≤256:=by
    by_cases h:1≤c
    · rw [decide_eq_true h] at h2;exact ⟨h,by simpa using h2⟩
    · rw [decide_eq_false h] at h2;cases h2
   refine .chk (Zg (by omega) (by omega)) (.ret (fun _=>?_))
   rw [decide_eq_true (show 0≤c by omega),decide_eq_true (show c≤256 by omega)];rfl
 · have h3:16777216≤c∧c < 33554432:=by
    by_cases h:16777216≤c
    · rw [decide_eq_true h] at h3;exact ⟨h,by simpa using h3⟩
    · rw [decide_eq_false h] at h3;cases h3
   have e1:Int.tdiv c 65536=c / 65536:=Int.tdiv_eq_ediv_of_nonneg (by omega)
   have e2:Int.tdiv c 256=c / 256:=Int.tdiv_eq_ediv_of_nonneg (by omega)
   refine .chk (by decide) (.chk (Zg (by rw [e1];omega) (by rw [e1];omega)) (.chk (by decide) (.chk (by decide) (.chk (Zg (by rw [e2];omega) (by rw [e2];omega)) (.chk (by decide) (.chk (by decide) (.ret (fun _=>?_))))))))
   rw [decide_eq_true (show 16777216≤c by omega),decide_eq_true (show c < 33554432 by omega)]
   cases (if decide (0≤c)=true then decide (c≤256) else false)<;>rfl
 · exact .ret (fun h=>by cases h)
theorem rpen_yields (p:Q1):Zd (Z04 p) (fun b=>b=true→Z4e p=some true):=by
 unfold Z04
 refine .bind _ (colour_eq p.fFg) fun f hf=>.bind _ (colour_eq p.fBg) fun b hb=>.ret (fun h=>?_)
 cases h1:(!(f.1 == 3)) with
 | false=>simp only [h1] at h;cases h
 | true =>
  cases h2:(!(b.1 == 3)) with
  | false=>simp only [h1,h2] at h;cases h
  | true =>
   simp only [h1,h2] at h
   unfold Z4e
   rw [hf h1,Z6d,show (if true=true then Z0w p.fBg else some false)=some true from hb h2,Z6d]
   exact congrArg some h
theorem Z65 (r:Int):Zd (Xl r) (fun b=>b=true→0≤r∧r≤1114111):=by
 unfold Xl
 refine .ret (fun h=>?_)
 by_cases h0:0≤r
 · rw [decide_eq_true h0] at h;exact ⟨h0,by simpa using h⟩
 · rw [decide_eq_false h0] at h;cases h
theorem one_yields (c:Zc):Zd (Z0j c) (fun b=>b=true→Z26 c=some true):=by
 unfold Z0j
 refine .bind (fun b=>b=true→(0≤c.fW∧c.fW≤2)∧0≤c.fR∧c.fR≤1114111) ?_ fun a ha=>.bind (fun b=>b=true→a=true∧0≤c.fM.x0∧c.fM.x0≤1114111) ?_ fun b hb=>.bind (fun e=>e=true→b=true∧0≤c.fM.x1∧c.fM.x1≤1114111) ?_ fun e he=>.bind (fun f=>f=true→e=true∧Z4e c.fPen=some true) ?_ fun f hf=>.ite (fun _=>.ret (fun h=>by cases h)) (fun h=>.ret (fun h2=>?_))
 · refine anyO (fun h=>(Z65 _).mono fun z hz h2=>⟨?_,hz h2⟩) (fun _=>.ret (fun h=>by cases h))
   by_cases h1:c.fW < 0
   · simp [h1] at h
   · by_cases h2:2 < c.fW
     · simp [h2] at h
     · omega
 · refine anyO (fun h=>(Z65 _).mono fun z hz h2=>⟨?_,hz h2⟩) (fun _=>.ret (fun h=>by cases h))
   cases a
   · simp at h
   · rfl
 · refine anyO (fun h=>(Z65 _).mono fun z hz h2=>⟨?_,hz h2⟩) (fun _=>.ret (fun h=>by cases h))
   cases b
   · simp at h
   · rfl
 · refine anyO (fun h=>(rpen_yields _).mono fun z hz h2=>⟨?_,hz h2⟩) (fun _=>.ret (fun h=>by cases h))
   cases e
   · simp at h
   · rfl
 · have hf1:f=true:=by
    cases f
    · simp at h
    · rfl
   obtain ⟨e1,hpen⟩:=hf hf1
   obtain ⟨b1,m1,m1'⟩:=he e1
   obtain ⟨a1,m0,m0'⟩:=hb b1
   obtain ⟨⟨w0,w2⟩,r0,r1⟩:=ha a1
   have q:(¬ c.fM.x0=0∨c.fM.x1=0)∧(¬ c.fR=0∨c.fM.x0=0)∧(¬ c.fW=0∨c.fR=0)∧(¬ c.fW=2∨¬ c.fR=0):=by
    refine ⟨?_,?_,?_,?_⟩
    · by_cases z:c.fM.x0=0
      · by_cases z1:c.fM.x1=0
        · exact .inr z1
        · simp [z,z1] at h2
      · exact .inl z
    · by_cases z:c.fM.x0=0
      · exact .inr z
      · by_cases z1:c.fR=0
        · simp [z,z1] at h2
        · exact .inl z1
    · by_cases z:c.fW=0
      · by_cases z1:c.fR=0
        · exact .inr z1
        · simp [z,z1] at h2
      · exact .inl z
    · by_cases z:c.fW=2
      · by_cases z1:c.fR=0
        · simp [z,z1] at h2
        · exact .inr z1
      · exact .inl z
   obtain ⟨q1,q2,q3,q4⟩:=q
   have bad : ∀ m:Int,0≤m→m≤1114111→(¬ m=0→¬ c.fR=0)→(if (if (decide (m < 0))=true then true else (decide (1114111 < m)))=true then true else (if (!(m == 0))=true then (c.fR == 0) else false))=false:=by
    intro m h0 h1 h
    rw [decide_eq_false (by omega),decide_eq_false (by omega)]
    by_cases hm:m=0
    · simp [hm]
    · simp [hm,h hm]
   unfold Z26
   refine Zd.eq (.cut (fun o=>o = .go ()) (.cut (fun o=>o = .go ()) ?_ (fun o ho=>?_)) (fun o ho=>?_))
   · exact .ite (fun hh=>absurd hh (by rw [bad _ m0 m0' (by omega)];decide)) (fun _=>.chk (Zg (by omega) (by omega)) (.ret rfl))
   · subst ho
     refine .go (.cut (fun o=>o = .go ()) ?_ (fun o ho=>by subst ho;exact .go (.ret rfl)))
     exact .ite (fun hh=>absurd hh (by rw [bad _ m1 m1' (by omega)];decide)) (fun _=>.chk (Zg (by omega) (by omega)) (.ret rfl))
   · subst ho
     refine .go ?_
     have e1:(if (if (decide (c.fR < 0))=true then true else (decide (1114111 < c.fR)))=true then true else (if (c.fM.x0 == 0)=true then (!(c.fM.x1 == 0)) else false))=false:=by
      rw [decide_eq_false (by omega),decide_eq_false (by omega)]
      by_cases z:c.fM.x0=0
      · have:c.fM.x1=0:=by omega
        simp [z,this]
      · simp [z]
     rw [e1]
     refine .call (b:=true) hpen (.ite (fun h=>by cases h) (fun _=>.ite (fun h=>.ret ?_) (fun h=>.ite (fun _=>.ret rfl) (fun hh=>.ite (fun h4=>.ret ?_) (fun h4=>?_)))))
     · have h:c.fW=0:=by simpa using h
       have:c.fR=0:=by omega
       simp [this]
     · have h4:c.fW=2:=by simpa using h4
       have : ¬ c.fR=0:=by omega
       simp [this]
     · exfalso
       have h : ¬ c.fW=0:=by simpa using h
       have hh : ¬ c.fW=1:=by simpa using hh
       have h4 : ¬ c.fW=2:=by simpa using h4
       omega
theorem cells_W {a b:List Zc} (hb:Z0 a≤100000):Zd (Qr a b) (fun r=>r=true→∀ i,0≤i→i < Z0 a→(Z1 Z2 a i).fW=(Z1 Z2 b i).fW):=by
 have hn:=Zb a
 unfold Qr
 refine .ite (fun _=>.ret (fun h=>by cases h)) (fun hl=>?_)
 have hl:Z0 a=Z0 b:=by simpa using hl
 refine .cut (fun r=>r = .out false∨(r = .go ()∧∀ i,0≤i→i < Z0 a→(Z1 Z2 a i).fW=(Z1 Z2 b i).fW)) ?_ ?_
 · refine .loop (fun i=>0≤i∧i≤Z0 a∧∀ k,0≤k→k < i→(Z1 Z2 a k).fW=(Z1 Z2 b k).fW) (fun i=>(Z0 a-i).toNat) ⟨by omega,by omega,fun k k0 k1=>by omega⟩ ?_
   rintro i ⟨i0,i1,ig⟩
   refine .ite (fun h=>?_) (fun h=>?_)
   · have h:i < Z0 a:=by simpa using h
     refine .chk ⟨i0,h⟩ (.chk ⟨i0,by omega⟩ (.ite (fun hh=>.ret (.inl rfl)) (fun hh=>.chk (Zg (by omega) (by omega)) (.ret ⟨⟨by omega,by omega,fun k k0 k1=>?_⟩,by simp only;omega⟩))))
     by_cases e:k=i
     · subst e
       simp only [Bool.not_eq_false',Bool.and_eq_true,beq_iff_eq] at hh
       exact hh.2.2.2.1
     · exact ig k k0 (by omega)
   · have h:Z0 a≤i:=by simpa using h
     exact .ret (.inr ⟨rfl,fun k k0 k1=>ig k k0 (by omega)⟩)
 · rintro o (rfl | ⟨rfl,h⟩)
   · exact .out (fun h=>by cases h)
   · exact .go (.ret fun _=>h)
theorem mend_yields {r:Z5} (hb:Z0 r.fCells≤100000):Zd (Z05 r) (fun m=>Z0 m.fCells=Z0 r.fCells∧((∀ i,0≤i→i < Z0 r.fCells→PairP r.fCells i)∨∃ i,0≤i∧i < Z0 r.fCells∧(Z1 Z2 m.fCells i).fW≠(Z1 Z2 r.fCells i).fW)):=by
 have hn:=Zb r.fCells
 unfold Z05
 refine .chk (Z2j hn (by omega) (by omega)) (.cut (fun o=>∃ q,o = .go q∧Z0 q=Z0 r.fCells∧((∀ i,0≤i→i < Z0 r.fCells→PairP r.fCells i)∨∃ i,0≤i∧i < Z0 r.fCells∧(Z1 Z2 q i).fW≠(Z1 Z2 r.fCells i).fW)) ?_ ?_)
 · refine .loop (fun x=>0≤x.1∧x.1≤Z0 r.fCells∧Z0 x.2=Z0 r.fCells∧((x.2=r.fCells∧∀ i,0≤i→i < x.1→PairP r.fCells i)∨∃ i,0≤i∧i < x.1∧(Z1 Z2 x.2 i).fW≠(Z1 Z2 r.fCells i).fW)) (fun x=>(Z0 r.fCells-x.1).toNat) ⟨by simp only;omega,hn,rfl,.inl ⟨rfl,fun i i0 i1=>by simp only at i1;omega⟩⟩ ?_
   rintro ⟨v,q⟩ ⟨v0,v1,hq,hg⟩
   simp only at v0 v1 hq hg ⊢
   refine .ite (fun h=>?_) (fun h=>?_)
   · have h:v < Z0 r.fCells:=by simpa using h
     have e0 : ∀ x:Int,0+x=x:=fun x=>by omega
     simp only [e0]
     generalize hc1:(if ((Z1 Z2 q v).fW == 2)=true then (if (decide ((Z0 r.fCells)≤(v+1)))=true then true else (!((Z1 Z2 q (v+1)).fW == 0))) else false)=c1
     refine .chk ⟨v0,h⟩ (.chk (fun _=>Zg (by omega) (by omega)) (.chk (fun _=>Zg (by omega) (by omega)) (.chk (fun hh=>?_) (.chk (fun _=>⟨v0,h⟩) (.chk (fun _=>Zg (by omega) (by omega)) (.chk (fun hh=>?_) (.ite (fun hh=>?_) (fun hh=>?_))))))))
     · simp only [Bool.and_eq_true,Bool.not_eq_true',decide_eq_false_iff_not] at hh
       omega
     · simp only [Bool.and_eq_true,Bool.not_eq_true',beq_eq_false_iff_ne] at hh
       have h0 : ¬ v=0:=hh.2.2
       omega
     · refine .chk ⟨v0,h⟩ (.call (b:=Zc.mk 0 Zy 1 (Z1 Z2 q v).fPen) rfl (.chk ⟨v0,h⟩ (.chk (Zg (by omega) (by omega)) (.ret ⟨⟨by simp only;omega,by simp only;omega,by simpa using hq,.inr ?_⟩,by simp only;omega⟩))))
       rcases hg with ⟨rfl,hg⟩ | ⟨i,i0,i1,hi⟩
       · refine ⟨v,v0,by simp only;omega,?_⟩
         simp only
         rw [Zl v0 v0 h,if_pos rfl]
         intro h1
         have h1:(Z1 Z2 r.fCells v).fW=1:=h1.symm
         rw [← hc1] at hh
         simp [h1] at hh
       · refine ⟨i,i0,by simp only;omega,?_⟩
         simp only
         rw [Zl v0 i0 (by omega),if_neg (by omega)]
         exact hi
     · refine .chk (Zg (by omega) (by omega)) (.ret ⟨⟨by simp only;omega,by simp only;omega,hq,?_⟩,by simp only;omega⟩)
       rcases hg with ⟨rfl,hg⟩ | ⟨i,i0,i1,hi⟩
       · refine .inl ⟨rfl,fun i i0 i1=>?_⟩
         simp only at i1
         by_cases e:i=v
         · subst e
           cases c1 with
           | true=>cases hh
           | false =>
            refine ⟨fun hz=>?_,fun hz=>?_⟩
            · by_cases z:i=0
              · simp [z] at hh
                exact absurd (z ▸ hz) hh
              · by_cases z2:(Z1 Z2 r.fCells (i-1)).fW=2
                · exact ⟨by omega,z2⟩
                · simp [hz,z2] at hh
            · by_cases z:Z0 r.fCells≤i+1
              · simp [hz,z] at hc1
              · by_cases z2:(Z1 Z2 r.fCells (i+1)).fW=0
                · exact ⟨by omega,z2⟩
                · simp [hz,z2] at hc1
         · exact hg i i0 (by omega)
       · exact .inr ⟨i,i0,by simp only;omega,hi⟩
   · have h : ¬ v < Z0 r.fCells:=by simpa using h
     refine .ret ⟨q,rfl,hq,?_⟩
     rcases hg with ⟨-,hg⟩ | ⟨i,i0,i1,hi⟩
     · exact .inl fun i i0 i1=>hg i i0 (by omega)
     · exact .inr ⟨i,i0,by omega,hi⟩
 · rintro _ ⟨q,rfl,hq,hg⟩
   exact .go (.call (b:=Z5.mk q r.fWrap r.fDir r.fExplicit) rfl (.ret ⟨hq,hg⟩))
theorem rowSane_of {r:Z5} (h0:1≤Z0 r.fCells) (h1:Z0 r.fCells≤4096) (h2:0≤r.fDir) (h3:r.fDir≤2) (hf : ∀ i,0≤i→i < Z0 r.fCells→Z26 (Z1 Z2 r.fCells i)=some true)
  (hp : ∀ i,0≤i→i < Z0 r.fCells→PairP r.fCells i):Yx r=some true:=by
 refine Zd.eq ?_
 unfold Yx
 rw [decide_eq_false (show ¬ Z0 r.fCells < 1 by omega),decide_eq_false (show ¬ 4096 < Z0 r.fCells by omega),decide_eq_false (show ¬ r.fDir < 0 by omega),decide_eq_false (show ¬ 2 < r.fDir by omega)]
 refine .ite (fun h=>by cases h) (fun _=>.cut (fun o=>o = .go ()) ?_ (fun o ho=>by subst ho;exact .go (.ret rfl)))
 refine .loop (fun v=>0≤v∧v≤Z0 r.fCells) (fun v=>(Z0 r.fCells-v).toNat) ⟨by omega,by omega⟩ ?_
 rintro v ⟨v0,v1⟩
 refine .ite (fun h=>?_) (fun _=>.ret rfl)
 have h:v < Z0 r.fCells:=by simpa using h
 have P:=hp v v0 h
 have hl:Z5d r.fCells v=some false:=by
  refine Zd.eq ?_
  unfold Z5d
  refine .chk ⟨v0,h⟩ (.ite (fun hw=>?_) (fun hw=>.ite (fun hw2=>?_) (fun hw2=>.ret rfl)))
  · have hw:(Z1 Z2 r.fCells v).fW=0:=by simpa using hw
    obtain ⟨a,b⟩:=P.1 hw
    refine .chk (fun _=>Zg (by omega) (by omega)) (.chk (fun _=>⟨by omega,by omega⟩) (.ret ?_))
    have : ¬ v=0:=by omega
    simp [this,b]
  · have hw:(Z1 Z2 r.fCells v).fW=2:=by simpa using hw2
    obtain ⟨a,b⟩:=P.2 hw
    refine .chk (Zg (by omega) (by omega)) (.chk (fun _=>Zg (by omega) (by omega)) (.chk (fun _=>⟨by omega,a⟩) (.ret ?_)))
    have : ¬ v+1=Z0 r.fCells:=by omega
    simp [this,b]
 exact .chk ⟨v0,h⟩ (.call (hf v v0 h) (.call (b:=false) hl (.ite (fun h=>by cases h) (fun _=>.chk (Zg (by omega) (by omega)) (.ret ⟨⟨by omega,by omega⟩,by simp only;omega⟩)))))
theorem rsane_yields {r:Z5} (hb:Z0 r.fCells≤100000):Zd (Z06 r) (fun b=>b=true→Yx r=some true):=by
 have hn:=Zb r.fCells
 unfold Z06
 refine .cut (fun o=>o = .out false∨(o = .go ()∧∀ i,0≤i→i < Z0 r.fCells→Z26 (Z1 Z2 r.fCells i)=some true)) ?_ ?_
 · refine .loop (fun v=>0≤v∧v≤Z0 r.fCells∧∀ i,0≤i→i < v→Z26 (Z1 Z2 r.fCells i)=some true) (fun v=>(Z0 r.fCells-v).toNat) ⟨by omega,hn,fun i i0 i1=>by omega⟩ ?_
   rintro v ⟨v0,v1,hv⟩
   refine .ite (fun h=>?_) (fun h=>?_)
   · have h:v < Z0 r.fCells:=by simpa using h
     refine .chk ⟨v0,h⟩ (.bind _ (one_yields _) fun b hb=>.ite (fun _=>.ret (.inl rfl)) (fun hc=>.chk (Zg (by omega) (by omega)) (.ret ⟨⟨by omega,by omega,fun i i0 i1=>?_⟩,by simp only;omega⟩)))
     by_cases e:i=v
     · subst e;exact hb (by simpa using hc)
     · exact hv i i0 (by omega)
   · have h : ¬ v < Z0 r.fCells:=by simpa using h
     exact .ret (.inr ⟨rfl,fun i i0 i1=>hv i i0 (by omega)⟩)
 · rintro o (rfl | ⟨rfl,hf⟩)
   · exact .out (fun h=>by cases h)
   refine .go ?_
   generalize hc:(if (if (if (decide (1≤(Z0 r.fCells)))=true then (decide ((Z0 r.fCells)≤4096)) else false)=true then (decide (0≤r.fDir)) else false)=true then (decide (r.fDir≤2)) else false)=c
   refine .bind (fun m=>c=true→Z0 m.fCells=Z0 r.fCells∧((∀ i,0≤i→i < Z0 r.fCells→PairP r.fCells i)∨∃ i,0≤i∧i < Z0 r.fCells∧(Z1 Z2 m.fCells i).fW≠(Z1 Z2 r.fCells i).fW)) (anyO (fun _=>(mend_yields hb).mono fun m h _=>h) (fun h=>.ret (fun h'=>by rw [h] at h';cases h'))) fun m hm=>?_
   refine .bind (fun s=>c=true→s=true→∀ i,0≤i→i < Z0 m.fCells→(Z1 Z2 m.fCells i).fW=(Z1 Z2 r.fCells i).fW) (anyO (fun hc=>?_) (fun h=>.ret (fun h'=>by rw [h] at h';cases h'))) fun s hs=>.ret (fun h=>?_)
   · unfold Z1g
     refine .bind _ (cells_W (by have:=(hm hc).1;omega)) fun b hb=>.ret (fun _ h=>hb ?_)
     cases b
     · simp at h
     · rfl
   · cases c with
     | false=>cases h
     | true =>
      obtain ⟨m1,m2⟩:=hm rfl
      have hs:=hs rfl (by simpa using h)
      have hg:1≤Z0 r.fCells∧Z0 r.fCells≤4096∧0≤r.fDir∧r.fDir≤2:=by
       by_cases z1:1≤Z0 r.fCells
       · by_cases z2:Z0 r.fCells≤4096
         · by_cases z3:0≤r.fDir
           · by_cases z4:r.fDir≤2
             · exact ⟨z1,z2,z3,z4⟩
             · rw [decide_eq_true z1,decide_eq_true z2,decide_eq_true z3,decide_eq_false z4] at hc;cases hc
           · rw [decide_eq_true z1,decide_eq_true z2,decide_eq_false z3] at hc;cases hc
         · rw [decide_eq_true z1,decide_eq_false z2] at hc;cases hc
       · rw [decide_eq_false z1] at hc;cases hc
      refine rowSane_of hg.1 hg.2.1 hg.2.2.1 hg.2.2.2 hf ?_
      rcases m2 with h | ⟨i,i0,i1,hi⟩
      · exact h
      · exact absurd (hs i i0 (by omega)) hi
theorem gsane_yields {l:List Z5} (hF:FewP l):Zd (Xm ⟨l⟩) (fun b=>b=true→Xg l=some true∧1≤Z0 l∧∀ i,0≤i→i < Z0 l→Z0 (Z1 Z3 l i).fCells=Z0 (Z1 Z3 l 0).fCells):=by
 have hn:=Zb l
 have hl:=hF.1
 unfold Xm
 refine .cut (fun o=>o = .out false∨(o = .go ()∧∀ i,0≤i→i < Z0 l→Yx (Z1 Z3 l i)=some true∧Z0 (Z1 Z3 l i).fCells=Z0 (Z1 Z3 l 0).fCells)) ?_ ?_
 · refine .loop (fun v=>0≤v∧v≤Z0 l∧∀ i,0≤i→i < v→Yx (Z1 Z3 l i)=some true∧Z0 (Z1 Z3 l i).fCells=Z0 (Z1 Z3 l 0).fCells) (fun v=>(Z0 l-v).toNat) ⟨by omega,hn,fun i i0 i1=>by omega⟩ ?_
   rintro v ⟨v0,v1,hv⟩
   refine .ite (fun h=>?_) (fun h=>?_)
   · have h:v < Z0 l:=by simpa using h
     refine .chk ⟨v0,h⟩ (.bind _ (rsane_yields (r:=Z1 Z3 l v) (by have:=hF.2 v v0 h;omega)) fun b hb=>.chk (fun _=>⟨v0,h⟩) (.chk (fun _=>⟨by omega,by simp only;omega⟩) (.ite (fun _=>.ret (.inl rfl)) (fun hc=>.chk (Zg (by omega) (by omega)) (.ret ⟨⟨by omega,by omega,fun i i0 i1=>?_⟩,by simp only;omega⟩)))))
     by_cases e:i=v
     · subst e
       cases b with
       | false=>simp at hc
       | true=>exact ⟨hb rfl,by simpa using hc⟩
     · exact hv i i0 (by omega)
   · have h : ¬ v < Z0 l:=by simpa using h
     exact .ret (.inr ⟨rfl,fun i i0 i1=>hv i i0 (by omega)⟩)
 · rintro o (rfl | ⟨rfl,h⟩)
   · exact .out (fun h=>by cases h)
   · refine .go (.ret (fun h2=>⟨sane_of (by omega) (fun i i0 i1=>(h i i0 i1).1),?_,fun i i0 i1=>(h i i0 i1).2⟩))
     by_cases z:1≤Z0 l
     · exact z
     · rw [decide_eq_false z] at h2;cases h2
theorem all_yields {l:List Z5} (hF:FewP l) (hs:Xg l=some true) (hR:RowsP l) (boxes:Bool):Zd (Z5k Xn l boxes) (fun o=>Z0 o=Z0 l∧∀ y,0≤y→y < Z0 l→Z11 Xn l y boxes=some (Z1 Yj o y,true)):=by
 have hn:=Zb l
 have hl:=hF.1
 unfold Z5k
 refine .call hs (.ite (fun h=>by cases h) (fun _=>.chk (mkOk hn (by omega) (by omega)) (.cut (fun q=>∃ o,q = .go o∧Z0 o=Z0 l∧∀ y,0≤y→y < Z0 l→Z11 Xn l y boxes=some (Z1 Yj o y,true)) ?_ ?_)))
 · refine .loop (fun (v,o,a,b,c,d,e)=>0≤v∧v≤Z0 l∧Z0 o=Z0 l∧(∀ y,0≤y→y < v→Z11 Xn l y boxes=some (Z1 Yj o y,true))∧((a=0∧b=0)∨Z21 Xn l a b boxes=some ⟨a,b,c,d,e⟩)) (fun x=>(Z0 l-x.1).toNat)
    ⟨by omega,hn,Y0 _ hn,fun y y0 y1=>by omega,.inl ⟨rfl,rfl⟩⟩ ?_
   rintro ⟨v,o,a,b,c,d,e⟩ ⟨v0,v1,ho,hg,hr⟩
   simp only at v0 v1 ho hg hr ⊢
   refine .ite (fun h=>?_) (fun h=>?_)
   · have h:v < Z0 l:=by simpa using h
     have hw:=hF.2 v v0 h
     have hM:=Map_yes (d:=Xn) boxes hs v0 h (by omega)
     refine .cut (fun q=>∃ x a b c d e,q = .go (Ya o v x,a,b,c,d,e)∧Z11 Xn l v boxes=some (x,true)∧((a=0∧b=0)∨Z21 Xn l a b boxes=some ⟨a,b,c,d,e⟩)) ?_ ?_
     · refine .chk ⟨v0,h⟩ (.ite (fun he=>?_) (fun he=>?_))
       · obtain ⟨x,hx,-⟩:=fixed_yields (hR v v0 h) (by omega)
         refine .call hx (.chk ⟨v0,h⟩ (.ret ⟨x,a,b,c,d,e,rfl,?_,hr⟩))
         rw [hM,he,Z8l,hx];rfl
       · obtain ⟨c1,c2,c3,c4⟩:=chain_rng v0 h
         obtain ⟨p,hp,pp⟩:=read_yields hF boxes c1 (show Q0 l 31 v < Yw l 32 (v+1) by omega) c4
         obtain ⟨p1,p2,p3,p4,p5,p6⟩:=pp
         have hgr:=gat_row (l:=l) c1 c2 h c3
         have n5:=Zb (gatL (X7 l (v+1) (Yw l 32 (v+1))))
         obtain ⟨x,hx,-⟩:=see_yields hF hR (y:=v) (p:=p) (by omega) (by omega) h (by rw [p3,hgr,p1,Zh,Zh];omega) p4
         have hMx:Z11 Xn l v boxes=some (x,true):=by rw [hM,he,Z3o,hp,Z6d,hx];rfl
         obtain ⟨pf,pt,pl,pg,pb⟩:=p
         simp only at p1 p2
         subst p1 p2
         refine .cut (fun q=>q = .go (Q0 l 31 v,Yw l 32 (v+1),pl,pg,pb)) ?_ ?_
         · refine .call (chain_eq v0 h (by omega)) ?_
           simp only
           refine .ite (fun _=>.call hp (.ret rfl)) (fun hc=>.ret ?_)
           have hc:Q0 l 31 v=a∧Yw l 32 (v+1)=b:=by
            by_cases z1:Q0 l 31 v=a
            · by_cases z2:Yw l 32 (v+1)=b
              · exact ⟨z1,z2⟩
              · simp [z2] at hc
            · simp [z1] at hc
           obtain ⟨e1,e2⟩:=hc
           rcases hr with ⟨h1,h2⟩ | hr
           · omega
           · rw [e1,e2,hr] at hp
             cases hp
             rw [e1,e2]
         · rintro _ rfl
           exact .go (.call hx (.chk ⟨v0,h⟩ (.ret ⟨x,_,_,_,_,_,rfl,hMx,.inr hp⟩)))
     · rintro _ ⟨x,a,b,c,d,e,rfl,hx,hr⟩
       refine .go (.chk (Zg (by omega) (by omega)) (.ret ⟨⟨by simp only;omega,by simp only;omega,by simpa using ho,fun y y0 y1=>?_,hr⟩,by simp only;omega⟩))
       simp only at y1
       rw [Zl v0 y0 (by omega)]
       by_cases z:y=v
       · subst z;rw [if_pos rfl];exact hx
       · rw [if_neg z];exact hg y y0 (by omega)
   · have h : ¬ v < Z0 l:=by simpa using h
     exact .ret ⟨o,rfl,ho,fun y y0 y1=>hg y y0 (by omega)⟩
 · rintro _ ⟨o,rfl,h1,h2⟩
   exact .go (.ret ⟨h1,h2⟩)
end Go.Vx
end
section
namespace Go.Vx
set_option maxRecDepth 100000
theorem fit_yes {x:Zi} {r:Z5} (hr:RowP r) (hs:Yx r=some true) (hx:SeenP r x) (hb:Z0 r.fCells≤1000):Z6j x r=some (x.fL2V,true):=by
 have hn:=hr.pos
 have hi:Z03 x.fV2L=some (x.fL2V,true):=by
  rw [invert_eq (g:=Z1 0 x.fL2V) hx.v (by omega) hx.vl hx.lv,mkL_eq hx.l (by omega) (fun _ _ _=>rfl)]
 refine Zd.eq ?_
 unfold Z6j
 have e:(!((Z0 x.fV2L) == (Z0 r.fCells)))=false:=by simp [hx.v]
 simp only [e]
 exact .call (b:=true) hs (.ite (fun h=>by cases h) (fun _=>.call hi (.ret rfl)))
def CellQ (cells:List Zc) (g:List Int) (a b i:Int):Prop:=∃ j,i≤j∧j < i+(Z1 Z2 cells i).fW∧a≤Z1 0 g j∧Z1 0 g j < b
noncomputable def cellP (cells:List Zc) (g:List Int) (a b i:Int):Bool:=@decide (CellQ cells g a b i) (Classical.propDecidable _)
theorem Qn {cells:List Zc} {g:List Int} {a b i:Int} : cellP cells g a b i=true ↔ CellQ cells g a b i:=by
 unfold cellP;exact @decide_eq_true_iff _ (Classical.propDecidable _)
theorem selL_succ (P:Int→Bool) {v:Int} (h:0≤v):Z0e P (v+1).toNat=if P v=true then Z0e P v.toNat++[v] else Z0e P v.toNat:=by
 rw [show (v+1).toNat=v.toNat+1 by omega]
 conv=>lhs;unfold Z0e
 rw [show ((v.toNat:Nat):Int)=v by omega]
theorem cells_eq {x:Zi} {r:Z5} (hr:RowP r) (hs:Yx r=some true) (hx:SeenP r x) (hb:Z0 r.fCells≤1000) (a b:Int) :
  Z1q x r a b=some (Z0e (cellP r.fCells x.fL2V a b) (Z0 r.fCells).toNat):=by
 have hn:=hr.pos
 refine Zd.eq ?_
 unfold Z1q
 refine .call (fit_yes hr hs hx hb) (.ite (fun h=>by cases h) (fun _=>?_))
 refine .cut (fun o=>o = .go (Z0e (cellP r.fCells x.fL2V a b) (Z0 r.fCells).toNat)) ?_ (fun o ho=>by subst ho;exact .go (.ret rfl))
 refine .loop (fun (v,o)=>0≤v∧v≤Z0 r.fCells∧o=Z0e (cellP r.fCells x.fL2V a b) v.toNat) (fun (v,_)=>(Z0 r.fCells-v).toNat) ⟨by omega,by omega,rfl⟩ ?_
 rintro ⟨v,o⟩ ⟨v0,v1,ho⟩
 simp only at v0 v1 ho ⊢
 subst ho
 refine .ite (fun h=>?_) (fun h=>?_)
 · have h:v < Z0 r.fCells:=by simpa using h
   have F:=(hr.fit v v0 h).2.2
   have PP:=(hr.pair v v0 h).2
   have hl:=Z6h (cellP r.fCells x.fL2V a b) v.toNat
   have hl0:=Zb (Z0e (cellP r.fCells x.fL2V a b) v.toNat)
   refine .cut (fun o=>o = .go (Z0e (cellP r.fCells x.fL2V a b) (v+1).toNat)) (.chk ⟨v0,h⟩ ?_) (fun o ho=>by
    subst ho
    exact .go (.chk (Zg (by omega) (by omega)) (.ret ⟨⟨by simp only;omega,by simp only;omega,rfl⟩,by simp only;omega⟩)))
   rw [selL_succ _ v0]
   refine .loop (fun j=>v≤j∧j≤v+(Z1 Z2 r.fCells v).fW∧∀ k,v≤k→k < j→¬ (a≤Z1 0 x.fL2V k∧Z1 0 x.fL2V k < b)) (fun j=>(v+(Z1 Z2 r.fCells v).fW-j).toNat) ⟨by omega,by omega,fun k k0 k1=>by omega⟩ ?_
   rintro j ⟨j0,j1,hj⟩
   refine .chk (Zg (by omega) (by omega)) (.ite (fun hlt=>?_) (fun hge=>.ret ?_))
   · have hlt:j < v+(Z1 Z2 r.fCells v).fW:=by simpa using hlt
     have hjn:j < Z0 x.fL2V:=by
      rw [hx.l]
      by_cases e:(Z1 Z2 r.fCells v).fW=2
      · have:=(PP e).1;omega
      · omega
     have e2 : ∀ z:Bool,(if (decide (a≤(Z1 0 x.fL2V j)))=true then (decide ((Z1 0 x.fL2V j) < b)) else false)=z→(z=true ↔ (a≤Z1 0 x.fL2V j∧Z1 0 x.fL2V j < b)):=by
      intro z hz
      subst hz
      by_cases h1:a≤Z1 0 x.fL2V j
      · simp [h1]
      · simp [h1]
     refine .chk ⟨by omega,hjn⟩ (.chk (fun _=>⟨by omega,hjn⟩) (.ite (fun hin=>.chk (Z2j (by omega) (by omega) (by omega)) (.ret ?_)) (fun hin=>.chk (Zg (by omega) (by omega)) (.ret ⟨⟨by omega,by omega,fun k k0 k1=>?_⟩,by simp only;omega⟩))))
     · have hin:=(e2 _ hin).1 rfl
       show _=_
       rw [if_pos (Qn.2 ⟨j,j0,hlt,hin⟩)]
     · by_cases e:k=j
       · subst e
         have:=e2 _ hin
         intro hh
         exact absurd (this.2 hh) (by decide)
       · exact hj k k0 (by omega)
   · have hge : ¬ j < v+(Z1 Z2 r.fCells v).fW:=by simpa using hge
     show _=_
     rw [if_neg (fun hc=>?_)]
     obtain ⟨k,k0,k1,k2⟩:=Qn.1 hc
     exact hj k k0 (by omega) k2
 · have h : ¬ v < Z0 r.fCells:=by simpa using h
   have:v=Z0 r.fCells:=by omega
   subst this
   exact .ret rfl
theorem mark_step {γ:Type} {l:List Int} {m c:Int} {Q:Fl (List Int) γ→Prop} (hl:Z0 l≤900000) (hc:inR .i64 c) (hq:Q (.go (l++(if m=0 then [] else [m])))) :
  Zd (Z6 (!(m == 0)) (chk (Yl 8 ((Z0 l)+1)) <| chk (inR .i64 c) <| some (.go (l++([m]:List Int)))) (chk (inR .i64 c) <| some (.go l))) Q:=by
 have hn:=Zb l
 refine .ite (fun h=>?_) (fun h=>?_)
 · have h : ¬ m=0:=by simpa using h
   rw [if_neg h] at hq
   exact .chk (Z2j (by omega) (by omega) (by omega)) (.chk hc (.ret hq))
 · have h:m=0:=by simpa using h
   rw [if_pos h,List.append_nil] at hq
   exact .chk hc (.ret hq)
theorem text_eq {r:Z5} {l:List Int} (hs:Yx r=some true) (hb:Z0 l≤10000) (hl : ∀ i,0≤i→i < Z0 l→0≤Z1 0 l i∧Z1 0 l i < Z0 r.fCells∧(Z1 Z2 r.fCells (Z1 0 l i)).fW≠0) :
  Z2r r l=some (txtL r.fCells l):=by
 have hn:=Zb l
 refine Zd.eq ?_
 unfold Z2r
 refine .call (b:=true) hs (.ite (fun h=>by cases h) (fun _=>?_))
 refine .cut (fun o=>o = .go (txtL r.fCells l)) ?_ (fun o ho=>by subst ho;exact .go (.ret rfl))
 refine .loop (fun (v,o)=>0≤v∧v≤Z0 l∧o=txtL r.fCells (l.take v.toNat)) (fun (v,_)=>(Z0 l-v).toNat) ⟨by omega,by omega,rfl⟩ ?_
 rintro ⟨v,o⟩ ⟨v0,v1,ho⟩
 simp only at v0 v1 ho ⊢
 refine .ite (fun h=>?_) (fun h=>?_)
 · have h:v < Z0 l:=by simpa using h
   obtain ⟨a0,a1,a2⟩:=hl v v0 h
   have e1:(if (decide ((Z1 0 l v) < 0))=true then true else (decide ((Z0 r.fCells)≤(Z1 0 l v))))=false:=by
    rw [decide_eq_false (by omega),decide_eq_false (by omega)];rfl
   have e2:((Z1 Z2 r.fCells (Z1 0 l v)).fW == 0)=false:=by simpa using a2
   have hlen:=txtL_len r.fCells (l.take v.toNat)
   have htl:Z0 (l.take v.toNat)≤Z0 l:=by simp only [Z0,List.length_take];omega
   rw [← ho] at hlen
   have ho0:=Zb o
   refine .cut (fun q=>q = .go (txtL r.fCells (l.take (v+1).toNat))) (.chk ⟨v0,h⟩ ?_) (fun q hq=>by
    subst hq
    exact .go (.chk (Zg (by omega) (by omega)) (.ret ⟨⟨by simp only;omega,by simp only;omega,rfl⟩,by simp only;omega⟩)))
   refine .chk (fun _=>⟨a0,a1⟩) ?_
   simp only [e1,e2]
   refine .ite (fun h=>by cases h) (fun _=>.chk ⟨a0,a1⟩ ?_)
   refine .cut (fun q=>q = .go (letC (Z1 Z2 r.fCells (Z1 0 l v)))) (.ite (fun h=>.ret ?_) (fun h=>.ret ?_)) (fun q hq=>?_)
   · have h:(Z1 Z2 r.fCells (Z1 0 l v)).fR=0:=by simpa using h
     unfold letC;rw [if_pos h]
   · have h : ¬ (Z1 Z2 r.fCells (Z1 0 l v)).fR=0:=by simpa using h
     unfold letC;rw [if_neg h]
   subst hq
   refine .go (.chk (Z2j (by omega) (by omega) (by omega)) (.cut (fun q=>q = .go ((o++[letC (Z1 Z2 r.fCells (Z1 0 l v))])++(if (Z1 Z2 r.fCells (Z1 0 l v)).fM.x0=0 then [] else [(Z1 Z2 r.fCells (Z1 0 l v)).fM.x0]))) ?_ (fun q hq=>?_)))
   · refine .ite (fun h=>?_) (fun h=>?_)
     · have h : ¬ (Z1 Z2 r.fCells (Z1 0 l v)).fM.x0=0:=by simpa using h
       rw [if_neg h]
       exact .chk (Z2j (by omega) (by omega) (by omega)) (.chk (Zg (by omega) (by omega)) (.ret rfl))
     · have h:(Z1 Z2 r.fCells (Z1 0 l v)).fM.x0=0:=by simpa using h
       rw [if_pos h,List.append_nil]
       exact .chk (Zg (by omega) (by omega)) (.ret rfl)
   subst hq
   refine .go (.cut (fun q=>q = .go (txtL r.fCells (l.take (v+1).toNat))) (mark_step ?_ (Zg (by omega) (by omega)) ?_) (fun q hq=>by subst hq;exact .go (.ret rfl)))
   · have:Z0 (if (Z1 Z2 r.fCells (Z1 0 l v)).fM.x0=0 then [] else [(Z1 Z2 r.fCells (Z1 0 l v)).fM.x0])≤1:=by split<;>simp
     simp only [Zh,Zk,Zm]
     omega
   · rw [Z49 0 v0 h,txtL_app,txtL_one,ho]
     simp only [txtC,List.append_assoc]
 · have h : ¬ v < Z0 l:=by simpa using h
   refine .ret ?_
   show Fl.go o=Fl.go _
   rw [ho,Z4a (by omega)]
theorem trim_eq (l:List Int) (hb:Z0 l≤100000):Z6k l=some (Z1d l):=by
 have hn:=Zb l
 refine Zd.eq ?_
 unfold Z6k
 refine .cut (fun o=>o = .go (Z1d l)) ?_ (fun o ho=>by subst ho;exact .go (.ret rfl))
 refine .loop (fun a=>Z1d a=Z1d l∧Z0 a≤Z0 l) (fun a=>(Z0 a).toNat) ⟨rfl,by omega⟩ ?_
 rintro a ⟨ha,hal⟩
 have h0:=Zb a
 refine .chk (fun _=>Zg (by omega) (by omega)) (.chk (fun h=>?_) (.ite (fun h=>?_) (fun h=>.ret ?_)))
 · have:0 < Z0 a:=by simpa using h
   exact ⟨by omega,by omega⟩
 · by_cases hp:0 < Z0 a
   · rw [decide_eq_true hp] at h
     have h:Z1 0 a (Z0 a-1)=32:=by simpa using h
     have hs:=snocL hp
     rw [h] at hs
     have hl2:Z0 (X7 a 0 (Z0 a-1))=Z0 a-1:=by
      have:=congrArg Z0 hs
      rw [Zh] at this
      simp only [Zk,Zm] at this
      omega
     refine .chk (Zg (by omega) (by omega)) (.chk ⟨by omega,by omega,by omega⟩ (.ret ⟨⟨?_,by omega⟩,by simp only;omega⟩))
     rw [← ha]
     conv=>rhs;rw [hs]
     rw [trimL_32]
   · rw [decide_eq_false hp] at h;cases h
 · show Fl.go a=Fl.go (Z1d l)
   rw [← ha]
   by_cases hp:0 < Z0 a
   · rw [decide_eq_true hp] at h
     have h:Z1 0 a (Z0 a-1)≠32:=by simpa using h
     have hs:=snocL hp
     have e:=trimL_no (a:=X7 a 0 (Z0 a-1)) h
     rw [← hs] at e
     rw [e]
   · have:a=[]:=by
      cases a with
      | nil=>rfl
      | cons x a=>simp at hp;have:=Zb a;omega
     subst this
     rfl
theorem sheet_add_eq (s:Yi) (l:List Int) (h:Z0 s.fl+Z0 l≤s.fmost) (hb:s.fmost≤1000000):Z53 s l=some ⟨s.fl++l,s.fmost⟩:=by
 have hn:=Zb l
 have hn2:=Zb s.fl
 refine Zd.eq ?_
 unfold Z53
 refine .loop (fun (v,o)=>0≤v∧v≤Z0 l∧o=s.fl++l.take v.toNat) (fun (v,_)=>(Z0 l-v).toNat) ⟨by omega,by omega,by simp⟩ ?_
 rintro ⟨v,o⟩ ⟨v0,v1,ho⟩
 simp only at v0 v1 ho ⊢
 refine .ite (fun hv=>?_) (fun hv=>?_)
 · have hv:v < Z0 l:=by simpa using hv
   have hlo:Z0 o=Z0 s.fl+v:=by
    rw [ho,Zh]
    simp only [Z0,List.length_take] at hv ⊢
    omega
   refine .chk ⟨v0,hv⟩ (.ite (fun hh=>?_) (fun _=>.chk (Z2j (by omega) (by omega) (by omega)) (.chk (Zg (by omega) (by omega)) (.ret ⟨⟨by simp only;omega,by simp only;omega,?_⟩,by simp only;omega⟩))))
   · have:s.fmost≤Z0 o:=by simpa using hh
     omega
   · simp only
     rw [Z49 0 v0 hv,ho,List.append_assoc]
 · have hv : ¬ v < Z0 l:=by simpa using hv
   refine .ret ?_
   show Yi.mk o s.fmost=_
   rw [ho,Z4a (by omega)]
end Go.Vx
end
section
namespace Go.Vx
set_option maxRecDepth 100000
theorem inR_i64 {x:Int} : inR .i64 x ↔ -9223372036854775808≤x∧x≤9223372036854775807:=by
 have e1:IntKind.min .i64 = -9223372036854775808:=by decide
 have e2:IntKind.max .i64=9223372036854775807:=by decide
 unfold inR
 rw [e1,e2]
theorem inR64' {x:Int} (h0 : -9223372036854775808≤x) (h1:x≤9223372036854775807):inR .i64 x:=inR_i64.2 ⟨h0,h1⟩
theorem subL_all {α:Type} (l:List α):X7 l 0 (Z0 l)=l:=by simp [X7,Z0]
theorem rowL_len (cells:List Zc):Z0 (Z1n cells)≤3*Z0 cells:=by
 induction cells with
 | nil=>simp [Z1n]
 | cons c l ih =>
  have h:=txtC_len c
  have e:Z1n (c :: l)=(if c.fW=0 then [] else txtC c)++Z1n l:=by simp [Z1n]
  rw [e,Zh,Zk]
  have:Z0 (if c.fW=0 then [] else txtC c)≤3:=by
   split
   · simp
   · omega
  omega
theorem Z95 {r:Z5} (hs:Yx r=some true) (hb:Z0 r.fCells≤1000):Z2s r 0 (Z0 r.fCells)=some (Z1n r.fCells):=by
 have hn:=Zb r.fCells
 have hbt:Z4k r 0 (Z0 r.fCells)=some (0,Z0 r.fCells):=by
  unfold Z4k Yv Yu
  simp only
  congr 1
  refine Prod.ext ?_ ?_<;>simp only<;>repeat' split
  all_goals omega
 refine Zd.eq ?_
 unfold Z2s
 refine .call (b:=true) hs (.ite (fun h=>by cases h) (fun _=>.call hbt ?_))
 simp only [subL_all]
 refine .cut (fun o=>o = .go (Z1n r.fCells)) (.chk ⟨by omega,by omega,by omega⟩ ?_) (fun o ho=>by subst ho;exact .go (.ret rfl))
 refine .loop (fun (v,o)=>0≤v∧v≤Z0 r.fCells∧o=Z1n (r.fCells.take v.toNat)) (fun (v,_)=>(Z0 r.fCells-v).toNat) ⟨by omega,by omega,rfl⟩ ?_
 rintro ⟨v,o⟩ ⟨v0,v1,ho⟩
 simp only at v0 v1 ho ⊢
 refine .ite (fun h=>?_) (fun h=>?_)
 · have h:v < Z0 r.fCells:=by simp at h;omega
   have hlen:=rowL_len (r.fCells.take v.toNat)
   have htl:Z0 (r.fCells.take v.toNat)≤Z0 r.fCells:=by simp only [Z0,List.length_take];omega
   rw [← ho] at hlen
   have ho0:=Zb o
   have hst:Z1n (r.fCells.take (v+1).toNat)=o++(if (Z1 Z2 r.fCells v).fW=0 then [] else txtC (Z1 Z2 r.fCells v)):=by
    rw [Z49 Z2 v0 h,ho];simp [Z1n]
   refine .cut (fun q=>q = .go (Z1n (r.fCells.take (v+1).toNat))) (.chk ⟨v0,h⟩ ?_) (fun q hq=>by
    subst hq
    exact .go (.chk (Zg (by omega) (by omega)) (.ret ⟨⟨by simp only;omega,by simp only;omega,rfl⟩,by simp only;omega⟩)))
   rw [hst]
   by_cases hw:(Z1 Z2 r.fCells v).fW=0
   · rw [if_pos hw,List.append_nil]
     refine .cut (fun q=>q = .out (.go o)) (.ite (fun _=>.ret rfl) (fun h=>absurd hw (by simpa using h))) (fun q hq=>by subst hq;exact .out rfl)
   · rw [if_neg hw]
     refine .cut (fun q=>q = .go (o++[letC (Z1 Z2 r.fCells v)])) (.ite (fun h=>absurd (by simpa using h) hw) (fun _=>.ite (fun h=>.chk (Z2j (by omega) (by omega) (by omega)) (.ret ?_)) (fun h=>.chk (Z2j (by omega) (by omega) (by omega)) (.ret ?_)))) (fun q hq=>?_)
     · have h:(Z1 Z2 r.fCells v).fR=0:=by simpa using h
       unfold letC;rw [if_pos h]
     · have h : ¬ (Z1 Z2 r.fCells v).fR=0:=by simpa using h
       unfold letC;rw [if_neg h]
     subst hq
     have q1:Z0 (if (Z1 Z2 r.fCells v).fM.x0=0 then [] else [(Z1 Z2 r.fCells v).fM.x0])≤1:=by split<;>simp
     refine .go (.cut (fun q=>q = .go ((o++[letC (Z1 Z2 r.fCells v)])++(if (Z1 Z2 r.fCells v).fM.x0=0 then [] else [(Z1 Z2 r.fCells v).fM.x0]))) (mark_step ?_ (Zg (by omega) (by omega)) rfl) (fun q hq=>?_))
     · simp only [Zh,Zk,Zm];omega
     subst hq
     refine .go (.cut (fun q=>q = .go (o++txtC (Z1 Z2 r.fCells v))) (mark_step ?_ (Zg (by omega) (by omega)) ?_) (fun q hq=>by subst hq;exact .go (.ret rfl)))
     · simp only [Zh,Zk,Zm];omega
     · simp only [txtC,List.append_assoc]
 · have h : ¬ v < Z0 r.fCells:=by simp at h;omega
   refine .ret ?_
   show Fl.go o=Fl.go _
   rw [ho,Z4a (by omega)]
noncomputable def seenL (x:Zi) (r:Z5) (a b:Int):List Int:=txtL r.fCells (Z0e (cellP r.fCells x.fL2V a b) (Z0 r.fCells).toNat)
theorem seenL_len (x:Zi) (r:Z5) (a b:Int):Z0 (seenL x r a b)≤3*Z0 r.fCells:=by
 have h1:=txtL_len r.fCells (Z0e (cellP r.fCells x.fL2V a b) (Z0 r.fCells).toNat)
 have h2:=Z6h (cellP r.fCells x.fL2V a b) (Z0 r.fCells).toNat
 have h3:=Zb r.fCells
 unfold seenL
 omega
theorem cell_mem {cells:List Zc} {g:List Int} {a b:Int} {n:Nat} {i:Int} (h0:0≤i) (h1:i < Z0 (Z0e (cellP cells g a b) n)) :
  0≤Z1 0 (Z0e (cellP cells g a b) n) i∧Z1 0 (Z0e (cellP cells g a b) n) i < n∧(Z1 Z2 cells (Z1 0 (Z0e (cellP cells g a b) n) i)).fW≠0:=by
 obtain ⟨p1,p2,p3⟩:=(selL_mem _ n _).1 (Z6l 0 h0 h1)
 refine ⟨p1,p2,fun h=>?_⟩
 obtain ⟨j,j0,j1,-⟩:=Qn.1 p3
 omega
theorem seen_eq {x:Zi} {r:Z5} (hs:Yx r=some true) (hb:Z0 r.fCells≤1000) (a b:Int):Z2r r (Z0e (cellP r.fCells x.fL2V a b) (Z0 r.fCells).toNat)=some (seenL x r a b):=by
 have h2:=Z6h (cellP r.fCells x.fL2V a b) (Z0 r.fCells).toNat
 have h3:=Zb r.fCells
 refine text_eq hs (by omega) (fun i i0 i1=>?_)
 obtain ⟨p1,p2,p3⟩:=cell_mem i0 i1
 exact ⟨p1,by omega,p3⟩
theorem trimL_or (w:Bool) (l:List Int):Z0 (if w=true then l else Z1d l)≤Z0 l:=by
 have:=trimL_len l
 split<;>omega
def catL (f:Int→List Int) (a:Int):Nat→List Int
 | 0=>[]
 | n+1=>catL f a n++f (a+n)
theorem catL_congr {f g:Int→List Int} {a:Int} : ∀ n:Nat,(∀ y,a≤y→y < a+n→f y=g y)→catL f a n=catL g a n
 | 0,_=>rfl
 | n+1,h=>by
  unfold catL
  rw [catL_congr n (fun y h0 h1=>h y h0 (by omega)),h (a+n) (by omega) (by omega)]
structure RowsSeen (rows:List Z5) (l:List Zi):Prop where
 few:FewP rows
 len:Z0 l=Z0 rows
 row : ∀ y,0≤y→y < Z0 rows→RowP (Z1 Z3 rows y)∧Yx (Z1 Z3 rows y)=some true∧SeenP (Z1 Z3 rows y) (Z1 Yj l y)
noncomputable def Z5v (rows:List Z5) (l:List Zi) (a b:Zu) (y:Int):List Int :=
 (if (Z1 Z3 rows y).fWrap=true then seenL (Z1 Yj l y) (Z1 Z3 rows y) (if y=a.fY then a.fX else 0) (if y=b.fY then Yu b.fX 4096+1 else Z0 (Z1 Z3 rows y).fCells)
  else Z1d (seenL (Z1 Yj l y) (Z1 Z3 rows y) (if y=a.fY then a.fX else 0) (if y=b.fY then Yu b.fX 4096+1 else Z0 (Z1 Z3 rows y).fCells))) ++
 (if y < b.fY∧¬ (Z1 Z3 rows y).fWrap=true then [10] else [])
theorem spanR_len {rows:List Z5} {l:List Zi} {a b:Zu} {y:Int} (hb:Z0 (Z1 Z3 rows y).fCells≤100):Z0 (Z5v rows l a b y)≤301:=by
 have h1:=seenL_len (Z1 Yj l y) (Z1 Z3 rows y) (if y=a.fY then a.fX else 0) (if y=b.fY then Yu b.fX 4096+1 else Z0 (Z1 Z3 rows y).fCells)
 have h2:=trimL_or (Z1 Z3 rows y).fWrap (seenL (Z1 Yj l y) (Z1 Z3 rows y) (if y=a.fY then a.fX else 0) (if y=b.fY then Yu b.fX 4096+1 else Z0 (Z1 Z3 rows y).fCells))
 have h3:Z0 (if y < b.fY∧¬ (Z1 Z3 rows y).fWrap=true then [(10:Int)] else [])≤1:=by split<;>simp
 unfold Z5v
 rw [Zh]
 omega
theorem catL_span {rows:List Z5} {l:List Zi} (hS:RowsSeen rows l) {f:Int→List Int} {k:Int} (hk:0≤k) (hf : ∀ y,0≤y→y < Z0 rows→Z0 (f y)≤k) {a:Int} (a0:0≤a) : ∀ n:Nat,a+n≤Z0 rows→Z0 (catL f a n)≤k*n
 | 0,_=>by simp [catL]
 | n+1,h=>by
  have:=catL_span hS hk hf a0 n (by omega)
  have h2:=hf (a+n) (by omega) (by omega)
  unfold catL
  rw [Zh,show k*((n+1:Nat):Int)=k*n+k by push_cast;rw [Int.mul_add,Int.mul_one]]
  omega
theorem span1_eq {rows:List Z5} {l:List Zi} (hS:RowsSeen rows l) {a b:Zu} {most:Int} (a0:0≤a.fY) (ab:a.fY≤b.fY) (b1:b.fY < Z0 rows) (hx:inR .i64 b.fX) (m0:20000≤most) (m1:most≤1000000) :
  Z4j ⟨[],most⟩ a b rows l=some ⟨catL (Z5v rows l a b) a.fY (b.fY+1-a.fY).toNat,most⟩:=by
 have hl:=hS.few.1
 have hbe:Z4i b.fX=some (Yu b.fX 4096+1):=by
  unfold Z4i
  refine Yq ?_
  have hb : -9223372036854775808≤b.fX:=(inR_i64.1 hx).1
  exact inR64' (by unfold Yu;split<;>omega) (by unfold Yu;split<;>omega)
 refine Zd.eq ?_
 unfold Z4j
 refine .loop (fun (y,m,o)=>a.fY≤y∧y≤b.fY+1∧m=most∧o=catL (Z5v rows l a b) a.fY (y-a.fY).toNat) (fun (y,_,_)=>(b.fY+1-y).toNat) ⟨by omega,by omega,rfl,by rw [Int.sub_self];rfl⟩ ?_
 rintro ⟨y,m,o⟩ ⟨y0,y1,hm,ho⟩
 simp only at y0 y1 hm ho ⊢
 subst hm
 refine .ite (fun h=>?_) (fun h=>?_)
 · have h:y≤b.fY:=by simpa using h
   have yr:y < Z0 rows:=by omega
   obtain ⟨hr,hs,hv⟩:=hS.row y (by omega) yr
   have hw:=hS.few.2 y (by omega) yr
   have hlo:=catL_span hS (show (0:Int)≤301 by omega) (f:=Z5v rows l a b) (fun z z0 z1=>spanR_len (hS.few.2 z z0 z1)) a0 (y-a.fY).toNat (by omega)
   rw [← ho] at hlo
   have h60:((y-a.fY).toNat:Int)≤59:=by omega
   have hsl:=seenL_len (Z1 Yj l y) (Z1 Z3 rows y) (if y=a.fY then a.fX else 0) (if y=b.fY then Yu b.fX 4096+1 else Z0 (Z1 Z3 rows y).fCells)
   have hst:catL (Z5v rows l a b) a.fY (y+1-a.fY).toNat=o++Z5v rows l a b y:=by
    rw [show (y+1-a.fY).toNat=(y-a.fY).toNat+1 by omega]
    conv=>lhs;unfold catL
    rw [← ho,show a.fY+((y-a.fY).toNat:Int)=y by omega]
   refine .cut (fun q=>q = .go (m,o++Z5v rows l a b y)) (.chk ⟨by omega,yr⟩ (.cut (fun q=>q = .go (if y=a.fY then a.fX else 0)) (.ite (fun h=>.ret ?_) (fun h=>.ret ?_)) (fun q hq=>?_))) (fun q hq=>by
    subst hq
    exact .go (.chk (Zg (by omega) (by omega)) (.ret ⟨⟨by simp only;omega,by simp only;omega,rfl,by simp only;rw [hst]⟩,by simp only;omega⟩)))
   · have h:y=a.fY:=by simpa using h
     rw [if_pos h]
   · have h : ¬ y=a.fY:=by simpa using h
     rw [if_neg h]
   subst hq
   refine .go (.cut (fun q=>q = .go (if y=b.fY then Yu b.fX 4096+1 else Z0 (Z1 Z3 rows y).fCells)) (.ite (fun h=>.call hbe (.ret ?_)) (fun h=>.ret ?_)) (fun q hq=>?_))
   · have h:y=b.fY:=by simpa using h
     rw [if_pos h]
   · have h : ¬ y=b.fY:=by simpa using h
     rw [if_neg h]
   subst hq
   refine .go (.chk ⟨by omega,yr⟩ (.chk ⟨by omega,by rw [hS.len];exact yr⟩ (.chk ⟨by omega,yr⟩ (.call (cells_eq hr hs hv (by omega) _ _) (.call (seen_eq hs (by omega) _ _) ?_)))))
   generalize hT:seenL (Z1 Yj l y) (Z1 Z3 rows y) (if y=a.fY then a.fX else 0) (if y=b.fY then Yu b.fX 4096+1 else Z0 (Z1 Z3 rows y).fCells)=T at hsl ⊢
   have hR:Z5v rows l a b y=(if (Z1 Z3 rows y).fWrap=true then T else Z1d T)++(if y < b.fY∧¬ (Z1 Z3 rows y).fWrap=true then [10] else []):=by
    unfold Z5v;rw [hT]
   have htl:=trimL_or (Z1 Z3 rows y).fWrap T
   refine .cut (fun q=>q = .go (if (Z1 Z3 rows y).fWrap=true then T else Z1d T)) (.chk ⟨by omega,yr⟩ (.ite (fun h=>.call (trim_eq T (by omega)) (.ret ?_)) (fun h=>.ret ?_))) (fun q hq=>?_)
   · have h : ¬ (Z1 Z3 rows y).fWrap=true:=by simpa using h
     rw [if_neg h]
   · have h:(Z1 Z3 rows y).fWrap=true:=by simpa using h
     rw [if_pos h]
   subst hq
   refine .go (.call (sheet_add_eq ⟨o,m⟩ _ (by simp only;omega) (by simp only;omega)) (.chk (fun _=>⟨by omega,yr⟩) (.ite (fun h=>.call (sheet_add_eq _ _ (by simp only [Zh,Zk,Zm];omega) (by simp only;omega)) (.ret ?_)) (fun h=>.ret ?_))))
   · have hc:y < b.fY∧¬ (Z1 Z3 rows y).fWrap=true:=by
      by_cases h1:y < b.fY
      · rw [decide_eq_true h1] at h;exact ⟨h1,by simpa using h⟩
      · rw [decide_eq_false h1] at h;cases h
     rw [hR,if_pos hc,List.append_assoc]
   · have hc : ¬ (y < b.fY∧¬ (Z1 Z3 rows y).fWrap=true):=by
      rintro ⟨h1,h2⟩
      rw [decide_eq_true h1] at h
      exact h2 (by simpa using h)
     rw [hR,if_neg hc,List.append_nil]
 · have h : ¬ y≤b.fY:=by simpa using h
   refine .ret ?_
   show Yi.mk o m=_
   rw [ho,show y=b.fY+1 by omega]
end Go.Vx
end
section
namespace Go.Vx
set_option maxRecDepth 100000
def WordP (B:Int→Bool) (n at':Int) (p:Int × Int):Prop :=
 0≤p.1∧p.1≤at'∧at' < p.2∧p.2≤n∧(∀ j,p.1≤j→j < p.2→B j=B at')∧(p.1=0∨B (p.1-1)≠B at')∧(p.2=n∨B p.2≠B at')
theorem WordP.same {B:Int→Bool} {n a i:Int} {p q:Int × Int} (h:WordP B n a p) (i0:p.1≤i) (i1:i < p.2) (g:WordP B n i q):q=p:=by
 obtain ⟨h1,h2,h3,h4,h5,h6,h7⟩:=h
 obtain ⟨g1,g2,g3,g4,g5,g6,g7⟩:=g
 have hi:=h5 i i0 i1
 have e1:q.1=p.1:=by
  by_cases c:q.1 < p.1
  · rcases h6 with e | e
    · omega
    · exact absurd ((g5 (p.1-1) (by omega) (by omega)).trans hi) e
  · by_cases c2:p.1 < q.1
    · rcases g6 with e | e
      · omega
      · exact absurd ((h5 (q.1-1) (by omega) (by omega)).trans hi.symm) e
    · omega
 have e2:q.2=p.2:=by
  by_cases c:p.2 < q.2
  · rcases h7 with e | e
    · omega
    · exact absurd ((g5 p.2 (by omega) (by omega)).trans hi) e
  · by_cases c2:q.2 < p.2
    · rcases g7 with e | e
      · omega
      · exact absurd ((h5 q.2 (by omega) (by omega)).trans hi.symm) e
    · omega
 exact Prod.ext e1 e2
def blankB (cells:List Zc) (k:Int):Bool:=if (Z1 Z2 cells k).fR == 0 then true else (Z1 Z2 cells k).fR == 32
def Z1e (x:Zi) (r:Z5) (v:Int):Bool :=
 if (Z1 Z2 r.fCells (Z1 0 x.fV2L v)).fW=0 then blankB r.fCells (Z1 0 x.fV2L v-1) else blankB r.fCells (Z1 0 x.fV2L v)
theorem word1_eq {x:Zi} {r:Z5} (hr:RowP r) (hx:SeenP r x) (hb:Z0 r.fCells≤1000) {v:Int} (v0:0≤v) (v1:v < Z0 r.fCells):Z0r v x r=some (Z1e x r v):=by
 obtain ⟨i0,i1,-⟩:=hx.vl v v0 v1
 have hv:=hx.v
 have hp:=(hr.pair _ i0 i1).1
 refine Zd.eq ?_
 unfold Z0r
 refine .chk ⟨v0,by omega⟩ (.chk ⟨i0,i1⟩ (.ite (fun h=>?_) (fun h=>?_)))
 · have h:(Z1 Z2 r.fCells (Z1 0 x.fV2L v)).fW=0:=by simpa using h
   have:=(hp h).1
   refine .chk (Zg (by omega) (by omega)) (.chk ⟨by omega,by omega⟩ (.chk (fun _=>⟨by omega,by omega⟩) (.ret ?_)))
   unfold Z1e;rw [if_pos h];rfl
 · have h : ¬ (Z1 Z2 r.fCells (Z1 0 x.fV2L v)).fW=0:=by simpa using h
   refine .chk ⟨i0,i1⟩ (.chk (fun _=>⟨i0,i1⟩) (.ret ?_))
   unfold Z1e;rw [if_neg h];rfl
theorem word_yields {x:Zi} {r:Z5} (hr:RowP r) (hs:Yx r=some true) (hx:SeenP r x) (hb:Z0 r.fCells≤1000) {a:Int} (a0:0≤a) (a1:a < Z0 r.fCells) :
  Zd (Z55 x r a) (WordP (Z1e x r) (Z0 r.fCells) a):=by
 have hv:=hx.v
 have hat:Yv 0 (Yu a (Z0 r.fCells-1))=a:=by
  unfold Yv Yu
  repeat' split
  all_goals omega
 unfold Z55
 refine .call (fit_yes hr hs hx hb) (.ite (fun h=>by cases h) (fun _=>?_))
 simp only [hv,hat]
 have wa:=word1_eq hr hx hb a0 a1
 refine .chk (Zg (by omega) (by omega)) (.chk (Zg (by omega) (by omega)) (.cut (fun q=>∃ f,q = .go f∧0≤f∧f≤a∧(∀ j,f≤j→j≤a→Z1e x r j=Z1e x r a)∧(f=0∨Z1e x r (f-1)≠Z1e x r a)) ?_ ?_))
 · refine .loop (fun f=>0≤f∧f≤a∧(∀ j,f≤j→j≤a→Z1e x r j=Z1e x r a)) (fun f=>f.toNat) ⟨a0,by omega,fun j j0 j1=>by rw [show j=a by omega]⟩ ?_
   rintro f ⟨f0,f1,hf⟩
   refine .chk (fun _=>Zg (by omega) (by omega)) ?_
   by_cases hp:0 < f
   · rw [decide_eq_true hp]
     refine .call (word1_eq hr hx hb (v:=f-1) (by omega) (by omega)) (.call wa (.ite (fun h=>.chk (Zg (by omega) (by omega)) (.ret ⟨⟨by omega,by omega,fun j j0 j1=>?_⟩,by simp only;omega⟩)) (fun h=>.ret ⟨f,rfl,f0,f1,hf,.inr ?_⟩)))
     · have h:Z1e x r (f-1)=Z1e x r a:=by simpa using h
       by_cases e:j=f-1
       · rw [e,h]
       · exact hf j (by omega) j1
     · simpa using h
   · rw [decide_eq_false hp]
     exact .call (b:=false) rfl (.call (b:=false) rfl (.ite (fun h=>by cases h) (fun _=>.ret ⟨f,rfl,f0,f1,hf,.inl (by omega)⟩)))
 rintro _ ⟨f,rfl,f0,f1,hf,hf2⟩
 refine .go (.cut (fun q=>∃ t,q = .go t∧a < t∧t≤Z0 r.fCells∧(∀ j,a≤j→j < t→Z1e x r j=Z1e x r a)∧(t=Z0 r.fCells∨Z1e x r t≠Z1e x r a)) ?_ ?_)
 · refine .loop (fun t=>a < t∧t≤Z0 r.fCells∧(∀ j,a≤j→j < t→Z1e x r j=Z1e x r a)) (fun t=>(Z0 r.fCells-t).toNat) ⟨by omega,by omega,fun j j0 j1=>by rw [show j=a by omega]⟩ ?_
   rintro t ⟨t0,t1,ht⟩
   by_cases hp:t < Z0 r.fCells
   · rw [decide_eq_true hp]
     refine .call (word1_eq hr hx hb (v:=t) (by omega) (by omega)) (.call wa (.ite (fun h=>.chk (Zg (by omega) (by omega)) (.ret ⟨⟨by omega,by omega,fun j j0 j1=>?_⟩,by simp only;omega⟩)) (fun h=>.ret ⟨t,rfl,t0,t1,ht,.inr ?_⟩)))
     · have h:Z1e x r t=Z1e x r a:=by simpa using h
       by_cases e:j=t
       · rw [e,h]
       · exact ht j j0 (by omega)
     · simpa using h
   · rw [decide_eq_false hp]
     exact .call (b:=false) rfl (.call (b:=false) rfl (.ite (fun h=>by cases h) (fun _=>.ret ⟨t,rfl,t0,t1,ht,.inl (by omega)⟩)))
 rintro _ ⟨t,rfl,t0,t1,ht,ht2⟩
 refine .go (.ret ⟨f0,f1,t0,t1,fun j j0 j1=>?_,hf2,ht2⟩)
 by_cases e:j≤a
 · exact hf j j0 e
 · exact ht j (by omega) j1
theorem tmod_rng {y n:Int} (h:0 < n):0≤Int.tmod (Z0a .i64 y 65535) n∧Int.tmod (Z0a .i64 y 65535) n < n:=by
 have h0:0≤Z0a .i64 y 65535:=by rw [bnd_65535];omega
 exact ⟨Int.tmod_nonneg _ h0,Int.tmod_lt_of_pos _ h⟩
theorem front {l:List Z5} {v1 v2:Bool} (h1:v1=true→FewP l) (h2:v1=true→v2=true→Xg l=some true∧1≤Z0 l∧∀ i,0≤i→i < Z0 l→Z0 (Z1 Z3 l i).fCells=Z0 (Z1 Z3 l 0).fCells)
  (h:(if (!v1)=true then true else (!v2))=false):FewP l∧Xg l=some true∧RowsP l∧1≤Z0 l∧∀ i,0≤i→i < Z0 l→Z0 (Z1 Z3 l i).fCells=Z0 (Z1 Z3 l 0).fCells:=by
 cases v1 with
 | false=>cases h
 | true =>
  cases v2 with
  | false=>cases h
  | true =>
   have hF:=h1 rfl
   obtain ⟨a,b,c⟩:=h2 rfl rfl
   have hl:=hF.1
   obtain ⟨z,z1,z2⟩:=sane_yields (l:=l) (by omega)
   rw [a] at z1
   cases z1
   exact ⟨hF,a,z2 rfl,b,c⟩
theorem sane_arg {l:List Z5} {v1:Bool} (h1:v1=true→FewP l):Zd (if (!(!v1))=true then Xm (Yb.mk l) else some false)
  (fun v2=>v1=true→v2=true→Xg l=some true∧1≤Z0 l∧∀ i,0≤i→i < Z0 l→Z0 (Z1 Z3 l i).fCells=Z0 (Z1 Z3 l 0).fCells):=by
 cases v1 with
 | false=>exact ⟨false,rfl,fun h=>by cases h⟩
 | true=>exact (gsane_yields (h1 rfl)).mono fun b hb _=>hb
theorem copyWord_true (l:List Z5) (y:Int):Qt l y=some true:=by
 have hn:=Zb l
 refine Zd.eq ?_
 unfold Qt
 refine .call awake_true (.bind _ (few_yields l) fun v1 h1=>.bind _ (sane_arg h1) fun v2 h2=>.ite (fun _=>.ret rfl) (fun h=>?_))
 obtain ⟨hF,hs,hR,hl1,-⟩:=front h1 h2 h
 have hl:=hF.1
 obtain ⟨k0,k1⟩:=tmod_rng (y:=y) (n:=Z0 l) (by omega)
 refine .chk (by omega) ?_
 simp only
 generalize Int.tmod (Z0a .i64 y 65535) (Z0 l)=k at k0 k1 ⊢
 have hw:=hF.2 k k0 k1
 have hr:=hR k k0 k1
 have hrs:=sane_at (by omega) hs k k0 k1
 refine .call load_eq (.bind _ (map_yields hF hR false hs k0 k1) fun x hx=>?_)
 obtain ⟨hok,hsn,-,-⟩:=hx
 simp only [hok]
 refine .chk ⟨k0,k1⟩ ?_
 refine .cut (fun q=>q = .go (Z0 (Z1 Z3 l k).fCells)) ?_ (fun q hq=>by subst hq;exact .go (.ret (by simp)))
 have hpos:=hr.pos
 refine .loop (fun (a,n)=>0≤a∧a≤Z0 (Z1 Z3 l k).fCells∧0≤n∧n≤a∧(a=0∨a=Z0 (Z1 Z3 l k).fCells∨Z1e x.1 (Z1 Z3 l k) (a-1)≠Z1e x.1 (Z1 Z3 l k) a))
  (fun (a,_)=>(Z0 (Z1 Z3 l k).fCells-a).toNat) ⟨by omega,by omega,by omega,by omega,.inl rfl⟩ ?_
 rintro ⟨a,n⟩ ⟨a0,a1,n0,n1,ha⟩
 simp only at a0 a1 n0 n1 ha ⊢
 by_cases hlt:n < Z0 (Z1 Z3 l k).fCells∧a < Z0 (Z1 Z3 l k).fCells
 · rw [decide_eq_true hlt.1,decide_eq_true hlt.2]
   refine .ite (fun _=>?_) (fun h=>by cases h)
   refine .cut (fun q=>∃ t,q = .go t∧a < t∧t≤Z0 (Z1 Z3 l k).fCells∧(t=Z0 (Z1 Z3 l k).fCells∨Z1e x.1 (Z1 Z3 l k) (t-1)≠Z1e x.1 (Z1 Z3 l k) t)) ?_ ?_
   · refine .chk ⟨k0,k1⟩ (.bind _ (word_yields hr hrs hsn (by omega) a0 hlt.2) fun p hp=>?_)
     have hp0:=hp
     obtain ⟨p1,p2,p3,p4,p5,p6,p7⟩:=hp
     have e:p.1=a:=by
      by_cases c:p.1 < a
      · rcases ha with e | e | e
        · omega
        · omega
        · exact absurd (p5 (a-1) (by omega) (by omega)) e
      · omega
     refine .ite (fun h=>?_) (fun _=>?_)
     · exfalso
       rw [e,decide_eq_false (show ¬ p.2≤a by omega),decide_eq_false (show ¬ Z0 (Z1 Z3 l k).fCells < p.2 by omega)] at h
       simp at h
     · refine .cut (fun q=>q = .go ()) ?_ (fun q hq=>by subst hq;exact .go (.ret ⟨p.2,rfl,p3,p4,p7.imp id fun z=>by rw [p5 (p.2-1) (by omega) (by omega)];exact fun h=>z h.symm⟩))
       refine .loop (fun i=>p.1≤i∧i≤p.2) (fun i=>(p.2-i).toNat) ⟨by omega,by omega⟩ ?_
       rintro i ⟨i0,i1⟩
       refine .ite (fun h=>?_) (fun _=>.ret rfl)
       have h:i < p.2:=by simpa using h
       refine .chk ⟨k0,k1⟩ (.bind _ (word_yields hr hrs hsn (by omega) (a:=i) (by omega) (by omega)) fun q hq=>?_)
       have hq:=hp0.same i0 h hq
       subst hq
       refine .ite (fun h=>by simp at h) (fun _=>.chk (Zg (by omega) (by omega)) (.ret ⟨⟨by omega,by omega⟩,by simp only;omega⟩))
   · rintro _ ⟨t,rfl,t0,t1,ht⟩
     exact .go (.chk (Zg (by omega) (by omega)) (.ret ⟨⟨by simp only;omega,t1,by simp only;omega,by simp only;omega,.inr ht⟩,by simp only;omega⟩))
 · have ea:a=Z0 (Z1 Z3 l k).fCells:=by omega
   refine .ite (fun h=>?_) (fun _=>.ret (by rw [ea];rfl))
   exfalso
   by_cases c:n < Z0 (Z1 Z3 l k).fCells
   · rw [decide_eq_true c,decide_eq_false (by omega)] at h;cases h
   · rw [decide_eq_false c] at h;cases h
end Go.Vx
end
section
namespace Go.Vx
set_option maxRecDepth 100000
theorem rowsSeen_of {l:List Z5} (hF:FewP l) (hs:Xg l=some true) (hR:RowsP l) (boxes:Bool):Zd (Z5k Xn l boxes) (RowsSeen l):=by
 have hl:=hF.1
 refine (all_yields hF hs hR boxes).mono fun o ho=>⟨hF,ho.1,fun y y0 y1=>⟨hR y y0 y1,sane_at (by omega) hs y y0 y1,?_⟩⟩
 obtain ⟨x,hx,hx2⟩:=map_yields hF hR boxes hs y0 y1
 rw [ho.2 y y0 y1] at hx
 cases hx
 exact hx2.2.1
def Qx (last y:Int):Int:=Yv 0 (Yu y last)
theorem clampY_rng {last y:Int} (h:0≤last):0≤Qx last y∧Qx last y≤last:=by
 unfold Qx Yv Yu
 constructor<;>repeat' split
 all_goals omega
def turned (last:Int) (a b:Zu):Bool:=if (decide ((Qx last b.fY) < (Qx last a.fY)))=true then true else (if ((Qx last a.fY) == (Qx last b.fY))=true then (decide (b.fX < a.fX)) else false)
theorem turned_iff {last:Int} {a b:Zu} : turned last a b=true ↔ (Qx last b.fY < Qx last a.fY∨(Qx last a.fY=Qx last b.fY∧b.fX < a.fX)):=by
 unfold turned
 by_cases h1:Qx last b.fY < Qx last a.fY
 · simp [h1]
 · by_cases h2:Qx last a.fY=Qx last b.fY
   · simp [h2]
   · simp [h1,h2]
def sortP (last:Int) (a b:Zu):Zu × Zu :=
 if turned last a b=true then (⟨Qx last b.fY,b.fX⟩,⟨Qx last a.fY,a.fX⟩) else (⟨Qx last a.fY,a.fX⟩,⟨Qx last b.fY,b.fX⟩)
theorem sortP_le (last:Int) (a b:Zu):(sortP last a b).1.fY≤(sortP last a b).2.fY:=by
 unfold sortP
 split
 next h=>rw [turned_iff] at h;simp only;omega
 next h=>rw [turned_iff] at h;simp only;omega
theorem span_eq {rows:List Z5} {l:List Zi} (hS:RowsSeen rows l) (h1:1≤Z0 rows) {a b:Zu} (ha:inR .i64 a.fX) (hb:inR .i64 b.fX) :
  Z54 l rows a b 65536=some (catL (Z5v rows l (sortP (Z0 rows-1) a b).1 (sortP (Z0 rows-1) a b).2) (sortP (Z0 rows-1) a b).1.fY ((sortP (Z0 rows-1) a b).2.fY+1-(sortP (Z0 rows-1) a b).1.fY).toNat,true):=by
 have hl:=hS.few.1
 have hla:=hS.len
 have e1:(if (!((Z0 l) == (Z0 rows)))=true then true else ((Z0 rows) == 0))=false:=by
  rw [hla];simp;omega
 have ca:=clampY_rng (last:=Z0 rows-1) (y:=a.fY) (by omega)
 have cb:=clampY_rng (last:=Z0 rows-1) (y:=b.fY) (by omega)
 have hr0:0≤(sortP (Z0 rows-1) a b).1.fY∧(sortP (Z0 rows-1) a b).2.fY < Z0 rows∧inR .i64 (sortP (Z0 rows-1) a b).2.fX:=by
  unfold sortP
  split
  · exact ⟨cb.1,by simp only;omega,ha⟩
  · exact ⟨ca.1,by simp only;omega,hb⟩
 have hf:Z0i 65536 (sortP (Z0 rows-1) a b).1 (sortP (Z0 rows-1) a b).2 rows l=some (catL (Z5v rows l (sortP (Z0 rows-1) a b).1 (sortP (Z0 rows-1) a b).2) (sortP (Z0 rows-1) a b).1.fY ((sortP (Z0 rows-1) a b).2.fY+1-(sortP (Z0 rows-1) a b).1.fY).toNat,true):=by
  unfold Z0i
  rw [show Yv 0 (Yu 65536 65536)=65536 by decide,span1_eq hS hr0.1 (sortP_le _ _ _) hr0.2.1 hr0.2.2 (by omega) (by omega)]
  rfl
 refine Zd.eq ?_
 unfold Z54
 simp only [e1]
 refine .ite (fun h=>by cases h) (fun _=>.chk (Zg (by omega) (by omega)) ?_)
 refine .cut (fun q=>q = .go ((sortP (Z0 rows-1) a b).1.fY,(sortP (Z0 rows-1) a b).1.fX,(sortP (Z0 rows-1) a b).2.fY,(sortP (Z0 rows-1) a b).2.fX)) (.ite (fun h=>.ret ?_) (fun h=>.ret ?_)) (fun q hq=>?_)
 · have h:turned (Z0 rows-1) a b=true:=h
   unfold sortP;rw [if_pos h];rfl
 · have h : ¬ turned (Z0 rows-1) a b=true:=by
    have:turned (Z0 rows-1) a b=false:=h
    rw [this];decide
   unfold sortP;rw [if_neg h];rfl
 subst hq
 exact .go (.call hf (.ret rfl))
end Go.Vx
end
section
namespace Go.Vx
set_option maxRecDepth 100000
theorem seen_all {x:Zi} {r:Z5} (hr:RowP r) (hx:SeenP r x):seenL x r 0 (Z0 r.fCells)=Z1n r.fCells:=by
 have hn:=Zb r.fCells
 have h:=txt_all (cells:=r.fCells) (Z0 r.fCells).toNat (by omega)
 rw [Z4a (Int.le_refl _)] at h
 rw [← h]
 unfold seenL
 congr 1
 refine selL_congr _ fun i i0 i1=>?_
 have i1:i < Z0 r.fCells:=by omega
 obtain ⟨j0,j1,-⟩:=hx.lv i i0 i1
 have hf:=(hr.fit i i0 i1).2.2
 by_cases hw:(Z1 Z2 r.fCells i).fW=0
 · have : ¬ cellP r.fCells x.fL2V 0 (Z0 r.fCells) i=true:=fun hc=>by
    obtain ⟨j,h1,h2,-⟩:=Qn.1 hc
    omega
   simp [hw,this]
 · rw [Qn.2 ⟨i,Int.le_refl _,by omega,j0,j1⟩]
   simp [hw]
def wantR (rows:List Z5) (y:Int):List Int :=
 (if (Z1 Z3 rows y).fWrap=true then Z1n (Z1 Z3 rows y).fCells else Z1d (Z1n (Z1 Z3 rows y).fCells)) ++
 (if y < Z0 rows-1∧¬ (Z1 Z3 rows y).fWrap=true then [10] else [])
theorem wantR_len {rows:List Z5} {y:Int} (hb:Z0 (Z1 Z3 rows y).fCells≤100):Z0 (wantR rows y)≤301:=by
 have h1:=rowL_len (Z1 Z3 rows y).fCells
 have h2:=trimL_or (Z1 Z3 rows y).fWrap (Z1n (Z1 Z3 rows y).fCells)
 have h3:Z0 (if y < Z0 rows-1∧¬ (Z1 Z3 rows y).fWrap=true then [(10:Int)] else [])≤1:=by split<;>simp
 unfold wantR
 rw [Zh]
 omega
theorem copyAll_true (l:List Z5):Z07 l=some true:=by
 have hn:=Zb l
 refine Zd.eq ?_
 unfold Z07
 refine .call awake_true (.bind _ (few_yields l) fun v1 h1=>.bind _ (sane_arg h1) fun v2 h2=>.ite (fun _=>.ret rfl) (fun h=>?_))
 obtain ⟨hF,hs,hR,hl1,heq⟩:=front h1 h2 h
 have hl:=hF.1
 have hw:=hF.2 0 (by omega) (by omega)
 have hpos:=(hR 0 (by omega) (by omega)).pos
 refine .call load_eq (.bind _ (rowsSeen_of hF hs hR true) fun o hS=>.chk ⟨by omega,by omega⟩ ?_)
 simp only
 refine .chk (Zg (by omega) (by omega)) (.chk (Zg (by omega) (by omega)) ?_)
 have hsp:=span_eq hS hl1 (a:=⟨Z0 l-1,Z0 (Z1 Z3 l 0).fCells-1⟩) (b:=Z01) (Zg (by simp only;omega) (by simp only;omega)) (Zg (by decide) (by decide))
 have hso:sortP (Z0 l-1) ⟨Z0 l-1,Z0 (Z1 Z3 l 0).fCells-1⟩ Z01=(⟨0,0⟩,⟨Z0 l-1,Z0 (Z1 Z3 l 0).fCells-1⟩):=by
  have c1:Qx (Z0 l-1) (Z0 l-1)=Z0 l-1:=by
   unfold Qx Yv Yu
   repeat' split
   all_goals omega
  have c2:Qx (Z0 l-1) Z01.fY=0:=by
   show Yv 0 (Yu 0 (Z0 l-1))=0
   unfold Yv Yu
   repeat' split
   all_goals omega
  unfold sortP
  by_cases ht:turned (Z0 l-1) ⟨Z0 l-1,Z0 (Z1 Z3 l 0).fCells-1⟩ Z01=true
  · rw [if_pos ht,c2];simp only [c1];rfl
  · rw [if_neg ht,c2];simp only [c1]
    rw [turned_iff,c2] at ht
    simp only [c1] at ht
    have e1:Z0 l-1=0:=by omega
    have e2:Z0 (Z1 Z3 l 0).fCells-1=0:=by
     have:Z01.fX=0:=rfl
     omega
    rw [e1,e2];rfl
 rw [hso] at hsp
 simp only at hsp
 have hcg:catL (Z5v l o ⟨0,0⟩ ⟨Z0 l-1,Z0 (Z1 Z3 l 0).fCells-1⟩) 0 (Z0 l-1+1-0).toNat=catL (wantR l) 0 (Z0 l).toNat:=by
  rw [show (Z0 l-1+1-0).toNat=(Z0 l).toNat by omega]
  refine catL_congr _ fun y y0 y1=>?_
  have y1:y < Z0 l:=by omega
  obtain ⟨hr,-,hx⟩:=hS.row y y0 y1
  have hy:=heq y y0 y1
  have e0:(if y=(0:Int) then (0:Int) else 0)=0:=by split<;>rfl
  have e1:(if y=Z0 l-1 then Yu (Z0 (Z1 Z3 l 0).fCells-1) 4096+1 else Z0 (Z1 Z3 l y).fCells)=Z0 (Z1 Z3 l y).fCells:=by
   split
   · unfold Yu;split<;>omega
   · rfl
  unfold Z5v wantR
  simp only [e0,e1,seen_all hr hx]
 rw [hcg] at hsp
 refine .call hsp ?_
 simp only
 have hlen : ∀ n:Nat,(n:Int)≤Z0 l→Z0 (catL (wantR l) 0 n)≤301*n:=fun n h=>catL_span hS (by omega) (fun y y0 y1=>wantR_len (hF.2 y y0 y1)) (by omega) n (by omega)
 refine .cut (fun q=>q = .go (catL (wantR l) 0 (Z0 l).toNat)) ?_ (fun q hq=>?_)
 · refine .loop (fun (y,w)=>0≤y∧y≤Z0 l∧w=catL (wantR l) 0 y.toNat) (fun (y,_)=>(Z0 l-y).toNat) ⟨by omega,by omega,rfl⟩ ?_
   rintro ⟨y,w⟩ ⟨y0,y1,hwt⟩
   simp only at y0 y1 hwt ⊢
   refine .ite (fun h=>?_) (fun h=>?_)
   · have h:y < Z0 l:=by simpa using h
     have hrs:=sane_at (by omega) hs y y0 h
     have hwy:=hF.2 y y0 h
     have hlw:=hlen y.toNat (by omega)
     rw [← hwt] at hlw
     have hw0:=Zb w
     have hrl:=rowL_len (Z1 Z3 l y).fCells
     have hrl0:=Zb (Z1n (Z1 Z3 l y).fCells)
     have hst:catL (wantR l) 0 (y+1).toNat=w++wantR l y:=by
      rw [show (y+1).toNat=y.toNat+1 by omega]
      conv=>lhs;unfold catL
      rw [← hwt,show (0:Int)+(y.toNat:Int)=y by omega]
     refine .cut (fun q=>q = .go (catL (wantR l) 0 (y+1).toNat)) (.chk ⟨y0,h⟩ ?_) (fun q hq=>by
      subst hq
      exact .go (.chk (Zg (by omega) (by omega)) (.ret ⟨⟨by simp only;omega,by simp only;omega,rfl⟩,by simp only;omega⟩)))
     rw [hst,← heq y y0 h]
     refine .call (Z95 hrs (by omega)) ?_
     unfold wantR
     generalize Z1n (Z1 Z3 l y).fCells=T at hrl hrl0 ⊢
     generalize (Z1 Z3 l y).fWrap=wr
     refine .cut (fun q=>∃ n,q = .go (0,n)∧0≤n∧n≤Z0 T∧X7 T 0 n=(if wr=true then T else Z1d T)) ?_ ?_
     · refine .loop (fun (f,n)=>f=0∧0≤n∧n≤Z0 T∧(wr=true→n=Z0 T)∧Z1d (X7 T 0 n)=Z1d T) (fun (_,n)=>n.toNat) ⟨rfl,hrl0,Int.le_refl _,fun _=>rfl,by rw [subL_all]⟩ ?_
       rintro ⟨f,n⟩ ⟨hf,n0,n1,hwr,ht⟩
       simp only at hf n0 n1 hwr ht ⊢
       subst hf
       refine .chk ⟨y0,h⟩ (.chk (fun _=>Zg (by omega) (by omega)) (.chk (fun hc=>?_) ?_))
       · have:0 < n:=by
          by_cases hp:0 < n
          · exact hp
          · rw [decide_eq_false hp] at hc;cases wr<;>cases hc
         omega
       cases wr with
       | true=>exact .ite (fun hc=>by cases hc) (fun _=>.ret ⟨n,rfl,n0,n1,by rw [hwr rfl,subL_all];rfl⟩)
       | false =>
        by_cases hp:0 < n
        · rw [decide_eq_true hp]
          have h1:=Z75 (l:=T) (a:=0) (b:=n-1) (c:=n) (by omega) (by omega) (by omega)
          have h2:=subL_one (0:Int) (l:=T) (y:=n-1) (by omega) (by omega)
          rw [show n-1+1=n by omega] at h2
          rw [h2] at h1
          rw [show (0:Int)+(n-1)=n-1 by omega]
          refine .ite (fun hc=>?_) (fun hc=>.ret ⟨n,rfl,n0,n1,?_⟩)
          · have hc:Z1 0 T (n-1)=32:=by simpa using hc
            rw [hc] at h1
            rw [h1,trimL_32] at ht
            exact .chk (Zg (by omega) (by omega)) (.chk ⟨by omega,by omega,by omega⟩ (.ret ⟨⟨by simp only;omega,by simp only;omega,by simp only;omega,(fun h=>(by cases h)),by simp only;rw [show n-1-0=n-1 by omega];exact ht⟩,by simp only;omega⟩))
          · have hc:Z1 0 T (n-1)≠32:=by simpa using hc
            have e:=trimL_no (a:=X7 T 0 (n-1)) hc
            rw [← h1,ht] at e
            rw [← e];rfl
        · rw [decide_eq_false hp]
          have:n=0:=by omega
          subst this
          refine .ite (fun hc=>by cases hc) (fun _=>.ret ⟨0,rfl,n0,n1,?_⟩)
          rw [subL_nil] at ht ⊢
          rw [trimL_nil] at ht
          exact ht
     rintro _ ⟨n,rfl,n0,n1,hT⟩
     refine .go ?_
     simp only
     rw [show (0:Int)+n=n by omega,hT]
     have hTl:Z0 (if wr=true then T else Z1d T)≤Z0 T:=trimL_or wr T
     refine .cut (fun q=>q = .go (w++(if wr=true then T else Z1d T))) (.chk (Z2j (by omega) (by omega) (by omega)) (.ret rfl)) (fun q hq=>?_)
     subst hq
     refine .go (.chk ⟨y0,h⟩ (.chk (fun _=>Zg (by omega) (by omega)) (.ite (fun hc=>.chk (Z2j (by have:=Zb (w++(if wr=true then T else Z1d T));omega) (by rw [Zh];omega) (by omega)) (.ret ?_)) (fun hc=>.ret ?_))))
     · have hc2:y < Z0 l-1∧¬ wr=true:=by
        cases wr with
        | true=>cases hc
        | false=>exact ⟨by simpa using hc,by decide⟩
       rw [if_pos hc2,List.append_assoc]
     · have hc2 : ¬ (y < Z0 l-1∧¬ wr=true):=by
        rintro ⟨q1,q2⟩
        cases wr with
        | true=>exact q2 rfl
        | false=>rw [decide_eq_true q1] at hc;cases hc
       rw [if_neg hc2,List.append_nil]
   · have h : ¬ y < Z0 l:=by simpa using h
     refine .ret ?_
     show Fl.go w=Fl.go _
     rw [hwt,show y=Z0 l by omega]
 subst hq
 have hlast:=hlen (Z0 l).toNat (by omega)
 refine .go (.call (ints_same _ (by omega)) (.ret rfl))
end Go.Vx
end
section
namespace Go.Vx
set_option maxRecDepth 100000
theorem and3 {A B C:Bool} (h:(A && (B && C))=true):C=true:=by cases A<;>cases B<;>simp_all
theorem iteAnd {p q:Bool} (h:(if p=true then q else false)=true):p=true∧q=true:=by cases p<;>simp_all
theorem orF {p q:Bool} (hp:p=false) (hq:q=false):(if p=true then true else q)=false:=by subst hp;exact hq
theorem andF {p q:Bool} (h:p=true→q=false):(if p=true then q else false)=false:=by cases p<;>simp_all
theorem count_step {l:List Int} {i c:Int} (h0:0≤i) (h1:i < Z0 l):((l.take (i+1).toNat).count c:Int)=(l.take i.toNat).count c+(if Z1 0 l i=c then 1 else 0):=by
 rw [Z49 0 h0 h1,List.count_append]
 by_cases e:Z1 0 l i=c
 · rw [if_pos e,e];simp
 · rw [if_neg e,List.count_cons_of_ne e];simp
theorem count_le {l:List Int} {c:Int} : (l.count c:Int)≤Z0 l:=by
 have:=List.count_le_length (a:=c) (l:=l)
 simp only [Z0]
 omega
theorem rep_get {n i:Int} : Z1 (0:Int) (Z0n n 0) i=0:=by
 simp [Z1,Z0n]
 rw [List.getElem?_replicate]
 split<;>rfl
theorem copyOnce_true (l:List Z5) (y at':Int):Qu l y at'=some true:=by
 have hn:=Zb l
 refine Zd.eq ?_
 unfold Qu
 refine .call awake_true (.bind _ (few_yields l) fun v1 h1=>.bind _ (sane_arg h1) fun v2 h2=>.ite (fun _=>.ret rfl) (fun h=>?_))
 obtain ⟨hF,hs,hR,hl1,-⟩:=front h1 h2 h
 have hl:=hF.1
 obtain ⟨k0,k1⟩:=tmod_rng (y:=y) (n:=Z0 l) (by omega)
 refine .chk (by omega) ?_
 simp only
 generalize Int.tmod (Z0a .i64 y 65535) (Z0 l)=k at k0 k1 ⊢
 have hw:=hF.2 k k0 k1
 have hr:=hR k k0 k1
 have hrs:=sane_at (by omega) hs k k0 k1
 refine .call load_eq (.bind _ (map_yields hF hR false hs k0 k1) fun x hx=>?_)
 obtain ⟨hok,hsn,-,-⟩:=hx
 simp only [hok]
 refine .chk ⟨k0,k1⟩ ?_
 generalize Z1 Z3 l k=r at hw hr hrs hsn ⊢
 obtain ⟨x,ok⟩:=x
 simp only at hsn ⊢
 have hpos:=hr.pos
 obtain ⟨m0,m1⟩:=tmod_rng (y:=at') (n:=Z0 r.fCells+1) (by omega)
 refine .chk (Zg (by omega) (by omega)) (.chk (by omega) ?_)
 generalize Int.tmod (Z0a .i64 at' 65535) (Z0 r.fCells+1)=m at m0 m1 ⊢
 refine .call (cells_eq hr hrs hsn (by omega) _ _) (.call (cells_eq hr hrs hsn (by omega) _ _) (.call (cells_eq hr hrs hsn (by omega) _ _) (.chk (mkOk (by omega) (by omega) (by omega)) ?_)))
 have hnn:(((Z0 r.fCells).toNat:Nat):Int)=Z0 r.fCells:=by omega
 have A1:=fun i h0 h1=>cell_mem (cells:=r.fCells) (g:=x.fL2V) (a:=0) (b:=m) (n:=(Z0 r.fCells).toNat) (i:=i) h0 h1
 have B1:=fun i h0 h1=>cell_mem (cells:=r.fCells) (g:=x.fL2V) (a:=m) (b:=Z0 r.fCells) (n:=(Z0 r.fCells).toNat) (i:=i) h0 h1
 have A2:=Z8n (cellP r.fCells x.fL2V 0 m) (Z0 r.fCells).toNat
 have B2:=Z8n (cellP r.fCells x.fL2V m (Z0 r.fCells)) (Z0 r.fCells).toNat
 have A3:=selL_count (cellP r.fCells x.fL2V 0 m) (Z0 r.fCells).toNat
 have B3:=selL_count (cellP r.fCells x.fL2V m (Z0 r.fCells)) (Z0 r.fCells).toNat
 have A4:=Z6h (cellP r.fCells x.fL2V 0 m) (Z0 r.fCells).toNat
 have B4:=Z6h (cellP r.fCells x.fL2V m (Z0 r.fCells)) (Z0 r.fCells).toNat
 generalize Z0e (cellP r.fCells x.fL2V 0 m) (Z0 r.fCells).toNat=a at A1 A2 A3 A4 ⊢
 generalize Z0e (cellP r.fCells x.fL2V m (Z0 r.fCells)) (Z0 r.fCells).toNat=b at B1 B2 B3 B4 ⊢
 rw [hnn] at A4 B4
 simp only [hnn] at A1 B1 A3 B3
 have a0:=Zb a
 have b0:=Zb b
 have hab:Z0 (a++b)=Z0 a+Z0 b:=Zh a b
 refine .cut (fun q=>∃ met,q = .go met∧Z0 met=Z0 r.fCells∧∀ c,0≤c→c < Z0 r.fCells→Z1 0 met c=((a++b).count c:Int)) ?_ ?_
 · refine .loop (fun (i,met)=>0≤i∧i≤Z0 a+Z0 b∧Z0 met=Z0 r.fCells∧∀ c,0≤c→c < Z0 r.fCells→Z1 0 met c=(((a++b).take i.toNat).count c:Int)) (fun (i,_)=>(Z0 a+Z0 b-i).toNat) ⟨by omega,by omega,Y0 _ (by omega),fun c _ _=>by rw [rep_get];rfl⟩ ?_
   rintro ⟨i,met⟩ ⟨i0,i1,hm,hc⟩
   simp only at i0 i1 hm hc ⊢
   refine .chk (Zg (by omega) (by omega)) (.ite (fun h=>?_) (fun h=>?_))
   · have h:i < Z0 a+Z0 b:=by simpa using h
     have hg:=Yc (d:=(0:Int)) (xs:=a) (ys:=b) i0
     refine .cut (fun q=>∃ met2,q = .go met2∧Z0 met2=Z0 r.fCells∧∀ c,0≤c→c < Z0 r.fCells→Z1 0 met2 c=(((a++b).take (i+1).toNat).count c:Int)) ?_ (fun q hq=>by
      obtain ⟨met2,rfl,q1,q2⟩:=hq
      exact .go (.chk (Zg (by omega) (by omega)) (.ret ⟨⟨by simp only;omega,by simp only;omega,q1,q2⟩,by simp only;omega⟩)))
     refine .cut (fun q=>q = .go (Z1 0 (a++b) i)) (.ite (fun h2=>?_) (fun h2=>?_)) (fun q hq=>?_)
     · have h2:i < Z0 a:=by simpa using h2
       rw [if_pos h2] at hg
       refine .chk ⟨i0,h2⟩ (.ret ?_)
       rw [hg,Int.zero_add]
     · have h2 : ¬ i < Z0 a:=by simpa using h2
       rw [if_neg h2] at hg
       refine .chk (Zg (by omega) (by omega)) (.chk ⟨by omega,by omega⟩ (.ret ?_))
       rw [hg,Int.zero_add]
     subst hq
     have hP:0≤Z1 0 (a++b) i∧Z1 0 (a++b) i < Z0 r.fCells∧(Z1 Z2 r.fCells (Z1 0 (a++b) i)).fW≠0:=by
      by_cases h2:i < Z0 a
      · rw [hg,if_pos h2];exact A1 i i0 h2
      · rw [hg,if_neg h2];exact B1 (i-Z0 a) (by omega) (by omega)
     have hA:i < Z0 a→0 < i→Z1 0 a (i-1) < Z1 0 (a++b) i:=fun h2 h3=>by
      rw [hg,if_pos h2];exact A2 (i-1) i (by omega) (by omega) h2
     have hB:Z0 a < i→Z1 0 b (i-Z0 a-1) < Z1 0 (a++b) i:=fun h2=>by
      rw [hg,if_neg (by omega)];exact B2 (i-Z0 a-1) (i-Z0 a) (by omega) (by omega) (by omega)
     have hcs:=fun c=>count_step (l:=a++b) (i:=i) (c:=c) i0 (by omega)
     have htl:Z0 ((a++b).take i.toNat)≤200:=by
      have:Z0 ((a++b).take i.toNat)≤Z0 (a++b):=by simp only [Z0,List.length_take];omega
      omega
     generalize Z1 0 (a++b) i=c at hP hA hB hcs ⊢
     obtain ⟨c0,c1,c2⟩:=hP
     refine .go (.cut (fun q=>q = .go ()) ?_ (fun q hq=>?_))
     · refine .chk (fun _=>⟨c0,c1⟩) (.chk (fun _=>Zg (by omega) (by omega)) (.chk (fun hh=>?_) (.chk (fun _=>Zg (by omega) (by omega)) (.chk (fun _=>Zg (by omega) (by omega)) (.chk (fun hh=>?_) (.ite (fun hh=>?_) (fun _=>.ret rfl)))))))
       · obtain ⟨q1,q2⟩:=iteAnd (and3 hh)
         have q1:0 < i:=by simpa using q1
         have q2:i < Z0 a:=by simpa using q2
         omega
       · have q1:Z0 a < i:=by simpa using and3 hh
         omega
       · exfalso
         refine absurd hh ?_
         rw [orF (orF (orF (orF (decide_eq_false (by omega)) (decide_eq_false (by omega))) (by simpa using c2)) (andF fun q=>decide_eq_false ?_)) (andF fun q=>decide_eq_false ?_)]
         · decide
         · obtain ⟨q1,q2⟩:=iteAnd q
           have:=hA (by simpa using q2) (by simpa using q1)
           rw [Int.zero_add];omega
         · have:=hB (by simpa using q)
           rw [Int.zero_add];omega
     subst hq
     have hcc:=hc c c0 c1
     have hle:=count_le (l:=(a++b).take i.toNat) (c:=c)
     have hge:(0:Int)≤(((a++b).take i.toNat).count c:Int):=by omega
     rw [Int.zero_add]
     refine .go (.chk ⟨c0,c1⟩ (.chk (Zg (by omega) (by omega)) (.chk ⟨c0,c1⟩ (.ret ⟨_,rfl,?_,fun d d0 d1=>?_⟩))))
     · rw [Zq];exact hm
     · rw [Zl c0 d0 (by omega),hcs d]
       by_cases e:d=c
       · subst e;rw [if_pos rfl,if_pos rfl,hcc]
       · rw [if_neg e,if_neg (fun h=>e h.symm),hc d d0 d1];omega
   · have h : ¬ i < Z0 a+Z0 b:=by simpa using h
     refine .ret ⟨met,rfl,hm,fun c h0 h1=>?_⟩
     rw [hc c h0 h1,Z4a (by omega)]
 rintro _ ⟨met,rfl,hm,hc⟩
 refine .go (.cut (fun q=>q = .go ()) ?_ (fun q hq=>?_))
 · refine .loop (fun i=>0≤i∧i≤Z0 r.fCells) (fun i=>(Z0 r.fCells-i).toNat) ⟨by omega,by omega⟩ ?_
   rintro i ⟨i0,i1⟩
   refine .ite (fun h=>?_) (fun _=>.ret rfl)
   have h:i < Z0 r.fCells:=by simpa using h
   refine .cut (fun q=>q = .go ()) (.chk ⟨i0,h⟩ (.chk (fun _=>⟨i0,h⟩) (.chk (fun _=>⟨i0,h⟩) (.chk (fun _=>⟨i0,h⟩) (.chk (fun _=>⟨i0,h⟩) (.chk (fun _=>⟨i0,h⟩) (.chk (fun _=>⟨i0,h⟩) (.ite (fun hh=>?_) (fun _=>.ret rfl))))))))) (fun q hq=>by
    subst hq
    exact .go (.chk (Zg (by omega) (by omega)) (.ret ⟨⟨by omega,by omega⟩,by simp only;omega⟩)))
   exfalso
   have hci:=hc i i0 h
   rw [List.count_append,A3,B3] at hci
   obtain ⟨g0,g1,-⟩:=hsn.lv i i0 h
   have e0:(Z1 Z2 r.fCells i).fW=0→Z1 0 met i=0:=fun hW=>by
    rw [hci,if_neg (fun z=>?_),if_neg (fun z=>?_)]
    · rfl
    · obtain ⟨j,j0,j1,-⟩:=Qn.1 z.2.2;omega
    · obtain ⟨j,j0,j1,-⟩:=Qn.1 z.2.2;omega
   have e1:(Z1 Z2 r.fCells i).fW=1→Z1 0 met i=1:=fun hW=>by
    by_cases q:Z1 0 x.fL2V i < m
    · rw [hci,if_pos ⟨i0,h,Qn.2 ⟨i,Int.le_refl _,by omega,g0,q⟩⟩,if_neg (fun z=>?_)]
      · rfl
      · obtain ⟨j,j0,j1,j2,j3⟩:=Qn.1 z.2.2
        rw [show j=i by omega] at j2 j3;omega
    · rw [hci,if_neg (fun z=>?_),if_pos ⟨i0,h,Qn.2 ⟨i,Int.le_refl _,by omega,by omega,g1⟩⟩]
      · rfl
      · obtain ⟨j,j0,j1,j2,j3⟩:=Qn.1 z.2.2
        rw [show j=i by omega] at j2 j3;omega
   have e2:(Z1 Z2 r.fCells i).fW=2→Z1 0 met i=1∨Z1 0 met i=2:=fun hW=>by
    by_cases q:Z1 0 x.fL2V i < m
    · rw [hci,if_pos ⟨i0,h,Qn.2 ⟨i,Int.le_refl _,by omega,g0,q⟩⟩]
      split
      · exact .inr rfl
      · exact .inl rfl
    · rw [hci,if_pos (c:=0≤i∧i < Z0 r.fCells∧cellP r.fCells x.fL2V m (Z0 r.fCells) i=true) ⟨i0,h,Qn.2 ⟨i,Int.le_refl _,by omega,by omega,g1⟩⟩]
      split
      · exact .inr rfl
      · exact .inl rfl
   refine absurd hh ?_
   rw [Int.zero_add]
   rw [orF (orF (andF fun q=>?_) (andF fun q=>?_)) (andF fun q=>?_)]
   · decide
   · have:=e0 (by simpa using q);simp [this]
   · have:=e1 (by simpa using q);simp [this]
   · obtain ⟨q1,q2⟩:=iteAnd q
     rcases e2 (by simpa using q1) with e | e
     · simp [e] at q2
     · simp [e]
 subst hq
 have ht:Z2r r (Z0e (cellP r.fCells x.fL2V 0 (Z0 r.fCells)) (Z0 r.fCells).toNat)=some (Z1n r.fCells):=by
  rw [seen_eq hrs (by omega),seen_all hr hsn]
 have hrl:=rowL_len r.fCells
 exact .go (.call ht (.call (Z95 hrs (by omega)) (.call (ints_same _ (by omega)) (.ret rfl))))
end Go.Vx
end
