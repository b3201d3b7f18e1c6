/- KM, KSel, KLAll, KCp, KCq, KSpn, KLTurn in one. No conditions. -/
import Derived.Test.YtmbgnnedjgmhmaaGreatDoorKG
import Derived.Test.YtmbgnnedjgmhmaaGreatDoorKBounds
import Derived.Test.YtmbgnnedjgmhmaaGreatDoorKTwA
set_option linter.all false
section
namespace Go.Vx
set_option maxRecDepth 100000
theorem par_yields {r:List Int} (dir:Int) (hb:Z0 r≤100000):Zd (Qr Xi r dir) (fun v=>(v.2=0∨v.2=1)∧Z0 v.1=Z0 r):=by
 unfold Qr
 refine .bind _ (classes_yields hb) fun l ⟨ll,_⟩=>?_
 refine .cut (fun q=>∃ b,q = .go b∧(b=0∨b=1)) ?_ ?_
 · refine .ite (fun _=>.bind _ (base2_yields (l:=l) (by omega)) fun b hb=>.ret ⟨b,rfl,hb⟩) (fun h=>.ret ⟨dir,rfl,?_⟩)
   by_cases h0:dir=0
   · exact .inl h0
   · by_cases h1:dir=1
     · exact .inr h1
     · simp [h0,h1] at h
 rintro q ⟨b,rfl,hb0⟩
 exact .go (.bind _ (levels_bounds (r:=r) (by omega) (by omega) hb0) fun o ho=>.ret ⟨hb0,by simp only;omega⟩)
section
variable {cells:List Zi}
theorem wid_split {i:Int} (h0:0≤i) (h1:i < Z0 cells) (hw:(Z1 Z4 cells i).fW≠0):Xn cells=Xn (cells.take i.toNat)++([(Z1 Z4 cells i).fW]++Xn (cells.drop (i+1).toNat)):=by
 rw [← widL_one hw,← Z5i,← Z5i,List.singleton_append,← drop_get Z4 h0 h1,List.take_append_drop]
theorem wid_at {i:Int} (h0:0≤i) (h1:i < Z0 cells) (hw:(Z1 Z4 cells i).fW≠0):Z1 0 (Xn cells) (Z0 (Xn (cells.take i.toNat)))=(Z1 Z4 cells i).fW∧Z0 (Xn (cells.take i.toNat)) < Z0 (Xn cells):=by
 have e:=wid_split h0 h1 hw
 have n1:=Zc (Xn (cells.take i.toNat))
 have n2:=Zc (Xn (cells.drop (i+1).toNat))
 generalize hA:Xn (cells.take i.toNat)=A at *
 generalize hB:Xn (cells.drop (i+1).toNat)=B at *
 rw [e,Yi n1,if_neg (by omega),Zf,Zf]
 refine ⟨Q0 (by omega),?_⟩
 simp;omega
theorem wid_next {i:Int} (h0:0≤i) (h1:i < Z0 cells):Z0 (Xn (cells.take (i+1).toNat))=Z0 (Xn (cells.take i.toNat))+(if (Z1 Z4 cells i).fW=0 then 0 else 1):=by
 rw [Z6s Z4 h0 h1,Z5i,Zf]
 split
 · rename_i h;rw [widL_one0 h];rfl
 · rename_i h;rw [widL_one h];rfl
theorem mem_get {α:Type} (d:α) {l:List α} {x:α} (h:x∈l) : ∃ i,0≤i∧i < Z0 l∧Z1 d l i=x:=by
 obtain ⟨n,hn,rfl⟩:=List.mem_iff_getElem.1 h
 exact ⟨n,by omega,by simp only [Z0];omega,by simp [Z1,hn]⟩
theorem wid12 (hf : ∀ i,0≤i→i < Z0 cells→FitP (Z1 Z4 cells i)) : ∀ i,0≤i→i < Z0 (Xn cells)→Z1 0 (Xn cells) i=1∨Z1 0 (Xn cells) i=2:=by
 intro i i0 i1
 have hm:=Z78 (0:Int) i0 i1
 obtain ⟨c,hc,e⟩:=List.mem_map.1 hm
 obtain ⟨hc,hw⟩:=List.mem_filter.1 hc
 obtain ⟨j,j0,j1,rfl⟩:=mem_get Z4 hc
 obtain ⟨_,_,h⟩:=hf j j0 j1
 have hw:(Z1 Z4 cells j).fW≠0:=by simpa using hw
 rw [← e]
 omega
theorem pos_eq (hf : ∀ i,0≤i→i < Z0 cells→FitP (Z1 Z4 cells i)) (hp : ∀ i,0≤i→i < Z0 cells→PairP cells i) :
  ∀ i:Nat,(i:Int)≤Z0 cells→Yf (Z1 0 (Xn cells)) (Z0 (Xn (cells.take i)))=i+(if (i:Int) < Z0 cells∧(Z1 Z4 cells i).fW=0 then 1 else 0):=by
 intro i
 induction i with
 | zero =>
  intro _
  rw [if_neg]
  · rfl
  · rintro ⟨h1,h2⟩
    have:=((hp 0 (by omega) h1).1 h2).1
    omega
 | succ i ih =>
  intro hi
  have ih:=ih (by omega)
  have h1:(i:Int) < Z0 cells:=by omega
  have hn:=wid_next (cells:=cells) (i:=i) (by omega) h1
  rw [show ((i:Int)+1).toNat=i+1 by omega,show (i:Int).toNat=i by omega] at hn
  have hP:=hp i (by omega) h1
  have hF:=(hf i (by omega) h1).2.2
  rw [show (((i+1:Nat)):Int)=(i:Int)+1 by omega] at hi ⊢
  have hN:(i:Int)+1 < Z0 cells→(Z1 Z4 cells ((i:Int)+1)).fW=0→(Z1 Z4 cells (i:Int)).fW=2:=fun h2 h3=>by
   have:=((hp (i+1) (by omega) h2).1 h3).2
   rw [show (i:Int)+1-1=i by omega] at this
   exact this
  by_cases hz:(Z1 Z4 cells (i:Int)).fW=0
  · rw [if_pos hz] at hn
    rw [if_pos ⟨h1,hz⟩] at ih
    rw [hn,Int.add_zero,ih,if_neg]
    · omega
    · rintro ⟨h2,h3⟩
      have:=hN h2 h3;omega
  · rw [if_neg hz] at hn
    rw [if_neg (fun h=>hz h.2)] at ih
    obtain ⟨w1,w2⟩:=wid_at (cells:=cells) (i:=i) (by omega) h1 hz
    rw [show (i:Int).toNat=i by omega] at w1 w2
    rw [hn,Xs (Zc _),ih,w1]
    by_cases h2:(Z1 Z4 cells (i:Int)).fW=2
    · have:=hP.2 h2
      rw [if_pos this];omega
    · rw [if_neg (fun h=>h2 (hN h.1 h.2))];omega
end
structure SeenP (r:Z5) (x:Zj):Prop where
 v:Z0 x.fV2L=Z0 r.fCells
 l:Z0 x.fL2V=Z0 r.fCells
 c:Z0 x.fCells=Z0 r.fCells
 vl : ∀ p,0≤p→p < Z0 r.fCells→0≤Z1 0 x.fV2L p∧Z1 0 x.fV2L p < Z0 r.fCells∧Z1 0 x.fL2V (Z1 0 x.fV2L p)=p
 lv : ∀ i,0≤i→i < Z0 r.fCells→0≤Z1 0 x.fL2V i∧Z1 0 x.fL2V i < Z0 r.fCells∧Z1 0 x.fV2L (Z1 0 x.fL2V i)=i
 wide : ∀ i,0≤i→i < Z0 r.fCells→(Z1 Z4 r.fCells i).fW=2→Z1 0 x.fL2V (i+1)=Z1 0 x.fL2V i+1
theorem row_len {r:Z5} (hr:RowP r):Yf (Z1 0 (Xn r.fCells)) (Z0 (Xn r.fCells))=Z0 r.fCells:=by
 have hn:=Zc r.fCells
 have:=pos_eq hr.fit hr.pair (Z0 r.fCells).toNat (by omega)
 rw [Z6t (Int.le_refl _),if_neg (by omega)] at this
 omega
theorem row_pos {r:Z5} (hr:RowP r) {i:Int} (h0:0≤i) (h1:i < Z0 r.fCells) (hw:(Z1 Z4 r.fCells i).fW≠0):Yf (Z1 0 (Xn r.fCells)) (Z0 (Xn (r.fCells.take i.toNat)))=i:=by
 have:=pos_eq hr.fit hr.pair i.toNat (by omega)
 rw [show ((i.toNat:Nat):Int)=i by omega] at this
 rw [if_neg (fun h=>hw h.2)] at this
 omega
theorem seen_of {r:Z5} (hr:RowP r) {f g:Int→Int} {x:Zj} (h:LinP (Z0 (Xn r.fCells)) (Z1 0 (Xn r.fCells)) f g x):SeenP r x:=by
 have hN:=row_len hr
 obtain ⟨a,b,c,d,e,at_⟩:=h
 rw [hN] at a b c d e
 refine ⟨a,b,c,d,e,fun i i0 i1 hw=>?_⟩
 have hp:=row_pos hr i0 i1 (by omega)
 obtain ⟨w1,w2⟩:=wid_at i0 i1 (show (Z1 Z4 r.fCells i).fW≠0 by omega)
 have k0:=Zc (Xn (r.fCells.take i.toNat))
 have q0:=at_ _ k0 w2 0 (by omega) (by omega)
 have q1:=at_ _ k0 w2 1 (by omega) (by omega)
 rw [hp] at q0 q1
 rw [q1,show Z1 0 x.fL2V i=Z1 0 x.fL2V (i+0) by rw [Int.add_zero],q0]
 omega
theorem lay_seen {r:Z5} (hr:RowP r) (hb:Z0 r.fCells≤1000) {cells:List Zi} {levels:List Int} (base:Int) (hc:Z0 cells=Z0 r.fCells) (hl:Z0 levels=Z0 (Xn r.fCells)) :
  Zd (Z2e cells levels (Xn r.fCells) base) (fun x=>x.fBase=base∧SeenP r x):=by
 have h1:=Z4j r.fCells
 have h2:=Z46 r.fCells
 obtain ⟨v,f,g,ev,lv,hf,hg⟩:=visual_perm (levels:=levels) hl (by omega)
 exact (lay_yields hl rfl (by omega) (wid12 hr.fit) ev lv hf hg (by rw [row_len hr,hc])).mono fun x hx=>⟨hx.1,seen_of hr hx.2⟩
theorem preI_turn {w:Int→Int} {n:Int} : ∀ m:Nat,(m:Int)≤n→Yf (fun p=>w (n-1-p)) m=Yf w n-Yf w (n-m)
 | 0,_=>by show 0=Yf w n-Yf w (n-0);rw [Int.sub_zero];omega
 | m+1,h=>by
  have ih:=preI_turn (w:=w) (n:=n) m (by omega)
  rw [show (((m+1:Nat)):Int)=(m:Int)+1 by omega,Xs (by omega),ih]
  have e:Yf w (n-m)=Yf w (n-(m+1))+w (n-(m+1)):=by
   have:=Xs (w:=w) (i:=n-(m+1)) (by omega)
   rw [show n-((m:Int)+1)+1=n-m by omega] at this
   exact this
  rw [show n-1-(m:Int)=n-((m:Int)+1) by omega]
  omega
def PlainP (r:Z5) (l:Int) (x:Zj):Prop:=(l=0→∀ i,0≤i→i < Z0 r.fCells→Z1 0 x.fV2L i=i)∧(l=1→∀ i,0≤i→i < Z0 r.fCells→(Z1 Z4 r.fCells i).fW=1→Z1 0 x.fL2V i=Z0 r.fCells-1-i)
theorem lay_plain {r:Z5} (hr:RowP r) (hb:Z0 r.fCells≤1000) {cells:List Zi} {levels:List Int} (base:Int) (hc:Z0 cells=Z0 r.fCells) (hl:Z0 levels=Z0 (Xn r.fCells))
  {l:Int} (hl0:l=0∨l=1) (hlv : ∀ i,0≤i→i < Z0 levels→Z1 0 levels i=l):Zd (Z2e cells levels (Xn r.fCells) base) (fun x=>x.fBase=base∧SeenP r x∧PlainP r l x):=by
 have h1:=Z4j r.fCells
 have h2:=Z46 r.fCells
 have hn:=Zc (Xn r.fCells)
 have hN:=row_len hr
 obtain ⟨v,ev,lv,hv⟩:=visual_const (a:=levels) (l:=l) hl (by omega) (by omega) (by omega) (fun i i0 i1=>hlv i i0 (by omega))
 have w12:=wid12 hr.fit
 rcases hl0 with rfl | rfl
 · refine (lay_yields (f:=fun p=>p) (g:=fun q=>q) hl rfl (by omega) w12 ev lv (fun p p0 p1=>⟨by rw [hv p p0 p1];rfl,p0,p1,rfl⟩) (fun q q0 q1=>⟨q0,q1,rfl⟩) (by rw [hN,hc])).mono fun x hx=>⟨hx.1,seen_of hr hx.2,fun _ i i0 i1=>?_,fun h=>by omega⟩
   obtain ⟨a,b,c,d⟩:=Z6r (w:=Z1 0 (Xn r.fCells)) (n:=(Z0 (Xn r.fCells)).toNat) (x:=i) i0 (by show i < Yf _ _;rw [hN];exact i1)
   rw [Xs a] at d
   have e:=hx.2.at_ _ a (by omega) (i-Yf (Z1 0 (Xn r.fCells)) (blk (Z1 0 (Xn r.fCells)) (Z0 (Xn r.fCells)).toNat i)) (by omega) (by omega)
   have e':Z1 0 x.fL2V i=i:=by
    rw [show Yf (Z1 0 (Xn r.fCells)) (blk (Z1 0 (Xn r.fCells)) (Z0 (Xn r.fCells)).toNat i)+(i-Yf (Z1 0 (Xn r.fCells)) (blk (Z1 0 (Xn r.fCells)) (Z0 (Xn r.fCells)).toNat i))=i by omega] at e
    exact e
   have:=((seen_of hr hx.2).lv i i0 i1).2.2
   rw [e'] at this
   exact this
 · refine (lay_yields (f:=fun p=>Z0 (Xn r.fCells)-1-p) (g:=fun q=>Z0 (Xn r.fCells)-1-q) hl rfl (by omega) w12 ev lv (fun p p0 p1=>⟨by rw [hv p p0 p1];rfl,by omega,by omega,by omega⟩) (fun q q0 q1=>⟨by omega,by omega,by omega⟩) (by rw [hN,hc])).mono fun x hx=>⟨hx.1,seen_of hr hx.2,fun h=>by omega,fun _ i i0 i1 hw=>?_⟩
   have hp:=row_pos hr i0 i1 (by omega)
   obtain ⟨w1,w2⟩:=wid_at i0 i1 (show (Z1 Z4 r.fCells i).fW≠0 by omega)
   have k0:=Zc (Xn (r.fCells.take i.toNat))
   have q0:=hx.2.at_ _ k0 w2 0 (by omega) (by omega)
   rw [hp,Int.add_zero,Int.add_zero] at q0
   rw [q0]
   have t:=preI_turn (w:=Z1 0 (Xn r.fCells)) (n:=Z0 (Xn r.fCells)) (Z0 (Xn r.fCells)-1-Z0 (Xn (r.fCells.take i.toNat))).toNat (by omega)
   rw [Int.toNat_of_nonneg (by omega),show Z0 (Xn r.fCells)-(Z0 (Xn r.fCells)-1-Z0 (Xn (r.fCells.take i.toNat)))=Z0 (Xn (r.fCells.take i.toNat))+1 by omega,Xs k0,hp,w1,hN] at t
   rw [t];omega
theorem fixed_yields {r:Z5} (hr:RowP r) (hb:Z0 r.fCells≤1000):Zd (Z1w r) (fun x=>SeenP r x∧PlainP r (if r.fDir=1 then 1 else 0) x):=by
 have h1:=Z4j r.fCells
 have h2:=Z46 r.fCells
 have hn:=Zc (Z11 r.fCells)
 unfold Z1w
 refine .call (letters_eq (by omega)) (.chk (mkOk hn (by simp only;omega) (by omega)) (.ite (fun h=>?_) (fun h=>?_)))
 · have h : ¬ r.fDir=1:=by simpa using h
   rw [if_neg h]
   exact .bind _ (lay_plain hr hb (levels:=Z0q (Z0 (Z11 r.fCells)) 0) 0 rfl (by rw [Y3 _ hn,h2]) (.inl rfl) (fun i i0 i1=>Z3u i0 (by rw [Y3 _ hn] at i1;exact i1))) fun x hx=>.ret hx.2
 · have h:r.fDir=1:=by simpa using h
   rw [if_pos h]
   refine .cut (fun o=>∃ q,o = .go q∧Z0 q=Z0 (Z11 r.fCells)∧∀ i,0≤i→i < Z0 (Z11 r.fCells)→Z1 0 q i=1) ?_ ?_
   · refine .loop (fun x=>0≤x.1∧x.1≤Z0 (Z11 r.fCells)∧Z0 x.2=Z0 (Z11 r.fCells)∧∀ i,0≤i→i < x.1→Z1 0 x.2 i=1) (fun x=>(Z0 (Z11 r.fCells)-x.1).toNat) ⟨by simp only;omega,hn,Y3 _ hn,fun i i0 i1=>by simp only at i1;omega⟩ ?_
     rintro ⟨v,q⟩ ⟨v0,v1,hq,hg⟩
     simp only at v0 v1 hq hg ⊢
     refine .ite (fun h=>?_) (fun h=>?_)
     · have h:v < Z0 (Z11 r.fCells):=by simpa using h
       refine .chk ⟨v0,h⟩ (.chk (Zm (by omega) (by omega)) (.ret ⟨⟨by simp only;omega,by simp only;omega,by simpa using hq,fun i i0 i1=>?_⟩,by simp only;omega⟩))
       simp only at i1 ⊢
       rw [Zk v0 i0 (by omega)]
       split
       · rfl
       · exact hg i i0 (by omega)
     · have h : ¬ v < Z0 (Z11 r.fCells):=by simpa using h
       exact .ret ⟨q,rfl,hq,fun i i0 i1=>hg i i0 (by omega)⟩
   · rintro _ ⟨q,rfl,hq,hg⟩
     exact .go (.bind _ (lay_plain hr hb (levels:=q) 1 rfl (by rw [hq,h2]) (.inr rfl) (fun i i0 i1=>hg i i0 (by omega))) fun x hx=>.ret hx.2)
theorem subL_split {α:Type} {l:List α} {a b c:Int} (h0:0≤a) (h1:a≤b) (h2:b≤c):Xx l a c=Xx l a b++Xx l b c:=by
 unfold Xx
 have e:(c-a).toNat=(b-a).toNat+(c-b).toNat:=by omega
 rw [e,List.take_add,List.drop_drop,show a.toNat+(b-a).toNat=b.toNat by omega]
theorem subL_one {α:Type} (d:α) {l:List α} {y:Int} (h0:0≤y) (h1:y < Z0 l):Xx l y (y+1)=[Z1 d l y]:=by
 unfold Xx
 rw [drop_get d h0 h1,show (y+1-y).toNat=1 by omega];rfl
theorem subL_mem {α:Type} {l:List α} {a b:Int} {x:α} (h:x∈Xx l a b):x∈l:=List.mem_of_mem_drop (List.mem_of_mem_take h)
section
variable {l:List Z5}
theorem few_mem (hF:FewP l) {r:Z5} (h:r∈l):Z0 r.fCells≤100:=by
 obtain ⟨i,i0,i1,rfl⟩:=mem_get Z3 h
 exact hF.2 i i0 i1
theorem gat_sub (hF:FewP l) {a b:Int} (h0:0≤a) (h1:a≤b) (h2:b≤Z0 l):Z17 (Xx l a b)=some (gatL (Xx l a b))∧Z0 (gatL (Xx l a b))≤6000:=by
 have hs:=Ye h0 h1 h2
 have:=hF.1
 refine ⟨gather_eq (by omega) (fun r h=>few_mem hF (subL_mem h)),?_⟩
 have:=gatL_len (l:=Xx l a b) (k:=100) (fun r h=>few_mem hF (subL_mem h))
 omega
theorem gat_row {a y b:Int} (h0:0≤a) (h1:a≤y) (h2:y < Z0 l) (h3:y < b):gatL (Xx l a b)=gatL (Xx l a y)++(Z11 (Z1 Z3 l y).fCells++gatL (Xx l (y+1) b)):=by
 rw [subL_split (b:=y) h0 h1 (by omega),gatL_app,subL_split (a:=y) (b:=y+1) (c:=b) (by omega) (by omega) (by omega),gatL_app,subL_one Z3 (by omega) h2,gatL_one]
def ReadP (l:List Z5) (from' to:Int) (p:Yj):Prop :=
 p.ffrom=from'∧p.fto=to∧Z0 p.flevels=Z0 (gatL (Xx l from' to))∧Z0 p.fglyphs=Z0 p.flevels∧(p.fbase=0∨p.fbase=1) ∧
  Qr Xi (gatL (Xx l from' to)) (Z1 Z3 l from').fDir=some (p.flevels,p.fbase)
theorem read_yields (hF:FewP l) {from' to:Int} (boxes:Bool) (h0:0≤from') (h1:from' < to) (h2:to≤Z0 l):Zd (Z1i Xi l from' to boxes) (ReadP l from' to):=by
 obtain ⟨g1,g2⟩:=gat_sub hF h0 (by omega) h2
 unfold Z1i
 refine .chk ⟨h0,by omega,h2⟩ (.call g1 (.chk ⟨h0,by omega⟩ ?_))
 obtain ⟨⟨ls,b⟩,hp,hb0,hl⟩:=par_yields (r:=gatL (Xx l from' to)) (Z1 Z3 l from').fDir (by omega)
 simp only at hb0 hl
 exact .call hp (.bind _ (glyphs_yields boxes (by omega)) fun g hg=>.ret ⟨rfl,rfl,hl,by simp only;omega,hb0,hp⟩)
theorem see_yields (hF:FewP l) (hR:RowsP l) {y:Int} {p:Yj} (h0:0≤p.ffrom) (h1:p.ffrom≤y) (h2:y < Z0 l) (hl:Z0 (gatL (Xx l p.ffrom y))+Z0 (Z11 (Z1 Z3 l y).fCells)≤Z0 p.flevels) (hg:Z0 p.fglyphs=Z0 p.flevels) :
  Zd (Z4u Xi l y p) (fun x=>SeenP (Z1 Z3 l y) x∧x.fBase=p.fbase∧(p.fbase=0→(∀ i,0≤i→i < Z0 p.flevels→Z1 0 p.flevels i=0)→PlainP (Z1 Z3 l y) 0 x)):=by
 have hr:=hR y (by omega) h2
 have hw:=hF.2 y (by omega) h2
 obtain ⟨g1,g2⟩:=gat_sub hF h0 h1 (show y≤Z0 l by omega)
 have n1:=Zc (gatL (Xx l p.ffrom y))
 unfold Z4u
 refine .chk ⟨h0,h1,by omega⟩ (.call g1 (.chk ⟨by omega,h2⟩ ?_))
 generalize hrr:Z1 Z3 l y=r at *
 have l1:=Z4j r.fCells
 have l2:=Z46 r.fCells
 have n2:=Zc (Z11 r.fCells)
 have n3:=Zc r.fCells
 refine .call (letters_eq (by omega)) ?_
 simp only
 generalize hS:Z0 (gatL (Xx l p.ffrom y))=S at *
 have hsub:=Ye (xs:=p.flevels) (l:=S) (h:=S+Z0 (Z11 r.fCells)) n1 (by omega) hl
 obtain ⟨q,hq,q1,q2⟩:=reset_yields (d:=Xi) (cls:=clsL) class_L (r:=Z11 r.fCells) (levels:=Xx p.flevels S (S+Z0 (Z11 r.fCells))) p.fbase (by rw [hsub];omega) (by omega)
 refine .chk (Zm (by omega) (by omega)) (.chk ⟨n1,by omega,hl⟩ (.call hq (.chk ⟨by omega,h2⟩ (.chk (mkOk n3 (by omega) (by omega)) (.cut (fun o=>∃ c,o = .go c∧Z0 c=Z0 r.fCells) ?_ ?_)))))
 · refine .chk ⟨by omega,h2⟩ (.loop (fun x=>x.1=S+Z0 (Z11 (r.fCells.take x.2.1.toNat))∧0≤x.2.1∧x.2.1≤Z0 r.fCells∧Z0 x.2.2=Z0 r.fCells) (fun x=>(Z0 r.fCells-x.2.1).toNat) ⟨by show S=S+0;omega,by simp only;omega,n3,Y3 _ n3⟩ ?_)
   rintro ⟨n,v,c⟩ ⟨hn,v0,v1,hc⟩
   simp only at hn v0 v1 hc ⊢
   refine .ite (fun h=>?_) (fun _=>.ret ⟨_,rfl,hc⟩)
   have h:v < Z0 r.fCells:=by simpa using h
   have nx:=wid_next v0 h
   rw [Z46,Z46] at nx
   have n4:=Zc (Z11 (r.fCells.take v.toNat))
   refine .chk ⟨v0,h⟩ (.ite (fun hz=>?_) (fun hz=>?_))
   · have hz:(Z1 Z4 r.fCells v).fW≠0:=by simpa using hz
     rw [if_neg hz] at nx
     have wa:=(wid_at v0 h hz).2
     rw [Z46,Z46] at wa
     refine .ite (fun _=>.chk ⟨by omega,by omega⟩ ?_) (fun _=>?_) <;>
      exact .chk (Zm (by omega) (by omega)) (.chk ⟨v0,h⟩ (.chk (Zm (by omega) (by omega)) (.ret ⟨⟨by simp only;rw [nx];omega,by simp only;omega,by simp only;omega,by simpa using hc⟩,by simp only;omega⟩)))
   · have hz:(Z1 Z4 r.fCells v).fW=0:=by simpa using hz
     rw [if_pos hz] at nx
     exact .chk ⟨v0,h⟩ (.chk (Zm (by omega) (by omega)) (.ret ⟨⟨by simp only;rw [nx];omega,by simp only;omega,by simp only;omega,by simpa using hc⟩,by simp only;omega⟩))
 · rintro _ ⟨c,rfl,hc⟩
   refine .go ?_
   have ql:Z0 q=Z0 (Xn r.fCells):=by rw [q1,hsub,l2];omega
   by_cases hz:p.fbase=0∧∀ i,0≤i→i < Z0 p.flevels→Z1 0 p.flevels i=0
   · refine .bind _ (lay_plain hr (by omega) (levels:=q) p.fbase hc ql (.inl rfl) (fun i i0 i1=>?_)) fun x hx=>.ret ⟨hx.2.1,hx.1,fun _ _=>hx.2.2⟩
     rw [q2 i i0 (by omega)]
     split
     · exact hz.1
     · rw [Z0r n1 i0 (by omega)]
       exact hz.2 _ (by omega) (by omega)
   · exact .bind _ (lay_seen hr (by omega) (levels:=q) p.fbase hc ql) fun x hx=>.ret ⟨hx.2,hx.1,fun h1 h2=>absurd ⟨h1,h2⟩ hz⟩
theorem chain_rng {y:Int} (h0:0≤y) (h1:y < Z0 l):0≤Xz l 31 y∧Xz l 31 y≤y∧y < Yw l 32 (y+1)∧Yw l 32 (y+1)≤Z0 l:=by
 obtain ⟨a1,a2,_⟩:=up_spec l 31 y h0
 obtain ⟨b1,b2,_⟩:=down_spec l 32 (y+1) (by omega)
 omega
theorem Map_yes {d:Za} {y:Int} (boxes:Bool) (h:Q2 l=some true) (h0:0≤y) (h1:y < Z0 l) (hb:Z0 l≤100000):Z3t d l y boxes =
  Z7 (Z1 Z3 l y).fExplicit (Z8 (Z1w (Z1 Z3 l y)) fun v=>some (v,true)) (Z8 (Z1i d l (Xz l 31 y) (Yw l 32 (y+1)) boxes) fun p=>Z8 (Z4u d l y p) fun x=>some (x,true)):=by
 unfold Z3t
 have e:(if (decide (y < 0))=true then true else (decide ((Z0 l)≤y)))=false:=by simp;omega
 simp only [e]
 rw [show (if (!false)=true then Q2 l else some false)=some true from h,bindO_eq',show (if false=true then true else !true)=false from rfl,Z31,Yp ⟨h0,h1⟩,Yp ⟨h0,h1⟩,chain_eq h0 h1 hb]
 rfl
theorem map_yields (hF:FewP l) (hR:RowsP l) {y:Int} (boxes:Bool) (h:Q2 l=some true) (h0:0≤y) (h1:y < Z0 l) :
  Zd (Z3t Xi l y boxes) (fun x=>x.2=true∧SeenP (Z1 Z3 l y) x.1 ∧
   ((Z1 Z3 l y).fExplicit=true→PlainP (Z1 Z3 l y) (if (Z1 Z3 l y).fDir=1 then 1 else 0) x.1) ∧
   ((Z1 Z3 l y).fExplicit=false→∃ ls b,Qr Xi (gatL (Xx l (Xz l 31 y) (Yw l 32 (y+1)))) (Z1 Z3 l (Xz l 31 y)).fDir=some (ls,b) ∧
    (b=0→(∀ i,0≤i→i < Z0 ls→Z1 0 ls i=0)→PlainP (Z1 Z3 l y) 0 x.1))):=by
 have hl:=hF.1
 rw [Map_yes boxes h h0 h1 (by omega)]
 have hw:=hF.2 y h0 h1
 refine .ite (fun he=>?_) (fun he=>?_)
 · exact .bind _ (fixed_yields (hR y h0 h1) (by omega)) fun x hx=>.ret ⟨rfl,hx.1,fun _=>hx.2,fun h=>absurd h (by rw [he];decide)⟩
 · obtain ⟨c1,c2,c3,c4⟩:=chain_rng h0 h1
   refine .bind _ (read_yields hF boxes c1 (by omega) c4) fun p hp=>?_
   obtain ⟨p1,p2,p3,p4,p5,p6⟩:=hp
   have hgr:=gat_row (l:=l) c1 c2 h1 c3
   have n5:=Zc (gatL (Xx l (y+1) (Yw l 32 (y+1))))
   refine .bind _ (see_yields hF hR (p:=p) (by omega) (by omega) h1 ?_ p4) fun x hx=>.ret ⟨rfl,hx.1,fun h=>absurd h (by rw [he];decide),fun _=>⟨_,_,p6,hx.2.2⟩⟩
   rw [p3,hgr,p1,Zf,Zf]
   omega
end
end Go.Vx
end
section
namespace Go.Vx
set_option maxRecDepth 100000
def selL (P:Int→Bool):Nat→List Int
 | 0=>[]
 | n+1=>if P n=true then selL P n++[(n:Int)] else selL P n
theorem selL_len (P:Int→Bool) : ∀ n,Z0 (selL P n)≤n
 | 0=>by simp [selL]
 | n+1=>by
  have:=selL_len P n
  unfold selL
  split
  · simp;omega
  · omega
theorem selL_mem (P:Int→Bool) : ∀ (n:Nat) (x:Int),x∈selL P n ↔ 0≤x∧x < n∧P x=true
 | 0,x=>by simp [selL];omega
 | n+1,x=>by
  have ih:=selL_mem P n x
  unfold selL
  by_cases h:P n=true
  · rw [if_pos h,List.mem_append,ih,List.mem_singleton]
    constructor
    · rintro (⟨a,b,c⟩ | rfl)
      · exact ⟨a,by omega,c⟩
      · exact ⟨by omega,by omega,h⟩
    · rintro ⟨a,b,c⟩
      by_cases e:x=n
      · exact .inr e
      · exact .inl ⟨a,by omega,c⟩
  · rw [if_neg h,ih]
    constructor
    · rintro ⟨a,b,c⟩;exact ⟨a,by omega,c⟩
    · rintro ⟨a,b,c⟩
      refine ⟨a,?_,c⟩
      by_cases e:x=n
      · subst e;exact absurd c h
      · omega
def txtC (c:Zi):List Int:=[letC c]++(if c.fM.x0=0 then [] else [c.fM.x0])++(if c.fM.x1=0 then [] else [c.fM.x1])
def txtL (cells:List Zi) (l:List Int):List Int:=l.flatMap fun k=>txtC (Z1 Z4 cells k)
theorem txtC_len (c:Zi):1≤Z0 (txtC c)∧Z0 (txtC c)≤3:=by
 unfold txtC
 split<;>split<;>simp
theorem txtL_app (cells:List Zi) (a b:List Int):txtL cells (a++b)=txtL cells a++txtL cells b:=by simp [txtL]
theorem txtL_one (cells:List Zi) (a:Int):txtL cells [a]=txtC (Z1 Z4 cells a):=by simp [txtL]
theorem txtL_len (cells:List Zi) : ∀ l:List Int,Z0 (txtL cells l)≤3*Z0 l
 | []=>by simp [txtL]
 | a :: l=>by
  have:=txtL_len cells l
  have h:=txtC_len (Z1 Z4 cells a)
  rw [show a :: l=[a]++l from rfl,txtL_app,txtL_one,Zf,Zf]
  simp;omega
def Z3n (l:List Int):List Int:=(l.reverse.dropWhile (· == 32)).reverse
theorem trimL_32 (a:List Int):Z3n (a++[32])=Z3n a:=by simp [Z3n]
theorem trimL_no {a:List Int} {c:Int} (h:c≠32):Z3n (a++[c])=a++[c]:=by simp [Z3n,h]
theorem snocL {l:List Int} (h:0 < Z0 l):l=Xx l 0 (Z0 l-1)++[Z1 0 l (Z0 l-1)]:=by
 have h1:=subL_split (l:=l) (a:=0) (b:=Z0 l-1) (c:=Z0 l) (by omega) (by omega) (by omega)
 have h2:=subL_one (0:Int) (l:=l) (y:=Z0 l-1) (by omega) (by omega)
 rw [show Z0 l-1+1=Z0 l by omega] at h2
 rw [h2] at h1
 have h3:Xx l 0 (Z0 l)=l:=by simp [Xx,Z0]
 rw [h3] at h1
 exact h1
theorem trimL_len (l:List Int):Z0 (Z3n l)≤Z0 l:=by
 simp only [Z3n,Z0,List.length_reverse]
 have:=(List.dropWhile_suffix (· == 32) (l:=l.reverse)).length_le
 simp only [List.length_reverse] at this
 omega
end Go.Vx
end
section
namespace Go.Vx
set_option maxRecDepth 100000
theorem ints_same (a:List Int) (hb:Z0 a≤100000):X8 a a=some true:=by rw [ints_eq (by omega),decide_eq_true rfl]
theorem sane_iff {l:List Z5} (hb:Z0 l≤100000):Zd (Q2 l) (fun b=>(b=true→∀ i,0≤i→i < Z0 l→Q6 (Z1 Z3 l i)=some true)∧(b=false→∃ i,0≤i∧i < Z0 l∧Q6 (Z1 Z3 l i)=some false)):=by
 unfold Q2
 have hn:=Zc l
 refine .cut (fun o=>(o = .go ()∧∀ i,0≤i→i < Z0 l→Q6 (Z1 Z3 l i)=some true)∨(o = .out false∧∃ i,0≤i∧i < Z0 l∧Q6 (Z1 Z3 l i)=some false)) ?_ ?_
 · refine .loop (fun v=>0≤v∧v≤Z0 l∧∀ i,0≤i→i < v→Q6 (Z1 Z3 l i)=some true) (fun v=>(Z0 l-v).toNat) ⟨by omega,by omega,fun i a b=>by omega⟩ ?_
   rintro v ⟨v0,v1,hv⟩
   refine .ite (fun h=>?_) (fun h=>?_)
   · have h:v < Z0 l:=by simpa using h
     obtain ⟨b,hb1,-⟩:=row_yields (Z1 Z3 l v)
     refine .chk ⟨v0,h⟩ (.call hb1 (.ite (fun hc=>.ret (.inr ⟨rfl,v,v0,h,?_⟩)) (fun hc=>.chk (Zm (by omega) (by omega)) (.ret ⟨⟨by omega,by omega,fun i a c=>?_⟩,by show (_-_:Int).toNat < (_-_:Int).toNat;omega⟩))))
     · rw [hb1,show b=false by simpa using hc]
     · by_cases e:i=v
       · subst e;rw [hb1,show b=true by simpa using hc]
       · exact hv i a (by omega)
   · have h : ¬ v < Z0 l:=by simpa using h
     exact .ret (.inl ⟨rfl,fun i a c=>hv i a (by omega)⟩)
 · rintro o (⟨rfl,h⟩ | ⟨rfl,h⟩)
   · exact .go (.ret ⟨fun _=>h,fun h=>by cases h⟩)
   · exact .out ⟨fun h=>(by cases h),fun _=>h⟩
theorem sane_at {l:List Z5} (hb:Z0 l≤100000) (h:Q2 l=some true) : ∀ i,0≤i→i < Z0 l→Q6 (Z1 Z3 l i)=some true:=by
 obtain ⟨b,h1,h2,h3⟩:=sane_iff hb
 rw [h] at h1;cases h1
 exact h2 rfl
theorem all_yields {l:List Z5} (hF:FewP l) (hs:Q2 l=some true) (hR:RowsP l) (boxes:Bool):Zd (Z2n Xi l boxes) (fun o=>Z0 o=Z0 l∧∀ y,0≤y→y < Z0 l→Z3t Xi l y boxes=some (Z1 Ya o y,true)):=by
 have hn:=Zc l
 have hl:=hF.1
 unfold Z2n
 refine .call hs (.ite (fun h=>by cases h) (fun _=>.chk (mkOk hn (by omega) (by omega)) (.cut (fun q=>∃ o,q = .go o∧Z0 o=Z0 l∧∀ y,0≤y→y < Z0 l→Z3t Xi l y boxes=some (Z1 Ya o y,true)) ?_ ?_)))
 · refine .loop (fun (v,o,a,b,c,d,e)=>0≤v∧v≤Z0 l∧Z0 o=Z0 l∧(∀ y,0≤y→y < v→Z3t Xi l y boxes=some (Z1 Ya o y,true))∧((a=0∧b=0)∨Z1i Xi l a b boxes=some ⟨a,b,c,d,e⟩)) (fun x=>(Z0 l-x.1).toNat)
    ⟨by omega,hn,Y3 _ hn,fun y y0 y1=>by omega,.inl ⟨rfl,rfl⟩⟩ ?_
   rintro ⟨v,o,a,b,c,d,e⟩ ⟨v0,v1,ho,hg,hr⟩
   simp only at v0 v1 ho hg hr ⊢
   refine .ite (fun h=>?_) (fun h=>?_)
   · have h:v < Z0 l:=by simpa using h
     have hw:=hF.2 v v0 h
     have hM:=Map_yes (d:=Xi) boxes hs v0 h (by omega)
     refine .cut (fun q=>∃ x a b c d e,q = .go (Yc o v x,a,b,c,d,e)∧Z3t Xi l v boxes=some (x,true)∧((a=0∧b=0)∨Z1i Xi l a b boxes=some ⟨a,b,c,d,e⟩)) ?_ ?_
     · refine .chk ⟨v0,h⟩ (.ite (fun he=>?_) (fun he=>?_))
       · obtain ⟨x,hx,-⟩:=fixed_yields (hR v v0 h) (by omega)
         refine .call hx (.chk ⟨v0,h⟩ (.ret ⟨x,a,b,c,d,e,rfl,?_,hr⟩))
         rw [hM,he,Z7r,hx];rfl
       · obtain ⟨c1,c2,c3,c4⟩:=chain_rng v0 h
         obtain ⟨p,hp,pp⟩:=read_yields hF boxes c1 (show Xz l 31 v < Yw l 32 (v+1) by omega) c4
         obtain ⟨p1,p2,p3,p4,p5,p6⟩:=pp
         have hgr:=gat_row (l:=l) c1 c2 h c3
         have n5:=Zc (gatL (Xx l (v+1) (Yw l 32 (v+1))))
         obtain ⟨x,hx,-⟩:=see_yields hF hR (y:=v) (p:=p) (by omega) (by omega) h (by rw [p3,hgr,p1,Zf,Zf];omega) p4
         have hMx:Z3t Xi l v boxes=some (x,true):=by rw [hM,he,Z31,hp,bindO_eq',hx];rfl
         obtain ⟨pf,pt,pl,pg,pb⟩:=p
         simp only at p1 p2
         subst p1 p2
         refine .cut (fun q=>q = .go (Xz l 31 v,Yw l 32 (v+1),pl,pg,pb)) ?_ ?_
         · refine .call (chain_eq v0 h (by omega)) ?_
           simp only
           refine .ite (fun _=>.call hp (.ret rfl)) (fun hc=>.ret ?_)
           have hc:Xz l 31 v=a∧Yw l 32 (v+1)=b:=by
            by_cases z1:Xz l 31 v=a
            · by_cases z2:Yw l 32 (v+1)=b
              · exact ⟨z1,z2⟩
              · simp [z2] at hc
            · simp [z1] at hc
           obtain ⟨e1,e2⟩:=hc
           rcases hr with ⟨h1,h2⟩ | hr
           · omega
           · rw [e1,e2,hr] at hp
             cases hp
             rw [e1,e2]
         · rintro _ rfl
           exact .go (.call hx (.chk ⟨v0,h⟩ (.ret ⟨x,_,_,_,_,_,rfl,hMx,.inr hp⟩)))
     · rintro _ ⟨x,a,b,c,d,e,rfl,hx,hr⟩
       refine .go (.chk (Zm (by omega) (by omega)) (.ret ⟨⟨by simp only;omega,by simp only;omega,by simpa using ho,fun y y0 y1=>?_,hr⟩,by simp only;omega⟩))
       simp only at y1
       rw [Zk v0 y0 (by omega)]
       by_cases z:y=v
       · subst z;rw [if_pos rfl];exact hx
       · rw [if_neg z];exact hg y y0 (by omega)
   · have h : ¬ v < Z0 l:=by simpa using h
     exact .ret ⟨o,rfl,ho,fun y y0 y1=>hg y y0 (by omega)⟩
 · rintro _ ⟨o,rfl,h1,h2⟩
   exact .go (.ret ⟨h1,h2⟩)
end Go.Vx
end
section
namespace Go.Vx
set_option maxRecDepth 100000
theorem fit_yes {x:Zj} {r:Z5} (hr:RowP r) (hs:Q6 r=some true) (hx:SeenP r x) (hb:Z0 r.fCells≤1000):Z75 x r=some (x.fL2V,true):=by
 have hn:=hr.pos
 have hi:Qy x.fV2L=some (x.fL2V,true):=by
  rw [invert_eq (g:=Z1 0 x.fL2V) hx.v (by omega) hx.vl hx.lv,mkL_eq hx.l (by omega) (fun _ _ _=>rfl)]
 refine Zd.eq ?_
 unfold Z75
 have e:(!((Z0 x.fV2L) == (Z0 r.fCells)))=false:=by simp [hx.v]
 simp only [e]
 exact .call (b:=true) hs (.ite (fun h=>by cases h) (fun _=>.call hi (.ret rfl)))
def CellQ (cells:List Zi) (g:List Int) (a b i:Int):Prop:=∃ j,i≤j∧j < i+(Z1 Z4 cells i).fW∧a≤Z1 0 g j∧Z1 0 g j < b
noncomputable def cellP (cells:List Zi) (g:List Int) (a b i:Int):Bool:=@decide (CellQ cells g a b i) (Classical.propDecidable _)
theorem cellP_iff {cells:List Zi} {g:List Int} {a b i:Int} : cellP cells g a b i=true ↔ CellQ cells g a b i:=by
 unfold cellP;exact @decide_eq_true_iff _ (Classical.propDecidable _)
theorem selL_succ (P:Int→Bool) {v:Int} (h:0≤v):selL P (v+1).toNat=if P v=true then selL P v.toNat++[v] else selL P v.toNat:=by
 rw [show (v+1).toNat=v.toNat+1 by omega]
 conv=>lhs;unfold selL
 rw [show ((v.toNat:Nat):Int)=v by omega]
theorem cells_eq {x:Zj} {r:Z5} (hr:RowP r) (hs:Q6 r=some true) (hx:SeenP r x) (hb:Z0 r.fCells≤1000) (a b:Int) :
  Z3c x r a b=some (selL (cellP r.fCells x.fL2V a b) (Z0 r.fCells).toNat):=by
 have hn:=hr.pos
 refine Zd.eq ?_
 unfold Z3c
 refine .call (fit_yes hr hs hx hb) (.ite (fun h=>by cases h) (fun _=>?_))
 refine .cut (fun o=>o = .go (selL (cellP r.fCells x.fL2V a b) (Z0 r.fCells).toNat)) ?_ (fun o ho=>by subst ho;exact .go (.ret rfl))
 refine .loop (fun (v,o)=>0≤v∧v≤Z0 r.fCells∧o=selL (cellP r.fCells x.fL2V a b) v.toNat) (fun (v,_)=>(Z0 r.fCells-v).toNat) ⟨by omega,by omega,rfl⟩ ?_
 rintro ⟨v,o⟩ ⟨v0,v1,ho⟩
 simp only at v0 v1 ho ⊢
 subst ho
 refine .ite (fun h=>?_) (fun h=>?_)
 · have h:v < Z0 r.fCells:=by simpa using h
   have F:=(hr.fit v v0 h).2.2
   have PP:=(hr.pair v v0 h).2
   have hl:=selL_len (cellP r.fCells x.fL2V a b) v.toNat
   have hl0:=Zc (selL (cellP r.fCells x.fL2V a b) v.toNat)
   refine .cut (fun o=>o = .go (selL (cellP r.fCells x.fL2V a b) (v+1).toNat)) (.chk ⟨v0,h⟩ ?_) (fun o ho=>by
    subst ho
    exact .go (.chk (Zm (by omega) (by omega)) (.ret ⟨⟨by simp only;omega,by simp only;omega,rfl⟩,by simp only;omega⟩)))
   rw [selL_succ _ v0]
   refine .loop (fun j=>v≤j∧j≤v+(Z1 Z4 r.fCells v).fW∧∀ k,v≤k→k < j→¬ (a≤Z1 0 x.fL2V k∧Z1 0 x.fL2V k < b)) (fun j=>(v+(Z1 Z4 r.fCells v).fW-j).toNat) ⟨by omega,by omega,fun k k0 k1=>by omega⟩ ?_
   rintro j ⟨j0,j1,hj⟩
   refine .chk (Zm (by omega) (by omega)) (.ite (fun hlt=>?_) (fun hge=>.ret ?_))
   · have hlt:j < v+(Z1 Z4 r.fCells v).fW:=by simpa using hlt
     have hjn:j < Z0 x.fL2V:=by
      rw [hx.l]
      by_cases e:(Z1 Z4 r.fCells v).fW=2
      · have:=(PP e).1;omega
      · omega
     have e2 : ∀ z:Bool,(if (decide (a≤(Z1 0 x.fL2V j)))=true then (decide ((Z1 0 x.fL2V j) < b)) else false)=z→(z=true ↔ (a≤Z1 0 x.fL2V j∧Z1 0 x.fL2V j < b)):=by
      intro z hz
      subst hz
      by_cases h1:a≤Z1 0 x.fL2V j
      · simp [h1]
      · simp [h1]
     refine .chk ⟨by omega,hjn⟩ (.chk (fun _=>⟨by omega,hjn⟩) (.ite (fun hin=>.chk (grOk (by omega) (by omega) (by omega)) (.ret ?_)) (fun hin=>.chk (Zm (by omega) (by omega)) (.ret ⟨⟨by omega,by omega,fun k k0 k1=>?_⟩,by simp only;omega⟩))))
     · have hin:=(e2 _ hin).1 rfl
       show _=_
       rw [if_pos (cellP_iff.2 ⟨j,j0,hlt,hin⟩)]
     · by_cases e:k=j
       · subst e
         have:=e2 _ hin
         intro hh
         exact absurd (this.2 hh) (by decide)
       · exact hj k k0 (by omega)
   · have hge : ¬ j < v+(Z1 Z4 r.fCells v).fW:=by simpa using hge
     show _=_
     rw [if_neg (fun hc=>?_)]
     obtain ⟨k,k0,k1,k2⟩:=cellP_iff.1 hc
     exact hj k k0 (by omega) k2
 · have h : ¬ v < Z0 r.fCells:=by simpa using h
   have:v=Z0 r.fCells:=by omega
   subst this
   exact .ret rfl
theorem mark_step {γ:Type} {l:List Int} {m c:Int} {Q:Fl (List Int) γ→Prop} (hl:Z0 l≤900000) (hc:inR .i64 c) (hq:Q (.go (l++(if m=0 then [] else [m])))) :
  Zd (Z7 (!(m == 0)) (chk (Yt 8 ((Z0 l)+1)) <| chk (inR .i64 c) <| some (.go (l++([m]:List Int)))) (chk (inR .i64 c) <| some (.go l))) Q:=by
 have hn:=Zc l
 refine .ite (fun h=>?_) (fun h=>?_)
 · have h : ¬ m=0:=by simpa using h
   rw [if_neg h] at hq
   exact .chk (grOk (by omega) (by omega) (by omega)) (.chk hc (.ret hq))
 · have h:m=0:=by simpa using h
   rw [if_pos h,List.append_nil] at hq
   exact .chk hc (.ret hq)
theorem text_eq {r:Z5} {l:List Int} (hs:Q6 r=some true) (hb:Z0 l≤10000) (hl : ∀ i,0≤i→i < Z0 l→0≤Z1 0 l i∧Z1 0 l i < Z0 r.fCells∧(Z1 Z4 r.fCells (Z1 0 l i)).fW≠0) :
  Z3d r l=some (txtL r.fCells l):=by
 have hn:=Zc l
 refine Zd.eq ?_
 unfold Z3d
 refine .call (b:=true) hs (.ite (fun h=>by cases h) (fun _=>?_))
 refine .cut (fun o=>o = .go (txtL r.fCells l)) ?_ (fun o ho=>by subst ho;exact .go (.ret rfl))
 refine .loop (fun (v,o)=>0≤v∧v≤Z0 l∧o=txtL r.fCells (l.take v.toNat)) (fun (v,_)=>(Z0 l-v).toNat) ⟨by omega,by omega,rfl⟩ ?_
 rintro ⟨v,o⟩ ⟨v0,v1,ho⟩
 simp only at v0 v1 ho ⊢
 refine .ite (fun h=>?_) (fun h=>?_)
 · have h:v < Z0 l:=by simpa using h
   obtain ⟨a0,a1,a2⟩:=hl v v0 h
   have e1:(if (decide ((Z1 0 l v) < 0))=true then true else (decide ((Z0 r.fCells)≤(Z1 0 l v))))=false:=by
    rw [decide_eq_false (by omega),decide_eq_false (by omega)];rfl
   have e2:((Z1 Z4 r.fCells (Z1 0 l v)).fW == 0)=false:=by simpa using a2
   have hlen:=txtL_len r.fCells (l.take v.toNat)
   have htl:Z0 (l.take v.toNat)≤Z0 l:=by simp only [Z0,List.length_take];omega
   rw [← ho] at hlen
   have ho0:=Zc o
   refine .cut (fun q=>q = .go (txtL r.fCells (l.take (v+1).toNat))) (.chk ⟨v0,h⟩ ?_) (fun q hq=>by
    subst hq
    exact .go (.chk (Zm (by omega) (by omega)) (.ret ⟨⟨by simp only;omega,by simp only;omega,rfl⟩,by simp only;omega⟩)))
   refine .chk (fun _=>⟨a0,a1⟩) ?_
   simp only [e1,e2]
   refine .ite (fun h=>by cases h) (fun _=>.chk ⟨a0,a1⟩ ?_)
   refine .cut (fun q=>q = .go (letC (Z1 Z4 r.fCells (Z1 0 l v)))) (.ite (fun h=>.ret ?_) (fun h=>.ret ?_)) (fun q hq=>?_)
   · have h:(Z1 Z4 r.fCells (Z1 0 l v)).fR=0:=by simpa using h
     unfold letC;rw [if_pos h]
   · have h : ¬ (Z1 Z4 r.fCells (Z1 0 l v)).fR=0:=by simpa using h
     unfold letC;rw [if_neg h]
   subst hq
   refine .go (.chk (grOk (by omega) (by omega) (by omega)) (.cut (fun q=>q = .go ((o++[letC (Z1 Z4 r.fCells (Z1 0 l v))])++(if (Z1 Z4 r.fCells (Z1 0 l v)).fM.x0=0 then [] else [(Z1 Z4 r.fCells (Z1 0 l v)).fM.x0]))) ?_ (fun q hq=>?_)))
   · refine .ite (fun h=>?_) (fun h=>?_)
     · have h : ¬ (Z1 Z4 r.fCells (Z1 0 l v)).fM.x0=0:=by simpa using h
       rw [if_neg h]
       exact .chk (grOk (by omega) (by omega) (by omega)) (.chk (Zm (by omega) (by omega)) (.ret rfl))
     · have h:(Z1 Z4 r.fCells (Z1 0 l v)).fM.x0=0:=by simpa using h
       rw [if_pos h,List.append_nil]
       exact .chk (Zm (by omega) (by omega)) (.ret rfl)
   subst hq
   refine .go (.cut (fun q=>q = .go (txtL r.fCells (l.take (v+1).toNat))) (mark_step ?_ (Zm (by omega) (by omega)) ?_) (fun q hq=>by subst hq;exact .go (.ret rfl)))
   · have:Z0 (if (Z1 Z4 r.fCells (Z1 0 l v)).fM.x0=0 then [] else [(Z1 Z4 r.fCells (Z1 0 l v)).fM.x0])≤1:=by split<;>simp
     simp only [Zf,Zh,Zo]
     omega
   · rw [Z6s 0 v0 h,txtL_app,txtL_one,ho]
     simp only [txtC,List.append_assoc]
 · have h : ¬ v < Z0 l:=by simpa using h
   refine .ret ?_
   show Fl.go o=Fl.go _
   rw [ho,Z6t (by omega)]
theorem trim_eq (l:List Int) (hb:Z0 l≤100000):Z4g l=some (Z3n l):=by
 have hn:=Zc l
 refine Zd.eq ?_
 unfold Z4g
 refine .cut (fun o=>o = .go (Z3n l)) ?_ (fun o ho=>by subst ho;exact .go (.ret rfl))
 refine .loop (fun a=>Z3n a=Z3n l∧Z0 a≤Z0 l) (fun a=>(Z0 a).toNat) ⟨rfl,by omega⟩ ?_
 rintro a ⟨ha,hal⟩
 have h0:=Zc a
 refine .chk (fun _=>Zm (by omega) (by omega)) (.chk (fun h=>?_) (.ite (fun h=>?_) (fun h=>.ret ?_)))
 · have:0 < Z0 a:=by simpa using h
   exact ⟨by omega,by omega⟩
 · by_cases hp:0 < Z0 a
   · rw [decide_eq_true hp] at h
     have h:Z1 0 a (Z0 a-1)=32:=by simpa using h
     have hs:=snocL hp
     rw [h] at hs
     have hl2:Z0 (Xx a 0 (Z0 a-1))=Z0 a-1:=by
      have:=congrArg Z0 hs
      rw [Zf] at this
      simp only [Zh,Zo] at this
      omega
     refine .chk (Zm (by omega) (by omega)) (.chk ⟨by omega,by omega,by omega⟩ (.ret ⟨⟨?_,by omega⟩,by simp only;omega⟩))
     rw [← ha]
     conv=>rhs;rw [hs]
     rw [trimL_32]
   · rw [decide_eq_false hp] at h;cases h
 · show Fl.go a=Fl.go (Z3n l)
   rw [← ha]
   by_cases hp:0 < Z0 a
   · rw [decide_eq_true hp] at h
     have h:Z1 0 a (Z0 a-1)≠32:=by simpa using h
     have hs:=snocL hp
     have e:=trimL_no (a:=Xx a 0 (Z0 a-1)) h
     rw [← hs] at e
     rw [e]
   · have:a=[]:=by
      cases a with
      | nil=>rfl
      | cons x a=>simp at hp;have:=Zc a;omega
     subst this
     rfl
theorem Z49 (s:Y4) (l:List Int) (h:Z0 s.fl+Z0 l≤s.fmost) (hb:s.fmost≤1000000):Z25 s l=some ⟨s.fl++l,s.fmost⟩:=by
 have hn:=Zc l
 have hn2:=Zc s.fl
 refine Zd.eq ?_
 unfold Z25
 refine .loop (fun (v,o)=>0≤v∧v≤Z0 l∧o=s.fl++l.take v.toNat) (fun (v,_)=>(Z0 l-v).toNat) ⟨by omega,by omega,by simp⟩ ?_
 rintro ⟨v,o⟩ ⟨v0,v1,ho⟩
 simp only at v0 v1 ho ⊢
 refine .ite (fun hv=>?_) (fun hv=>?_)
 · have hv:v < Z0 l:=by simpa using hv
   have hlo:Z0 o=Z0 s.fl+v:=by
    rw [ho,Zf]
    simp only [Z0,List.length_take] at hv ⊢
    omega
   refine .chk ⟨v0,hv⟩ (.ite (fun hh=>?_) (fun _=>.chk (grOk (by omega) (by omega) (by omega)) (.chk (Zm (by omega) (by omega)) (.ret ⟨⟨by simp only;omega,by simp only;omega,?_⟩,by simp only;omega⟩))))
   · have:s.fmost≤Z0 o:=by simpa using hh
     omega
   · simp only
     rw [Z6s 0 v0 hv,ho,List.append_assoc]
 · have hv : ¬ v < Z0 l:=by simpa using hv
   refine .ret ?_
   show Y4.mk o s.fmost=_
   rw [ho,Z6t (by omega)]
end Go.Vx
end
section
namespace Go.Vx
set_option maxRecDepth 100000
theorem inR_i64 {x:Int} : inR .i64 x ↔ -9223372036854775808≤x∧x≤9223372036854775807:=by
 have e1:IntKind.min .i64 = -9223372036854775808:=by decide
 have e2:IntKind.max .i64=9223372036854775807:=by decide
 unfold inR
 rw [e1,e2]
theorem inR64' {x:Int} (h0 : -9223372036854775808≤x) (h1:x≤9223372036854775807):inR .i64 x:=inR_i64.2 ⟨h0,h1⟩
noncomputable def seenL (x:Zj) (r:Z5) (a b:Int):List Int:=txtL r.fCells (selL (cellP r.fCells x.fL2V a b) (Z0 r.fCells).toNat)
theorem seenL_len (x:Zj) (r:Z5) (a b:Int):Z0 (seenL x r a b)≤3*Z0 r.fCells:=by
 have h1:=txtL_len r.fCells (selL (cellP r.fCells x.fL2V a b) (Z0 r.fCells).toNat)
 have h2:=selL_len (cellP r.fCells x.fL2V a b) (Z0 r.fCells).toNat
 have h3:=Zc r.fCells
 unfold seenL
 omega
theorem cell_mem {cells:List Zi} {g:List Int} {a b:Int} {n:Nat} {i:Int} (h0:0≤i) (h1:i < Z0 (selL (cellP cells g a b) n)) :
  0≤Z1 0 (selL (cellP cells g a b) n) i∧Z1 0 (selL (cellP cells g a b) n) i < n∧(Z1 Z4 cells (Z1 0 (selL (cellP cells g a b) n) i)).fW≠0:=by
 obtain ⟨p1,p2,p3⟩:=(selL_mem _ n _).1 (Z78 0 h0 h1)
 refine ⟨p1,p2,fun h=>?_⟩
 obtain ⟨j,j0,j1,-⟩:=cellP_iff.1 p3
 omega
theorem seen_eq {x:Zj} {r:Z5} (hs:Q6 r=some true) (hb:Z0 r.fCells≤1000) (a b:Int):Z3d r (selL (cellP r.fCells x.fL2V a b) (Z0 r.fCells).toNat)=some (seenL x r a b):=by
 have h2:=selL_len (cellP r.fCells x.fL2V a b) (Z0 r.fCells).toNat
 have h3:=Zc r.fCells
 refine text_eq hs (by omega) (fun i i0 i1=>?_)
 obtain ⟨p1,p2,p3⟩:=cell_mem i0 i1
 exact ⟨p1,by omega,p3⟩
theorem trimL_or (w:Bool) (l:List Int):Z0 (if w=true then l else Z3n l)≤Z0 l:=by
 have:=trimL_len l
 split<;>omega
def catL (f:Int→List Int) (a:Int):Nat→List Int
 | 0=>[]
 | n+1=>catL f a n++f (a+n)
structure Z4m (rows:List Z5) (l:List Zj):Prop where
 few:FewP rows
 len:Z0 l=Z0 rows
 row : ∀ y,0≤y→y < Z0 rows→RowP (Z1 Z3 rows y)∧Q6 (Z1 Z3 rows y)=some true∧SeenP (Z1 Z3 rows y) (Z1 Ya l y)
noncomputable def Z57 (rows:List Z5) (l:List Zj) (a b:Zg) (y:Int):List Int :=
 (if (Z1 Z3 rows y).fWrap=true then seenL (Z1 Ya l y) (Z1 Z3 rows y) (if y=a.fY then a.fX else 0) (if y=b.fY then Yo b.fX 4096+1 else Z0 (Z1 Z3 rows y).fCells)
  else Z3n (seenL (Z1 Ya l y) (Z1 Z3 rows y) (if y=a.fY then a.fX else 0) (if y=b.fY then Yo b.fX 4096+1 else Z0 (Z1 Z3 rows y).fCells))) ++
 (if y < b.fY∧¬ (Z1 Z3 rows y).fWrap=true then [10] else [])
theorem spanR_len {rows:List Z5} {l:List Zj} {a b:Zg} {y:Int} (hb:Z0 (Z1 Z3 rows y).fCells≤100):Z0 (Z57 rows l a b y)≤301:=by
 have h1:=seenL_len (Z1 Ya l y) (Z1 Z3 rows y) (if y=a.fY then a.fX else 0) (if y=b.fY then Yo b.fX 4096+1 else Z0 (Z1 Z3 rows y).fCells)
 have h2:=trimL_or (Z1 Z3 rows y).fWrap (seenL (Z1 Ya l y) (Z1 Z3 rows y) (if y=a.fY then a.fX else 0) (if y=b.fY then Yo b.fX 4096+1 else Z0 (Z1 Z3 rows y).fCells))
 have h3:Z0 (if y < b.fY∧¬ (Z1 Z3 rows y).fWrap=true then [(10:Int)] else [])≤1:=by split<;>simp
 unfold Z57
 rw [Zf]
 omega
theorem catL_span {rows:List Z5} {l:List Zj} (hS:Z4m rows l) {f:Int→List Int} {k:Int} (hk:0≤k) (hf : ∀ y,0≤y→y < Z0 rows→Z0 (f y)≤k) {a:Int} (a0:0≤a) : ∀ n:Nat,a+n≤Z0 rows→Z0 (catL f a n)≤k*n
 | 0,_=>by simp [catL]
 | n+1,h=>by
  have:=catL_span hS hk hf a0 n (by omega)
  have h2:=hf (a+n) (by omega) (by omega)
  unfold catL
  rw [Zf,show k*((n+1:Nat):Int)=k*n+k by push_cast;rw [Int.mul_add,Int.mul_one]]
  omega
theorem span1_eq {rows:List Z5} {l:List Zj} (hS:Z4m rows l) {a b:Zg} {most:Int} (a0:0≤a.fY) (ab:a.fY≤b.fY) (b1:b.fY < Z0 rows) (hx:inR .i64 b.fX) (m0:20000≤most) (m1:most≤1000000) :
  Z3r ⟨[],most⟩ a b rows l=some ⟨catL (Z57 rows l a b) a.fY (b.fY+1-a.fY).toNat,most⟩:=by
 have hl:=hS.few.1
 have hbe:Z0h b.fX=some (Yo b.fX 4096+1):=by
  unfold Z0h
  refine Yp ?_
  have hb : -9223372036854775808≤b.fX:=(inR_i64.1 hx).1
  exact inR64' (by unfold Yo;split<;>omega) (by unfold Yo;split<;>omega)
 refine Zd.eq ?_
 unfold Z3r
 refine .loop (fun (y,m,o)=>a.fY≤y∧y≤b.fY+1∧m=most∧o=catL (Z57 rows l a b) a.fY (y-a.fY).toNat) (fun (y,_,_)=>(b.fY+1-y).toNat) ⟨by omega,by omega,rfl,by rw [Int.sub_self];rfl⟩ ?_
 rintro ⟨y,m,o⟩ ⟨y0,y1,hm,ho⟩
 simp only at y0 y1 hm ho ⊢
 subst hm
 refine .ite (fun h=>?_) (fun h=>?_)
 · have h:y≤b.fY:=by simpa using h
   have yr:y < Z0 rows:=by omega
   obtain ⟨hr,hs,hv⟩:=hS.row y (by omega) yr
   have hw:=hS.few.2 y (by omega) yr
   have hlo:=catL_span hS (show (0:Int)≤301 by omega) (f:=Z57 rows l a b) (fun z z0 z1=>spanR_len (hS.few.2 z z0 z1)) a0 (y-a.fY).toNat (by omega)
   rw [← ho] at hlo
   have h60:((y-a.fY).toNat:Int)≤59:=by omega
   have hsl:=seenL_len (Z1 Ya l y) (Z1 Z3 rows y) (if y=a.fY then a.fX else 0) (if y=b.fY then Yo b.fX 4096+1 else Z0 (Z1 Z3 rows y).fCells)
   have hst:catL (Z57 rows l a b) a.fY (y+1-a.fY).toNat=o++Z57 rows l a b y:=by
    rw [show (y+1-a.fY).toNat=(y-a.fY).toNat+1 by omega]
    conv=>lhs;unfold catL
    rw [← ho,show a.fY+((y-a.fY).toNat:Int)=y by omega]
   refine .cut (fun q=>q = .go (m,o++Z57 rows l a b y)) (.chk ⟨by omega,yr⟩ (.cut (fun q=>q = .go (if y=a.fY then a.fX else 0)) (.ite (fun h=>.ret ?_) (fun h=>.ret ?_)) (fun q hq=>?_))) (fun q hq=>by
    subst hq
    exact .go (.chk (Zm (by omega) (by omega)) (.ret ⟨⟨by simp only;omega,by simp only;omega,rfl,by simp only;rw [hst]⟩,by simp only;omega⟩)))
   · have h:y=a.fY:=by simpa using h
     rw [if_pos h]
   · have h : ¬ y=a.fY:=by simpa using h
     rw [if_neg h]
   subst hq
   refine .go (.cut (fun q=>q = .go (if y=b.fY then Yo b.fX 4096+1 else Z0 (Z1 Z3 rows y).fCells)) (.ite (fun h=>.call hbe (.ret ?_)) (fun h=>.ret ?_)) (fun q hq=>?_))
   · have h:y=b.fY:=by simpa using h
     rw [if_pos h]
   · have h : ¬ y=b.fY:=by simpa using h
     rw [if_neg h]
   subst hq
   refine .go (.chk ⟨by omega,yr⟩ (.chk ⟨by omega,by rw [hS.len];exact yr⟩ (.chk ⟨by omega,yr⟩ (.call (cells_eq hr hs hv (by omega) _ _) (.call (seen_eq hs (by omega) _ _) ?_)))))
   generalize hT:seenL (Z1 Ya l y) (Z1 Z3 rows y) (if y=a.fY then a.fX else 0) (if y=b.fY then Yo b.fX 4096+1 else Z0 (Z1 Z3 rows y).fCells)=T at hsl ⊢
   have hR:Z57 rows l a b y=(if (Z1 Z3 rows y).fWrap=true then T else Z3n T)++(if y < b.fY∧¬ (Z1 Z3 rows y).fWrap=true then [10] else []):=by
    unfold Z57;rw [hT]
   have htl:=trimL_or (Z1 Z3 rows y).fWrap T
   refine .cut (fun q=>q = .go (if (Z1 Z3 rows y).fWrap=true then T else Z3n T)) (.chk ⟨by omega,yr⟩ (.ite (fun h=>.call (trim_eq T (by omega)) (.ret ?_)) (fun h=>.ret ?_))) (fun q hq=>?_)
   · have h : ¬ (Z1 Z3 rows y).fWrap=true:=by simpa using h
     rw [if_neg h]
   · have h:(Z1 Z3 rows y).fWrap=true:=by simpa using h
     rw [if_pos h]
   subst hq
   refine .go (.call (Z49 ⟨o,m⟩ _ (by simp only;omega) (by simp only;omega)) (.chk (fun _=>⟨by omega,yr⟩) (.ite (fun h=>.call (Z49 _ _ (by simp only [Zf,Zh,Zo];omega) (by simp only;omega)) (.ret ?_)) (fun h=>.ret ?_))))
   · have hc:y < b.fY∧¬ (Z1 Z3 rows y).fWrap=true:=by
      by_cases h1:y < b.fY
      · rw [decide_eq_true h1] at h;exact ⟨h1,by simpa using h⟩
      · rw [decide_eq_false h1] at h;cases h
     rw [hR,if_pos hc,List.append_assoc]
   · have hc : ¬ (y < b.fY∧¬ (Z1 Z3 rows y).fWrap=true):=by
      rintro ⟨h1,h2⟩
      rw [decide_eq_true h1] at h
      exact h2 (by simpa using h)
     rw [hR,if_neg hc,List.append_nil]
 · have h : ¬ y≤b.fY:=by simpa using h
   refine .ret ?_
   show Y4.mk o m=_
   rw [ho,show y=b.fY+1 by omega]
end Go.Vx
end
section
namespace Go.Vx
set_option maxRecDepth 100000
theorem rowsSeen_of {l:List Z5} (hF:FewP l) (hs:Q2 l=some true) (hR:RowsP l) (boxes:Bool):Zd (Z2n Xi l boxes) (Z4m l):=by
 have hl:=hF.1
 refine (all_yields hF hs hR boxes).mono fun o ho=>⟨hF,ho.1,fun y y0 y1=>⟨hR y y0 y1,sane_at (by omega) hs y y0 y1,?_⟩⟩
 obtain ⟨x,hx,hx2⟩:=map_yields hF hR boxes hs y0 y1
 rw [ho.2 y y0 y1] at hx
 cases hx
 exact hx2.2.1
def Qq (last y:Int):Int:=Yn 0 (Yo y last)
theorem Z33 {last y:Int} (h:0≤last):0≤Qq last y∧Qq last y≤last:=by
 unfold Qq Yn Yo
 constructor<;>repeat' split
 all_goals omega
def Z65 (last:Int) (a b:Zg):Bool:=if (decide ((Qq last b.fY) < (Qq last a.fY)))=true then true else (if ((Qq last a.fY) == (Qq last b.fY))=true then (decide (b.fX < a.fX)) else false)
theorem Z66 {last:Int} {a b:Zg} : Z65 last a b=true ↔ (Qq last b.fY < Qq last a.fY∨(Qq last a.fY=Qq last b.fY∧b.fX < a.fX)):=by
 unfold Z65
 by_cases h1:Qq last b.fY < Qq last a.fY
 · simp [h1]
 · by_cases h2:Qq last a.fY=Qq last b.fY
   · simp [h2]
   · simp [h1,h2]
def sortP (last:Int) (a b:Zg):Zg × Zg :=
 if Z65 last a b=true then (⟨Qq last b.fY,b.fX⟩,⟨Qq last a.fY,a.fX⟩) else (⟨Qq last a.fY,a.fX⟩,⟨Qq last b.fY,b.fX⟩)
theorem sortP_comm (last:Int) (a b:Zg):sortP last a b=sortP last b a:=by
 unfold sortP
 by_cases h1:Z65 last a b=true
 · by_cases h2:Z65 last b a=true
   · rw [Z66] at h1 h2;omega
   · rw [if_pos h1,if_neg h2]
 · by_cases h2:Z65 last b a=true
   · rw [if_neg h1,if_pos h2]
   · rw [if_neg h1,if_neg h2]
     rw [Z66] at h1 h2
     have e1:Qq last a.fY=Qq last b.fY:=by omega
     have e2:a.fX=b.fX:=by omega
     rw [e1,e2]
theorem sortP_le (last:Int) (a b:Zg):(sortP last a b).1.fY≤(sortP last a b).2.fY:=by
 unfold sortP
 split
 next h=>rw [Z66] at h;simp only;omega
 next h=>rw [Z66] at h;simp only;omega
theorem span_eq {rows:List Z5} {l:List Zj} (hS:Z4m rows l) (h1:1≤Z0 rows) {a b:Zg} (ha:inR .i64 a.fX) (hb:inR .i64 b.fX) :
  Qn l rows a b 65536=some (catL (Z57 rows l (sortP (Z0 rows-1) a b).1 (sortP (Z0 rows-1) a b).2) (sortP (Z0 rows-1) a b).1.fY ((sortP (Z0 rows-1) a b).2.fY+1-(sortP (Z0 rows-1) a b).1.fY).toNat,true):=by
 have hl:=hS.few.1
 have hla:=hS.len
 have e1:(if (!((Z0 l) == (Z0 rows)))=true then true else ((Z0 rows) == 0))=false:=by
  rw [hla];simp;omega
 have ca:=Z33 (last:=Z0 rows-1) (y:=a.fY) (by omega)
 have cb:=Z33 (last:=Z0 rows-1) (y:=b.fY) (by omega)
 have hr0:0≤(sortP (Z0 rows-1) a b).1.fY∧(sortP (Z0 rows-1) a b).2.fY < Z0 rows∧inR .i64 (sortP (Z0 rows-1) a b).2.fX:=by
  unfold sortP
  split
  · exact ⟨cb.1,by simp only;omega,ha⟩
  · exact ⟨ca.1,by simp only;omega,hb⟩
 have hf:Z09 65536 (sortP (Z0 rows-1) a b).1 (sortP (Z0 rows-1) a b).2 rows l=some (catL (Z57 rows l (sortP (Z0 rows-1) a b).1 (sortP (Z0 rows-1) a b).2) (sortP (Z0 rows-1) a b).1.fY ((sortP (Z0 rows-1) a b).2.fY+1-(sortP (Z0 rows-1) a b).1.fY).toNat,true):=by
  unfold Z09
  rw [show Yn 0 (Yo 65536 65536)=65536 by decide,span1_eq hS hr0.1 (sortP_le _ _ _) hr0.2.1 hr0.2.2 (by omega) (by omega)]
  rfl
 refine Zd.eq ?_
 unfold Qn
 simp only [e1]
 refine .ite (fun h=>by cases h) (fun _=>.chk (Zm (by omega) (by omega)) ?_)
 refine .cut (fun q=>q = .go ((sortP (Z0 rows-1) a b).1.fY,(sortP (Z0 rows-1) a b).1.fX,(sortP (Z0 rows-1) a b).2.fY,(sortP (Z0 rows-1) a b).2.fX)) (.ite (fun h=>.ret ?_) (fun h=>.ret ?_)) (fun q hq=>?_)
 · have h:Z65 (Z0 rows-1) a b=true:=h
   unfold sortP;rw [if_pos h];rfl
 · have h : ¬ Z65 (Z0 rows-1) a b=true:=by
    have:Z65 (Z0 rows-1) a b=false:=h
    rw [this];decide
   unfold sortP;rw [if_neg h];rfl
 subst hq
 exact .go (.call hf (.ret rfl))
theorem span_len {rows:List Z5} {l:List Zj} (hS:Z4m rows l) (a b:Zg) (h0:0≤a.fY) (h1:a.fY≤b.fY) (h2:b.fY < Z0 rows):Z0 (catL (Z57 rows l a b) a.fY (b.fY+1-a.fY).toNat)≤20000:=by
 have hl:=hS.few.1
 have:=catL_span hS (show (0:Int)≤301 by omega) (f:=Z57 rows l a b) (fun z z0 z1=>spanR_len (hS.few.2 z z0 z1)) h0 (b.fY+1-a.fY).toNat (by omega)
 omega
end Go.Vx
end
section
namespace Go.Vx
set_option maxRecDepth 100000
theorem imax_comm (a b:Int):Yn a b=Yn b a:=by
 unfold Yn
 split<;>split<;>omega
theorem imin_comm (a b:Int):Yo a b=Yo b a:=by
 unfold Yo
 split<;>split<;>omega
theorem rect_comm (l:List Zj) (rows:List Z5) (a b:Zg) (m:Int):Q8 l rows a b m=Q8 l rows b a m:=by
 unfold Q8
 rw [imax_comm a.fX b.fX,imin_comm a.fX b.fX,imax_comm a.fY b.fY,imin_comm a.fY b.fY]
theorem rect1_yields {rows:List Z5} {l:List Zj} (hS:Z4m rows l) {t e:Int} {most:Int} (a0:0≤t) (b1:e < Z0 rows) (m0:20000≤most) (m1:most≤1000000) (p q:Int) :
  Zd (Z3s ⟨[],most⟩ t e rows l p q) (fun s=>Z0 s.fl≤20000):=by
 have hl:=hS.few.1
 unfold Z3s
 refine .loop (fun (y,m,o)=>t≤y∧m=most∧(y=t∨y≤e+1)∧Z0 o≤301*(y-t)) (fun (y,_,_)=>(e+1-y).toNat) ⟨by omega,rfl,.inl rfl,by simp⟩ ?_
 rintro ⟨y,m,o⟩ ⟨y0,hm,y1,ho⟩
 simp only at y0 y1 hm ho ⊢
 subst hm
 have o0:=Zc o
 refine .ite (fun h=>?_) (fun h=>.ret ?_)
 · have h:y≤e:=by simpa using h
   have yr:y < Z0 rows:=by omega
   obtain ⟨hr,hs,hv⟩:=hS.row y (by omega) yr
   have hw:=hS.few.2 y (by omega) yr
   have hsl:=seenL_len (Z1 Ya l y) (Z1 Z3 rows y) p q
   refine .chk ⟨by omega,yr⟩ (.chk ⟨by omega,by rw [hS.len];exact yr⟩ (.chk ⟨by omega,yr⟩ (.call (cells_eq hr hs hv (by omega) _ _) (.call (seen_eq hs (by omega) _ _) ?_))))
   generalize seenL (Z1 Ya l y) (Z1 Z3 rows y) p q=T at hsl ⊢
   have htl:=trimL_len T
   have ht0:=Zc (Z3n T)
   refine .call (trim_eq T (by omega)) (.call (Z49 ⟨o,m⟩ _ (by simp only;omega) (by simp only;omega)) (.ite (fun h=>.call (Z49 _ _ (by simp only [Zf,Zh,Zo];omega) (by simp only;omega)) (.chk (Zm (by omega) (by omega)) (.ret ?_))) (fun h=>.chk (Zm (by omega) (by omega)) (.ret ?_))))
   · exact ⟨⟨by simp only;omega,rfl,.inr (by simp only;omega),by simp only [Zf,Zh,Zo];omega⟩,by simp only;omega⟩
   · exact ⟨⟨by simp only;omega,rfl,.inr (by simp only;omega),by simp only [Zf];omega⟩,by simp only;omega⟩
 · have h : ¬ y≤e:=by simpa using h
   show Z0 o≤20000
   omega
theorem rect_yields {rows:List Z5} {l:List Zj} (hS:Z4m rows l) (h1:1≤Z0 rows) {a b:Zg} (ha:inR .i64 a.fX) (hb:inR .i64 b.fX) :
  Zd (Q8 l rows a b 65536) (fun p=>Z0 p.1≤20000):=by
 have hl:=hS.few.1
 have e1:(if (!((Z0 l) == (Z0 rows)))=true then true else ((Z0 rows) == 0))=false:=by
  rw [hS.len];simp;omega
 have hbe:Z0h (Yn a.fX b.fX)=some (Yo (Yn a.fX b.fX) 4096+1):=by
  unfold Z0h
  refine Yp ?_
  have h1:=inR_i64.1 ha
  have h2:=inR_i64.1 hb
  have h3 : -9223372036854775808≤Yn a.fX b.fX:=by unfold Yn;split<;>omega
  exact inR64' (by unfold Yo;split<;>omega) (by unfold Yo;split<;>omega)
 have c1:=Z33 (last:=Z0 rows-1) (y:=Yo a.fY b.fY) (by omega)
 have c2:=Z33 (last:=Z0 rows-1) (y:=Yn a.fY b.fY) (by omega)
 unfold Q8
 simp only [e1]
 refine .ite (fun h=>by cases h) (fun _=>.chk (Zm (by omega) (by omega)) (.call hbe (.bind (fun p=>Z0 p.1≤20000) ?_ fun p hp=>.ret hp)))
 unfold Z2o
 rw [show Yn 0 (Yo 65536 65536)=65536 by decide]
 exact .bind _ (rect1_yields hS (t:=Qq (Z0 rows-1) (Yo a.fY b.fY)) (e:=Qq (Z0 rows-1) (Yn a.fY b.fY)) c1.1 (by omega) (by omega) (by omega) _ _) fun s hs=>.ret hs
theorem span_none {rows:List Z5} {l:List Zj} (h:Z0 l=0) (a b:Zg) (m:Int):Qn l rows a b m=some ([],true):=by
 have e1:(if (!((Z0 l) == (Z0 rows)))=true then true else ((Z0 rows) == 0))=true:=by
  rw [h]
  by_cases e:Z0 rows=0
  · simp [e]
  · have:((0:Int) == Z0 rows)=false:=by simpa using fun h=>e h.symm
    rw [this];rfl
 unfold Qn
 rw [e1];rfl
theorem rect_none {rows:List Z5} {l:List Zj} (h:Z0 l=0) (a b:Zg) (m:Int):Q8 l rows a b m=some ([],true):=by
 have e1:(if (!((Z0 l) == (Z0 rows)))=true then true else ((Z0 rows) == 0))=true:=by
  rw [h]
  by_cases e:Z0 rows=0
  · simp [e]
  · have:((0:Int) == Z0 rows)=false:=by simpa using fun h=>e h.symm
    rw [this];rfl
 unfold Q8
 rw [e1];rfl
theorem copyTurned_true (l:List Z5) (a b:Y5) (ha:inR .i64 a.fX) (hb:inR .i64 b.fX):Qe l a b=some true:=by
 have hn:=Zc l
 refine Zd.eq ?_
 unfold Qe
 refine .call awake_true (.bind _ (few_yields l) fun v1 h1=>.ite (fun _=>.ret rfl) (fun h=>?_))
 have hF:FewP l:=h1 (by simpa using h)
 have hl:=hF.1
 have key:Zd (Z2n Xi l false) (fun o=>∃ T P,Z0 T≤100000∧Z0 P≤100000∧(∃ z,Qn o l ⟨a.fY,a.fX⟩ ⟨b.fY,b.fX⟩ 65536=some (T,z))∧(∃ z,Qn o l ⟨b.fY,b.fX⟩ ⟨a.fY,a.fX⟩ 65536=some (T,z)) ∧
   (∃ z,Q8 o l ⟨a.fY,a.fX⟩ ⟨b.fY,b.fX⟩ 65536=some (P,z))∧(∃ z,Q8 o l ⟨b.fY,b.fX⟩ ⟨a.fY,a.fX⟩ 65536=some (P,z))):=by
  have none : ∀ o:List Zj,Z0 o=0→∃ T P,Z0 T≤100000∧Z0 P≤100000∧(∃ z,Qn o l ⟨a.fY,a.fX⟩ ⟨b.fY,b.fX⟩ 65536=some (T,z))∧(∃ z,Qn o l ⟨b.fY,b.fX⟩ ⟨a.fY,a.fX⟩ 65536=some (T,z)) ∧
   (∃ z,Q8 o l ⟨a.fY,a.fX⟩ ⟨b.fY,b.fX⟩ 65536=some (P,z))∧(∃ z,Q8 o l ⟨b.fY,b.fX⟩ ⟨a.fY,a.fX⟩ 65536=some (P,z)):=fun o ho =>
    ⟨[],[],by simp,by simp,⟨true,span_none ho _ _ _⟩,⟨true,span_none ho _ _ _⟩,⟨true,rect_none ho _ _ _⟩,⟨true,rect_none ho _ _ _⟩⟩
  rcases sane_two l (by omega) with hs | ⟨hs,hR⟩
  · refine ⟨[],?_,none [] rfl⟩
    unfold Z2n;rw [hs];rfl
  · refine (rowsSeen_of hF hs hR false).mono fun o hS=>?_
    by_cases h0:Z0 l=0
    · exact none o (by rw [hS.len,h0])
    · have s1:=span_eq hS (by omega) (a:=⟨a.fY,a.fX⟩) (b:=⟨b.fY,b.fX⟩) ha hb
      have s2:=span_eq hS (by omega) (a:=⟨b.fY,b.fX⟩) (b:=⟨a.fY,a.fX⟩) hb ha
      rw [sortP_comm _ ⟨b.fY,b.fX⟩ ⟨a.fY,a.fX⟩] at s2
      have ca:=Z33 (last:=Z0 l-1) (y:=a.fY) (by omega)
      have cb:=Z33 (last:=Z0 l-1) (y:=b.fY) (by omega)
      have hr0:0≤(sortP (Z0 l-1) ⟨a.fY,a.fX⟩ ⟨b.fY,b.fX⟩).1.fY∧(sortP (Z0 l-1) ⟨a.fY,a.fX⟩ ⟨b.fY,b.fX⟩).2.fY < Z0 l:=by
       unfold sortP
       split
       · exact ⟨cb.1,by simp only;omega⟩
       · exact ⟨ca.1,by simp only;omega⟩
      have sl:=span_len hS _ _ hr0.1 (sortP_le _ _ _) hr0.2
      obtain ⟨⟨P,z⟩,r1,r2⟩:=rect_yields hS (by omega) (a:=⟨a.fY,a.fX⟩) (b:=⟨b.fY,b.fX⟩) ha hb
      have r3:=r1
      rw [rect_comm] at r3
      exact ⟨_,P,by omega,by simp only at r2;omega,⟨_,s1⟩,⟨_,s2⟩,⟨z,r1⟩,⟨z,r3⟩⟩
 refine .call load_eq (.bind _ key fun o ho=>?_)
 obtain ⟨T,P,hT,hP,⟨z1,s1⟩,⟨z2,s2⟩,⟨z3,r1⟩,⟨z4,r2⟩⟩:=ho
 have pt : ∀ p:Y5,Yl p=some ⟨p.fY,p.fX⟩:=fun p=>rfl
 refine .call (pt a) (.call (pt b) (.call s1 (.call (pt b) (.call (pt a) (.call s2 (.call (pt a) (.call (pt b) (.call r1 (.call (pt b) (.call (pt a) (.call r2 ?_)))))))))))
 exact .call (ints_same T hT) (.call (ints_same P hP) (.ret rfl))
end Go.Vx
end
