/- ViewApart and ViewAll, as plain laws. No conditions. -/
import Derived.Test.YtkaphbmifenkbaaGreatDoorVLInv
set_option linter.all false
namespace Go.Vx
set_option maxRecDepth 100000
theorem ints_same (a:List Int) (hb:lenL a≤100000):lapwingref03_Ints a a=some true:=by rw [ints_eq (by omega),decide_eq_true rfl]
theorem cells_same (a:List T_api_Cell) (hb:lenL a≤100000):lapwingref08_Cells a a=some true:=by
 have hn:=lenL_nn a
 refine Yields.eq ?_
 unfold lapwingref08_Cells
 refine .ite (fun h=>by simp at h) (fun _=>?_)
 refine .cut (fun r=>r = .go ()) ?_ (fun r hr=>by subst hr;exact .go (.ret rfl))
 refine .loop (fun i=>0≤i∧i≤lenL a) (fun i=>(lenL a-i).toNat) ⟨by omega,by omega⟩ ?_
 rintro i ⟨i0,i1⟩
 refine .ite (fun h=>?_) (fun _=>.ret rfl)
 have h:i < lenL a:=by simpa using h
 exact .chk ⟨i0,h⟩ (.chk ⟨i0,h⟩ (.ite (fun hh=>by simp at hh) (fun _=>.chk (inR64 (by omega) (by omega)) (.ret ⟨⟨by omega,by omega⟩,by simp only;omega⟩))))
theorem sane_iff {l:List T_api_Row} (hb:lenL l≤100000):Yields (view_sane l) (fun b=>(b=true→∀ i,0≤i→i < lenL l→row_Sane (getL d_api_Row l i)=some true)∧(b=false→∃ i,0≤i∧i < lenL l∧row_Sane (getL d_api_Row l i)=some false)):=by
 unfold view_sane
 have hn:=lenL_nn l
 refine .cut (fun o=>(o = .go ()∧∀ i,0≤i→i < lenL l→row_Sane (getL d_api_Row l i)=some true)∨(o = .out false∧∃ i,0≤i∧i < lenL l∧row_Sane (getL d_api_Row l i)=some false)) ?_ ?_
 · refine .loop (fun v=>0≤v∧v≤lenL l∧∀ i,0≤i→i < v→row_Sane (getL d_api_Row l i)=some true) (fun v=>(lenL l-v).toNat) ⟨by omega,by omega,fun i a b=>by omega⟩ ?_
   rintro v ⟨v0,v1,hv⟩
   refine .ite (fun h=>?_) (fun h=>?_)
   · have h:v < lenL l:=by simpa using h
     obtain ⟨b,hb1,-⟩:=row_yields (getL d_api_Row l v)
     refine .chk ⟨v0,h⟩ (.call hb1 (.ite (fun hc=>.ret (.inr ⟨rfl,v,v0,h,?_⟩)) (fun hc=>.chk (inR64 (by omega) (by omega)) (.ret ⟨⟨by omega,by omega,fun i a c=>?_⟩,by show (_-_:Int).toNat < (_-_:Int).toNat;omega⟩))))
     · rw [hb1,show b=false by simpa using hc]
     · by_cases e:i=v
       · subst e;rw [hb1,show b=true by simpa using hc]
       · exact hv i a (by omega)
   · have h : ¬ v < lenL l:=by simpa using h
     exact .ret (.inl ⟨rfl,fun i a c=>hv i a (by omega)⟩)
 · rintro o (⟨rfl,h⟩ | ⟨rfl,h⟩)
   · exact .go (.ret ⟨fun _=>h,fun h=>by cases h⟩)
   · exact .out ⟨fun h=>(by cases h),fun _=>h⟩
theorem sane_of {l:List T_api_Row} (hb:lenL l≤100000) (h : ∀ i,0≤i→i < lenL l→row_Sane (getL d_api_Row l i)=some true):view_sane l=some true:=by
 obtain ⟨b,h1,h2,h3⟩:=sane_iff hb
 cases b with
 | true=>exact h1
 | false =>
  obtain ⟨i,i0,i1,hi⟩:=h3 rfl
  rw [h i i0 i1] at hi;cases hi
theorem sane_at {l:List T_api_Row} (hb:lenL l≤100000) (h:view_sane l=some true) : ∀ i,0≤i→i < lenL l→row_Sane (getL d_api_Row l i)=some true:=by
 obtain ⟨b,h1,h2,h3⟩:=sane_iff hb
 rw [h] at h1;cases h1
 exact h2 rfl
theorem few_one {l:List T_api_Row} (hF:FewP l) {k:Int} (k0:0≤k) (k1:k < lenL l):FewP [getL d_api_Row l k]:=by
 refine ⟨by simp,fun i i0 i1=>?_⟩
 have:i=0:=by simp at i1;omega
 subst this
 exact hF.2 k k0 k1
theorem see_alone {l:List T_api_Row} {k:Int} (k0:0≤k) (k1:k < lenL l) (ls g:List Int) (b:Int):view_see dLoad l k ⟨k,k+1,ls,g,b⟩=view_see dLoad [getL d_api_Row l k] 0 ⟨0,1,ls,g,b⟩:=by
 unfold view_see
 have e1 : ∀ {α:Type} (x:Option α),chk (0≤k∧k < lenL l) x=x:=fun x=>chk_ok ⟨k0,k1⟩
 have e2 : ∀ {α:Type} (x:Option α),chk ((0:Int)≤0∧(0:Int) < lenL [getL d_api_Row l k]) x=x:=fun x=>chk_ok ⟨by omega,by simp⟩
 simp only [e1,e2,getL_zero]
 rw [chk_ok (show 0≤k∧k≤k∧k≤lenL l from ⟨k0,Int.le_refl _,by omega⟩),chk_ok (show (0:Int)≤0∧(0:Int)≤0∧(0:Int)≤lenL [getL d_api_Row l k] from ⟨Int.le_refl _,Int.le_refl _,by simp⟩),subL_nil,subL_nil]
 rfl
theorem read_alone {l:List T_api_Row} (hF:FewP l) {k:Int} (k0:0≤k) (k1:k < lenL l) (boxes:Bool) : ∃ ls g b,view_read dLoad l k (k+1) boxes=some ⟨k,k+1,ls,g,b⟩∧view_read dLoad [getL d_api_Row l k] 0 1 boxes=some ⟨0,1,ls,g,b⟩:=by
 have hw:=hF.2 k k0 k1
 have h1:=letL_len (getL d_api_Row l k).fCells
 obtain ⟨⟨ls,b⟩,hp,-,-⟩:=par_yields (r:=letL (getL d_api_Row l k).fCells) (getL d_api_Row l k).fDir (by omega)
 obtain ⟨g,hg,-⟩:=glyphs_yields (r:=letL (getL d_api_Row l k).fCells) (ls:=ls) boxes (by omega)
 have hga:view_gather [getL d_api_Row l k]=some (letL (getL d_api_Row l k).fCells):=by
  rw [gather_eq (by simp) (fun r h=>by rw [List.mem_singleton.1 h];exact hw),gatL_one]
 refine ⟨ls,g,b,?_,?_⟩
 · unfold view_read
   rw [chk_ok (show 0≤k∧k≤k+1∧k+1≤lenL l by omega),subL_one d_api_Row k0 k1,hga,bindO_eq',chk_ok (show 0≤k∧k < lenL l by omega),hp,bindO_eq']
   simp only
   rw [hg];rfl
 · have hs:subL [getL d_api_Row l k] 0 1=[getL d_api_Row l k]:=rfl
   unfold view_read
   rw [chk_ok (show (0:Int)≤0∧(0:Int)≤1∧(1:Int)≤lenL [getL d_api_Row l k] from ⟨by omega,by omega,by simp⟩),hs,hga,bindO_eq',chk_ok (show (0:Int)≤0∧(0:Int) < lenL [getL d_api_Row l k] from ⟨by omega,by simp⟩),getL_zero,hp,bindO_eq']
   simp only
   rw [hg];rfl
theorem map_alone {l:List T_api_Row} (hF:FewP l) (hs:view_sane l=some true) {k:Int} (k0:0≤k) (k1:k < lenL l) (boxes:Bool) (h1 : ¬ wrp l k) (h2:k=0∨¬ wrp l (k-1)) :
  view_Map dLoad l k boxes=view_Map dLoad [getL d_api_Row l k] 0 boxes:=by
 have hl:=hF.1
 have hs1:view_sane [getL d_api_Row l k]=some true:=sane_of (by simp) (fun i i0 i1=>by
  have:i=0:=by simp at i1;omega
  subst this
  exact sane_at (by omega) hs k k0 k1)
 have u1:chainUp l 31 k=k:=up_eq l 31 k k k0 (Int.le_refl _) (by omega) (fun j a b=>by omega) h2
 have d1:chainDown l 32 (k+1)=k+1:=down_eq l 32 (k+1) (k+1) (Int.le_refl _) (by omega) (by omega) (fun j a b=>by omega) (.inr (by rw [show k+1-1=k by omega];exact h1))
 have u2:chainUp [getL d_api_Row l k] 31 0=0:=up_eq _ 31 0 0 (by omega) (by omega) (by omega) (fun j a b=>by omega) (.inl rfl)
 have d2:chainDown [getL d_api_Row l k] 32 (0+1)=1:=down_eq _ 32 1 1 (by omega) (by simp) (by omega) (fun j a b=>by omega) (.inl (by simp))
 rw [Map_yes boxes hs k0 k1 (by omega),Map_yes boxes hs1 (by omega) (by simp) (by simp),u1,d1,u2,d2,getL_zero]
 obtain ⟨ls,g,b,r1,r2⟩:=read_alone hF k0 k1 boxes
 rw [r1,r2,bindO_eq',bindO_eq',see_alone k0 k1]
theorem bnd_65535 (y:Int):bndI .i64 y 65535=y % 65536:=bnd_mask y 16 (by omega)
theorem viewApart_true (l:List T_api_Row) (y:Int) (boxes:Bool):lapwinglaw21_ViewApart l y boxes=some true:=by
 have hn:=lenL_nn l
 refine Yields.eq ?_
 unfold lapwinglaw21_ViewApart
 refine .call awake_true (.bind _ (few_yields l) fun b hb=>.ite (fun _=>.ret rfl) (fun h=>?_))
 have h:b=true∧¬ lenL l=0:=by
  cases b
  · simp at h
  · exact ⟨rfl,by simpa using h⟩
 obtain ⟨rfl,hne⟩:=h
 have hF:FewP l:=hb rfl
 clear hb
 have hl:=hF.1
 refine .call load_eq (.chk hne ?_)
 rw [bnd_65535]
 simp only
 have k0:0≤Int.tmod (y % 65536) (lenL l):=Int.tmod_nonneg _ (Int.emod_nonneg _ (by decide))
 have k1:Int.tmod (y % 65536) (lenL l) < lenL l:=Int.tmod_lt_of_pos _ (by omega)
 generalize Int.tmod (y % 65536) (lenL l)=k at k0 k1
 have hk : ∀ c:Bool,((!(getL d_api_Row l k).fWrap) && ((!(getL d_api_Row l k).fWrap) && (decide (0 < k))))=true→0 < k:=fun _ h=>by
  cases hw:(getL d_api_Row l k).fWrap
  · rw [hw] at h;simpa using h
  · rw [hw] at h;cases h
 refine .chk ⟨k0,k1⟩ (.chk (fun h=>inR64 (by omega) (by omega)) (.chk (fun h=>⟨by have:=hk true h;omega,by omega⟩) (.ite (fun _=>.ret rfl) (fun h=>?_))))
 have hw : ¬ wrp l k∧(k=0∨¬ wrp l (k-1)):=by
  unfold wrp
  cases hw:(getL d_api_Row l k).fWrap with
  | true=>rw [hw] at h;cases h
  | false =>
   refine ⟨by simp,?_⟩
   rw [hw] at h
   by_cases h0:0 < k
   · rw [decide_eq_true h0] at h
     exact .inr (by simpa using h)
   · exact .inl (by omega)
 obtain ⟨hw1,hw2⟩:=hw
 have hF1:=few_one hF k0 k1
 rcases sane_two l (by omega) with hs | ⟨hs,hR⟩
 · refine .call (Map_no boxes (.inl hs)) (.chk ⟨k0,k1⟩ ?_)
   rcases sane_two [getL d_api_Row l k] (by simp) with hs1 | ⟨hs1,hR1⟩
   · exact .call (Map_no boxes (.inl hs1)) (.ite (fun _=>.ret rfl) (fun h=>by cases h))
   · exact .bind _ (map_yields hF1 hR1 boxes hs1 (Int.le_refl 0) (by simp)) fun _ _=>(.ite (fun _=>.ret rfl) (fun h=>by cases h))
 · obtain ⟨⟨x,o⟩,hx,ho,S,-,-⟩:=map_yields hF hR boxes hs k0 k1
   simp only at ho S
   subst ho
   have hx2:=hx
   rw [map_alone hF hs k0 k1 boxes hw1 hw2] at hx2
   have hw:=hF.2 k k0 k1
   refine .call hx (.chk ⟨k0,k1⟩ (.call hx2 (.ite (fun h=>by cases h) (fun _=>.call (b:=true) ?_ (.call (b:=true) ?_ (.ret ?_))))))
   · exact ints_same _ (by simp only [S.v];omega)
   · exact cells_same _ (by simp only [S.c];omega)
   · simp
theorem colour_eq (c:Int):Yields (lapwingref07_Parts c) (fun p=>(!(p.1 == 3))=true→pen_isColour c=some true):=by
 unfold lapwingref07_Parts pen_isColour
 refine .ite (fun h=>?_) (fun h=>.ite (fun h2=>?_) (fun h2=>.ite (fun h3=>?_) (fun h3=>?_)))
 · have:c=0:=by simpa using h
   subst this
   exact .ret (fun _=>rfl)
 · have h2:1≤c∧c≤256:=by
    by_cases h:1≤c
    · rw [decide_eq_true h] at h2;exact ⟨h,by simpa using h2⟩
    · rw [decide_eq_false h] at h2;cases h2
   refine .chk (inR64 (by omega) (by omega)) (.ret (fun _=>?_))
   rw [decide_eq_true (show 0≤c by omega),decide_eq_true (show c≤256 by omega)];rfl
 · have h3:16777216≤c∧c < 33554432:=by
    by_cases h:16777216≤c
    · rw [decide_eq_true h] at h3;exact ⟨h,by simpa using h3⟩
    · rw [decide_eq_false h] at h3;cases h3
   have e1:Int.tdiv c 65536=c / 65536:=Int.tdiv_eq_ediv_of_nonneg (by omega)
   have e2:Int.tdiv c 256=c / 256:=Int.tdiv_eq_ediv_of_nonneg (by omega)
   refine .chk (by decide) (.chk (inR64 (by rw [e1];omega) (by rw [e1];omega)) (.chk (by decide) (.chk (by decide) (.chk (inR64 (by rw [e2];omega) (by rw [e2];omega)) (.chk (by decide) (.chk (by decide) (.ret (fun _=>?_))))))))
   rw [decide_eq_true (show 16777216≤c by omega),decide_eq_true (show c < 33554432 by omega)]
   cases (if decide (0≤c)=true then decide (c≤256) else false)<;>rfl
 · exact .ret (fun h=>by cases h)
theorem rpen_yields (p:T_api_Pen):Yields (lapwingref07_Sane p) (fun b=>b=true→pen_Sane p=some true):=by
 unfold lapwingref07_Sane
 refine .bind _ (colour_eq p.fFg) fun f hf=>.bind _ (colour_eq p.fBg) fun b hb=>.ret (fun h=>?_)
 cases h1:(!(f.1 == 3)) with
 | false=>simp only [h1] at h;cases h
 | true =>
  cases h2:(!(b.1 == 3)) with
  | false=>simp only [h1,h2] at h;cases h
  | true =>
   simp only [h1,h2] at h
   unfold pen_Sane
   rw [hf h1,bindO_eq',show (if true=true then pen_isColour p.fBg else some false)=some true from hb h2,bindO_eq']
   exact congrArg some h
theorem letter_yields (r:Int):Yields (lapwingref08_letter r) (fun b=>b=true→0≤r∧r≤1114111):=by
 unfold lapwingref08_letter
 refine .ret (fun h=>?_)
 by_cases h0:0≤r
 · rw [decide_eq_true h0] at h;exact ⟨h0,by simpa using h⟩
 · rw [decide_eq_false h0] at h;cases h
theorem one_yields (c:T_api_Cell):Yields (lapwingref08_one c) (fun b=>b=true→row_fits c=some true):=by
 unfold lapwingref08_one
 refine .bind (fun b=>b=true→(0≤c.fW∧c.fW≤2)∧0≤c.fR∧c.fR≤1114111) ?_ fun a ha=>.bind (fun b=>b=true→a=true∧0≤c.fM.x0∧c.fM.x0≤1114111) ?_ fun b hb=>.bind (fun e=>e=true→b=true∧0≤c.fM.x1∧c.fM.x1≤1114111) ?_ fun e he=>.bind (fun f=>f=true→e=true∧pen_Sane c.fPen=some true) ?_ fun f hf=>.ite (fun _=>.ret (fun h=>by cases h)) (fun h=>.ret (fun h2=>?_))
 · refine anyO (fun h=>(letter_yields _).mono fun z hz h2=>⟨?_,hz h2⟩) (fun _=>.ret (fun h=>by cases h))
   by_cases h1:c.fW < 0
   · simp [h1] at h
   · by_cases h2:2 < c.fW
     · simp [h2] at h
     · omega
 · refine anyO (fun h=>(letter_yields _).mono fun z hz h2=>⟨?_,hz h2⟩) (fun _=>.ret (fun h=>by cases h))
   cases a
   · simp at h
   · rfl
 · refine anyO (fun h=>(letter_yields _).mono fun z hz h2=>⟨?_,hz h2⟩) (fun _=>.ret (fun h=>by cases h))
   cases b
   · simp at h
   · rfl
 · refine anyO (fun h=>(rpen_yields _).mono fun z hz h2=>⟨?_,hz h2⟩) (fun _=>.ret (fun h=>by cases h))
   cases e
   · simp at h
   · rfl
 · have hf1:f=true:=by
    cases f
    · simp at h
    · rfl
   obtain ⟨e1,hpen⟩:=hf hf1
   obtain ⟨b1,m1,m1'⟩:=he e1
   obtain ⟨a1,m0,m0'⟩:=hb b1
   obtain ⟨⟨w0,w2⟩,r0,r1⟩:=ha a1
   have q:(¬ c.fM.x0=0∨c.fM.x1=0)∧(¬ c.fR=0∨c.fM.x0=0)∧(¬ c.fW=0∨c.fR=0)∧(¬ c.fW=2∨¬ c.fR=0):=by
    refine ⟨?_,?_,?_,?_⟩
    · by_cases z:c.fM.x0=0
      · by_cases z1:c.fM.x1=0
        · exact .inr z1
        · simp [z,z1] at h2
      · exact .inl z
    · by_cases z:c.fM.x0=0
      · exact .inr z
      · by_cases z1:c.fR=0
        · simp [z,z1] at h2
        · exact .inl z1
    · by_cases z:c.fW=0
      · by_cases z1:c.fR=0
        · exact .inr z1
        · simp [z,z1] at h2
      · exact .inl z
    · by_cases z:c.fW=2
      · by_cases z1:c.fR=0
        · simp [z,z1] at h2
        · exact .inr z1
      · exact .inl z
   obtain ⟨q1,q2,q3,q4⟩:=q
   have bad : ∀ m:Int,0≤m→m≤1114111→(¬ m=0→¬ c.fR=0)→(if (if (decide (m < 0))=true then true else (decide (1114111 < m)))=true then true else (if (!(m == 0))=true then (c.fR == 0) else false))=false:=by
    intro m h0 h1 h
    rw [decide_eq_false (by omega),decide_eq_false (by omega)]
    by_cases hm:m=0
    · simp [hm]
    · simp [hm,h hm]
   unfold row_fits
   refine Yields.eq (.cut (fun o=>o = .go ()) (.cut (fun o=>o = .go ()) ?_ (fun o ho=>?_)) (fun o ho=>?_))
   · exact .ite (fun hh=>absurd hh (by rw [bad _ m0 m0' (by omega)];decide)) (fun _=>.chk (inR64 (by omega) (by omega)) (.ret rfl))
   · subst ho
     refine .go (.cut (fun o=>o = .go ()) ?_ (fun o ho=>by subst ho;exact .go (.ret rfl)))
     exact .ite (fun hh=>absurd hh (by rw [bad _ m1 m1' (by omega)];decide)) (fun _=>.chk (inR64 (by omega) (by omega)) (.ret rfl))
   · subst ho
     refine .go ?_
     have e1:(if (if (decide (c.fR < 0))=true then true else (decide (1114111 < c.fR)))=true then true else (if (c.fM.x0 == 0)=true then (!(c.fM.x1 == 0)) else false))=false:=by
      rw [decide_eq_false (by omega),decide_eq_false (by omega)]
      by_cases z:c.fM.x0=0
      · have:c.fM.x1=0:=by omega
        simp [z,this]
      · simp [z]
     rw [e1]
     refine .call (b:=true) hpen (.ite (fun h=>by cases h) (fun _=>.ite (fun h=>.ret ?_) (fun h=>.ite (fun _=>.ret rfl) (fun hh=>.ite (fun h4=>.ret ?_) (fun h4=>?_)))))
     · have h:c.fW=0:=by simpa using h
       have:c.fR=0:=by omega
       simp [this]
     · have h4:c.fW=2:=by simpa using h4
       have : ¬ c.fR=0:=by omega
       simp [this]
     · exfalso
       have h : ¬ c.fW=0:=by simpa using h
       have hh : ¬ c.fW=1:=by simpa using hh
       have h4 : ¬ c.fW=2:=by simpa using h4
       omega
theorem cells_W {a b:List T_api_Cell} (hb:lenL a≤100000):Yields (lapwingref08_Cells a b) (fun r=>r=true→∀ i,0≤i→i < lenL a→(getL d_api_Cell a i).fW=(getL d_api_Cell b i).fW):=by
 have hn:=lenL_nn a
 unfold lapwingref08_Cells
 refine .ite (fun _=>.ret (fun h=>by cases h)) (fun hl=>?_)
 have hl:lenL a=lenL b:=by simpa using hl
 refine .cut (fun r=>r = .out false∨(r = .go ()∧∀ i,0≤i→i < lenL a→(getL d_api_Cell a i).fW=(getL d_api_Cell b i).fW)) ?_ ?_
 · refine .loop (fun i=>0≤i∧i≤lenL a∧∀ k,0≤k→k < i→(getL d_api_Cell a k).fW=(getL d_api_Cell b k).fW) (fun i=>(lenL a-i).toNat) ⟨by omega,by omega,fun k k0 k1=>by omega⟩ ?_
   rintro i ⟨i0,i1,ig⟩
   refine .ite (fun h=>?_) (fun h=>?_)
   · have h:i < lenL a:=by simpa using h
     refine .chk ⟨i0,h⟩ (.chk ⟨i0,by omega⟩ (.ite (fun hh=>.ret (.inl rfl)) (fun hh=>.chk (inR64 (by omega) (by omega)) (.ret ⟨⟨by omega,by omega,fun k k0 k1=>?_⟩,by simp only;omega⟩))))
     by_cases e:k=i
     · subst e
       simp only [Bool.not_eq_false',Bool.and_eq_true,beq_iff_eq] at hh
       exact hh.2.2.2.1
     · exact ig k k0 (by omega)
   · have h:lenL a≤i:=by simpa using h
     exact .ret (.inr ⟨rfl,fun k k0 k1=>ig k k0 (by omega)⟩)
 · rintro o (rfl | ⟨rfl,h⟩)
   · exact .out (fun h=>by cases h)
   · exact .go (.ret fun _=>h)
theorem mend_yields {r:T_api_Row} (hb:lenL r.fCells≤100000):Yields (lapwingref08_Mend r) (fun m=>lenL m.fCells=lenL r.fCells∧((∀ i,0≤i→i < lenL r.fCells→PairP r.fCells i)∨∃ i,0≤i∧i < lenL r.fCells∧(getL d_api_Cell m.fCells i).fW≠(getL d_api_Cell r.fCells i).fW)):=by
 have hn:=lenL_nn r.fCells
 unfold lapwingref08_Mend
 refine .chk (grOk hn (by omega) (by omega)) (.cut (fun o=>∃ q,o = .go q∧lenL q=lenL r.fCells∧((∀ i,0≤i→i < lenL r.fCells→PairP r.fCells i)∨∃ i,0≤i∧i < lenL r.fCells∧(getL d_api_Cell q i).fW≠(getL d_api_Cell r.fCells i).fW)) ?_ ?_)
 · refine .loop (fun x=>0≤x.1∧x.1≤lenL r.fCells∧lenL x.2=lenL r.fCells∧((x.2=r.fCells∧∀ i,0≤i→i < x.1→PairP r.fCells i)∨∃ i,0≤i∧i < x.1∧(getL d_api_Cell x.2 i).fW≠(getL d_api_Cell r.fCells i).fW)) (fun x=>(lenL r.fCells-x.1).toNat) ⟨by simp only;omega,hn,rfl,.inl ⟨rfl,fun i i0 i1=>by simp only at i1;omega⟩⟩ ?_
   rintro ⟨v,q⟩ ⟨v0,v1,hq,hg⟩
   simp only at v0 v1 hq hg ⊢
   refine .ite (fun h=>?_) (fun h=>?_)
   · have h:v < lenL r.fCells:=by simpa using h
     have e0 : ∀ x:Int,0+x=x:=fun x=>by omega
     simp only [e0]
     generalize hc1:(if ((getL d_api_Cell q v).fW == 2)=true then (if (decide ((lenL r.fCells)≤(v+1)))=true then true else (!((getL d_api_Cell q (v+1)).fW == 0))) else false)=c1
     refine .chk ⟨v0,h⟩ (.chk (fun _=>inR64 (by omega) (by omega)) (.chk (fun _=>inR64 (by omega) (by omega)) (.chk (fun hh=>?_) (.chk (fun _=>⟨v0,h⟩) (.chk (fun _=>inR64 (by omega) (by omega)) (.chk (fun hh=>?_) (.ite (fun hh=>?_) (fun hh=>?_))))))))
     · simp only [Bool.and_eq_true,Bool.not_eq_true',decide_eq_false_iff_not] at hh
       omega
     · simp only [Bool.and_eq_true,Bool.not_eq_true',beq_eq_false_iff_ne] at hh
       have h0 : ¬ v=0:=hh.2.2
       omega
     · refine .chk ⟨v0,h⟩ (.call (b:=T_api_Cell.mk 0 d_Arr2_i64 1 (getL d_api_Cell q v).fPen) rfl (.chk ⟨v0,h⟩ (.chk (inR64 (by omega) (by omega)) (.ret ⟨⟨by simp only;omega,by simp only;omega,by simpa using hq,.inr ?_⟩,by simp only;omega⟩))))
       rcases hg with ⟨rfl,hg⟩ | ⟨i,i0,i1,hi⟩
       · refine ⟨v,v0,by simp only;omega,?_⟩
         simp only
         rw [getL_put v0 v0 h,if_pos rfl]
         intro h1
         have h1:(getL d_api_Cell r.fCells v).fW=1:=h1.symm
         rw [← hc1] at hh
         simp [h1] at hh
       · refine ⟨i,i0,by simp only;omega,?_⟩
         simp only
         rw [getL_put v0 i0 (by omega),if_neg (by omega)]
         exact hi
     · refine .chk (inR64 (by omega) (by omega)) (.ret ⟨⟨by simp only;omega,by simp only;omega,hq,?_⟩,by simp only;omega⟩)
       rcases hg with ⟨rfl,hg⟩ | ⟨i,i0,i1,hi⟩
       · refine .inl ⟨rfl,fun i i0 i1=>?_⟩
         simp only at i1
         by_cases e:i=v
         · subst e
           cases c1 with
           | true=>cases hh
           | false =>
            refine ⟨fun hz=>?_,fun hz=>?_⟩
            · by_cases z:i=0
              · simp [z] at hh
                exact absurd (z ▸ hz) hh
              · by_cases z2:(getL d_api_Cell r.fCells (i-1)).fW=2
                · exact ⟨by omega,z2⟩
                · simp [hz,z2] at hh
            · by_cases z:lenL r.fCells≤i+1
              · simp [hz,z] at hc1
              · by_cases z2:(getL d_api_Cell r.fCells (i+1)).fW=0
                · exact ⟨by omega,z2⟩
                · simp [hz,z2] at hc1
         · exact hg i i0 (by omega)
       · exact .inr ⟨i,i0,by simp only;omega,hi⟩
   · have h : ¬ v < lenL r.fCells:=by simpa using h
     refine .ret ⟨q,rfl,hq,?_⟩
     rcases hg with ⟨-,hg⟩ | ⟨i,i0,i1,hi⟩
     · exact .inl fun i i0 i1=>hg i i0 (by omega)
     · exact .inr ⟨i,i0,by omega,hi⟩
 · rintro _ ⟨q,rfl,hq,hg⟩
   exact .go (.call (b:=T_api_Row.mk q r.fWrap r.fDir r.fExplicit) rfl (.ret ⟨hq,hg⟩))
theorem rowSane_of {r:T_api_Row} (h0:1≤lenL r.fCells) (h1:lenL r.fCells≤4096) (h2:0≤r.fDir) (h3:r.fDir≤2) (hf : ∀ i,0≤i→i < lenL r.fCells→row_fits (getL d_api_Cell r.fCells i)=some true)
  (hp : ∀ i,0≤i→i < lenL r.fCells→PairP r.fCells i):row_Sane r=some true:=by
 refine Yields.eq ?_
 unfold row_Sane
 rw [decide_eq_false (show ¬ lenL r.fCells < 1 by omega),decide_eq_false (show ¬ 4096 < lenL r.fCells by omega),decide_eq_false (show ¬ r.fDir < 0 by omega),decide_eq_false (show ¬ 2 < r.fDir by omega)]
 refine .ite (fun h=>by cases h) (fun _=>.cut (fun o=>o = .go ()) ?_ (fun o ho=>by subst ho;exact .go (.ret rfl)))
 refine .loop (fun v=>0≤v∧v≤lenL r.fCells) (fun v=>(lenL r.fCells-v).toNat) ⟨by omega,by omega⟩ ?_
 rintro v ⟨v0,v1⟩
 refine .ite (fun h=>?_) (fun _=>.ret rfl)
 have h:v < lenL r.fCells:=by simpa using h
 have P:=hp v v0 h
 have hl:row_lost r.fCells v=some false:=by
  refine Yields.eq ?_
  unfold row_lost
  refine .chk ⟨v0,h⟩ (.ite (fun hw=>?_) (fun hw=>.ite (fun hw2=>?_) (fun hw2=>.ret rfl)))
  · have hw:(getL d_api_Cell r.fCells v).fW=0:=by simpa using hw
    obtain ⟨a,b⟩:=P.1 hw
    refine .chk (fun _=>inR64 (by omega) (by omega)) (.chk (fun _=>⟨by omega,by omega⟩) (.ret ?_))
    have : ¬ v=0:=by omega
    simp [this,b]
  · have hw:(getL d_api_Cell r.fCells v).fW=2:=by simpa using hw2
    obtain ⟨a,b⟩:=P.2 hw
    refine .chk (inR64 (by omega) (by omega)) (.chk (fun _=>inR64 (by omega) (by omega)) (.chk (fun _=>⟨by omega,a⟩) (.ret ?_)))
    have : ¬ v+1=lenL r.fCells:=by omega
    simp [this,b]
 exact .chk ⟨v0,h⟩ (.call (hf v v0 h) (.call (b:=false) hl (.ite (fun h=>by cases h) (fun _=>.chk (inR64 (by omega) (by omega)) (.ret ⟨⟨by omega,by omega⟩,by simp only;omega⟩)))))
theorem rsane_yields {r:T_api_Row} (hb:lenL r.fCells≤100000):Yields (lapwingref08_Sane r) (fun b=>b=true→row_Sane r=some true):=by
 have hn:=lenL_nn r.fCells
 unfold lapwingref08_Sane
 refine .cut (fun o=>o = .out false∨(o = .go ()∧∀ i,0≤i→i < lenL r.fCells→row_fits (getL d_api_Cell r.fCells i)=some true)) ?_ ?_
 · refine .loop (fun v=>0≤v∧v≤lenL r.fCells∧∀ i,0≤i→i < v→row_fits (getL d_api_Cell r.fCells i)=some true) (fun v=>(lenL r.fCells-v).toNat) ⟨by omega,hn,fun i i0 i1=>by omega⟩ ?_
   rintro v ⟨v0,v1,hv⟩
   refine .ite (fun h=>?_) (fun h=>?_)
   · have h:v < lenL r.fCells:=by simpa using h
     refine .chk ⟨v0,h⟩ (.bind _ (one_yields _) fun b hb=>.ite (fun _=>.ret (.inl rfl)) (fun hc=>.chk (inR64 (by omega) (by omega)) (.ret ⟨⟨by omega,by omega,fun i i0 i1=>?_⟩,by simp only;omega⟩)))
     by_cases e:i=v
     · subst e;exact hb (by simpa using hc)
     · exact hv i i0 (by omega)
   · have h : ¬ v < lenL r.fCells:=by simpa using h
     exact .ret (.inr ⟨rfl,fun i i0 i1=>hv i i0 (by omega)⟩)
 · rintro o (rfl | ⟨rfl,hf⟩)
   · exact .out (fun h=>by cases h)
   refine .go ?_
   generalize hc:(if (if (if (decide (1≤(lenL r.fCells)))=true then (decide ((lenL r.fCells)≤4096)) else false)=true then (decide (0≤r.fDir)) else false)=true then (decide (r.fDir≤2)) else false)=c
   refine .bind (fun m=>c=true→lenL m.fCells=lenL r.fCells∧((∀ i,0≤i→i < lenL r.fCells→PairP r.fCells i)∨∃ i,0≤i∧i < lenL r.fCells∧(getL d_api_Cell m.fCells i).fW≠(getL d_api_Cell r.fCells i).fW)) (anyO (fun _=>(mend_yields hb).mono fun m h _=>h) (fun h=>.ret (fun h'=>by rw [h] at h';cases h'))) fun m hm=>?_
   refine .bind (fun s=>c=true→s=true→∀ i,0≤i→i < lenL m.fCells→(getL d_api_Cell m.fCells i).fW=(getL d_api_Cell r.fCells i).fW) (anyO (fun hc=>?_) (fun h=>.ret (fun h'=>by rw [h] at h';cases h'))) fun s hs=>.ret (fun h=>?_)
   · unfold lapwingref08_Same
     refine .bind _ (cells_W (by have:=(hm hc).1;omega)) fun b hb=>.ret (fun _ h=>hb ?_)
     cases b
     · simp at h
     · rfl
   · cases c with
     | false=>cases h
     | true =>
      obtain ⟨m1,m2⟩:=hm rfl
      have hs:=hs rfl (by simpa using h)
      have hg:1≤lenL r.fCells∧lenL r.fCells≤4096∧0≤r.fDir∧r.fDir≤2:=by
       by_cases z1:1≤lenL r.fCells
       · by_cases z2:lenL r.fCells≤4096
         · by_cases z3:0≤r.fDir
           · by_cases z4:r.fDir≤2
             · exact ⟨z1,z2,z3,z4⟩
             · rw [decide_eq_true z1,decide_eq_true z2,decide_eq_true z3,decide_eq_false z4] at hc;cases hc
           · rw [decide_eq_true z1,decide_eq_true z2,decide_eq_false z3] at hc;cases hc
         · rw [decide_eq_true z1,decide_eq_false z2] at hc;cases hc
       · rw [decide_eq_false z1] at hc;cases hc
      refine rowSane_of hg.1 hg.2.1 hg.2.2.1 hg.2.2.2 hf ?_
      rcases m2 with h | ⟨i,i0,i1,hi⟩
      · exact h
      · exact absurd (hs i i0 (by omega)) hi
theorem gsane_yields {l:List T_api_Row} (hF:FewP l):Yields (lapwingref09_Sane ⟨l⟩) (fun b=>b=true→view_sane l=some true∧1≤lenL l∧∀ i,0≤i→i < lenL l→lenL (getL d_api_Row l i).fCells=lenL (getL d_api_Row l 0).fCells):=by
 have hn:=lenL_nn l
 have hl:=hF.1
 unfold lapwingref09_Sane
 refine .cut (fun o=>o = .out false∨(o = .go ()∧∀ i,0≤i→i < lenL l→row_Sane (getL d_api_Row l i)=some true∧lenL (getL d_api_Row l i).fCells=lenL (getL d_api_Row l 0).fCells)) ?_ ?_
 · refine .loop (fun v=>0≤v∧v≤lenL l∧∀ i,0≤i→i < v→row_Sane (getL d_api_Row l i)=some true∧lenL (getL d_api_Row l i).fCells=lenL (getL d_api_Row l 0).fCells) (fun v=>(lenL l-v).toNat) ⟨by omega,hn,fun i i0 i1=>by omega⟩ ?_
   rintro v ⟨v0,v1,hv⟩
   refine .ite (fun h=>?_) (fun h=>?_)
   · have h:v < lenL l:=by simpa using h
     refine .chk ⟨v0,h⟩ (.bind _ (rsane_yields (r:=getL d_api_Row l v) (by have:=hF.2 v v0 h;omega)) fun b hb=>.chk (fun _=>⟨v0,h⟩) (.chk (fun _=>⟨by omega,by simp only;omega⟩) (.ite (fun _=>.ret (.inl rfl)) (fun hc=>.chk (inR64 (by omega) (by omega)) (.ret ⟨⟨by omega,by omega,fun i i0 i1=>?_⟩,by simp only;omega⟩)))))
     by_cases e:i=v
     · subst e
       cases b with
       | false=>simp at hc
       | true=>exact ⟨hb rfl,by simpa using hc⟩
     · exact hv i i0 (by omega)
   · have h : ¬ v < lenL l:=by simpa using h
     exact .ret (.inr ⟨rfl,fun i i0 i1=>hv i i0 (by omega)⟩)
 · rintro o (rfl | ⟨rfl,h⟩)
   · exact .out (fun h=>by cases h)
   · refine .go (.ret (fun h2=>⟨sane_of (by omega) (fun i i0 i1=>(h i i0 i1).1),?_,fun i i0 i1=>(h i i0 i1).2⟩))
     by_cases z:1≤lenL l
     · exact z
     · rw [decide_eq_false z] at h2;cases h2
theorem all_yields {l:List T_api_Row} (hF:FewP l) (hs:view_sane l=some true) (hR:RowsP l) (boxes:Bool):Yields (view_All dLoad l boxes) (fun o=>lenL o=lenL l∧∀ y,0≤y→y < lenL l→view_Map dLoad l y boxes=some (getL d_view_Line o y,true)):=by
 have hn:=lenL_nn l
 have hl:=hF.1
 unfold view_All
 refine .call hs (.ite (fun h=>by cases h) (fun _=>.chk (mkOk hn (by omega) (by omega)) (.cut (fun q=>∃ o,q = .go o∧lenL o=lenL l∧∀ y,0≤y→y < lenL l→view_Map dLoad l y boxes=some (getL d_view_Line o y,true)) ?_ ?_)))
 · refine .loop (fun (v,o,a,b,c,d,e)=>0≤v∧v≤lenL l∧lenL o=lenL l∧(∀ y,0≤y→y < v→view_Map dLoad l y boxes=some (getL d_view_Line o y,true))∧((a=0∧b=0)∨view_read dLoad l a b boxes=some ⟨a,b,c,d,e⟩)) (fun x=>(lenL l-x.1).toNat)
    ⟨by omega,hn,lenL_rep _ hn,fun y y0 y1=>by omega,.inl ⟨rfl,rfl⟩⟩ ?_
   rintro ⟨v,o,a,b,c,d,e⟩ ⟨v0,v1,ho,hg,hr⟩
   simp only at v0 v1 ho hg hr ⊢
   refine .ite (fun h=>?_) (fun h=>?_)
   · have h:v < lenL l:=by simpa using h
     have hw:=hF.2 v v0 h
     have hM:=Map_yes (d:=dLoad) boxes hs v0 h (by omega)
     refine .cut (fun q=>∃ x a b c d e,q = .go (setL o v x,a,b,c,d,e)∧view_Map dLoad l v boxes=some (x,true)∧((a=0∧b=0)∨view_read dLoad l a b boxes=some ⟨a,b,c,d,e⟩)) ?_ ?_
     · refine .chk ⟨v0,h⟩ (.ite (fun he=>?_) (fun he=>?_))
       · obtain ⟨x,hx,-⟩:=fixed_yields (hR v v0 h) (by omega)
         refine .call hx (.chk ⟨v0,h⟩ (.ret ⟨x,a,b,c,d,e,rfl,?_,hr⟩))
         rw [hM,he,iteO_true,hx];rfl
       · obtain ⟨c1,c2,c3,c4⟩:=chain_rng v0 h
         obtain ⟨p,hp,pp⟩:=read_yields hF boxes c1 (show chainUp l 31 v < chainDown l 32 (v+1) by omega) c4
         obtain ⟨p1,p2,p3,p4,p5,p6⟩:=pp
         have hgr:=gat_row (l:=l) c1 c2 h c3
         have n5:=lenL_nn (gatL (subL l (v+1) (chainDown l 32 (v+1))))
         obtain ⟨x,hx,-⟩:=see_yields hF hR (y:=v) (p:=p) (by omega) (by omega) h (by rw [p3,hgr,p1,lenL_app,lenL_app];omega) p4
         have hMx:view_Map dLoad l v boxes=some (x,true):=by rw [hM,he,iteO_false,hp,bindO_eq',hx];rfl
         obtain ⟨pf,pt,pl,pg,pb⟩:=p
         simp only at p1 p2
         subst p1 p2
         refine .cut (fun q=>q = .go (chainUp l 31 v,chainDown l 32 (v+1),pl,pg,pb)) ?_ ?_
         · refine .call (chain_eq v0 h (by omega)) ?_
           simp only
           refine .ite (fun _=>.call hp (.ret rfl)) (fun hc=>.ret ?_)
           have hc:chainUp l 31 v=a∧chainDown l 32 (v+1)=b:=by
            by_cases z1:chainUp l 31 v=a
            · by_cases z2:chainDown l 32 (v+1)=b
              · exact ⟨z1,z2⟩
              · simp [z2] at hc
            · simp [z1] at hc
           obtain ⟨e1,e2⟩:=hc
           rcases hr with ⟨h1,h2⟩ | hr
           · omega
           · rw [e1,e2,hr] at hp
             cases hp
             rw [e1,e2]
         · rintro _ rfl
           exact .go (.call hx (.chk ⟨v0,h⟩ (.ret ⟨x,_,_,_,_,_,rfl,hMx,.inr hp⟩)))
     · rintro _ ⟨x,a,b,c,d,e,rfl,hx,hr⟩
       refine .go (.chk (inR64 (by omega) (by omega)) (.ret ⟨⟨by simp only;omega,by simp only;omega,by simpa using ho,fun y y0 y1=>?_,hr⟩,by simp only;omega⟩))
       simp only at y1
       rw [getL_put v0 y0 (by omega)]
       by_cases z:y=v
       · subst z;rw [if_pos rfl];exact hx
       · rw [if_neg z];exact hg y y0 (by omega)
   · have h : ¬ v < lenL l:=by simpa using h
     exact .ret ⟨o,rfl,ho,fun y y0 y1=>hg y y0 (by omega)⟩
 · rintro _ ⟨o,rfl,h1,h2⟩
   exact .go (.ret ⟨h1,h2⟩)
theorem viewAll_true (l:List T_api_Row) (boxes:Bool):lapwinglaw21_ViewAll l boxes=some true:=by
 have hn:=lenL_nn l
 refine Yields.eq ?_
 unfold lapwinglaw21_ViewAll
 refine .call awake_true (.bind _ (few_yields l) fun b hb=>.ite (fun _=>.ret rfl) (fun h=>?_))
 have hF:FewP l:=hb (by simpa using h)
 clear h hb
 have hl:=hF.1
 refine .call load_eq ?_
 rcases sane_two l (by omega) with hs | ⟨hs,hR⟩
 · refine .call (b:=[]) ?_ (.bind _ (gsane_yields hF) fun b hb=>.ite (fun _=>.ret rfl) (fun h=>?_))
   · unfold view_All;rw [hs];rfl
   · have:=(hb (by simpa using h)).1
     rw [hs] at this;cases this
 refine .bind _ (all_yields hF hs hR boxes) fun o ho=>.bind _ (gsane_yields hF) fun b hb=>.ite (fun _=>.ret rfl) (fun h=>?_)
 obtain ⟨o1,o2⟩:=ho
 refine .ite (fun h=>by simp [o1] at h) (fun _=>.cut (fun q=>q = .go ()) ?_ (fun q hq=>by subst hq;exact .go (.ret rfl)))
 refine .loop (fun i=>0≤i∧i≤lenL l) (fun i=>(lenL l-i).toNat) ⟨by omega,hn⟩ ?_
 rintro i ⟨i0,i1⟩
 refine .ite (fun h=>?_) (fun _=>.ret rfl)
 have h:i < lenL l:=by simpa using h
 obtain ⟨x,hx,ho,S,-,-⟩:=map_yields hF hR boxes hs i0 h
 have e:=o2 i i0 h
 have hw:=hF.2 i i0 h
 have e2:=hx.symm.trans e
 cases e2
 simp only at S
 refine .call hx ?_
 rw [Int.zero_add]
 refine .chk (fun _=>⟨i0,by omega⟩) (.call (b:=true) (ints_same _ (by rw [S.v];omega)) (.chk (fun _=>⟨i0,by omega⟩) (.call (b:=true) (cells_same _ (by rw [S.c];omega)) (.chk (fun _=>⟨i0,by omega⟩) (.ite (fun h=>by simp at h) (fun _=>.chk (inR64 (by omega) (by omega)) (.ret ⟨⟨by omega,by omega⟩,by simp only;omega⟩)))))))
end Go.Vx
