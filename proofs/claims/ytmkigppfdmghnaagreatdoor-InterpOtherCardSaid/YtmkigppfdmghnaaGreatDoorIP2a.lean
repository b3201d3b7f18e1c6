/- InterpUnknown, as a plain law. No conditions. -/
import Derived.Test.YtmkigppfdmghnaaGreatDoorIP1
import Derived.Test.YtmkigppfdmghnaaGreatDoorITwA
set_option linter.all false
namespace Go.Vx
set_option maxRecDepth 100000
theorem cells_same (a:List T_api_Cell) (hb:lenL a≤100000):lapwingref08_Cells a a=some true:=by
 have hn:=lenL_nn a
 refine Yields.eq ?_
 unfold lapwingref08_Cells
 refine .ite (fun h=>by simp at h) (fun _=>?_)
 refine .cut (fun r=>r = .go ()) ?_ (fun r hr=>by subst hr;exact .go (.ret rfl))
 refine .loop (fun i=>0≤i∧i≤lenL a) (fun i=>(lenL a-i).toNat) ⟨by omega,by omega⟩ ?_
 rintro i ⟨i0,i1⟩
 refine .ite (fun h=>?_) (fun _=>.ret rfl)
 have h:i < lenL a:=by simpa using h
 exact .chk ⟨i0,h⟩ (.chk ⟨i0,h⟩ (.ite (fun hh=>by simp at hh) (fun _=>.chk (inR64 (by omega) (by omega)) (.ret ⟨⟨by omega,by omega⟩,by simp only;omega⟩))))
def RowsB (l:List T_api_Row):Prop:=lenL l≤100000∧∀ i,0≤i→i < lenL l→lenL (getL d_api_Row l i).fCells≤100000
theorem rows_same (a:List T_api_Row) (hb:RowsB a):lapwingref09_Same a a=some true:=by
 have hn:=lenL_nn a
 have hl:=hb.1
 refine Yields.eq ?_
 unfold lapwingref09_Same
 refine .ite (fun h=>by simp at h) (fun _=>?_)
 refine .cut (fun r=>r = .go ()) ?_ (fun r hr=>by subst hr;exact .go (.ret rfl))
 refine .loop (fun i=>0≤i∧i≤lenL a) (fun i=>(lenL a-i).toNat) ⟨by omega,by omega⟩ ?_
 rintro i ⟨i0,i1⟩
 refine .ite (fun h=>?_) (fun _=>.ret rfl)
 have h:i < lenL a:=by simpa using h
 have hr:lapwingref08_Same (getL d_api_Row a i) (getL d_api_Row a i)=some true:=by
  refine Yields.eq ?_
  unfold lapwingref08_Same
  exact .call (cells_same _ (hb.2 i i0 h)) (.ret (by simp))
 exact .chk ⟨i0,h⟩ (.chk ⟨i0,h⟩ (.call hr (.ite (fun hh=>by simp at hh) (fun _=>.chk (inR64 (by omega) (by omega)) (.ret ⟨⟨by omega,by omega⟩,by simp only;omega⟩)))))
theorem stops_same (s:T_lapwingref12_Stops) (hb:lenL s.fL≤100000):lapwingref12_Same s s=some true:=by
 have hn:=lenL_nn s.fL
 refine Yields.eq ?_
 unfold lapwingref12_Same
 refine .ite (fun h=>by simp at h) (fun _=>?_)
 refine .cut (fun r=>r = .go ()) ?_ (fun r hr=>by subst hr;exact .go (.ret rfl))
 refine .loop (fun i=>0≤i∧i≤lenL s.fL) (fun i=>(lenL s.fL-i).toNat) ⟨by omega,by omega⟩ ?_
 rintro i ⟨i0,i1⟩
 refine .ite (fun h=>?_) (fun _=>.ret rfl)
 have h:i < lenL s.fL:=by simpa using h
 exact .chk ⟨i0,h⟩ (.chk ⟨i0,h⟩ (.ite (fun hh=>by simp at hh) (fun _=>.chk (inR64 (by omega) (by omega)) (.ret ⟨⟨by omega,by omega⟩,by simp only;omega⟩))))
structure ScrB (x:T_lapwingref15_Screen):Prop where
 g:RowsB x.fG.fRows
 k:RowsB x.fK.fRows
 t:lenL x.fT.fL≤100000
theorem kept_same (a:T_lapwingref10_Kept) (hb:RowsB a.fRows):lapwingref10_Same a a=some true:=by
 refine Yields.eq ?_
 unfold lapwingref10_Same
 refine .bind (fun v=>v=true) (anyO (fun _=>.of (rows_same _ hb) rfl) (fun h=>by simp at h)) ?_
 rintro v rfl
 exact .ret (by simp)
theorem scr_same (a:T_lapwingref15_Screen) (hb:ScrB a):lapwingref15_Same a a=some true:=by
 refine Yields.eq ?_
 unfold lapwingref15_Same
 refine .call (rows_same _ hb.g) (.bind (fun v=>v=true) (anyO (fun _=>.of (stops_same _ hb.t) rfl) (fun h=>by simp at h)) ?_)
 rintro v rfl
 refine .bind (fun v=>v=true) (anyO (fun _=>.of (kept_same _ hb.k) rfl) (fun h=>by simp at h)) ?_
 rintro v rfl
 exact .ret (by simp)
theorem st_same (a:T_lapwingref16_State) (h1:ScrB a.fMain) (h2:ScrB a.fOther):lapwingref16_Same a a=some true:=by
 refine Yields.eq ?_
 unfold lapwingref16_Same
 refine .call (scr_same _ h1) (.bind (fun v=>v=true) (anyO (fun _=>.of (scr_same _ h2) rfl) (fun h=>by simp at h)) ?_)
 rintro v rfl
 exact .ret (by simp [seqS])
theorem short_tot (l:List T_api_Row):Tot (lapwingref16_short l):=by
 unfold lapwingref16_short
 have hn:=lenL_nn l
 refine .ite (fun _=>.ret) fun h=>?_
 have hh:lenL l≤20:=by simpa using h
 refine .cut (.of (Yields.loop (Q:=fun _=>True) (fun v=>0≤v∧v≤lenL l) (fun v=>(lenL l-v).toNat) ⟨by omega,by omega⟩ ?_)) fun _=>.ret
 rintro v ⟨v0,v1⟩
 refine .ite (fun h=>?_) (fun _=>.ret trivial)
 have h:v < lenL l:=by simpa using h
 exact .chk ⟨v0,h⟩ (.ite (fun _=>.ret trivial) fun _=>.chk (inR64 (by omega) (by omega)) (.ret ⟨⟨by omega,by omega⟩,by simp only;omega⟩))
theorem fewB {l:List T_api_Row} (h:FewP l):RowsB l:=⟨by have:=h.1;omega,fun i h0 h1=>by have:=h.2 i h0 h1;omega⟩
theorem scrFew (s:T_lapwingref15_Screen):Yields (lapwingref15_Few s) (fun b=>b=true→ScrB s):=by
 unfold lapwingref15_Few
 refine .bind _ (few_yields _) fun v hv=>.bind (fun w=>v=true→w=true→FewP s.fK.fRows) (anyO (fun _=>(few_yields _).mono fun w hw _ h=>hw h) (fun _=>.ret (fun _ h=>by cases h))) fun w hw=>.ret fun h=>?_
 have h1:v=true∧w=true∧lenL s.fT.fL≤200:=by
  cases v<;>cases w<;>simp at h ⊢
  exact h
 exact ⟨fewB (hv h1.1),fewB (hw h1.1 h1.2.1),by omega⟩
theorem stFew (s:T_lapwingref16_State):Yields (lapwingref16_Few s) (fun b=>b=true→ScrB s.fMain∧ScrB s.fOther):=by
 unfold lapwingref16_Few
 refine .bind _ (short_tot _).yields fun v _=>.bind _ (Tot.any (fun _=>short_tot _) fun _=>.ret).yields fun v1 _=>.bind (fun w=>w=true→ScrB s.fMain) (anyO (fun _=>scrFew _) (fun _=>.ret (fun h=>by cases h))) fun w hw =>
  .bind (fun w=>w=true→ScrB s.fOther) (anyO (fun _=>scrFew _) (fun _=>.ret (fun h=>by cases h))) fun w2 hw2=>.ret fun h=>?_
 have h1:w=true∧w2=true:=by
  cases v<;>cases v1<;>cases w<;>cases w2<;>simp at h ⊢
 exact ⟨hw h1.1,hw2 h1.2⟩
theorem pfew_tot (l:List (List Int)):Tot (lapwingref05_Few l):=by
 unfold lapwingref05_Few
 have hn:=lenL_nn l
 refine .ite (fun _=>.ret) fun h=>?_
 have hh:lenL l≤30:=by simpa using h
 refine .cut (.of (Yields.loop (Q:=fun _=>True) (fun v=>0≤v∧v≤lenL l) (fun v=>(lenL l-v).toNat) ⟨by omega,by omega⟩ ?_)) fun _=>.ret
 rintro v ⟨v0,v1⟩
 refine .ite (fun h=>?_) (fun _=>.ret trivial)
 have h:v < lenL l:=by simpa using h
 exact .chk ⟨v0,h⟩ (.ite (fun _=>.ret trivial) fun _=>.chk (inR64 (by omega) (by omega)) (.ret ⟨⟨by omega,by omega⟩,by simp only;omega⟩))
theorem afew_tot (l:List T_api_Action):Tot (lapwinglaw16_few l):=by
 unfold lapwinglaw16_few
 have hn:=lenL_nn l
 refine .ite (fun _=>.ret) fun h=>?_
 have hh:lenL l≤80:=by simpa using h
 refine .cut (.of (Yields.loop (Q:=fun _=>True) (fun v=>0≤v∧v≤lenL l) (fun v=>(lenL l-v).toNat) ⟨by omega,by omega⟩ ?_)) fun _=>.ret
 rintro v ⟨v0,v1⟩
 refine .ite (fun h=>?_) (fun _=>.ret trivial)
 have h:v < lenL l:=by simpa using h
 exact .chk ⟨v0,h⟩ (.bind _ (pfew_tot _).yields fun _ _=>.chk (fun _=>⟨v0,h⟩) (.chk (fun _=>⟨v0,h⟩) (.ite (fun _=>.ret trivial) fun _=>.chk (inR64 (by omega) (by omega)) (.ret ⟨⟨by omega,by omega⟩,by simp only;omega⟩))))
theorem state_eq (s:T_lapwingref16_State) : ∃ t,lapwinglaw16_state s=some t∧lapwinglaw16_plainly t=some s∧t.fMain.fT.fL=s.fMain.fT.fL∧t.fOther.fT.fL=s.fOther.fT.fL:=⟨_,rfl,rfl,rfl,rfl⟩
end Go.Vx
