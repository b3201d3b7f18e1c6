/- InterpUnknown, as a plain law. No conditions. -/
import Derived.Test.YtmkigppfdmghnaaGreatDoorIP1
import Derived.Test.YtmkigppfdmghnaaGreatDoorITwA
set_option linter.all false
namespace Go.Vx
set_option maxRecDepth 100000
theorem cells_same (a:List T_api_Cell) (hb:lenL a≤100000):lapwingref08_Cells a a=some true:=by
 have hn:=lenL_nn a
 refine Yields.eq ?_
 unfold lapwingref08_Cells
 refine .ite (fun h=>by simp at h) (fun _=>?_)
 refine .cut (fun r=>r = .go ()) ?_ (fun r hr=>by subst hr;exact .go (.ret rfl))
 refine .loop (fun i=>0≤i∧i≤lenL a) (fun i=>(lenL a-i).toNat) ⟨by omega,by omega⟩ ?_
 rintro i ⟨i0,i1⟩
 refine .ite (fun h=>?_) (fun _=>.ret rfl)
 have h:i < lenL a:=by simpa using h
 exact .chk ⟨i0,h⟩ (.chk ⟨i0,h⟩ (.ite (fun hh=>by simp at hh) (fun _=>.chk (inR64 (by omega) (by omega)) (.ret ⟨⟨by omega,by omega⟩,by simp only;omega⟩))))
def RowsB (l:List T_api_Row):Prop:=lenL l≤100000∧∀ i,0≤i→i < lenL l→lenL (getL d_api_Row l i).fCells≤100000
theorem rows_same (a:List T_api_Row) (hb:RowsB a):lapwingref09_Same a a=some true:=by
 have hn:=lenL_nn a
 have hl:=hb.1
 refine Yields.eq ?_
 unfold lapwingref09_Same
 refine .ite (fun h=>by simp at h) (fun _=>?_)
 refine .cut (fun r=>r = .go ()) ?_ (fun r hr=>by subst hr;exact .go (.ret rfl))
 refine .loop (fun i=>0≤i∧i≤lenL a) (fun i=>(lenL a-i).toNat) ⟨by omega,by omega⟩ ?_
 rintro i ⟨i0,i1⟩
 refine .ite (fun h=>?_) (fun _=>.ret rfl)
 have h:i < lenL a:=by simpa using h
 have hr:lapwingref08_Same (getL d_api_Row a i) (getL d_api_Row a i)=some true:=by
  refine Yields.eq ?_
  unfold lapwingref08_Same
  exact .call (cells_same _ (hb.2 i i0 h)) (.ret (by simp))
 exact .chk ⟨i0,h⟩ (.chk ⟨i0,h⟩ (.call hr (.ite (fun hh=>by simp at hh) (fun _=>.chk (inR64 (by omega) (by omega)) (.ret ⟨⟨by omega,by omega⟩,by simp only;omega⟩)))))
theorem stops_same (s:T_lapwingref12_Stops) (hb:lenL s.fL≤100000):lapwingref12_Same s s=some true:=by
 have hn:=lenL_nn s.fL
 refine Yields.eq ?_
 unfold lapwingref12_Same
 refine .ite (fun h=>by simp at h) (fun _=>?_)
 refine .cut (fun r=>r = .go ()) ?_ (fun r hr=>by subst hr;exact .go (.ret rfl))
 refine .loop (fun i=>0≤i∧i≤lenL s.fL) (fun i=>(lenL s.fL-i).toNat) ⟨by omega,by omega⟩ ?_
 rintro i ⟨i0,i1⟩
 refine .ite (fun h=>?_) (fun _=>.ret rfl)
 have h:i < lenL s.fL:=by simpa using h
 exact .chk ⟨i0,h⟩ (.chk ⟨i0,h⟩ (.ite (fun hh=>by simp at hh) (fun _=>.chk (inR64 (by omega) (by omega)) (.ret ⟨⟨by omega,by omega⟩,by simp only;omega⟩))))
structure ScrB (x:T_lapwingref15_Screen):Prop where
 g:RowsB x.fG.fRows
 k:RowsB x.fK.fRows
 t:lenL x.fT.fL≤100000
theorem kept_same (a:T_lapwingref10_Kept) (hb:RowsB a.fRows):lapwingref10_Same a a=some true:=by
 refine Yields.eq ?_
 unfold lapwingref10_Same
 refine .bind (fun v=>v=true) (anyO (fun _=>.of (rows_same _ hb) rfl) (fun h=>by simp at h)) ?_
 rintro v rfl
 exact .ret (by simp)
theorem scr_same (a:T_lapwingref15_Screen) (hb:ScrB a):lapwingref15_Same a a=some true:=by
 refine Yields.eq ?_
 unfold lapwingref15_Same
 refine .call (rows_same _ hb.g) (.bind (fun v=>v=true) (anyO (fun _=>.of (stops_same _ hb.t) rfl) (fun h=>by simp at h)) ?_)
 rintro v rfl
 refine .bind (fun v=>v=true) (anyO (fun _=>.of (kept_same _ hb.k) rfl) (fun h=>by simp at h)) ?_
 rintro v rfl
 exact .ret (by simp)
theorem st_same (a:T_lapwingref16_State) (h1:ScrB a.fMain) (h2:ScrB a.fOther):lapwingref16_Same a a=some true:=by
 refine Yields.eq ?_
 unfold lapwingref16_Same
 refine .call (scr_same _ h1) (.bind (fun v=>v=true) (anyO (fun _=>.of (scr_same _ h2) rfl) (fun h=>by simp at h)) ?_)
 rintro v rfl
 exact .ret (by simp [seqS])
theorem short_tot (l:List T_api_Row):Tot (lapwingref16_short l):=by
 unfold lapwingref16_short
 have hn:=lenL_nn l
 refine .ite (fun _=>.ret) fun h=>?_
 have hh:lenL l≤20:=by simpa using h
 refine .cut (.of (Yields.loop (Q:=fun _=>True) (fun v=>0≤v∧v≤lenL l) (fun v=>(lenL l-v).toNat) ⟨by omega,by omega⟩ ?_)) fun _=>.ret
 rintro v ⟨v0,v1⟩
 refine .ite (fun h=>?_) (fun _=>.ret trivial)
 have h:v < lenL l:=by simpa using h
 exact .chk ⟨v0,h⟩ (.ite (fun _=>.ret trivial) fun _=>.chk (inR64 (by omega) (by omega)) (.ret ⟨⟨by omega,by omega⟩,by simp only;omega⟩))
theorem fewB {l:List T_api_Row} (h:FewP l):RowsB l:=⟨by have:=h.1;omega,fun i h0 h1=>by have:=h.2 i h0 h1;omega⟩
theorem scrFew (s:T_lapwingref15_Screen):Yields (lapwingref15_Few s) (fun b=>b=true→ScrB s):=by
 unfold lapwingref15_Few
 refine .bind _ (few_yields _) fun v hv=>.bind (fun w=>v=true→w=true→FewP s.fK.fRows) (anyO (fun _=>(few_yields _).mono fun w hw _ h=>hw h) (fun _=>.ret (fun _ h=>by cases h))) fun w hw=>.ret fun h=>?_
 have h1:v=true∧w=true∧lenL s.fT.fL≤200:=by
  cases v<;>cases w<;>simp at h ⊢
  exact h
 exact ⟨fewB (hv h1.1),fewB (hw h1.1 h1.2.1),by omega⟩
theorem stFew (s:T_lapwingref16_State):Yields (lapwingref16_Few s) (fun b=>b=true→ScrB s.fMain∧ScrB s.fOther):=by
 unfold lapwingref16_Few
 refine .bind _ (short_tot _).yields fun v _=>.bind _ (Tot.any (fun _=>short_tot _) fun _=>.ret).yields fun v1 _=>.bind (fun w=>w=true→ScrB s.fMain) (anyO (fun _=>scrFew _) (fun _=>.ret (fun h=>by cases h))) fun w hw =>
  .bind (fun w=>w=true→ScrB s.fOther) (anyO (fun _=>scrFew _) (fun _=>.ret (fun h=>by cases h))) fun w2 hw2=>.ret fun h=>?_
 have h1:w=true∧w2=true:=by
  cases v<;>cases v1<;>cases w<;>cases w2<;>simp at h ⊢
 exact ⟨hw h1.1,hw2 h1.2⟩
theorem pfew_tot (l:List (List Int)):Tot (lapwingref05_Few l):=by
 unfold lapwingref05_Few
 have hn:=lenL_nn l
 refine .ite (fun _=>.ret) fun h=>?_
 have hh:lenL l≤30:=by simpa using h
 refine .cut (.of (Yields.loop (Q:=fun _=>True) (fun v=>0≤v∧v≤lenL l) (fun v=>(lenL l-v).toNat) ⟨by omega,by omega⟩ ?_)) fun _=>.ret
 rintro v ⟨v0,v1⟩
 refine .ite (fun h=>?_) (fun _=>.ret trivial)
 have h:v < lenL l:=by simpa using h
 exact .chk ⟨v0,h⟩ (.ite (fun _=>.ret trivial) fun _=>.chk (inR64 (by omega) (by omega)) (.ret ⟨⟨by omega,by omega⟩,by simp only;omega⟩))
theorem afew_tot (l:List T_api_Action):Tot (lapwinglaw16_few l):=by
 unfold lapwinglaw16_few
 have hn:=lenL_nn l
 refine .ite (fun _=>.ret) fun h=>?_
 have hh:lenL l≤80:=by simpa using h
 refine .cut (.of (Yields.loop (Q:=fun _=>True) (fun v=>0≤v∧v≤lenL l) (fun v=>(lenL l-v).toNat) ⟨by omega,by omega⟩ ?_)) fun _=>.ret
 rintro v ⟨v0,v1⟩
 refine .ite (fun h=>?_) (fun _=>.ret trivial)
 have h:v < lenL l:=by simpa using h
 exact .chk ⟨v0,h⟩ (.bind _ (pfew_tot _).yields fun _ _=>.chk (fun _=>⟨v0,h⟩) (.chk (fun _=>⟨v0,h⟩) (.ite (fun _=>.ret trivial) fun _=>.chk (inR64 (by omega) (by omega)) (.ret ⟨⟨by omega,by omega⟩,by simp only;omega⟩))))
theorem find_none {l:List T_interp_line} {inter:ByteArray} {final:Int} (hl:lenL l≤1000) (h : ∀ x∈l,seqS x.finter inter=true→x.ffinal=final→False):interp_find l inter final=some (FV.nil 69):=by
 have hn:=lenL_nn l
 refine Yields.eq ?_
 unfold interp_find
 refine .cut (fun r=>r = .go ()) ?_ (fun r hr=>by subst hr;exact .go (.ret rfl))
 refine .loop (fun i=>0≤i∧i≤lenL l) (fun i=>(lenL l-i).toNat) ⟨by omega,by omega⟩ ?_
 rintro i ⟨i0,i1⟩
 refine .ite (fun hi=>?_) (fun _=>.ret rfl)
 have hi:i < lenL l:=by simpa using hi
 refine .chk ⟨i0,hi⟩ (.ite (fun hh=>?_) (fun _=>.chk (inR64 (by omega) (by omega)) (.ret ⟨⟨by omega,by omega⟩,by simp only;omega⟩)))
 exfalso
 have hm:getL d_interp_line l i∈l:=by
  unfold getL
  have hlt:i.toNat < l.length:=by have:(l.length:Int)=lenL l:=rfl;omega
  rw [List.getD_eq_getElem?_getD,List.getElem?_eq_getElem hlt]
  exact List.getElem_mem hlt
 by_cases hs:seqS (getL d_interp_line l i).finter inter=true
 · rw [if_pos hs] at hh
   exact h _ hm hs (by simpa using hh)
 · rw [if_neg hs] at hh;cases hh
noncomputable def seqL:List T_interp_line:=interp_sequences.getD []
noncomputable def othL:List T_interp_line:=interp_others.getD []
theorem seq_eq:interp_sequences=some seqL:=by kernel_rfl
theorem oth_eq:interp_others=some othL:=by kernel_rfl
def knownL:List Int:=(List.range 34).map fun i=>sidxS kS9 (i:Nat)
theorem seq_known:seqL.all (fun x=>knownL.contains x.ffinal)=true:=by kernel_rfl
theorem seq_len:lenL seqL=34:=by kernel_rfl
theorem oth_len:lenL othL=10:=by kernel_rfl
def six (b:ByteArray):Bool:=(if (if (if (if (if (seqS b (⟨#[63]⟩:ByteArray))=true then true else (seqS b (⟨#[33]⟩:ByteArray)))=true then true else (seqS b (⟨#[32]⟩:ByteArray)))=true then true else (seqS b (⟨#[62]⟩:ByteArray)))=true then true else (seqS b (⟨#[36]⟩:ByteArray)))=true then true else (seqS b (⟨#[63,36]⟩:ByteArray)))
theorem six_congr {a b:ByteArray} (h:seqS a b=true):six a=six b:=by
 unfold seqS at h
 have h:=beq_iff_eq.1 h
 unfold six seqS
 rw [h]
theorem oth_six:othL.all (fun x=>six x.finter)=true:=by kernel_rfl
structure Unk (a:T_api_Action):Prop where
 n1:a.fWhat≠1
 n2:a.fWhat≠2
 n3:a.fWhat≠3
 n5:a.fWhat≠5
 s:a.fWhat=4→six a.fInter=false
 k:a.fWhat=4→seqS a.fInter (⟨#[]⟩:ByteArray)=true→∀ j:Int,0≤j→j < 34→sidxS kS9 j≠a.fFinal
theorem known_mem {x:Int} (h:knownL.contains x=true) : ∃ j:Int,0≤j∧j < 34∧sidxS kS9 j=x:=by
 have h:=List.contains_iff_mem.1 h
 obtain ⟨i,hi,he⟩:=List.mem_map.1 h
 have:=List.mem_range.1 hi
 exact ⟨i,by omega,by omega,he⟩
theorem do_unknown (s:T_interp_State) (d:T_ucd_Data) (a:T_api_Action) (hs:Tot (interp_Sane s)) (hu:Unk a):interp_Do s d a=some s:=by
 obtain ⟨v,hv⟩:=hs
 refine Yields.eq ?_
 unfold interp_Do
 refine .cut (fun o=>o = .go ()∨o = .out s) (.call hv (.ite (fun _=>.ret (.inr rfl)) fun _=>.ret (.inl rfl))) ?_
 rintro o (rfl | rfl)
 rotate_left
 · exact .out rfl
 refine .go (.cut (fun o=>o = .go ()∨o = .out s) ?_ ?_)
 · refine .ite (fun h=>absurd (by simpa using h) hu.n1) fun _=>.ite (fun h=>absurd (by simpa using h) hu.n2) fun _=>.ite (fun h=>absurd (by simpa using h) hu.n3) fun _=>.ite (fun h=>?_) fun _=>.ite (fun h=>absurd (by simpa using h) hu.n5) fun _=>.ret (.inl rfl)
   have h4:a.fWhat=4:=by simpa using h
   refine .cut (fun o=>o = .go ()∨o = .out (.out s)) (.ite (fun h0=>?_) fun _=>.ret (.inl rfl)) ?_
   · refine .call seq_eq (.call (find_none (by rw [seq_len];decide) fun x hx _ hf=>?_) (.call (b:=s) rfl (.ret (.inr rfl))))
     obtain ⟨j,j0,j1,je⟩:=known_mem (List.all_eq_true.1 seq_known x hx)
     exact hu.k h4 h0 j j0 j1 (je.trans hf)
   · rintro o (rfl | rfl)
     · refine .go (.call oth_eq (.call (find_none (by rw [oth_len];decide) fun x hx hi _=>?_) (.call (b:=s) rfl (.ret (.inr rfl)))))
       have:=List.all_eq_true.1 oth_six x hx
       rw [six_congr hi,hu.s h4] at this
       cases this
     · exact .out (.inr rfl)
 · rintro o (rfl | rfl)
   · exact .go (.ret rfl)
   · exact .out rfl
theorem state_eq (s:T_lapwingref16_State) : ∃ t,lapwinglaw16_state s=some t∧lapwinglaw16_plainly t=some s∧t.fMain.fT.fL=s.fMain.fT.fL∧t.fOther.fT.fL=s.fOther.fT.fL:=⟨_,rfl,rfl,rfl,rfl⟩
theorem interpUnknown_true (s:T_lapwingref16_State) (a:T_api_Action):lapwinglaw16_InterpUnknown s a=some true:=by
 refine Yields.eq ?_
 unfold lapwinglaw16_InterpUnknown
 refine .call awake_true (.bind _ (stFew s) fun v1 hv1=>.bind _ (Tot.any (fun _=>afew_tot _) fun _=>.ret).yields fun v2 _=>.ite (fun _=>.ret rfl) fun h=>?_)
 have hf:v1=true:=by
  cases v1 with
  | true=>rfl
  | false=>simp at h
 obtain ⟨b1,b2⟩:=hv1 hf
 refine .cut (fun o=>∃ b,o = .go b∧(b=false→Unk a)) ?_ ?_
 · refine .ite (fun h4=>?_) fun h4=>?_
   · have h4:a.fWhat=4:=by simpa using h4
     refine .loop (fun p=>0≤p.2∧p.2≤34∧(p.1=false→six a.fInter=false∧(seqS a.fInter (⟨#[]⟩:ByteArray)=true→∀ j:Int,0≤j→j < p.2→sidxS kS9 j≠a.fFinal))) (fun p=>(34-p.2).toNat) ⟨by simp only;omega,by simp only;omega,fun h=>⟨h,fun _ j j0 j1=>by simp only at j1;omega⟩⟩ ?_
     rintro ⟨b,i⟩ ⟨i0,i1,hb⟩
     simp only at i0 i1 hb ⊢
     have hk:slenS kS9=34:=by decide
     refine .ite (fun hi=>?_) fun hi=>?_
     · have hi:i < 34:=by rw [hk] at hi;simpa using hi
       refine .chk (fun _=>⟨i0,by rw [hk];exact hi⟩) (.chk (inR64 (by omega) (by omega)) (.ret ⟨⟨by simp only;omega,by simp only;omega,fun h=>?_⟩,by simp only;omega⟩))
       simp only at h ⊢
       cases b with
       | true=>simp at h
       | false =>
        obtain ⟨g1,g2⟩:=hb rfl
        refine ⟨g1,fun he j j0 j1=>?_⟩
        by_cases hj:j < i
        · exact g2 he j j0 hj
        · have:j=i:=by omega
          subst this
          rw [he] at h
          simpa using h
     · have hi : ¬ i < 34:=by rw [hk] at hi;simpa using hi
       have hi:i=34:=by omega
       subst hi
       exact .ret ⟨b,rfl,fun h=>⟨by omega,by omega,by omega,by omega,fun _=>(hb h).1,fun _=>(hb h).2⟩⟩
   · have h4 : ¬ a.fWhat=4:=by simpa using h4
     refine .ret ⟨_,rfl,fun h=>?_⟩
     have hh : ¬ (1≤a.fWhat∧a.fWhat≤3)∧a.fWhat≠5:=by
      by_cases h1:1≤a.fWhat
      · by_cases h3:a.fWhat≤3
        · simp [h1,h3] at h
        · exact ⟨by omega,by simpa [h1,h3] using h⟩
      · exact ⟨by omega,by simpa [h1] using h⟩
     exact ⟨by omega,by omega,by omega,hh.2,fun h=>absurd h h4,fun h=>absurd h h4⟩
 · rintro o ⟨b,rfl,hb⟩
   refine .go (.ite (fun _=>.ret rfl) fun h=>?_)
   obtain ⟨t,e1,e2,e3,e4⟩:=state_eq s
   have hd:interp_Do t dLoad a=some t:=do_unknown t dLoad a (sane_tot t (by rw [e3];exact b1.t) (by rw [e4];exact b2.t)) (hb h)
   exact .call (b:=t) (by rw [if_pos rfl];exact e1) (.call (b:=dLoad) (by rw [if_pos rfl];exact load_eq) (.call (b:=t) (by rw [if_pos rfl];exact hd) (.call (b:=s) (by rw [if_pos rfl];exact e2) (.call (b:=true) (by rw [if_pos rfl];exact st_same s b1 b2) (.ret rfl)))))
end Go.Vx
