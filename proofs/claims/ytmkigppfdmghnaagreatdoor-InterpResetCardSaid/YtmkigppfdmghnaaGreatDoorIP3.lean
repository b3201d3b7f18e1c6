/- InterpReset, as a plain law. No conditions. -/
import Derived.Test.YtmkigppfdmghnaaGreatDoorIP2
set_option linter.all false
namespace Go.Vx
set_option maxRecDepth 100000
theorem rowLay_yields (l:List T_api_Cell) (p:T_api_Pen) (hb:lenL l≤100000):Yields (row_lay l 0 (lenL l) p) (fun r=>lenL r=lenL l):=by
 have hn:=lenL_nn l
 unfold row_lay
 refine .chk ⟨by omega,by omega,by omega⟩ (.loop (fun q=>0≤q.1∧q.1≤lenL l∧lenL q.2=lenL l) (fun q=>(lenL l-q.1).toNat) ⟨by simp only;omega,by simp only;omega,rfl⟩ ?_)
 rintro ⟨v,m⟩ ⟨v0,v1,hm⟩
 simp only at v0 v1 hm ⊢
 refine .ite (fun h=>?_) (fun _=>.ret hm)
 have h:v < lenL l:=by simpa using h
 exact .call (b:=_) rfl (.chk ⟨v0,h⟩ (.chk (inR64 (by omega) (by omega)) (.ret ⟨⟨by simp only;omega,by simp only;omega,by simp only [lenL_set];exact hm⟩,by simp only;omega⟩)))
theorem clamp_rng (a n:Int) (h:1≤n):1≤imaxI 1 (iminI a n)∧imaxI 1 (iminI a n)≤n:=by
 unfold imaxI iminI
 split<;>split<;>omega
theorem rowNew_yields (w:Int) (p:T_api_Pen):Yields (row_New w p) (fun r=>lenL r.fCells≤4096):=by
 unfold row_New
 have hc:=clamp_rng w 4096 (by omega)
 refine .cut (fun o=>∃ l,o = .go l∧lenL l≤4096) (.call (b:=imaxI 1 (iminI w 4096)) rfl (.chk (mkOk (by omega) (by omega) (by omega)) (.ret ⟨_,rfl,by rw [lenL_rep _ (by omega)];omega⟩))) ?_
 rintro o ⟨l,rfl,hl⟩
 refine .go (.bind _ (rowLay_yields l p (by omega)) fun v hv=>.chk hv (.ret ?_))
 show lenL v≤4096
 omega
def CellsB (l:List T_api_Row):Prop:=∀ i,0≤i→i < lenL l→lenL (getL d_api_Row l i).fCells≤4096
theorem gridLay_yields (n w:Int) (p:T_api_Pen) (h0:0≤n) (h1:n≤1000):Yields (grid_lay (repL n d_api_Row) 0 n w p) (fun r=>lenL r=n∧CellsB r):=by
 unfold grid_lay
 have hr:=lenL_rep d_api_Row h0
 refine .chk ⟨by omega,by omega,by omega⟩ (.loop (fun q=>0≤q.1∧q.1≤n∧lenL q.2=n∧CellsB q.2) (fun q=>(n-q.1).toNat) ⟨by simp only;omega,by simp only;omega,hr,fun i i0 i1=>?_⟩ ?_)
 · simp only at i1 ⊢
   rw [getL_rep i0 (by omega)]
   show lenL ([]:List T_api_Cell)≤4096
   simp
 rintro ⟨v,m⟩ ⟨v0,v1,hm,hc⟩
 simp only at v0 v1 hm hc ⊢
 refine .ite (fun h=>?_) (fun _=>.ret ⟨hm,hc⟩)
 have h:v < n:=by simpa using h
 refine .bind _ (rowNew_yields w p) fun x hx=>.chk ⟨v0,h⟩ (.chk (inR64 (by omega) (by omega)) (.ret ⟨⟨by simp only;omega,by simp only;omega,by simp only [lenL_set];exact hm,fun i i0 i1=>?_⟩,by simp only;omega⟩))
 simp only [lenL_set] at i1 ⊢
 rw [getL_put (by omega) i0 i1]
 split
 · exact hx
 · exact hc i i0 i1
theorem gridNew_yields (a w:Int) (p:T_api_Pen):Yields (grid_New a w p) (fun g=>RowsB g.fRows):=by
 unfold grid_New
 have hc:=clamp_rng a 1000 (by omega)
 refine .cut (fun o=>o = .go ()) (.chk (mkOk (by omega) (by omega) (by omega)) (.ret rfl)) ?_
 rintro o rfl
 refine .go (.bind _ (gridLay_yields _ w p (by omega) hc.2) fun v hv=>.chk (by rw [hv.1,lenL_rep _ (by omega)]) (.ret ⟨by simp only;omega,fun i i0 i1=>?_⟩))
 have:=hv.2 i i0 i1
 simp only
 omega
theorem tabsNew_yields (w:Int):Yields (tabs_New w) (fun t=>lenL t.fL≤100000):=by
 unfold tabs_New
 have hc:=clamp_rng w 4096 (by omega)
 refine .call (b:=imaxI 1 (iminI w 4096)) rfl ?_
 generalize imaxI 1 (iminI w 4096)=v at hc
 refine .cut (fun o=>∃ l,o = .go l∧lenL l≤100000) (.loop (fun q=>8≤q.1∧q.1≤5000∧lenL q.2≤q.1) (fun q=>(5000-q.1).toNat) ⟨by simp only;omega,by simp only;omega,by simp⟩ ?_) ?_
 · rintro ⟨a,l⟩ ⟨a0,a1,al⟩
   simp only at a0 a1 al ⊢
   have hl:=lenL_nn l
   refine .ite (fun h=>?_) (fun _=>.ret ⟨l,rfl,by omega⟩)
   have h:a < v:=by simpa using h
   exact .chk (grOk (by omega) (by omega) (by omega)) (.chk (inR64 (by omega) (by omega)) (.ret ⟨⟨by simp only;omega,by simp only;omega,by simp only [lenL_app,lenL_cons,lenL_nil];omega⟩,by simp only;omega⟩))
 · rintro o ⟨l,rfl,hl⟩
   exact .go (.ret hl)
structure ScrN (x:T_screen_Screen):Prop where
 g:RowsB x.fG.fRows
 k:RowsB x.fK.fRows
 t:lenL x.fT.fL≤100000
theorem screenNew_yields (a w k:Int):Yields (screen_New a w k) ScrN:=by
 unfold screen_New
 refine .call (b:=_) rfl (.bind _ (gridNew_yields a w d_api_Pen) fun g hg=>.bind _ (tabsNew_yields w) fun t ht=>.call (b:=_) rfl (.ret ⟨hg,⟨?_,fun i i0 i1=>?_⟩,ht⟩))
 · show lenL ([]:List T_api_Row)≤100000
   simp
 · have:i < lenL ([]:List T_api_Row):=i1
   simp at this
   omega
theorem new_yields (a w k:Int):Yields (interp_New a w k) (fun x=>ScrN x.fMain∧ScrN x.fOther):=by
 unfold interp_New
 refine .call (b:=_) rfl (.bind _ (screenNew_yields a w k) fun x hx=>.bind _ (screenNew_yields a w 0) fun y hy=>.call (b:=_) rfl (.bind (fun r=>ScrN r.fMain∧ScrN r.fOther) ?_ fun r hr=>.ret hr))
 unfold interp_explicit
 have hm : ∃ b,modes_Has (T_modes_Modes.mk 322) false 8=some b:=⟨true,by kernel_rfl⟩
 obtain ⟨b,hb⟩:=hm
 exact .call hb (.ret ⟨⟨hx.g,hx.k,hx.t⟩,⟨hy.g,hy.k,hy.t⟩⟩)
noncomputable def escL:List T_interp_line:=interp_escapes.getD []
theorem esc_eq:interp_escapes=some escL:=by kernel_rfl
theorem esc_c:interp_find escL ByteArray.empty 99=some (FV.nil 88):=by kernel_rfl
theorem do_reset (s:T_interp_State) (d:T_ucd_Data) (hs:interp_Sane s=some true):interp_Do s d (T_api_Action.mk 3 0 99 ByteArray.empty ([]:List (List Int)) ByteArray.empty)=interp_renew s d (T_api_Action.mk 3 0 99 ByteArray.empty ([]:List (List Int)) ByteArray.empty):=by
 obtain ⟨r,hr,_⟩:=new_yields s.fMain.fR.fH s.fMain.fR.fW s.fMain.fK.fCap
 have e:interp_renew s d (T_api_Action.mk 3 0 99 ByteArray.empty ([]:List (List Int)) ByteArray.empty)=some (T_interp_State.mk r.fMain r.fOther r.fOn r.fM r.fSaved s.fOut r.fTitle r.fLast):=by
  unfold interp_renew;rw [hr];rfl
 rw [e]
 refine Yields.eq ?_
 unfold interp_Do
 refine .cut (fun o=>o = .go ()) (.call hs (.ite (fun h=>by cases h) fun _=>.ret rfl)) ?_
 rintro o rfl
 refine .go (.cut (fun o=>o = .out (T_interp_State.mk r.fMain r.fOther r.fOn r.fM r.fSaved s.fOut r.fTitle r.fLast)) ?_ ?_)
 · refine .ite (fun h=>absurd h (by decide)) fun _=>.ite (fun h=>absurd h (by decide)) fun _=>.ite (fun _=>?_) fun h=>absurd h (by decide)
   refine .cut (fun o=>o = .go ()) (.ite (fun h=>absurd h (by decide)) fun _=>.ret rfl) ?_
   rintro o rfl
   exact .go (.call esc_eq (.call esc_c (.call (b:=_) (show interp_renew s d _=_ from e) (.ret rfl))))
 · rintro o rfl
   exact .out rfl
theorem interpReset_true (s:T_lapwingref16_State):lapwinglaw16_InterpReset s=some true:=by
 refine Yields.eq ?_
 unfold lapwinglaw16_InterpReset
 obtain ⟨t,e1,e2,e3,e4⟩:=state_eq s
 have eR:t.fMain.fR.fH=s.fMain.fR.fH∧t.fMain.fR.fW=s.fMain.fR.fW∧t.fMain.fK.fCap=s.fMain.fK.fCap∧t.fOut=s.fOut:=by
  cases e1;exact ⟨rfl,rfl,rfl,rfl⟩
 refine .call awake_true (.bind _ (stFew s) fun v1 hv1=>?_)
 refine .bind (fun v2=>v1=true→v2=t) (anyO (fun _=>.of e1 fun _=>rfl) (fun h=>.ret (fun h2=>by rw [h2] at h;cases h))) fun v2 hv2=>?_
 refine .bind (fun v3=>v1=true→interp_Sane v2=some v3) (anyO (fun h=>?_) (fun h=>.ret (fun h2=>by rw [h2] at h;cases h))) fun v3 hv3=>?_
 · have h1:v1=true:=by simpa using h
   obtain ⟨b1,b2⟩:=hv1 h1
   obtain rfl:=hv2 h1
   obtain ⟨b,hb⟩:=sane_tot v2 (by rw [e3];exact b1.t) (by rw [e4];exact b2.t)
   exact .of hb fun _=>hb
 refine .ite (fun _=>.ret rfl) fun h=>?_
 have hf:v1=true∧v3=true:=by
  cases v1<;>cases v3<;>simp at h ⊢
 obtain ⟨h1,h3⟩:=hf
 obtain rfl:=hv2 h1
 have hs:=hv3 h1
 rw [h3] at hs
 obtain ⟨r,hr,hN1,hN2⟩:=new_yields s.fMain.fR.fH s.fMain.fR.fW s.fMain.fK.fCap
 have hd:=do_reset v2 dLoad hs
 unfold interp_renew at hd
 rw [eR.1,eR.2.1,eR.2.2.1,eR.2.2.2,hr] at hd
 have hp : ∃ q,lapwinglaw16_plainly (T_interp_State.mk r.fMain r.fOther r.fOn r.fM r.fSaved s.fOut r.fTitle r.fLast)=some q∧ScrB q.fMain∧ScrB q.fOther:=⟨_,rfl,⟨hN1.g,hN1.k,hN1.t⟩,⟨hN2.g,hN2.k,hN2.t⟩⟩
 obtain ⟨q,q1,q2,q3⟩:=hp
 exact .call e1 (.call load_eq (.call hd (.call hr (.call (b:=q) (by rw [if_pos rfl];exact q1) (.call (b:=q) (by rw [if_pos rfl];exact q1) (.call (b:=true) (by rw [if_pos rfl];exact st_same q q2 q3) (.ret rfl)))))))
end Go.Vx
