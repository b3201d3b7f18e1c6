/- Saving, restoring, switching. No conditions. -/
import Derived.Test.YtmkigppfdmghnaaGreatDoorS6
set_option linter.all false
namespace Go.Vx
set_option maxRecDepth 100000
theorem RegQ.whl {r:T_cursor_Region} (q:RegQ r):RegQ (whl r):=⟨q.h,q.w,by have:=q.h;show (0:Int)≤0∧(0:Int) < r.fH∧r.fH≤r.fH;omega⟩
theorem CurQ.whl {c:T_cursor_Cursor} {r:T_cursor_Region} (q:CurQ c r):CurQ c (whl r):=⟨q.reg.whl,q.x,q.y,q.wrap,fun _=>q.y,q.pen,q.set⟩
theorem StQ.whl {s:T_interp_State} (q:StQ s):Go.Vx.whl (Go.Vx.act s).fR=Go.Vx.whl s.fMain.fR:=by
 unfold Go.Vx.act
 cases s.fOn
 · rfl
 · unfold Go.Vx.whl;simp only [if_true];rw [q.h,q.w]
def sav (s:T_interp_State):T_interp_State:=T_interp_State.mk s.fMain s.fOther s.fOn s.fM (if s.fOn=true then T_Arr2_cursor_Cursor.mk s.fSaved.x0 s.fOther.fC else T_Arr2_cursor_Cursor.mk s.fMain.fC s.fSaved.x1) s.fOut s.fTitle s.fLast
theorem save_eq (s:T_interp_State) (d:T_ucd_Data) (a:T_api_Action):interp_save s d a=some (sav s):=by
 obtain ⟨m,o,on,md,sv,out,ti,l⟩:=s
 cases on<;>rfl
theorem StQ.sav {s:T_interp_State} (q:StQ s):StQ (sav s):=by
 have h1:CurQ s.fMain.fC (Go.Vx.whl s.fMain.fR):=q.main.cur.whl
 have h2:CurQ s.fOther.fC (Go.Vx.whl s.fMain.fR):=by
  have:=q.other.cur.whl
  have e:Go.Vx.whl s.fOther.fR=Go.Vx.whl s.fMain.fR:=by unfold Go.Vx.whl;rw [q.h,q.w]
  rw [← e];exact this
 obtain ⟨m,o,on,md,sv,out,ti,l⟩:=s
 cases on
 · exact ⟨q.main,q.other,q.m,q.h,q.w,h1,q.s1,q.out,q.title,q.last⟩
 · exact ⟨q.main,q.other,q.m,q.h,q.w,q.s0,h2,q.out,q.title,q.last⟩
def rcS (s:T_interp_State):T_cursor_Cursor:=if s.fOn=true then s.fSaved.x1 else s.fSaved.x0
def rcur (c:T_cursor_Cursor) (r:T_cursor_Region):T_cursor_Cursor:=T_cursor_Cursor.mk c.fX c.fY c.fWrap (if (if (decide (c.fY < r.fTop))=true then true else (decide (r.fBottom≤c.fY)))=true then false else c.fOrigin) c.fPen c.fSet
def rstS (s:T_interp_State):T_screen_Screen:=T_screen_Screen.mk (act s).fG (rcur (rcS s) (act s).fR) (act s).fR (act s).fT (act s).fK (act s).fDir (act s).fExplicit
theorem restore_eq (s:T_interp_State) (d:T_ucd_Data) (a:T_api_Action):interp_restore s d a=some (upd s (rstS s) s.fLast):=by
 refine Yields.eq ?_
 unfold interp_restore
 obtain ⟨m,o,on,md,⟨c0,c1⟩,out,ti,l⟩:=s
 cases on
 · refine .call (act_eq _) (.call (b:=0) rfl (.chk (by omega) (.cut (fun x=>x = .go (rstS (T_interp_State.mk m o false md ⟨c0,c1⟩ out ti l))) (.ite (fun h=>.ret ?_) fun h=>.ret ?_) ?_)))
   · have h:(if (decide (c0.fY < m.fR.fTop))=true then true else (decide (m.fR.fBottom≤c0.fY)))=true:=h
     unfold rstS rcur
     show _=Fl.go (T_screen_Screen.mk m.fG (T_cursor_Cursor.mk c0.fX c0.fY c0.fWrap (if (if (decide (c0.fY < m.fR.fTop))=true then true else (decide (m.fR.fBottom≤c0.fY)))=true then false else c0.fOrigin) c0.fPen c0.fSet) m.fR m.fT m.fK m.fDir m.fExplicit)
     rw [h];rfl
   · have h:(if (decide (c0.fY < m.fR.fTop))=true then true else (decide (m.fR.fBottom≤c0.fY)))=false:=h
     unfold rstS rcur
     show _=Fl.go (T_screen_Screen.mk m.fG (T_cursor_Cursor.mk c0.fX c0.fY c0.fWrap (if (if (decide (c0.fY < m.fR.fTop))=true then true else (decide (m.fR.fBottom≤c0.fY)))=true then false else c0.fOrigin) c0.fPen c0.fSet) m.fR m.fT m.fK m.fDir m.fExplicit)
     rw [h];rfl
   · rintro x rfl
     exact .go (.call (with_eq _ _) (.ret rfl))
 · refine .call (act_eq _) (.call (b:=1) rfl (.chk (by omega) (.cut (fun x=>x = .go (rstS (T_interp_State.mk m o true md ⟨c0,c1⟩ out ti l))) (.ite (fun h=>.ret ?_) fun h=>.ret ?_) ?_)))
   · have h:(if (decide (c1.fY < o.fR.fTop))=true then true else (decide (o.fR.fBottom≤c1.fY)))=true:=h
     unfold rstS rcur
     show _=Fl.go (T_screen_Screen.mk o.fG (T_cursor_Cursor.mk c1.fX c1.fY c1.fWrap (if (if (decide (c1.fY < o.fR.fTop))=true then true else (decide (o.fR.fBottom≤c1.fY)))=true then false else c1.fOrigin) c1.fPen c1.fSet) o.fR o.fT o.fK o.fDir o.fExplicit)
     rw [h];rfl
   · have h:(if (decide (c1.fY < o.fR.fTop))=true then true else (decide (o.fR.fBottom≤c1.fY)))=false:=h
     unfold rstS rcur
     show _=Fl.go (T_screen_Screen.mk o.fG (T_cursor_Cursor.mk c1.fX c1.fY c1.fWrap (if (if (decide (c1.fY < o.fR.fTop))=true then true else (decide (o.fR.fBottom≤c1.fY)))=true then false else c1.fOrigin) c1.fPen c1.fSet) o.fR o.fT o.fK o.fDir o.fExplicit)
     rw [h];rfl
   · rintro x rfl
     exact .go (.call (with_eq _ _) (.ret rfl))
theorem rcur_q {c:T_cursor_Cursor} {r:T_cursor_Region} (q:CurQ c (whl r)) (hr:RegQ r):CurQ (rcur c r) r:=by
 refine ⟨hr,q.x,q.y,q.wrap,fun h=>?_,q.pen,q.set⟩
 have h:(if (if (decide (c.fY < r.fTop))=true then true else (decide (r.fBottom≤c.fY)))=true then false else c.fOrigin)=true:=h
 show r.fTop≤c.fY∧c.fY < r.fBottom
 grind
theorem rcur_same {c:T_cursor_Cursor} {r:T_cursor_Region} (q:CurQ c r):rcur c r=c:=by
 have h:=q.org
 obtain ⟨x,y,w,o,p,s⟩:=c
 unfold rcur
 simp only at h ⊢
 congr 1
 cases o
 · (repeat' split)<;>rfl
 · have:=h rfl
   grind
theorem StQ.rc {s:T_interp_State} (q:StQ s):CurQ (rcS s) (Go.Vx.whl (Go.Vx.act s).fR):=by
 rw [q.whl]
 unfold rcS
 cases s.fOn
 · exact q.s0
 · exact q.s1
theorem StQ.rst {s:T_interp_State} (q:StQ s):ScrK (Go.Vx.act s) (rstS s):=cur_scr q.act (rcur_q q.rc q.act.cur.reg)
theorem StQ.restored {s:T_interp_State} (q:StQ s):StQ (Go.Vx.upd s (rstS s) s.fLast):=(Moved.of q q.rst).q q
theorem do_esc {s:T_interp_State} (q:StQ s) (d:T_ucd_Data) {n:Int} {t:T_interp_State} (h:bindO interp_escapes (fun l=>bindO (interp_find l ByteArray.empty n) fun f=>V_deedV f s d (T_api_Action.mk 3 0 n ByteArray.empty ([]:List (List Int)) ByteArray.empty))=some t):interp_Do s d (T_api_Action.mk 3 0 n ByteArray.empty ([]:List (List Int)) ByteArray.empty)=some t:=by
 refine Yields.eq ?_
 unfold interp_Do
 refine .cut (fun o=>o = .go ()) (.call q.ok (.ite (fun h=>by cases h) fun _=>.ret rfl)) ?_
 rintro o rfl
 refine .go (.cut (fun o=>o = .out t) ?_ ?_)
 · refine .ite (fun h=>Bool.noConfusion (show false=true from h)) fun _=>.ite (fun h=>Bool.noConfusion (show false=true from h)) fun _=>.ite (fun _=>?_) fun h=>Bool.noConfusion (show true=false from h)
   refine .cut (fun o=>o = .go ()) (.ite (fun h=>Bool.noConfusion (show false=true from h)) fun _=>.ret rfl) ?_
   rintro o rfl
   obtain ⟨l,hl,h⟩:=bindO_some h
   obtain ⟨f,hf,h⟩:=bindO_some h
   exact .go (.call hl (.call hf (.call h (.ret rfl))))
 · rintro o rfl
   exact .out rfl
noncomputable def escL:List T_interp_line:=interp_escapes.getD []
theorem esc_eq:interp_escapes=some escL:=by kernel_rfl
theorem do_save {s:T_interp_State} (q:StQ s) (d:T_ucd_Data):interp_Do s d (T_api_Action.mk 3 0 55 ByteArray.empty ([]:List (List Int)) ByteArray.empty)=some (sav s):=by
 refine do_esc q d ?_
 rw [esc_eq]
 obtain ⟨f,hf,h⟩ : ∃ f,interp_find escL ByteArray.empty 55=some f∧∀ s d a,V_deedV f s d a=interp_save s d a:=⟨FV.nil 86,by kernel_rfl,fun _ _ _=>rfl⟩
 show bindO (interp_find escL ByteArray.empty 55) _=_
 rw [hf]
 exact (h _ _ _).trans (save_eq s d _)
theorem do_restore {s:T_interp_State} (q:StQ s) (d:T_ucd_Data):interp_Do s d (T_api_Action.mk 3 0 56 ByteArray.empty ([]:List (List Int)) ByteArray.empty)=some (upd s (rstS s) s.fLast):=by
 refine do_esc q d ?_
 rw [esc_eq]
 obtain ⟨f,hf,h⟩ : ∃ f,interp_find escL ByteArray.empty 56=some f∧∀ s d a,V_deedV f s d a=interp_restore s d a:=⟨FV.nil 87,by kernel_rfl,fun _ _ _=>rfl⟩
 show bindO (interp_find escL ByteArray.empty 56) _=_
 rw [hf]
 exact (h _ _ _).trans (restore_eq s d _)
end Go.Vx
