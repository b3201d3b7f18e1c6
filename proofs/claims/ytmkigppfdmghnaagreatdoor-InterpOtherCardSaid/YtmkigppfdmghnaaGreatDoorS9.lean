/- InterpOther, as a plain law. No conditions. -/
import Derived.Test.YtmkigppfdmghnaaGreatDoorS8
set_option linter.all false
namespace Go.Vx
set_option maxRecDepth 100000
def MSame (x y:T_screen_Screen):Prop:=y.fG=x.fG∧y.fR=x.fR∧y.fT=x.fT∧y.fK=x.fK∧y.fDir=x.fDir
theorem MSame.trans {x y z:T_screen_Screen} (h:MSame x y) (k:MSame y z):MSame x z:=⟨k.1.trans h.1,k.2.1.trans h.2.1,k.2.2.1.trans h.2.2.1,k.2.2.2.1.trans h.2.2.2.1,k.2.2.2.2.trans h.2.2.2.2⟩
theorem explicit_q {s:T_interp_State} (q:StQ s):Yields (interp_explicit s) (fun t=>StQ t∧t.fOn=s.fOn∧MSame s.fMain t.fMain):=by
 unfold interp_explicit
 exact .bind _ (has_q _ _ _) fun b _=>.ret ⟨⟨q.main.turn (GridK.refl q.main.grid) q.main.cur q.main.kept _,q.other.turn (GridK.refl q.other.grid) q.other.cur q.other.kept _,q.m,q.h,q.w,q.s0,q.s1,q.out,q.title,q.last⟩,rfl,rfl,rfl,rfl,rfl,rfl⟩
theorem StQ.setM {s:T_interp_State} (q:StQ s) {m:T_modes_Modes} (h:ModQ m):StQ (T_interp_State.mk s.fMain s.fOther s.fOn m s.fSaved s.fOut s.fTitle s.fLast):=⟨q.main,q.other,h,q.h,q.w,q.s0,q.s1,q.out,q.title,q.last⟩
theorem StQ.setOn {s:T_interp_State} (q:StQ s) (b:Bool):StQ (T_interp_State.mk s.fMain s.fOther b s.fM s.fSaved s.fOut s.fTitle s.fLast):=⟨q.main,q.other,q.m,q.h,q.w,q.s0,q.s1,q.out,q.title,q.last⟩
theorem besides_on {s:T_interp_State} (q:StQ s) (d:T_ucd_Data) (a:T_api_Action):Yields (interp_besides s d a 1049 true) (fun t=>StQ t∧t.fOn=true∧MSame s.fMain t.fMain):=by
 unfold interp_besides
 refine .ite (fun h=>Bool.noConfusion (show false=true from h)) fun _=>.ite (fun h=>Bool.noConfusion (show false=true from h)) fun _=>.ite (fun h=>Bool.noConfusion (show false=true from h)) fun _=>.ite (fun h=>Bool.noConfusion (show false=true from h)) fun _=>.ite (fun _=>.ite (fun h=>by cases h) fun _=>?_) fun h=>Bool.noConfusion (show true=false from h)
 refine .call (save_eq s d a) (.bind _ (erase2_q q.sav.other 2) fun x hx=>.ret ⟨?_,rfl,rfl,rfl,rfl,rfl,rfl⟩)
 have w:=q.sav
 exact ⟨w.main,hx.1,w.m,by show x.fR.fH=_;rw [hx.2.1];exact w.h,by show x.fR.fW=_;rw [hx.2.1];exact w.w,w.s0,w.s1,w.out,w.title,w.last⟩
theorem besides_off {s:T_interp_State} (q:StQ s) (d:T_ucd_Data) (a:T_api_Action):Yields (interp_besides s d a 1049 false) (fun t=>StQ t∧t.fOn=false∧MSame s.fMain t.fMain):=by
 unfold interp_besides
 refine .ite (fun h=>Bool.noConfusion (show false=true from h)) fun _=>.ite (fun h=>Bool.noConfusion (show false=true from h)) fun _=>.ite (fun h=>Bool.noConfusion (show false=true from h)) fun _=>.ite (fun h=>Bool.noConfusion (show false=true from h)) fun _=>.ite (fun _=>.ite (fun _=>?_) fun h=>by cases h) fun h=>Bool.noConfusion (show true=false from h)
 exact .call (restore_eq _ d a) (.ret ⟨(q.setOn false).restored,rfl,rfl,rfl,rfl,rfl,rfl⟩)
theorem privately_q {s:T_interp_State} (q:StQ s) (d:T_ucd_Data) (a:T_api_Action) (ha:a.fParams=[[1049]]) (on:Bool):Yields (interp_privately_1 s d a on) (fun t=>StQ t∧t.fOn=on∧MSame s.fMain t.fMain):=by
 unfold interp_privately_1
 rw [ha]
 refine .cut (fun o=>∃ t,o = .go t∧StQ t∧t.fOn=on∧MSame s.fMain t.fMain) ?_ ?_
 · refine .loop (fun p=>p.1=0∧p.2=s∨p.1=1∧StQ p.2∧p.2.fOn=on∧MSame s.fMain p.2.fMain) (fun p=>(1-p.1).toNat) (.inl ⟨rfl,rfl⟩) ?_
   rintro ⟨v,t⟩ (⟨rfl,rfl⟩ | ⟨rfl,h⟩)
   · refine .ite (fun _=>?_) fun h=>by simp [lenL] at h
     refine .call (b:=1049) (by kernel_rfl) (.bind _ (modset_q q.m true 1049 on) fun m hm=>.bind (fun u=>StQ u∧u.fOn=on∧MSame t.fMain u.fMain) ?_ fun u hu=>.chk (inR64 (by omega) (by omega)) (.ret ⟨.inr ⟨rfl,hu⟩,by simp⟩))
     have qm:=q.setM hm
     cases on
     · exact besides_off qm d a
     · exact besides_on qm d a
   · refine .ite (fun hh=>by simp [lenL] at hh) fun _=>.ret ⟨t,rfl,h⟩
 · rintro o ⟨t,rfl,h1,h2,h3⟩
   exact .go (.bind _ (explicit_q h1) fun u hu=>.ret ⟨hu.1,hu.2.1.trans h2,h3.trans hu.2.2⟩)
noncomputable def othL:List T_interp_line:=interp_others.getD []
theorem oth_eq:interp_others=some othL:=by kernel_rfl
theorem do_other {s:T_interp_State} (q:StQ s) (d:T_ucd_Data) {n:Int} (on:Bool) (hn : ∃ f,interp_find othL (⟨#[63]⟩:ByteArray) n=some f∧∀ s d a,V_deedV f s d a=interp_privately_1 s d a on) :
  Yields (interp_Do s d (T_api_Action.mk 4 0 n (⟨#[63]⟩:ByteArray) ([([1049]:List Int)]:List (List Int)) ByteArray.empty)) (fun t=>StQ t∧t.fOn=on∧MSame s.fMain t.fMain):=by
 obtain ⟨f,hf,hV⟩:=hn
 unfold interp_Do
 refine .cut (fun o=>o = .go ()) (.call q.ok (.ite (fun h=>by cases h) fun _=>.ret rfl)) ?_
 rintro o rfl
 refine .go (.cut (fun o=>∃ t,o = .out t∧StQ t∧t.fOn=on∧MSame s.fMain t.fMain) ?_ ?_)
 · refine .ite (fun h=>Bool.noConfusion (show false=true from h)) fun _=>.ite (fun h=>Bool.noConfusion (show false=true from h)) fun _=>.ite (fun h=>Bool.noConfusion (show false=true from h)) fun _=>.ite (fun _=>?_) fun h=>Bool.noConfusion (show true=false from h)
   have hs:seqS (⟨#[63]⟩:ByteArray) (⟨#[]⟩:ByteArray)=false:=by kernel_rfl
   refine .cut (fun o=>o = .go ()) (.ite (fun h=>Bool.noConfusion (hs.symm.trans (show _=true from h))) fun _=>.ret rfl) ?_
   rintro o rfl
   refine .go (.call oth_eq (.call hf (.bind _ ?_ fun t ht=>.ret ⟨t,rfl,ht⟩)))
   rw [hV]
   exact privately_q q d _ rfl on
 · rintro o ⟨t,rfl,h⟩
   exact .out h
theorem moved_main {s t:T_interp_State} (h:Moved s t) (ho:s.fOn=true):t.fOn=true∧t.fMain=s.fMain:=by
 obtain ⟨x,l,_,rfl,_⟩:=h
 unfold upd
 exact ⟨ho,by simp [ho]⟩
theorem ours_eq (s:T_lapwingref16_State) {t:T_interp_State} (h:lapwinglaw16_state s=some t):s.fMain.fG=T_lapwingref09_Grid.mk t.fMain.fG.fRows∧s.fMain.fR=T_lapwingref14_Region.mk t.fMain.fR.fH t.fMain.fR.fW t.fMain.fR.fTop t.fMain.fR.fBottom∧s.fMain.fT=T_lapwingref12_Stops.mk t.fMain.fT.fL t.fMain.fT.fW∧s.fMain.fK=T_lapwingref10_Kept.mk t.fMain.fK.fRows t.fMain.fK.fCap∧s.fMain.fDir=t.fMain.fDir∧s.fOn=t.fOn:=by
 cases h
 exact ⟨rfl,rfl,rfl,rfl,rfl,rfl⟩
theorem interpOther_true (s:T_lapwingref16_State) (l:List Int):lapwinglaw16_InterpOther s l=some true:=by
 refine Yields.eq ?_
 unfold lapwinglaw16_InterpOther
 refine .call awake_true (.bind _ (stFew s) fun v1 hv1=>?_)
 refine .bind _ (begin_q s hv1 (decide (100 < lenL l))) fun v2 hv2=>?_
 refine .bind (fun b=>v1=true→lenL l≤100→b=true→StQ v2) (anyO (fun h=>?_) (fun h=>.ret fun _ _ h=>by cases h)) fun v3 hv3=>.ite (fun _=>.ret rfl) fun h=>?_
 · have hh:v1=true∧lenL l≤100:=by
    cases v1<;>simp at h ⊢
    omega
   obtain ⟨_,b,hb,hq⟩:=hv2 hh.1 (by simpa using hh.2)
   exact .of hb fun _ _=>hq
 have hf:v1=true∧lenL l≤100∧v3=true∧s.fOn=false:=by
  cases v1<;>cases v3<;>simp at h ⊢
  grind
 obtain ⟨f1,fl,f3,fon⟩:=hf
 have q:=hv3 f1 fl f3
 obtain ⟨e1,_⟩:=hv2 f1 (by simpa using fl)
 have hn:=lenL_nn l
 obtain ⟨eG,eR,eT,eK,eD,eO⟩:=ours_eq s e1
 obtain ⟨bM,bO⟩:=hv1 f1
 refine .call load_eq (.call e1 (.call rfl (.bind _ (do_other q dLoad true ⟨FV.bool (FV.nil 198) true,by kernel_rfl,fun _ _ _=>rfl⟩) fun t ht=>?_)))
 refine .cut (fun o=>∃ a,o = .go a∧StQ a∧a.fOn=true∧MSame v2.fMain a.fMain) ?_ ?_
 · refine .loop (fun p=>0≤p.1∧StQ p.2∧p.2.fOn=true∧MSame v2.fMain p.2.fMain) (fun p=>(lenL l-p.1).toNat) ⟨by simp,ht⟩ ?_
   rintro ⟨i,a⟩ ⟨i0,qa,oa,ma⟩
   simp only at i0 qa oa ma ⊢
   refine .ite (fun hi=>?_) fun _=>.ret ⟨a,rfl,qa,oa,ma⟩
   have hi:i < lenL l:=by simpa using hi
   refine .chk ⟨i0,hi⟩ (.bind _ (do_print qa dat_load _ rfl) fun u hu=>.chk (inR64 (by omega) (by omega)) (.ret ⟨⟨by simp only;omega,hu.q qa,(moved_main hu oa).1,?_⟩,by simp only;omega⟩))
   simp only
   rw [(moved_main hu oa).2]
   exact ma
 · rintro o ⟨a,rfl,qa,oa,ma⟩
   refine .go (.call rfl (.bind _ (do_other qa dLoad false ⟨FV.bool (FV.nil 198) false,by kernel_rfl,fun _ _ _=>rfl⟩) fun u ⟨qu,ou,mu⟩=>.call rfl ?_))
   have m:=ma.trans mu
   rw [oa,ou]
   refine .bind (fun b=>b=true) ?_ fun b hb=>.ret (by simp [hb])
   simp only [Bool.not_false,if_true]
   refine .of (v:=true) ?_ rfl
   have e : ∀ (c:T_lapwingref14_Cursor) (x:Bool),T_lapwingref15_Screen.mk s.fMain.fG c s.fMain.fR s.fMain.fT s.fMain.fK s.fMain.fDir x=T_lapwingref15_Screen.mk (T_lapwingref09_Grid.mk u.fMain.fG.fRows) c (T_lapwingref14_Region.mk u.fMain.fR.fH u.fMain.fR.fW u.fMain.fR.fTop u.fMain.fR.fBottom) (T_lapwingref12_Stops.mk u.fMain.fT.fL u.fMain.fT.fW) (T_lapwingref10_Kept.mk u.fMain.fK.fRows u.fMain.fK.fCap) u.fMain.fDir x:=by
    intro c x
    rw [eG,eR,eT,eK,eD,m.1,m.2.1,m.2.2.1,m.2.2.2.1,m.2.2.2.2]
   rw [e]
   refine st_same _ ?_ ?_
   · have hb:=bM
     refine ⟨?_,?_,?_⟩
     · have:=hb.g;rw [eG] at this;show RowsB u.fMain.fG.fRows;rw [m.1];exact this
     · have:=hb.k;rw [eK] at this;show RowsB u.fMain.fK.fRows;rw [m.2.2.2.1];exact this
     · have:=hb.t;rw [eT] at this;show lenL u.fMain.fT.fL≤_;rw [m.2.2.1];exact this
   · refine ⟨⟨by show lenL ([]:List T_api_Row)≤_;simp,fun i i0 i1=>?_⟩,⟨by show lenL ([]:List T_api_Row)≤_;simp,fun i i0 i1=>?_⟩,by show lenL ([]:List Int)≤_;simp⟩
     · have:i < lenL ([]:List T_api_Row):=i1
       simp at this;omega
     · have:i < lenL ([]:List T_api_Row):=i1
       simp at this;omega
end Go.Vx
