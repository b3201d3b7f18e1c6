/- Screens: what is done to them leaves screens that may be, of the same region. No conditions. -/
import Derived.Test.YtmkigppfdmghnaaGreatDoorS3
set_option linter.all false
namespace Go.Vx
set_option maxRecDepth 100000
def nw (s:T_screen_Screen):T_screen_Screen:=T_screen_Screen.mk s.fG (T_cursor_Cursor.mk s.fC.fX s.fC.fY false s.fC.fOrigin s.fC.fPen s.fC.fSet) s.fR s.fT s.fK s.fDir s.fExplicit
theorem CurQ.nw {c:T_cursor_Cursor} {r:T_cursor_Region} (q:CurQ c r):CurQ (T_cursor_Cursor.mk c.fX c.fY false c.fOrigin c.fPen c.fSet) r:=⟨q.reg,q.x,q.y,fun h=>(by cases h),q.org,q.pen,q.set⟩
theorem CurQ.xw {c:T_cursor_Cursor} {r:T_cursor_Region} (q:CurQ c r) {x:Int} (h0:0≤x) (h1:x < r.fW):CurQ (T_cursor_Cursor.mk x c.fY false c.fOrigin c.fPen c.fSet) r:=⟨q.reg,⟨h0,h1⟩,q.y,fun h=>(by cases h),q.org,q.pen,q.set⟩
theorem ScrQ.turn {s:T_screen_Screen} (q:ScrQ s) {g:T_grid_Grid} (hg:GridK s.fG g) {c:T_cursor_Cursor} (hc:CurQ c s.fR) {k:T_history_Kept} (hk:KeptQ k) (e:Bool):ScrQ (T_screen_Screen.mk g c s.fR s.fT k s.fDir e) :=
 ⟨q.dir,hc,q.tab,q.tw,hg.1,hg.2.1.trans q.h,hg.2.2.trans q.w,hk⟩
theorem ScrQ.nw {s:T_screen_Screen} (q:ScrQ s):ScrQ (nw s):=q.turn (GridK.refl q.grid) q.cur.nw q.kept _
def ScrK (s t:T_screen_Screen):Prop:=ScrQ t∧t.fR=s.fR∧t.fK.fCap=s.fK.fCap
theorem ScrK.refl {s:T_screen_Screen} (q:ScrQ s):ScrK s s:=⟨q,rfl,rfl⟩
theorem ScrK.trans {a b c:T_screen_Screen} (h:ScrK a b) (k:ScrK b c):ScrK a c:=⟨k.1,k.2.1.trans h.2.1,k.2.2.trans h.2.2⟩
theorem ground_q {s:T_screen_Screen} (h:PenQ s.fC.fPen):Yields (screen_ground s) PenQ:=⟨_,rfl,⟨.inl ⟨by simp,by simp⟩,h.bg,by simp⟩⟩
def StepQ (f:FV):Prop:=∀ r,RowQ r→Yields (V_stepV f r) (RowK r)
theorem getL_mem {α:Type} (d:α) (l:List α) {i:Int} (i0:0≤i) (i1:i < lenL l):getL d l i∈l:=by
 obtain ⟨h,e⟩:=getL_eq (d:=d) i0 i1
 rw [e]
 exact List.getElem_mem h
theorem onRow_q {s:T_screen_Screen} (hg:GridQ s.fG) (y0:0≤s.fC.fY) (y1:s.fC.fY < lenL s.fG.fRows) (l:List FV) (hl:lenL l≤100000) (hs : ∀ f∈l,StepQ f) :
  Yields (screen_onRow s l) (fun t=>∃ g,t=T_screen_Screen.mk g s.fC s.fR s.fT s.fK s.fDir s.fExplicit∧GridK s.fG g):=by
 unfold screen_onRow
 have q0:=hg.row _ y0 y1
 refine .chk ⟨y0,y1⟩ (.cut (fun o=>∃ r,o = .go r) ?_ ?_)
 · refine .loop (fun p=>0≤p.1∧RowQ p.2) (fun p=>(lenL l-p.1).toNat) ⟨by simp,q0⟩ ?_
   rintro ⟨v,r⟩ ⟨v0,hr⟩
   simp only at v0 hr ⊢
   refine .ite (fun h=>?_) fun _=>.ret ⟨r,rfl⟩
   have h:v < lenL l:=by simpa using h
   exact .chk ⟨v0,h⟩ (.bind _ (hs _ (getL_mem _ _ v0 h) r hr) fun t ht=>.chk (inR64 (by omega) (by omega)) (.ret ⟨⟨by simp only;omega,ht.1⟩,by simp only;omega⟩))
 · rintro o ⟨r,rfl⟩
   exact .go (.bind _ (gset_q hg _ r) fun g h=>.ret ⟨g,rfl,h⟩)
theorem wraps_step (b:Bool):Yields (screen_wraps b) StepQ:=⟨_,rfl,fun r q=>by
 show Yields (screen_wraps_1 r b) _
 exact .ret ⟨⟨q.pos,q.top,q.dir,q.fit,q.pair⟩,rfl⟩⟩
theorem erased_step (a b:Int) (p:T_api_Pen):Yields (screen_erased a b p) StepQ:=⟨_,rfl,fun r q=>by
 show Yields (screen_erased_1 r a b _ _ _) _
 exact .bind _ (erase_q q a b _) fun t h=>.ret h⟩
theorem inserted_step (a n b:Int) (p:T_api_Pen):Yields (screen_inserted a n b p) StepQ:=⟨_,rfl,fun r q=>by
 show Yields (screen_inserted_1 r a n b _ _ _) _
 exact .bind _ (insert_q q a n b _) fun t h=>.ret h⟩
theorem one_step {f:FV} (h:StepQ f) : ∀ x∈[f],StepQ x:=fun x hx=>by
 rw [List.mem_singleton.1 hx];exact h
theorem two_step {f g:FV} (h:StepQ f) (k:StepQ g) : ∀ x∈[f,g],StepQ x:=fun x hx=>by
 rcases List.mem_cons.1 hx with rfl | hx
 · exact h
 · exact one_step k x hx
theorem ScrQ.yl {s:T_screen_Screen} (q:ScrQ s):0≤s.fC.fY∧s.fC.fY < lenL s.fG.fRows:=⟨q.cur.y.1,by rw [q.h];exact q.cur.y.2⟩
theorem scrup_q {s:T_screen_Screen} (q:ScrQ s) (n:Int):Yields (screen_up s n) (fun t=>ScrK s t∧t.fC=s.fC):=by
 unfold screen_up
 refine .bind _ (ground_q q.cur.pen) fun p hp=>.bind _ (up_q q.grid _ _ n p hp) fun t ⟨h1,h2,h3⟩=>.ite (fun _=>.bind _ (push_q q.kept t.2 (by omega)) fun k hk=>.ret ⟨⟨q.turn h1 q.cur hk.1 _,rfl,hk.2⟩,rfl⟩) fun _=>.ret ⟨⟨q.turn h1 q.cur q.kept _,rfl,rfl⟩,rfl⟩
theorem scrdown_q {s:T_screen_Screen} (q:ScrQ (nw s)):Yields (screen_down s) (fun t=>ScrK s t∧t.fC.fX=s.fC.fX∧t.fC.fWrap=false):=by
 unfold screen_down
 have hr:=q.cur.reg;have h1:1≤s.fR.fH∧s.fR.fH≤1000:=hr.h;have h3:0≤s.fR.fTop∧s.fR.fTop < s.fR.fBottom∧s.fR.fBottom≤s.fR.fH:=hr.t;have hy:0≤s.fC.fY∧s.fC.fY < s.fR.fH:=q.cur.y
 refine .chk (inR64 (by omega) (by omega)) (.ite (fun _=>.bind _ (scrup_q q 1) fun t ht=>.ret ⟨ht.1,by rw [ht.2];rfl,by rw [ht.2];rfl⟩) fun h=>.chk (inR64 (by omega) (by omega)) (.chk (inR64 (by omega) (by omega)) (.ret ⟨⟨q.turn (GridK.refl q.grid) ?_ q.kept _,rfl,rfl⟩,rfl,rfl⟩)))
 have h:s.fC.fY≠s.fR.fBottom-1:=by simpa using h
 have hm:0≤iminI (s.fC.fY+1) (s.fR.fH-1)∧iminI (s.fC.fY+1) (s.fR.fH-1) < s.fR.fH∧iminI (s.fC.fY+1) (s.fR.fH-1)≤s.fC.fY+1∧(s.fC.fY < s.fR.fBottom→s.fC.fY≤iminI (s.fC.fY+1) (s.fR.fH-1)):=by
  unfold iminI;split<;>omega
 exact ⟨hr,q.cur.x,⟨hm.1,hm.2.1⟩,fun h=>(by cases h),fun ho=>by
  have h4:s.fR.fTop≤s.fC.fY∧s.fC.fY < s.fR.fBottom:=q.cur.org ho
  have h5:=hm.2.2.2 h4.2
  have h6:=hm.2.2.1
  show s.fR.fTop≤iminI (s.fC.fY+1) (s.fR.fH-1)∧iminI (s.fC.fY+1) (s.fR.fH-1) < s.fR.fBottom
  omega,q.cur.pen,q.cur.set⟩
theorem scrnext_q {s:T_screen_Screen} (q:ScrQ (nw s)):Yields (screen_next s) (fun t=>ScrK s t):=by
 unfold screen_next
 refine .bind _ (wraps_step true) fun f hf=>.bind _ (onRow_q (s:=s) q.grid q.yl.1 q.yl.2 [f] (by simp [lenL]) (one_step hf)) fun t ⟨g,e,hg⟩=>?_
 subst e
 refine .bind _ (scrdown_q (s:=T_screen_Screen.mk g s.fC s.fR s.fT s.fK s.fDir s.fExplicit) (q.turn hg q.cur q.kept _)) fun u ⟨hu,hx,hw⟩=>.ret ⟨?_,hu.2.1,hu.2.2⟩
 have hr:=hu.1.cur.reg.w
 have hq:CurQ (T_cursor_Cursor.mk 0 u.fC.fY u.fC.fWrap u.fC.fOrigin u.fC.fPen u.fC.fSet) u.fR:=by rw [hw];exact hu.1.cur.xw (by omega) (by omega)
 exact hu.1.turn (GridK.refl hu.1.grid) hq hu.1.kept _
theorem print_q {s:T_screen_Screen} (q:ScrQ s) (r w:Int) (ins auto:Bool):Yields (screen_Print s r w ins auto) (ScrK s):=by
 unfold screen_Print
 have h2:=q.cur.reg.w
 refine .call q.ok (.ite (fun _=>.ret (ScrK.refl q)) fun h=>.chk (inR64 (by omega) (by omega)) ?_)
 have hw:1≤w∧w≤2∧w≤s.fR.fW:=by grind
 have hr:1≤r∧r≤1114111:=by grind
 refine .cut (fun o=>∃ t,o = .go t∧ScrK s t) (.ite (fun _=>.bind _ (scrnext_q q.nw) fun t ht=>.ret ⟨t,rfl,ht⟩) fun _=>.ret ⟨s,rfl,ScrK.refl q⟩) ?_
 rintro o ⟨s1,rfl,k1⟩
 have e1:s1.fR=s.fR:=k1.2.1
 have x1:=k1.1.cur.x
 refine .go (.cut (fun o=>∃ t,o = .go t∧ScrQ (nw t)∧t.fR=s.fR∧t.fK.fCap=s.fK.fCap) ?_ ?_)
 · refine .ite (fun h=>.ite (fun _=>.bind _ (scrnext_q k1.1.nw) fun t ht=>.ret ⟨t,rfl,ht.1.nw,ht.2.1.trans e1,ht.2.2.trans k1.2.2⟩) fun _=>.chk (inR64 (by omega) (by rw [e1] at x1;omega)) (.ret ⟨_,rfl,?_,e1,k1.2.2⟩)) fun _=>.ret ⟨s1,rfl,k1.1.nw,e1,k1.2.2⟩
   have h:w=2∧s1.fC.fX=s.fR.fW-1:=by grind
   have hq:CurQ (T_cursor_Cursor.mk (s1.fC.fX-1) s1.fC.fY false s1.fC.fOrigin s1.fC.fPen s1.fC.fSet) s1.fR:=k1.1.cur.xw (by omega) (by rw [e1];rw [e1] at x1;omega)
   exact k1.1.turn (GridK.refl k1.1.grid) hq k1.1.kept _
 · rintro o ⟨s2,rfl,q2,e2,c2⟩
   have x2:0≤s2.fC.fX∧s2.fC.fX < s2.fR.fW:=q2.cur.x
   have p2:PenQ s2.fC.fPen:=q2.cur.pen
   rw [e2] at x2
   refine .go (.chk (inR64 (by omega) (by omega)) (.cut (fun o=>∃ l,o = .go l∧lenL l≤1∧∀ f∈l,StepQ f) (.ite (fun _=>.bind _ (ground_q p2) fun p hp=>.bind _ (inserted_step _ _ _ _) fun f hf=>.chk (grOk (by omega) (by omega) (by omega)) (.ret ⟨_,rfl,by simp [lenL],one_step hf⟩)) fun _=>.ret ⟨_,rfl,by simp [lenL],fun f hf=>by cases hf⟩) ?_))
   rintro o ⟨l,rfl,hl,hs⟩
   have hn:=lenL_nn l
   refine .go (.chk (grOk (by omega) (by omega) (by omega)) (.bind _ (onRow_q (s:=s2) q2.grid q2.yl.1 q2.yl.2 _ (by simp only [lenL_app,lenL_cons,lenL_nil];omega) ?_) fun t ⟨g,e,hg⟩=>.chk (inR64 (by omega) (by omega)) (.ret ?_)))
   · intro f hf
     rcases List.mem_append.1 hf with hf | hf
     · exact hs f hf
     · rw [List.mem_singleton.1 hf]
       intro r' q'
       show Yields (screen_Print_1 r' _ _ _ _ _ _ _ _ _) _
       unfold screen_Print_1
       refine .bind _ (put_q q' _ _) fun t ht=>.ite (fun _=>.ret ⟨⟨ht.1.pos,ht.1.top,?_,ht.1.fit,ht.1.pair⟩,ht.2⟩) fun _=>.ret ⟨⟨ht.1.pos,ht.1.top,?_,ht.1.fit,ht.1.pair⟩,ht.2⟩
       · exact q2.dir
       · exact q2.dir
   · subst e
     have hm:0≤iminI (s2.fC.fX+w) (s.fR.fW-1)∧iminI (s2.fC.fX+w) (s.fR.fW-1) < s.fR.fW∧(s.fR.fW-1 < s2.fC.fX+w→iminI (s2.fC.fX+w) (s.fR.fW-1)=s.fR.fW-1):=by
      unfold iminI;split<;>omega
     have hq : ∀ b:Bool,(b=true→s.fR.fW-1 < s2.fC.fX+w)→CurQ (T_cursor_Cursor.mk (iminI (s2.fC.fX+w) (s.fR.fW-1)) s2.fC.fY b s2.fC.fOrigin s2.fC.fPen s2.fC.fSet) s2.fR:=fun b hb =>
      ⟨q2.cur.reg,⟨hm.1,by rw [e2];exact hm.2.1⟩,q2.cur.y,fun h=>by rw [e2];exact hm.2.2 (hb h),q2.cur.org,q2.cur.pen,q2.cur.set⟩
     exact ⟨q2.turn hg (hq _ (by grind)) q2.kept _,e2,c2⟩
theorem scrmark_q {s:T_screen_Screen} (q:ScrQ s) (m:Int):Yields (screen_Mark s m) (fun t=>ScrK s t∧t.fC=s.fC):=by
 unfold screen_Mark
 have hx:=q.cur.x;have hw:=q.cur.reg.w
 refine .call q.ok (.ite (fun _=>.ret ⟨ScrK.refl q,rfl⟩) fun _=>.cut (fun o=>∃ a,o = .go a) (.ite (fun _=>.chk (inR64 (by omega) (by omega)) (.ret ⟨_,rfl⟩)) fun _=>.ret ⟨_,rfl⟩) ?_)
 rintro o ⟨a,rfl⟩
 refine .go (.cut (fun o=>o = .go ()∨o = .out s) (.ite (fun _=>.ret (.inr rfl)) fun _=>.ret (.inl rfl)) ?_)
 rintro o (rfl | rfl)
 · refine .go (.bind _ (onRow_q q.grid q.yl.1 q.yl.2 _ (by simp [lenL]) (one_step ?_)) fun t ⟨g,e,hg⟩=>.ret ?_)
   · intro r qr
     show Yields (screen_Mark_1 r _ _) _
     exact .bind _ (mark_q qr _ _) fun t h=>.ret h
   · subst e
     exact ⟨⟨q.turn hg q.cur q.kept _,rfl,rfl⟩,rfl⟩
 · exact .out ⟨ScrK.refl q,rfl⟩
theorem steps_q {s:T_screen_Screen} (q:ScrQ s) {l:List FV} (hl:lenL l≤100000) (hs : ∀ f∈l,StepQ f) :
  Yields (bindO (screen_onRow s l) fun v=>some (T_screen_Screen.mk v.fG (T_cursor_Cursor.mk v.fC.fX v.fC.fY false v.fC.fOrigin v.fC.fPen v.fC.fSet) v.fR v.fT v.fK v.fDir v.fExplicit)) (ScrK s) :=
 .bind _ (onRow_q q.grid q.yl.1 q.yl.2 l hl hs) fun t ⟨g,e,hg⟩=>.ret (by subst e;exact ⟨q.turn hg q.cur.nw q.kept _,rfl,rfl⟩)
theorem eraseLine_q {s:T_screen_Screen} (q:ScrQ s) (k:Int):Yields (screen_eraseLine s k) (ScrK s):=by
 unfold screen_eraseLine
 have hx:=q.cur.x;have hw:=q.cur.reg.w
 refine .bind _ (ground_q q.cur.pen) fun p hp=>.ite (fun _=>.bind _ (erased_step _ _ _) fun f hf=>.bind _ (wraps_step _) fun f2 hf2=>steps_q q (by simp [lenL]) (two_step hf hf2)) fun _=>.ite (fun _=>.chk (inR64 (by omega) (by omega)) (.bind _ (erased_step _ _ _) fun f hf=>steps_q q (by simp [lenL]) (one_step hf))) fun _=>.ite (fun _=>.bind _ (erased_step _ _ _) fun f hf=>.bind _ (wraps_step _) fun f2 hf2=>steps_q q (by simp [lenL]) (two_step hf hf2)) fun _=>.ret (ScrK.refl q)
theorem eraseLine2_q {s:T_screen_Screen} (q:ScrQ s) (k:Int):Yields (screen_EraseLine s k) (ScrK s):=by
 unfold screen_EraseLine
 exact .call q.ok (.ite (fun _=>.ret (ScrK.refl q)) fun _=>.bind _ (eraseLine_q q k) fun t h=>.ret h)
theorem erase2_q {s:T_screen_Screen} (q:ScrQ s) (k:Int):Yields (screen_Erase s k) (ScrK s):=by
 unfold screen_Erase
 refine .call q.ok (.ite (fun _=>.ret (ScrK.refl q)) fun _=>.bind _ (ground_q q.cur.pen) fun p hp=>.ite (fun _=>?_) fun _=>.ite (fun _=>?_) fun _=>.ite (fun _=>?_) fun _=>.ite (fun _=>?_) fun _=>.ret (ScrK.refl q))
 · refine .bind _ (eraseLine_q q 0) fun t ht=>.chk ?_ (.bind _ (clear_q ht.1.grid _ _ p hp) fun g hg=>.ret ⟨ht.1.turn hg ht.1.cur.nw ht.1.kept _,ht.2.1,ht.2.2⟩)
   have h1:=ht.1.cur.y;have h2:=ht.1.cur.reg.h
   exact inR64 (by omega) (by omega)
 · exact .bind _ (eraseLine_q q 1) fun t ht=>.bind _ (clear_q ht.1.grid _ _ p hp) fun g hg=>.ret ⟨ht.1.turn hg ht.1.cur.nw ht.1.kept _,ht.2.1,ht.2.2⟩
 · exact .bind _ (clear_q q.grid _ _ p hp) fun g hg=>.ret ⟨q.turn hg q.cur.nw q.kept _,rfl,rfl⟩
 · refine .bind _ (histnew_q _) fun k hk=>.ret ⟨q.turn (GridK.refl q.grid) q.cur.nw hk.1 _,rfl,?_⟩
   simp only
   rw [hk.2]
   have:=q.kept.cap
   unfold imaxI iminI
   (repeat' split)<;>omega
theorem insertRows_q {s:T_screen_Screen} (q:ScrQ s) (n:Int):Yields (screen_InsertRows s n) (ScrK s):=by
 unfold screen_InsertRows
 have hw:=q.cur.reg.w
 exact .call q.ok (.bind _ (.guard fun _=>in_says _ _) fun v hv=>.ite (fun _=>.ret (ScrK.refl q)) fun _=>.bind _ (ground_q q.cur.pen) fun p hp=>.bind _ (gdown_q q.grid _ _ _ p hp) fun g hg=>.ret ⟨q.turn hg (q.cur.xw (by omega) (by omega)) q.kept _,rfl,rfl⟩)
theorem deleteRows_q {s:T_screen_Screen} (q:ScrQ s) (n:Int):Yields (screen_DeleteRows s n) (ScrK s):=by
 unfold screen_DeleteRows
 have hw:=q.cur.reg.w
 exact .call q.ok (.bind _ (.guard fun _=>in_says _ _) fun v hv=>.ite (fun _=>.ret (ScrK.refl q)) fun _=>.bind _ (ground_q q.cur.pen) fun p hp=>.bind _ (up_q q.grid _ _ _ p hp) fun g hg=>.ret ⟨q.turn hg.1 (q.cur.xw (by omega) (by omega)) q.kept _,rfl,rfl⟩)
theorem tab_q {s:T_screen_Screen} (q:ScrQ s) (n:Int) (hn : -1000000≤n∧n≤1000000):Yields (screen_Tab s n) (ScrK s):=by
 unfold screen_Tab
 have ht:=q.tw
 have fin : ∀ x,0≤x∧x < s.fT.fW→ScrK s (T_screen_Screen.mk s.fG (T_cursor_Cursor.mk x s.fC.fY false s.fC.fOrigin s.fC.fPen s.fC.fSet) s.fR s.fT s.fK s.fDir s.fExplicit):=fun x hx =>
  ⟨q.turn (GridK.refl q.grid) (q.cur.xw hx.1 (by omega)) q.kept _,rfl,rfl⟩
 exact .call q.ok (.ite (fun _=>.ret (ScrK.refl q)) fun _=>.ite (fun _=>.bind _ (next_q q.tab _ n (by omega)) fun x hx=>.ret (fin x hx)) fun _=>.ite (fun _=>.bind _ (prev_q q.tab _ _) fun x hx=>.ret (fin x hx)) fun _=>.chk (inR64 (by omega) (by omega)) (.bind _ (prev_q q.tab _ _) fun x hx=>.ret (fin x hx)))
end Go.Vx
