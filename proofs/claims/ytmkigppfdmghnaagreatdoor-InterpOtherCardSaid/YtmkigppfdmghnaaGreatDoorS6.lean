/- Deeds that leave all but the screen that is seen; saving, restoring, switching. No conditions. -/
import Derived.Test.YtmkigppfdmghnaaGreatDoorS5
import Derived.Test.YtmkigppfdmghnaaGreatDoorIP2a
set_option linter.all false
namespace Go.Vx
set_option maxRecDepth 100000
def DatQ (d:T_ucd_Data):Prop:=∀ r,Tot (ucd_Width d r)
theorem datQ_of {d:T_ucd_Data} (h1:lenL d.fWide.fL≤100000) (h2 : ∀ i,0≤i→i < lenL d.fWide.fL→(getL d_ranges_Row d.fWide.fL i).fV≤100000):DatQ d:=fun r=>by
 unfold ucd_Width ranges_Get
 refine Tot.of (Q:=fun _=>True) (.bind (fun v=>v≤100000) (.cut (fun o=>o = .go ()∨∃ v:Int,o = .out v∧v≤100000) ?_ ?_) fun v hv=>.ite (fun h=>.chk (inR64 ?_ ?_) (.ret trivial)) fun _=>.ret trivial)
 · have hn:=lenL_nn d.fWide.fL
   refine .loop (fun i=>0≤i∧i≤lenL d.fWide.fL) (fun i=>(lenL d.fWide.fL-i).toNat) ⟨by omega,by omega⟩ ?_
   rintro i ⟨i0,i1⟩
   refine .ite (fun h=>?_) fun _=>.ret (.inl rfl)
   have h:i < lenL d.fWide.fL:=by simpa using h
   exact .chk ⟨i0,h⟩ (.ite (fun _=>.ret (.inr ⟨_,rfl,h2 i i0 h⟩)) fun _=>.chk (inR64 (by omega) (by omega)) (.ret ⟨⟨by omega,by omega⟩,by simp only;omega⟩))
 · rintro o (rfl | ⟨v,rfl,h⟩)
   · exact .go (.ret (by omega))
   · exact .out h
 · have:0 < v:=by simpa using h
   omega
 · omega
def DeedM (f:FV):Prop:=∀ s d a,StQ s→DatQ d→Yields (V_deedV f s d a) (Moved s)
def ScrD (f:FV):Prop:=∀ x n,ScrQ x→-10000≤n→n≤10000→Yields (V_scrV f x n) (ScrK x)
def ScrE (f:FV):Prop:=∀ x n,ScrQ x→Yields (V_scrV f x n) (ScrK x)
def CurD (f:FV):Prop:=∀ c r n,CurQ c r→-10000≤n→n≤10000→Yields (V_curV f c r n) (fun t=>CurQ t r)
theorem get_tot (l:List (List Int)) (k u:Int):Tot (params_Get l k u):=by
 unfold params_Get
 have hn:=lenL_nn l
 have hm:=lenL_nn (getL [] l k)
 refine Tot.of (Q:=fun _=>True) (.chk (fun h=>by grind) (.chk (fun h=>by grind) (.chk (fun h=>by grind) (.ite (fun _=>.ret trivial) fun h=>.chk (by grind) (.chk (by grind) (.ret trivial))))))
theorem count_q (l:List (List Int)) (k u least most:Int) (h:least≤most):Yields (params_Count l k u least most) (fun n=>least≤n∧n≤most):=by
 unfold params_Count
 refine .bind _ (get_tot l k u).yields fun v _=>.ite (fun _=>.ret ?_) fun _=>.ret ?_<;>(unfold imaxI iminI;(repeat' split)<;>omega)
theorem first_q (a:T_api_Action):Yields (interp_first a) (fun n=>1≤n∧n≤5000):=by
 unfold interp_first
 exact .bind _ (count_q _ _ _ _ _ (by omega)) fun v h=>.ret h
theorem kind_q (a:T_api_Action):Yields (interp_kind a) (fun _=>True):=by
 unfold interp_kind
 exact .bind _ (get_tot _ _ _).yields fun v h=>.ret trivial
theorem doing_d {f:FV} (h:ScrD f):Yields (interp_doing f) DeedM:=⟨_,rfl,fun s d a q _=>by
 show Yields (interp_doing_1 s d a f) _
 unfold interp_doing_1
 exact .call (act_eq s) (.bind _ (first_q a) fun n hn=>.bind _ (h _ n q.act (by omega) (by omega)) fun t ht=>.call (with_eq s t) (.ret (Moved.of q ht)))⟩
theorem choosing_d {f:FV} (h:ScrE f):Yields (interp_choosing f) DeedM:=⟨_,rfl,fun s d a q _=>by
 show Yields (interp_choosing_1 s d a f) _
 unfold interp_choosing_1
 exact .call (act_eq s) (.bind _ (kind_q a) fun n hn=>.bind _ (h _ n q.act) fun t ht=>.call (with_eq s t) (.ret (Moved.of q ht)))⟩
theorem moving_d {f:FV} (h:CurD f):Yields (interp_moving f) DeedM:=by
 unfold interp_moving
 refine .bind _ (doing_d fun x n q h0 h1=>?_) fun v hv=>.ret hv
 show Yields (interp_moving_1 x n f) _
 unfold interp_moving_1
 exact .bind _ (h _ _ n q.cur h0 h1) fun t ht=>.ret (cur_scr q ht)
theorem going_d (dy dx:Int) (b:Bool) (h1 : -1≤dy∧dy≤1) (h2 : -1≤dx∧dx≤1):Yields (interp_going dy dx b) DeedM:=by
 unfold interp_going
 refine .bind _ (moving_d fun c r n q n0 n1=>?_) fun v hv=>.ret hv
 show Yields (interp_going_1 c r n dy dx b) _
 unfold interp_going_1
 have hd : ∀ d:Int,-1≤d∧d≤1→inR .i64 (d*n):=fun d hd=>by
  have:d = -1∨d=0∨d=1:=by omega
  rcases this with rfl | rfl | rfl<;>exact inR64 (by omega) (by omega)
 exact .chk (hd dy h1) (.chk (hd dx h2) (.bind _ (move_q q _ _) fun t ht=>.ite (fun _=>.bind _ (column_q ht 0) fun u hu=>.ret hu.1) fun _=>.ret ht))
theorem seq1_q {c:T_cursor_Cursor} {r:T_cursor_Region} (q:CurQ c r) {n:Int} (h0 : -10000≤n) (h1:n≤10000):Yields (interp_sequences_1 c r n) (fun t=>CurQ t r):=by
 unfold interp_sequences_1
 exact .chk (inR64 (by omega) (by omega)) (.bind _ (column_q q _) fun t ht=>.ret ht.1)
theorem place_d : ∀ s d a,StQ s→Yields (interp_place s d a) (Moved s):=fun s d a q=>by
 unfold interp_place
 refine .call (act_eq s) (.bind _ (count_q _ _ _ _ _ (by omega)) fun v hv=>.bind _ (first_q a) fun w hw=>.chk (inR64 (by omega) (by omega)) (.chk (inR64 (by omega) (by omega)) (.bind _ (to_q q.act.cur _ _) fun c hc=>.call (with_eq s _) (.ret (Moved.of q (cur_scr q.act hc))))))
def AllL (p:T_interp_line→Prop):List T_interp_line→Prop
 | []=>True
 | x :: l=>p x∧AllL p l
theorem AllL.mem {p:T_interp_line→Prop} : ∀ {l:List T_interp_line},AllL p l→∀ x∈l,p x
 | y :: l,h,x,hx=>by
  rcases List.mem_cons.1 hx with rfl | hx
  · exact h.1
  · exact AllL.mem h.2 x hx
def NoDeed (f:FV):Prop:=∀ s d a,V_deedV f s d a=some s
theorem find_q {l:List T_interp_line} {p:T_interp_line→Prop} (hl:lenL l≤1000) (h:AllL p l) (inter:ByteArray) (final:Int):Yields (interp_find l inter final) (fun f=>NoDeed f∨∃ x,p x∧seqS x.finter inter=true∧x.ffinal=final∧x.fdo=f):=by
 have hn:=lenL_nn l
 unfold interp_find
 refine .cut (fun r=>r = .go ()∨∃ f:FV,r = .out f∧∃ x,p x∧seqS x.finter inter=true∧x.ffinal=final∧x.fdo=f) ?_ ?_
 · refine .loop (fun i=>0≤i∧i≤lenL l) (fun i=>(lenL l-i).toNat) ⟨by omega,by omega⟩ ?_
   rintro i ⟨i0,i1⟩
   refine .ite (fun hi=>?_) (fun _=>.ret (.inl rfl))
   have hi:i < lenL l:=by simpa using hi
   refine .chk ⟨i0,hi⟩ (.ite (fun hh=>.ret (.inr ⟨_,rfl,_,h.mem _ (getL_mem _ _ i0 hi),?_,?_,rfl⟩)) (fun _=>.chk (inR64 (by omega) (by omega)) (.ret ⟨⟨by omega,by omega⟩,by simp only;omega⟩)))
   · grind
   · grind
 · rintro r (rfl | ⟨f,rfl,h⟩)
   · exact .go (.ret (.inl fun s d a=>rfl))
   · exact .out (.inr h)
theorem NoDeed.m {f:FV} (h:NoDeed f):DeedM f:=fun s d a q _=>by rw [h s d a];exact .ret (Moved.refl q)
def LineM (x:T_interp_line):Prop:=65≤x.ffinal→x.ffinal≤77→DeedM x.fdo
theorem LineM.no {x:T_interp_line} (h:x.ffinal < 65∨77 < x.ffinal):LineM x:=fun a b=>by omega
theorem LineM.yes {x:T_interp_line} (h:DeedM x.fdo):LineM x:=fun _ _=>h
theorem skip1 {α β:Type} {o:Option β} {k:β→Option α} {Q:α→Prop} (h:Tot o) (hk : ∀ b,Yields (k b) Q):Yields (bindO o k) Q:=.bind (fun _=>True) h.yields fun b _=>hk b
theorem seqs_q:Yields interp_sequences (fun l=>lenL l≤1000∧AllL LineM l):=by
 unfold interp_sequences
 refine .bind _ (moving_d fun c r n q h0 h1=>seq1_q q h0 h1) fun v0 h0=>?_
 refine .bind _ (going_d _ _ _ (by omega) (by omega)) fun v1 h1=>.bind _ (going_d _ _ _ (by omega) (by omega)) fun v2 h2=>.bind _ (going_d _ _ _ (by omega) (by omega)) fun v3 h3=>?_
 refine .bind _ (going_d _ _ _ (by omega) (by omega)) fun v4 h4=>.bind _ (going_d _ _ _ (by omega) (by omega)) fun v5 h5=>.bind _ (going_d _ _ _ (by omega) (by omega)) fun v6 h6=>?_
 refine .bind _ (going_d _ _ _ (by omega) (by omega)) fun v7 h7=>.bind _ (going_d _ _ _ (by omega) (by omega)) fun v8 h8=>?_
 refine .bind (fun _=>True) ⟨_,rfl,trivial⟩ fun v9 _=>?_
 refine .bind _ (doing_d fun x n q a b=>tab_q q n (by omega)) fun v10 h10=>?_
 refine .bind (fun _=>True) ⟨_,rfl,trivial⟩ fun v11 _=>?_
 refine .bind _ (choosing_d fun x n q=>erase2_q q n) fun v12 h12=>.bind _ (choosing_d fun x n q=>eraseLine2_q q n) fun v13 h13=>?_
 refine .bind _ (doing_d fun x n q a b=>insertRows_q q n) fun v14 h14=>.bind _ (doing_d fun x n q a b=>deleteRows_q q n) fun v15 h15=>?_
 refine skip1 ⟨_,rfl⟩ fun _=>skip1 ⟨_,rfl⟩ fun _=>skip1 ⟨_,rfl⟩ fun _=>skip1 ⟨_,rfl⟩ fun _=>skip1 ⟨_,rfl⟩ fun _=>skip1 ⟨_,rfl⟩ fun _=>skip1 ⟨_,rfl⟩ fun _=>skip1 ⟨_,rfl⟩ fun _=>skip1 ⟨_,rfl⟩ fun _=>?_
 refine .ret ⟨?_,?_⟩
 · simp only [lenL_cons,lenL_nil];omega
 have hp:DeedM (FV.nil 96):=fun s d a q _=>place_d s d a q
 have no : ∀ {i:ByteArray} {n:Int} {f:FV} {l:List T_interp_line},(n < 65∨77 < n)→AllL LineM l→AllL LineM (T_interp_line.mk i n f :: l):=fun h k=>⟨LineM.no h,k⟩
 have yes : ∀ {i:ByteArray} {n:Int} {f:FV} {l:List T_interp_line},DeedM f→AllL LineM l→AllL LineM (T_interp_line.mk i n f :: l):=fun h k=>⟨LineM.yes h,k⟩
 refine yes h1 (yes h6 (yes h5 (yes h4 (no (by decide) (no (by decide) (yes h7 (yes h8 (yes h0 (yes h0 (no (by decide) (yes hp (no (by decide) (yes h10 (no (by decide) (yes h12 (yes h13 (yes h14 (yes h15 ?_))))))))))))))))))
 exact no (by decide) (no (by decide) (no (by decide) (no (by decide) (no (by decide) (no (by decide) (no (by decide) (no (by decide) (no (by decide) (no (by decide) (no (by decide) (no (by decide) (no (by decide) (no (by decide) (no (by decide) trivial))))))))))))))
theorem do_print {s:T_interp_State} (q:StQ s) {d:T_ucd_Data} (hd:DatQ d) (a:T_api_Action) (ha:a.fWhat=1):Yields (interp_Do s d a) (Moved s):=by
 unfold interp_Do
 refine .cut (fun o=>o = .go ()) (.call q.ok (.ite (fun h=>by cases h) fun _=>.ret rfl)) ?_
 rintro o rfl
 refine .go (.cut (fun o=>∃ t,o = .out t∧Moved s t) (.ite (fun _=>?_) fun h=>?_) ?_)
 · refine .call (act_eq s) (.bind _ (map_q q.act.cur.set a.fR) fun c hc=>?_)
   have h1:=Moved.of q (set_scr q.act hc)
   exact .call (with_eq s _) (.bind _ (letter_q (h1.q q) c.2 (hd c.2)) fun t ht=>.ret ⟨t,rfl,h1.trans ht⟩)
 · rw [ha] at h;cases h
 · rintro o ⟨t,rfl,h⟩
   exact .out h
theorem do_csi {s:T_interp_State} (q:StQ s) {d:T_ucd_Data} (hd:DatQ d) (a:T_api_Action) (ha:a.fWhat=4) (hi:seqS a.fInter (⟨#[]⟩:ByteArray)=true) (h1:65≤a.fFinal) (h2:a.fFinal≤77):Yields (interp_Do s d a) (Moved s):=by
 unfold interp_Do
 refine .cut (fun o=>o = .go ()) (.call q.ok (.ite (fun h=>by cases h) fun _=>.ret rfl)) ?_
 rintro o rfl
 refine .go (.cut (fun o=>∃ t,o = .out t∧Moved s t) ?_ ?_)
 · refine .ite (fun h=>by rw [ha] at h;cases h) fun _=>.ite (fun h=>by rw [ha] at h;cases h) fun _=>.ite (fun h=>by rw [ha] at h;cases h) fun _=>.ite (fun _=>?_) fun h=>by rw [ha] at h;cases h
   refine .cut (fun o=>∃ t,o = .out (.out t)∧Moved s t) (.ite (fun _=>?_) fun h=>by rw [hi] at h;cases h) ?_
   · refine .bind _ seqs_q fun l hl=>.bind _ (find_q hl.1 hl.2 _ _) fun f hf=>.bind (Moved s) ?_ fun t ht=>.ret ⟨t,rfl,ht⟩
     rcases hf with hf | ⟨x,h3,_,h5,rfl⟩
     · exact hf.m s d a q hd
     · exact h3 (by omega) (by omega) s d a q hd
   · rintro o ⟨t,rfl,h⟩
     exact .out ⟨t,rfl,h⟩
 · rintro o ⟨t,rfl,h⟩
   exact .out h
end Go.Vx
