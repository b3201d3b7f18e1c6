/- States that may be: all is told of them. No conditions. -/
import Derived.Test.YtmkigppfdmghnaaGreatDoorIR
set_option linter.all false
namespace Go.Vx
set_option maxRecDepth 100000
def Tot {α:Type} (o:Option α):Prop:=∃ r,o=some r
theorem Tot.of {α:Type} {o:Option α} {Q:α→Prop} (h:Yields o Q):Tot o:=⟨_,h.choose_spec.1⟩
theorem Tot.yields {α:Type} {o:Option α} (h:Tot o):Yields o (fun _=>True):=⟨_,h.choose_spec,trivial⟩
theorem Tot.ret {α:Type} {v:α} : Tot (some v):=⟨v,rfl⟩
theorem Tot.bind {α β:Type} {o:Option β} {k:β→Option α} (h:Tot o) (hk : ∀ b,Tot (k b)):Tot (bindO o k):=by
 obtain ⟨b,hb⟩:=h
 obtain ⟨r,hr⟩:=hk b
 exact ⟨r,by rw [hb];exact hr⟩
theorem Tot.cut {β γ:Type} {A:Option (Fl β γ)} {k:β→Option γ} (h:Tot A) (hk : ∀ b,Tot (k b)):Tot (cutO A k):=by
 obtain ⟨f,hf⟩:=h
 cases f with
 | go b =>
  obtain ⟨r,hr⟩:=hk b
  exact ⟨r,by rw [hf];exact hr⟩
 | out r=>exact ⟨r,by rw [hf];rfl⟩
theorem Tot.ite {α:Type} {c:Bool} {x y:Option α} (hx:c=true→Tot x) (hy:c=false→Tot y):Tot (iteO c x y):=by
 cases c with
 | true=>exact hx rfl
 | false=>exact hy rfl
theorem Tot.any {α:Type} {c:Bool} {x y:Option α} (hx:c=true→Tot x) (hy:c=false→Tot y):Tot (if c=true then x else y):=by
 cases c with
 | true=>exact hx rfl
 | false=>exact hy rfl
theorem Tot.chk {α:Type} {c:Prop} [Decidable c] {k:Option α} (h:c) (hk:Tot k):Tot (chk c k):=by
 obtain ⟨r,hr⟩:=hk
 exact ⟨r,by rw [chk_ok h];exact hr⟩
theorem bnd_nn (x:Int) (y:Nat) (hy:y < 4611686018427387904):0≤bndI .i64 x y∧bndI .i64 x y≤y:=by
 unfold bndI
 have hb:IntKind.bits .i64=64:=rfl
 rw [hb]
 have hm:BitVec.ofInt 64 (y:Int)=BitVec.ofNat 64 y:=by
  apply BitVec.eq_of_toNat_eq
  simp
 rw [hm,BitVec.toNat_and,BitVec.toNat_ofNat,Nat.mod_eq_of_lt (show y < 2 ^ 64 by omega)]
 have h1:(BitVec.ofInt 64 x).toNat &&& y≤y:=Nat.and_le_right
 generalize (BitVec.ofInt 64 x).toNat &&& y=z at h1
 have m1:IntKind.min .i64 = -9223372036854775808:=by decide
 have m2:IntKind.max .i64=9223372036854775807:=by decide
 rw [wrap_rng .i64 (z:Int) (by omega)]
 omega
theorem modesSane_tot (m:T_modes_Modes):Tot (modes_Sane m):=by
 unfold modes_Sane modes_single
 have h1:=bnd_nn m.fBits 28800 (by omega)
 have h2:=bnd_nn m.fBits 196608 (by omega)
 refine .ite (fun _=>.ret) (fun _=>.bind (.chk (inR64 ?_ ?_) .ret) fun _=>.bind (.any (fun _=>.chk (inR64 ?_ ?_) .ret) (fun _=>.ret)) fun _=>.ret)
 · have:=h1.1;show _≤bndI .i64 m.fBits ((28800:Nat):Int)-1;omega
 · have:=h1.2;show bndI .i64 m.fBits ((28800:Nat):Int)-1≤_;omega
 · have:=h2.1;show _≤bndI .i64 m.fBits ((196608:Nat):Int)-1;omega
 · have:=h2.2;show bndI .i64 m.fBits ((196608:Nat):Int)-1≤_;omega
theorem charsetSane_tot (s:T_charset_State):Tot (charset_Sane s):=by
 unfold charset_Sane
 refine .cut (.cut (.bind .ret fun _=>.ite (fun _=>.ret) fun _=>.chk (inR64 (by omega) (by omega)) .ret) fun _=>?_) fun _=>.bind .ret fun _=>.bind (.any (fun _=>.ret) fun _=>.ret) fun _=>.bind (.any (fun _=>.ret) fun _=>.ret) fun _=>.ret
 exact .cut (.bind .ret fun _=>.ite (fun _=>.ret) fun _=>.chk (inR64 (by omega) (by omega)) .ret) fun _=>.cut (.bind .ret fun _=>.ite (fun _=>.ret) fun _=>.chk (inR64 (by omega) (by omega)) .ret) fun _ =>
  .cut (.bind .ret fun _=>.ite (fun _=>.ret) fun _=>.chk (inR64 (by omega) (by omega)) .ret) fun _=>.ret
theorem region_yields (r:T_cursor_Region):Yields (cursor_region r) (fun b=>b=true→1≤r.fH∧r.fH≤1000∧1≤r.fW∧r.fW≤4096):=by
 unfold cursor_region
 refine .ite (fun _=>.ret (fun h=>by cases h)) (fun h=>.ret (fun _=>?_))
 by_cases h1:r.fH < 1
 · simp [h1] at h
 · by_cases h2:1000 < r.fH
   · simp [h2] at h
   · by_cases h3:r.fW < 1
     · simp [h3] at h
     · by_cases h4:4096 < r.fW
       · simp [h4] at h
       · omega
theorem cursorSane_tot (c:T_cursor_Cursor) (r:T_cursor_Region):Tot (cursor_Sane c r):=by
 unfold cursor_Sane
 refine .of (.bind _ (region_yields r) fun v hv=>(Tot.ite (fun _=>.ret) fun h=>?_).yields)
 have hv1:v=true:=by
  cases v with
  | true=>rfl
  | false=>simp at h
 have hr:=hv hv1
 exact .chk (fun _=>inR64 (by omega) (by omega)) (.bind (.any (fun _=>.ret) fun _=>.ret) fun _=>.ite (fun _=>.ret) fun _=>.bind (.of (pen_yields _)) fun _=>.bind (.any (fun _=>charsetSane_tot _) fun _=>.ret) fun _=>.ret)
theorem tabsSane_tot (s:T_tabs_Stops) (hb:lenL s.fL≤100000):Tot (tabs_Sane s):=by
 unfold tabs_Sane
 have hn:=lenL_nn s.fL
 refine .ite (fun _=>.ret) fun _=>.cut (.of (Yields.loop (Q:=fun _=>True) (fun p=>0≤p.2∧p.2≤lenL s.fL) (fun p=>(lenL s.fL-p.2).toNat) ⟨by simp only;omega,by simp only;omega⟩ ?_)) fun _=>.ret
 rintro ⟨a,v⟩ ⟨v0,v1⟩
 simp only at v0 v1 ⊢
 refine .ite (fun h=>?_) (fun _=>.ret trivial)
 have h:v < lenL s.fL:=by simpa using h
 exact .chk ⟨v0,h⟩ (.ite (fun _=>.ret trivial) fun _=>.chk (inR64 (by omega) (by omega)) (.ret ⟨⟨by simp only;omega,by simp only;omega⟩,by simp only;omega⟩))
theorem gridSane_yields (g:T_grid_Grid):Yields (grid_Sane g) (fun b=>b=true→1≤lenL g.fRows):=by
 unfold grid_Sane
 refine .ite (fun _=>.ret (fun h=>by cases h)) fun h=>?_
 have hh:1≤lenL g.fRows∧lenL g.fRows≤1000:=by
  by_cases h1:lenL g.fRows < 1
  · simp [h1] at h
  · by_cases h2:1000 < lenL g.fRows
    · simp [h2] at h
    · omega
 refine (Tot.cut (.of (Yields.loop (Q:=fun _=>True) (fun v=>0≤v∧v≤lenL g.fRows) (fun v=>(lenL g.fRows-v).toNat) ⟨by omega,by omega⟩ ?_)) fun _=>.ret).yields.mono (fun _ _ _=>hh.1)
 rintro v ⟨v0,v1⟩
 refine .ite (fun h=>?_) (fun _=>.ret trivial)
 have h:v < lenL g.fRows:=by simpa using h
 exact .chk ⟨v0,h⟩ (.chk ⟨by omega,by omega⟩ (.bind _ (Tot.any (fun _=>.of (row_yields _)) fun _=>.ret).yields fun _ _=>.ite (fun _=>.ret trivial) fun _=>.chk (inR64 (by omega) (by omega)) (.ret ⟨⟨by omega,by omega⟩,by simp only;omega⟩)))
theorem historySane_tot (k:T_history_Kept):Tot (history_Sane k):=by
 unfold history_Sane
 have hn:=lenL_nn k.fRows
 refine .ite (fun _=>.ret) fun h=>?_
 have hh:lenL k.fRows≤200:=by
  by_cases h1:k.fCap < 0
  · simp [h1] at h
  · by_cases h2:200 < k.fCap
    · simp [h2] at h
    · by_cases h3:k.fCap < lenL k.fRows
      · simp [h3] at h
      · omega
 refine .cut (.of (Yields.loop (Q:=fun _=>True) (fun v=>0≤v∧v≤lenL k.fRows) (fun v=>(lenL k.fRows-v).toNat) ⟨by omega,by omega⟩ ?_)) fun _=>.ret
 rintro v ⟨v0,v1⟩
 refine .ite (fun h=>?_) (fun _=>.ret trivial)
 have h:v < lenL k.fRows:=by simpa using h
 exact .chk ⟨v0,h⟩ (.bind _ (row_yields _) fun _ _=>.ite (fun _=>.ret trivial) fun _=>.chk (inR64 (by omega) (by omega)) (.ret ⟨⟨by omega,by omega⟩,by simp only;omega⟩))
theorem screenSane_tot (s:T_screen_Screen) (hb:lenL s.fT.fL≤100000):Tot (screen_Sane s):=by
 unfold screen_Sane grid_Size
 refine .ite (fun _=>.ret) fun _=>.bind (cursorSane_tot _ _) fun _=>.bind (.any (fun _=>tabsSane_tot _ hb) fun _=>.ret) fun _=>.ite (fun _=>.ret) fun _=>.bind ?_ fun _=>.ite (fun _=>.ret) fun _=>.bind (historySane_tot _) fun _=>.ret
 refine .of (.bind _ (gridSane_yields s.fG) fun v hv=>(Tot.ite (fun _=>.ret) fun h=>?_).yields)
 have hv1:v=true:=by
  cases v with
  | true=>rfl
  | false=>simp at h
 have:=hv hv1
 exact .chk ⟨by omega,by omega⟩ .ret
theorem sane_tot (s:T_interp_State) (h1:lenL s.fMain.fT.fL≤100000) (h2:lenL s.fOther.fT.fL≤100000):Tot (interp_Sane s):=by
 unfold interp_Sane
 refine .bind (screenSane_tot _ h1) fun _=>.bind (.any (fun _=>screenSane_tot _ h2) fun _=>.ret) fun _=>.bind (.any (fun _=>modesSane_tot _) fun _=>.ret) fun _=>.ite (fun _=>.ret) fun _=>.bind .ret fun _=>.bind .ret fun _ =>
  .ite (fun _=>.ret) fun _=>.cut (.cut (.bind (cursorSane_tot _ _) fun _=>.ite (fun _=>.ret) fun _=>.chk (inR64 (by omega) (by omega)) .ret) fun _=>.cut (.bind (cursorSane_tot _ _) fun _=>.ite (fun _=>.ret) fun _=>.chk (inR64 (by omega) (by omega)) .ret) fun _=>.ret) fun _=>.ite (fun _=>.ret) fun _=>.ret
end Go.Vx
