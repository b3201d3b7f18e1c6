/- WeakTwice, as a plain law: no conditions. -/
import Derived.Test.YtkjmcemgncalgaaGreatDoorWTw2
import Derived.Test.YtkjmcemgncalgaaGreatDoorWC
set_option linter.all false
namespace Go.Vx
set_option maxRecDepth 100000
theorem ints_self (a : List Int) (hb : lenL a ≤ 100000) : lapwingref03_Ints a a = some true := by
 have hn := lenL_nn a
 refine Yields.eq ?_
 unfold lapwingref03_Ints
 refine .ite (fun h => by simp at h) (fun _ => ?_)
 refine .cut (fun r => r = .go ()) ?_ (fun r hr => by subst hr; exact .go (.ret rfl))
 refine .loop (fun i => 0 ≤ i ∧ i ≤ lenL a) (fun i => (lenL a - i).toNat) ⟨by omega, by omega⟩ ?_
 rintro i ⟨i0, i1⟩
 refine .ite (fun h => ?_) (fun _ => .ret rfl)
 have h : i < lenL a := by simpa using h
 refine .chk ⟨i0, h⟩ (.chk ⟨i0, h⟩ (.ite (fun hh => by simp at hh) (fun _ => .chk (inR64 (by omega) (by omega)) (.ret ⟨⟨by omega, by omega⟩, by show (_ - _ : Int).toNat < (_ - _ : Int).toNat; omega⟩))))
theorem bnd1 (x : Int) : bndI .i64 x 1 = 0 ∨ bndI .i64 x 1 = 1 := by
 have h : bndI .i64 x 1 = x % 2 := bnd_mask x 1 (by omega)
 rw [h]; omega
theorem weakTwice_true (l : List Int) (sos : Int) : lapwinglaw18_WeakTwice l sos = some true := by
 have hn := lenL_nn l
 refine Yields.eq ?_
 unfold lapwinglaw18_WeakTwice
 refine .call awake_true (.ite (fun _ => .ret rfl) (fun h => ?_))
 have hb : lenL l ≤ 200 := by simpa using h
 clear h
 have hs := bnd1 sos
 generalize bndI .i64 sos 1 = q at hs
 refine .chk (inR64 (by omega) (by omega)) ?_
 refine .bind _ (weak_yields (by omega) (show 1 + q = 1 ∨ 1 + q = 2 by omega)) fun g G => ?_
 have gl := G.len
 refine .ite (fun h => by simp [gl] at h) (fun _ => ?_)
 refine .cut (fun r => r = .go ()) ?_ (fun r hr => ?_)
 · refine .loop (fun i => 0 ≤ i ∧ i ≤ lenL g) (fun i => (lenL g - i).toNat) ⟨by omega, by omega⟩ ?_
   rintro i ⟨i0, i1⟩
   refine .ite (fun h => ?_) (fun _ => .ret rfl)
   have h : i < lenL g := by simpa using h
   have hk := G.ok i i0 (by omega)
   refine .chk ⟨i0, h⟩ ?_
   simp only [Int.zero_add]
   refine .ite (fun hh => ?_) (fun _ => .chk (inR64 (by omega) (by omega)) (.ret ⟨⟨by omega, by omega⟩, by show (_ - _ : Int).toNat < (_ - _ : Int).toNat; omega⟩))
   exfalso
   simp at hh
   omega
 · subst hr
   exact .go (.call G.again (.call (ints_self g (by omega)) (.ret rfl)))
end Go.Vx
