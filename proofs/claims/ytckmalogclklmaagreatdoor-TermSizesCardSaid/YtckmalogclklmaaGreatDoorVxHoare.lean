/- Rules for lifted functions: that they yield, and what holds of what they yield. -/
import Derived.Test.YtckmalogclklmaaGreatDoorVxNat
set_option linter.all false
namespace Go.Vx
def Yields {α:Type} (o:Option α) (Q:α→Prop):Prop:=∃ r,o=some r∧Q r
section
variable {α β γ:Type}
def amI (inv:α→Prop) (μ:α→Nat) (M:γ→Prop) (x:α):Fl α γ→Prop
 | .go y=>inv y∧μ y < μ x
 | .out r=>M r
theorem Yields.loop {body:α→Option (Fl α γ)} {Q:γ→Prop} {x:α} (inv:α→Prop) (μ:α→Nat) (hx:inv x) (step : ∀ x,inv x→Yields (body x) (amI inv μ Q x)):Yields (bD body x) Q :=
 adL inv μ Q hx fun x h=>by
  obtain ⟨r,h1,h2⟩:=step x h
  cases r with
  | go y=>exact .inl ⟨y,h1,h2⟩
  | out r=>exact .inr ⟨r,h1,h2⟩
theorem Yields.cut {A:Option (Fl β γ)} {k:β→Option γ} {Q:γ→Prop} (M:Fl β γ→Prop) (h:Yields A M) (hk : ∀ o,M o→Yields (WG k o) Q):Yields (aM A k) Q:=by
 obtain ⟨o,h1,h2⟩:=h
 obtain ⟨r,h3,h4⟩:=hk o h2
 exact ⟨r,by rw [h1];exact h3,h4⟩
theorem Yields.go {k:β→Option γ} {b:β} {Q:γ→Prop} (h:Yields (k b) Q):Yields (WG k (.go b)) Q:=h
theorem Yields.out {k:β→Option γ} {r:γ} {Q:γ→Prop} (h:Q r):Yields (WG k (.out r)) Q:=⟨r,rfl,h⟩
theorem Yields.bind {o:Option β} {k:β→Option γ} {Q:γ→Prop} (M:β→Prop) (h:Yields o M) (hk : ∀ b,M b→Yields (k b) Q):Yields (av o k) Q:=by
 obtain ⟨b,h1,h2⟩:=h
 obtain ⟨r,h3,h4⟩:=hk b h2
 exact ⟨r,by rw [h1];exact h3,h4⟩
theorem Yields.call {o:Option β} {k:β→Option γ} {Q:γ→Prop} {b:β} (h:o=some b) (hk:Yields (k b) Q):Yields (av o k) Q:=by
 obtain ⟨r,h3,h4⟩:=hk
 exact ⟨r,by rw [h];exact h3,h4⟩
theorem Yields.chk {c:Prop} [Decidable c] {k:Option α} {Q:α→Prop} (h:c) (hk:Yields k Q):Yields (chk c k) Q:=by
 obtain ⟨r,h1,h2⟩:=hk
 exact ⟨r,by rw [aeo h];exact h1,h2⟩
theorem Yields.ite {c:Bool} {x y:Option α} {Q:α→Prop} (h1:c=true→Yields x Q) (h2:c=false→Yields y Q):Yields (ay c x y) Q:=by
 cases c with
 | true=>exact h1 rfl
 | false=>exact h2 rfl
theorem Yields.ret {v:α} {Q:α→Prop} (h:Q v):Yields (some v) Q:=⟨v,rfl,h⟩
theorem Yields.mono {o:Option α} {Q Q':α→Prop} (h:Yields o Q) (hq : ∀ r,Q r→Q' r):Yields o Q':=by
 obtain ⟨r,h1,h2⟩:=h
 exact ⟨r,h1,hq r h2⟩
theorem Yields.eq {o:Option α} {v:α} (h:Yields o (fun r=>r=v)):o=some v:=by
 obtain ⟨r,h1,rfl⟩:=h
 exact h1
theorem Yields.of {o:Option α} {v:α} {Q:α→Prop} (h:o=some v) (hq:Q v):Yields o Q:=⟨v,h,hq⟩
end
theorem bZ {x:Int} (h1 : -4611686018427387904≤x) (h2:x≤4611686018427387904):aW .i64 x:=by
 have e1:IntKind.min .i64 = -9223372036854775808:=by decide
 have e2:IntKind.max .i64=9223372036854775807:=by decide
 constructor<;>omega
theorem ai5 {b:Nat} {n:Int} (h0:0≤n) (h1:n≤1000000) (hb:b≤1000):gK b n n:=by
 refine ⟨h0,Int.le_refl _,by omega,?_⟩
 have:(b:Int)*n≤1000*1000000:=Int.mul_le_mul (by omega) h1 h0 (by omega)
 omega
theorem GN {b:Nat} {n:Int} (h0:0≤n) (h1:n≤1000000) (hb:b≤1000):dL b n:=by
 refine ⟨by omega,?_⟩
 have:n*(b:Int)≤1000000*1000:=Int.mul_le_mul h1 (by omega) (by omega) (by omega)
 omega
end Go.Vx
