/- Rules for lifted functions: that they yield, and what holds of what they yield. -/
import Derived.Test.YtmpgicplgjmjkaaGreatDoorVxNat
set_option linter.all false
namespace Go.Vx
def Yields{α:Type}(o:Option α)(Q:α->Prop):Prop:=∃ r,o=some r/\Q r
section
variable {α β γ:Type}
def awR(inv:α->Prop)(μ:α->Nat)(M:γ->Prop)(x:α):Fl α γ->Prop
 | .go y=>inv y/\μ y<μ x
 | .out r=>M r
theorem Yields.loop{body:α->Option (Fl α γ)}{Q:γ->Prop}{x:α}(inv:α->Prop)(μ:α->Nat)(hx:inv x)(step : ∀ x,inv x->Yields (body x) (awR inv μ Q x)):Yields (bZ body x) Q :=
 amN inv μ Q hx λx h=>by
  obtain⟨r,h1,h2⟩:=step x h;cases r with
  | go y=>exact .inl ⟨y,h1,h2⟩
  | out r=>exact .inr ⟨r,h1,h2⟩
theorem Yields.cut{A:Option (Fl β γ)}{k:β->Option γ}{Q:γ->Prop}(M:Fl β γ->Prop)(h:Yields A M)(hk : ∀ o,M o->Yields (aeE k o) Q):Yields (aO A k) Q:=by
 obtain⟨o,h1,h2⟩:=h;obtain⟨r,h3,h4⟩:=hk o h2;exact⟨r,by rw[h1];exact h3,h4⟩
theorem Yields.go{k:β->Option γ}{b:β}{Q:γ->Prop}(h:Yields (k b) Q):Yields (aeE k (.go b)) Q:=h
theorem Yields.out{k:β->Option γ}{r:γ}{Q:γ->Prop}(h:Q r):Yields (aeE k (.out r)) Q:=⟨r,rfl,h⟩
theorem Yields.bind{o:Option β}{k:β->Option γ}{Q:γ->Prop}(M:β->Prop)(h:Yields o M)(hk : ∀ b,M b->Yields (k b) Q):Yields (au o k) Q:=by
 obtain⟨b,h1,h2⟩:=h;obtain⟨r,h3,h4⟩:=hk b h2;exact⟨r,by rw[h1];exact h3,h4⟩
theorem Yields.call{o:Option β}{k:β->Option γ}{Q:γ->Prop}{b:β}(h:o=some b)(hk:Yields (k b) Q):Yields (au o k) Q:=by
 obtain⟨r,h3,h4⟩:=hk;exact⟨r,by rw[h];exact h3,h4⟩
theorem Yields.chk{c:Prop}[Decidable c]{k:Option α}{Q:α->Prop}(h:c)(hk:Yields k Q):Yields (chk c k) Q:=by
 obtain⟨r,h1,h2⟩:=hk;exact⟨r,by rw[anA h];exact h1,h2⟩
theorem Yields.ite{c:Bool}{x y:Option α}{Q:α->Prop}(h1:c=true->Yields x Q)(h2:c=false->Yields y Q):Yields (aA c x y) Q:=by
 cases c with
 | true=>exact h1 rfl
 | false=>exact h2 rfl
theorem Yields.ret{v:α}{Q:α->Prop}(h:Q v):Yields (some v) Q:=⟨v,rfl,h⟩
theorem Yields.mono{o:Option α}{Q Q':α->Prop}(h:Yields o Q)(hq : ∀ r,Q r->Q' r):Yields o Q':=by
 obtain⟨r,h1,h2⟩:=h;exact⟨r,h1,hq r h2⟩
theorem Yields.eq{o:Option α}{v:α}(h:Yields o (λr=>r=v)):o=some v:=by
 obtain⟨r,h1,rfl⟩:=h;exact h1
theorem Yields.of{o:Option α}{v:α}{Q:α->Prop}(h:o=some v)(hq:Q v):Yields o Q:=⟨v,h,hq⟩
end
theorem alG{x:Int}(h1 : -4611686018427387904<=x)(h2:x<=4611686018427387904):aU .i64 x:=by
 have e1:IntKind.min .i64 = -9223372036854775808:=qZ;have e2:IntKind.max .i64=9223372036854775807:=qZ;constructor<;>omega
theorem bS{x:Int}(a:-4611686018427387904<=x:=by omega)(b:x<=4611686018427387904:=by omega):aU .i64 x:=alG a b
theorem ahV{b:Nat}{n:Int}(h0:0<=n)(h1:n<=1000000)(hb:b<=1000):jD b n n:=by
 refine⟨h0,nL _,ak,?_⟩;have:(b:Int)*n<=1000*1000000:=Int.mul_le_mul ak h1 h0 ak;omega
theorem vG{b:Nat}{n:Int}(h0:0<=n)(h1:n<=1000000)(hb:b<=1000):dY b n:=by
 refine⟨ak,?_⟩;have:n*(b:Int)<=1000000*1000:=Int.mul_le_mul h1 ak ak ak;omega
end Go.Vx
