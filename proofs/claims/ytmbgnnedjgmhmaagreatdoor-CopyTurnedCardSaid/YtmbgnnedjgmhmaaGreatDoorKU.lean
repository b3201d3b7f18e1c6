/- What the tables of Load say of a letter. No conditions. -/
import Derived.Test.YtmbgnnedjgmhmaaGreatDoorKLoad
set_option linter.all false
namespace Go.Vx
set_option maxRecDepth 100000
theorem drop_get {α:Type} (d:α) {l:List α} {v:Int} (h0:0≤v) (h1:v < Z0 l):l.drop v.toNat=Z1 d l v :: l.drop (v+1).toNat:=by
 have h:v.toNat < l.length:=by simp only [Z0] at h1;omega
 have e:(v+1).toNat=v.toNat+1:=by omega
 rw [e,List.drop_eq_getElem_cons h]
 simp [Z1,h]
theorem drop_end {α:Type} {l:List α} {v:Int} (h1 : ¬ v < Z0 l):l.drop v.toNat=[]:=by
 simp only [Z0] at h1
 exact List.drop_of_length_le (by omega)
def getR:List Y9→Int→Int
 | [],_=>0
 | x :: l,r=>if x.fLo≤r∧r≤x.fHi then x.fV else getR l r
theorem get_eq {t:Z2} (r:Int) (hl:Z0 t.fL≤100000):Z38 t r=some (getR t.fL r):=by
 refine Zd.eq ?_
 unfold Z38
 refine .cut (fun o=>(o = .go ()∧getR t.fL r=0)∨o = .out (getR t.fL r)) ?_ ?_
 · refine .loop (fun v=>0≤v∧v≤Z0 t.fL∧getR (t.fL.drop v.toNat) r=getR t.fL r) (fun v=>(Z0 t.fL-v).toNat) ⟨by omega,Zc _,rfl⟩ ?_
   rintro v ⟨h0,h1,h2⟩
   refine .ite (fun h=>?_) (fun h=>?_)
   · have h:v < Z0 t.fL:=by simpa using h
     rw [drop_get Yd h0 h] at h2
     refine .chk ⟨h0,h⟩ (.ite (fun hc=>.ret (.inr ?_)) (fun hc=>.chk (Zm (by omega) (by omega)) (.ret ⟨⟨by omega,by omega,?_⟩,by dsimp only;omega⟩)))
     · simp only [getR] at h2
       have hc':(Z1 Yd t.fL v).fLo≤r∧r≤(Z1 Yd t.fL v).fHi:=by
        simp only [decide_eq_true_eq] at hc
        split at hc
        · exact ⟨by assumption,by simpa using hc⟩
        · cases hc
       rw [if_pos hc'] at h2
       rw [h2]
     · simp only [getR] at h2
       have hc' : ¬ ((Z1 Yd t.fL v).fLo≤r∧r≤(Z1 Yd t.fL v).fHi):=by
        rintro ⟨x1,x2⟩
        simp [x1,x2] at hc
       rw [if_neg hc'] at h2
       exact h2
   · have h : ¬ v < Z0 t.fL:=by simpa using h
     rw [drop_end h] at h2
     exact .ret (.inl ⟨rfl,h2.symm⟩)
 · rintro o (⟨rfl,h⟩ | rfl)
   · exact .go (.ret h.symm)
   · exact .out rfl
def pairB:List Yg→Int→Int × Int
 | [],_=>(0,0)
 | p :: l,r=>if r=p.fA then (p.fB,1) else if r=p.fB then (p.fA,2) else pairB l r
theorem bracket_eq {d:Za} (r:Int) (hl:Z0 d.fBrackets≤100000):Z22 d r=some (pairB d.fBrackets r):=by
 refine Zd.eq ?_
 unfold Z22
 refine .cut (fun o=>(o = .go ()∧pairB d.fBrackets r=(0,0))∨o = .out (pairB d.fBrackets r)) ?_ ?_
 · refine .loop (fun v=>0≤v∧v≤Z0 d.fBrackets∧pairB (d.fBrackets.drop v.toNat) r=pairB d.fBrackets r) (fun v=>(Z0 d.fBrackets-v).toNat) ⟨by omega,Zc _,rfl⟩ ?_
   rintro v ⟨h0,h1,h2⟩
   refine .ite (fun h=>?_) (fun h=>?_)
   · have h:v < Z0 d.fBrackets:=by simpa using h
     rw [drop_get Xr h0 h] at h2
     simp only [pairB] at h2
     refine .chk ⟨h0,h⟩ (.ite (fun hc=>.ret (.inr ?_)) (fun hc=>.ite (fun hc2=>.ret (.inr ?_)) (fun hc2=>.chk (Zm (by omega) (by omega)) (.ret ⟨⟨by omega,by omega,?_⟩,by dsimp only;omega⟩))))
     · rw [if_pos (by simpa using hc)] at h2;rw [h2]
     · rw [if_neg (by simpa using hc),if_pos (by simpa using hc2)] at h2;rw [h2]
     · rw [if_neg (by simpa using hc),if_neg (by simpa using hc2)] at h2;exact h2
   · have h : ¬ v < Z0 d.fBrackets:=by simpa using h
     rw [drop_end h] at h2
     exact .ret (.inl ⟨rfl,h2.symm⟩)
 · rintro o (⟨rfl,h⟩ | rfl)
   · exact .go (.ret h.symm)
   · exact .out rfl
theorem pairB_mem : ∀ (l:List Yg) (r:Int),pairB l r=(0,0)∨∃ p∈l,(r=p.fA∧pairB l r=(p.fB,1))∨(r=p.fB∧pairB l r=(p.fA,2))
 | [],_=>.inl rfl
 | p :: l,r=>by
  simp only [pairB]
  split
  · rename_i h;exact .inr ⟨p,List.mem_cons_self ..,.inl ⟨h,rfl⟩⟩
  · split
    · rename_i h;exact .inr ⟨p,List.mem_cons_self ..,.inr ⟨h,rfl⟩⟩
    · rcases pairB_mem l r with h | ⟨y,h1,h2⟩
      · exact .inl h
      · exact .inr ⟨y,List.mem_cons_of_mem _ h1,h2⟩
def clsL (r:Int):Int:=if 0 < getR Z59 r then getR Z59 r else 1
def braL (r:Int):Int × Int:=pairB Z3e r
theorem allI {α:Type} {l:List α} {p:α→Bool} (h:l.all p=true) : ∀ x∈l,p x=true:=List.all_eq_true.1 h
theorem class_L (r:Int):Z39 Xi r=some (clsL r):=by
 unfold Z39
 rw [get_eq (t:=Xi.fClass) r (show Z0 Z59≤100000 by decide)]
 show Z7 (decide (0 < getR Z59 r)) (some (getR Z59 r)) (some 1)=_
 unfold clsL
 by_cases h:0 < getR Z59 r
 · simp [Z7,h]
 · simp [Z7,h]
theorem bracket_L (r:Int):Z22 Xi r=some (braL r):=bracket_eq r (show Z0 Z3e≤100000 by decide)
theorem Z78 {α:Type} (d:α) {l:List α} {v:Int} (h0:0≤v) (h1:v < Z0 l):Z1 d l v∈l:=by
 obtain ⟨h,e⟩:=getL_eq (d:=d) h0 h1
 rw [e];exact List.getElem_mem _
theorem bnd_mask (x:Int) (k:Nat) (hk:k < 63):bndI .i64 x ((2 ^ k-1:Nat):Int)=x % (2 ^ k:Nat):=by
 unfold bndI
 have hb:IntKind.bits .i64=64:=rfl
 rw [hb]
 have hm:BitVec.ofInt 64 ((2 ^ k-1:Nat):Int)=BitVec.ofNat 64 (2 ^ k-1):=by
  apply BitVec.eq_of_toNat_eq
  simp
 rw [hm,BitVec.toNat_and,BitVec.toNat_ofNat]
 have hp:2 ^ k < 2 ^ 63:=Nat.pow_lt_pow_right (by omega) hk
 have hp0:0 < 2 ^ k:=Nat.two_pow_pos k
 rw [Nat.mod_eq_of_lt (show 2 ^ k-1 < 2 ^ 64 by omega),Nat.and_two_pow_sub_one_eq_mod,BitVec.toNat_ofInt]
 have h1:((x % ((2 ^ 64:Nat):Int)).toNat % 2 ^ k:Nat)=(x % ((2 ^ k:Nat):Int)).toNat:=by
  have hd:((2 ^ k:Nat):Int) ∣ ((2 ^ 64:Nat):Int):=Int.ofNat_dvd.2 (Nat.pow_dvd_pow 2 (by omega))
  have e1:0≤x % ((2 ^ 64:Nat):Int):=Int.emod_nonneg _ (by decide)
  have e2:0≤x % ((2 ^ k:Nat):Int):=Int.emod_nonneg _ (by omega)
  have e3:(x % ((2 ^ 64:Nat):Int)) % ((2 ^ k:Nat):Int)=x % ((2 ^ k:Nat):Int):=Int.emod_emod_of_dvd _ hd
  have:(((x % ((2 ^ 64:Nat):Int)).toNat % 2 ^ k:Nat):Int)=((x % ((2 ^ k:Nat):Int)).toNat:Int):=by
   rw [Int.natCast_emod,Int.toNat_of_nonneg e1,e3,Int.toNat_of_nonneg e2]
  exact_mod_cast this
 rw [h1,Int.toNat_of_nonneg (Int.emod_nonneg _ (by omega))]
 have e2:0≤x % ((2 ^ k:Nat):Int):=Int.emod_nonneg _ (by omega)
 have e3:x % ((2 ^ k:Nat):Int) < ((2 ^ k:Nat):Int):=Int.emod_lt_of_pos _ (by omega)
 generalize x % ((2 ^ k:Nat):Int)=y at *
 refine Z5v .i64 y ?_
 have m1:IntKind.min .i64 = -9223372036854775808:=by decide
 have m2:IntKind.max .i64=9223372036854775807:=by decide
 omega
def ends (l:List Yg):List Int:=l.flatMap fun p=>[p.fA,p.fB]
theorem mem_ends {l:List Yg} {p:Yg} {r:Int} (hp:p∈l) (h:r=p.fA∨r=p.fB):r∈ends l :=
 List.mem_flatMap.2 ⟨p,hp,by simpa using h⟩
theorem braL_mem (r:Int):braL r=(0,0)∨((braL r).2=1∨(braL r).2=2)∧(braL (braL r).1).1=r∧(braL r).2+(braL (braL r).1).2=3:=by
 rcases pairB_mem Z3e r with h | ⟨p,h1,h2⟩
 · exact .inl h
 · refine .inr ?_
   have:=allI (show (ends Z3e).all (fun r=>((braL r).2 == 1 || (braL r).2 == 2) && ((braL (braL r).1).1 == r && ((braL r).2+(braL (braL r).1).2 == 3)))=true by kernel_rfl) r
    (mem_ends h1 (h2.imp (fun x=>x.1) (fun x=>x.1)))
   simpa using this
end Go.Vx
