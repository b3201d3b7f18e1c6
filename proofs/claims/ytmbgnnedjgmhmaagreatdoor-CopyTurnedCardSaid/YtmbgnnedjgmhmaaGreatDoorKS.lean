/- What the sort of pairs leaves, in plain Lean: the library's plain twin of Go's pdqsort. No conditions but those of sortPairs. -/
import Derived.Test.YtmbgnnedjgmhmaaGreatDoorKLift
import Derived.Test.YtmbgnnedjgmhmaaGreatDoorVxHoare
import Derived.Shelf.SlSortCmp.NoneTotal
set_option linter.all false
namespace Go.Proofs
open Go.Lib Go.Sort Go.Vx
theorem bLt (x y:Z4n):ltOf bCmp x y=decide (x.1.x0 < y.1.x0):=by
 unfold ltOf bCmp
 by_cases h:x.1.x0 < y.1.x0
 · rw [decide_eq_true h,decide_eq_true (by omega)]
 · rw [decide_eq_false h,decide_eq_false (by omega)]
theorem swoP:SWO (ltOf bCmp) where
 irrefl x:=by rw [bLt];simp
 trans x y z h1 h2:=by rw [bLt] at *;simp at *;omega
 ntrans x y z h1 h2:=by rw [bLt] at *;simp at *;omega
def Z0o (x:List Zx) (h : ∀ p∈x,0≤p.x0∧p.x0 < 4611686018427387904):Array Z4n:=(x.attach.map fun p=>(⟨p.1,h p.1 p.2⟩:Z4n)).toArray
theorem bArr_size (x h):(Z0o x h).size=x.length:=by unfold Z0o;rw [List.size_toArray,List.length_map,List.length_attach]
theorem bArr_get (x h) (i:Nat) (hi:i < x.length):((Z0o x h)[i]!).1=x[i]:=by
 have:i < (Z0o x h).size:=by rw [bArr_size];exact hi
 rw [getElem!_pos _ i this];simp [Z0o]
theorem pdq_bArr (x:List Zx) (hx):((pdq (ltOf bCmp) (Z0o x hx) 0 (Z0o x hx).size (Lib.bitLen (Z0o x hx).size) true true).toList.map fun b=>b.1).Perm x ∧
  ((pdq (ltOf bCmp) (Z0o x hx) 0 (Z0o x hx).size (Lib.bitLen (Z0o x hx).size) true true).toList.map fun b=>b.1).Pairwise (fun a b=>a.x0≤b.x0):=by
 obtain ⟨h1,h2⟩:=pdq_sorts (ltOf bCmp) swoP (Z0o x hx) 0 (Z0o x hx).size (Lib.bitLen (Z0o x hx).size) true true (Nat.zero_le _) (Nat.le_refl _) (Or.inl rfl)
 generalize pdq (ltOf bCmp) (Z0o x hx) 0 (Z0o x hx).size (Lib.bitLen (Z0o x hx).size) true true=d at h1 h2
 obtain ⟨hs,-,hp⟩:=h1
 have hp2:d.toList.Perm (Z0o x hx).toList:=by
  have e1:(d.extract 0 (Z0o x hx).size)=d:=by rw [← hs];simp
  have e2:(Z0o x hx).extract 0 (Z0o x hx).size=Z0o x hx:=by simp
  rw [e1,e2] at hp;exact hp
 constructor
 · have:=hp2.map (fun b:Z4n=>b.1)
   refine this.trans ?_
   have e:(Z0o x hx).toList.map (fun b:Z4n=>b.1)=x:=by
    unfold Z0o;rw [List.map_map];exact List.attach_map_subtype_val x
   rw [e]
 · rw [List.pairwise_map,List.pairwise_iff_getElem]
   intro i j hi hj hij
   have hi':i < d.size:=by simpa using hi
   have hj':j < d.size:=by simpa using hj
   have:=h2 i j (Nat.zero_le _) hij (by omega)
   rw [bLt,decide_eq_false_iff_not,getElem!_pos d i hi',getElem!_pos d j hj'] at this
   simp only [Array.getElem_toList]
   omega
theorem Z76 {x:List Zx} {off n:Int} {r:List Zx} (h:Z1e x off n=some r) :
  off=0∧n=Z0 x∧Z0 x < 4611686018427387904∧∃ hx,r=(pdq (ltOf bCmp) (Z0o x hx) 0 (Z0o x hx).size (Lib.bitLen (Z0o x hx).size) true true).toList.map fun b=>b.1:=by
 unfold Z1e at h
 split at h
 · split at h
   · rename_i hc
     obtain ⟨rfl,rfl⟩:=hc
     cases h
     exact ⟨rfl,rfl,by decide,(fun p hp=>by cases hp),((pdq_bArr [] _).1.eq_nil).symm⟩
   · cases h
 · split at h
   · rename_i hc
     exact ⟨hc.1,hc.2.1,hc.2.2.1,hc.2.2.2,(Option.some.inj h).symm⟩
   · cases h
theorem sortPairs_ex {x:List Zx} (h1:Z0 x < 4611686018427387904) (h2 : ∀ p∈x,0≤p.x0∧p.x0 < 4611686018427387904) : ∃ r,Z1e x 0 (Z0 x)=some r:=by
 cases x with
 | nil=>exact ⟨[],rfl⟩
 | cons a q=>exact ⟨_,dif_pos ⟨rfl,rfl,h1,h2⟩⟩
theorem Z77 {x:List Zx} {off n:Int} {r:List Zx} (h:Z1e x off n=some r) :
  r.Perm x∧r.Pairwise (fun a b=>a.x0≤b.x0):=by
 obtain ⟨-,-,-,hx,rfl⟩:=Z76 h
 exact pdq_bArr x hx
theorem Z8e {x:List Zx} {off n:Int} {r:List Zx} (h:Z1e x off n=some r):Z0 r=Z0 x:=by
 have:=(Z77 h).1.length_eq
 show (r.length:Int)=x.length;omega
end Go.Proofs
