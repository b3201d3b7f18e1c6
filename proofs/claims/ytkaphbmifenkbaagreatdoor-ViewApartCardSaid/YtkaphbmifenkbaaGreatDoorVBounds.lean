/- VBd, VBounds in one. No conditions. -/
import Derived.Test.YtkaphbmifenkbaaGreatDoorVE2
import Derived.Test.YtkaphbmifenkbaaGreatDoorVEF
import Derived.Test.YtkaphbmifenkbaaGreatDoorVLr
set_option linter.all false
namespace Go.Vx
set_option maxRecDepth 100000
variable {k mt:List Int} {b v:Int} {m m':Mch}
def AllB (b:Int) (o:List Sts):Prop:=∀ s∈o,b≤s.flevel
theorem lastS_mem {o:List Sts} (h:0 < lenL o):lastS o∈o:=by
 obtain ⟨hi,e⟩:=getL_eq (d:=d_embed_status) (show 0≤lenL o-1 by omega) (show lenL o-1 < lenL o by omega)
 unfold lastS
 rw [e];exact List.getElem_mem _
theorem initS_sub {o:List Sts} {s:Sts} (h:s∈initS o):s∈o:=by
 unfold initS subL at h
 first | exact List.mem_of_mem_drop (List.mem_of_mem_take h) | exact List.mem_of_mem_take (List.mem_of_mem_drop h)
theorem popI_sub : ∀ (n:Nat) {o:List Sts} {s:Sts},s∈popI n o→s∈o
 | 0,_,_,h=>h
 | n+1,o,s,h=>by
  unfold popI at h
  split at h
  · exact h
  · exact initS_sub (popI_sub n h)
theorem upL_ge (x:Int) (odd:Bool):x+1≤upL x odd:=by unfold upL;split<;>omega
structure Bd (k:List Int) (b v:Int) (m:Mch):Prop where
 op:AllB b m.fopen.fl
 lv : ∀ i,0≤i→i < v→b≤getL 0 m.frun.fLevels i∧getL 0 m.frun.fLevels i≤125
theorem lev_set (G:Good k mt b v m) (H:Bd k b v m) (v0:0≤v) (hv:v < lenL k) (hb:0≤b∧b≤1) {x:Int} (hx:x=b∨x=(lastS m.fopen.fl).flevel) : ∀ i,0≤i→i < v+1→b≤getL 0 (setL m.frun.fLevels v x) i∧getL 0 (setL m.frun.fLevels v x) i≤125:=by
 intro i i0 i1
 have n1:=G.n1
 rw [getL_put v0 i0 (by omega)]
 split
 · rcases hx with rfl | rfl
   · omega
   · exact ⟨H.op _ (lastS_mem G.o0),G.last.2⟩
 · exact H.lv i i0 (by omega)
theorem take_bd (G:Good k mt b v m) (H:Bd k b v m) (v0:0≤v) (hv:v < lenL k) (hb:0≤b∧b≤1):Bd k b (v+1) (takeM m v):=⟨H.op,lev_set G H v0 hv hb (.inr rfl)⟩
theorem remove_bd (G:Good k mt b v m) (H:Bd k b v m) (v0:0≤v) (hv:v < lenL k) (hb:0≤b∧b≤1):Bd k b (v+1) (removeM m v):=⟨H.op,lev_set G H v0 hv hb (.inr rfl)⟩
theorem push_bd {w:Int} {s:Sts} (H:AllB b m.fopen.fl) (hs:b≤s.flevel):AllB b (pushM { m with fvalid:=w } s).fopen.fl:=by
 intro x hx
 rcases List.mem_append.1 hx with hx | hx
 · exact H x hx
 · obtain rfl:=List.mem_singleton.1 hx;exact hs
theorem endIso_sub {s:Sts} (h:s∈(endIsoM m).fopen.fl):s∈m.fopen.fl:=by
 unfold endIsoM at h
 split at h
 · exact h
 · split at h
   · exact h
   · exact popI_sub _ (initS_sub h)
theorem endEmb_sub {s:Sts} (h:s∈(endEmbM m).fopen.fl):s∈m.fopen.fl:=by
 unfold endEmbM at h
 split at h
 · exact h
 · split at h
   · exact h
   · split at h
     · exact initS_sub h
     · exact h
theorem bd_step (G:Good k mt b v m) (v0:0≤v) (hv:v < lenL k) (hb:0≤b∧b≤1) (H:Bd k b v m) (hs:StepM k mt b v m m'):Bd k b (v+1) m':=by
 have hl:=H.op _ (lastS_mem G.o0)
 rcases hs with ⟨-,c,rfl⟩ | ⟨-,odd,rfl⟩ | ⟨-,rfl⟩ | ⟨-,rfl⟩ | ⟨-,rfl⟩ | ⟨-,rfl⟩ | ⟨-,-,rfl⟩
 · have R:=remove_bd G H v0 hv hb
   refine ⟨?_,by unfold embedM;rw [embedC_run];exact R.lv⟩
   unfold embedM embedC
   split
   · exact push_bd (m:=removeM m v) (w:=(removeM m v).fvalid) R.op (by
      have:=upL_ge (lastS (removeM m v).fopen.fl).flevel (c == 17 || c == 18)
      have hl:b≤(lastS (removeM m v).fopen.fl).flevel:=hl
      simp only;omega)
   · split
     · exact R.op
     · exact R.op
 · have R:=take_bd G H v0 hv hb
   refine ⟨?_,by unfold isolateM;rw [isolateC_run];exact R.lv⟩
   unfold isolateM isolateC
   split
   · exact push_bd (m:=takeM m v) R.op (by
      have:=upL_ge (lastS (takeM m v).fopen.fl).flevel odd
      have hl:b≤(lastS (takeM m v).fopen.fl).flevel:=hl
      simp only;omega)
   · exact R.op
 · have H2:Bd k b v (endIsoM m):=⟨fun s hs=>H.op s (endIso_sub hs),by rw [endIso_run];exact H.lv⟩
   exact take_bd G.endIso H2 v0 hv hb
 · have R:=remove_bd G H v0 hv hb
   exact ⟨fun s hs=>R.op s (endEmb_sub hs),by rw [endEmb_run];exact R.lv⟩
 · exact ⟨H.op,lev_set G H v0 hv hb (.inl rfl)⟩
 · exact remove_bd G H v0 hv hb
 · exact take_bd G H v0 hv hb
theorem explicit_bd {l:List Int} {base b:Int} (hb:lenL l≤100000) (hp:embed_parity base=some b) (hb0:0≤b∧b≤1) :
  Yields (embed_Explicit l base) (fun r=>∀ i,0≤i→i < lenL l→b≤getL 0 r.fLevels i∧getL 0 r.fLevels i≤125):=by
 obtain ⟨k,hk,hkl,hkg⟩:=known_spec hb
 refine (explicit_rule hk (by omega) hp hb0 (fun mt v m=>Bd k b v m) (fun mt=>?_) (fun mt v m m' v0 v1 G H hs=>bd_step G v0 v1 hb0 H hs)).mono ?_
 · exact ⟨fun s hs=>by obtain rfl:=List.mem_singleton.1 hs;exact Int.le_refl _,fun i i0 i1=>by omega⟩
 · rintro r ⟨mt,m,rfl,G,H⟩
   rw [hkl] at H
   exact H.lv
end Go.Vx
namespace Go.Vx
open Go.Proofs
set_option maxRecDepth 100000
theorem implicit_yields {c lev:Int} (h0:0≤lev) (h1:lev≤125):Yields (weak_Implicit c lev) (fun y=>lev≤y∧y≤126∧(lev=0∨lev=1→y≤2∧(c=1→y=lev*2)∧(c=2→y=1)∧(c=4∨c=7→y=2))):=by
 have e:bndI .i64 lev 1=lev % 2:=bnd_mask lev 1 (by omega)
 unfold weak_Implicit
 rw [e]
 refine .ite (fun hh=>?_) (fun hh=>?_)
 · have ho:lev % 2=1:=by
    by_cases ho:lev % 2=1
    · exact ho
    · simp [ho] at hh
   have hc:c=1∨c=4∨c=7:=by
    simp [ho] at hh
    omega
   exact .chk (inR64 (by omega) (by omega)) (.ret ⟨by omega,by omega,fun _=>⟨by omega,by omega,by omega,by omega⟩⟩)
 refine .ite (fun hh2=>?_) (fun hh2=>?_)
 · have ho : ¬ lev % 2=1:=by
    intro ho
    simp [ho] at hh2
   have hc:c=2:=by simp [ho] at hh2;omega
   exact .chk (inR64 (by omega) (by omega)) (.ret ⟨by omega,by omega,fun _=>⟨by omega,by omega,by omega,by omega⟩⟩)
 refine .ite (fun hh3=>?_) (fun hh3=>?_)
 · have ho : ¬ lev % 2=1:=by
    intro ho
    simp [ho] at hh3
   have hc:c=4∨c=7:=by simp [ho] at hh3;omega
   exact .chk (inR64 (by omega) (by omega)) (.ret ⟨by omega,by omega,fun _=>⟨by omega,by omega,by omega,by omega⟩⟩)
 · refine .ret ⟨by omega,by omega,fun hl=>?_⟩
   by_cases ho:lev % 2=1
   · simp [ho] at hh hh2 hh3
     exact ⟨by omega,by omega,by omega,by omega⟩
   · simp [ho] at hh hh2 hh3
     exact ⟨by omega,by omega,by omega,by omega⟩
def Gd (l:List Int) (b x y:Int):Prop:=(b≤y∧y≤126)∧(Flat l→y≤2∧(getL 0 l x=1→y % 2=0)∧(getL 0 l x=2∨getL 0 l x=3→y % 2=1)∧(getL 0 l x=4∨getL 0 l x=7→y % 2=0))
theorem flat_run {l:List Int} {b:Int} {R:T_embed_Run} (hb:lenL l≤100000) (hb0:b=0∨b=1) (hE:embed_Explicit l b=some R) (hf:Flat l):FlatRun l b R:=by
 obtain ⟨R',h1,h2⟩:=explicit_flat hb hf hb0
 rw [hE] at h1;cases h1;exact h2
theorem levels_bounds {r l:List Int} {b:Int} (hb:lenL l≤100000) (hr:lenL r=lenL l) (hb0:b=0∨b=1) :
  Yields (weak_levels dLoad r l b) (fun o=>lenL o=lenL l∧∀ x,0≤x→x < lenL l→(b≤getL 0 o x∧getL 0 o x≤126∧(Flat l→getL 0 o x≤2))∧(Flat l→getL 0 l x≠10→Gd l b x (getL 0 o x))):=by
 have hn:=lenL_nn l
 have hpar:=parity_flat hb0
 obtain ⟨R,hE,F⟩:=explicit_run b hb
 obtain ⟨R',hE',L⟩:=explicit_bd (base:=b) hb hpar (by omega)
 rw [hE] at hE';cases hE'
 obtain ⟨S,hS,SP⟩:=seqs_yields b hb F
 have n1:=F.n1;have n2:=F.n2;have n3:=F.n3
 refine (levels_rule (a0:=b) hb hE hS n1 n3 SP.s7 (fun k k0 k1=>⟨(SP.s1 k k0 k1).1,(SP.s1 k k0 k1).2,fun j j0 j1=>by have:=SP.s3 k j k0 k1 j0 j1;exact ⟨this.1,this.2.1⟩⟩)
  (fun y=>b≤y∧y≤126∧(Flat l→y≤2)) (Gd l b) (fun x x0 x1=>?_) (fun x y h=>⟨h.1.1,h.1.2,fun hf=>(h.2 hf).1⟩) (by rcases hb0 with rfl | rfl<;>decide) (by omega) fun k k0 k1=>?_).mono fun o ho=>⟨ho.1,fun x x0 x1=>⟨(ho.2 x x0 x1).1,fun hf h10=>?_⟩⟩
 · have:=L x x0 x1
   refine ⟨this.1,by omega,fun hf=>?_⟩
   have:=(flat_run hb hb0 hE hf).lv x x0 x1
   omega
 · obtain ⟨s0,s1⟩:=SP.s1 k k0 k1
   have s3:=fun j j0 j1=>SP.s3 k j k0 k1 j0 j1
   generalize getL [] S k=seq at s0 s1 s3 ⊢
   have sr : ∀ j,0≤j→j < lenL seq→0≤getL 0 seq j∧getL 0 seq j < lenL l:=fun j j0 j1=>⟨(s3 j j0 j1).1,(s3 j j0 j1).2.1⟩
   obtain ⟨was,c1,wasl,wasg⟩:=pick_yields (l:=R.fClasses) (seq:=seq) (by omega) (by rw [n2];exact sr)
   obtain ⟨ed,c2,e1,e2,-⟩:=edges_yields (R:=R) (base:=b) (b:=b) (seq:=seq) hb n1 n2 n3 hpar s0 s1 sr
   obtain ⟨rr,c3,rrl,-⟩:=pick_yields (l:=r) (seq:=seq) (by omega) (by rw [hr];exact sr)
   obtain ⟨w,c4,W⟩:=weak_yields (l:=was) (s:=ed.1) (by omega) e1
   have wL:=W.len
   obtain ⟨now,c5,nl,ng,-⟩:=neutral_yields (r:=rr) (was:=was) (l:=w) (level:=getL 0 R.fLevels (getL 0 seq 0)) (sos:=ed.1) (eos:=ed.2) (by omega) (by omega) (by omega) e1
   have h00:=sr 0 (by omega) s0
   have hlev:=L _ h00.1 h00.2
   refine ⟨was,ed,rr,w,now,c1,c2,c3,c4,c5,by omega,fun j j0 j1=>?_⟩
   obtain ⟨y,hy,y1,y2,y3⟩:=implicit_yields (c:=getL 0 now j) (lev:=getL 0 R.fLevels (getL 0 seq 0)) (by omega) (by omega)
   refine ⟨y,hy,⟨by omega,y2⟩,fun hf=>?_⟩
   have FR:=flat_run hb hb0 hE hf
   have hl0:=FR.lv _ h00.1 h00.2
   have hx:=sr j j0 j1
   have hwas:getL 0 was j=getL 0 l (getL 0 seq j):=by rw [wasg j j0 j1,FR.cl]
   rw [hl0] at y1 y3
   obtain ⟨z1,z2,z3,z4⟩:=y3 hb0
   have wj:=lenL_nn was
   refine ⟨z1,fun h=>?_,fun h=>?_,fun h=>?_⟩
   · have hw1:=W.L j j0 (by omega) (by rw [hwas];exact h)
     have:=ng j j0 (by omega) (by omega) (by rw [hwas];omega)
     have:=z2 (by rw [this,hw1])
     omega
   · have hw1:=W.R j j0 (by omega) (by rw [hwas];exact h)
     have:=ng j j0 (by omega) (by omega) (by rw [hwas];omega)
     have:=z3 (by rw [this,hw1])
     omega
   · have hw1:getL 0 w j=4∨getL 0 w j=7∨getL 0 w j=1:=by
      rcases h with h | h
      · exact W.N j j0 (by omega) (by rw [hwas];exact h)
      · exact .inr (.inl (W.A j j0 (by omega) (by rw [hwas];exact h)))
     have hnow:=ng j j0 (by omega) (by omega) (by rw [hwas];omega)
     rcases hw1 with hw1 | hw1 | hw1
     · have:=z4 (.inl (by rw [hnow,hw1]));omega
     · have:=z4 (.inr (by rw [hnow,hw1]));omega
     · have:=z2 (by rw [hnow,hw1]);omega
 · have hrm:getL false R.fRemoved x=false:=by
    rw [(flat_run hb hb0 hE hf).rm x x0 x1];simpa using h10
   exact (ho.2 x x0 x1).2 hrm (SP.s6 x x0 x1 hrm |>.imp fun i ⟨j,a,c,d,e,f⟩=>⟨j,a,c,d,e,f⟩)
theorem base2_yields {l:List Int} (hb:lenL l≤100000):Yields (embed_Base l) (fun b=>b=0∨b=1):=by
 unfold embed_Base
 refine .bind _ (match_yields hb) fun mt hm=>?_
 obtain ⟨ml,o,I⟩:=hm
 exact .bind _ (base_yields hb (Int.le_refl _) (Int.le_refl _) ml fun i i0 i1 hO=>by
  rcases (I.loc i i0 i1).1 hO with h | ⟨h1,h2,_,_⟩<;>omega) fun b hb=>.ret hb
end Go.Vx
