/- VO, VP, VG in one. No conditions. -/
import Derived.Test.YtkaphbmifenkbaaGreatDoorVU
import Derived.Test.YtkaphbmifenkbaaGreatDoorVxHoare
import Derived.Test.YtkaphbmifenkbaaGreatDoorVCn
set_option linter.all false
namespace Go.Vx
set_option maxRecDepth 100000
theorem bindO_eq' {β γ:Type} (x:β) (k:β→Option γ):bindO (some x) k=k x:=rfl
theorem iteO_true {α:Type} (x y:Option α):iteO true x y=x:=rfl
theorem iteO_false {α:Type} (x y:Option α):iteO false x y=y:=rfl
theorem cutLoop {α β γ:Type} {body:α→Option (Fl α (Fl β γ))} {k:β→Option γ} (inv:α→Prop) (μ:α→Nat) (M:Fl β γ→Prop) (Q:γ→Prop) {x:α} (hx:inv x)
  (step : ∀ x,inv x→(∃ y,body x=some (.go y)∧inv y∧μ y < μ x)∨∃ r,body x=some (.out r)∧M r) (hk : ∀ o,M o→∃ r,contO k o=some r∧Q r) : ∃ r,cutO (loopO body x) k=some r∧Q r:=by
 obtain ⟨o,h1,h2⟩:=loopO_rule inv μ M hx step
 obtain ⟨r,h3,h4⟩:=hk o h2
 exact ⟨r,by rw [h1];exact h3,h4⟩
theorem ints_ex {a b:List Int} (ha:lenL a≤1000000) : ∃ r,lapwingref03_Ints a b=some r∧r=decide (a=b):=by
 unfold lapwingref03_Ints
 by_cases hl:lenL a=lenL b
 · rw [show (!(lenL a == lenL b))=false by simp [hl],iteO_false]
   refine cutLoop (fun i=>0≤i∧i≤lenL a∧∀ k,0≤k→k < i→getL 0 a k=getL 0 b k) (fun i=>(lenL a-i).toNat) (fun r:Fl Unit Bool=>(r = .go ()∧a=b)∨(r = .out false∧a≠b)) _ ⟨by omega,lenL_nn a,fun k _ _=>by omega⟩ ?_ ?_
   · rintro i ⟨i0,i1,hi⟩
     by_cases h:i < lenL a
     · rw [decide_eq_true h,iteO_true,chk_ok ⟨i0,h⟩,chk_ok ⟨i0,by omega⟩]
       by_cases he:getL 0 a i=getL 0 b i
       · rw [show (!(getL 0 a i == getL 0 b i))=false by simp [he],iteO_false]
         refine .inl ⟨i+1,by rw [chk_ok (inR64 (by omega) (by omega))],⟨by omega,by omega,fun k k0 k1=>?_⟩,by omega⟩
         rcases Int.lt_or_eq_of_le (show k≤i by omega) with h' | rfl
         · exact hi k k0 h'
         · exact he
       · rw [show (!(getL 0 a i == getL 0 b i))=true by simp [he],iteO_true]
         exact .inr ⟨_,rfl,.inr ⟨rfl,fun hab=>he (by rw [hab])⟩⟩
     · rw [decide_eq_false h,iteO_false]
       exact .inr ⟨_,rfl,.inl ⟨rfl,extL 0 hl fun k k0 k1=>hi k k0 (by omega)⟩⟩
   · rintro o (⟨rfl,h⟩ | ⟨rfl,h⟩)
     · exact ⟨_,rfl,by simp [h]⟩
     · exact ⟨_,rfl,by simp [h]⟩
 · rw [show (!(lenL a == lenL b))=true by simp [hl],iteO_true]
   exact ⟨_,rfl,by rw [decide_eq_false (fun h=>hl (by rw [h]))]⟩
theorem ints_eq {a b:List Int} (ha:lenL a≤1000000):lapwingref03_Ints a b=some (decide (a=b)):=by
 obtain ⟨r,h,rfl⟩:=ints_ex (b:=b) ha
 exact h
theorem reverse_spec {s:List Int} {off n:Int} (h0:0≤off) (h1:0≤n) (h2:off+n≤lenL s) (hb:lenL s≤1000000) :
  ∃ r,slices_Reverse___int_int_ s off n=some r∧lenL r=lenL s∧∀ k,0≤k→k < lenL s→getL 0 r k=if off≤k∧k < off+n then getL 0 s (off+(off+n-1-k)) else getL 0 s k:=by
 unfold slices_Reverse___int_int_
 rw [chk_ok ⟨h0,h1,h2⟩,chk_ok (inR64 (by omega) (by omega))]
 refine loopO_rule (fun x=>0≤x.1∧2*x.1≤n+1∧x.2.1=n-1-x.1∧lenL x.2.2=lenL s ∧
  ∀ k,0≤k→k < lenL s→getL 0 x.2.2 k=if off≤k∧k < off+x.1∨off+n-x.1≤k∧k < off+n then getL 0 s (off+(off+n-1-k)) else getL 0 s k) (fun x=>(n-x.1).toNat) _
  ⟨by simp only;omega,by simp only;omega,by simp only;omega,rfl,fun k k0 k1=>by simp only;rw [if_neg (by omega)]⟩ ?_
 rintro ⟨i,j,t⟩ ⟨i0,i1,hj,hl,hg⟩
 simp only at i0 i1 hj hl hg ⊢
 by_cases h:i < j
 · rw [decide_eq_true h]
   simp only [iteO]
   rw [chk_ok ⟨by omega,by omega⟩,chk_ok ⟨by omega,by omega⟩,chk_ok ⟨by omega,by omega⟩,chk_ok ⟨by omega,by omega⟩,chk_ok (inR64 (by omega) (by omega)),chk_ok (inR64 (by omega) (by omega))]
   refine .inl ⟨_,rfl,⟨by simp only;omega,by simp only;omega,by simp only;omega,by simp [hl],fun k k0 k1=>?_⟩,by simp only;omega⟩
   simp only
   rw [getL_put (by omega) k0 (by simp [hl];omega),getL_put (by omega) k0 (by omega)]
   by_cases e1:k=off+j
   · rw [if_pos e1,hg _ (by omega) (by omega),if_neg (by omega),if_pos (by omega)]
     congr 1;omega
   · rw [if_neg e1]
     by_cases e2:k=off+i
     · rw [if_pos e2,hg _ (by omega) (by omega),if_neg (by omega),if_pos (by omega)]
       congr 1;omega
     · rw [if_neg e2,hg _ k0 k1]
       by_cases e3:off≤k∧k < off+i∨off+n-i≤k∧k < off+n
       · rw [if_pos e3,if_pos (by omega)]
       · rw [if_neg e3,if_neg (by omega)]
 · rw [decide_eq_false h]
   refine .inr ⟨_,rfl,hl,fun k k0 k1=>?_⟩
   rw [hg k k0 k1]
   by_cases e3:off≤k∧k < off+n
   · rw [if_pos e3]
     by_cases e4:off≤k∧k < off+i∨off+n-i≤k∧k < off+n
     · rw [if_pos e4]
     · rw [if_neg e4];congr 1;omega
   · rw [if_neg e3,if_neg (by omega)]
def rEnd (n:Int) (R:Int→Bool):Nat→Int→Int
 | 0,t=>t
 | k+1,t=>if t < n∧R t=true then rEnd n R k (t+1) else t
def rBeg (R:Int→Bool):Nat→Int→Int
 | 0,s=>s
 | k+1,s=>if 0 < s∧R (s-1)=true then rBeg R k (s-1) else s
theorem rEnd_spec {n:Int} {R:Int→Bool} : ∀ {k:Nat} {t:Int},t≤n→(n-t).toNat≤k→t≤rEnd n R k t∧rEnd n R k t≤n∧(∀ j,t≤j→j < rEnd n R k t→R j=true)∧(rEnd n R k t=n∨R (rEnd n R k t)=false)
 | 0,t,h0,h1=>by
  simp only [rEnd]
  exact ⟨by omega,by omega,fun j _ _=>by omega,by omega⟩
 | k+1,t,h0,h1=>by
  simp only [rEnd]
  split
  · rename_i h
    obtain ⟨a,b,c,d⟩:=rEnd_spec (n:=n) (R:=R) (k:=k) (t:=t+1) (by have:=h.1;omega) (by omega)
    refine ⟨by omega,b,fun j j0 j1=>?_,d⟩
    rcases Int.lt_or_eq_of_le j0 with h' | rfl
    · exact c j (by omega) j1
    · exact h.2
  · rename_i h
    refine ⟨by omega,h0,fun j _ _=>by omega,?_⟩
    by_cases h':t=n
    · exact .inl h'
    · refine .inr ?_
      cases hR:R t with
      | false=>rfl
      | true=>exact absurd ⟨by omega,hR⟩ h
theorem rBeg_spec {R:Int→Bool} : ∀ {k:Nat} {s:Int},0≤s→s.toNat≤k→0≤rBeg R k s∧rBeg R k s≤s∧(∀ j,rBeg R k s≤j→j < s→R j=true)∧(rBeg R k s=0∨R (rBeg R k s-1)=false)
 | 0,s,h0,h1=>by
  simp only [rBeg]
  exact ⟨by omega,by omega,fun j _ _=>by omega,by omega⟩
 | k+1,s,h0,h1=>by
  simp only [rBeg]
  split
  · rename_i h
    obtain ⟨a,b,c,d⟩:=rBeg_spec (R:=R) (k:=k) (s:=s-1) (by have:=h.1;omega) (by omega)
    refine ⟨a,by omega,fun j j0 j1=>?_,d⟩
    rcases Int.lt_or_eq_of_le (show j≤s-1 by omega) with h' | rfl
    · exact c j (by omega) h'
    · exact h.2
  · rename_i h
    refine ⟨h0,by omega,fun j _ _=>by omega,?_⟩
    by_cases h':s=0
    · exact .inl h'
    · refine .inr ?_
      cases hR:R (s-1) with
      | false=>rfl
      | true=>exact absurd ⟨by omega,hR⟩ h
def IsRun (n:Int) (R:Int→Bool) (p s e:Int):Prop:=0≤s∧s≤p∧p < e∧e≤n∧(∀ j,s≤j→j < e→R j=true)∧(s=0∨R (s-1)=false)∧(e=n∨R e=false)
theorem IsRun.uniq {n:Int} {R:Int→Bool} {p s e s' e':Int} (h:IsRun n R p s e) (h':IsRun n R p s' e'):s=s'∧e=e':=by
 obtain ⟨a1,a2,a3,a4,a5,a6,a7⟩:=h
 obtain ⟨b1,b2,b3,b4,b5,b6,b7⟩:=h'
 constructor
 · rcases Int.lt_trichotomy s s' with h | h | h
   · have:=a5 (s'-1) (by omega) (by omega)
     rcases b6 with h6 | h6
     · omega
     · rw [h6] at this;cases this
   · exact h
   · have:=b5 (s-1) (by omega) (by omega)
     rcases a6 with h6 | h6
     · omega
     · rw [h6] at this;cases this
 · rcases Int.lt_trichotomy e e' with h | h | h
   · have:=b5 e (by omega) (by omega)
     rcases a7 with h6 | h6
     · omega
     · rw [h6] at this;cases this
   · exact h
   · have:=a5 e' (by omega) (by omega)
     rcases b7 with h6 | h6
     · omega
     · rw [h6] at this;cases this
def sig (n:Int) (R:Int→Bool) (p:Int):Int:=if R p=true then rBeg R p.toNat p+rEnd n R (n-p).toNat p-1-p else p
theorem run_of {n:Int} {R:Int→Bool} {p:Int} (h0:0≤p) (h1:p < n) (hR:R p=true):IsRun n R p (rBeg R p.toNat p) (rEnd n R (n-p).toNat p):=by
 obtain ⟨a,b,c,d⟩:=rEnd_spec (n:=n) (R:=R) (k:=(n-p).toNat) (t:=p) (by omega) (by omega)
 obtain ⟨a',b',c',d'⟩:=rBeg_spec (R:=R) (k:=p.toNat) (s:=p) h0 (by omega)
 refine ⟨a',b',?_,b,fun j j0 j1=>?_,d',d⟩
 · rcases d with h | h
   · omega
   · rcases Int.lt_or_eq_of_le a with h' | h'
     · exact h'
     · rw [← h',hR] at h;cases h
 · rcases Int.lt_or_le j p with h | h
   · exact c' j j0 h
   · exact c j h j1
theorem sig_run {n:Int} {R:Int→Bool} {p s e:Int} (h:IsRun n R p s e):sig n R p=s+e-1-p:=by
 have hR:R p=true:=h.2.2.2.2.1 p h.2.1 h.2.2.1
 have h':=run_of (n:=n) (by have:=h.1;have:=h.2.1;omega) (by have:=h.2.2.1;have:=h.2.2.2.1;omega) hR
 obtain ⟨e1,e2⟩:=h.uniq h'
 simp only [sig,hR,if_true]
 rw [← e1,← e2]
theorem sig_not {n:Int} {R:Int→Bool} {p:Int} (h:R p=false):sig n R p=p:=by
 simp [sig,h]
theorem IsRun.move {n:Int} {R:Int→Bool} {p s e q:Int} (h:IsRun n R p s e) (h1:s≤q) (h2:q < e):IsRun n R q s e:=⟨h.1,h1,h2,h.2.2.2.1,h.2.2.2.2.1,h.2.2.2.2.2.1,h.2.2.2.2.2.2⟩
theorem sig_spec {n:Int} {R:Int→Bool} {p:Int} (h0:0≤p) (h1:p < n):0≤sig n R p∧sig n R p < n∧R (sig n R p)=R p∧sig n R (sig n R p)=p:=by
 cases hR:R p with
 | false=>rw [sig_not hR,sig_not hR];exact ⟨h0,h1,hR,rfl⟩
 | true =>
  have hr:=run_of h0 h1 hR
  generalize hs:rBeg R p.toNat p=s at hr
  generalize he:rEnd n R (n-p).toNat p=e at hr
  have e1:=sig_run hr
  have hr':IsRun n R (sig n R p) s e:=hr.move (by rw [e1];have:=hr.2.2.1;omega) (by rw [e1];have:=hr.2.1;omega)
  refine ⟨by have:=hr'.1;have:=hr'.2.1;omega,by have:=hr'.2.2.1;have:=hr'.2.2.2.1;omega,hr'.2.2.2.2.1 _ hr'.2.1 hr'.2.2.1,?_⟩
  rw [sig_run hr',e1];omega
def clI (x:Int):Int:=imaxI 0 (iminI x 127)
theorem clI_bd (x:Int):0≤clI x∧clI x≤127:=by
 unfold clI imaxI iminI
 repeat' split
 all_goals omega
def comp (n:Int) (L:Int→Int):Nat→Int→Int→Int
 | 0,_,p=>p
 | k+1,lev,p=>sig n (fun q=>decide (lev≤L q)) (comp n L k (lev-1) p)
theorem tmod2 {x:Int} (h:0≤x):Int.tmod x 2=x % 2:=by
 rw [Int.tmod_eq_emod_of_nonneg h]
theorem comp_bd {n:Int} {L:Int→Int} : ∀ (k:Nat) (lev p:Int),0≤p→p < n→0≤comp n L k lev p∧comp n L k lev p < n
 | 0,_,p,h0,h1=>⟨h0,h1⟩
 | k+1,lev,p,h0,h1=>by
  obtain ⟨a,b⟩:=comp_bd k (lev-1) p h0 h1
  have:=sig_spec (R:=fun q=>decide (lev≤L q)) a b
  exact ⟨this.1,this.2.1⟩
def Tops (n:Int) (L:Int→Int) (most least:Int):Prop :=
 (0≤most∧(∀ i,0≤i→i < n→L i≤most)∧(most=0∨∃ i,0≤i∧i < n∧L i=most)) ∧
 ((least=128∨∃ i,0≤i∧i < n∧L i=least∧L i % 2=1)∧∀ i,0≤i→i < n→L i % 2=1→least≤L i)
theorem visual_yields {levels:List Int} (hb:lenL levels≤100000) :
  Yields (order_Visual levels) fun out=>lenL out=lenL levels∧∃ most least,Tops (lenL levels) (fun i=>clI (getL 0 levels i)) most least ∧
   ∀ p,0≤p→p < lenL levels→getL 0 out p=comp (lenL levels) (fun i=>clI (getL 0 levels i)) (most-least+1).toNat most p:=by
 have hn:=lenL_nn levels
 generalize hN:lenL levels=n at *
 generalize hL:(fun i=>clI (getL 0 levels i))=L at *
 have hL' : ∀ i,clI (getL 0 levels i)=L i:=fun i=>by rw [← hL]
 have hLb : ∀ i,0≤L i∧L i≤127:=fun i=>by rw [← hL'];exact clI_bd _
 unfold order_Visual
 rw [hN]
 refine .chk (mkOk hn (by omega) (by omega)) (.chk (mkOk hn (by omega) (by omega)) ?_)
 refine .cut (fun o=>∃ most least l out,o = .go (most,least,l,out)∧lenL l=n∧lenL out=n∧Tops n L most least∧(∀ i,0≤i→i < n→getL 0 l i=L i)∧∀ i,0≤i→i < n→getL 0 out i=i) ?_ ?_
 · refine .loop (fun x=>0≤x.2.2.1∧x.2.2.1≤n∧lenL x.2.2.2.1=n∧lenL x.2.2.2.2=n∧Tops x.2.2.1 L x.1 x.2.1∧(∀ i,0≤i→i < x.2.2.1→getL 0 x.2.2.2.1 i=L i)∧∀ i,0≤i→i < x.2.2.1→getL 0 x.2.2.2.2 i=i) (fun x=>(n-x.2.2.1).toNat)
    ⟨by simp only;omega,by simp only;omega,lenL_rep _ hn,lenL_rep _ hn,⟨⟨by simp only;omega,fun i _ _=>by simp only at *;omega,.inl rfl⟩,.inl rfl,fun i _ _=>by simp only at *;omega⟩,fun i _ _=>by simp only at *;omega,fun i _ _=>by simp only at *;omega⟩ ?_
   rintro ⟨most,least,i,l,out⟩ ⟨i0,i1,hl,ho,⟨⟨m0,m1,m2⟩,l1,l2⟩,hgl,hgo⟩
   simp only at i0 i1 hl ho m0 m1 m2 l1 l2 hgl hgo ⊢
   refine .ite (fun h=>?_) (fun h=>?_)
   · have h:i < n:=by simpa using h
     refine .chk ⟨i0,h⟩ (.chk ⟨i0,h⟩ (.chk ⟨i0,h⟩ (.chk (by decide) ?_)))
     rw [show imaxI 0 (iminI (getL 0 levels i) 127)=L i from hL' i]
     have hset : ∀ (x:List Int) (v:Int),lenL x=n→∀ k,0≤k→k < i+1→getL 0 (setL x i v) k=if k=i then v else getL 0 x k:=fun x v hx k k0 k1=>getL_put i0 k0 (by omega)
     have hmost:(0≤imaxI most (L i)∧(∀ k,0≤k→k < i+1→L k≤imaxI most (L i))∧(imaxI most (L i)=0∨∃ k,0≤k∧k < i+1∧L k=imaxI most (L i))):=by
      unfold imaxI
      split
      · refine ⟨(hLb i).1,fun k k0 k1=>?_,.inr ⟨i,i0,by omega,rfl⟩⟩
        rcases Int.lt_or_eq_of_le (show k≤i by omega) with h' | rfl
        · have:=m1 k k0 h';omega
        · omega
      · refine ⟨m0,fun k k0 k1=>?_,?_⟩
        · rcases Int.lt_or_eq_of_le (show k≤i by omega) with h' | rfl
          · exact m1 k k0 h'
          · omega
        · rcases m2 with h' | ⟨k,k0,k1,k2⟩
          · exact .inl h'
          · exact .inr ⟨k,k0,by omega,k2⟩
     refine .ite (fun h2=>?_) (fun h2=>?_)
     · have h2:L i % 2=1:=by simpa [tmod2 (hLb i).1] using h2
       refine .chk (inR64 (by omega) (by omega)) (.ret ⟨⟨by simp only;omega,by simp only;omega,by simpa using hl,by simpa using ho,⟨hmost,?_,fun k k0 k1 k2=>?_⟩,fun k k0 k1=>?_,fun k k0 k1=>?_⟩,by simp only;omega⟩)
       · show iminI least (L i)=128∨_
         unfold iminI
         split
         · exact .inr ⟨i,i0,by simp only;omega,rfl,h2⟩
         · rcases l1 with h' | ⟨k,k0,k1,k2⟩
           · exact .inl h'
           · exact .inr ⟨k,k0,by simp only;omega,k2⟩
       · show iminI least (L i)≤L k
         unfold iminI
         rcases Int.lt_or_eq_of_le (show k≤i by simp only at k1;omega) with h' | rfl
         · have:=l2 k k0 h' k2;split<;>omega
         · split<;>omega
       · simp only at k1 ⊢
         rw [hset _ _ hl k k0 k1]
         split
         · subst_vars;rfl
         · exact hgl k k0 (by omega)
       · simp only at k1 ⊢
         rw [hset _ _ ho k k0 k1]
         split
         · subst_vars;rfl
         · exact hgo k k0 (by omega)
     · have h2 : ¬ L i % 2=1:=by simpa [tmod2 (hLb i).1] using h2
       refine .chk (inR64 (by omega) (by omega)) (.ret ⟨⟨by simp only;omega,by simp only;omega,by simpa using hl,by simpa using ho,⟨hmost,?_,fun k k0 k1 k2=>?_⟩,fun k k0 k1=>?_,fun k k0 k1=>?_⟩,by simp only;omega⟩)
       · rcases l1 with h' | ⟨k,k0,k1,k2⟩
         · exact .inl h'
         · exact .inr ⟨k,k0,by simp only;omega,k2⟩
       · rcases Int.lt_or_eq_of_le (show k≤i by simp only at k1;omega) with h' | rfl
         · exact l2 k k0 h' k2
         · exact absurd k2 h2
       · simp only at k1 ⊢
         rw [hset _ _ hl k k0 k1]
         split
         · subst_vars;rfl
         · exact hgl k k0 (by omega)
       · simp only at k1 ⊢
         rw [hset _ _ ho k k0 k1]
         split
         · subst_vars;rfl
         · exact hgo k k0 (by omega)
   · have h : ¬ i < n:=by simpa using h
     obtain rfl:i=n:=by omega
     exact .ret ⟨most,least,l,out,rfl,hl,ho,⟨⟨m0,m1,m2⟩,l1,l2⟩,hgl,hgo⟩
 · rintro _ ⟨most,least,l,out,rfl,hl,ho,htops,hgl,hgo⟩
   show Yields (cutO _ _) _
   have hmost:0≤most∧most≤127:=by
    obtain ⟨⟨m0,_,m2⟩,_⟩:=htops
    rcases m2 with h | ⟨k,_,_,h⟩
    · omega
    · have:=hLb k;omega
   have hleast:1≤least∧least≤128:=by
    obtain ⟨_,l1,_⟩:=htops
    rcases l1 with h | ⟨k,_,_,h,h'⟩
    · omega
    · have:=hLb k;omega
   refine .cut (fun o=>∃ o',o = .go o'∧lenL o'=n∧∀ p,0≤p→p < n→getL 0 o' p=comp n L (most-least+1).toNat most p) ?_ ?_
   · refine .loop (fun x=>x.1≤most∧0≤x.1∧lenL x.2=n∧∀ p,0≤p→p < n→getL 0 x.2 (comp n L (x.1-least+1).toNat x.1 p)=comp n L (most-least+1).toNat most p) (fun x=>x.1.toNat)
      ⟨Int.le_refl _,hmost.1,ho,fun p p0 p1=>?_⟩ ?_
     · obtain ⟨a,b⟩:=comp_bd (n:=n) (L:=L) (most-least+1).toNat most p p0 p1
       exact hgo _ a b
     rintro ⟨lev,out2⟩ ⟨v1,v0,ho2,hcomp⟩
     simp only at v1 v0 ho2 hcomp ⊢
     refine .ite (fun h=>?_) (fun h=>?_)
     · have h:least≤lev:=by simpa using h
       refine .cut (fun o=>∃ o',o = .go o'∧lenL o'=n∧∀ q,0≤q→q < n→getL 0 o' q=getL 0 out2 (sig n (fun q=>decide (lev≤L q)) q)) ?_ ?_
       · generalize hR:(fun q=>decide (lev≤L q))=R
         have hR' : ∀ q,decide (lev≤L q)=R q:=fun q=>by rw [← hR]
         refine .loop (fun x=>0≤x.1∧x.1≤n+1∧lenL x.2=n∧(x.1=0∨x.1=n+1∨R (x.1-1)=false)∧∀ q,0≤q→q < n→getL 0 x.2 q=if q < x.1 then getL 0 out2 (sig n R q) else getL 0 out2 q) (fun x=>(n+1-x.1).toNat)
          ⟨by simp only;omega,by simp only;omega,ho2,.inl rfl,fun q q0 q1=>by simp only;rw [if_neg (by omega)]⟩ ?_
         rintro ⟨fr,o4⟩ ⟨f0,f1,ho4,hfr,hg4⟩
         simp only at f0 f1 ho4 hfr hg4 ⊢
         refine .ite (fun h2=>?_) (fun h2=>?_)
         · have h2:fr < n:=by simpa using h2
           refine .cut (fun o=>∃ e,o = .go e∧fr≤e∧e≤n∧(∀ j,fr≤j→j < e→R j=true)∧(e=n∨R e=false)) ?_ ?_
           · refine .loop (fun t=>fr≤t∧t≤n∧∀ j,fr≤j→j < t→R j=true) (fun t=>(n-t).toNat) ⟨by omega,by omega,fun j _ _=>by omega⟩ ?_
             rintro t ⟨t0,t1,ht⟩
             refine .chk (fun h3=>⟨by omega,of_decide_eq_true h3⟩) (.ite (fun h3=>?_) (fun h3=>?_))
             · have h3:t < n∧lev≤getL 0 l t:=by simpa using h3
               have h3':=h3.1
               rw [hgl t (by omega) h3.1] at h3
               refine .chk (inR64 (by omega) (by omega)) (.ret ⟨⟨by omega,by omega,fun j j0 j1=>?_⟩,by simp only;omega⟩)
               rcases Int.lt_or_eq_of_le (show j≤t by omega) with h' | rfl
               · exact ht j j0 h'
               · rw [← hR'];simpa using h3.2
             · refine .ret ⟨t,rfl,t0,t1,ht,?_⟩
               by_cases h4:t=n
               · exact .inl h4
               · refine .inr ?_
                 have h3:t < n→getL 0 l t < lev:=by simpa using h3
                 have:=h3 (by omega)
                 rw [hgl t (by omega) (by omega)] at this
                 rw [← hR'];simp;omega
           · rintro _ ⟨e,rfl,e0,e1,hrun,hend⟩
             refine .chk ⟨f0,e0,e1⟩ ?_
             obtain ⟨o5,h5,hl5,hg5⟩:=reverse_spec (s:=o4) (off:=0+fr) (n:=e-fr) (by omega) (by omega) (by omega) (by omega)
             refine .call h5 (.chk (by omega) (.chk (inR64 (by omega) (by omega)) (.ret ⟨⟨by simp only;omega,by simp only;omega,by simp only;omega,?_,fun q q0 q1=>?_⟩,by simp only;omega⟩)))
             · simp only
               rcases hend with h' | h'
               · omega
               · refine .inr (.inr ?_)
                 rw [show e+1-1=e by omega];exact h'
             · simp only
               rw [hg5 q q0 (by omega)]
               by_cases c1:fr≤q∧q < e
               · have hir:IsRun n R q fr e:=by
                  refine ⟨f0,c1.1,c1.2,e1,hrun,?_,hend⟩
                  rcases hfr with h' | h' | h'
                  · exact .inl h'
                  · omega
                  · exact .inr h'
                 rw [if_pos (by omega),if_pos (by omega),sig_run hir,hg4 _ (by omega) (by omega),if_neg (by omega)]
                 congr 1;omega
               · rw [if_neg (by omega),hg4 q q0 q1]
                 by_cases c2:q < fr
                 · rw [if_pos c2,if_pos (by omega)]
                 · rw [if_neg c2]
                   by_cases c3:q=e
                   · subst c3
                     rcases hend with h' | h'
                     · omega
                     · rw [if_pos (by omega),sig_not h']
                   · rw [if_neg (by omega)]
         · have h2 : ¬ fr < n:=by simpa using h2
           refine .ret ⟨o4,rfl,ho4,fun q q0 q1=>?_⟩
           rw [hg4 q q0 q1,if_pos (by omega)]
       · rintro _ ⟨o',rfl,hl',hg'⟩
         refine .chk (inR64 (by omega) (by omega)) (.ret ⟨⟨by simp only;omega,by simp only;omega,hl',fun p p0 p1=>?_⟩,by simp only;omega⟩)
         simp only
         obtain ⟨a,b⟩:=comp_bd (n:=n) (L:=L) (lev-1-least+1).toNat (lev-1) p p0 p1
         rw [hg' _ a b,← hcomp p p0 p1]
         rw [show (lev-least+1).toNat=(lev-1-least+1).toNat+1 by omega]
         rfl
     · have h : ¬ least≤lev:=by simpa using h
       refine .ret ⟨out2,rfl,ho2,fun p p0 p1=>?_⟩
       have:=hcomp p p0 p1
       rwa [show (lev-least+1).toNat=0 by omega] at this
   · rintro _ ⟨o',rfl,h1,h2⟩
     exact .ret ⟨h1,most,least,htops,h2⟩
theorem Tops.uniq {n:Int} {L:Int→Int} {m l m' l':Int} (hL : ∀ i,0≤L i∧L i≤127) (h:Tops n L m l) (h':Tops n L m' l'):m=m'∧l=l':=by
 obtain ⟨⟨a0,a1,a2⟩,b1,b2⟩:=h
 obtain ⟨⟨c0,c1,c2⟩,d1,d2⟩:=h'
 constructor
 · have e1:m≤m':=by
    rcases a2 with h | ⟨i,i0,i1,h⟩
    · omega
    · rw [← h];exact c1 i i0 i1
   have e2:m'≤m:=by
    rcases c2 with h | ⟨i,i0,i1,h⟩
    · omega
    · rw [← h];exact a1 i i0 i1
   omega
 · rcases b1 with h | ⟨i,i0,i1,h,ho⟩
   · rcases d1 with h' | ⟨j,j0,j1,h',ho'⟩
     · omega
     · have:=b2 j j0 j1 ho';have:=hL j;omega
   · have e1:=d2 i i0 i1 ho
     rcases d1 with h' | ⟨j,j0,j1,h',ho'⟩
     · have:=hL i;omega
     · have:=b2 j j0 j1 ho';omega
theorem visual_with {levels:List Int} (hb:lenL levels≤100000) {most least:Int} (ht:Tops (lenL levels) (fun i=>clI (getL 0 levels i)) most least) :
  Yields (order_Visual levels) fun out=>lenL out=lenL levels∧∀ p,0≤p→p < lenL levels→getL 0 out p=comp (lenL levels) (fun i=>clI (getL 0 levels i)) (most-least+1).toNat most p :=
 (visual_yields hb).mono fun out ⟨h1,m,l,h2,h3⟩=>by
  obtain ⟨rfl,rfl⟩:=Tops.uniq (fun i=>clI_bd _) h2 ht
  exact ⟨h1,h3⟩
theorem clI_id {x:Int} (h0:0≤x) (h1:x≤127):clI x=x:=by
 unfold clI imaxI iminI
 repeat' split
 all_goals omega
theorem invert_eq {l:List Int} {n:Int} (hn:lenL l=n) (hb:n≤1000000) {g:Int→Int} (h1 : ∀ i,0≤i→i < n→0≤getL 0 l i∧getL 0 l i < n∧g (getL 0 l i)=i)
  (h2 : ∀ j,0≤j→j < n→0≤g j∧g j < n∧getL 0 l (g j)=j):order_Invert l=some (mkL n g,true):=by
 have hn0:0≤n:=by rw [← hn];exact lenL_nn l
 refine Yields.eq ?_
 unfold order_Invert
 rw [hn]
 refine .chk (mkOk hn0 hb (by omega)) (.cut (fun o=>∃ x,o = .go x∧lenL x=n∧∀ j,0≤j→j < n→getL 0 x j = -1) ?_ ?_)
 · refine .loop (fun x=>0≤x.1∧x.1≤n∧lenL x.2=n∧∀ j,0≤j→j < x.1→getL 0 x.2 j = -1) (fun x=>(n-x.1).toNat) ⟨by simp only;omega,by simp only;omega,lenL_rep _ hn0,fun j _ _=>by simp only at *;omega⟩ ?_
   rintro ⟨i,x⟩ ⟨i0,i1,hx,hg⟩
   simp only at i0 i1 hx hg ⊢
   refine .ite (fun h=>?_) (fun h=>?_)
   · have h:i < n:=by simpa using h
     refine .chk ⟨i0,by omega⟩ (.chk (inR64 (by omega) (by omega)) (.ret ⟨⟨by simp only;omega,by simp only;omega,by simpa using hx,fun j j0 j1=>?_⟩,by simp only;omega⟩))
     simp only at j1 ⊢
     rw [getL_put i0 j0 (by omega)]
     split
     · rfl
     · exact hg j j0 (by omega)
   · have h : ¬ i < n:=by simpa using h
     exact .ret ⟨x,rfl,hx,fun j j0 j1=>hg j j0 (by omega)⟩
 · rintro _ ⟨x,rfl,hx,hg⟩
   show Yields (cutO _ _) _
   refine .cut (fun o=>∃ x,o = .go x∧lenL x=n∧∀ j,0≤j→j < n→getL 0 x j=g j) ?_ ?_
   · refine .loop (fun x=>0≤x.1∧x.1≤n∧lenL x.2=n∧∀ j,0≤j→j < n→getL 0 x.2 j=if g j < x.1 then g j else -1) (fun x=>(n-x.1).toNat) ⟨by simp only;omega,by simp only;omega,hx,fun j j0 j1=>by simp only;rw [hg j j0 j1,if_neg (by have:=h2 j j0 j1;omega)]⟩ ?_
     rintro ⟨v,x⟩ ⟨v0,v1,hx,hg⟩
     simp only at v0 v1 hx hg ⊢
     refine .ite (fun h=>?_) (fun h=>?_)
     · have h:v < n:=by simpa using h
       obtain ⟨e1,e2,e3⟩:=h1 v v0 h
       have hc:(if decide (getL 0 l v < 0)=true then true else decide (n≤getL 0 l v))=false:=by
        rw [decide_eq_false (by omega)];simp;omega
       have hc2:decide (0≤getL 0 x (0+getL 0 l v))=false:=by
        rw [Int.zero_add,hg _ e1 e2,e3,if_neg (by omega)];rfl
       refine .chk ⟨v0,h⟩ (.chk (fun _=>⟨e1,by omega⟩) (.ite (fun h3=>?_) (fun _=>?_)))
       · exfalso
         rw [hc] at h3
         simp only [Bool.false_eq_true,if_false] at h3
         rw [hc2] at h3;cases h3
       · refine .chk ⟨e1,by omega⟩ (.chk (inR64 (by omega) (by omega)) (.ret ⟨⟨by simp only;omega,by simp only;omega,by simpa using hx,fun j j0 j1=>?_⟩,by simp only;omega⟩))
         simp only
         rw [getL_put e1 j0 (by omega)]
         by_cases c:j=getL 0 l v
         · rw [if_pos c,c,e3,if_pos (by omega)]
         · rw [if_neg c,hg j j0 j1]
           have hne:g j≠v:=fun h=>c (by rw [← h];exact ((h2 j j0 j1).2.2).symm)
           by_cases c2:g j < v
           · rw [if_pos c2,if_pos (by omega)]
           · rw [if_neg c2,if_neg (by omega)]
     · have h : ¬ v < n:=by simpa using h
       refine .ret ⟨x,rfl,hx,fun j j0 j1=>?_⟩
       have:=h2 j j0 j1
       rw [hg j j0 j1,if_pos (by omega)]
   · rintro _ ⟨x,rfl,hx,hg⟩
     refine .ret ?_
     have:x=mkL n g:=extL 0 (by rw [hx,lenL_mk _ hn0]) fun i i0 i1=>by rw [hg i i0 (by omega),getL_mk i0 (by omega)]
     rw [this]
theorem visual_const {a:List Int} {n l:Int} (ha:lenL a=n) (hn:n≤1000) (h0:0≤l) (h1:l≤127) (hl : ∀ i,0≤i→i < n→getL 0 a i=l) :
  Yields (order_Visual a) fun v=>lenL v=n∧∀ p,0≤p→p < n→getL 0 v p=if l % 2=0 then p else n-1-p:=by
 have hn0:0≤n:=by rw [← ha];exact lenL_nn a
 have hL : ∀ i,0≤i→i < n→clI (getL 0 a i)=l:=fun i i0 i1=>by rw [hl i i0 i1,clI_id h0 h1]
 have ht:Tops (lenL a) (fun i=>clI (getL 0 a i)) (if n=0 then 0 else l) (if n=0∨l % 2=0 then 128 else l):=by
  rw [ha]
  dsimp only [Tops]
  by_cases hz:n=0
  · rw [if_pos hz,if_pos (.inl hz)]
    exact ⟨⟨by omega,fun i _ _=>by omega,.inl rfl⟩,.inl rfl,fun i _ _=>by omega⟩
  · rw [if_neg hz]
    refine ⟨⟨h0,fun i i0 i1=>by rw [hL i i0 i1];omega,.inr ⟨0,by omega,by omega,hL 0 (by omega) (by omega)⟩⟩,?_,fun i i0 i1 ho=>?_⟩
    · by_cases he:l % 2=0
      · exact .inl (if_pos (.inr he))
      · rw [if_neg (by omega)]
        exact .inr ⟨0,by omega,by omega,hL 0 (by omega) (by omega),by rw [hL 0 (by omega) (by omega)];omega⟩
    · rw [hL i i0 i1] at ho ⊢
      rw [if_neg (by omega)];omega
 refine (visual_with (by omega) ht).mono fun v ⟨h2,h3⟩=>?_
 rw [ha] at h2 h3
 refine ⟨h2,fun p p0 p1=>?_⟩
 rw [h3 p p0 p1,if_neg (by omega)]
 by_cases he:l % 2=0
 · rw [if_pos he,if_pos (.inr he),show (l-128+1).toNat=0 by omega];rfl
 · rw [if_neg he,if_neg (by omega),show (l-l+1).toNat=1 by omega]
   show sig n (fun q=>decide (l≤clI (getL 0 a q))) p=_
   have hr:IsRun n (fun q=>decide (l≤clI (getL 0 a q))) p 0 n :=
    ⟨by omega,p0,p1,by omega,fun j j0 j1=>by rw [decide_eq_true_eq,hL j j0 j1];omega,.inl rfl,.inl rfl⟩
   rw [sig_run hr];omega
def cinv (n:Int) (L:Int→Int):Nat→Int→Int→Int
 | 0,_,p=>p
 | k+1,lev,p=>cinv n L k (lev-1) (sig n (fun q=>decide (lev≤L q)) p)
theorem cinv_spec {n:Int} {L:Int→Int} : ∀ (k:Nat) (lev p:Int),0≤p→p < n →
  0≤cinv n L k lev p∧cinv n L k lev p < n∧comp n L k lev (cinv n L k lev p)=p∧cinv n L k lev (comp n L k lev p)=p
 | 0,lev,p,h0,h1=>⟨h0,h1,rfl,rfl⟩
 | k+1,lev,p,h0,h1=>by
  obtain ⟨a1,a2,a3,a4⟩:=sig_spec (R:=fun q=>decide (lev≤L q)) h0 h1
  obtain ⟨b1,b2,b3,b4⟩:=cinv_spec (n:=n) (L:=L) k (lev-1) _ a1 a2
  obtain ⟨c1,c2⟩:=comp_bd (n:=n) (L:=L) k (lev-1) p h0 h1
  obtain ⟨d1,d2,d3,d4⟩:=sig_spec (R:=fun q=>decide (lev≤L q)) c1 c2
  obtain ⟨e1,e2,e3,e4⟩:=cinv_spec (n:=n) (L:=L) k (lev-1) p h0 h1
  refine ⟨b1,b2,?_,?_⟩
  · simp only [comp,cinv]
    rw [b3,a4]
  · simp only [comp,cinv]
    rw [d4,e4]
theorem visual_perm {levels:List Int} {n:Int} (hn:lenL levels=n) (hb:n≤100000) : ∃ (v:List Int) (f g:Int→Int),order_Visual levels=some v∧lenL v=n ∧
  (∀ p,0≤p→p < n→getL 0 v p=f p∧0≤f p∧f p < n∧g (f p)=p)∧(∀ q,0≤q→q < n→0≤g q∧g q < n∧f (g q)=q):=by
 obtain ⟨v,e,l,most,least,_,hg⟩:=visual_yields (levels:=levels) (by omega)
 rw [hn] at l hg
 refine ⟨v,comp n (fun i=>clI (getL 0 levels i)) (most-least+1).toNat most,cinv n (fun i=>clI (getL 0 levels i)) (most-least+1).toNat most,e,l,fun p p0 p1=>?_,fun q q0 q1=>?_⟩
 · obtain ⟨a,b⟩:=comp_bd (n:=n) (L:=fun i=>clI (getL 0 levels i)) (most-least+1).toNat most p p0 p1
   exact ⟨hg p p0 p1,a,b,(cinv_spec _ _ p p0 p1).2.2.2⟩
 · obtain ⟨a,b,c,d⟩:=cinv_spec (n:=n) (L:=fun i=>clI (getL 0 levels i)) (most-least+1).toNat most q q0 q1
   exact ⟨a,b,c⟩
theorem inj_le : ∀ (a b:Nat) (f:Nat→Nat),(∀ i,i < a→f i < b)→(∀ i j,i < a→j < a→f i=f j→i=j)→a≤b
 | 0,b,f,_,_=>Nat.zero_le b
 | a+1,0,f,h,_=>absurd (h 0 (by omega)) (by omega)
 | a+1,b+1,f,h,hi=>by
  have:=inj_le a b (fun i=>if f i=b then f a else f i) (fun i hi'=>by
   have h1:=h i (by omega)
   have h2:=h a (by omega)
   have hne:f i≠f a:=fun e=>by have:=hi i a (by omega) (by omega) e;omega
   try simp only
   split<;>omega) (fun i j hi' hj' e=>by
   have hia:f i≠f a:=fun e=>by have:=hi i a (by omega) (by omega) e;omega
   have hja:f j≠f a:=fun e=>by have:=hi j a (by omega) (by omega) e;omega
   try simp only at e
   refine hi i j (by omega) (by omega) ?_
   split at e<;>split at e<;>omega)
  omega
theorem inj_leI {a b:Int} {f g:Int→Int} (h0:0≤b) (h : ∀ i,0≤i→i < a→0≤f i∧f i < b∧g (f i)=i):a≤b:=by
 rcases Int.lt_or_le a 0 with ha | ha
 · omega
 have:=inj_le a.toNat b.toNat (fun i=>(f i).toNat) (fun i hi=>by have:=h i (by omega) (by omega);omega) (fun i j hi hj e=>by
  have h1:=h i (by omega) (by omega)
  have h2:=h j (by omega) (by omega)
  have e:(f i).toNat=(f j).toNat:=e
  have e2:f i=f j:=by omega
  have:=h1.2.2
  rw [e2,h2.2.2] at this
  omega)
 omega
def pre (w:Int→Int):Nat→Int
 | 0=>0
 | k+1=>pre w k+w k
def preI (w:Int→Int) (i:Int):Int:=pre w i.toNat
theorem preI_zero (w:Int→Int):preI w 0=0:=rfl
theorem preI_succ {w:Int→Int} {i:Int} (h:0≤i):preI w (i+1)=preI w i+w i:=by
 unfold preI
 rw [show (i+1).toNat=i.toNat+1 by omega]
 show pre w i.toNat+w (i.toNat:Int)=_
 rw [Int.toNat_of_nonneg h]
theorem pre_mono {w:Int→Int} {n:Nat} (hw : ∀ i:Nat,i < n→1≤w i) : ∀ {j i:Nat},i≤j→j≤n→pre w i+((j:Int)-i)≤pre w j
 | 0,i,h,_=>by
  obtain rfl:i=0:=by omega
  simp
 | j+1,i,h,hj=>by
  rcases Nat.lt_or_ge j i with h' | h'
  · obtain rfl:i=j+1:=by omega
    simp
  · have:=pre_mono hw h' (by omega)
    have:=hw j (by omega)
    simp only [pre]
    omega
theorem preI_mono {w:Int→Int} {n:Int} (hw : ∀ i,0≤i→i < n→1≤w i) {i j:Int} (h0:0≤i) (h1:i≤j) (h2:j≤n):preI w i+(j-i)≤preI w j:=by
 have:=pre_mono (w:=w) (n:=n.toNat) (fun k hk=>hw k (by omega) (by omega)) (show i.toNat≤j.toNat by omega) (by omega)
 unfold preI;omega
def blk (w:Int→Int):Nat→Int→Int
 | 0,_=>0
 | k+1,x=>if pre w k≤x then k else blk w k x
theorem blk_spec {w:Int→Int} : ∀ {n:Nat} {x:Int},0≤x→x < pre w n→0≤blk w n x∧blk w n x < n∧preI w (blk w n x)≤x∧x < preI w (blk w n x+1)
 | 0,x,h0,h1=>by simp [pre] at h1;omega
 | n+1,x,h0,h1=>by
  simp only [blk]
  split
  · rename_i h
    refine ⟨by omega,by omega,?_,?_⟩
    · show pre w (n:Int).toNat≤x
      simpa using h
    · show x < pre w ((n:Int)+1).toNat
      rw [show ((n:Int)+1).toNat=n+1 by omega];exact h1
  · rename_i h
    obtain ⟨a,b,c,d⟩:=blk_spec (w:=w) (n:=n) (x:=x) h0 (by omega)
    exact ⟨a,by omega,c,d⟩
theorem blk_uniq {w:Int→Int} {n:Int} (hw : ∀ i,0≤i→i < n→1≤w i) {x i:Int} (h0:0≤i) (h1:i < n) (h2:preI w i≤x) (h3:x < preI w (i+1)):blk w n.toNat x=i:=by
 have hx0:0≤x:=by
  have:=preI_mono hw (i:=0) (j:=i) (by omega) h0 (by omega)
  rw [preI_zero] at this;omega
 have hxn:x < pre w n.toNat:=by
  have:=preI_mono hw (i:=i+1) (j:=n) (by omega) (by omega) (by omega)
  have e:preI w n=pre w n.toNat:=rfl
  omega
 obtain ⟨a,b,c,d⟩:=blk_spec hx0 hxn
 generalize blk w n.toNat x=y at *
 rcases Int.lt_trichotomy y i with h | h | h
 · have:=preI_mono hw (i:=y+1) (j:=i) (by omega) (by omega) (by omega)
   omega
 · exact h
 · have:=preI_mono hw (i:=i+1) (j:=y) (by omega) (by omega) (by omega)
   omega
structure Lie (n N:Int) (w f g:Int→Int) (c:List Int):Prop where
 len:lenL c=N
 sum:preI w n=N
 fwd : ∀ i,0≤i→i < n→∀ j,0≤j→j < w i→0≤preI (fun p=>w (f p)) (g i)+j∧preI (fun p=>w (f p)) (g i)+j < N∧getL 0 c (preI (fun p=>w (f p)) (g i)+j)=preI w i+j
theorem cells_yields {levels widths:List Int} {n:Int} (hl:lenL levels=n) (hw:lenL widths=n) (hn:n≤1000) (h12 : ∀ i,0≤i→i < n→getL 0 widths i=1∨getL 0 widths i=2)
  {v:List Int} {f g:Int→Int} (hv:order_Visual levels=some v) (hvl:lenL v=n) (hf : ∀ p,0≤p→p < n→getL 0 v p=f p∧0≤f p∧f p < n∧g (f p)=p)
  (hg : ∀ q,0≤q→q < n→0≤g q∧g q < n∧f (g q)=q) :
  Yields (order_Cells levels widths) fun r=>r.2=true∧lenL r.1=preI (fun p=>getL 0 widths (f p)) n ∧
   ∀ p,0≤p→p < n→∀ j,0≤j→j < getL 0 widths (f p)→getL 0 r.1 (preI (fun p=>getL 0 widths (f p)) p+j)=preI (getL 0 widths) (f p)+j:=by
 have hn0:0≤n:=by rw [← hl];exact lenL_nn levels
 have hpw : ∀ i,0≤i→i≤n→i≤preI (getL 0 widths) i∧preI (getL 0 widths) i≤2*i:=by
  intro i i0 i1
  obtain ⟨k,rfl⟩:=Int.eq_ofNat_of_zero_le i0
  clear i0
  induction k with
  | zero=>simp [preI_zero]
  | succ k ih =>
   have:=ih (by omega)
   rw [show (((k+1:Nat)):Int)=(k:Int)+1 by omega,preI_succ (by omega)]
   have:=h12 k (by omega) (by omega)
   omega
 have hpt : ∀ i,0≤i→i≤n→i≤preI (fun p=>getL 0 widths (f p)) i∧preI (fun p=>getL 0 widths (f p)) i≤2*i:=by
  intro i i0 i1
  obtain ⟨k,rfl⟩:=Int.eq_ofNat_of_zero_le i0
  clear i0
  induction k with
  | zero=>simp [preI_zero]
  | succ k ih =>
   have:=ih (by omega)
   rw [show (((k+1:Nat)):Int)=(k:Int)+1 by omega,preI_succ (by omega)]
   have h1:=hf k (by omega) (by omega)
   have:=h12 (f k) h1.2.1 h1.2.2.1
   omega
 unfold order_Cells
 rw [hl,hw]
 refine .ite (fun h=>by simp at h) fun _=>?_
 refine .chk (mkOk hn0 (by omega) (by omega)) (.cut (fun o=>∃ N st,o = .go (N,st)∧N=preI (getL 0 widths) n∧lenL st=n∧∀ i,0≤i→i < n→getL 0 st i=preI (getL 0 widths) i) ?_ ?_)
 · refine .loop (fun x=>0≤x.2.1∧x.2.1≤n∧x.1=preI (getL 0 widths) x.2.1∧lenL x.2.2=n∧∀ i,0≤i→i < x.2.1→getL 0 x.2.2 i=preI (getL 0 widths) i) (fun x=>(n-x.2.1).toNat)
    ⟨by simp only;omega,by simp only;omega,rfl,lenL_rep _ hn0,fun i _ _=>by simp only at *;omega⟩ ?_
   rintro ⟨N,i,st⟩ ⟨i0,i1,hN,hs,hgs⟩
   simp only at i0 i1 hN hs hgs ⊢
   refine .ite (fun h=>?_) (fun h=>?_)
   · have h:i < n:=by simpa using h
     have hwi:=h12 i i0 h
     have hb:=hpw i i0 i1
     refine .chk ⟨i0,h⟩ (.ite (fun h2=>?_) fun _=>?_)
     · exfalso;rcases hwi with e | e<;>simp [e] at h2
     · refine .chk ⟨i0,h⟩ (.chk (inR64 (by omega) (by omega)) (.chk (inR64 (by omega) (by omega)) (.ret ⟨⟨by simp only;omega,by simp only;omega,?_,by simpa using hs,fun k k0 k1=>?_⟩,by simp only;omega⟩)))
       · simp only;rw [preI_succ i0,hN]
       · simp only at k1 ⊢
         rw [getL_put i0 k0 (by omega)]
         split
         · subst_vars;rfl
         · exact hgs k k0 (by omega)
   · have h : ¬ i < n:=by simpa using h
     obtain rfl:i=n:=by omega
     exact .ret ⟨N,st,rfl,hN,hs,hgs⟩
 rintro _ ⟨N,st,rfl,hN,hsl,hsg⟩
 have hNb:=hpw n hn0 (Int.le_refl n)
 refine .chk ⟨by omega,by omega,by omega,by omega⟩ (.cut (fun o=>∃ out,o = .go out∧lenL out=preI (fun p=>getL 0 widths (f p)) n ∧
  ∀ p,0≤p→p < n→∀ j,0≤j→j < getL 0 widths (f p)→getL 0 out (preI (fun p=>getL 0 widths (f p)) p+j)=preI (getL 0 widths) (f p)+j) ?_ ?_)
 · refine .call hv ?_
   refine .loop (fun x=>0≤x.1∧x.1≤n∧lenL x.2=preI (fun p=>getL 0 widths (f p)) x.1∧∀ p,0≤p→p < x.1→∀ j,0≤j→j < getL 0 widths (f p)→getL 0 x.2 (preI (fun p=>getL 0 widths (f p)) p+j)=preI (getL 0 widths) (f p)+j) (fun x=>(n-x.1).toNat)
    ⟨by simp only;omega,by simp only;omega,by simp [preI_zero,repL],fun p _ _=>by simp only at *;omega⟩ ?_
   rintro ⟨p,out⟩ ⟨p0,p1,ho,hgo⟩
   simp only at p0 p1 ho hgo ⊢
   rw [hvl]
   refine .ite (fun h=>?_) (fun h=>?_)
   · have h:p < n:=by simpa using h
     obtain ⟨e1,e2,e3,e4⟩:=hf p p0 h
     have hw12:=h12 (f p) e2 e3
     have hT:=hpt p p0 p1
     have hS:=hpw (f p) e2 (by omega)
     refine .cut (fun o=>∃ out',o = .go out'∧lenL out'=preI (fun p=>getL 0 widths (f p)) (p+1) ∧
      ∀ q,0≤q→q < p+1→∀ j,0≤j→j < getL 0 widths (f q)→getL 0 out' (preI (fun p=>getL 0 widths (f p)) q+j)=preI (getL 0 widths) (f q)+j) ?_ ?_
     · refine .chk ⟨p0,h⟩ ?_
       rw [Int.zero_add,e1]
       refine .chk ⟨e2,e3⟩ ?_
       refine .loop (fun x=>0≤x.1∧x.1≤getL 0 widths (f p)∧lenL x.2=preI (fun p=>getL 0 widths (f p)) p+x.1 ∧
        (∀ q,0≤q→q < p→∀ j,0≤j→j < getL 0 widths (f q)→getL 0 x.2 (preI (fun p=>getL 0 widths (f p)) q+j)=preI (getL 0 widths) (f q)+j) ∧
        ∀ j,0≤j→j < x.1→getL 0 x.2 (preI (fun p=>getL 0 widths (f p)) p+j)=preI (getL 0 widths) (f p)+j) (fun x=>(getL 0 widths (f p)-x.1).toNat)
        ⟨by simp only;omega,by simp only;omega,by simp only;omega,hgo,fun j _ _=>by simp only at *;omega⟩ ?_
       rintro ⟨j,o3⟩ ⟨j0,j1,ho3,hg3,hg4⟩
       simp only at j0 j1 ho3 hg3 hg4 ⊢
       refine .ite (fun h2=>?_) (fun h2=>?_)
       · have h2:j < getL 0 widths (f p):=by simpa using h2
         rw [Int.zero_add,hsg (f p) e2 e3]
         have hlow : ∀ q,0≤q→q < p→∀ i,0≤i→i < getL 0 widths (f q)→0≤preI (fun p=>getL 0 widths (f p)) q+i∧preI (fun p=>getL 0 widths (f p)) q+i < lenL o3:=by
          intro q q0 q1 i i0 i1
          have a:=preI_mono (w:=fun p=>getL 0 widths (f p)) (n:=n) (fun k k0 k1=>by have:=hf k k0 k1;have:=h12 (f k) this.2.1 this.2.2.1;omega) (i:=q+1) (j:=p) (by omega) (by omega) (by omega)
          rw [preI_succ q0] at a
          have:=hpt q q0 (by omega)
          omega
         refine .chk ⟨e2,e3⟩ (.chk (inR64 (by omega) (by omega)) (.chk (grOk (by omega) (by omega) (by omega)) (.chk (inR64 (by omega) (by omega)) (.ret ⟨⟨by simp only;omega,by simp only;omega,by simp [ho3];omega,fun q q0 q1 i i0 i1=>?_,fun i i0 i1=>?_⟩,by simp only;omega⟩))))
         · have:=hlow q q0 q1 i i0 i1
           simp only
           rw [getL_app this.1,if_pos this.2];exact hg3 q q0 q1 i i0 i1
         · simp only at i1 ⊢
           rw [getL_app (by omega)]
           by_cases c:i < j
           · rw [if_pos (by omega)];exact hg4 i i0 c
           · rw [if_neg (by omega),getL_one (by omega)];omega
       · have h2 : ¬ j < getL 0 widths (f p):=by simpa using h2
         obtain rfl:j=getL 0 widths (f p):=by omega
         refine .ret ⟨o3,rfl,?_,fun q q0 q1 i i0 i1=>?_⟩
         · rw [preI_succ p0];exact ho3
         · rcases Int.lt_or_eq_of_le (show q≤p by omega) with h' | rfl
           · exact hg3 q q0 h' i i0 i1
           · exact hg4 i i0 i1
     · rintro _ ⟨o',rfl,h1,h2⟩
       exact .chk (inR64 (by omega) (by omega)) (.ret ⟨⟨by simp only;omega,by simp only;omega,h1,h2⟩,by simp only;omega⟩)
   · have h : ¬ p < n:=by simpa using h
     obtain rfl:p=n:=by omega
     exact .ret ⟨out,rfl,ho,hgo⟩
 · rintro _ ⟨out,rfl,h1,h2⟩
   exact .ret ⟨rfl,h1,h2⟩
theorem clone_gr {s:List Int} (h:growOk 8 (lenL s)):slices_Clone___int_int_ s=some s:=by
 unfold slices_Clone___int_int_
 rw [nilO_eq]
 · show chk (growOk 8 (lenL s)) (some s)=some s
   rw [chk_ok h]
 · intro h0
   have:s=[]:=by cases s with | nil=>rfl | cons x l=>simp [lenL] at h0;omega
   subst this
   show some []=chk (growOk 8 (lenL ([]:List Int))) (some [])
   rw [chk_ok h]
def passedB (c:Int):Bool:=c == 13 || c == 10 || c == 15 || c == 16 || c == 17 || c == 18 || c == 19 || c == 20 || c == 21 || c == 22 || c == 23
theorem passed_eq (c:Int):order_passed c=some (passedB c):=by
 unfold order_passed passedB
 generalize (c == 13)=b1;generalize (c == 10)=b2;generalize (c == 15)=b3;generalize (c == 16)=b4;generalize (c == 17)=b5;generalize (c == 18)=b6
 generalize (c == 19)=b7;generalize (c == 20)=b8;generalize (c == 21)=b9;generalize (c == 22)=b10;generalize (c == 23)=b11
 cases b1<;>try rfl
 cases b2<;>try rfl
 cases b3<;>try rfl
 cases b4<;>try rfl
 cases b5<;>try rfl
 cases b6<;>try rfl
 cases b7<;>try rfl
 cases b8<;>try rfl
 cases b9<;>try rfl
 cases b10<;>try rfl
 cases b11<;>rfl
def endF (f:Int→Int):Nat→Int→Bool
 | 0,_=>true
 | k+1,i=>if f (i+1) == 11 || f (i+1) == 12 then true else if passedB (f (i+1)) then endF f k (i+1) else false
def zF (f:Int→Int) (n i:Int):Bool:=(f i == 11 || f i == 12) || (passedB (f i) && endF f (n-1-i).toNat i)
def ResetQ (f:Int→Int) (levels:List Int) (base:Int) (q:List Int):Prop:=lenL q=lenL levels∧∀ k,0≤k→k < lenL levels→getL 0 q k=if zF f (lenL levels) k=true then base else getL 0 levels k
def RInv (f:Int→Int) (levels:List Int) (base:Int) (x:Bool × Int × List Int):Prop:=-1≤x.2.1∧x.2.1 < lenL levels∧x.1=endF f (lenL levels-1-x.2.1).toNat x.2.1∧lenL x.2.2=lenL levels ∧
 ∀ k,0≤k→k < lenL levels→getL 0 x.2.2 k=if x.2.1 < k∧zF f (lenL levels) k=true then base else getL 0 levels k
theorem RInv.start (f:Int→Int) (levels:List Int) (base:Int):RInv f levels base (true,lenL levels-1,levels):=by
 have hn:=lenL_nn levels
 refine ⟨by dsimp only;omega,by dsimp only;omega,?_,rfl,fun k k0 k1=>?_⟩
 · dsimp only
   rw [show (lenL levels-1-(lenL levels-1)).toNat=0 by omega];rfl
 · dsimp only
   rw [if_neg (by omega)]
theorem RInv.step {f:Int→Int} {levels:List Int} {base:Int} {e:Bool} {i:Int} {q:List Int} (h:RInv f levels base (e,i,q)) (h0:0≤i) :
  ((f i=11∨f i=12)→RInv f levels base (true,i-1,setL q i base))∧(¬ (f i=11∨f i=12)→passedB (f i)=true→e=true→RInv f levels base (e,i-1,setL q i base)) ∧
  (¬ (f i=11∨f i=12)→passedB (f i)=true→e=false→RInv f levels base (false,i-1,q))∧(¬ (f i=11∨f i=12)→passedB (f i)=false→RInv f levels base (false,i-1,q)):=by
 obtain ⟨i0,i1,he,hq,hg⟩:=h
 dsimp only at i0 i1 he hq hg
 have hE : ∀ b,b=(if f i == 11 || f i == 12 then true else if passedB (f i) then e else false)→b=endF f (lenL levels-1-(i-1)).toNat (i-1):=by
  intro b hb
  rw [show (lenL levels-1-(i-1)).toNat=(lenL levels-1-i).toNat+1 by omega]
  simp only [endF,show i-1+1=i by omega]
  rw [← he,hb]
 have hz:zF f (lenL levels) i=((f i == 11 || f i == 12) || (passedB (f i) && e)):=by
  simp only [zF];rw [← he]
 have hS:zF f (lenL levels) i=true→∀ k,0≤k→k < lenL levels→getL 0 (setL q i base) k=if i-1 < k∧zF f (lenL levels) k=true then base else getL 0 levels k:=by
  intro hzi k k0 k1
  rw [getL_put (by omega) k0 (by omega)]
  by_cases hk:k=i
  · subst hk;rw [if_pos rfl,if_pos ⟨by omega,hzi⟩]
  · rw [if_neg hk,hg k k0 k1]
    congr 1
    exact propext ⟨fun ⟨a,b⟩=>⟨by omega,b⟩,fun ⟨a,b⟩=>⟨by omega,b⟩⟩
 have hN:zF f (lenL levels) i=false→∀ k,0≤k→k < lenL levels→getL 0 q k=if i-1 < k∧zF f (lenL levels) k=true then base else getL 0 levels k:=by
  intro hzi k k0 k1
  rw [hg k k0 k1]
  by_cases hk:k=i
  · subst hk;rw [if_neg (by omega),if_neg (by rw [hzi];simp)]
  · congr 1
    exact propext ⟨fun ⟨a,b⟩=>⟨by omega,b⟩,fun ⟨a,b⟩=>⟨by omega,b⟩⟩
 have hcf : ¬ (f i=11∨f i=12)→(f i == 11 || f i == 12)=false:=fun hc=>by
  have h1 : ¬ f i=11:=fun h=>hc (.inl h)
  have h2 : ¬ f i=12:=fun h=>hc (.inr h)
  simp [h1,h2]
 refine ⟨fun hc=>?_,fun hc hp hee=>?_,fun hc hp hee=>?_,fun hc hp=>?_⟩
 · have hc:(f i == 11 || f i == 12)=true:=by rcases hc with hc | hc<;>simp [hc]
   exact ⟨by dsimp only;omega,by dsimp only;omega,hE _ (by rw [if_pos hc]),by simp [hq],hS (by rw [hz,hc];rfl)⟩
 · have hc:=hcf hc
   exact ⟨by dsimp only;omega,by dsimp only;omega,hE _ (by rw [if_neg (by rw [hc];simp),if_pos hp]),by simp [hq],hS (by rw [hz,hc,hp,hee];rfl)⟩
 · have hc:=hcf hc
   exact ⟨by dsimp only;omega,by dsimp only;omega,hE _ (by rw [if_neg (by rw [hc];simp),if_pos hp,hee]),hq,hN (by rw [hz,hc,hp,hee];rfl)⟩
 · have hc:=hcf hc
   exact ⟨by dsimp only;omega,by dsimp only;omega,hE _ (by rw [if_neg (by rw [hc];simp),if_neg (by rw [hp];simp)]),hq,hN (by rw [hz,hc,hp];rfl)⟩
theorem RInv.fin {f:Int→Int} {levels:List Int} {base:Int} {e:Bool} {i:Int} {q:List Int} (h:RInv f levels base (e,i,q)) (h0 : ¬ 0≤i):ResetQ f levels base q:=by
 obtain ⟨i0,i1,he,hq,hg⟩:=h
 dsimp only at i0 i1 he hq hg
 refine ⟨hq,fun k k0 k1=>?_⟩
 rw [hg k k0 k1]
 congr 1
 exact propext ⟨fun ⟨a,b⟩=>b,fun b=>⟨by omega,b⟩⟩
theorem cond_two {c:Int} : (if (c == 11)=true then true else (c == 12))=true ↔ (c=11∨c=12):=by
 by_cases h:c=11
 · simp [h]
 · simp [h]
theorem reset_yields {d:T_ucd_Data} {cls:Int→Int} (hcls : ∀ r,ucd_Class d r=some (cls r)) {r levels:List Int} (base:Int) (hl:lenL r=lenL levels) (hb:lenL levels≤100000) :
  Yields (order_Reset d r levels base) (ResetQ (fun i=>cls (getL 0 r i)) levels base):=by
 have hn:=lenL_nn levels
 unfold order_Reset
 rw [clone_gr (grOk hn (by omega) (by omega)),bindO_eq',show (!((lenL r) == (lenL levels)))=false by simp [hl],iteO_false,hl]
 refine .cut (fun o=>∃ q,o = .go q∧ResetQ (fun i=>cls (getL 0 r i)) levels base q) ?_ ?_
 · refine .chk (inR64 (by omega) (by omega)) ?_
   refine .loop (RInv (fun i=>cls (getL 0 r i)) levels base) (fun x=>(x.2.1+1).toNat) (RInv.start _ _ _) ?_
   rintro ⟨e,i,q⟩ hI
   have hi1:=hI.2.1
   have hi0:=hI.1
   dsimp only at hi0 hi1 ⊢
   refine .ite (fun h=>?_) (fun h=>.ret ⟨q,rfl,hI.fin (by simpa using h)⟩)
   have h:0≤i:=by simpa using h
   obtain ⟨s1,s2,s3,s4⟩:=hI.step h
   try dsimp only at s1 s2 s3 s4
   refine .chk ⟨h,by omega⟩ (.call (hcls _) (.ite (fun hc=>?_) (fun hc=>?_)))
   · exact .chk ⟨h,by omega⟩ (.chk (inR64 (by omega) (by omega)) (.ret ⟨s1 (cond_two.1 hc),by dsimp only;omega⟩))
   · have hc : ¬ (cls (getL 0 r i)=11∨cls (getL 0 r i)=12):=fun h'=>by rw [cond_two.2 h'] at hc;cases hc
     refine .call (passed_eq _) (.ite (fun hp=>?_) (fun hp=>?_))
     · exact .chk (inR64 (by omega) (by omega)) (.ret ⟨s4 hc (by simpa using hp),by dsimp only;omega⟩)
     · refine .ite (fun he=>?_) (fun he=>?_)
       · exact .chk ⟨h,by omega⟩ (.chk (inR64 (by omega) (by omega)) (.ret ⟨s2 hc (by simpa using hp) he,by dsimp only;omega⟩))
       · have:=s3 hc (by simpa using hp) he
         subst he
         exact .chk (inR64 (by omega) (by omega)) (.ret ⟨this,by dsimp only;omega⟩)
 · rintro o ⟨q,rfl,h1⟩
   exact .go (.ret h1)
end Go.Vx
namespace Go.Vx
set_option maxRecDepth 100000
theorem take_get {α:Type} (d:α) {l:List α} {i:Int} (h0:0≤i) (h1:i < lenL l):l.take (i+1).toNat=l.take i.toNat++[getL d l i]:=by
 have h:i.toNat < l.length:=by simp only [lenL] at h1;omega
 have e:(i+1).toNat=i.toNat+1:=by omega
 rw [e,List.take_succ_eq_append_getElem h]
 simp [getL,h]
theorem take_all {α:Type} {l:List α} {i:Int} (h:lenL l≤i):l.take i.toNat=l:=by
 simp only [lenL] at h
 exact List.take_of_length_le (by omega)
def letC (c:T_api_Cell):Int:=if c.fR=0 then 32 else c.fR
def letL (l:List T_api_Cell):List Int:=(l.filter fun c=>!(c.fW == 0)).map letC
def widL (l:List T_api_Cell):List Int:=(l.filter fun c=>!(c.fW == 0)).map (·.fW)
theorem letL_app (a b:List T_api_Cell):letL (a++b)=letL a++letL b:=by simp [letL]
theorem widL_app (a b:List T_api_Cell):widL (a++b)=widL a++widL b:=by simp [widL]
theorem letL_one0 {c:T_api_Cell} (h:c.fW=0):letL [c]=[]:=by simp [letL,h]
theorem letL_one {c:T_api_Cell} (h:c.fW≠0):letL [c]=[letC c]:=by simp [letL,h]
theorem widL_one0 {c:T_api_Cell} (h:c.fW=0):widL [c]=[]:=by simp [widL,h]
theorem widL_one {c:T_api_Cell} (h:c.fW≠0):widL [c]=[c.fW]:=by simp [widL,h]
theorem letL_len (l:List T_api_Cell):lenL (letL l)≤lenL l:=by
 simp only [letL,lenL,List.length_map]
 exact Int.ofNat_le.2 (List.length_filter_le _ _)
theorem wid_len (l:List T_api_Cell):lenL (widL l)=lenL (letL l):=by simp [letL,widL,lenL]
theorem letters_eq {r:T_api_Row} (hb:lenL r.fCells≤100000):view_letters r=some (letL r.fCells,widL r.fCells):=by
 refine Yields.eq ?_
 unfold view_letters
 have hn:=lenL_nn r.fCells
 refine .cut (fun o=>o = .go (letL r.fCells,widL r.fCells)) ?_ (fun o h=>by subst h;exact .go (.ret rfl))
 refine .loop (fun x=>0≤x.1∧x.1≤lenL r.fCells∧x.2.1=letL (r.fCells.take x.1.toNat)∧x.2.2=widL (r.fCells.take x.1.toNat)) (fun x=>(lenL r.fCells-x.1).toNat) ⟨by simp only;omega,hn,rfl,rfl⟩ ?_
 rintro ⟨v,o,w⟩ ⟨v0,v1,ho,hw⟩
 simp only at v0 v1 ho hw ⊢
 refine .ite (fun h=>?_) (fun h=>?_)
 · have h:v < lenL r.fCells:=by simpa using h
   have ht:=take_get d_api_Cell v0 h
   have hl:lenL (r.fCells.take v.toNat)≤v:=by simp only [lenL,List.length_take];omega
   have lo:=letL_len (r.fCells.take v.toNat)
   have lw:=wid_len (r.fCells.take v.toNat)
   have l0:=lenL_nn (letL (r.fCells.take v.toNat))
   rw [← ho] at lo l0 lw
   rw [← hw] at lw
   refine .chk ⟨v0,h⟩ (.ite (fun hz=>?_) (fun hz=>.ite (fun hr=>?_) (fun hr=>?_)))
   · have hz:(getL d_api_Cell r.fCells v).fW=0:=by simpa using hz
     exact .chk (inR64 (by omega) (by omega)) (.ret ⟨⟨by simp only;omega,by simp only;omega,by simp only;rw [ht,letL_app,letL_one0 hz,List.append_nil,ho],by simp only;rw [ht,widL_app,widL_one0 hz,List.append_nil,hw]⟩,by simp only;omega⟩)
   · have hz:(getL d_api_Cell r.fCells v).fW≠0:=by simpa using hz
     have hr:(getL d_api_Cell r.fCells v).fR=0:=by simpa using hr
     refine .chk (grOk (by omega) (by omega) (by omega)) (.chk (grOk (by omega) (by omega) (by omega)) (.chk (inR64 (by omega) (by omega)) (.ret ⟨⟨by simp only;omega,by simp only;omega,?_,?_⟩,by simp only;omega⟩)))
     · simp only;rw [ht,letL_app,letL_one hz,ho,letC,if_pos hr]
     · simp only;rw [ht,widL_app,widL_one hz,hw]
   · have hz:(getL d_api_Cell r.fCells v).fW≠0:=by simpa using hz
     have hr : ¬ (getL d_api_Cell r.fCells v).fR=0:=by simpa using hr
     refine .chk (grOk (by omega) (by omega) (by omega)) (.chk (grOk (by omega) (by omega) (by omega)) (.chk (inR64 (by omega) (by omega)) (.ret ⟨⟨by simp only;omega,by simp only;omega,?_,?_⟩,by simp only;omega⟩)))
     · simp only;rw [ht,letL_app,letL_one hz,ho,letC,if_neg hr]
     · simp only;rw [ht,widL_app,widL_one hz,hw]
 · have h:lenL r.fCells≤v:=by simpa using h
   refine .ret ?_
   rw [take_all h] at ho hw
   subst ho hw
   exact rfl
def gatL (l:List T_api_Row):List Int:=l.flatMap fun r=>letL r.fCells
theorem gatL_app (a b:List T_api_Row):gatL (a++b)=gatL a++gatL b:=by simp [gatL]
theorem gatL_one (r:T_api_Row):gatL [r]=letL r.fCells:=by simp [gatL]
theorem gatL_len {l:List T_api_Row} {k:Int} (hk : ∀ r∈l,lenL r.fCells≤k):lenL (gatL l)≤k*lenL l:=by
 induction l with
 | nil=>simp [gatL]
 | cons r l ih =>
  have h1:=ih (fun r' h=>hk r' (List.mem_cons_of_mem _ h))
  have h2:=hk r (List.mem_cons_self ..)
  have h3:=letL_len r.fCells
  rw [show r :: l=[r]++l from rfl,gatL_app,gatL_one,lenL_app,lenL_app,Int.mul_add]
  have:lenL [r]=1:=rfl
  rw [this];omega
theorem gather_eq {l:List T_api_Row} (hl:lenL l≤1000) (hk : ∀ r∈l,lenL r.fCells≤100):view_gather l=some (gatL l):=by
 refine Yields.eq ?_
 unfold view_gather
 have hn:=lenL_nn l
 refine .cut (fun o=>o = .go (gatL l)) ?_ (fun o h=>by subst h;exact .go (.ret rfl))
 refine .loop (fun x=>0≤x.1∧x.1≤lenL l∧x.2=gatL (l.take x.1.toNat)) (fun x=>(lenL l-x.1).toNat) ⟨by simp only;omega,hn,rfl⟩ ?_
 rintro ⟨v,o⟩ ⟨v0,v1,ho⟩
 simp only at v0 v1 ho ⊢
 refine .ite (fun h=>?_) (fun h=>?_)
 · have h:v < lenL l:=by simpa using h
   have ht:=take_get d_api_Row v0 h
   have hl:lenL (l.take v.toNat)≤v:=by simp only [lenL,List.length_take];omega
   have hr:=hk _ (getL_mem d_api_Row v0 h)
   have hg:=gatL_len (l:=l.take v.toNat) (k:=100) (fun r h=>hk r (List.mem_of_mem_take h))
   have l3:=letL_len (getL d_api_Row l v).fCells
   have l4:=lenL_nn (letL (getL d_api_Row l v).fCells)
   have l0:=lenL_nn (gatL (l.take v.toNat))
   rw [← ho] at hg l0
   refine .chk ⟨v0,h⟩ (.call (letters_eq (by omega)) (.chk (grOk (by simp only;omega) (by simp only;omega) (by omega)) (.chk (inR64 (by omega) (by omega)) (.ret ⟨⟨by simp only;omega,by simp only;omega,?_⟩,by simp only;omega⟩))))
   simp only
   rw [ht,gatL_app,gatL_one,ho]
 · have h:lenL l≤v:=by simpa using h
   refine .ret ?_
   rw [take_all h] at ho
   subst ho
   exact rfl
structure LinP (n:Int) (w:Int→Int) (f g:Int→Int) (x:T_view_Line):Prop where
 v:lenL x.fV2L=preI w n
 l:lenL x.fL2V=preI w n
 c:lenL x.fCells=preI w n
 vl : ∀ p,0≤p→p < preI w n→0≤getL 0 x.fV2L p∧getL 0 x.fV2L p < preI w n∧getL 0 x.fL2V (getL 0 x.fV2L p)=p
 lv : ∀ i,0≤i→i < preI w n→0≤getL 0 x.fL2V i∧getL 0 x.fL2V i < preI w n∧getL 0 x.fV2L (getL 0 x.fL2V i)=i
 at_ : ∀ i,0≤i→i < n→∀ j,0≤j→j < w i→getL 0 x.fL2V (preI w i+j)=preI (fun p=>w (f p)) (g i)+j
theorem preI_bd {w:Int→Int} {n:Int} (h12 : ∀ i,0≤i→i < n→w i=1∨w i=2) {i:Int} (i0:0≤i) (i1:i≤n):i≤preI w i∧preI w i≤2*i:=by
 obtain ⟨k,rfl⟩:=Int.eq_ofNat_of_zero_le i0
 clear i0
 induction k with
 | zero=>simp [preI_zero]
 | succ k ih =>
  have:=ih (by omega)
  rw [show (((k+1:Nat)):Int)=(k:Int)+1 by omega,preI_succ (by omega)]
  have:=h12 k (by omega) (by omega)
  omega
theorem lay_yields {cells:List T_api_Cell} {levels widths:List Int} {n base:Int} (hl:lenL levels=n) (hw:lenL widths=n) (hn:n≤1000) (h12 : ∀ i,0≤i→i < n→getL 0 widths i=1∨getL 0 widths i=2)
  {v:List Int} {f g:Int→Int} (hv:order_Visual levels=some v) (hvl:lenL v=n) (hf : ∀ p,0≤p→p < n→getL 0 v p=f p∧0≤f p∧f p < n∧g (f p)=p)
  (hg : ∀ q,0≤q→q < n→0≤g q∧g q < n∧f (g q)=q) (hc:lenL cells=preI (getL 0 widths) n) :
  Yields (view_lay cells levels widths base) fun x=>x.fBase=base∧LinP n (getL 0 widths) f g x:=by
 obtain ⟨⟨c,is⟩,ec,his,hcl,hcg⟩:=cells_yields hl hw hn h12 hv hvl hf hg
 simp only at his hcl hcg
 subst his
 have hn0:0≤n:=by rw [← hl];exact lenL_nn _
 generalize hW:getL 0 widths=w at *
 have hw1 : ∀ p,0≤p→p < n→1≤w p:=fun p p0 p1=>by have:=h12 p p0 p1;omega
 have hwv : ∀ p,0≤p→p < n→1≤w (f p):=fun p p0 p1=>by
  obtain ⟨_,b,c,_⟩:=hf p p0 p1
  exact hw1 _ b c
 let F:Int→Int:=fun x=>preI w (f (blk (fun p=>w (f p)) n.toNat x))+(x-preI (fun p=>w (f p)) (blk (fun p=>w (f p)) n.toNat x))
 let G:Int→Int:=fun y=>preI (fun p=>w (f p)) (g (blk w n.toNat y))+(y-preI w (blk w n.toNat y))
 have hF : ∀ p,0≤p→p < n→∀ j,0≤j→j < w (f p)→F (preI (fun p=>w (f p)) p+j)=preI w (f p)+j:=by
  intro p p0 p1 j j0 j1
  have e:=blk_uniq (w:=fun p=>w (f p)) hwv (x:=preI (fun p=>w (f p)) p+j) p0 p1 (by omega) (by rw [preI_succ p0];omega)
  simp only [F,e];omega
 have hG : ∀ i,0≤i→i < n→∀ j,0≤j→j < w i→G (preI w i+j)=preI (fun p=>w (f p)) (g i)+j:=by
  intro i i0 i1 j j0 j1
  have e:=blk_uniq (w:=w) hw1 (x:=preI w i+j) i0 i1 (by omega) (by rw [preI_succ i0];omega)
  simp only [G,e];omega
 have hx : ∀ x,0≤x→x < preI (fun p=>w (f p)) n→∃ p j,0≤p∧p < n∧0≤j∧j < w (f p)∧x=preI (fun p=>w (f p)) p+j:=by
  intro x x0 x1
  obtain ⟨a,b,c,d⟩:=blk_spec (w:=fun p=>w (f p)) (n:=n.toNat) x0 x1
  rw [preI_succ a] at d
  exact ⟨_,x-preI (fun p=>w (f p)) (blk (fun p=>w (f p)) n.toNat x),a,by omega,by omega,by omega,by omega⟩
 have hy : ∀ y,0≤y→y < preI w n→∃ i j,0≤i∧i < n∧0≤j∧j < w i∧y=preI w i+j:=by
  intro x x0 x1
  obtain ⟨a,b,c,d⟩:=blk_spec (w:=w) (n:=n.toNat) x0 x1
  rw [preI_succ a] at d
  exact ⟨_,x-preI w (blk w n.toNat x),a,by omega,by omega,by omega,by omega⟩
 have hS : ∀ i,0≤i→i < n→0≤preI w i∧preI w i+w i≤preI w n:=by
  intro i i0 i1
  have a:=preI_mono hw1 (i:=0) (j:=i) (by omega) i0 (by omega)
  have b:=preI_mono hw1 (i:=i+1) (j:=n) (by omega) (by omega) (by omega)
  rw [preI_zero] at a
  rw [preI_succ i0] at b
  omega
 have hT : ∀ i,0≤i→i < n→0≤preI (fun p=>w (f p)) i∧preI (fun p=>w (f p)) i+w (f i)≤preI (fun p=>w (f p)) n:=by
  intro i i0 i1
  have a:=preI_mono (w:=fun p=>w (f p)) hwv (i:=0) (j:=i) (by omega) i0 (by omega)
  have b:=preI_mono (w:=fun p=>w (f p)) hwv (i:=i+1) (j:=n) (by omega) (by omega) (by omega)
  rw [preI_zero] at a
  rw [preI_succ i0] at b
  omega
 have hFG : ∀ x,0≤x→x < preI (fun p=>w (f p)) n→0≤F x∧F x < preI w n∧G (F x)=x:=by
  intro x x0 x1
  obtain ⟨p,j,p0,p1,j0,j1,rfl⟩:=hx x x0 x1
  obtain ⟨_,b,c,d⟩:=hf p p0 p1
  have:=hS (f p) b c
  rw [hF p p0 p1 j j0 j1]
  refine ⟨by omega,by omega,?_⟩
  rw [hG (f p) b c j j0 j1,d]
 have hGF : ∀ y,0≤y→y < preI w n→0≤G y∧G y < preI (fun p=>w (f p)) n∧F (G y)=y:=by
  intro y y0 y1
  obtain ⟨i,j,i0,i1,j0,j1,rfl⟩:=hy y y0 y1
  obtain ⟨a,b,c⟩:=hg i i0 i1
  have:=hT (g i) a b
  rw [c] at this
  rw [hG i i0 i1 j j0 j1]
  refine ⟨by omega,by omega,?_⟩
  rw [hF (g i) a b j j0 (by rw [c];exact j1),c]
 have hNN:preI (fun p=>w (f p)) n=preI w n:=by
  have z1:0≤preI w n:=by
   have:=preI_mono hw1 (i:=0) (j:=n) (by omega) hn0 (by omega)
   rw [preI_zero] at this;omega
  have z2:0≤preI (fun p=>w (f p)) n:=by
   have:=preI_mono (w:=fun p=>w (f p)) hwv (i:=0) (j:=n) (by omega) hn0 (by omega)
   rw [preI_zero] at this;omega
  have a:=inj_leI (f:=F) (g:=G) z1 hFG
  have b:=inj_leI (f:=G) (g:=F) z2 hGF
  omega
 have hNb:=preI_bd h12 hn0 (Int.le_refl n)
 have hNz:0≤preI w n:=by omega
 rw [hNN] at hcl hFG hGF
 have hcF : ∀ x,0≤x→x < preI w n→getL 0 c x=F x:=by
  intro x x0 x1
  obtain ⟨p,j,p0,p1,j0,j1,rfl⟩:=hx x x0 (by omega)
  rw [hF p p0 p1 j j0 j1]
  exact hcg p p0 p1 j j0 j1
 have hk:order_Invert c=some (mkL (preI w n) G,true) :=
  invert_eq hcl (by omega) (fun i i0 i1=>by rw [hcF i i0 i1];exact hFG i i0 i1) (fun j j0 j1=>by
   obtain ⟨a,b,c⟩:=hGF j j0 j1
   exact ⟨a,b,by rw [hcF _ a b];exact c⟩)
 have hkl:lenL (mkL (preI w n) G)=preI w n:=lenL_mk _ hNz
 unfold view_lay
 refine .call ec (.call hk ?_)
 simp only
 rw [hcl]
 refine .chk (mkOk hNz (by omega) (by omega)) (.cut (fun o=>∃ y,o = .go y∧lenL y=preI w n) ?_ ?_)
 · refine .loop (fun x=>0≤x.1∧x.1≤preI w n∧lenL x.2=preI w n) (fun x=>(preI w n-x.1).toNat) ⟨by simp only;omega,hNz,lenL_rep _ hNz⟩ ?_
   rintro ⟨p,o⟩ ⟨p0,p1,ho⟩
   simp only at p0 p1 ho ⊢
   refine .ite (fun h=>?_) (fun _=>.ret ⟨_,rfl,ho⟩)
   have h:p < preI w n:=by simpa using h
   have e:=hcF p p0 h
   have e2:=hFG p p0 h
   exact .chk ⟨p0,h⟩ (.chk ⟨by omega,by omega⟩ (.chk ⟨p0,h⟩ (.chk (inR64 (by omega) (by omega)) (.ret ⟨⟨by simp only;omega,by simp only;omega,by simpa using ho⟩,by simp only;omega⟩))))
 rintro _ ⟨y,rfl,hy'⟩
 refine .go (.ret ⟨rfl,hcl,hkl,hy',fun p p0 p1=>?_,fun i i0 i1=>?_,fun i i0 i1 j j0 j1=>?_⟩)
 · simp only
   obtain ⟨a,b,c⟩:=hFG p p0 p1
   rw [hcF p p0 p1,getL_mk a b]
   exact ⟨a,b,c⟩
 · simp only
   obtain ⟨a,b,c⟩:=hGF i i0 i1
   rw [getL_mk i0 i1,hcF _ a b]
   exact ⟨a,b,c⟩
 · simp only
   have:=hS i i0 i1
   rw [getL_mk (by omega) (by omega),hG i i0 i1 j j0 j1]
end Go.Vx
namespace Go.Vx
set_option maxRecDepth 100000
theorem join_yields (r:Int) : ∃ j,ucd_Join dLoad r=some j:=by
 unfold ucd_Join
 rw [get_eq (t:=dLoad.fJoin) r (show lenL ldJoin≤100000 by decide)]
 exact ⟨_,rfl⟩
theorem mirror_yields (r:Int):Yields (ucd_Mirror dLoad r) (fun _=>True):=by
 unfold ucd_Mirror
 have hb:lenL dLoad.fMirror≤100000:=show lenL ldMirror≤100000 by decide
 generalize dLoad.fMirror=m at hb
 have hn:=lenL_nn m
 refine .cut (fun o=>o = .go ()∨∃ x,o = .out x) ?_ ?_
 · refine .loop (fun v=>0≤v∧v≤lenL m) (fun v=>(lenL m-v).toNat) ⟨by omega,hn⟩ ?_
   rintro v ⟨v0,v1⟩
   refine .ite (fun h=>?_) (fun _=>.ret (.inl rfl))
   have h:v < lenL m:=by simpa using h
   exact .chk ⟨v0,h⟩ (.ite (fun _=>.ret (.inr ⟨_,rfl⟩)) (fun _=>.ite (fun _=>.ret (.inr ⟨_,rfl⟩)) (fun _=>.chk (inR64 (by omega) (by omega)) (.ret ⟨⟨by omega,by omega⟩,by dsimp only;omega⟩))))
 · rintro o (rfl | ⟨x,rfl⟩)
   · exact .go (.ret trivial)
   · exact .out trivial
theorem smirror_yields (r l:Int) (b:Bool):Yields (shape_Mirror dLoad r l b) (fun _=>True):=by
 unfold shape_Mirror
 exact .ite (fun _=>.ret trivial) (fun _=>.bind _ (mirror_yields r) fun _ _=>.ret trivial)
theorem shape_yields (r w:Int):Yields (ucd_Shape dLoad r w) (fun _=>True):=by
 unfold ucd_Shape
 refine .ite (fun _=>.ret trivial) (fun hw=>?_)
 have hw:0≤w∧w≤3:=by
  by_cases h1:w < 0
  · simp [h1] at hw
  · by_cases h2:3 < w
    · simp [h2] at hw
    · omega
 have hb:lenL dLoad.fForms≤100000:=show lenL ldForms≤100000 by decide
 have ha : ∀ v,0≤v→v < lenL dLoad.fForms→0≤(getL d_ucd_Form dLoad.fForms v).fAt∧(getL d_ucd_Form dLoad.fForms v).fAt≤100000:=fun v v0 v1=>by
  have:=allI (show ldForms.all (fun x=>decide (0≤x.fAt) && decide (x.fAt≤100000))=true by kernel_rfl) _ (getL_mem d_ucd_Form v0 v1)
  exact (by simpa using this:0≤(getL d_ucd_Form ldForms v).fAt∧(getL d_ucd_Form ldForms v).fAt≤100000)
 generalize dLoad.fForms=m at hb ha
 have hn:=lenL_nn m
 refine .cut (fun o=>o = .go ()∨∃ x,o = .out x) ?_ ?_
 · refine .loop (fun v=>0≤v∧v≤lenL m) (fun v=>(lenL m-v).toNat) ⟨by omega,hn⟩ ?_
   rintro v ⟨v0,v1⟩
   refine .ite (fun h=>?_) (fun _=>.ret (.inl rfl))
   have h:v < lenL m:=by simpa using h
   have hv:=ha v v0 h
   exact .chk ⟨v0,h⟩ (.ite (fun _=>.chk (inR64 (by omega) (by omega)) (.ret ⟨⟨by omega,by omega⟩,by dsimp only;omega⟩)) (fun _ =>
    .ite (fun _=>.chk (inR64 (by omega) (by omega)) (.ret (.inr ⟨_,rfl⟩))) (fun _=>.ite (fun _=>.chk (inR64 (by omega) (by omega)) (.ret (.inr ⟨_,rfl⟩))) (fun _=>.ret (.inr ⟨_,rfl⟩)))))
 · rintro o (rfl | ⟨x,rfl⟩)
   · exact .go (.ret trivial)
   · exact .out trivial
theorem before_yields {r:List Int} {i:Int} (hb:lenL r≤100000):Yields (shape_Before dLoad r i) (fun k=>k < lenL r):=by
 have hn:=lenL_nn r
 unfold shape_Before
 refine .ite (fun _=>.ret (by omega)) (fun h=>?_)
 have h:0≤i∧i < lenL r:=by
  by_cases h1:i < 0
  · simp [h1] at h
  · have:i < lenL r:=by simpa [h1] using h
    omega
 refine .cut (fun o=>o = .go ()∨∃ x,o = .out x∧x < lenL r) ?_ ?_
 · refine .chk (inR64 (by omega) (by omega)) ?_
   refine .loop (fun v=>-1≤v∧v < lenL r) (fun v=>(v+1).toNat) ⟨by omega,by omega⟩ ?_
   rintro v ⟨v0,v1⟩
   refine .ite (fun h=>?_) (fun _=>.ret (.inl rfl))
   have h:0≤v:=by simpa using h
   obtain ⟨j,hj⟩:=join_yields (getL 0 r v)
   exact .chk ⟨h,v1⟩ (.call hj (.ite (fun _=>.ret (.inr ⟨_,rfl,v1⟩)) (fun _=>.chk (inR64 (by omega) (by omega)) (.ret ⟨⟨by omega,by omega⟩,by dsimp only;omega⟩))))
 · rintro o (rfl | ⟨x,rfl,hx⟩)
   · exact .go (.ret (by omega))
   · exact .out hx
theorem after_yields {r:List Int} {i:Int} (hb:lenL r≤100000):Yields (shape_After dLoad r i) (fun k=>k < lenL r):=by
 have hn:=lenL_nn r
 unfold shape_After
 refine .ite (fun _=>.ret (by omega)) (fun h=>?_)
 have h:0≤i∧i < lenL r:=by
  by_cases h1:i < 0
  · simp [h1] at h
  · have:i < lenL r:=by simpa [h1] using h
    omega
 refine .cut (fun o=>o = .go ()∨∃ x,o = .out x∧x < lenL r) ?_ ?_
 · refine .chk (inR64 (by omega) (by omega)) ?_
   refine .loop (fun v=>0≤v∧v≤lenL r) (fun v=>(lenL r-v).toNat) ⟨by omega,by omega⟩ ?_
   rintro v ⟨v0,v1⟩
   refine .ite (fun h=>?_) (fun _=>.ret (.inl rfl))
   have h:v < lenL r:=by simpa using h
   obtain ⟨j,hj⟩:=join_yields (getL 0 r v)
   exact .chk ⟨v0,h⟩ (.call hj (.ite (fun _=>.ret (.inr ⟨_,rfl,h⟩)) (fun _=>.chk (inR64 (by omega) (by omega)) (.ret ⟨⟨by omega,by omega⟩,by dsimp only;omega⟩))))
 · rintro o (rfl | ⟨x,rfl,hx⟩)
   · exact .go (.ret (by omega))
   · exact .out hx
theorem ifY {α:Type} {c:Bool} {x y:Option α} {Q:α→Prop} (hx:Yields x Q) (hy:Yields y Q):Yields (if c=true then x else y) Q:=by cases c<;>assumption
theorem forms1_yields {r:List Int} {at':Int} (side:Int) (m:List (Int × Int)) (h1:at' < lenL r):Yields (shape_Forms_1 at' side m dLoad r) (fun _=>True):=by
 unfold shape_Forms_1
 refine .chk (fun h=>⟨by simpa using h,h1⟩) ?_
 obtain ⟨j,hj⟩:=join_yields (getL 0 r at')
 refine .bind (fun _=>True) (ifY ⟨j,hj,trivial⟩ (.ret trivial)) fun _ _=>.ret trivial
theorem forms_yields {r:List Int} (hb:lenL r≤100000):Yields (shape_Forms dLoad r) (fun f=>lenL f=lenL r):=by
 have hn:=lenL_nn r
 unfold shape_Forms
 refine .call rfl (.chk (mkOk hn (by omega) (by omega)) (.cut (fun o=>∃ q,o = .go q∧lenL q=lenL r) ?_ ?_))
 · refine .loop (fun x=>0≤x.1∧x.1≤lenL r∧lenL x.2=lenL r) (fun x=>(lenL r-x.1).toNat) ⟨by dsimp only;omega,hn,lenL_rep _ hn⟩ ?_
   rintro ⟨v,o⟩ ⟨v0,v1,ho⟩
   dsimp only at v0 v1 ho ⊢
   refine .ite (fun h=>?_) (fun _=>.ret ⟨_,rfl,ho⟩)
   have h:v < lenL r:=by simpa using h
   refine .bind _ (forms1_yields 1 _ h) fun a _=>.bind (fun k=>k < lenL r) (ifY (before_yields hb) (.ret (by omega))) fun b hk=>.bind _ (ifY (forms1_yields 2 _ hk) (.ret trivial)) fun c _=>?_
   refine .bind _ (forms1_yields 2 _ h) fun a _=>.bind (fun k=>k < lenL r) (ifY (after_yields hb) (.ret (by omega))) fun b hk=>.bind _ (ifY (forms1_yields 1 _ hk) (.ret trivial)) fun c _=>?_
   refine .ite (fun _=>?_) (fun _=>.ite (fun _=>?_) (fun _=>.ite (fun _=>?_) (fun _=>?_))) <;>
    exact .chk ⟨v0,h⟩ (.chk (inR64 (by omega) (by omega)) (.ret ⟨⟨by dsimp only;omega,by dsimp only;omega,by simpa using ho⟩,by dsimp only;omega⟩))
 · rintro _ ⟨q,rfl,hq⟩
   exact .go (.ret hq)
theorem lig_yields (x a:Int) (f:Bool):Yields (ucd_Ligature x a f) (fun _=>True):=by
 unfold ucd_Ligature
 refine .ite (fun _=>.ret trivial) (fun _=>.ite (fun _=>.ite (fun _=>.chk (by decide) (.ret trivial)) (fun _=>.ret trivial)) (fun _=>.ite (fun _=>.ite (fun _=>.chk (by decide) (.ret trivial)) (fun _=>.ret trivial)) (fun _ =>
  .ite (fun _=>.ite (fun _=>.chk (by decide) (.ret trivial)) (fun _=>.ret trivial)) (fun _=>.ite (fun _=>.ite (fun _=>.chk (by decide) (.ret trivial)) (fun _=>.ret trivial)) (fun _=>.ret trivial)))))
theorem glyphs_yields {r ls:List Int} (b:Bool) (hb:lenL r≤100000):Yields (shape_Glyphs dLoad r ls b) (fun g=>lenL g=lenL r):=by
 have hn:=lenL_nn r
 unfold shape_Glyphs
 refine .call (clone_gr (grOk hn (by omega) (by omega))) (.ite (fun _=>.ret rfl) (fun hl=>?_))
 have hl:lenL r=lenL ls:=by simpa using hl
 refine .bind _ (forms_yields hb) fun f hf=>.cut (fun o=>∃ q,o = .go q∧lenL q=lenL r) ?_ ?_
 · refine .loop (fun x=>0≤x.1∧x.1≤lenL r∧lenL x.2=lenL r) (fun x=>(lenL r-x.1).toNat) ⟨by dsimp only;omega,hn,rfl⟩ ?_
   rintro ⟨v,o⟩ ⟨v0,v1,ho⟩
   dsimp only at v0 v1 ho ⊢
   refine .ite (fun h=>?_) (fun _=>.ret ⟨_,rfl,ho⟩)
   have h:v < lenL r:=by simpa using h
   refine .cut (fun o=>∃ q,o = .go q∧lenL q=lenL r) ?_ ?_
   · refine .cut (fun o=>∃ q,o = .go q∧lenL q=lenL r) ?_ ?_
     · exact .chk ⟨v0,h⟩ (.chk ⟨v0,by omega⟩ (.bind _ (shape_yields _ _) fun _ _=>.chk ⟨v0,h⟩ (.ret ⟨_,rfl,by simpa using ho⟩)))
     · rintro _ ⟨q,rfl,hq⟩
       exact .go (.chk ⟨v0,h⟩ (.ite (fun _=>.chk ⟨v0,by omega⟩ (.bind _ (smirror_yields _ _ _) fun _ _=>.chk ⟨v0,h⟩ (.ret ⟨_,rfl,by simpa using hq⟩))) (fun _=>.ret ⟨_,rfl,hq⟩)))
   · rintro _ ⟨q,rfl,hq⟩
     exact .go (.chk (inR64 (by omega) (by omega)) (.ret ⟨⟨by dsimp only;omega,by dsimp only;omega,hq⟩,by dsimp only;omega⟩))
 · rintro _ ⟨q0,rfl,hq0⟩
   refine .go (.cut (fun o=>∃ q,o = .go q∧lenL q=lenL r) ?_ ?_)
   · refine .loop (fun x=>0≤x.1∧x.1≤lenL r∧lenL x.2=lenL r) (fun x=>(lenL r-x.1).toNat) ⟨by dsimp only;omega,hn,hq0⟩ ?_
     rintro ⟨v,o⟩ ⟨v0,v1,ho⟩
     dsimp only at v0 v1 ho ⊢
     refine .ite (fun h=>?_) (fun _=>.ret ⟨_,rfl,ho⟩)
     have h:v < lenL r:=by simpa using h
     refine .chk ⟨v0,h⟩ (.bind _ (after_yields hb) fun k hk=>.ite (fun _=>.chk (inR64 (by omega) (by omega)) (.ret ⟨⟨by dsimp only;omega,by dsimp only;omega,ho⟩,by dsimp only;omega⟩)) (fun hc=>?_))
     have k0:0≤k:=by
      by_cases h1:getL 0 r v=1604
      · simpa [h1] using hc
      · simp [h1] at hc
     refine .chk ⟨v0,by omega⟩ (.chk (fun _=>⟨v0,by omega⟩) (.chk ⟨k0,hk⟩ (.bind _ (lig_yields _ _ _) fun _ _=>.ite (fun _=>.chk ⟨v0,h⟩ (.chk ⟨k0,hk⟩ (.chk (inR64 (by omega) (by omega)) (.ret ⟨⟨by dsimp only;omega,by dsimp only;omega,by simpa using ho⟩,by dsimp only;omega⟩))))
      (fun _=>.chk (inR64 (by omega) (by omega)) (.ret ⟨⟨by dsimp only;omega,by dsimp only;omega,ho⟩,by dsimp only;omega⟩)))))
   · rintro _ ⟨q,rfl,hq⟩
     exact .go (.ret hq)
end Go.Vx
