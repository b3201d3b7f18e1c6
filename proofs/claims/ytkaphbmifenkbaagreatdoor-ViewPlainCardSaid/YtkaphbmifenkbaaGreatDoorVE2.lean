/- The machine of embeddings: its steps, its runs, its sequences (the texts of EmbedOnce). No conditions. -/
import Derived.Test.YtkaphbmifenkbaaGreatDoorVE1
set_option linter.all false
namespace Go.Vx
set_option maxRecDepth 100000
section
abbrev Mch:=T_embed_machine
abbrev Sts:=T_embed_status
def lastS (o:List Sts):Sts:=getL d_embed_status o (lenL o-1)
def initS (o:List Sts):List Sts:=subL o 0 (lenL o-1)
def takeM (m:Mch) (i:Int):Mch :=
 let s:=lastS m.fopen.fl
 { m with frun:={ m.frun with fLevels:=setL m.frun.fLevels i s.flevel,fClasses:=if s.foverride=14 then m.frun.fClasses else setL m.frun.fClasses i s.foverride } }
def removeM (m:Mch) (i:Int):Mch :=
 { m with frun:={ m.frun with fLevels:=setL m.frun.fLevels i (lastS m.fopen.fl).flevel,fRemoved:=setL m.frun.fRemoved i true } }
def upL (x:Int) (odd:Bool):Int:=if ((Int.tmod (x+1) 2 == 1) == odd)=true then x+1 else x+2
def mayM (m:Mch) (odd:Bool):Bool:=decide (upL (lastS m.fopen.fl).flevel odd≤125) && m.fisolates == 0 && m.fembeddings == 0
def pushM (m:Mch) (s:Sts):Mch:={ m with fopen:=⟨m.fopen.fl++[s]⟩ }
def embedC (m:Mch) (odd:Bool) (ov:Int):Mch :=
 if mayM m odd=true then pushM m ⟨upL (lastS m.fopen.fl).flevel odd,ov,false⟩
 else if m.fisolates=0 then { m with fembeddings:=m.fembeddings+1 } else m
def embedM (m:Mch) (i c:Int):Mch:=embedC (removeM m i) (c == 17 || c == 18) (if c=18 then 2 else if c=16 then 1 else 14)
def isolateC (m:Mch) (odd:Bool):Mch :=
 if mayM m odd=true then pushM { m with fvalid:=m.fvalid+1 } ⟨upL (lastS m.fopen.fl).flevel odd,14,true⟩
 else { m with fisolates:=m.fisolates+1 }
def isolateM (m:Mch) (i:Int) (odd:Bool):Mch:=isolateC (takeM m i) odd
def popI:Nat→List Sts→List Sts
 | 0,o=>o
 | n+1,o=>if (lastS o).fisolate=true then o else popI n (initS o)
def endIsoM (m:Mch):Mch :=
 if 0 < m.fisolates then { m with fisolates:=m.fisolates-1 }
 else if m.fvalid=0 then m
 else { m with fopen:=⟨initS (popI m.fopen.fl.length m.fopen.fl)⟩,fembeddings:=0,fvalid:=m.fvalid-1 }
def endEmbM (m:Mch):Mch :=
 if 0 < m.fisolates then m
 else if 0 < m.fembeddings then { m with fembeddings:=m.fembeddings-1 }
 else if (lastS m.fopen.fl).fisolate=false∧2≤lenL m.fopen.fl then { m with fopen:=⟨initS m.fopen.fl⟩ } else m
def cntI:List Sts→Nat
 | []=>0
 | s :: r=>(if s.fisolate=true then 1 else 0)+cntI r
theorem cntI_app (a b:List Sts):cntI (a++b)=cntI a+cntI b:=by
 induction a with
 | nil=>simp [cntI]
 | cons s r ih=>simp only [List.cons_append,cntI,ih];omega
theorem split_last {o:List Sts} (h:0 < lenL o):o=initS o++[lastS o]:=by
 refine extL d_embed_status ?_ fun i i0 i1=>?_
 · rw [lenL_app,show lenL (initS o)=lenL o-1 by unfold initS;rw [lenL_sub (by omega) (by omega) (by omega)];omega];simp
 · have hl:lenL (initS o)=lenL o-1:=by unfold initS;rw [lenL_sub (by omega) (by omega) (by omega)];omega
   rw [getL_app i0]
   by_cases hi:i < lenL (initS o)
   · rw [if_pos hi];unfold initS;rw [getL_sub (by omega) i0 (by omega),Int.zero_add]
   · rw [if_neg hi]
     have e:i=lenL o-1:=by omega
     subst e
     rw [hl,Int.sub_self];rfl
theorem lenL_init {o:List Sts} (h:0 < lenL o):lenL (initS o)=lenL o-1:=by
 unfold initS;rw [lenL_sub (by omega) (by omega) (by omega)];omega
structure Good (l mt:List Int) (b v:Int) (m:Mch):Prop where
 hl:m.fl=l
 hm:m.fmatch=mt
 hb:m.fbase=b
 n1:lenL m.frun.fLevels=lenL l
 n2:lenL m.frun.fClasses=lenL l
 n3:lenL m.frun.fRemoved=lenL l
 o0:0 < lenL m.fopen.fl
 o1:lenL m.fopen.fl≤v+1
 is:0≤m.fisolates∧m.fisolates≤v
 em:0≤m.fembeddings∧m.fembeddings≤v
 va:m.fvalid=(cntI m.fopen.fl:Nat)
 b0:(getL d_embed_status m.fopen.fl 0).fisolate=false
 lv : ∀ j,0≤j→j < lenL m.fopen.fl→0≤(getL d_embed_status m.fopen.fl j).flevel∧(getL d_embed_status m.fopen.fl j).flevel≤125
theorem ss_last_eq {o:List Sts} (h0:0 < lenL o) (h:lenL o < 1000000):ss_last ⟨o⟩=some (lastS o):=by
 unfold ss_last
 rw [chk_ok (inR64 (by simp only;omega) (by simp only;omega)),chk_ok ⟨by simp only;omega,by simp only;omega⟩];rfl
theorem ss_pop_eq {o:List Sts} (h0:0 < lenL o) (h:lenL o < 1000000):ss_pop ⟨o⟩=some ⟨initS o⟩:=by
 unfold ss_pop
 rw [chk_ok (inR64 (by simp only;omega) (by simp only;omega)),chk_ok ⟨by omega,by simp only;omega,by simp only;omega⟩]
 simp [initS]
theorem ss_push_eq {o:List Sts} {s:Sts} (h:lenL o < 1000000):ss_push ⟨o⟩ s=some ⟨o++[s]⟩:=by
 have:=lenL_nn o
 unfold ss_push
 rw [chk_ok (grOk (by simp only;omega) (by simp only;omega) (by omega))]
variable {l mt:List Int} {b v:Int} {m:Mch}
theorem take_eq (hb:lenL l≤100000) (G:Good l mt b v m) {i:Int} (i0:0≤i) (i1:i < lenL l) (hv:v≤lenL l):m_take m i=some (takeM m i):=by
 obtain ⟨ml,mm,mb,⟨a1,a2,a3⟩,⟨o⟩,is,em,va⟩:=m
 have n1:lenL a1=lenL l:=G.n1
 have n2:lenL a2=lenL l:=G.n2
 have o0:0 < lenL o:=G.o0
 have o1:lenL o≤v+1:=G.o1
 unfold m_take
 simp only [ss_last_eq o0 (show lenL o < 1000000 by omega)]
 show (chk _ _)=_
 rw [chk_ok ⟨i0,by omega⟩]
 by_cases h:(lastS o).foverride=14
 · have e:(!((lastS o).foverride == 14))=false:=by simp [h]
   rw [e]
   simp [takeM,h,iteO]
 · have e:(!((lastS o).foverride == 14))=true:=by simp [h]
   rw [e]
   show chk _ _=_
   rw [chk_ok ⟨i0,by omega⟩]
   simp [takeM,h]
theorem remove_eq (hb:lenL l≤100000) (G:Good l mt b v m) {i:Int} (i0:0≤i) (i1:i < lenL l) (hv:v≤lenL l):m_remove m i=some (removeM m i):=by
 obtain ⟨ml,mm,mb,⟨a1,a2,a3⟩,⟨o⟩,is,em,va⟩:=m
 have n1:lenL a1=lenL l:=G.n1
 have n3:lenL a3=lenL l:=G.n3
 have o0:0 < lenL o:=G.o0
 have o1:lenL o≤v+1:=G.o1
 unfold m_remove
 simp only [ss_last_eq o0 (show lenL o < 1000000 by omega)]
 show (chk _ _)=_
 rw [chk_ok ⟨i0,by omega⟩,chk_ok ⟨i0,by omega⟩]
 rfl
theorem next_eq (hb:lenL l≤100000) (G:Good l mt b v m) (hv:v≤lenL l) (odd:Bool):m_next m odd=some (upL (lastS m.fopen.fl).flevel odd,mayM m odd):=by
 obtain ⟨ml,mm,mb,⟨a1,a2,a3⟩,⟨o⟩,is,em,va⟩:=m
 have o0:0 < lenL o:=G.o0
 have o1:lenL o≤v+1:=G.o1
 have lv:0≤(lastS o).flevel∧(lastS o).flevel≤125:=G.lv (lenL o-1) (by omega) (show lenL o-1 < lenL o by omega)
 unfold m_next
 simp only [ss_last_eq o0 (show lenL o < 1000000 by omega)]
 show (chk _ _)=_
 rw [chk_ok (inR64 (by omega) (by omega))]
 show (chk _ _)=_
 rw [chk_ok (by decide)]
 by_cases h:((Int.tmod ((lastS o).flevel+1) 2 == 1) == odd)=true
 · have e:(!((Int.tmod ((lastS o).flevel+1) 2 == 1) == odd))=false:=by rw [h];rfl
   simp only [e]
   show some _=_
   simp only [upL,mayM,h,if_true]
   congr 2
   cases decide ((lastS o).flevel+1≤125)<;>cases (is == 0)<;>cases (em == 0)<;>rfl
 · have h:((Int.tmod ((lastS o).flevel+1) 2 == 1) == odd)=false:=by simpa using h
   have e:(!((Int.tmod ((lastS o).flevel+1) 2 == 1) == odd))=true:=by rw [h];rfl
   simp only [e]
   show (chk _ _)=_
   rw [chk_ok (inR64 (by omega) (by omega))]
   have e2:(lastS o).flevel+1+1=(lastS o).flevel+2:=by omega
   simp only [upL,mayM,h,e2,Bool.false_eq_true,if_false]
   congr 2
   cases decide ((lastS o).flevel+2≤125)<;>cases (is == 0)<;>cases (em == 0)<;>rfl
theorem upL_le {x:Int} {odd:Bool} : x+1≤upL x odd∧upL x odd≤x+2:=by unfold upL;split<;>omega
theorem embed_eq (hb:lenL l≤100000) (G:Good l mt b v m) (v0:0≤v) (v1:v < lenL l) {c:Int} : m_embed m v c=some (embedM m v c):=by
 have G2:Good l mt b v (removeM m v):=⟨G.hl,G.hm,G.hb,by simpa [removeM] using G.n1,G.n2,by simpa [removeM] using G.n3,G.o0,G.o1,G.is,G.em,G.va,G.b0,G.lv⟩
 unfold m_embed
 rw [remove_eq hb G v0 v1 (by omega)]
 show bindO (m_next (removeM m v) _) _=_
 rw [next_eq hb G2 (by omega)]
 have eo:(if (c == 17)=true then true else (c == 18))=(c == 17 || c == 18):=by cases (c == 17)<;>rfl
 rw [eo]
 show iteO (!(mayM (removeM m v) (c == 17 || c == 18))) _ _=_
 have em:=G.em
 have o1:=G.o1
 have o0:=G.o0
 by_cases h:mayM (removeM m v) (c == 17 || c == 18)=true
 · rw [h]
   refine Yields.eq ?_
   refine .ite (fun hh=>by cases hh) (fun _=>?_)
   refine .cut (fun r=>r = .go (if c=18 then 2 else if c=16 then 1 else 14)) ?_ ?_
   · refine .ite (fun h1=>.ret ?_) (fun h1=>.ite (fun h2=>.ret ?_) (fun h2=>.ret ?_))
     · rw [if_pos (by simpa using h1)]
     · rw [if_neg (by simpa using h1),if_pos (by simpa using h2)]
     · rw [if_neg (by simpa using h1),if_neg (by simpa using h2)]
   · rintro r rfl
     refine .go (.call (ss_push_eq (o:=m.fopen.fl) (by omega)) (.ret ?_))
     simp only [embedM,embedC,h,if_true]
     rfl
 · have h:mayM (removeM m v) (c == 17 || c == 18)=false:=by simpa using h
   rw [h]
   show iteO ((removeM m v).fisolates == 0) _ _=_
   simp only [embedM,embedC,h,Bool.false_eq_true,if_false]
   by_cases h2:(removeM m v).fisolates=0
   · have e:((removeM m v).fisolates == 0)=true:=by simpa using h2
     rw [e,if_pos h2]
     show chk (inR .i64 (m.fembeddings+1)) _=_
     rw [chk_ok (inR64 (show _≤m.fembeddings+1 by omega) (show m.fembeddings+1≤_ by omega))]
   · have e:((removeM m v).fisolates == 0)=false:=by simpa using h2
     rw [e,if_neg h2];rfl
theorem base_yields {l mt:List Int} {s e:Int} (hb:lenL l≤100000) (s0:0≤s) (e1:e≤lenL l) (hm:lenL mt=lenL l) (hg : ∀ i,0≤i→i < lenL l→Op l i→i < getL 0 mt i∧getL 0 mt i≤lenL l) :
  Yields (embed_base_ l mt s e) (fun r=>r=0∨r=1):=by
 unfold embed_base_
 refine .cut (fun r=>r = .go ()∨r = .out 0∨r = .out 1) ?_ (fun r hr=>?_)
 · refine .loop (fun i=>0≤i) (fun i=>(e-i).toNat) s0 ?_
   intro i i0
   refine .ite (fun h=>?_) (fun _=>.ret (.inl rfl))
   have h:i < e:=by simpa using h
   have hl:i < lenL l:=by omega
   refine .cut (fun r=>(∃ k,r = .go k∧i≤k∧k≤lenL l)∨r = .out (.out (.out 0))∨r = .out (.out (.out 1))) ?_ (fun r hr=>?_)
   · refine .chk ⟨i0,hl⟩ ?_
     refine .cut (fun r=>∃ q:Bool,r = .go q) (.ite (fun _=>.ret ⟨_,rfl⟩) (fun _=>.ret ⟨_,rfl⟩)) ?_
     rintro r ⟨q,rfl⟩
     refine .go (.ite (fun _=>.ret (.inr (.inl rfl))) (fun _=>?_))
     refine .cut (fun r=>∃ q:Bool,r = .go q) (.ite (fun _=>.ret ⟨_,rfl⟩) (fun _=>.ret ⟨_,rfl⟩)) ?_
     rintro r ⟨q,rfl⟩
     refine .go (.ite (fun _=>.ret (.inr (.inr rfl))) (fun _=>?_))
     have hop : ∀ k:Int,(getL 0 l i == k)=true→20≤k→k≤22→Op l i:=fun k hk h1 h2=>by
      have:getL 0 l i=k:=by simpa using hk
      unfold Op;omega
     refine .ite (fun h1=>?_) (fun _=>?_)
     · refine .ite (fun _=>.chk ⟨i0,by omega⟩ (.ret (.inl ?_))) (fun _=>.ret (.inl ⟨i,rfl,by omega,by omega⟩))
       obtain ⟨a,b⟩:=hg i i0 hl (hop _ h1 (by omega) (by omega))
       exact ⟨_,rfl,by omega,b⟩
     · refine .ite (fun h1=>?_) (fun _=>?_)
       · refine .ite (fun _=>.chk ⟨i0,by omega⟩ (.ret (.inl ?_))) (fun _=>.ret (.inl ⟨i,rfl,by omega,by omega⟩))
         obtain ⟨a,b⟩:=hg i i0 hl (hop _ h1 (by omega) (by omega))
         exact ⟨_,rfl,by omega,b⟩
       · refine .ite (fun h1=>.chk ⟨i0,by omega⟩ (.ret (.inl ?_))) (fun _=>.ret (.inl ⟨i,rfl,by omega,by omega⟩))
         obtain ⟨a,b⟩:=hg i i0 hl (hop _ h1 (by omega) (by omega))
         exact ⟨_,rfl,by omega,b⟩
   · rcases hr with ⟨k,rfl,k0,k1⟩ | rfl | rfl
     · exact .go (.chk (inR64 (by omega) (by omega)) (.ret ⟨by omega,by simp only;omega⟩))
     · exact .out (.inr (.inl rfl))
     · exact .out (.inr (.inr rfl))
 · rcases hr with rfl | rfl | rfl
   · exact .go (.ret (.inl rfl))
   · exact .out (.inl rfl)
   · exact .out (.inr rfl)
theorem isolate_eq (hb:lenL l≤100000) (G:Good l mt b v m) (v0:0≤v) (v1:v < lenL l) (hm:lenL mt=lenL l) (hg : ∀ i,0≤i→i < lenL l→Op l i→i < getL 0 mt i∧getL 0 mt i≤lenL l) (hO:Op l v) {c:Int} : ∃ odd,m_isolate m v c=some (isolateM m v odd):=by
 have G2:Good l mt b v (takeM m v):=⟨G.hl,G.hm,G.hb,by simpa [takeM] using G.n1,by have:=G.n2;simp only [takeM];split<;>simpa using this,G.n3,G.o0,G.o1,G.is,G.em,G.va,G.b0,G.lv⟩
 have em:=G.em
 have is:=G.is
 have o1:=G.o1
 have o0:=G.o0
 have h:Yields (m_isolate m v c) (fun r=>∃ odd,r=isolateM m v odd):=by
  unfold m_isolate
  refine .cut (fun r=>∃ odd,r = .go odd) ?_ ?_
  · refine .ite (fun _=>?_) (fun _=>.ret ⟨_,rfl⟩)
    rw [G.hm,G.hl]
    refine .chk (inR64 (by omega) (by omega)) (.chk ⟨v0,by omega⟩ (.bind _ (base_yields hb (by omega) ?_ hm hg) fun x _=>.ret ⟨_,rfl⟩))
    exact (hg v v0 v1 hO).2
  · rintro r ⟨odd,rfl⟩
    refine .go (.call (take_eq hb G v0 v1 (by omega)) (.call (next_eq hb G2 (by omega) odd) ?_))
    refine .ite (fun hh=>?_) (fun hh=>?_)
    · have hh:mayM (takeM m v) odd=false:=by simpa using hh
      refine .chk (inR64 (show _≤m.fisolates+1 by omega) (show m.fisolates+1≤_ by omega)) (.ret ⟨odd,?_⟩)
      simp only [isolateM,isolateC,hh,Bool.false_eq_true,if_false]
    · have hh:mayM (takeM m v) odd=true:=by simpa using hh
      have hva:=G.va
      have hcn:(cntI m.fopen.fl:Int)≤lenL m.fopen.fl:=by
       have : ∀ o:List Sts,cntI o≤o.length:=fun o=>by
        induction o with
        | nil=>simp [cntI]
        | cons s r ih=>simp only [cntI,List.length_cons];split<;>omega
       have:=this m.fopen.fl
       unfold lenL;omega
      refine .chk (inR64 (show _≤m.fvalid+1 by omega) (show m.fvalid+1≤_ by omega)) (.call (ss_push_eq (o:=m.fopen.fl) (by omega)) (.ret ⟨odd,?_⟩))
      simp only [isolateM,isolateC,hh,if_true]
      rfl
 obtain ⟨r,h1,odd,rfl⟩:=h
 exact ⟨odd,h1⟩
theorem cntI_split {o:List Sts} (h:0 < lenL o):cntI o=cntI (initS o)+(if (lastS o).fisolate=true then 1 else 0):=by
 have e:=split_last h
 have:=cntI_app (initS o) [lastS o]
 rw [← e] at this
 simpa [cntI] using this
end
section
variable {l mt:List Int} {b v:Int} {m:Mch}
def dS:Sts:=d_embed_status
def levsR:List Sts→List Int
 | []=>[]
 | s :: t=>if s.fisolate=true then (t.headD dS).flevel :: levsR t else levsR t
def levs (o:List Sts):List Int:=levsR o.reverse
theorem lastS_rev (o:List Sts):lastS o=o.reverse.headD dS:=by
 by_cases h:0 < lenL o
 · have e:=split_last h
   generalize initS o=p at e
   generalize hs:lastS o=s at e
   subst e
   simp
 · have:o=[]:=by
    cases o with
    | nil=>rfl
    | cons a t=>have:=lenL_nn t;simp at h;omega
   subst this
   rfl
theorem levs_push (o:List Sts) (s:Sts):levs (o++[s])=if s.fisolate=true then (lastS o).flevel :: levs o else levs o:=by
 unfold levs
 rw [List.reverse_append,lastS_rev]
 rfl
theorem levs_split {o:List Sts} (h:0 < lenL o):levs o=if (lastS o).fisolate=true then (lastS (initS o)).flevel :: levs (initS o) else levs (initS o):=by
 have e:=levs_push (initS o) (lastS o)
 rw [← split_last h] at e
 exact e
theorem get_init {o:List Sts} {j:Int} (j0:0≤j) (j1:j < lenL o-1):getL dS (initS o) j=getL dS o j:=by
 unfold initS
 rw [getL_sub (by omega) j0 (by omega),Int.zero_add]
theorem popI_spec : ∀ (n:Nat) (o:List Sts),lenL o≤n→0 < cntI o →
  (lastS (popI n o)).fisolate=true∧0 < lenL (popI n o)∧lenL (popI n o)≤lenL o∧levs (popI n o)=levs o∧cntI (popI n o)=cntI o∧∀ j,0≤j→j < lenL (popI n o)→getL dS (popI n o) j=getL dS o j:=by
 intro n
 induction n with
 | zero =>
  intro o h1 h2
  have:o=[]:=by
   cases o with
   | nil=>rfl
   | cons a t=>have:=lenL_nn t;simp at h1;omega
  subst this
  simp [cntI] at h2
 | succ n ih =>
  intro o h1 h2
  have ho:0 < lenL o:=by
   cases o with
   | nil=>simp [cntI] at h2
   | cons a t=>have:=lenL_nn t;simp;omega
  unfold popI
  split
  · rename_i h
    exact ⟨h,ho,by omega,rfl,rfl,fun j _ _=>rfl⟩
  · rename_i h
    have hl:=lenL_init ho
    have hc:=cntI_split ho
    rw [if_neg h] at hc
    have hv:=levs_split ho
    rw [if_neg h] at hv
    obtain ⟨a,b,c,d,e,f⟩:=ih (initS o) (by omega) (by omega)
    exact ⟨a,b,by omega,by rw [d,hv],by omega,fun j j0 j1=>by rw [f j j0 j1,get_init j0 (by omega)]⟩
theorem popI_loop {o:List Sts} (hn:lenL o < 1000000) (hc:0 < cntI o):Yields (loopO (fun (o1:List T_embed_status) =>
  bindO (ss_last (T_embed_status_.mk o1)) fun v1 =>
  iteO (!v1.fisolate)
   (bindO (ss_pop (T_embed_status_.mk o1)) fun v2 =>
    some (.go v2.fl))
   (some (.out (Fl.go (γ:=T_embed_machine) o1)))) o) (fun r=>r = .go (popI o.length o)):=by
 refine .loop (fun p=>lenL p≤lenL o∧0 < cntI p∧popI o.length o=popI p.length p) (fun p=>(lenL p).toNat) ⟨by omega,hc,rfl⟩ ?_
 intro p ⟨h1,h2,h3⟩
 have hp:0 < lenL p:=by
  cases p with
  | nil=>simp [cntI] at h2
  | cons a t=>have:=lenL_nn t;simp;omega
 have hl:=lenL_init hp
 refine .call (ss_last_eq hp (by omega)) (.ite (fun h=>?_) (fun h=>?_))
 · have h:(lastS p).fisolate=false:=by simpa using h
   have hs:=cntI_split hp
   rw [h,if_neg (by simp)] at hs
   refine .call (ss_pop_eq hp (by omega)) (.ret ⟨⟨by simp only;omega,by simp only;omega,?_⟩,by simp only;omega⟩)
   rw [h3]
   have e:p.length=(initS p).length+1:=by unfold lenL at hl hp;omega
   rw [e]
   show popI ((initS p).length+1) p=_
   unfold popI
   rw [h,if_neg (by simp)]
   cases (initS p).length<;>rfl
 · have h:(lastS p).fisolate=true:=by simpa using h
   refine .ret ?_
   show _=_
   rw [h3]
   have e:p.length=(initS p).length+1:=by unfold lenL at hl hp;omega
   rw [e]
   unfold popI
   rw [if_pos h]
theorem Good.cnt (G:Good l mt b v m):0≤m.fvalid∧m.fvalid≤v+1:=by
 have hva:=G.va
 have o1:=G.o1
 have : ∀ o:List Sts,cntI o≤o.length:=fun o=>by
  induction o with
  | nil=>simp [cntI]
  | cons s r ih=>simp only [cntI,List.length_cons];split<;>omega
 have:=this m.fopen.fl
 unfold lenL at o1;omega
theorem endIso_eq (hb:lenL l≤100000) (G:Good l mt b v m) (v1:v < lenL l):m_endIsolate m=some (endIsoM m):=by
 refine Yields.eq ?_
 have em:=G.em
 have is:=G.is
 have o1:=G.o1
 have o0:=G.o0
 have hv:=G.cnt
 have hva:=G.va
 unfold m_endIsolate
 refine .ite (fun h=>?_) (fun h=>.ite (fun h2=>?_) (fun h2=>?_))
 · have h:0 < m.fisolates:=by simpa using h
   refine .chk (inR64 (show _≤m.fisolates-1 by omega) (show m.fisolates-1≤_ by omega)) (.ret ?_)
   simp only [endIsoM,h,if_true]
 · have h : ¬ 0 < m.fisolates:=by simpa using h
   have h2:m.fvalid=0:=by simpa using h2
   refine .ret ?_
   simp only [endIsoM,h,h2,if_true,if_false]
 · have h : ¬ 0 < m.fisolates:=by simpa using h
   have h2 : ¬ m.fvalid=0:=by simpa using h2
   obtain ⟨a1,a2,a3,a4,a5,a6⟩:=popI_spec m.fopen.fl.length m.fopen.fl (by unfold lenL;omega) (by omega)
   refine .cut _ (popI_loop (by omega) (by omega)) ?_
   rintro r rfl
   refine .go (.call (ss_pop_eq a2 (by omega)) (.chk (inR64 (show _≤m.fvalid-1 by omega) (show m.fvalid-1≤_ by omega)) (.ret ?_)))
   simp only [endIsoM,h,h2,if_false]
theorem endEmb_eq (hb:lenL l≤100000) (G:Good l mt b v m) (v1:v < lenL l):m_endEmbedding m=some (endEmbM m):=by
 refine Yields.eq ?_
 have em:=G.em
 have is:=G.is
 have o1:=G.o1
 have o0:=G.o0
 unfold m_endEmbedding
 refine .ite (fun h=>?_) (fun h=>.ite (fun h2=>?_) (fun h2=>?_))
 · have h:0 < m.fisolates:=by simpa using h
   refine .ret ?_
   simp only [endEmbM,h,if_true]
 · have h : ¬ 0 < m.fisolates:=by simpa using h
   have h2:0 < m.fembeddings:=by simpa using h2
   refine .chk (inR64 (show _≤m.fembeddings-1 by omega) (show m.fembeddings-1≤_ by omega)) (.ret ?_)
   simp only [endEmbM,h,h2,if_true,if_false]
 · have h : ¬ 0 < m.fisolates:=by simpa using h
   have h2 : ¬ 0 < m.fembeddings:=by simpa using h2
   refine .call (ss_last_eq (o:=m.fopen.fl) o0 (by omega)) ?_
   by_cases hi:(lastS m.fopen.fl).fisolate=true
   · rw [hi]
     refine .call (b:=0) rfl (.ite (fun hh=>by cases hh) (fun _=>.ret ?_))
     simp [endEmbM,h,h2,hi]
   · have hi:(lastS m.fopen.fl).fisolate=false:=by simpa using hi
     rw [hi]
     refine .call (b:=lenL m.fopen.fl) rfl (.ite (fun hh=>?_) (fun hh=>?_))
     · have hh:2≤lenL m.fopen.fl:=by simpa using hh
       refine .call (ss_pop_eq (o:=m.fopen.fl) o0 (by omega)) (.ret ?_)
       simp [endEmbM,h,h2,hi,hh]
     · have hh : ¬ 2≤lenL m.fopen.fl:=by simpa using hh
       refine .ret ?_
       simp only [endEmbM,h,h2,hi,hh,and_false,if_false]
theorem Good.up (G:Good l mt b v m):Good l mt b (v+1) m :=
 ⟨G.hl,G.hm,G.hb,G.n1,G.n2,G.n3,G.o0,by have:=G.o1;omega,by have:=G.is;omega,by have:=G.em;omega,G.va,G.b0,G.lv⟩
theorem Good.take (G:Good l mt b v m) {i:Int} : Good l mt b v (takeM m i):=⟨G.hl,G.hm,G.hb,by simpa [takeM] using G.n1,by have:=G.n2;simp only [takeM];split<;>simpa using this,G.n3,G.o0,G.o1,G.is,G.em,G.va,G.b0,G.lv⟩
theorem Good.remove (G:Good l mt b v m) {i:Int} : Good l mt b v (removeM m i):=⟨G.hl,G.hm,G.hb,by simpa [removeM] using G.n1,G.n2,by simpa [removeM] using G.n3,G.o0,G.o1,G.is,G.em,G.va,G.b0,G.lv⟩
theorem Good.last (G:Good l mt b v m):0≤(lastS m.fopen.fl).flevel∧(lastS m.fopen.fl).flevel≤125:=G.lv _ (by have:=G.o0;omega) (by omega)
theorem Good.push (G:Good l mt b v m) {s:Sts} (h0:0≤s.flevel) (h1:s.flevel≤125) {w:Int} (hw:w=m.fvalid+if s.fisolate=true then 1 else 0):Good l mt b (v+1) (pushM { m with fvalid:=w } s):=by
 have o0:=G.o0
 have o1:=G.o1
 refine ⟨G.hl,G.hm,G.hb,G.n1,G.n2,G.n3,by simp [pushM];omega,by simp [pushM];omega,by have:=G.is;simp only [pushM];omega,by have:=G.em;simp only [pushM];omega,?_,?_,fun j j0 j1=>?_⟩
 · have:=G.va
   simp only [pushM,cntI_app,cntI]
   rw [hw]
   split<;>omega
 · simp only [pushM]
   rw [getL_app (by omega),if_pos o0];exact G.b0
 · simp only [pushM] at j1 ⊢
   rw [lenL_app] at j1
   rw [getL_app j0]
   split
   · exact G.lv j j0 (by assumption)
   · have e:j-lenL m.fopen.fl=0:=by simp at j1;omega
     rw [e];exact ⟨h0,h1⟩
theorem mayM_up {odd:Bool} (G:Good l mt b v m) (h:mayM m odd=true):0≤upL (lastS m.fopen.fl).flevel odd∧upL (lastS m.fopen.fl).flevel odd≤125∧m.fisolates=0∧m.fembeddings=0:=by
 have h1:=@upL_le (lastS m.fopen.fl).flevel odd
 have h2:=G.last
 simp only [mayM,Bool.and_eq_true,decide_eq_true_eq,beq_iff_eq] at h
 obtain ⟨⟨a,b⟩,c⟩:=h
 exact ⟨by omega,a,b,c⟩
theorem Good.embedC (G2:Good l mt b v m) {odd:Bool} {ov:Int} : Good l mt b (v+1) (embedC m odd ov):=by
 unfold Vx.embedC
 split
 · rename_i h
   obtain ⟨a,b',_,_⟩:=mayM_up G2 h
   exact G2.push (s:=⟨upL (lastS m.fopen.fl).flevel odd,ov,false⟩) (w:=m.fvalid) a b' (by simp)
 · split
   · have G3:=G2.up
     have:=G2.em
     exact ⟨G3.hl,G3.hm,G3.hb,G3.n1,G3.n2,G3.n3,G3.o0,G3.o1,G3.is,by simp only;omega,G3.va,G3.b0,G3.lv⟩
   · exact G2.up
theorem Good.isolateC (G2:Good l mt b v m) {odd:Bool} : Good l mt b (v+1) (isolateC m odd):=by
 unfold Vx.isolateC
 split
 · rename_i h
   obtain ⟨a,b',_,_⟩:=mayM_up G2 h
   exact G2.push (s:=⟨upL (lastS m.fopen.fl).flevel odd,14,true⟩) (w:=m.fvalid+1) a b' (by simp)
 · have G3:=G2.up
   have:=G2.is
   exact ⟨G3.hl,G3.hm,G3.hb,G3.n1,G3.n2,G3.n3,G3.o0,G3.o1,by simp only;omega,G3.em,G3.va,G3.b0,G3.lv⟩
theorem Good.embed (G:Good l mt b v m) {c:Int} : Good l mt b (v+1) (embedM m v c):=G.remove.embedC
theorem Good.isolate (G:Good l mt b v m) {odd:Bool} : Good l mt b (v+1) (isolateM m v odd):=G.take.isolateC
theorem Good.popped (G:Good l mt b v m) (h : ¬ m.fvalid=0) : 
  let q:=initS (popI m.fopen.fl.length m.fopen.fl)
  0 < lenL q∧lenL q≤lenL m.fopen.fl∧levs m.fopen.fl=(lastS q).flevel :: levs q∧cntI m.fopen.fl=cntI q+1∧∀ j,0≤j→j < lenL q→getL dS q j=getL dS m.fopen.fl j:=by
 have hva:=G.va
 obtain ⟨a1,a2,a3,a4,a5,a6⟩:=popI_spec m.fopen.fl.length m.fopen.fl (by unfold lenL;omega) (by omega)
 have hl:=lenL_init a2
 have hs:=levs_split a2
 have hc:=cntI_split a2
 rw [a1,if_pos rfl] at hc
 rw [a1,if_pos rfl] at hs
 refine ⟨?_,by omega,by rw [← a4];exact hs,by omega,fun j j0 j1=>by rw [get_init j0 (by omega),a6 j j0 (by omega)]⟩
 by_cases h1:lenL (popI m.fopen.fl.length m.fopen.fl)=1
 · exfalso
   have hb:=G.b0
   have h6:=a6 0 (by omega) (by omega)
   have:lastS (popI m.fopen.fl.length m.fopen.fl)=getL dS (popI m.fopen.fl.length m.fopen.fl) 0:=by unfold lastS;rw [h1];rfl
   rw [this,h6] at a1
   have:(getL dS m.fopen.fl 0).fisolate=false:=hb
   rw [this] at a1;cases a1
 · omega
theorem Good.endIso (G:Good l mt b v m):Good l mt b v (endIsoM m):=by
 unfold endIsoM
 have is:=G.is
 split
 · exact ⟨G.hl,G.hm,G.hb,G.n1,G.n2,G.n3,G.o0,G.o1,by simp only;omega,G.em,G.va,G.b0,G.lv⟩
 · split
   · exact G
   · rename_i h
     obtain ⟨a1,a2,a3,a4,a5⟩:=G.popped h
     have o1:=G.o1
     have em:=G.em
     have va:=G.va
     exact ⟨G.hl,G.hm,G.hb,G.n1,G.n2,G.n3,a1,by simp only;omega,G.is,by simp only;omega,by simp only;omega,
      (by have:=a5 0 (by omega) a1;show (getL dS _ 0).fisolate=false;rw [this];exact G.b0),fun j j0 j1=>(by
       have:=a5 j j0 j1
       show 0≤(getL dS _ j).flevel∧(getL dS _ j).flevel≤125
       rw [this];exact G.lv j j0 (by simp only at j1;omega))⟩
theorem Good.endEmb (G:Good l mt b v m):Good l mt b v (endEmbM m):=by
 unfold endEmbM
 have em:=G.em
 split
 · exact G
 · split
   · exact ⟨G.hl,G.hm,G.hb,G.n1,G.n2,G.n3,G.o0,G.o1,G.is,by simp only;omega,G.va,G.b0,G.lv⟩
   · split
     · rename_i h
       obtain ⟨h1,h2⟩:=h
       have o0:=G.o0
       have o1:=G.o1
       have hl:=lenL_init o0
       have hc:=cntI_split o0
       rw [h1,if_neg (by simp)] at hc
       have va:=G.va
       exact ⟨G.hl,G.hm,G.hb,G.n1,G.n2,G.n3,by simp only;omega,by simp only;omega,G.is,G.em,by simp only;omega,
        (by show (getL dS _ 0).fisolate=false;rw [get_init (by omega) (by omega)];exact G.b0),fun j j0 j1=>(by
         show 0≤(getL dS _ j).flevel∧(getL dS _ j).flevel≤125
         simp only at j1
         rw [get_init j0 (by omega)];exact G.lv j j0 (by omega))⟩
     · exact G
end
section
instance (l:List Int) (i:Int):Decidable (Op l i):=by unfold Op;infer_instance
def mstep (l:List Int) (v:Int) (s:List Int × (Int→Int)):List Int × (Int→Int) :=
 if Op l v then (s.1++[v],up s.2 v (lenL l))
 else if getL 0 l v=23 then
  if 0 < lenL s.1 then (subL s.1 0 (lenL s.1-1),up (up s.2 v (getL 0 s.1 (lenL s.1-1))) (getL 0 s.1 (lenL s.1-1)) v)
  else (s.1,up s.2 v (-1))
 else if getL 0 l v=11 then ([],up s.2 v (-1)) else (s.1,up s.2 v (-1))
def mst (l:List Int):Nat→List Int × (Int→Int)
 | 0=>([],fun _=>0)
 | n+1=>mstep l n (mst l n)
theorem mst_next {l:List Int} {v:Int} (v0:0≤v):mst l (v+1).toNat=mstep l v (mst l v.toNat):=by
 have e:(v+1).toNat=v.toNat+1:=by omega
 have e2:(v.toNat:Int)=v:=by omega
 rw [e]
 show mstep l (v.toNat:Int) (mst l v.toNat)=_
 rw [e2]
theorem mst_inv {l:List Int} : ∀ n:Nat,(n:Int)≤lenL l→MInv l n (mst l n).2 (mst l n).1∧lenL (mst l n).1≤n:=by
 intro n
 induction n with
 | zero=>intro _;exact ⟨MInv.zero l _,by simp [mst]⟩
 | succ n ih =>
  intro h
  obtain ⟨I,hl⟩:=ih (by omega)
  show MInv l ((n+1:Nat):Int) (mstep l n (mst l n)).2 (mstep l n (mst l n)).1∧lenL (mstep l n (mst l n)).1≤((n+1:Nat):Int)
  have e:((n+1:Nat):Int)=(n:Int)+1:=by omega
  rw [e]
  generalize mst l n=s at I hl ⊢
  have hn:=lenL_nn s.1
  unfold mstep
  split
  · rename_i hO
    exact ⟨I.push (by omega) (by omega) hO,by simp;omega⟩
  · rename_i hO
    split
    · rename_i hc
      split
      · rename_i ho
        refine ⟨I.pop (by omega) (by omega) hc ho rfl (by rw [lenL_sub (by omega) (by omega) (by omega)];omega) (fun j j0 j1=>by rw [getL_sub (by omega) j0 (by omega),Int.zero_add]),?_⟩
        simp only
        rw [lenL_sub (by omega) (by omega) (by omega)];omega
      · exact ⟨I.plain (by omega) (by omega) hO (.inl rfl),by simp only;omega⟩
    · split
      · exact ⟨I.plain (by omega) (by omega) hO (.inr rfl),by simp;omega⟩
      · exact ⟨I.plain (by omega) (by omega) hO (.inl rfl),by simp only;omega⟩
theorem match_exact {l:List Int} (hb:lenL l≤100000):Yields (embed_Match l) fun m=>lenL m=lenL l∧∀ i,0≤i→i < lenL l→getL 0 m i=(mst l (lenL l).toNat).2 i:=by
 have hn:=lenL_nn l
 unfold embed_Match
 refine .chk (mkOk hn (by omega) (by omega)) ?_
 refine .cut (fun r=>∃ m,r = .go m∧lenL m=lenL l∧∀ i,0≤i→i < lenL l→getL 0 m i=(mst l (lenL l).toNat).2 i) ?_ (fun r hr=>by
  obtain ⟨m,rfl,h⟩:=hr
  exact .go (.ret h))
 refine .loop (fun x=>0≤x.1∧x.1≤lenL l∧lenL x.2.1=lenL l∧x.2.2=(mst l x.1.toNat).1∧∀ i,0≤i→i < x.1→getL 0 x.2.1 i=(mst l x.1.toNat).2 i) (fun x=>(lenL l-x.1).toNat)
  ⟨by simp only;omega,by simp only;omega,lenL_rep _ hn,rfl,fun i i0 i1=>by simp only at i1;omega⟩ ?_
 rintro ⟨v,out,o⟩ ⟨v0,vn,hl,he,hg⟩
 simp only at v0 vn hl he hg ⊢
 refine .ite (fun h=>?_) (fun h=>?_)
 · have h:v < lenL l:=by simpa using h
   obtain ⟨I,hlo⟩:=mst_inv (l:=l) v.toNat (by omega)
   have ev:(v.toNat:Int)=v:=by omega
   rw [ev] at I hlo
   rw [← he] at I hlo
   have hst:=mst_next (l:=l) v0
   have hgs : ∀ x,∀ i,0≤i→i < v+1→getL 0 (setL out v x) i=up (mst l v.toNat).2 v x i:=fun x i i0 i1=>by
    rw [getL_put v0 i0 (by omega)]
    unfold up
    split
    · rfl
    · exact hg i i0 (by omega)
   refine .cut (fun r=>∃ out' o',r = .go (out',o')∧lenL out'=lenL l∧o'=(mstep l v (mst l v.toNat)).1∧∀ i,0≤i→i < v+1→getL 0 out' i=(mstep l v (mst l v.toNat)).2 i) ?_ (fun r hr=>by
    obtain ⟨out',o',rfl,h1,h2,h3⟩:=hr
    exact .go (.chk (inR64 (by omega) (by omega)) (.ret ⟨⟨by simp only;omega,by simp only;omega,h1,by simp only [hst];exact h2,by simp only [hst];exact h3⟩,by simp only;omega⟩)))
   refine .chk ⟨v0,h⟩ ?_
   refine .chk ⟨v0,h⟩ ?_
   have hop:Op l v ↔ ((getL 0 l v == 20)=true∨(getL 0 l v == 21)=true∨(getL 0 l v == 22)=true):=by
    simp only [beq_iff_eq,Op];omega
   refine .cut (fun r=>∃ b:Bool,r = .go b∧(b=true ↔ Op l v)) ?_ ?_
   · refine .ite (fun h1=>.ret ⟨_,rfl,by rw [hop];simp [h1]⟩) (fun h1=>?_)
     refine .ite (fun h2=>.ret ⟨_,rfl,by rw [hop];simp [h2]⟩) (fun h2=>.ret ⟨_,rfl,by rw [hop];simp [h1,h2]⟩)
   · rintro r ⟨b,rfl,hb'⟩
     refine .go ?_
     unfold mstep
     refine .ite (fun hb1=>?_) (fun hb1=>?_)
     · have hO:=hb'.1 hb1
       rw [if_pos hO]
       refine .chk ⟨v0,h⟩ (.call (si_push_eq (by omega)) (.ret ⟨_,_,rfl,by simp [hl],by simp only [he],?_⟩))
       have e:setL (setL out v (-1)) v (lenL l)=setL out v (lenL l):=by
        refine extL 0 (by simp) fun i i0 i1=>?_
        simp only [lenL_set] at i1
        rw [getL_put v0 i0 (by simpa using i1),getL_put v0 i0 (by omega),getL_put v0 i0 (by omega)]
        split<;>rfl
       rw [e]
       exact hgs _
     · have hO : ¬ Op l v:=fun hh=>by rw [hb'.2 hh] at hb1;cases hb1
       rw [if_neg hO]
       refine .ite (fun hc=>?_) (fun hc=>?_)
       · have hc:getL 0 l v=23:=by simpa using hc
         rw [if_pos hc]
         refine .call (b:=lenL o) rfl ?_
         refine .ite (fun h1=>?_) (fun h1=>?_)
         · have h1:0 < lenL o:=by simpa using h1
           obtain ⟨p0,pv,_,_⟩:=I.st (lenL o-1) (by omega) (by omega)
           rw [← he,if_pos h1]
           refine .call (si_last_eq h1 (by omega)) (.chk ⟨v0,h⟩ (.call (si_last_eq h1 (by omega)) (.chk ⟨p0,by omega⟩ (.call (si_pop_eq h1 (by omega)) (.ret ⟨_,_,rfl,by simp [hl],rfl,?_⟩)))))
           intro i i0 i1
           rw [getL_put (by omega) i0 (by simp;omega),getL_put v0 i0 (by simp;omega),getL_put v0 i0 (by omega)]
           simp only [up]
           split
           · rfl
           · split
             · rfl
             · exact hg i i0 (by omega)
         · have h1:lenL o=0:=by have:=lenL_nn o;simp at h1;omega
           rw [← he,if_neg (by omega)]
           exact .ret ⟨_,_,rfl,by simp [hl],rfl,hgs _⟩
       · rw [if_neg (by simpa using hc)]
         refine .ite (fun h1=>?_) (fun h1=>?_)
         · rw [if_pos (by simpa using h1)]
           exact .ret ⟨_,_,rfl,by simp [hl],rfl,hgs _⟩
         · rw [if_neg (by simpa using h1)]
           exact .ret ⟨_,_,rfl,by simp [hl],he,hgs _⟩
 · have h:lenL l≤v:=by simpa using h
   have e:v=lenL l:=by omega
   subst e
   exact .ret ⟨out,rfl,hl,hg⟩
theorem mst_congr {l k:List Int} (hl:lenL l=lenL k) (h : ∀ i,0≤i→i < lenL l→(Op l i ↔ Op k i)∧(getL 0 l i=23 ↔ getL 0 k i=23)∧(getL 0 l i=11 ↔ getL 0 k i=11)) : ∀ n:Nat,(n:Int)≤lenL l→mst l n=mst k n:=by
 intro n
 induction n with
 | zero=>intro _;rfl
 | succ n ih =>
  intro hn
  show mstep l n (mst l n)=mstep k n (mst k n)
  rw [ih (by omega)]
  obtain ⟨h1,h2,h3⟩:=h n (by omega) (by omega)
  unfold mstep
  simp only [h1,h2,h3,hl]
def mlev (m:Mch):List Int:=List.replicate m.fisolates.toNat (lastS m.fopen.fl).flevel++levs m.fopen.fl
theorem levs_len (o:List Sts):(levs o).length=cntI o:=by
 have h : ∀ r:List Sts,(levsR r).length=cntI r:=fun r=>by
  induction r with
  | nil=>rfl
  | cons s t ih=>unfold levsR cntI;split<;>simp [ih]<;>omega
 have h2 : ∀ r:List Sts,cntI r.reverse=cntI r:=fun r=>by
  induction r with
  | nil=>rfl
  | cons s t ih=>rw [List.reverse_cons,cntI_app,ih];simp only [cntI];omega
 unfold levs
 rw [h,h2]
variable {l mt:List Int} {b v:Int} {m:Mch}
theorem mlev_embed (G:Good l mt b v m) {odd:Bool} {ov:Int} : mlev (embedC m odd ov)=mlev m:=by
 unfold embedC
 split
 · rename_i h
   obtain ⟨_,_,hi,_⟩:=mayM_up G h
   simp only [mlev,pushM,hi,levs_push]
   rfl
 · split<;>rfl
theorem mlev_isolate (G:Good l mt b v m) {odd:Bool} : mlev (isolateC m odd)=(lastS m.fopen.fl).flevel :: mlev m:=by
 unfold isolateC
 have is:=G.is
 split
 · rename_i h
   obtain ⟨_,_,hi,_⟩:=mayM_up G h
   simp only [mlev,pushM,hi,levs_push]
   rfl
 · simp only [mlev]
   have e:(m.fisolates+1).toNat=m.fisolates.toNat+1:=by omega
   rw [e,List.replicate_succ];rfl
theorem mlev_endIso (G:Good l mt b v m):(mlev m=[]∧mlev (endIsoM m)=[])∨mlev m=(lastS (endIsoM m).fopen.fl).flevel :: mlev (endIsoM m):=by
 unfold endIsoM
 have is:=G.is
 split
 · rename_i h
   right
   simp only [mlev]
   have e:m.fisolates.toNat=(m.fisolates-1).toNat+1:=by omega
   rw [e,List.replicate_succ];rfl
 · have e:m.fisolates.toNat=0:=by omega
   split
   · rename_i h
     left
     have:=levs_len m.fopen.fl
     have va:=G.va
     have:levs m.fopen.fl=[]:=List.eq_nil_of_length_eq_zero (by omega)
     have:mlev m=[]:=by simp only [mlev,e,this];rfl
     exact ⟨this,this⟩
   · rename_i h
     right
     obtain ⟨_,_,a3,_,_⟩:=G.popped h
     simp only [mlev,e,List.replicate_zero,List.nil_append]
     exact a3
theorem mlev_endEmb (G:Good l mt b v m):mlev (endEmbM m)=mlev m:=by
 unfold endEmbM
 have is:=G.is
 split
 · rfl
 · have e:m.fisolates.toNat=0:=by omega
   split
   · rfl
   · split
     · rename_i h
       simp only [mlev,e,List.replicate_zero,List.nil_append]
       rw [levs_split G.o0,if_neg (by rw [h.1];simp)]
     · rfl
end
section
def StepM (k _mt:List Int) (b v:Int) (m m':Mch):Prop :=
 ((¬ Op k v∧getL 0 k v≠23)∧∃ c,m'=embedM m v c)∨(Op k v∧∃ odd,m'=isolateM m v odd)∨(getL 0 k v=23∧m'=takeM (endIsoM m) v)
∨((¬ Op k v∧getL 0 k v≠23)∧m'=endEmbM (removeM m v))∨(getL 0 k v=11∧m' = { m with frun:={ m.frun with fLevels:=setL m.frun.fLevels v b } })
∨((¬ Op k v∧getL 0 k v≠23)∧m'=removeM m v)∨(¬ Op k v∧getL 0 k v≠23∧m'=takeM m v)
def mch (x:List Int × List Int × Int × Int × Int × Int × List Int × List Int × List Bool × List Sts):Mch :=
 ⟨x.1,x.2.1,x.2.2.1,⟨x.2.2.2.2.2.2.1,x.2.2.2.2.2.2.2.1,x.2.2.2.2.2.2.2.2.1⟩,⟨x.2.2.2.2.2.2.2.2.2⟩,x.2.2.2.1,x.2.2.2.2.1,x.2.2.2.2.2.1⟩
theorem explicit_rule {l k:List Int} {b base:Int} (hk:embed_known l=some k) (hb:lenL k≤100000) (hp:embed_parity base=some b) (hb0:0≤b∧b≤1) (Inv:List Int→Int→Mch→Prop)
  (h0 : ∀ mt,Inv mt 0 ⟨k,mt,b,⟨repL (lenL k) 0,k,repL (lenL k) false⟩,⟨[⟨b,14,false⟩]⟩,0,0,0⟩)
  (hstep : ∀ mt v m m',0≤v→v < lenL k→Good k mt b v m→Inv mt v m→StepM k mt b v m m'→Inv mt (v+1) m') :
  Yields (embed_Explicit l base) fun r=>∃ mt m,r=m.frun∧Good k mt b (lenL k) m∧Inv mt (lenL k) m:=by
 have hn:=lenL_nn k
 unfold embed_Explicit
 refine .cut (fun r=>∃ mt,r = .go (k,k,mt,b,repL (lenL k) 0,k,repL (lenL k) false,[])∧lenL mt=lenL k∧(∀ i,0≤i→i < lenL k→Op k i→i < getL 0 mt i∧getL 0 mt i≤lenL k)) ?_ ?_
 · refine .call hk ?_
   refine .bind _ (match_yields hb) fun mt hm=>?_
   obtain ⟨hml,o,I⟩:=hm
   refine .call hp ?_
   refine .chk (mkOk hn (by omega) (by omega)) (.chk (grOk hn (by omega) (by omega)) (.chk (mkOk hn (by omega) (by omega)) (.ret ⟨mt,rfl,hml,fun i i0 i1 hO=>?_⟩)))
   rcases (I.loc i i0 i1).1 hO with h | ⟨h1,h2,_,_⟩<;>omega
 rintro r ⟨mt,rfl,hml,hg⟩
 refine .go ?_
 refine .call (b:=⟨[⟨b,14,false⟩]⟩) (by unfold ss_push;rw [chk_ok (grOk (by simp) (by simp) (by omega))];rfl) ?_
 refine .cut (fun r=>∃ x,r = .go x∧Good k mt b (lenL k) (mch x)∧Inv mt (lenL k) (mch x)) ?_ (by
  rintro r ⟨⟨A,B,x,y,z,w,L,R,C,S⟩,rfl,h1,h2⟩
  exact .go (.ret ⟨mt,_,rfl,h1,h2⟩))
 refine .loop (fun x=>0≤x.1∧x.1≤lenL k∧Good k mt b x.1 (mch x.2)∧Inv mt x.1 (mch x.2)) (fun x=>(lenL k-x.1).toNat)
  ⟨by simp only;omega,by simp only;omega,⟨rfl,rfl,rfl,lenL_rep _ hn,rfl,lenL_rep _ hn,by simp [mch],by simp [mch],by simp [mch],by simp [mch],by simp [mch,cntI],rfl,fun j j0 j1=>?_⟩,h0 mt⟩ ?_
 · have e:j=0:=by simp [mch] at j1;omega
   subst e
   show 0≤b∧b≤125
   omega
 rintro ⟨v,A,B,x,y,z,w,L,C,R,S⟩ ⟨v0,vn,G,I⟩
 simp only at v0 vn G I
 have hA:A=k:=G.hl
 have hx:x=b:=G.hb
 have n1:lenL L=lenL k:=G.n1
 refine .ite (fun h=>?_) (fun h=>?_)
 · have h:v < lenL k:=by simpa using h
   rw [hA] at G I ⊢
   refine .cut (fun r=>∃ x',r = .go x'∧Good k mt b (v+1) (mch x')∧StepM k mt b v (mch (k,B,x,y,z,w,L,C,R,S)) (mch x')) ?_ ?_
   · have ret : ∀ {γ:Type} {m':Mch},Good k mt b (v+1) m'→StepM k mt b v (mch (k,B,x,y,z,w,L,C,R,S)) m' →
      Yields (some (Fl.go (γ:=γ) (m'.fl,m'.fmatch,m'.fbase,m'.fisolates,m'.fembeddings,m'.fvalid,m'.frun.fLevels,m'.frun.fClasses,m'.frun.fRemoved,m'.fopen.fl)))
       (fun r=>∃ x',r = .go x'∧Good k mt b (v+1) (mch x')∧StepM k mt b v (mch (k,B,x,y,z,w,L,C,R,S)) (mch x')):=fun h1 h2=>.ret ⟨_,rfl,h1,h2⟩
     refine .chk ⟨v0,h⟩ ?_
     refine .cut (fun r=>∃ q:Bool,r = .go q∧(q=true→¬ Op k v∧getL 0 k v≠23)) ?_ ?_
     · refine .ite (fun h1=>.ret ⟨_,rfl,fun h2=>by simp at h1;unfold Op;omega⟩) (fun _=>.ite (fun h1=>.ret ⟨_,rfl,fun h2=>by simp at h1;unfold Op;omega⟩) (fun _=>.ite (fun h1=>.ret ⟨_,rfl,fun h2=>by simp at h1;unfold Op;omega⟩) (fun _=>.ret ⟨_,rfl,fun h2=>by simp at h2;unfold Op;omega⟩)))
     rintro r ⟨q,rfl,hq⟩
     refine .go (.ite (fun hh=>?_) (fun _=>?_))
     · exact .call (embed_eq hb G v0 h) (ret G.embed (.inl ⟨hq hh,_,rfl⟩))
     refine .cut (fun r=>∃ q:Bool,r = .go q∧(q=true ↔ Op k v)) ?_ ?_
     · have hop:Op k v ↔ ((getL 0 k v == 21)=true∨(getL 0 k v == 20)=true∨(getL 0 k v == 22)=true):=by
        simp only [beq_iff_eq,Op];omega
       refine .ite (fun h1=>.ret ⟨_,rfl,by rw [hop];simp [h1]⟩) (fun h1=>?_)
       refine .ite (fun h2=>.ret ⟨_,rfl,by rw [hop];simp [h2]⟩) (fun h2=>.ret ⟨_,rfl,by rw [hop];simp [h1,h2]⟩)
     rintro r ⟨q,rfl,hq2⟩
     refine .go (.ite (fun hh=>?_) (fun hh=>?_))
     · have hO:=hq2.1 hh
       obtain ⟨odd,he⟩:=isolate_eq hb G v0 h hml hg hO (c:=getL 0 k v)
       exact .call he (ret G.isolate (.inr (.inl ⟨hO,odd,rfl⟩)))
     have hO : ¬ Op k v:=fun h2=>by rw [hq2.2 h2] at hh;cases hh
     refine .ite (fun hh=>?_) (fun h23=>?_)
     · exact .call (endIso_eq hb G h) (.call (take_eq hb G.endIso v0 h (by omega)) (ret G.endIso.take.up (.inr (.inr (.inl ⟨by simpa using hh,rfl⟩)))))
     have h23:getL 0 k v≠23:=by simpa using h23
     refine .ite (fun hh=>?_) (fun _=>?_)
     · exact .call (remove_eq hb G v0 h (by omega)) (.call (endEmb_eq hb G.remove h) (ret G.remove.endEmb.up (.inr (.inr (.inr (.inl ⟨⟨hO,h23⟩,rfl⟩))))))
     refine .ite (fun hh=>?_) (fun _=>.ite (fun hh=>?_) (fun _=>?_))
     · refine .chk ⟨v0,by omega⟩ (.ret ⟨_,rfl,?_,.inr (.inr (.inr (.inr (.inl ⟨by simpa using hh,?_⟩))))⟩)
       · exact ⟨G.hl,G.hm,G.hb,by simpa [mch] using G.n1,G.n2,G.n3,G.o0,by have:=G.o1;simp only [mch] at this ⊢;omega,by have:=G.is;simp only [mch] at this ⊢;omega,by have:=G.em;simp only [mch] at this ⊢;omega,G.va,G.b0,G.lv⟩
       · rw [hx];rfl
     · exact .call (remove_eq hb G v0 h (by omega)) (ret G.remove.up (.inr (.inr (.inr (.inr (.inr (.inl ⟨⟨hO,h23⟩,rfl⟩)))))))
     · exact .call (take_eq hb G v0 h (by omega)) (ret G.take.up (.inr (.inr (.inr (.inr (.inr (.inr ⟨hO,h23,rfl⟩)))))))
   · rintro r ⟨⟨A',B',x',y',z',w',L',C',R',S'⟩,rfl,h1,h2⟩
     refine .go (.chk (inR64 (by omega) (by omega)) (.ret ⟨⟨by simp only;omega,by simp only;omega,h1,?_⟩,by simp only;omega⟩))
     exact hstep mt v _ _ v0 h G I h2
 · have h:lenL k≤v:=by simpa [hA] using h
   have e:v=lenL k:=by omega
   subst e
   exact .ret ⟨_,rfl,G,I⟩
end
section
structure LI (k:List Int) (v:Int) (s:List Int × (Int→Int)) (M L:List Int):Prop where
 a1:lenL s.1≤lenL M
 a2 : ∀ j,0≤j→j < lenL s.1→getL 0 M j=getL 0 L (getL 0 s.1 (lenL s.1-1-j))
 lv : ∀ i,0≤i→i < v→Op k i→s.2 i < lenL k→getL 0 L (s.2 i)=getL 0 L i
section
variable {k:List Int} {v:Int} {s:List Int × (Int→Int)} {M L L':List Int}
theorem LI.plain (H:LI k v s M L) (I:MInv k v s.2 s.1) (v0:0≤v) (hL : ∀ i,0≤i→i < v→getL 0 L' i=getL 0 L i) {o':List Int} (ho:o'=s.1∨o'=[]) (hc : ¬ Op k v) (hvn:v < lenL k):LI k (v+1) (o',up s.2 v (-1)) M L':=by
 refine ⟨?_,fun j j0 j1=>?_,fun i i0 i1 hO hlt=>?_⟩
 · rcases ho with rfl | rfl
   · exact H.a1
   · exact lenL_nn M
 · rcases ho with rfl | rfl
   · rw [H.a2 j j0 j1]
     obtain ⟨p0,p1,_⟩:=I.st (lenL s.1-1-j) (by simp only at j1;omega) (by omega)
     rw [hL _ p0 p1]
   · simp at j1;omega
 · have hiv:i≠v:=fun h=>hc (h ▸ hO)
   have e:up s.2 v (-1) i=s.2 i:=if_neg hiv
   simp only [e] at hlt ⊢
   rcases (I.loc i i0 (by omega)).1 hO with h | ⟨h1,h2,_,_⟩
   · omega
   · rw [hL _ (by omega) h2,hL _ i0 (by omega)]
     exact H.lv i i0 (by omega) hO hlt
theorem LI.push (H:LI k v s M L) (I:MInv k v s.2 s.1) (v0:0≤v) (hL : ∀ i,0≤i→i < v→getL 0 L' i=getL 0 L i) {x:Int} (hx:getL 0 L' v=x):LI k (v+1) (s.1++[v],up s.2 v (lenL k)) (x :: M) L':=by
 have hn:=lenL_nn s.1
 refine ⟨by have:=H.a1;simp;omega,fun j j0 j1=>?_,fun i i0 i1 hO hlt=>?_⟩
 · have el:lenL (s.1++[v])=lenL s.1+1:=by simp
   simp only [el] at j1 ⊢
   by_cases h:j=0
   · subst h
     have e:lenL s.1+1-1-0=lenL s.1:=by omega
     rw [e,getL_snoc,hx];rfl
   · rw [getL_cons (by omega),H.a2 (j-1) (by omega) (by omega),getL_app (by omega),if_pos (by omega)]
     have e:lenL s.1-1-(j-1)=lenL s.1+1-1-j:=by omega
     rw [e]
     obtain ⟨p0,p1,_⟩:=I.st (lenL s.1+1-1-j) (by omega) (by omega)
     rw [hL _ p0 p1]
 · by_cases hiv:i=v
   · subst hiv
     have e:up s.2 i (lenL k) i=lenL k:=if_pos rfl
     simp only [e] at hlt;omega
   · have e:up s.2 v (lenL k) i=s.2 i:=if_neg hiv
     simp only [e] at hlt ⊢
     rcases (I.loc i i0 (by omega)).1 hO with h | ⟨h1,h2,_,_⟩
     · omega
     · rw [hL _ (by omega) h2,hL _ i0 (by omega)]
       exact H.lv i i0 (by omega) hO hlt
theorem LI.pop (H:LI k v s M L) (I:MInv k v s.2 s.1) (v0:0≤v) (hL : ∀ i,0≤i→i < v→getL 0 L' i=getL 0 L i) (hc:getL 0 k v=23) (ho:0 < lenL s.1) {x:Int} {M':List Int} (hM:M=x :: M') (hx:getL 0 L' v=x) :
  LI k (v+1) (subL s.1 0 (lenL s.1-1),up (up s.2 v (getL 0 s.1 (lenL s.1-1))) (getL 0 s.1 (lenL s.1-1)) v) M' L':=by
 have hn:=lenL_nn s.1
 have el:lenL (subL s.1 0 (lenL s.1-1))=lenL s.1-1:=by rw [lenL_sub (by omega) (by omega) (by omega)];omega
 obtain ⟨q0,q1,_,_⟩:=I.st (lenL s.1-1) (by omega) (by omega)
 have h0:=H.a2 0 (by omega) ho
 rw [Int.sub_zero] at h0
 have a1:=H.a1
 have a2:=H.a2
 subst hM
 generalize hp:getL 0 s.1 (lenL s.1-1)=p at *
 have h0:x=getL 0 L p:=h0
 refine ⟨by simp only [el];simp at a1;omega,fun j j0 j1=>?_,fun i i0 i1 hO hlt=>?_⟩
 · simp only [el] at j1 ⊢
   have h:=a2 (j+1) (by omega) (by omega)
   rw [getL_cons (by omega)] at h
   have e1:j+1-1=j:=by omega
   have e2:lenL s.1-1-(j+1)=lenL s.1-1-1-j:=by omega
   rw [e1,e2] at h
   rw [h,getL_sub (by omega) (by omega) (by omega),Int.zero_add]
   obtain ⟨p0,p1,_⟩:=I.st (lenL s.1-1-1-j) (by omega) (by omega)
   rw [hL _ p0 p1]
 · by_cases hip:i=p
   · subst hip
     have e:up (up s.2 v i) i v i=v:=if_pos rfl
     simp only [e] at hlt ⊢
     rw [hx,hL _ i0 q1,h0]
   · have hiv:i≠v:=fun h=>by subst h;unfold Op at hO;omega
     have e:up (up s.2 v p) p v i=s.2 i:=(if_neg hip).trans (if_neg hiv)
     simp only [e] at hlt ⊢
     rcases (I.loc i i0 (by omega)).1 hO with h | ⟨h1,h2,_,_⟩
     · omega
     · rw [hL _ (by omega) h2,hL _ i0 (by omega)]
       exact H.lv i i0 (by omega) hO hlt
end
variable {k mt:List Int} {b v:Int} {m m':Mch}
theorem take_lev (G:Good k mt b v m) (v0:0≤v) (hv:v < lenL k):(∀ i,0≤i→i < v→getL 0 (takeM m v).frun.fLevels i=getL 0 m.frun.fLevels i)∧getL 0 (takeM m v).frun.fLevels v=(lastS m.fopen.fl).flevel:=by
 have n1:=G.n1
 constructor
 · intro i i0 i1
   simp only [takeM]
   rw [getL_put v0 i0 (by omega),if_neg (by omega)]
 · simp only [takeM]
   rw [getL_put v0 v0 (by omega),if_pos rfl]
theorem isolateC_run {odd:Bool} : (isolateC m odd).frun=m.frun:=by unfold isolateC;split<;>rfl
theorem embedC_run {odd:Bool} {ov:Int} : (embedC m odd ov).frun=m.frun:=by
 unfold embedC
 split
 · rfl
 · split<;>rfl
theorem endIso_run:(endIsoM m).frun=m.frun:=by
 unfold endIsoM
 split
 · rfl
 · split<;>rfl
theorem endEmb_run:(endEmbM m).frun=m.frun:=by
 unfold endEmbM
 split
 · rfl
 · split
   · rfl
   · split<;>rfl
theorem li_step (G:Good k mt b v m) (v0:0≤v) (hv:v < lenL k) (H:LI k v (mst k v.toNat) (mlev m) m.frun.fLevels) (hs:StepM k mt b v m m') :
  LI k (v+1) (mst k (v+1).toNat) (mlev m') m'.frun.fLevels:=by
 obtain ⟨I,_⟩:=mst_inv (l:=k) v.toNat (by omega)
 have ev:(v.toNat:Int)=v:=by omega
 rw [ev] at I
 rw [mst_next v0]
 generalize mst k v.toNat=s at *
 have n1:=G.n1
 have plain : ∀ {m2:Mch},¬ Op k v→getL 0 k v≠23→mlev m2=mlev m→(∀ i,0≤i→i < v→getL 0 m2.frun.fLevels i=getL 0 m.frun.fLevels i)→LI k (v+1) (mstep k v s) (mlev m2) m2.frun.fLevels:=by
  intro m2 h1 h2 h3 h4
  unfold mstep
  rw [if_neg h1,if_neg h2,h3]
  split
  · exact H.plain I v0 h4 (.inr rfl) h1 hv
  · exact H.plain I v0 h4 (.inl rfl) h1 hv
 have remL : ∀ i,0≤i→i < v→getL 0 (removeM m v).frun.fLevels i=getL 0 m.frun.fLevels i:=fun i i0 i1=>by
  simp only [removeM]
  rw [getL_put v0 i0 (by omega),if_neg (by omega)]
 rcases hs with ⟨⟨h1,h2⟩,c,rfl⟩ | ⟨hO,odd,rfl⟩ | ⟨h23,rfl⟩ | ⟨⟨h1,h2⟩,rfl⟩ | ⟨h11,rfl⟩ | ⟨⟨h1,h2⟩,rfl⟩ | ⟨h1,h2,rfl⟩
 · refine plain h1 h2 ?_ ?_
   · exact mlev_embed G.remove
   · unfold embedM;rw [embedC_run];exact remL
 · obtain ⟨t1,t2⟩:=take_lev G v0 hv
   unfold isolateM
   rw [mlev_isolate G.take,isolateC_run]
   unfold mstep
   rw [if_pos hO]
   exact H.push I v0 t1 t2
 · obtain ⟨t1,t2⟩:=take_lev G.endIso v0 hv
   rw [endIso_run] at t1
   have hO : ¬ Op k v:=by unfold Op;omega
   show LI k (v+1) (mstep k v s) (mlev (endIsoM m)) (takeM (endIsoM m) v).frun.fLevels
   unfold mstep
   rw [if_neg hO,if_pos h23]
   have a1:=H.a1
   rcases mlev_endIso G with ⟨e1,e2⟩ | e
   · rw [e1] at a1 H
     have hz : ¬ 0 < lenL s.1:=by simp at a1;omega
     rw [if_neg hz,e2]
     exact H.plain I v0 t1 (.inl rfl) hO hv
   · split
     · rename_i hz
       exact H.pop I v0 t1 h23 hz e t2
     · rename_i hz
       have hz:s.1=[]:=by
        cases hh:s.1 with
        | nil=>rfl
        | cons a t=>rw [hh] at hz;have:=lenL_nn t;simp at hz;omega
       have H2:LI k v s (mlev (endIsoM m)) m.frun.fLevels:=⟨by rw [hz];exact lenL_nn _,fun j j0 j1=>by rw [hz] at j1;simp at j1;omega,H.lv⟩
       exact H2.plain I v0 t1 (.inl rfl) hO hv
 · refine plain h1 h2 ?_ ?_
   · rw [mlev_endEmb G.remove];rfl
   · rw [endEmb_run];exact remL
 · refine plain (by unfold Op;omega) (by omega) rfl (fun i i0 i1=>?_)
   simp only
   rw [getL_put v0 i0 (by omega),if_neg (by omega)]
 · exact plain h1 h2 rfl remL
 · exact plain h1 h2 rfl (take_lev G v0 hv).1
theorem known_spec {l:List Int} (hb:lenL l≤100000):Yields (embed_known l) fun k=>lenL k=lenL l∧∀ i,0≤i→i < lenL l→getL 0 k i=if getL 0 l i < 1∨23 < getL 0 l i then 14 else getL 0 l i:=by
 have hn:=lenL_nn l
 unfold embed_known
 refine .chk (mkOk hn (by omega) (by omega)) ?_
 refine .cut (fun r=>∃ k,r = .go k∧lenL k=lenL l∧∀ i,0≤i→i < lenL l→getL 0 k i=if getL 0 l i < 1∨23 < getL 0 l i then 14 else getL 0 l i) ?_ (fun r hr=>by obtain ⟨k,rfl,h⟩:=hr;exact .go (.ret h))
 refine .loop (fun x=>0≤x.1∧x.1≤lenL l∧lenL x.2=lenL l∧∀ i,0≤i→i < x.1→getL 0 x.2 i=if getL 0 l i < 1∨23 < getL 0 l i then 14 else getL 0 l i) (fun x=>(lenL l-x.1).toNat)
  ⟨by simp only;omega,by simp only;omega,lenL_rep _ hn,fun i h0 h1=>by simp only at h1;omega⟩ ?_
 rintro ⟨v,o⟩ ⟨v0,vn,hl,hg⟩
 simp only at v0 vn hl hg ⊢
 refine .ite (fun h=>?_) (fun h=>?_)
 · have h:v < lenL l:=by simpa using h
   refine .chk ⟨v0,h⟩ ?_
   refine .ite (fun h2=>?_) (fun h2=>?_)
   · refine .chk ⟨v0,h⟩ (.chk (inR64 (by omega) (by omega)) (.ret ⟨⟨by simp only;omega,by simp only;omega,by simp [hl],fun i i0 i1=>?_⟩,by simp only;omega⟩))
     simp only at i1 ⊢
     rw [getL_put v0 i0 (by omega)]
     split
     · rename_i he
       rw [he,if_pos]
       by_cases h3:getL 0 l v < 1
       · exact .inl h3
       · simp [h3] at h2;exact .inr h2
     · exact hg i i0 (by omega)
   · refine .chk ⟨v0,h⟩ (.chk (inR64 (by omega) (by omega)) (.ret ⟨⟨by simp only;omega,by simp only;omega,by simp [hl],fun i i0 i1=>?_⟩,by simp only;omega⟩))
     simp only at i1 ⊢
     rw [getL_put v0 i0 (by omega)]
     split
     · rename_i he
       rw [he,if_neg]
       by_cases h3:getL 0 l v < 1
       · simp [h3] at h2
       · simp [h3] at h2;omega
     · exact hg i i0 (by omega)
 · have h:lenL l≤v:=by simpa using h
   have e:v=lenL l:=by omega
   subst e
   exact .ret ⟨o,rfl,hl,hg⟩
theorem parity_spec (base:Int):Yields (embed_parity base) fun b=>0≤b∧b≤1:=by
 unfold embed_parity
 refine .chk (by decide) (.ret ?_)
 have h0:0≤imaxI base 0:=by unfold imaxI;split<;>omega
 exact ⟨Int.tmod_nonneg _ h0,by have:=Int.tmod_lt_of_pos (imaxI base 0) (show (0:Int) < 2 by omega);omega⟩
structure RunP (l:List Int) (r:T_embed_Run):Prop where
 n1:lenL r.fLevels=lenL l
 n2:lenL r.fClasses=lenL l
 n3:lenL r.fRemoved=lenL l
 lv : ∀ i,0≤i→i < lenL l→Op l i→(mst l (lenL l).toNat).2 i < lenL l→getL 0 r.fLevels ((mst l (lenL l).toNat).2 i)=getL 0 r.fLevels i
theorem explicit_run {l:List Int} (base:Int) (hb:lenL l≤100000):Yields (embed_Explicit l base) (RunP l):=by
 have hn:=lenL_nn l
 obtain ⟨k,hk,hkl,hkg⟩:=known_spec hb
 obtain ⟨b,hp,hb0⟩:=parity_spec base
 have hkc : ∀ i,0≤i→i < lenL l→(Op l i ↔ Op k i)∧(getL 0 l i=23 ↔ getL 0 k i=23)∧(getL 0 l i=11 ↔ getL 0 k i=11):=fun i i0 i1=>by
  have:=hkg i i0 i1
  unfold Op
  split at this<;>refine ⟨?_,?_,?_⟩<;>omega
 have hmst:mst l (lenL l).toNat=mst k (lenL l).toNat:=mst_congr hkl.symm hkc _ (by omega)
 refine (explicit_rule hk (by omega) hp hb0 (fun mt v m=>LI k v (mst k v.toNat) (mlev m) m.frun.fLevels) (fun mt=>?_) (fun mt v m m' v0 v1 G H hs=>li_step G v0 v1 H hs)).mono ?_
 · exact ⟨lenL_nn _,fun j j0 j1=>by simp [mst] at j1;omega,fun i i0 i1=>by omega⟩
 · rintro r ⟨mt,m,rfl,G,H⟩
   rw [hkl] at H
   refine ⟨by rw [G.n1,hkl],by rw [G.n2,hkl],by rw [G.n3,hkl],fun i i0 i1 hO hlt=>?_⟩
   rw [hmst] at hlt ⊢
   exact H.lv i i0 i1 ((hkc i i0 i1).1.1 hO) (by rw [hkl];exact hlt)
end
section
structure RunsS (L:List Int) (R:List Bool) (v:Int) (out:List (List Int)):Prop where
 ln:lenL out≤v
 lk : ∀ k,0≤k→k < lenL out→0 < lenL (getL [] out k)∧lenL (getL [] out k)≤v
 rng : ∀ k j,0≤k→k < lenL out→0≤j→j < lenL (getL [] out k)→0≤getL 0 (getL [] out k) j∧getL 0 (getL [] out k) j < v∧getL false R (getL 0 (getL [] out k) j)=false
 inc : ∀ k j j',0≤k→k < lenL out→0≤j→j < j'→j' < lenL (getL [] out k)→getL 0 (getL [] out k) j < getL 0 (getL [] out k) j'
 ord : ∀ k k' j j',0≤k→k < k'→k' < lenL out→0≤j→j < lenL (getL [] out k)→0≤j'→j' < lenL (getL [] out k')→getL 0 (getL [] out k) j < getL 0 (getL [] out k') j'
 lev : ∀ k j,0≤k→k < lenL out→0≤j→j < lenL (getL [] out k)→getL 0 L (getL 0 (getL [] out k) j)=getL 0 L (getL 0 (getL [] out k) 0)
 cov : ∀ i,0≤i→i < v→getL false R i=false→∃ k j,0≤k∧k < lenL out∧0≤j∧j < lenL (getL [] out k)∧getL 0 (getL [] out k) j=i
section
variable {L:List Int} {R:List Bool} {v:Int} {out:List (List Int)}
theorem RunsS.skip (H:RunsS L R v out) (h:getL false R v=true):RunsS L R (v+1) out:=by
 refine ⟨by have:=H.ln;omega,fun k k0 k1=>?_,fun k j k0 k1 j0 j1=>?_,H.inc,H.ord,H.lev,fun i i0 i1 hi=>?_⟩
 · have:=H.lk k k0 k1;omega
 · obtain ⟨a,b,c⟩:=H.rng k j k0 k1 j0 j1
   exact ⟨a,by omega,c⟩
 · by_cases e:i=v
   · subst e;rw [h] at hi;cases hi
   · exact H.cov i i0 (by omega) hi
theorem RunsS.new (H:RunsS L R v out) (v0:0≤v) (h:getL false R v=false):RunsS L R (v+1) (out++[[v]]):=by
 have hl:lenL (out++[[v]])=lenL out+1:=by simp
 have hn:=lenL_nn out
 have hold : ∀ k,0≤k→k < lenL out→getL [] (out++[[v]]) k=getL [] out k:=fun k k0 k1=>by rw [getL_app k0,if_pos k1]
 have hnew:getL [] (out++[[v]]) (lenL out)=[v]:=getL_snoc _ _ _
 have hcase : ∀ k,0≤k→k < lenL out+1→(k < lenL out∧getL [] (out++[[v]]) k=getL [] out k)∨(k=lenL out∧getL [] (out++[[v]]) k=[v]):=fun k k0 k1=>by
  by_cases e:k < lenL out
  · exact .inl ⟨e,hold k k0 e⟩
  · have:k=lenL out:=by omega
    subst this
    exact .inr ⟨rfl,hnew⟩
 have h1:lenL [v]=1:=by simp
 have hz : ∀ j,0≤j→j < 1→getL 0 [v] j=v:=fun j j0 j1=>getL_one (by omega)
 rw [← hl] at hcase
 refine ⟨by have:=H.ln;omega,fun k k0 k1=>?_,fun k j k0 k1 j0 j1=>?_,fun k j j' k0 k1 j0 j1 j2=>?_,fun k k' j j' k0 k1 k2 j0 j1 j0' j1'=>?_,fun k j k0 k1 j0 j1=>?_,fun i i0 i1 hi=>?_⟩
 · rcases hcase k k0 k1 with ⟨a,e⟩ | ⟨a,e⟩<;>rw [e]
   · have:=H.lk k k0 a;omega
   · omega
 · rcases hcase k k0 k1 with ⟨a,e⟩ | ⟨a,e⟩<;>rw [e] at j1 ⊢
   · obtain ⟨x,y,z⟩:=H.rng k j k0 a j0 j1
     exact ⟨x,by omega,z⟩
   · rw [hz j j0 (by omega)];exact ⟨v0,by omega,h⟩
 · rcases hcase k k0 k1 with ⟨a,e⟩ | ⟨a,e⟩<;>rw [e] at j2 ⊢
   · exact H.inc k j j' k0 a j0 j1 j2
   · omega
 · rcases hcase k k0 (by omega) with ⟨a,e⟩ | ⟨a,e⟩
   · rw [e] at j1 ⊢
     rcases hcase k' (by omega) k2 with ⟨a',e'⟩ | ⟨a',e'⟩<;>rw [e'] at j1' ⊢
     · exact H.ord k k' j j' k0 k1 a' j0 j1 j0' j1'
     · rw [hz j' j0' (by omega)];exact (H.rng k j k0 a j0 j1).2.1
   · omega
 · rcases hcase k k0 k1 with ⟨a,e⟩ | ⟨a,e⟩<;>rw [e] at j1 ⊢
   · exact H.lev k j k0 a j0 j1
   · rw [hz j j0 (by omega)];rfl
 · by_cases e:i=v
   · subst e
     exact ⟨lenL out,0,hn,by omega,by omega,by rw [hnew];omega,by rw [hnew];rfl⟩
   · obtain ⟨k,j,a,b,c,d,f⟩:=H.cov i i0 (by omega) hi
     exact ⟨k,j,a,by omega,c,by rw [hold k a b];exact d,by rw [hold k a b];exact f⟩
theorem RunsS.ext (H:RunsS L R v out) (v0:0≤v) (h:getL false R v=false) (hp:0 < lenL out) (he:getL 0 L (getL 0 (getL [] out (lenL out-1)) 0)=getL 0 L v) :
  RunsS L R (v+1) (setL out (lenL out-1) (getL [] out (lenL out-1)++[v])):=by
 generalize hw:getL [] out (lenL out-1)=W at *
 have hk:=H.lk (lenL out-1) (by omega) (by omega)
 have hr:=fun j=>H.rng (lenL out-1) j (by omega) (by omega)
 have hi':=fun j j'=>H.inc (lenL out-1) j j' (by omega) (by omega)
 have ho:=fun k j j' k0 k1=>H.ord k (lenL out-1) j j' k0 k1 (by omega)
 have hv:=fun j=>H.lev (lenL out-1) j (by omega) (by omega)
 rw [hw] at hk
 simp only [hw] at hr hi' ho hv
 generalize ho':setL out (lenL out-1) (W++[v])=out'
 have hl:lenL out'=lenL out:=by rw [← ho'];simp
 have hlW:lenL (W++[v])=lenL W+1:=by simp
 have hcase : ∀ k,0≤k→k < lenL out'→(k < lenL out-1∧getL [] out' k=getL [] out k)∨(k=lenL out-1∧getL [] out' k=W++[v]):=fun k k0 k1=>by
  rw [← ho',getL_put (by omega) k0 (by omega)]
  by_cases e:k=lenL out-1
  · rw [if_pos e];exact .inr ⟨e,rfl⟩
  · rw [if_neg e];exact .inl ⟨by omega,rfl⟩
 have hg : ∀ j,0≤j→j < lenL W+1→(j < lenL W∧getL 0 (W++[v]) j=getL 0 W j)∨(j=lenL W∧getL 0 (W++[v]) j=v):=fun j j0 j1=>by
  by_cases e:j < lenL W
  · exact .inl ⟨e,by rw [getL_app j0,if_pos e]⟩
  · have:j=lenL W:=by omega
    subst this
    exact .inr ⟨rfl,getL_snoc _ _ _⟩
 rw [← hlW] at hg
 refine ⟨by have:=H.ln;omega,fun k k0 k1=>?_,fun k j k0 k1 j0 j1=>?_,fun k j j' k0 k1 j0 j1 j2=>?_,fun k k' j j' k0 k1 k2 j0 j1 j0' j1'=>?_,fun k j k0 k1 j0 j1=>?_,fun i i0 i1 hi=>?_⟩
 · rcases hcase k k0 k1 with ⟨a,e⟩ | ⟨a,e⟩<;>rw [e]
   · have:=H.lk k k0 (by omega);omega
   · omega
 · rcases hcase k k0 k1 with ⟨a,e⟩ | ⟨a,e⟩<;>rw [e] at j1 ⊢
   · obtain ⟨x,y,z⟩:=H.rng k j k0 (by omega) j0 j1
     exact ⟨x,by omega,z⟩
   · rcases hg j j0 j1 with ⟨a2,e2⟩ | ⟨a2,e2⟩<;>rw [e2]
     · obtain ⟨x,y,z⟩:=hr j j0 a2
       exact ⟨x,by omega,z⟩
     · exact ⟨v0,by omega,h⟩
 · rcases hcase k k0 k1 with ⟨a,e⟩ | ⟨a,e⟩<;>rw [e] at j2 ⊢
   · exact H.inc k j j' k0 (by omega) j0 j1 j2
   · rcases hg j j0 (by omega) with ⟨a2,e2⟩ | ⟨a2,e2⟩
     · rw [e2]
       rcases hg j' (by omega) j2 with ⟨a3,e3⟩ | ⟨a3,e3⟩<;>rw [e3]
       · exact hi' j j' j0 j1 a3
       · exact (hr j j0 a2).2.1
     · omega
 · rcases hcase k k0 (by omega) with ⟨a,e⟩ | ⟨a,e⟩
   · rw [e] at j1 ⊢
     rcases hcase k' (by omega) k2 with ⟨a',e'⟩ | ⟨a',e'⟩<;>rw [e'] at j1' ⊢
     · exact H.ord k k' j j' k0 k1 (by omega) j0 j1 j0' j1'
     · rcases hg j' j0' j1' with ⟨a3,e3⟩ | ⟨a3,e3⟩<;>rw [e3]
       · exact ho k j j' k0 a j0 j1 j0' a3
       · exact (H.rng k j k0 (by omega) j0 j1).2.1
   · omega
 · rcases hcase k k0 k1 with ⟨a,e⟩ | ⟨a,e⟩<;>rw [e] at j1 ⊢
   · exact H.lev k j k0 (by omega) j0 j1
   · have e0:getL 0 (W++[v]) 0=getL 0 W 0:=by rw [getL_app (by omega),if_pos hk.1]
     rw [e0]
     rcases hg j j0 j1 with ⟨a2,e2⟩ | ⟨a2,e2⟩<;>rw [e2]
     · exact hv j j0 a2
     · exact he.symm
 · by_cases e:i=v
   · subst e
     rcases hcase (lenL out-1) (by omega) (by omega) with ⟨a,e⟩ | ⟨a,e⟩
     · omega
     · exact ⟨lenL out-1,lenL W,by omega,by omega,by omega,by rw [e];omega,by rw [e];exact getL_snoc _ _ _⟩
   · obtain ⟨k,j,a,b,c,d,f⟩:=H.cov i i0 (by omega) hi
     rcases hcase k a (by omega) with ⟨a2,e2⟩ | ⟨a2,e2⟩
     · exact ⟨k,j,a,by omega,c,by rw [e2];exact d,by rw [e2];exact f⟩
     · rw [a2,hw] at d f
       exact ⟨k,j,a,by omega,c,by rw [e2];omega,by rw [e2,getL_app c,if_pos d];exact f⟩
end
theorem runs_yields {l:List Int} {r:T_embed_Run} (hn2:lenL l≤100000) (F:RunP l r):Yields (embed_runs r) (RunsS r.fLevels r.fRemoved (lenL l)):=by
 have hn:=lenL_nn l
 have n1:=F.n1
 have n3:=F.n3
 unfold embed_runs
 refine .cut (fun q=>∃ out,q = .go out∧RunsS r.fLevels r.fRemoved (lenL l) out) ?_ (fun q hq=>by obtain ⟨out,rfl,h⟩:=hq;exact .go (.ret h))
 refine .loop (fun x=>0≤x.1∧x.1≤lenL l∧RunsS r.fLevels r.fRemoved x.1 x.2) (fun x=>(lenL l-x.1).toNat) ⟨by simp only;omega,hn,?_⟩ ?_
 · exact ⟨by simp,fun k k0 k1=>by simp at k1;omega,fun k j k0 k1=>by simp at k1;omega,fun k j j' k0 k1=>by simp at k1;omega,fun k k' j j' k0 k1 k2=>by simp at k2;omega,fun k j k0 k1=>by simp at k1;omega,fun i i0 i1=>by simp only at i1;omega⟩
 rintro ⟨v,out⟩ ⟨v0,vn,H⟩
 simp only at v0 vn H ⊢
 refine .ite (fun h=>?_) (fun h=>?_)
 · have h:v < lenL r.fRemoved:=by simpa using h
   have h':v < lenL l:=by omega
   have ln:=H.ln
   have on:=lenL_nn out
   refine .chk ⟨v0,h⟩ (.ite (fun hg=>?_) (fun hg=>?_))
   · exact .chk (inR64 (by omega) (by omega)) (.ret ⟨⟨by simp only;omega,by simp only;omega,H.skip hg⟩,by simp only;omega⟩)
   · have hpos:(!(lenL out == 0))=true→0 < lenL out:=fun hh=>by simp at hh;omega
     have hk:=fun h0:0 < lenL out=>H.lk (lenL out-1) (by omega) (by omega)
     have hr:=fun h0:0 < lenL out=>H.rng (lenL out-1) 0 (by omega) (by omega) (by omega) (hk h0).1
     simp only [Int.zero_add]
     refine .chk (fun hh=>inR64 (by omega) (by omega)) (.chk (fun hh=>⟨by have:=hpos hh;omega,by omega⟩) (.chk (fun hh=>⟨by omega,(hk (hpos hh)).1⟩) (.chk (fun hh=>by have:=hr (hpos hh);omega) (.chk (fun hh=>by omega) ?_))))
     refine .ite (fun hh=>?_) (fun hh=>?_)
     · exact .chk (grOk (by omega) (by omega) (by omega)) (.chk (inR64 (by omega) (by omega)) (.ret ⟨⟨by simp only;omega,by simp only;omega,H.new v0 hg⟩,by simp only;omega⟩))
     · have h0:0 < lenL out:=by
        by_cases e:lenL out=0
        · simp [e] at hh
        · omega
       have hq:=hk h0
       refine .chk (inR64 (by omega) (by omega)) (.chk (inR64 (by omega) (by omega)) (.chk (by omega) (.chk (grOk (by omega) (by omega) (by omega)) (.chk (by omega) (.chk (inR64 (by omega) (by omega)) (.ret ⟨⟨by simp only;omega,by simp only;omega,H.ext v0 hg h0 ?_⟩,by simp only;omega⟩))))))
       have e : ¬ lenL out=0:=by omega
       simp [e] at hh
       exact hh
 · have h:lenL r.fRemoved≤v:=by simpa using h
   have e:v=lenL l:=by omega
   subst e
   exact .ret ⟨out,rfl,H⟩
end
section
inductive Reach (bh:List Int) (a:Int):Int→Prop
 | here:Reach bh a a
 | next {k:Int} : Reach bh a k→0≤getL 0 bh k→Reach bh a (getL 0 bh k)
theorem Reach.front {bh:List Int} {a k:Int} (h:Reach bh a k):k=a∨(0≤getL 0 bh a∧Reach bh (getL 0 bh a) k):=by
 induction h with
 | here=>exact .inl rfl
 | next h1 h2 ih =>
  rcases ih with rfl | ⟨h3,h4⟩
  · exact .inr ⟨h2,.here⟩
  · exact .inr ⟨h3,.next h4 h2⟩
structure BP (L:List Int) (rs:List (List Int)) (bh:List Int) (jo:List Bool):Prop where
 b1 : ∀ k,0≤k→k < lenL rs→getL 0 bh k = -1∨(k < getL 0 bh k∧getL 0 bh k < lenL rs∧getL false jo (getL 0 bh k)=true∧getL 0 L (getL 0 (getL [] rs (getL 0 bh k)) 0)=getL 0 L (getL 0 (getL [] rs k) 0))
 b2 : ∀ t,0≤t→t < lenL rs→getL false jo t=true→∃ k,0≤k∧k < lenL rs∧getL 0 bh k=t
 b3 : ∀ k k',0≤k→k < lenL rs→0≤k'→k' < lenL rs→0≤getL 0 bh k→getL 0 bh k=getL 0 bh k'→k=k'
section
variable {L:List Int} {rs:List (List Int)} {bh:List Int} {jo:List Bool}
theorem BP.reach (B:BP L rs bh jo) {a k:Int} (a0:0≤a) (a1:a < lenL rs) (h:Reach bh a k):a≤k∧k < lenL rs:=by
 induction h with
 | here=>omega
 | next h1 h2 ih =>
  rcases B.b1 _ (by omega) ih.2 with h | ⟨h3,h4,_⟩
  · omega
  · omega
theorem BP.root (B:BP L rs bh jo) {a a' k:Int} (a0:0≤a) (a1:a < lenL rs) (ha:getL false jo a=false) (a0':0≤a') (a1':a' < lenL rs) (ha':getL false jo a'=false) (h:Reach bh a k) (h':Reach bh a' k):a=a':=by
 induction h with
 | here =>
  cases h' with
  | here=>rfl
  | next h1 h2 =>
   have hr:=B.reach a0' a1' h1
   rcases B.b1 _ (by omega) hr.2 with h | ⟨_,_,h5,_⟩
   · omega
   · rw [ha] at h5;cases h5
 | @next k1 h1 h2 ih =>
  have hr:=B.reach a0 a1 h1
  generalize ht:getL 0 bh k1=t at h'
  cases h' with
  | here =>
   rcases B.b1 _ (by omega) hr.2 with h | ⟨_,_,h5,_⟩
   · omega
   · rw [ht,ha'] at h5;cases h5
  | @next k2 h3 h4 =>
   have hr':=B.reach a0' a1' h3
   have:=B.b3 k1 k2 (by omega) hr.2 (by omega) hr'.2 h2 ht
   subst this
   exact ih h3
theorem BP.total (B:BP L rs bh jo) : ∀ n:Nat,∀ k:Int,0≤k→k < n→k < lenL rs→∃ a:Int,0≤a∧a≤k∧getL false jo a=false∧Reach bh a k:=by
 intro n
 induction n with
 | zero=>intro k k0 k1;omega
 | succ n ih =>
  intro k k0 k1 k2
  cases hj:getL false jo k with
  | false=>exact ⟨k,k0,by omega,hj,.here⟩
  | true =>
   obtain ⟨k',h0,h1,rfl⟩:=B.b2 k k0 k2 hj
   rcases B.b1 k' h0 h1 with h | ⟨h3,_⟩
   · omega
   · obtain ⟨a,a0,a1,a2,a3⟩:=ih k' h0 (by omega) h1
     exact ⟨a,a0,by omega,a2,.next a3 k0⟩
end
theorem inc_len {S:List Int} {n:Int} (h : ∀ j j',0≤j→j < j'→j' < lenL S→getL 0 S j < getL 0 S j') (h0 : ∀ j,0≤j→j < lenL S→0≤getL 0 S j∧getL 0 S j < n) (n0:0≤n):lenL S≤n:=by
 have hj : ∀ m:Nat,(m:Int) < lenL S→(m:Int)≤getL 0 S m:=fun m=>by
  induction m with
  | zero=>intro h1;exact (h0 0 (by omega) (by omega)).1
  | succ m ih =>
   intro h1
   have e:((m+1:Nat):Int)=(m:Int)+1:=by omega
   rw [e] at h1 ⊢
   have:=h m (m+1) (by omega) (by omega) (by omega)
   have:=ih (by omega)
   omega
 by_cases hp:0 < lenL S
 · have h1:=hj (lenL S-1).toNat (by omega)
   have h2:=(h0 (lenL S-1) (by omega) (by omega)).2
   have e:((lenL S-1).toNat:Int)=lenL S-1:=by omega
   rw [e] at h1
   omega
 · omega
structure SeqOf (L:List Int) (rs:List (List Int)) (bh:List Int) (a:Int) (S:List Int):Prop where
 ne:0 < lenL S
 hd:getL 0 S 0=getL 0 (getL [] rs a) 0
 inc : ∀ j j',0≤j→j < j'→j' < lenL S→getL 0 S j < getL 0 S j'
 lev : ∀ j,0≤j→j < lenL S→getL 0 L (getL 0 S j)=getL 0 L (getL 0 (getL [] rs a) 0)
 el : ∀ j,0≤j→j < lenL S→∃ k q,Reach bh a k∧0≤k∧k < lenL rs∧0≤q∧q < lenL (getL [] rs k)∧getL 0 S j=getL 0 (getL [] rs k) q
 cov : ∀ k,Reach bh a k→∀ q,0≤q→q < lenL (getL [] rs k)→∃ j,0≤j∧j < lenL S∧getL 0 S j=getL 0 (getL [] rs k) q
structure SeqsP (L:List Int) (R:List Bool) (n:Int) (out:List (List Int)):Prop where
 s1 : ∀ i,0≤i→i < lenL out→0 < lenL (getL [] out i)∧lenL (getL [] out i)≤n
 s2 : ∀ i i',0≤i→i < i'→i' < lenL out→getL 0 (getL [] out i) 0 < getL 0 (getL [] out i') 0
 s3 : ∀ i j,0≤i→i < lenL out→0≤j→j < lenL (getL [] out i)→0≤getL 0 (getL [] out i) j∧getL 0 (getL [] out i) j < n∧getL false R (getL 0 (getL [] out i) j)=false∧getL 0 L (getL 0 (getL [] out i) j)=getL 0 L (getL 0 (getL [] out i) 0)
 s4 : ∀ i j j',0≤i→i < lenL out→0≤j→j < j'→j' < lenL (getL [] out i)→getL 0 (getL [] out i) j < getL 0 (getL [] out i) j'
 s5 : ∀ i j i' j',0≤i→i < lenL out→0≤j→j < lenL (getL [] out i)→0≤i'→i' < lenL out→0≤j'→j' < lenL (getL [] out i')→getL 0 (getL [] out i) j=getL 0 (getL [] out i') j'→i=i'∧j=j'
 s6 : ∀ x,0≤x→x < n→getL false R x=false→∃ i j,0≤i∧i < lenL out∧0≤j∧j < lenL (getL [] out i)∧getL 0 (getL [] out i) j=x
 s7:lenL out≤n
structure OutI (L:List Int) (rs:List (List Int)) (bh:List Int) (jo:List Bool) (v:Int) (out:List (List Int)) (A:List Int):Prop where
 ln:lenL A=lenL out
 lv:lenL out≤v
 rt : ∀ i,0≤i→i < lenL out→0≤getL 0 A i∧getL 0 A i < v∧getL false jo (getL 0 A i)=false∧SeqOf L rs bh (getL 0 A i) (getL [] out i)
 inc : ∀ i i',0≤i→i < i'→i' < lenL out→getL 0 A i < getL 0 A i'
 cov : ∀ a,0≤a→a < v→getL false jo a=false→∃ i,0≤i∧i < lenL out∧getL 0 A i=a
theorem OutI.fin {L:List Int} {R:List Bool} {n:Int} {rs:List (List Int)} {bh:List Int} {jo:List Bool} {out:List (List Int)} {A:List Int} (n0:0≤n) (H:RunsS L R n rs) (B:BP L rs bh jo) (O:OutI L rs bh jo (lenL rs) out A):SeqsP L R n out:=by
 have huq : ∀ k q k' q',0≤k→k < lenL rs→0≤q→q < lenL (getL [] rs k)→0≤k'→k' < lenL rs→0≤q'→q' < lenL (getL [] rs k')→getL 0 (getL [] rs k) q=getL 0 (getL [] rs k') q'→k=k':=by
  intro k q k' q' k0 k1 q0 q1 k0' k1' q0' q1' he
  by_cases h1:k < k'
  · have:=H.ord k k' q q' k0 h1 k1' q0 q1 q0' q1';omega
  · by_cases h2:k' < k
    · have:=H.ord k' k q' q k0' h2 k1 q0' q1' q0 q1;omega
    · omega
 have h3 : ∀ i j,0≤i→i < lenL out→0≤j→j < lenL (getL [] out i)→0≤getL 0 (getL [] out i) j∧getL 0 (getL [] out i) j < n∧getL false R (getL 0 (getL [] out i) j)=false:=by
  intro i j i0 i1 j0 j1
  obtain ⟨_,_,_,S⟩:=O.rt i i0 i1
  obtain ⟨k,q,_,k0,k1,q0,q1,e⟩:=S.el j j0 j1
  rw [e]
  exact H.rng k q k0 k1 q0 q1
 refine ⟨fun i i0 i1=>?_,fun i i' i0 i1 i2=>?_,fun i j i0 i1 j0 j1=>?_,fun i j j' i0 i1 j0 j1 j2=>?_,fun i j i' j' i0 i1 j0 j1 i0' i1' j0' j1' he=>?_,fun x x0 x1 hx=>?_,by have:=O.lv;have:=H.ln;omega⟩
 · obtain ⟨_,_,_,S⟩:=O.rt i i0 i1
   exact ⟨S.ne,inc_len S.inc (fun j j0 j1=>⟨(h3 i j i0 i1 j0 j1).1,(h3 i j i0 i1 j0 j1).2.1⟩) n0⟩
 · obtain ⟨a0,a1,_,S⟩:=O.rt i i0 (by omega)
   obtain ⟨a0',a1',_,S'⟩:=O.rt i' (by omega) i2
   rw [S.hd,S'.hd]
   exact H.ord _ _ 0 0 a0 (O.inc i i' i0 i1 i2) a1' (by omega) (H.lk _ a0 a1).1 (by omega) (H.lk _ a0' a1').1
 · obtain ⟨x,y,z⟩:=h3 i j i0 i1 j0 j1
   obtain ⟨_,_,_,S⟩:=O.rt i i0 i1
   exact ⟨x,y,z,by rw [S.lev j j0 j1,S.hd]⟩
 · obtain ⟨_,_,_,S⟩:=O.rt i i0 i1
   exact S.inc j j' j0 j1 j2
 · obtain ⟨a0,a1,a2,S⟩:=O.rt i i0 i1
   obtain ⟨a0',a1',a2',S'⟩:=O.rt i' i0' i1'
   obtain ⟨k,q,r1,k0,k1,q0,q1,e⟩:=S.el j j0 j1
   obtain ⟨k',q',r1',k0',k1',q0',q1',e'⟩:=S'.el j' j0' j1'
   have:=huq k q k' q' k0 k1 q0 q1 k0' k1' q0' q1' (by rw [← e,← e',he])
   subst this
   have ha:=B.root a0 a1 a2 a0' a1' a2' r1 r1'
   have hii:i=i':=by
    by_cases h1:i < i'
    · have:=O.inc i i' i0 h1 i1';omega
    · by_cases h2:i' < i
      · have:=O.inc i' i i0' h2 i1;omega
      · omega
   subst hii
   refine ⟨rfl,?_⟩
   by_cases h1:j < j'
   · have:=S.inc j j' j0 h1 j1';omega
   · by_cases h2:j' < j
     · have:=S.inc j' j j0' h2 j1;omega
     · omega
 · obtain ⟨k,q,k0,k1,q0,q1,e⟩:=H.cov x x0 x1 hx
   obtain ⟨a,a0,a1,a2,a3⟩:=B.total (k+1).toNat k k0 (by omega) k1
   obtain ⟨i,i0,i1,hi⟩:=O.cov a a0 (by omega) a2
   obtain ⟨_,_,_,S⟩:=O.rt i i0 i1
   obtain ⟨j,j0,j1,ej⟩:=S.cov k (by rw [hi];exact a3) q q0 q1
   exact ⟨i,j,i0,i1,j0,j1,by rw [ej,e]⟩
theorem chain_yields {L:List Int} {R:List Bool} {n:Int} {rs:List (List Int)} {bh:List Int} {jo:List Bool} {γ:Type} (n0:0≤n) (hn2:n≤100000) (H:RunsS L R n rs) (B:BP L rs bh jo) {a:Int} (a0:0≤a) (a1:a < lenL rs) :
  Yields (loopO (fun ((at',seq1):Int × List Int) =>
   iteO (decide (0≤at'))
    (chk (0≤at'∧at' < (lenL rs)) <|
     chk (growOk 8 ((lenL seq1)+(lenL (getL [] rs (0+at'))))) <|
     chk (0≤at'∧at' < (lenL rs)) <|
     let at'1:=(getL 0 bh (0+at'))
     some (.go (at'1,(seq1++(getL [] rs (0+at'))))))
    (some (.out (Fl.go (γ:=γ) seq1)))) (a,([]:List Int))) (fun r=>∃ S,r = .go S∧SeqOf L rs bh a S):=by
 refine .loop (fun x=>(x.1 = -1∨(a≤x.1∧x.1 < lenL rs∧Reach bh a x.1∧getL 0 L (getL 0 (getL [] rs x.1) 0)=getL 0 L (getL 0 (getL [] rs a) 0)))
  ∧(x.1=a∧x.2=[]∨x.1≠a∧0 < lenL x.2∧getL 0 x.2 0=getL 0 (getL [] rs a) 0)
  ∧(∀ j j',0≤j→j < j'→j' < lenL x.2→getL 0 x.2 j < getL 0 x.2 j')
  ∧(∀ j,0≤j→j < lenL x.2→getL 0 L (getL 0 x.2 j)=getL 0 L (getL 0 (getL [] rs a) 0)∧∃ k q,Reach bh a k∧0≤k∧k < lenL rs∧(x.1 = -1∨k < x.1)∧0≤q∧q < lenL (getL [] rs k)∧getL 0 x.2 j=getL 0 (getL [] rs k) q)
  ∧(∀ k,Reach bh a k→(0≤x.1∧Reach bh x.1 k)∨∀ q,0≤q→q < lenL (getL [] rs k)→∃ j,0≤j∧j < lenL x.2∧getL 0 x.2 j=getL 0 (getL [] rs k) q))
  (fun x=>if x.1 = -1 then 0 else (lenL rs-x.1).toNat)
  ⟨.inr ⟨by simp only;omega,a1,.here,rfl⟩,.inl ⟨rfl,rfl⟩,fun j j' j0 j1 j2=>by simp at j2;omega,fun j j0 j1=>by simp at j1;omega,fun k hk=>.inl ⟨a0,hk⟩⟩ ?_
 rintro ⟨t,s⟩ ⟨h1,h2,h3,h4,h5⟩
 simp only at h1 h2 h3 h4 h5 ⊢
 have sn:=lenL_nn s
 refine .ite (fun h=>?_) (fun h=>?_)
 · have h:0≤t:=by simpa using h
   rcases h1 with h1 | ⟨t0,t1,t2,t3⟩
   · omega
   simp only [Int.zero_add]
   have hk:=H.lk t h t1
   have hrng : ∀ j,0≤j→j < lenL s→0≤getL 0 s j∧getL 0 s j < n:=fun j j0 j1=>by
    obtain ⟨_,k,q,_,k0,k1,_,q0,q1,e⟩:=h4 j j0 j1
    rw [e]
    obtain ⟨x,y,_⟩:=H.rng k q k0 k1 q0 q1
    exact ⟨x,y⟩
   have hsl:=inc_len h3 hrng n0
   have hcase : ∀ j,0≤j→j < lenL s+lenL (getL [] rs t)→(j < lenL s∧getL 0 (s++getL [] rs t) j=getL 0 s j)∨(lenL s≤j∧getL 0 (s++getL [] rs t) j=getL 0 (getL [] rs t) (j-lenL s)):=fun j j0 j1=>by
    rw [getL_app j0]
    by_cases e:j < lenL s
    · rw [if_pos e];exact .inl ⟨e,rfl⟩
    · rw [if_neg e];exact .inr ⟨by omega,rfl⟩
   have hlen:lenL (s++getL [] rs t)=lenL s+lenL (getL [] rs t):=by simp
   refine .chk ⟨h,t1⟩ (.chk (grOk (by omega) (by omega) (by omega)) (.chk ⟨h,t1⟩ (.ret ⟨⟨?_,?_,fun j j' j0 j1 j2=>?_,fun j j0 j1=>?_,fun k hkr=>?_⟩,?_⟩)))
   · rcases B.b1 t h t1 with hb | ⟨b1,b2,b3,b4⟩
     · exact .inl hb
     · exact .inr ⟨by simp only;omega,b2,.next t2 (by omega),by simp only;rw [b4,t3]⟩
   · right
     refine ⟨?_,by simp only;omega,?_⟩
     · rcases B.b1 t h t1 with hb | ⟨b1,b2,b3,b4⟩<;>simp only<;>omega
     · simp only
       rcases h2 with ⟨e1,e2⟩ | ⟨_,e2,e3⟩
       · rw [e2,e1];rfl
       · rw [getL_app (by omega),if_pos e2];exact e3
   · simp only at j2 ⊢
     rw [hlen] at j2
     rcases hcase j j0 (by omega) with ⟨c1,c2⟩ | ⟨c1,c2⟩
     · rw [c2]
       rcases hcase j' (by omega) j2 with ⟨d1,d2⟩ | ⟨d1,d2⟩<;>rw [d2]
       · exact h3 j j' j0 j1 d1
       · obtain ⟨_,k,q,_,k0,k1,kt,q0,q1,e⟩:=h4 j j0 c1
         rw [e]
         exact H.ord k t q (j'-lenL s) k0 (by omega) t1 q0 q1 (by omega) (by omega)
     · rw [c2]
       rcases hcase j' (by omega) j2 with ⟨d1,d2⟩ | ⟨d1,d2⟩
       · omega
       · rw [d2]
         exact H.inc t _ _ h t1 (by omega) (by omega) (by omega)
   · simp only at j1 ⊢
     rw [hlen] at j1
     rcases hcase j j0 j1 with ⟨c1,c2⟩ | ⟨c1,c2⟩<;>rw [c2]
     · obtain ⟨l1,k,q,r,k0,k1,kt,q0,q1,e⟩:=h4 j j0 c1
       refine ⟨l1,k,q,r,k0,k1,?_,q0,q1,e⟩
       rcases B.b1 t h t1 with hb | ⟨b1,b2,b3,b4⟩<;>omega
     · refine ⟨by rw [H.lev t _ h t1 (by omega) (by omega),t3],t,j-lenL s,t2,h,t1,?_,by omega,by omega,rfl⟩
       rcases B.b1 t h t1 with hb | ⟨b1,b2,b3,b4⟩<;>omega
   · simp only
     have done : ∀ q,0≤q→q < lenL (getL [] rs t)→∃ j,0≤j∧j < lenL (s++getL [] rs t)∧getL 0 (s++getL [] rs t) j=getL 0 (getL [] rs t) q:=fun q q0 q1=>by
      refine ⟨lenL s+q,by omega,by rw [hlen];omega,?_⟩
      rw [getL_app (by omega),if_neg (by omega)]
      have e:lenL s+q-lenL s=q:=by omega
      rw [e]
     rcases h5 k hkr with ⟨_,hr⟩ | hd
     · rcases hr.front with rfl | ⟨f1,f2⟩
       · exact .inr done
       · exact .inl ⟨f1,f2⟩
     · refine .inr fun q q0 q1=>?_
       obtain ⟨j,j0,j1,e⟩:=hd q q0 q1
       exact ⟨j,j0,by rw [hlen];omega,by rw [getL_app j0,if_pos j1];exact e⟩
   · simp only
     rw [if_neg (show ¬ t = -1 by omega)]
     rcases B.b1 t h t1 with hb | ⟨b1,b2,b3,b4⟩
     · rw [if_pos hb];omega
     · split<;>omega
 · have h:t < 0:=by simpa using h
   have ht:t = -1:=by
    rcases h1 with h1 | ⟨t0,_⟩<;>omega
   refine .ret ⟨s,rfl,?_⟩
   rcases h2 with ⟨e1,_⟩ | ⟨_,e2,e3⟩
   · omega
   · exact ⟨e2,e3,h3,fun j j0 j1=>(h4 j j0 j1).1,fun j j0 j1=>by
      obtain ⟨_,k,q,r,k0,k1,_,q0,q1,e⟩:=h4 j j0 j1
      exact ⟨k,q,r,k0,k1,q0,q1,e⟩,fun k hk=>by
      rcases h5 k hk with ⟨h6,_⟩ | h6
      · omega
      · exact h6⟩
end
section
theorem isolate_eq2 (c:Int):embed_isolate c=some (decide (20≤c∧c≤22)):=by
 unfold embed_isolate
 congr 1
 by_cases h1:c=20
 · subst h1;rfl
 · by_cases h2:c=21
   · subst h2;rfl
   · by_cases h3:c=22
     · subst h3;rfl
     · have e1:(c == 20)=false:=by simpa using h1
       have e2:(c == 21)=false:=by simpa using h2
       have e3:(c == 22)=false:=by simpa using h3
       rw [e1,e2,e3]
       simp only [Bool.false_eq_true,if_false]
       rw [decide_eq_false (by omega)]
theorem seqs_yields {l:List Int} {r:T_embed_Run} (base:Int) (hn2:lenL l≤100000) (F:RunP l r):Yields (embed_Sequences l r base) (SeqsP r.fLevels r.fRemoved (lenL l)):=by
 have hn:=lenL_nn l
 unfold embed_Sequences
 refine .call (b:=true) (by unfold embed_fits;simp [F.n1,F.n2,F.n3]) ?_
 refine .ite (fun hh=>by cases hh) (fun _=>?_)
 refine .bind _ (match_exact hn2) fun mt hm=>?_
 obtain ⟨hml,hmg⟩:=hm
 obtain ⟨I,_⟩:=mst_inv (l:=l) (lenL l).toNat (by omega)
 have ev:((lenL l).toNat:Int)=lenL l:=by omega
 rw [ev] at I
 have hlv:=F.lv
 generalize (mst l (lenL l).toNat).1=mo at I
 generalize (mst l (lenL l).toNat).2=M at *
 refine .bind _ (runs_yields hn2 F) fun rs H=>?_
 have rn:=lenL_nn rs
 have rl:=H.ln
 simp only [Int.zero_add]
 refine .chk (inR64 (by omega) (by omega)) (.chk (mkOk (by omega) (by omega) (by omega)) ?_)
 refine .cut (fun q=>∃ hd,q = .go hd∧lenL hd=lenL l+1∧∀ x,0≤x→x < lenL l+1→getL 0 hd x = -1) ?_ ?_
 · refine .loop (fun x=>0≤x.1∧x.1≤lenL l+1∧lenL x.2=lenL l+1∧∀ i,0≤i→i < x.1→getL 0 x.2 i = -1) (fun x=>(lenL l+1-x.1).toNat) ⟨by simp only;omega,by simp only;omega,lenL_rep _ (by omega),fun i i0 i1=>by simp only at i1;omega⟩ ?_
   rintro ⟨v,hd⟩ ⟨v0,v1,hl,hg⟩
   simp only at v0 v1 hl hg ⊢
   refine .ite (fun h=>?_) (fun h=>?_)
   · have h:v < lenL l+1:=by simpa using h
     refine .chk ⟨v0,h⟩ (.chk (inR64 (by omega) (by omega)) (.ret ⟨⟨by simp only;omega,by simp only;omega,by simp [hl],fun i i0 i1=>?_⟩,by simp only;omega⟩))
     simp only at i1 ⊢
     rw [getL_put v0 i0 (by omega)]
     split
     · rfl
     · exact hg i i0 (by omega)
   · have h:lenL l+1≤v:=by simpa using h
     exact .ret ⟨hd,rfl,hl,fun x x0 x1=>hg x x0 (by omega)⟩
 rintro q ⟨hd,rfl,hdl,hdg⟩
 refine .go ?_
 refine .cut (fun q=>∃ hd,q = .go hd∧lenL hd=lenL l+1∧∀ x,0≤x→x < lenL l+1→getL 0 hd x = -1∨(0≤getL 0 hd x∧getL 0 hd x < lenL rs∧getL 0 (getL [] rs (getL 0 hd x)) 0=x)) ?_ ?_
 · refine .loop (fun x=>0≤x.1∧x.1≤lenL rs∧lenL x.2=lenL l+1∧∀ i,0≤i→i < lenL l+1→getL 0 x.2 i = -1∨(0≤getL 0 x.2 i∧getL 0 x.2 i < lenL rs∧getL 0 (getL [] rs (getL 0 x.2 i)) 0=i)) (fun x=>(lenL rs-x.1).toNat) ⟨by simp only;omega,by simp only;omega,hdl,fun i i0 i1=>.inl (hdg i i0 i1)⟩ ?_
   rintro ⟨v,hd⟩ ⟨v0,v1,hl,hg⟩
   simp only at v0 v1 hl hg ⊢
   refine .ite (fun h=>?_) (fun h=>.ret ⟨hd,rfl,hl,hg⟩)
   have h:v < lenL rs:=by simpa using h
   have hk:=H.lk v v0 h
   have hr:=H.rng v 0 v0 h (by omega) hk.1
   refine .chk ⟨v0,h⟩ (.chk ⟨by omega,hk.1⟩ (.chk ⟨by omega,by omega⟩ (.chk (inR64 (by omega) (by omega)) (.ret ⟨⟨by simp only;omega,by simp only;omega,by simp [hl],fun i i0 i1=>?_⟩,by simp only;omega⟩))))
   simp only
   rw [getL_put (by omega) i0 (by omega)]
   split
   · rename_i e
     exact .inr ⟨v0,h,e.symm⟩
   · exact hg i i0 i1
 clear hd hdl hdg
 rintro q ⟨hd,rfl,hdl,hdg⟩
 refine .go ?_
 refine .chk (mkOk (by omega) (by omega) (by omega)) (.chk (mkOk (by omega) (by omega) (by omega)) ?_)
 have hE : ∀ k,0≤k→k < lenL rs→0≤getL 0 (getL [] rs k) (lenL (getL [] rs k)-1)∧getL 0 (getL [] rs k) (lenL (getL [] rs k)-1) < lenL l:=fun k k0 k1=>by
  have hk:=H.lk k k0 k1
  obtain ⟨x,y,_⟩:=H.rng k (lenL (getL [] rs k)-1) k0 k1 (by omega) (by omega)
  exact ⟨x,y⟩
 generalize hEd:(fun k=>getL 0 (getL [] rs k) (lenL (getL [] rs k)-1))=E
 have hEe : ∀ k,getL 0 (getL [] rs k) (lenL (getL [] rs k)-1)=E k:=fun k=>by rw [← hEd]
 simp only [hEe] at hE ⊢
 refine .cut (fun q=>∃ bh jo,q = .go (bh,jo)∧BP r.fLevels rs bh jo) ?_ ?_
 · refine .loop (fun x=>0≤x.1∧x.1≤lenL rs∧lenL x.2.1=lenL rs∧lenL x.2.2=lenL rs∧(∀ k,0≤k→k < x.1→getL 0 x.2.1 k = -1∨(0≤getL 0 x.2.1 k∧getL 0 x.2.1 k < lenL rs∧Op l (E k)∧M (E k)=getL 0 (getL [] rs (getL 0 x.2.1 k)) 0∧getL false x.2.2 (getL 0 x.2.1 k)=true))
    ∧(∀ t,0≤t→t < lenL rs→getL false x.2.2 t=true→∃ k,0≤k∧k < x.1∧getL 0 x.2.1 k=t)) (fun x=>(lenL rs-x.1).toNat)
    ⟨by simp only;omega,by simp only;omega,lenL_rep _ rn,lenL_rep _ rn,fun k k0 k1=>by simp only at k1;omega,fun t t0 t1 ht=>by simp only at ht;rw [getL_rep t0 t1] at ht;cases ht⟩ ?_
   rintro ⟨v,bh,jo⟩ ⟨v0,v1,hl,hl2,hk,ht⟩
   simp only at v0 v1 hl hl2 hk ht ⊢
   refine .ite (fun h=>?_) (fun h=>?_)
   · have h:v < lenL rs:=by simpa using h
     have hkv:=H.lk v v0 h
     obtain ⟨e0,e1⟩:=hE v v0 h
     refine .chk ⟨v0,h⟩ (.chk ⟨v0,h⟩ (.chk (inR64 (by omega) (by omega)) (.chk ⟨by omega,by omega⟩ (.chk ⟨e0,e1⟩ ?_))))
     have none:Yields (chk (inR .i64 (v+1)) <| some (Fl.go (γ:=Fl (List Int × List Bool) (List (List Int))) ((v+1),(setL bh v (-1)),jo))) (StepP (fun x=>0≤x.1∧x.1≤lenL rs∧lenL x.2.1=lenL rs∧lenL x.2.2=lenL rs∧(∀ k,0≤k→k < x.1→getL 0 x.2.1 k = -1∨(0≤getL 0 x.2.1 k∧getL 0 x.2.1 k < lenL rs∧Op l (E k)∧M (E k)=getL 0 (getL [] rs (getL 0 x.2.1 k)) 0∧getL false x.2.2 (getL 0 x.2.1 k)=true))
     ∧(∀ t,0≤t→t < lenL rs→getL false x.2.2 t=true→∃ k,0≤k∧k < x.1∧getL 0 x.2.1 k=t)) (fun x=>(lenL rs-x.1).toNat) (fun q=>∃ bh jo,q = .go (bh,jo)∧BP r.fLevels rs bh jo) (v,bh,jo)):=by
      refine .chk (inR64 (by omega) (by omega)) (.ret ⟨⟨by simp only;omega,by simp only;omega,by simp [hl],hl2,fun k k0 k1=>?_,fun t t0 t1 hj=>?_⟩,by simp only;omega⟩)
      · simp only at k1 ⊢
        rw [getL_put v0 k0 (by omega)]
        by_cases e:k=v
        · rw [if_pos e];exact .inl rfl
        · rw [if_neg e];exact hk k k0 (by omega)
      · obtain ⟨k,k0,k1,ek⟩:=ht t t0 t1 hj
        refine ⟨k,k0,by simp only;omega,?_⟩
        simp only
        rw [getL_put v0 k0 (by omega),if_neg (by omega)];exact ek
     refine .call (isolate_eq2 _) (.ite (fun _=>none) (fun hiso=>?_))
     have hO:Op l (E v):=by simpa [Op] using hiso
     have hM:=hmg (E v) e0 e1
     have hMr:E v < M (E v)∧M (E v)≤lenL l:=by
      rcases (I.loc (E v) e0 e1).1 hO with h | ⟨h1,h2,_,_⟩<;>omega
     rw [hM]
     refine .chk ⟨e0,by omega⟩ (.chk ⟨by omega,by omega⟩ (.ite (fun hto=>?_) (fun _=>none)))
     have hto:0≤getL 0 hd (M (E v)):=by simpa using hto
     rcases hdg (M (E v)) (by omega) (by omega) with h1 | ⟨g0,g1,g2⟩
     · omega
     refine .chk ⟨v0,h⟩ (.chk ⟨g0,g1⟩ (.chk (inR64 (by omega) (by omega)) (.ret ⟨⟨by simp only;omega,by simp only;omega,by simp [hl],by simp [hl2],fun k k0 k1=>?_,fun t t0 t1 hj=>?_⟩,by simp only;omega⟩)))
     · simp only at k1 ⊢
       rw [getL_put v0 k0 (by simp;omega),getL_put v0 k0 (by omega)]
       by_cases e:k=v
       · subst e
         rw [if_pos rfl]
         exact .inr ⟨g0,g1,hO,g2.symm,by rw [getL_put g0 g0 (by omega),if_pos rfl]⟩
       · rw [if_neg e,if_neg e]
         rcases hk k k0 (by omega) with h | ⟨a1,a2,a3,a4,a5⟩
         · exact .inl h
         · refine .inr ⟨a1,a2,a3,a4,?_⟩
           rw [getL_put g0 a1 (by omega)]
           split
           · rfl
           · exact a5
     · simp only at hj ⊢
       rw [getL_put g0 t0 (by omega)] at hj
       by_cases e:t=getL 0 hd (M (E v))
       · refine ⟨v,v0,by omega,?_⟩
         rw [getL_put v0 v0 (by simp;omega),if_pos rfl,e]
       · rw [if_neg e] at hj
         obtain ⟨k,k0,k1,ek⟩:=ht t t0 t1 hj
         refine ⟨k,k0,by omega,?_⟩
         rw [getL_put v0 k0 (by simp;omega),getL_put v0 k0 (by omega),if_neg (by omega),if_neg (by omega)];exact ek
   · have h:lenL rs≤v:=by simpa using h
     have e:v=lenL rs:=by omega
     subst e
     refine .ret ⟨bh,jo,rfl,fun k k0 k1=>?_,fun t t0 t1 hj=>?_,fun k k' k0 k1 k0' k1' hb he=>?_⟩
     · rcases hk k k0 k1 with h | ⟨a1,a2,a3,a4,a5⟩
       · exact .inl h
       · obtain ⟨e0,e1⟩:=hE k k0 k1
         have hkk:=H.lk k k0 k1
         have hkb:=H.lk _ a1 a2
         have hrb:=H.rng _ 0 a1 a2 (by omega) hkb.1
         have hMr:E k < M (E k):=by
          rcases (I.loc (E k) e0 e1).1 a3 with h | ⟨h1,h2,_,_⟩<;>omega
         have hEk:=hEe k
         refine .inr ⟨?_,a2,a5,?_⟩
         · by_cases c1:k < getL 0 bh k
           · exact c1
           · exfalso
             by_cases c2:getL 0 bh k=k
             · rw [c2] at a4
               by_cases c3:lenL (getL [] rs k)=1
               · rw [c3] at hEk
                 have:getL 0 (getL [] rs k) 0=E k:=hEk
                 omega
               · have:=H.inc k 0 (lenL (getL [] rs k)-1) k0 k1 (by omega) (by omega) (by omega)
                 omega
             · have:=H.ord (getL 0 bh k) k 0 (lenL (getL [] rs k)-1) a1 (by omega) k1 (by omega) hkb.1 (by omega) (by omega)
               omega
         · rw [← a4,hlv (E k) e0 e1 a3 (by omega),← hEk]
           exact H.lev k _ k0 k1 (by omega) (by omega)
     · exact ht t t0 t1 hj
     · rcases hk k k0 k1 with h | ⟨a1,a2,a3,a4,a5⟩
       · omega
       rcases hk k' k0' k1' with h | ⟨a1',a2',a3',a4',a5'⟩
       · omega
       obtain ⟨e0,e1⟩:=hE k k0 k1
       obtain ⟨e0',e1'⟩:=hE k' k0' k1'
       have hkb:=H.lk _ a1 a2
       have hrb:=H.rng _ 0 a1 a2 (by omega) hkb.1
       have hkk:=H.lk k k0 k1
       have hkk':=H.lk k' k0' k1'
       have eM:M (E k)=M (E k'):=by rw [a4,a4',he]
       have i1:M (M (E k))=E k:=by
        rcases (I.loc (E k) e0 e1).1 a3 with h | ⟨_,_,_,h4⟩
        · omega
        · exact h4
       have i2:M (M (E k'))=E k':=by
        rcases (I.loc (E k') e0' e1').1 a3' with h | ⟨_,_,_,h4⟩
        · omega
        · exact h4
       have eE:E k=E k':=by rw [← i1,← i2,eM]
       have hEk:=hEe k
       have hEk':=hEe k'
       by_cases c1:k < k'
       · have:=H.ord k k' (lenL (getL [] rs k)-1) (lenL (getL [] rs k')-1) k0 c1 k1' (by omega) (by omega) (by omega) (by omega)
         omega
       · by_cases c2:k' < k
         · have:=H.ord k' k (lenL (getL [] rs k')-1) (lenL (getL [] rs k)-1) k0' c2 k1 (by omega) (by omega) (by omega) (by omega)
           omega
         · omega
 rintro q ⟨bh,jo,rfl,B⟩
 refine .go ?_
 refine .cut (fun q=>∃ out,q = .go out∧SeqsP r.fLevels r.fRemoved (lenL l) out) ?_ (fun q hq=>by obtain ⟨out,rfl,h⟩:=hq;exact .go (.ret h))
 refine .loop (fun x=>0≤x.1∧x.1≤lenL rs∧∃ A,OutI r.fLevels rs bh jo x.1 x.2 A) (fun x=>(lenL rs-x.1).toNat) ⟨by simp only;omega,by simp only;omega,[],?_⟩ ?_
 · exact ⟨rfl,by simp,fun i i0 i1=>by simp at i1;omega,fun i i' i0 i1 i2=>by simp at i2;omega,fun a a0 a1=>by simp only at a1;omega⟩
 rintro ⟨v,out⟩ ⟨v0,v1,A,O⟩
 simp only at v0 v1 O ⊢
 refine .ite (fun h=>?_) (fun h=>?_)
 · have h:v < lenL rs:=by simpa using h
   have on:=lenL_nn out
   have olv:=O.lv
   have oln:=O.ln
   refine .cut (fun q=>∃ out' A',q = .go out'∧OutI r.fLevels rs bh jo (v+1) out' A') ?_ ?_
   · refine .chk ⟨v0,h⟩ (.ite (fun hj=>?_) (fun hj=>?_))
     · refine .ret ⟨out,A,rfl,O.ln,by omega,fun i i0 i1=>?_,O.inc,fun a a0 a1 ha=>?_⟩
       · obtain ⟨x,y,z,w⟩:=O.rt i i0 i1
         exact ⟨x,by omega,z,w⟩
       · by_cases e:a=v
         · subst e;rw [hj] at ha;cases ha
         · exact O.cov a a0 (by omega) ha
     · have hc:=chain_yields (γ:=Fl (List (List Int)) (Fl (Int × List (List Int)) (Fl (List (List Int)) (List (List Int))))) hn hn2 H B v0 h
       simp only [Int.zero_add] at hc
       refine .cut _ hc ?_
       rintro q ⟨S,rfl,hS⟩
       refine .go (.chk (grOk (by omega) (by omega) (by omega)) (.ret ⟨out++[S],A++[v],rfl,by simp;omega,by simp;omega,fun i i0 i1=>?_,fun i i' i0 i1 i2=>?_,fun a a0 a1 ha=>?_⟩))
       · have i1:i < lenL out+1:=by simpa using i1
         rw [getL_app i0,getL_app i0,oln]
         by_cases e:i < lenL out
         · rw [if_pos e,if_pos e]
           obtain ⟨x,y,z,w⟩:=O.rt i i0 e
           exact ⟨x,by omega,z,w⟩
         · rw [if_neg e,if_neg e]
           have e2:i-lenL out=0:=by omega
           rw [e2]
           exact ⟨v0,by simp only [getL_zero];omega,hj,hS⟩
       · have i2:i' < lenL out+1:=by simpa using i2
         rw [getL_app i0,getL_app (by omega),oln,if_pos (by omega)]
         by_cases e:i' < lenL out
         · rw [if_pos e];exact O.inc i i' i0 i1 e
         · rw [if_neg e]
           have e2:i'-lenL out=0:=by omega
           rw [e2]
           exact (O.rt i i0 (by omega)).2.1
       · by_cases e:a=v
         · subst e
           exact ⟨lenL out,on,by simp;omega,by rw [← oln];exact getL_snoc _ _ _⟩
         · obtain ⟨i,i0,i1,ei⟩:=O.cov a a0 (by omega) ha
           exact ⟨i,i0,by simp;omega,by rw [getL_app i0,if_pos (by omega)];exact ei⟩
   · rintro q ⟨out',A',rfl,O'⟩
     exact .go (.chk (inR64 (by omega) (by omega)) (.ret ⟨⟨by simp only;omega,by simp only;omega,A',O'⟩,by simp only;omega⟩))
 · have h:lenL rs≤v:=by simpa using h
   have e:v=lenL rs:=by omega
   subst e
   exact .ret ⟨out,rfl,O.fin hn H B⟩
end
end Go.Vx
