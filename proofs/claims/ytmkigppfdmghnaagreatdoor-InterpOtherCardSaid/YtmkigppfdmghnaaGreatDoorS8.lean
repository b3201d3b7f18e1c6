/- InterpSaves, as a plain law. No conditions. -/
import Derived.Test.YtmkigppfdmghnaaGreatDoorS7
set_option linter.all false
namespace Go.Vx
set_option maxRecDepth 100000
theorem dat_load:DatQ dLoad:=datQ_of (by
  have:decide (lenL dLoad.fWide.fL≤100000)=true:=by kernel_rfl
  exact of_decide_eq_true this) fun i i0 i1=>by
 have h:dLoad.fWide.fL.all (fun r=>decide (r.fV≤100000))=true:=by kernel_rfl
 exact of_decide_eq_true (List.all_eq_true.1 h _ (getL_mem d_ranges_Row dLoad.fWide.fL i0 i1))
theorem few_len (l:List T_api_Action):Yields (lapwinglaw16_few l) (fun b=>b=true→lenL l≤80):=by
 obtain ⟨b,hb⟩:=afew_tot l
 refine ⟨b,hb,fun e=>?_⟩
 subst e
 unfold lapwinglaw16_few at hb
 by_cases h:80 < lenL l
 · have:decide (80 < lenL l)=true:=by simpa using h
   rw [this] at hb
   cases hb
 · omega
theorem begin_q (s:T_lapwingref16_State) {v1:Bool} (h1:v1=true→ScrB s.fMain∧ScrB s.fOther) (c:Bool):Yields (if (!(if (!v1)=true then true else c))=true then lapwinglaw16_state s else some d_interp_State) (fun t=>v1=true→c=false→lapwinglaw16_state s=some t∧(∃ b,interp_Sane t=some b∧(b=true→StQ t))):=by
 obtain ⟨t,e1,_,e3,e4⟩:=state_eq s
 refine anyO (fun h=>.of e1 fun hv hc=>⟨e1,?_⟩) fun h=>.ret fun hv hc=>by rw [hv,hc] at h;cases h
 obtain ⟨b1,b2⟩:=h1 hv
 obtain ⟨b,hb,hq⟩:=st_says t (by rw [e3];exact b1.t) (by rw [e4];exact b2.t)
 exact ⟨b,hb,hq.1⟩
theorem interpSaves_true (s:T_lapwingref16_State) (l:List T_api_Action):lapwinglaw16_InterpSaves s l=some true:=by
 refine Yields.eq ?_
 unfold lapwinglaw16_InterpSaves
 refine .call awake_true (.bind _ (stFew s) fun v1 hv1=>?_)
 refine .bind (fun b=>v1=true→b=true→lenL l≤80) (anyO (fun _=>(few_len l).mono fun b h _=>h) (fun h=>.ret fun _ h=>by cases h)) fun v2 hv2=>?_
 refine .bind _ (begin_q s hv1 (!v2)) fun v3 hv3=>?_
 refine .bind (fun b=>v1=true→v2=true→b=true→StQ v3) (anyO (fun h=>?_) (fun h=>.ret fun _ _ h=>by cases h)) fun v4 hv4=>.ite (fun _=>.ret rfl) fun h=>?_
 · have hh:v1=true∧v2=true:=by
    cases v1<;>cases v2<;>simp at h ⊢
   obtain ⟨_,b,hb,hq⟩:=hv3 hh.1 (by rw [hh.2];rfl)
   exact .of hb fun _ _=>hq
 have hf:v1=true∧v2=true∧v4=true:=by
  cases v1<;>cases v2<;>cases v4<;>simp at h ⊢
 obtain ⟨f1,f2,f4⟩:=hf
 have q:=hv4 f1 f2 f4
 obtain ⟨e1,_⟩:=hv3 f1 (by rw [f2];rfl)
 have hl:=hv2 f1 f2
 have hn:=lenL_nn l
 have q0:=q.sav
 refine .call load_eq (.call e1 (.call (do_save q dLoad) (.call (act_eq _) (.cut (fun o=>∃ a,o = .go a∧Moved (sav v3) a) ?_ ?_))))
 · refine .loop (fun p=>0≤p.1∧Moved (sav v3) p.2) (fun p=>(lenL l-p.1).toNat) ⟨by simp,Moved.refl q0⟩ ?_
   rintro ⟨i,a⟩ ⟨i0,ha⟩
   simp only at i0 ha ⊢
   refine .ite (fun hi=>?_) fun _=>.ret ⟨a,rfl,ha⟩
   have hi:i < lenL l:=by simpa using hi
   refine .chk ⟨i0,hi⟩ (.chk (fun _=>⟨i0,hi⟩) (.chk (fun _=>⟨i0,hi⟩) (.chk (fun _=>⟨i0,hi⟩) (.chk (fun _=>⟨i0,hi⟩) (.ite (fun hok=>?_) fun _=>.chk (inR64 (by omega) (by omega)) (.ret ⟨⟨by simp only;omega,ha⟩,by simp only;omega⟩))))))
   refine .chk ⟨i0,hi⟩ (.bind (Moved a) ?_ fun t ht=>.chk (inR64 (by omega) (by omega)) (.ret ⟨⟨by simp only;omega,ha.trans ht⟩,by simp only;omega⟩))
   have qa:=ha.q q0
   by_cases h1:(getL d_api_Action l i).fWhat=1
   · exact do_print qa dat_load _ h1
   · have:(getL d_api_Action l i).fWhat=4∧seqS (getL d_api_Action l i).fInter (⟨#[]⟩:ByteArray)=true∧65≤(getL d_api_Action l i).fFinal∧(getL d_api_Action l i).fFinal≤77:=by grind
     exact do_csi qa dat_load _ this.1 this.2.1 this.2.2.1 this.2.2.2
 · rintro o ⟨a,rfl,ha⟩
   have qa:=ha.q q0
   have qr:=qa.restored
   have hc:(act (upd a (rstS a) a.fLast)).fC=(act (sav v3)).fC:=by
    rw [act_upd]
    obtain ⟨x,k,h1,rfl,_⟩:=ha
    show rcur (rcS (upd (sav v3) x k)) (act (upd (sav v3) x k)).fR=_
    rw [act_upd,h1.2.1]
    have e:rcS (upd (sav v3) x k)=(act (sav v3)).fC:=by
     obtain ⟨m,o,on,md,sv,out,ti,l⟩:=v3
     cases on<;>rfl
    rw [e]
    exact rcur_same q0.act.cur
   refine .go (.call (do_restore qa dLoad) (.call (b:=act (upd a (rstS a) a.fLast)) (by rw [if_pos rfl];exact act_eq _) ?_))
   rw [hc]
   refine .call (by rw [if_pos rfl];rfl) (.call (by rw [if_pos rfl];rfl) ?_)
   simp only [beq_self_eq_true,Bool.and_self,if_true]
   exact .call qr.ok (.ret rfl)
end Go.Vx
