/- ViewChain, as a plain law: no conditions. -/
import Derived.Test.YtkaphbmifenkbaaGreatDoorVCn
import Derived.Test.YtkaphbmifenkbaaGreatDoorVTwA
set_option linter.all false
namespace Go.Vx
set_option maxRecDepth 100000
theorem viewChain_true (l:List T_api_Row) (y:Int):lapwinglaw21_ViewChain l y=some true:=by
 have hn:=lenL_nn l
 refine Yields.eq ?_
 unfold lapwinglaw21_ViewChain
 refine .call awake_true (.bind _ (few_yields l) fun b hb=>.ite (fun _=>.ret rfl) (fun h=>?_))
 obtain ⟨h6,-⟩:=hb (by simpa using h)
 clear h
 by_cases hs:view_sane l=some true∧0≤y∧y < lenL l
 · obtain ⟨hs,h0,h1⟩:=hs
   obtain ⟨a0,a1,a2,a3,a4⟩:=up_spec l 31 y h0
   obtain ⟨b0,b1,b2,b3,b4⟩:=down_spec l 32 (y+1) (by omega)
   refine .call (Chain_yes hs h0 h1 (by omega)) ?_
   dsimp only
   generalize hA:chainUp l 31 y=A at *
   generalize hB:chainDown l 32 (y+1)=B at *
   refine .ite (fun h=>by cases h) (fun _=>?_)
   refine .chk (fun _=>inR64 (by omega) (by omega)) (.ite (fun h=>?_) (fun _=>?_))
   · exfalso
     have e1:decide (A < 0)=false:=by simp;omega
     have e2:decide (lenL l < B)=false:=by simp;omega
     have e3:decide (y < A)=false:=by simp;omega
     have e4:decide (B≤y)=false:=by simp;omega
     have e5:decide (64 < B-A)=false:=by simp;omega
     simp [e1,e2,e3,e4,e5] at h
   have hw : ∀ j,A≤j→j < B-1→wrp l j:=fun j p q=>by
    by_cases e:j < y
    · exact a3 j p e
    · have:=b3 (j+1) (by omega) (by omega)
      rwa [show j+1-1=j by omega] at this
   refine .cut (fun o=>o = .go ()) ?_ (fun o ho=>by subst ho;exact .go (.ret rfl))
   refine .loop (fun i=>A≤i∧i≤B) (fun i=>(B-i).toNat) ⟨by omega,by omega⟩ ?_
   rintro i ⟨i0,i1⟩
   refine .ite (fun h=>?_) (fun _=>.ret rfl)
   have h:i < B:=by simpa using h
   refine .chk (inR64 (by omega) (by omega)) (.chk (fun _=>⟨by omega,by omega⟩) (.ite (fun hc=>?_) (fun _=>?_)))
   · exfalso
     by_cases q:i < B-1
     · have:=hw i i0 q
       unfold wrp at this
       simp [this] at hc
     · simp [q] at hc
   refine .call (Chain_yes hs (by omega) (by omega) (by omega)) ?_
   dsimp only
   refine (.chk (inR64 (by omega) (by omega)) (.ite (fun hc=>?_) (fun _=>.chk (inR64 (by omega) (by omega)) (.ret ⟨⟨by omega,by omega⟩,by show (_-_:Int).toNat < (_-_:Int).toNat;omega⟩))))
   exfalso
   by_cases q:B-A≤31
   · have eA:chainUp l 31 i=A:=up_eq l 31 i A a0 i0 (by omega) (fun j p q=>hw j p (by omega)) (by
      rcases a4 with e | e | e
      · exact .inl e
      · exact .inr e
      · omega)
     have eB:chainDown l 32 (i+1)=B:=down_eq l 32 (i+1) B (by omega) b1 (by omega) (fun j p q=>hw (j-1) (by omega) (by omega)) (by
      rcases b4 with e | e | e
      · exact .inl e
      · exact .inr e
      · omega)
     simp [eA,eB,q] at hc
   · simp [q] at hc
 · have hno:view_sane l=some false∨y < 0∨lenL l≤y:=by
    rcases sane_two l (by omega) with e | ⟨e,-⟩
    · exact .inl e
    · by_cases q:y < 0
      · exact .inr (.inl q)
      · by_cases q2:lenL l≤y
        · exact .inr (.inr q2)
        · exact absurd ⟨e,by omega,by omega⟩ hs
   refine .call (Chain_no hno (by omega)) (.ite (fun _=>.ret rfl) (fun h=>by cases h))
end Go.Vx
