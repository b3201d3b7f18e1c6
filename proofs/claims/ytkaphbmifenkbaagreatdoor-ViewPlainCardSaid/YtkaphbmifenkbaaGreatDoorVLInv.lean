/- ViewInverse and ViewPlain, as plain laws. No conditions. -/
import Derived.Test.YtkaphbmifenkbaaGreatDoorVM
import Derived.Test.YtkaphbmifenkbaaGreatDoorVTwA
set_option linter.all false
namespace Go.Vx
set_option maxRecDepth 100000
theorem place_in {l:List Int} {i:Int} (h0:0≤i) (h1:i < lenL l) (hb:lenL l≤100000):view_place l i=some (getL 0 l i):=by
 refine Yields.eq ?_
 unfold view_place
 refine .ite (fun h=>?_) (fun _=>?_)
 · have:lenL l=0:=by simpa using h
   omega
 · have e:imaxI 0 (iminI i (lenL l-1))=i:=by
    unfold imaxI iminI
    split<;>split<;>omega
   rw [e]
   exact .chk (inR64 (by omega) (by omega)) (.chk ⟨h0,h1⟩ (.ret rfl))
theorem viewInverse_true (l:List T_api_Row) (y:Int) (boxes:Bool):lapwinglaw21_ViewInverse l y boxes=some true:=by
 have hn:=lenL_nn l
 refine Yields.eq ?_
 unfold lapwinglaw21_ViewInverse
 refine .call awake_true (.bind _ (few_yields l) fun b hb=>.ite (fun _=>.ret rfl) (fun h=>?_))
 have hF:FewP l:=hb (by simpa using h)
 clear h hb
 have hl:=hF.1
 refine .call load_eq ?_
 by_cases hc:view_sane l=some false∨y < 0∨lenL l≤y
 · refine .call (Map_no boxes hc) ?_
   exact .ite (fun _=>.ret rfl) (fun h=>by cases h)
 have hs:view_sane l=some true∧RowsP l:=by
  rcases sane_two l (by omega) with h | h
  · exact absurd (.inl h) hc
  · exact h
 obtain ⟨hs,hR⟩:=hs
 have y0:0≤y:=by
  by_cases h:y < 0
  · exact absurd (.inr (.inl h)) hc
  · omega
 have y1:y < lenL l:=by
  by_cases h:lenL l≤y
  · exact absurd (.inr (.inr h)) hc
  · omega
 refine .bind _ (map_yields hF hR boxes hs y0 y1) fun x hx=>?_
 obtain ⟨ok,S,-,-⟩:=hx
 obtain ⟨x,o⟩:=x
 simp only at ok S ⊢
 subst ok
 have hr:=hR y y0 y1
 have hw:=hF.2 y y0 y1
 have hwn:=lenL_nn (getL d_api_Row l y).fCells
 have d1:decide (y < 0)=false:=decide_eq_false (by omega)
 have d2:decide (lenL l≤y)=false:=decide_eq_false (by omega)
 rw [d1,d2,S.v,S.l]
 refine .ite (fun h=>by cases h) (fun _=>.chk (fun _=>⟨y0,y1⟩) (.chk (fun _=>⟨y0,y1⟩) (.ite (fun h=>by simp at h) (fun _=>.chk ⟨y0,y1⟩ ?_))))
 refine .cut (fun q=>q = .go ()) ?_ (fun q hq=>by subst hq;exact .go (.ret rfl))
 refine .loop (fun i=>0≤i∧i≤lenL (getL d_api_Row l y).fCells) (fun i=>(lenL (getL d_api_Row l y).fCells-i).toNat) ⟨by omega,hwn⟩ ?_
 rintro i ⟨i0,i1⟩
 refine .ite (fun h=>?_) (fun _=>.ret rfl)
 have h:i < lenL (getL d_api_Row l y).fCells:=by simpa using h
 obtain ⟨a,b,c⟩:=S.lv i i0 h
 have e1:decide (getL 0 x.fL2V i < 0)=false:=decide_eq_false (by omega)
 have e2:decide (lenL (getL d_api_Row l y).fCells≤getL 0 x.fL2V i)=false:=decide_eq_false (by omega)
 have hcur:view_Cursor x i=some (getL 0 x.fL2V i):=by
  unfold view_Cursor;rw [place_in i0 (by rw [S.l];exact h) (by rw [S.l];omega)];rfl
 have hbk:view_Back x (getL 0 x.fL2V i)=some i:=by
  unfold view_Back;rw [place_in a (by rw [S.v];exact b) (by rw [S.v];omega),c];rfl
 have hwd:=S.wide i i0 h
 have hp:=(hr.pair i i0 h).2
 generalize getL 0 x.fL2V i=v at *
 refine .chk ⟨i0,h⟩ (.chk (fun _=>⟨a,b⟩) ?_)
 rw [e1,e2,c]
 refine .call (b:=v) (by simpa using hcur) (.call (b:=i) (by simpa using hbk) (.ite (fun h=>by simp at h) (fun _=>?_)))
 refine .chk ⟨y0,y1⟩ (.chk ⟨i0,h⟩ (.chk (fun _=>inR64 (by omega) (by omega)) (.chk (fun h2=>?_) (.chk (fun _=>inR64 (by omega) (by omega)) (.ite (fun h2=>?_) (fun _=>.chk (inR64 (by omega) (by omega)) (.ret ⟨⟨by omega,by omega⟩,by simp only;omega⟩)))))))
 · have h2:(getL d_api_Cell (getL d_api_Row l y).fCells i).fW=2:=by simpa using h2
   have:=hp h2
   omega
 · exfalso
   by_cases h3:(getL d_api_Cell (getL d_api_Row l y).fCells i).fW=2
   · have:=hwd h3
     simp [h3,this] at h2
   · simp [h3] at h2
theorem Paragraph_yes {d:T_ucd_Data} {l:List T_api_Row} {y:Int} (h:view_sane l=some true) (h0:0≤y) (h1:y < lenL l) (hF:FewP l) {ls:List Int} {b:Int}
  (hp:weak_Paragraph d (gatL (subL l (chainUp l 31 y) (chainDown l 32 (y+1)))) (getL d_api_Row l (chainUp l 31 y)).fDir=some (ls,b)):view_Paragraph d l y=some (gatL (subL l (chainUp l 31 y) (chainDown l 32 (y+1))),ls,b):=by
 have hl:=hF.1
 obtain ⟨c1,c2,c3,c4⟩:=chain_rng h0 h1
 have hcc:chainUp l 31 y≤chainDown l 32 (y+1):=by omega
 have hcd:chainUp l 31 y < lenL l:=by omega
 refine Yields.eq ?_
 unfold view_Paragraph
 refine .call (Chain_yes h h0 h1 (by omega)) (.ite (fun h=>by cases h) (fun _=>.chk ⟨c1,hcc,c4⟩ (.call (gat_sub hF c1 hcc c4).1 (.chk ⟨c1,hcd⟩ (.call hp (.ret rfl))))))
theorem viewPlain_true (l:List T_api_Row) (y:Int) (boxes:Bool):lapwinglaw21_ViewPlain l y boxes=some true:=by
 have hn:=lenL_nn l
 refine Yields.eq ?_
 unfold lapwinglaw21_ViewPlain
 refine .call awake_true (.bind _ (few_yields l) fun b hb=>.ite (fun _=>.ret rfl) (fun h=>?_))
 have hF:FewP l:=hb (by simpa using h)
 clear h hb
 have hl:=hF.1
 refine .call load_eq ?_
 by_cases hc:view_sane l=some false∨y < 0∨lenL l≤y
 · refine .call (Map_no boxes hc) ?_
   exact .ite (fun _=>.ret rfl) (fun h=>by simp at h)
 have hs:view_sane l=some true∧RowsP l:=by
  rcases sane_two l (by omega) with h | h
  · exact absurd (.inl h) hc
  · exact h
 obtain ⟨hs,hR⟩:=hs
 have y0:0≤y:=by
  by_cases h:y < 0
  · exact absurd (.inr (.inl h)) hc
  · omega
 have y1:y < lenL l:=by
  by_cases h:lenL l≤y
  · exact absurd (.inr (.inr h)) hc
  · omega
 refine .bind _ (map_yields hF hR boxes hs y0 y1) fun x hx=>?_
 obtain ⟨ok,S,P1,P2⟩:=hx
 obtain ⟨x,o⟩:=x
 simp only at ok S P1 P2 ⊢
 subst ok
 have hr:=hR y y0 y1
 have hw:=hF.2 y y0 y1
 have hwn:=lenL_nn (getL d_api_Row l y).fCells
 have d1:decide (y < 0)=false:=decide_eq_false (by omega)
 have d2:decide (lenL l≤y)=false:=decide_eq_false (by omega)
 rw [d1,d2]
 refine .ite (fun h=>by cases h) (fun _=>?_)
 obtain ⟨c1,c2,c3,c4⟩:=chain_rng y0 y1
 obtain ⟨g1,g2⟩:=gat_sub hF c1 (show chainUp l 31 y≤chainDown l 32 (y+1) by omega) c4
 obtain ⟨⟨ls,b⟩,hp,hb0,hpl⟩:=par_yields (r:=gatL (subL l (chainUp l 31 y) (chainDown l 32 (y+1)))) (getL d_api_Row l (chainUp l 31 y)).fDir (by omega)
 simp only at hb0 hpl
 refine .call (Paragraph_yes hs y0 y1 hF hp) ?_
 have P2':(getL d_api_Row l y).fExplicit=false→b=0→(∀ i,0≤i→i < lenL ls→getL 0 ls i=0)→PlainP (getL d_api_Row l y) 0 x:=fun he=>by
  obtain ⟨ls',b',e,q⟩:=P2 he
  rw [hp] at e
  cases e
  exact q
 clear P2
 generalize gatL (subL l (chainUp l 31 y) (chainDown l 32 (y+1)))=R at *
 have nl:=lenL_nn ls
 simp only
 refine .cut (fun q=>∃ p,q = .go p∧(p=true→b=0∧∀ i,0≤i→i < lenL ls→getL 0 ls i=0)) ?_ ?_
 · refine .loop (fun (p,i)=>0≤i∧i≤lenL ls∧(p=true→b=0∧∀ k,0≤k→k < i→getL 0 ls k=0)) (fun q=>(lenL ls-q.2).toNat) ⟨by omega,nl,fun h=>⟨by simpa using h,fun k k0 k1=>by omega⟩⟩ ?_
   rintro ⟨p,i⟩ ⟨i0,i1,ig⟩
   simp only at i0 i1 ig ⊢
   refine .ite (fun h=>?_) (fun h=>?_)
   · have h:i < lenL ls:=by simpa using h
     refine .chk (fun _=>⟨i0,h⟩) (.chk (inR64 (by omega) (by omega)) (.ret ⟨⟨by simp only;omega,by simp only;omega,fun hp=>?_⟩,by simp only;omega⟩))
     cases p with
     | false=>simp at hp
     | true =>
      obtain ⟨q1,q2⟩:=ig rfl
      have hp:getL 0 ls i=0:=by simpa using hp
      refine ⟨q1,fun k k0 k1=>?_⟩
      simp only at k1
      by_cases e:k=i
      · subst e;exact hp
      · exact q2 k k0 (by omega)
   · have h:lenL ls≤i:=by simpa using h
     exact .ret ⟨p,rfl,fun hp=>⟨(ig hp).1,fun k k0 k1=>(ig hp).2 k k0 (by omega)⟩⟩
 rintro q ⟨p,rfl,hpz⟩
 refine .go (.chk ⟨y0,y1⟩ (.chk (fun _=>⟨y0,y1⟩) (.chk ⟨y0,y1⟩ (.chk (fun _=>⟨y0,y1⟩) (.chk (fun _=>⟨y0,y1⟩) ?_)))))
 have hst : ∀ st:Bool,st=(if (if (getL d_api_Row l y).fExplicit=true then (!((getL d_api_Row l y).fDir == 1)) else false)=true then true else (if (!(getL d_api_Row l y).fExplicit)=true then p else false))→st=true→∀ i,0≤i→i < lenL (getL d_api_Row l y).fCells→getL 0 x.fV2L i=i:=by
  intro st e hst
  cases he:(getL d_api_Row l y).fExplicit with
  | true =>
   rw [he] at e
   by_cases hd:(getL d_api_Row l y).fDir=1
   · rw [e] at hst;simp [hd] at hst
   · have:=P1 he
     rw [if_neg hd] at this
     exact this.1 rfl
  | false =>
   rw [he] at e
   cases p with
   | false=>rw [e] at hst;simp at hst
   | true=>exact (P2' he (hpz rfl).1 (hpz rfl).2).1 rfl
 have htu : ∀ tu:Bool,tu=(if (getL d_api_Row l y).fExplicit=true then ((getL d_api_Row l y).fDir == 1) else false)→tu=true→∀ i,0≤i→i < lenL (getL d_api_Row l y).fCells→(getL d_api_Cell (getL d_api_Row l y).fCells i).fW=1→getL 0 x.fL2V i=lenL (getL d_api_Row l y).fCells-1-i:=by
  intro tu e htu
  cases he:(getL d_api_Row l y).fExplicit with
  | true =>
   rw [he] at e
   have hd:(getL d_api_Row l y).fDir=1:=by rw [e] at htu;simpa using htu
   have:=P1 he
   rw [if_pos hd] at this
   exact this.2 rfl
  | false=>rw [e,he] at htu;simp at htu
 refine .cut (fun q=>q = .go ()) ?_ ?_
 · rw [S.v,S.l]
   have hst:=hst _ rfl
   have htu:=htu _ rfl
   generalize (if (if (getL d_api_Row l y).fExplicit=true then (!((getL d_api_Row l y).fDir == 1)) else false)=true then true else (if (!(getL d_api_Row l y).fExplicit)=true then p else false))=st at hst ⊢
   generalize (if (getL d_api_Row l y).fExplicit=true then ((getL d_api_Row l y).fDir == 1) else false)=tu at htu ⊢
   refine .loop (fun i=>0≤i∧i≤lenL (getL d_api_Row l y).fCells) (fun i=>(lenL (getL d_api_Row l y).fCells-i).toNat) ⟨by omega,hwn⟩ ?_
   rintro i ⟨i0,i1⟩
   refine .ite (fun h=>?_) (fun _=>.ret rfl)
   have h:i < lenL (getL d_api_Row l y).fCells:=by simpa using h
   refine .cut (fun q=>q = .go ()) ?_ (fun q hq=>by subst hq;exact .go (.chk (inR64 (by omega) (by omega)) (.ret ⟨⟨by omega,by omega⟩,by simp only;omega⟩)))
   refine .chk (fun _=>⟨i0,h⟩) (.ite (fun hh=>?_) (fun _=>.chk (fun _=>⟨y0,y1⟩) (.chk (fun _=>⟨i0,h⟩) (.chk (fun _=>⟨i0,h⟩) (.chk (fun _=>inR64 (by omega) (by omega)) (.chk (fun _=>inR64 (by omega) (by omega)) (.ite (fun hh=>?_) (fun _=>.ret rfl))))))))
   · exfalso
     cases st with
     | false=>cases hh
     | true =>
      have:=hst rfl i i0 h
      rw [this] at hh;simp at hh
   · exfalso
     cases tu with
     | false=>cases hh
     | true =>
      by_cases h1:(getL d_api_Cell (getL d_api_Row l y).fCells i).fW=1
      · have:=htu rfl i i0 h h1
        rw [this,decide_eq_false (show ¬ lenL (getL d_api_Row l y).fCells≤i by omega),h1] at hh
        simp at hh
      · simp [h1] at hh
 rintro q rfl
 refine .go (.bind _ (par_yields (r:=R) b (by omega)) fun m hm=>.ret ?_)
 simp [hpl,hm.2]
end Go.Vx
