/- Rows: what is done to them leaves rows that may be. No conditions. -/
import Derived.Test.YtmkigppfdmghnaaGreatDoorS1
set_option linter.all false
namespace Go.Vx
set_option maxRecDepth 100000
def CellsQ (l:List T_api_Cell):Prop:=∀ i,0≤i→i < lenL l→CellQ (getL d_api_Cell l i)
theorem plain_q {p:T_api_Pen} {w:Int} (h:PenQ p) (hw:w=0∨w=1):CellQ (T_api_Cell.mk 0 d_Arr2_i64 w p):=by
 have z:(0:Int)≤0∧(0:Int)≤1114111∧((0:Int)≠0→(0:Int)≠0):=⟨by omega,by omega,fun h=>h⟩
 refine ⟨z,z,⟨z.1,z.2.1⟩,fun _=>rfl,h,?_⟩
 rcases hw with rfl | rfl
 · exact .inl ⟨rfl,rfl⟩
 · exact .inr (.inl rfl)
theorem blank_q {p:T_api_Pen} (h:PenQ p):CellQ (T_api_Cell.mk 0 d_Arr2_i64 1 p):=plain_q h (.inr rfl)
theorem lenL_setL {α:Type} (l:List α) (i:Int) (v:α):lenL (setL l i v)=lenL l:=by simp [lenL,setL]
theorem CellsQ.set {l:List T_api_Cell} (h:CellsQ l) {k:Int} (h0:0≤k) {v:T_api_Cell} (hv:CellQ v):CellsQ (setL l k v):=by
 intro i i0 i1
 rw [lenL_setL] at i1
 rw [getL_put h0 i0 i1]
 split
 · exact hv
 · exact h i i0 i1
theorem CellsQ.sub {l:List T_api_Cell} (h:CellsQ l) {a b:Int} (h0:0≤a) (h1:a≤b) (h2:b≤lenL l):CellsQ (subL l a b):=by
 intro i i0 i1
 rw [lenL_sub h0 h1 h2] at i1
 rw [getL_sub h0 i0 i1]
 exact h _ (by omega) (by omega)
theorem CellsQ.cpy {xs ys:List T_api_Cell} (hx:CellsQ xs) (hy:CellsQ ys) {o n:Int} (h0:0≤o) (h1:0≤n) (h2:n≤lenL ys) (h3:o+n≤lenL xs):CellsQ (cpyL xs o ys n):=by
 intro i i0 i1
 rw [lenL_cpy h0 h1 h2 h3] at i1
 rw [getL_cpy h0 h1 h2 h3 i0]
 split
 · exact hy _ (by omega) (by omega)
 · exact hx _ i0 i1
theorem mended_q (r:T_api_Row) (l:List T_api_Cell) (hl:1≤lenL l∧lenL l≤4096) (hc:CellsQ l) (hd:0≤r.fDir∧r.fDir≤2) :
  Yields (row_mended r l 0 (lenL l)) (fun t=>RowQ t∧lenL t.fCells=lenL l∧t.fDir=r.fDir∧t.fWrap=r.fWrap∧t.fExplicit=r.fExplicit):=by
 unfold row_mended
 have e0 : ∀ x:List T_api_Cell,lenL x=lenL l→subL x 0 (0+lenL l)=x:=fun x hx=>by
  rw [← hx];simp [subL,lenL]
 refine .chk ⟨by omega,by omega,by omega⟩ (.cut (fun o=>∃ x,o = .go x∧lenL x=lenL l∧CellsQ x∧∀ i,0≤i→i < lenL x→PairP x i) ?_ ?_)
 · refine .loop (fun p=>0≤p.1∧p.1≤lenL l∧lenL p.2=lenL l∧CellsQ p.2∧∀ i,0≤i→i < p.1→PairP p.2 i) (fun p=>(lenL l-p.1).toNat) ⟨by simp only;omega,by simp only;omega,rfl,hc,fun i a b=>by simp only at b;omega⟩ ?_
   rintro ⟨v,x⟩ ⟨v0,v1,hx,hq,hp⟩
   simp only at v0 v1 hx hq hp ⊢
   refine .ite (fun h=>?_) (fun h=>?_)
   · have h:v < lenL l:=by simpa using h
     rw [e0 x hx]
     refine .bind _ (lost_says v0 (by omega) (by omega)) fun z hz=>.ite (fun hc=>?_) (fun hc=>.chk (inR64 (by omega) (by omega)) (.ret ⟨⟨by simp only;omega,by simp only;omega,hx,hq,fun i a b=>?_⟩,by simp only;omega⟩))
     · have hn : ¬ PairP x v:=hz.1 hc
       refine .chk ⟨v0,h⟩ (.call (b:=_) rfl (.chk ⟨v0,h⟩ (.chk (inR64 (by omega) (by omega)) (.ret ⟨⟨by simp only;omega,by simp only;omega,by simp only [lenL_setL];exact hx,?_,fun i a b=>?_⟩,by simp only;omega⟩))))
       · exact hq.set (by omega) (blank_q (hq _ (by omega) (by omega)).2.2.2.2.1)
       · simp only at b ⊢
         have hg : ∀ j,0≤j→j < lenL l→getL d_api_Cell (setL x (0+v) (T_api_Cell.mk 0 d_Arr2_i64 1 (getL d_api_Cell x (0+v)).fPen)) j=if j=v then T_api_Cell.mk 0 d_Arr2_i64 1 (getL d_api_Cell x (0+v)).fPen else getL d_api_Cell x j:=fun j j0 j1=>by
          rw [getL_put (by omega) j0 (by omega)]
          simp
         unfold PairP
         rw [lenL_setL]
         by_cases e:i=v
         · subst e
           rw [hg i a (by omega),if_pos rfl]
           exact ⟨fun h=>by simp at h,fun h=>by simp at h⟩
         · have hpi:=hp i a (by omega)
           rw [hg i a (by omega),if_neg e]
           refine ⟨fun hw=>?_,fun hw=>?_⟩
           · have h1:=hpi.1 hw
             rw [hg _ (by omega) (by omega),if_neg (by omega)]
             exact h1
           · have h1:=hpi.2 hw
             refine ⟨h1.1,?_⟩
             rw [hg _ (by omega) (by omega)]
             by_cases e2:i+1=v
             · exfalso
               refine hn ⟨fun h0=>?_,fun h2=>?_⟩
               · rw [← e2]
                 refine ⟨by omega,?_⟩
                 rw [show i+1-1=i by omega]
                 exact hw
               · rw [← e2] at h2
                 rw [h1.2] at h2
                 cases h2
             · rw [if_neg e2]
               exact h1.2
     · simp only at b
       by_cases e:i=v
       · subst e
         have : ¬ ¬ PairP x i:=fun hn=>by rw [hz.2 hn] at hc;cases hc
         exact Classical.not_not.1 this
       · exact hp i a (by omega)
   · have h : ¬ v < lenL l:=by simpa using h
     exact .ret ⟨x,rfl,hx,hq,fun i a b=>hp i a (by omega)⟩
 · rintro o ⟨x,rfl,hx,hq,hp⟩
   refine .go (.ret ?_)
   rw [e0 x hx]
   exact ⟨⟨by simp only;omega,by simp only;omega,hd,hq,hp⟩,hx,rfl,rfl,rfl⟩
theorem cells_eq (r:T_api_Row) (hb:lenL r.fCells≤100000):Yields (row_cells r) (fun l=>lenL l=lenL r.fCells∧∀ i,0≤i→i < lenL r.fCells→getL d_api_Cell l i=getL d_api_Cell r.fCells i):=by
 unfold row_cells
 have hn:=lenL_nn r.fCells
 have e:iminI (lenL r.fCells) (lenL r.fCells)=lenL r.fCells:=by unfold iminI;split<;>rfl
 have hr:=lenL_rep d_api_Cell hn
 refine .chk (mkOk hn (by omega) (by omega)) (.ret ⟨?_,fun i a b=>?_⟩)
 · rw [e,lenL_cpy (by omega) hn (by omega) (by omega),hr]
 · rw [e,getL_cpy (by omega) hn (by omega) (by omega) a,if_pos (by omega)]
   congr 1
   omega
theorem cells_q {r:T_api_Row} (q:RowQ r):Yields (row_cells r) (fun l=>lenL l=lenL r.fCells∧CellsQ l∧∀ i,0≤i→i < lenL r.fCells→getL d_api_Cell l i=getL d_api_Cell r.fCells i) :=
 (cells_eq r (by have:=q.top;omega)).mono fun l h=>⟨h.1,fun i a b=>by rw [h.2 i a (by omega)];exact q.fit i a (by omega),h.2⟩
def RowK (r t:T_api_Row):Prop:=RowQ t∧lenL t.fCells=lenL r.fCells
theorem RowK.refl {r:T_api_Row} (q:RowQ r):RowK r r:=⟨q,rfl⟩
theorem put_q {r:T_api_Row} (q:RowQ r) (a:Int) (c:T_api_Cell):Yields (row_Put r a c) (RowK r):=by
 unfold row_Put
 have h1:=q.pos;have h2:=q.top
 refine .call ((rowQ_says r).ok q) (.bind _ (.guard fun _=>fits_says c) fun v hv=>.chk (fun h=>?_) (.ite (fun _=>.ret (RowK.refl q)) fun h=>?_))
 · have hc:CellQ c:=by grind
   have:=hc.2.2.2.2.2
   exact inR64 (by omega) (by omega)
 have hc:CellQ c:=by grind
 have hw:=hc.2.2.2.2.2
 have ha:0≤a∧a≤lenL r.fCells-c.fW∧c.fW≠0:=by grind
 refine .bind _ (cells_q q) fun l ⟨hl,hq,_⟩=>.chk ⟨ha.1,by omega⟩ (.cut (fun o=>∃ x,o = .go x∧lenL x=lenL l∧CellsQ x) ?_ ?_)
 · refine .ite (fun h2=>?_) (fun h2=>.ret ⟨_,rfl,lenL_setL _ _ _,hq.set ha.1 hc⟩)
   have h2:c.fW=2:=by simpa using h2
   refine .chk (inR64 (by omega) (by omega)) (.chk ⟨by omega,by omega⟩ (.ret ⟨_,rfl,by rw [lenL_setL,lenL_setL],(hq.set ha.1 hc).set (by omega) ?_⟩))
   exact plain_q hc.2.2.2.2.1 (.inl rfl)
 · rintro o ⟨x,rfl,hx,hxq⟩
   refine .go (.bind (RowK r) ?_ fun t ht=>.ret ht)
   rw [← hx]
   exact (mended_q r x ⟨by omega,by omega⟩ hxq q.dir).mono fun t ht=>⟨ht.1,by rw [ht.2.1];omega⟩
theorem lay_q (l:List T_api_Cell) (o n:Int) (p:T_api_Pen) (h0:0≤o) (h1:0≤n) (h2:o+n≤lenL l) (hb:lenL l≤100000) (hp:PenQ p) :
  Yields (row_lay l o n p) (fun t=>lenL t=lenL l∧∀ i,0≤i→i < lenL l→getL d_api_Cell t i=if o≤i∧i < o+n then T_api_Cell.mk 0 d_Arr2_i64 1 p else getL d_api_Cell l i):=by
 unfold row_lay
 refine .chk ⟨h0,h1,h2⟩ (.loop (fun q=>0≤q.1∧q.1≤n∧lenL q.2=lenL l∧∀ i,0≤i→i < lenL l→getL d_api_Cell q.2 i=if o≤i∧i < o+q.1 then T_api_Cell.mk 0 d_Arr2_i64 1 p else getL d_api_Cell l i) (fun q=>(n-q.1).toNat) ⟨by simp,by simpa using h1,rfl,fun i a b=>by rw [if_neg (by simp only;omega)]⟩ ?_)
 rintro ⟨v,x⟩ ⟨v0,v1,hx,hg⟩
 simp only at v0 v1 hx hg ⊢
 refine .ite (fun h=>?_) (fun h=>?_)
 · have h:v < n:=by simpa using h
   refine .call (b:=_) rfl (.chk ⟨v0,h⟩ (.chk (inR64 (by omega) (by omega)) (.ret ⟨⟨by simp only;omega,by simp only;omega,by simp only [lenL_setL];exact hx,fun i a b=>?_⟩,by simp only;omega⟩)))
   simp only
   rw [getL_put (by omega) a (by omega)]
   by_cases e:i=o+v
   · rw [if_pos e,if_pos (by omega)]
   · rw [if_neg e,hg i a b]
     by_cases e2:o≤i∧i < o+v
     · rw [if_pos e2,if_pos (by omega)]
     · rw [if_neg e2,if_neg (by omega)]
 · have h : ¬ v < n:=by simpa using h
   have:v=n:=by omega
   subst this
   exact .ret ⟨hx,hg⟩
theorem layQ {l:List T_api_Cell} (hq:CellsQ l) (o n:Int) (p:T_api_Pen) (h0:0≤o) (h1:0≤n) (h2:o+n≤lenL l) (hb:lenL l≤100000) (hp:PenQ p):Yields (row_lay l o n p) (fun t=>lenL t=lenL l∧CellsQ t) :=
 (lay_q l o n p h0 h1 h2 hb hp).mono fun t ht=>⟨ht.1,fun i a b=>by
  rw [ht.2 i a (by omega)]
  split
  · exact blank_q hp
  · exact hq i a (by omega)⟩
theorem clamp0 (x w:Int) (h:0≤w):0≤imaxI 0 (iminI x w)∧imaxI 0 (iminI x w)≤w:=by
 unfold imaxI iminI
 constructor<;>(repeat' split)<;>omega
theorem erase_q {r:T_api_Row} (q:RowQ r) (a b:Int) (p:T_api_Pen):Yields (row_Erase r a b p) (RowK r):=by
 unfold row_Erase
 have h1:=q.pos;have h2:=q.top
 refine .cut (fun o=>(o = .out r)∨∃ x,o = .go x∧lenL x=lenL r.fCells∧CellsQ x) ?_ ?_
 · refine .call ((rowQ_says r).ok q) (.bind _ (.guard fun _=>pen_says p) fun v hv=>.ite (fun _=>.ret (.inl rfl)) fun h=>.call (b:=_) rfl ?_)
   have hp:PenQ p:=by grind
   have c1:=clamp0 a (lenL r.fCells) (by omega)
   have c2:=clamp0 b (lenL r.fCells) (by omega)
   simp only
   generalize hA:imaxI 0 (iminI a (lenL r.fCells))=A at *
   generalize hB:imaxI 0 (iminI b (lenL r.fCells))=B at *
   have c3:A≤imaxI A B∧imaxI A B≤lenL r.fCells:=by unfold imaxI;split<;>omega
   refine .bind _ (cells_q q) fun l ⟨hl,hq,_⟩=>.chk ⟨c1.1,c3.1,by omega⟩ (.bind _ (layQ hq _ _ p (by omega) (by omega) (by omega) (by omega) hp) fun t ht=>.chk ht.1 (.ret (.inr ⟨t,rfl,by omega,ht.2⟩)))
 · rintro o (rfl | ⟨x,rfl,hx,hq⟩)
   · exact .out (RowK.refl q)
   · exact .go (.bind (RowK r) ((mended_q r x ⟨by omega,by omega⟩ hq q.dir).mono fun t ht=>⟨ht.1,by rw [ht.2.1];omega⟩) fun t ht=>.ret ht)
theorem moves_says (r:T_api_Row) (a b:Int) (p:T_api_Pen):Says (row_moves r a b p) (RowQ r∧PenQ p∧0≤a∧a < b∧b≤lenL r.fCells):=by
 unfold row_moves
 exact .bind _ (rowQ_says r) fun v hv=>.bind _ (.guard fun _=>pen_says p) fun w hw=>.ret (by grind)
theorem insert_q {r:T_api_Row} (q:RowQ r) (a n b:Int) (p:T_api_Pen):Yields (row_Insert r a n b p) (RowK r):=by
 unfold row_Insert
 have h1:=q.pos;have h2:=q.top
 refine .cut (fun o=>(o = .out r)∨(RowQ r∧PenQ p∧0≤a∧a < b∧b≤lenL r.fCells)∧∃ x,o = .go x∧lenL x=lenL r.fCells∧CellsQ x) ?_ ?_
 · refine .bind _ (moves_says r a b p) fun v hv=>.ite (fun _=>.ret (.inl rfl)) fun h=>?_
   have hh:RowQ r∧PenQ p∧0≤a∧a < b∧b≤lenL r.fCells:=hv.1 (by cases v<;>simp at h ⊢)
   obtain ⟨_,hp,a0,ab,b1⟩:=hh
   have c1:=clamp0 n (b-a) (by omega)
   simp only
   generalize hA:imaxI 0 (iminI n (b-a))=m at *
   refine .chk (inR64 (by omega) (by omega)) (.bind _ (cells_q q) fun l ⟨hl,hq,_⟩=>.chk (inR64 (by omega) (by omega)) (.chk ⟨by omega,by omega,by omega⟩ (.chk (inR64 (by omega) (by omega)) (.chk ⟨by omega,by omega,by omega⟩ (.ret (.inr ⟨⟨q,hp,a0,ab,b1⟩,_,rfl,?_,?_⟩))))))
   · have e:iminI (b-m-a) (b-(a+m))=b-(a+m):=by unfold iminI;split<;>omega
     rw [e,lenL_cpy (by omega) (by omega) (by rw [lenL_sub (by omega) (by omega) (by omega)];omega) (by omega),hl]
   · have e:iminI (b-m-a) (b-(a+m))=b-(a+m):=by unfold iminI;split<;>omega
     rw [e]
     exact hq.cpy (CellsQ.sub q.fit (by omega) (by omega) (by omega)) (by omega) (by omega) (by rw [lenL_sub (by omega) (by omega) (by omega)];omega) (by omega)
 · rintro o (rfl | ⟨⟨_,hp,a0,ab,b1⟩,x,rfl,hx,hq⟩)
   · exact .out (RowK.refl q)
   · have c1:=clamp0 n (b-a) (by omega)
     generalize hA:imaxI 0 (iminI n (b-a))=m at *
     refine .go (.cut (fun o=>∃ y,o = .go y∧lenL y=lenL x∧CellsQ y) (.chk (inR64 (by omega) (by omega)) (.chk ⟨by omega,by omega,by omega⟩ (.bind _ (layQ hq _ _ p (by omega) (by omega) (by omega) (by omega) hp) fun t ht=>.chk ht.1 (.ret ⟨t,rfl,ht.1,ht.2⟩)))) ?_)
     rintro o ⟨y,rfl,hy,hyq⟩
     refine .go (.bind (RowK r) ?_ fun t ht=>.ret ht)
     rw [← hy]
     exact (mended_q r y ⟨by omega,by omega⟩ hyq q.dir).mono fun t ht=>⟨ht.1,by rw [ht.2.1];omega⟩
theorem marked_q {r:T_api_Row} (q:RowQ r) {l:List T_api_Cell} (hl:lenL l=lenL r.fCells) (hg : ∀ i,0≤i→i < lenL r.fCells→getL d_api_Cell l i=getL d_api_Cell r.fCells i) {k:Int} (k0:0≤k) (k1:k < lenL r.fCells) {c:T_api_Cell} (hc:CellQ c) (hw:c.fW=(getL d_api_Cell r.fCells k).fW) :
  RowK r (T_api_Row.mk (setL l k c) r.fWrap r.fDir r.fExplicit):=by
 have e : ∀ i,0≤i→i < lenL r.fCells→getL d_api_Cell (setL l k c) i=if i=k then c else getL d_api_Cell r.fCells i:=fun i a b=>by
  rw [getL_put k0 a (by omega)]
  split
  · rfl
  · exact hg i a b
 have ew : ∀ i,0≤i→i < lenL r.fCells→(getL d_api_Cell (setL l k c) i).fW=(getL d_api_Cell r.fCells i).fW:=fun i a b=>by
  rw [e i a b]
  split
  · rename_i h;rw [h];exact hw
  · rfl
 refine ⟨⟨?_,?_,q.dir,?_,?_⟩,?_⟩
 · simp only [lenL_setL];have:=q.pos;omega
 · simp only [lenL_setL];have:=q.top;omega
 · intro i a b
   simp only [lenL_setL] at b ⊢
   rw [e i a (by omega)]
   split
   · exact hc
   · exact q.fit i a (by omega)
 · intro i a b
   simp only [lenL_setL] at b ⊢
   have hp:=q.pair i a (by omega)
   unfold PairP at hp ⊢
   rw [ew i a (by omega),lenL_setL,hl]
   refine ⟨fun h=>?_,fun h=>?_⟩
   · have h1:=hp.1 h
     exact ⟨h1.1,by rw [ew _ (by omega) (by omega)];exact h1.2⟩
   · have h1:=hp.2 h
     exact ⟨h1.1,by rw [ew _ (by omega) (by omega)];exact h1.2⟩
 · simp only [lenL_setL];exact hl
theorem mark_q {r:T_api_Row} (q:RowQ r) (a m:Int):Yields (row_Mark r a m) (RowK r):=by
 unfold row_Mark
 have h1:=q.pos;have h2:=q.top
 refine .call ((rowQ_says r).ok q) (.ite (fun _=>.ret (RowK.refl q)) fun h=>?_)
 have hh:0≤a∧a < lenL r.fCells∧1≤m∧m≤1114111:=by grind
 obtain ⟨a0,a1,m0,m1⟩:=hh
 refine .cut (fun o=>∃ k,o = .go k∧0≤k∧k < lenL r.fCells) ?_ ?_
 · refine .chk ⟨a0,a1⟩ (.ite (fun hw=>.chk (inR64 (by omega) (by omega)) (.ret ⟨_,rfl,?_,by omega⟩)) (fun _=>.ret ⟨_,rfl,a0,a1⟩))
   have hw:(getL d_api_Cell r.fCells a).fW=0:=by simpa using hw
   have:=((q.pair a a0 a1).1 hw).1
   omega
 · rintro o ⟨k,rfl,k0,k1⟩
   refine .go (.chk ⟨k0,k1⟩ (.ite (fun _=>.ret (RowK.refl q)) fun hr=>?_))
   have hr:(getL d_api_Cell r.fCells k).fR≠0:=by simpa using hr
   have hc:=q.fit k k0 k1
   obtain ⟨g1,g2,g3,g4,g5,g6⟩:=hc
   refine .cut (fun o=>(o = .go ())∨∃ t,o = .out t∧RowK r t) ?_ ?_
   · refine .chk ⟨k0,k1⟩ (.cut (fun o=>(o = .go ()∧(getL d_api_Cell r.fCells k).fM.x0≠0)∨∃ t,o = .out (.out t)∧RowK r t) ?_ ?_)
     · refine .ite (fun hx=>?_) (fun hx=>.chk (inR64 (by omega) (by omega)) (.ret (.inl ⟨rfl,by simpa using hx⟩)))
       have hx:(getL d_api_Cell r.fCells k).fM.x0=0:=by simpa using hx
       refine .bind _ (cells_q q) fun l ⟨hl,hq,hg⟩=>.chk ⟨k0,by omega⟩ (.ret (.inr ⟨_,rfl,marked_q q hl hg k0 k1 ?_ ?_⟩))
       · rw [Int.zero_add,hg k k0 k1]
         have:=g4 hx
         exact ⟨⟨by simp only;omega,by simp only;omega,fun _=>hr⟩,⟨by simp only;omega,by simp only;omega,fun _=>hr⟩,g3,fun h=>by simp only at h;omega,g5,g6⟩
       · rw [Int.zero_add,hg k k0 k1]
     · rintro o (⟨rfl,hx0⟩ | ⟨t,rfl,ht⟩)
       · refine .go (.cut (fun o=>(o = .go ())∨∃ t,o = .out (.out t)∧RowK r t) ?_ ?_)
         · refine .ite (fun hx=>?_) (fun hx=>.chk (inR64 (by omega) (by omega)) (.ret (.inl rfl)))
           refine .bind _ (cells_q q) fun l ⟨hl,hq,hg⟩=>.chk ⟨k0,by omega⟩ (.ret (.inr ⟨_,rfl,marked_q q hl hg k0 k1 ?_ ?_⟩))
           · rw [Int.zero_add,hg k k0 k1]
             exact ⟨⟨g1.1,g1.2.1,fun _=>hr⟩,⟨by simp only;omega,by simp only;omega,fun _=>hr⟩,g3,fun h=>absurd h hx0,g5,g6⟩
           · rw [Int.zero_add,hg k k0 k1]
         · rintro o (rfl | ⟨t,rfl,ht⟩)
           · exact .go (.ret (.inl rfl))
           · exact .out (.inr ⟨t,rfl,ht⟩)
       · exact .out (.inr ⟨t,rfl,ht⟩)
   · rintro o (rfl | ⟨t,rfl,ht⟩)
     · exact .go (.ret (RowK.refl q))
     · exact .out ht
theorem clamp_rng' (a n:Int) (h:1≤n):1≤imaxI 1 (iminI a n)∧imaxI 1 (iminI a n)≤n:=by
 unfold imaxI iminI
 constructor<;>(repeat' split)<;>omega
theorem new_q (w:Int) (p:T_api_Pen) (hp:PenQ p):Yields (row_New w p) (fun r=>RowQ r∧lenL r.fCells=imaxI 1 (iminI w 4096)):=by
 unfold row_New
 have hw:=clamp_rng' w 4096 (by omega)
 refine .cut (fun o=>o = .go (repL (imaxI 1 (iminI w 4096)) d_api_Cell)) (.call (b:=_) rfl (.chk (mkOk (by omega) (by omega) (by omega)) (.ret rfl))) ?_
 rintro o rfl
 generalize imaxI 1 (iminI w 4096)=n at *
 have hr:lenL (repL n d_api_Cell)=n:=lenL_rep _ (by omega)
 refine .go (.bind _ (lay_q _ 0 _ p (by omega) (by omega) (by omega) (by omega) hp) fun t ht=>.chk ht.1 (.ret ?_))
 have hg : ∀ i,0≤i→i < lenL t→getL d_api_Cell t i=T_api_Cell.mk 0 d_Arr2_i64 1 p:=fun i a b=>by
  rw [ht.2 i a (by omega),if_pos (by omega)]
 refine ⟨⟨by simp only;omega,by simp only;omega,by simp,fun i a b=>?_,fun i a b=>?_⟩,by simp only;omega⟩
 · simp only at b ⊢
   rw [hg i a b];exact blank_q hp
 · simp only at b ⊢
   unfold PairP
   rw [hg i a b]
   exact ⟨fun h=>by simp at h,fun h=>by simp at h⟩
end Go.Vx
