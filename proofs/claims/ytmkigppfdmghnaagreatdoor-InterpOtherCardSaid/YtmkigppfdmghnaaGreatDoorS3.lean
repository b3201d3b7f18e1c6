/- Grids, kept rows, cursors, sets, tab stops: what is done to them leaves what may be. No conditions. -/
import Derived.Test.YtmkigppfdmghnaaGreatDoorS2
set_option linter.all false
namespace Go.Vx
set_option maxRecDepth 100000
def RowsQ (l:List T_api_Row) (w:Int):Prop:=∀ i,0≤i→i < lenL l→RowQ (getL d_api_Row l i)∧lenL (getL d_api_Row l i).fCells=w
theorem RowsQ.set {l:List T_api_Row} {w:Int} (h:RowsQ l w) {k:Int} (h0:0≤k) {v:T_api_Row} (hv:RowQ v∧lenL v.fCells=w):RowsQ (setL l k v) w:=by
 intro i i0 i1
 rw [lenL_setL] at i1
 rw [getL_put h0 i0 i1]
 split
 · exact hv
 · exact h i i0 i1
theorem GridQ.rows {g:T_grid_Grid} (q:GridQ g):RowsQ g.fRows (lenL (getL d_api_Row g.fRows 0).fCells):=fun i a b=>⟨q.row i a b,q.wid i a b⟩
theorem GridQ.of {l:List T_api_Row} {w:Int} (h:RowsQ l w) (h1:1≤lenL l) (h2:lenL l≤1000):GridQ (T_grid_Grid.mk l) :=
 ⟨h1,h2,fun i a b=>(h i a b).2.trans (h 0 (by omega) (by omega)).2.symm,fun i a b=>(h i a b).1⟩
def GridK (g t:T_grid_Grid):Prop:=GridQ t∧lenL t.fRows=lenL g.fRows∧lenL (getL d_api_Row t.fRows 0).fCells=lenL (getL d_api_Row g.fRows 0).fCells
theorem GridK.refl {g:T_grid_Grid} (q:GridQ g):GridK g g:=⟨q,rfl,rfl⟩
theorem GridK.of {g:T_grid_Grid} (q:GridQ g) {l:List T_api_Row} (h:RowsQ l (lenL (getL d_api_Row g.fRows 0).fCells)) (hl:lenL l=lenL g.fRows):GridK g (T_grid_Grid.mk l):=by
 have h1:=q.pos;have h2:=q.top
 exact ⟨.of h (by omega) (by omega),hl,(h 0 (by omega) (by omega)).2⟩
theorem wide_same {w:Int} (h:1≤w) (h2:w≤4096):imaxI 1 (iminI w 4096)=w:=by
 unfold imaxI iminI
 (repeat' split)<;>omega
theorem glay_q {l:List T_api_Row} {w:Int} (hw:1≤w∧w≤4096) (o n:Int) (p:T_api_Pen) (h0:0≤o) (h1:0≤n) (h2:o+n≤lenL l) (hb:lenL l≤100000) (hp:PenQ p)
  (hq : ∀ i,0≤i→i < lenL l→¬ (o≤i∧i < o+n)→RowQ (getL d_api_Row l i)∧lenL (getL d_api_Row l i).fCells=w) :
  Yields (grid_lay l o n w p) (fun t=>lenL t=lenL l∧RowsQ t w):=by
 unfold grid_lay
 refine .chk ⟨h0,h1,h2⟩ (.loop (fun q=>0≤q.1∧q.1≤n∧lenL q.2=lenL l∧∀ i,0≤i→i < lenL l→¬ (o+q.1≤i∧i < o+n)→RowQ (getL d_api_Row q.2 i)∧lenL (getL d_api_Row q.2 i).fCells=w) (fun q=>(n-q.1).toNat) ⟨by simp,by simpa using h1,rfl,fun i a b c=>hq i a b (by simp only at c;omega)⟩ ?_)
 rintro ⟨v,x⟩ ⟨v0,v1,hx,hg⟩
 simp only at v0 v1 hx hg ⊢
 refine .ite (fun h=>?_) (fun h=>?_)
 · have h:v < n:=by simpa using h
   refine .bind _ (new_q w p hp) fun r hr=>.chk ⟨v0,h⟩ (.chk (inR64 (by omega) (by omega)) (.ret ⟨⟨by simp only;omega,by simp only;omega,by simp only [lenL_setL];exact hx,fun i a b c=>?_⟩,by simp only;omega⟩))
   simp only at c ⊢
   rw [getL_put (by omega) a (by omega)]
   split
   · exact ⟨hr.1,hr.2.trans (wide_same hw.1 hw.2)⟩
   · exact hg i a b (by omega)
 · have h : ¬ v < n:=by simpa using h
   exact .ret ⟨hx,fun i a b=>hg i a (by omega) (by omega)⟩
theorem usable_says (g:T_grid_Grid) (p:T_api_Pen) (hp:PenQ p):Says (grid_usable g p) (GridQ g):=by
 unfold grid_usable
 refine .bind _ (grid_says g) fun v hv=>.bind (fun r=>v=true→RowQ r) (anyO (fun _=>(new_q 1 p hp).mono fun r h _=>h.1) (fun h=>.ret (fun h2=>by rw [h] at h2;cases h2))) fun r hr=>.bind _ (.guard fun _=>rowQ_says r) fun w hw=>.ret (by grind)
theorem gmoves_says (g:T_grid_Grid) (a b:Int) (p:T_api_Pen) (hp:PenQ p):Says (grid_moves g a b p) (GridQ g∧0≤a∧a < b∧b≤lenL g.fRows):=by
 unfold grid_moves
 exact .bind _ (usable_says g p hp) fun v hv=>.ret (by grind)
theorem growQ {g:T_grid_Grid} (q:GridQ g):growOk 48 (lenL g.fRows):=grOk (by have:=q.pos;omega) (by have:=q.top;omega) (by omega)
theorem GridQ.w {g:T_grid_Grid} (q:GridQ g):1≤lenL (getL d_api_Row g.fRows 0).fCells∧lenL (getL d_api_Row g.fRows 0).fCells≤4096:=by
 have:=q.pos
 have h:=q.row 0 (by omega) (by omega)
 exact ⟨h.pos,h.top⟩
theorem gset_q {g:T_grid_Grid} (q:GridQ g) (y:Int) (r:T_api_Row):Yields (grid_Set g y r) (GridK g):=by
 unfold grid_Set
 have h1:=q.pos
 refine .cut (fun o=>o = .out g∨∃ l,o = .go l∧RowsQ l (lenL (getL d_api_Row g.fRows 0).fCells)∧lenL l=lenL g.fRows) ?_ ?_
 · refine .call ((grid_says g).ok q) (.chk (fun _=>⟨by omega,by omega⟩) (.bind _ (.guard fun _=>rowQ_says r) fun v hv=>.ite (fun _=>.ret (.inl rfl)) fun h=>?_))
   have hh:RowQ r∧0≤y∧y < lenL g.fRows∧lenL r.fCells=lenL (getL d_api_Row g.fRows 0).fCells:=by grind
   obtain ⟨hr,y0,y1,hl⟩:=hh
   unfold grid_rows
   exact .bind (fun l=>l=g.fRows) (.chk (growQ q) (.ret rfl)) fun l hll=>by
    subst hll
    exact .chk ⟨y0,y1⟩ (.ret (.inr ⟨_,rfl,q.rows.set y0 ⟨hr,hl⟩,lenL_setL _ _ _⟩))
 · rintro o (rfl | ⟨l,rfl,h1,h2⟩)
   · exact .out (GridK.refl q)
   · exact .go (.ret (GridK.of q h1 h2))
theorem clear_q {g:T_grid_Grid} (q:GridQ g) (a b:Int) (p:T_api_Pen) (hp:PenQ p):Yields (grid_Clear g a b p) (GridK g):=by
 unfold grid_Clear
 have h1:=q.pos;have h2:=q.top
 refine .call ((usable_says g p hp).ok q) (.ite (fun h=>by cases h) fun _=>?_)
 have c1:=clamp0 a (lenL g.fRows) (by omega)
 have c2:=clamp0 b (lenL g.fRows) (by omega)
 simp only
 generalize hA:imaxI 0 (iminI a (lenL g.fRows))=A at *
 generalize hB:imaxI 0 (iminI b (lenL g.fRows))=B at *
 have c3:A≤imaxI A B∧imaxI A B≤lenL g.fRows:=by unfold imaxI;split<;>omega
 unfold grid_rows
 refine .bind (fun l=>l=g.fRows) (.chk (growQ q) (.ret rfl)) fun l hll=>?_
 subst hll
 exact .chk ⟨c1.1,c3.1,c3.2⟩ (.chk ⟨by omega,by omega⟩ (.bind _ (glay_q q.w _ _ p (by omega) (by omega) (by omega) (by omega) hp fun i a b _=>q.rows i a b) fun t ht=>.chk ht.1 (.ret (GridK.of q ht.2 ht.1))))
theorem up_q {g:T_grid_Grid} (q:GridQ g) (a b n:Int) (p:T_api_Pen) (hp:PenQ p):Yields (grid_Up g a b n p) (fun t=>GridK g t.1∧lenL t.2≤1000∧∀ i,0≤i→i < lenL t.2→RowQ (getL d_api_Row t.2 i)):=by
 unfold grid_Up
 have h1:=q.pos;have h2:=q.top
 refine .bind _ (gmoves_says g a b p hp) fun v hv=>.ite (fun _=>.ret ⟨GridK.refl q,by simp,fun i x y=>by simp at y;omega⟩) fun h=>?_
 have hh:=hv.1 (by cases v<;>simp at h ⊢)
 obtain ⟨_,a0,ab,b1⟩:=hh
 have c1:=clamp0 n (b-a) (by omega)
 simp only
 generalize hA:imaxI 0 (iminI n (b-a))=m at *
 unfold grid_rows
 refine .chk (inR64 (by omega) (by omega)) (.bind (fun l=>l=g.fRows) (.chk (growQ q) (.ret rfl)) fun l hll=>?_)
 subst hll
 refine .cut (fun o=>∃ x,o = .go x∧lenL x=m∧∀ i,0≤i→i < lenL x→RowQ (getL d_api_Row x i)) ?_ ?_
 · refine .loop (fun z=>0≤z.1∧z.1≤m∧lenL z.2=z.1∧∀ i,0≤i→i < lenL z.2→RowQ (getL d_api_Row z.2 i)) (fun z=>(m-z.1).toNat) ⟨by simp,by simpa using c1.1,rfl,fun i x y=>by simp at y;omega⟩ ?_
   rintro ⟨v,x⟩ ⟨v0,v1,hx,hg⟩
   simp only at v0 v1 hx hg ⊢
   refine .ite (fun h=>?_) (fun h=>.ret ⟨x,rfl,Int.le_antisymm (by omega) (by simp at h;omega),hg⟩)
   have h:v < m:=by simpa using h
   refine .chk (inR64 (by omega) (by omega)) (.chk ⟨by omega,by omega⟩ (.chk (grOk (by omega) (by omega) (by omega)) (.chk (inR64 (by omega) (by omega)) (.ret ⟨⟨by simp only;omega,by simp only;omega,by simp only [lenL_app,lenL_cons,lenL_nil];omega,fun i y z=>?_⟩,by simp only;omega⟩))))
   simp only [lenL_app,lenL_cons,lenL_nil] at z ⊢
   rw [getL_app y]
   split
   · exact hg i y (by omega)
   · rw [getL_one (by omega)]
     exact q.row _ (by omega) (by omega)
 · rintro o ⟨gone,rfl,hgl,hgq⟩
   refine .go (.cut (fun o=>∃ x,o = .go x∧lenL x=lenL g.fRows∧RowsQ x (lenL (getL d_api_Row g.fRows 0).fCells)) ?_ ?_)
   · refine .chk (inR64 (by omega) (by omega)) (.chk (inR64 (by omega) (by omega)) (.loop (fun z=>0≤z.1∧z.1≤b-a-m∧lenL z.2=lenL g.fRows∧RowsQ z.2 (lenL (getL d_api_Row g.fRows 0).fCells)) (fun z=>(b-a-m-z.1).toNat) ⟨by simp,by simp only;omega,rfl,q.rows⟩ ?_))
     rintro ⟨v,x⟩ ⟨v0,v1,hx,hg⟩
     simp only at v0 v1 hx hg ⊢
     refine .ite (fun h=>?_) (fun h=>.ret ⟨x,rfl,hx,hg⟩)
     have h:v < b-a-m:=by simpa using h
     exact .chk (inR64 (by omega) (by omega)) (.chk (inR64 (by omega) (by omega)) (.chk (inR64 (by omega) (by omega)) (.chk ⟨by omega,by omega⟩ (.chk ⟨by omega,by omega⟩ (.chk (inR64 (by omega) (by omega)) (.ret ⟨⟨by simp only;omega,by simp only;omega,by simp only [lenL_setL];exact hx,hg.set (by omega) (q.rows _ (by omega) (by omega))⟩,by simp only;omega⟩))))))
   · rintro o ⟨x,rfl,hx,hg⟩
     refine .go (.chk (inR64 (by omega) (by omega)) (.chk ⟨by omega,by omega,by omega⟩ (.chk ⟨by omega,by omega⟩ (.bind _ (glay_q q.w _ _ p (by omega) (by omega) (by omega) (by omega) hp fun i y z _=>hg i y z) fun t ht=>.chk ht.1 (.ret ⟨GridK.of q ht.2 (ht.1.trans hx),by simp only;omega,hgq⟩)))))
theorem gdown_q {g:T_grid_Grid} (q:GridQ g) (a b n:Int) (p:T_api_Pen) (hp:PenQ p):Yields (grid_Down g a b n p) (GridK g):=by
 unfold grid_Down
 have h1:=q.pos;have h2:=q.top
 refine .bind _ (gmoves_says g a b p hp) fun v hv=>.ite (fun _=>.ret (GridK.refl q)) fun h=>?_
 have hh:=hv.1 (by cases v<;>simp at h ⊢)
 obtain ⟨_,a0,ab,b1⟩:=hh
 have c1:=clamp0 n (b-a) (by omega)
 simp only
 generalize hA:imaxI 0 (iminI n (b-a))=m at *
 unfold grid_rows
 refine .chk (inR64 (by omega) (by omega)) (.bind (fun l=>l=g.fRows) (.chk (growQ q) (.ret rfl)) fun l hll=>?_)
 subst hll
 refine .cut (fun o=>∃ x,o = .go x∧lenL x=lenL g.fRows∧RowsQ x (lenL (getL d_api_Row g.fRows 0).fCells)) ?_ ?_
 · refine .chk (inR64 (by omega) (by omega)) (.chk (inR64 (by omega) (by omega)) (.loop (fun z=>0≤z.1∧z.1≤b-a-m∧lenL z.2=lenL g.fRows∧RowsQ z.2 (lenL (getL d_api_Row g.fRows 0).fCells)) (fun z=>(b-a-m-z.1).toNat) ⟨by simp,by simp only;omega,rfl,q.rows⟩ ?_))
   rintro ⟨v,x⟩ ⟨v0,v1,hx,hg⟩
   simp only at v0 v1 hx hg ⊢
   refine .ite (fun h=>?_) (fun h=>.ret ⟨x,rfl,hx,hg⟩)
   have h:v < b-a-m:=by simpa using h
   exact .chk (inR64 (by omega) (by omega)) (.chk (inR64 (by omega) (by omega)) (.chk (inR64 (by omega) (by omega)) (.chk ⟨by omega,by omega⟩ (.chk ⟨by omega,by omega⟩ (.chk (inR64 (by omega) (by omega)) (.ret ⟨⟨by simp only;omega,by simp only;omega,by simp only [lenL_setL];exact hx,hg.set (by omega) (q.rows _ (by omega) (by omega))⟩,by simp only;omega⟩))))))
 · rintro o ⟨x,rfl,hx,hg⟩
   exact .go (.chk (inR64 (by omega) (by omega)) (.chk ⟨by omega,by omega,by omega⟩ (.chk ⟨by omega,by omega⟩ (.bind _ (glay_q q.w _ _ p (by omega) (by omega) (by omega) (by omega) hp fun i y z _=>hg i y z) fun t ht=>.chk ht.1 (.ret (GridK.of q ht.2 (ht.1.trans hx)))))))
theorem push_q {k:T_history_Kept} (q:KeptQ k) (l:List T_api_Row) (hl:lenL l≤100000):Yields (history_Push k l) (fun t=>KeptQ t∧t.fCap=k.fCap):=by
 unfold history_Push
 have h1:=q.cap;have h2:=q.len;have hn:=lenL_nn k.fRows;have hn2:=lenL_nn l
 refine .call ((kept_says k).ok q) (.ite (fun h=>by cases h) fun _=>.chk (grOk (by omega) (by omega) (by omega)) (.cut (fun o=>∃ x,o = .go x∧lenL x≤200000∧∀ i,0≤i→i < lenL x→RowQ (getL d_api_Row x i)) ?_ ?_))
 · refine .loop (fun z=>0≤z.1∧z.1≤lenL l∧lenL z.2≤200+z.1∧∀ i,0≤i→i < lenL z.2→RowQ (getL d_api_Row z.2 i)) (fun z=>(lenL l-z.1).toNat) ⟨by simp,by simpa using hn2,by simp only;omega,q.row⟩ ?_
   rintro ⟨v,x⟩ ⟨v0,v1,hx,hg⟩
   simp only at v0 v1 hx hg ⊢
   refine .ite (fun h=>?_) (fun h=>.ret ⟨x,rfl,by omega,hg⟩)
   have h:v < lenL l:=by simpa using h
   have hnx:=lenL_nn x
   refine .chk ⟨v0,h⟩ (.bind _ (rowQ_says _) fun z hz=>.ite (fun hc=>.chk (grOk (by omega) (by omega) (by omega)) (.chk (inR64 (by omega) (by omega)) (.ret ⟨⟨by simp only;omega,by simp only;omega,by simp only [lenL_app,lenL_cons,lenL_nil];omega,fun i y w=>?_⟩,by simp only;omega⟩))) fun _=>.chk (inR64 (by omega) (by omega)) (.ret ⟨⟨by simp only;omega,by simp only;omega,by simp only;omega,hg⟩,by simp only;omega⟩))
   simp only [lenL_app,lenL_cons,lenL_nil] at w ⊢
   rw [getL_app y]
   split
   · exact hg i y (by omega)
   · rw [getL_one (by omega)]
     exact hz.1 hc
 · rintro o ⟨x,rfl,hx,hg⟩
   have hnx:=lenL_nn x
   refine .go ?_
   simp only
   have hm:0≤imaxI 0 (lenL x-k.fCap)∧imaxI 0 (lenL x-k.fCap)≤lenL x∧lenL x-imaxI 0 (lenL x-k.fCap)≤k.fCap:=by unfold imaxI;split<;>omega
   generalize imaxI 0 (lenL x-k.fCap)=m at *
   refine .chk (inR64 (by omega) (by omega)) (.chk ⟨by omega,by omega,by omega⟩ (.chk ⟨by omega,by omega,by omega⟩ (.ret ⟨⟨h1,?_,fun i a b=>?_⟩,rfl⟩)))
   · simp only
     rw [lenL_sub (by omega) (by omega) (by omega)]
     omega
   · simp only at b ⊢
     rw [lenL_sub (by omega) (by omega) (by omega)] at b
     rw [getL_sub (by omega) a (by omega)]
     exact hg _ (by omega) (by omega)
theorem histnew_q (c:Int):Yields (history_New c) (fun k=>KeptQ k∧k.fCap=imaxI 0 (iminI c 200)):=by
 unfold history_New
 have h:=clamp0 c 200 (by omega)
 exact .call (b:=_) rfl (.ret ⟨⟨h,by simp only [lenL_nil];exact h.1,fun i a b=>by simp at b;omega⟩,rfl⟩)
theorem btw (v a b:Int) (h:a≤b):a≤imaxI a (iminI v b)∧imaxI a (iminI v b)≤b:=by
 unfold imaxI iminI
 constructor<;>(repeat' split)<;>omega
theorem further_q (v b l m:Int) (hv : -10000≤v∧v≤10000) (h:l≤m):Yields (cursor_further v b l m) (fun r=>l≤r∧r≤m):=by
 unfold cursor_further cursor_between
 have h1:=btw b (-4096) 4096 (by omega)
 exact .call (b:=_) rfl (.chk (inR64 (by omega) (by omega)) (.call (b:=_) rfl (.ret (btw _ _ _ h))))
theorem move_q {c:T_cursor_Cursor} {r:T_cursor_Region} (q:CurQ c r) (dy dx:Int):Yields (cursor_Move c r dy dx) (fun t=>CurQ t r):=by
 unfold cursor_Move
 have hr:=q.reg;have h1:=hr.h;have h2:=hr.w;have h3:=hr.t;have hx:=q.x;have hy:=q.y
 refine .call ((cur_says c r).ok q) (.ite (fun h=>by cases h) fun _=>?_)
 refine .cut (fun o=>∃ t b,o = .go (t,b)∧0≤t∧t < b∧b≤r.fH∧(c.fOrigin=true→t=r.fTop∧b=r.fBottom)) ?_ ?_
 · refine .call (b:=_) rfl (.ite (fun he=>.ite (fun hA=>.ite (fun hB=>.ret ⟨_,_,rfl,by omega,by omega,by omega,fun _=>⟨rfl,rfl⟩⟩) fun hB=>?_) fun hA=>.ite (fun hB=>?_) fun hB=>?_) fun he=>?_)
   · have hA:r.fTop≤c.fY:=by simpa using hA
     have hB : ¬ c.fY < r.fBottom:=by simpa using hB
     exact .ret ⟨_,_,rfl,by omega,by omega,by omega,fun ho=>by have:=q.org ho;omega⟩
   · have hA : ¬ r.fTop≤c.fY:=by simpa using hA
     exact .ret ⟨_,_,rfl,by omega,by omega,by omega,fun ho=>by have:=q.org ho;omega⟩
   · have hA : ¬ r.fTop≤c.fY:=by simpa using hA
     exact .ret ⟨_,_,rfl,by omega,by omega,by omega,fun ho=>by have:=q.org ho;omega⟩
   · refine .ret ⟨_,_,rfl,by omega,by omega,by omega,fun ho=>?_⟩
     have:r.fTop=0∧r.fBottom=r.fH:=by simp at he;omega
     omega
 · rintro o ⟨t,b,rfl,t0,tb,b1,ho⟩
   refine .go (.chk (inR64 (by omega) (by omega)) (.bind _ (further_q _ _ _ _ (by omega) (by omega)) fun y hy2=>.chk (inR64 (by omega) (by omega)) (.bind _ (further_q _ _ _ _ (by omega) (by omega)) fun x hx2=>.ret ?_)))
   exact ⟨hr,by simp only;omega,by simp only;omega,fun h=>(by cases h),fun h=>(by have:=ho h;simp only;omega),q.pen,q.set⟩
theorem to_q {c:T_cursor_Cursor} {r:T_cursor_Region} (q:CurQ c r) (y x:Int):Yields (cursor_To c r y x) (fun t=>CurQ t r):=by
 unfold cursor_To cursor_between
 have hr:=q.reg;have h1:=hr.h;have h2:=hr.w;have h3:=hr.t
 have b1:=btw x 0 (r.fW-1) (by omega)
 refine .call ((cur_says c r).ok q) (.ite (fun h=>by cases h) fun _=>.cut (fun o=>∃ v,o = .go (T_cursor_Cursor.mk c.fX v c.fWrap c.fOrigin c.fPen c.fSet)∧0≤v∧v < r.fH∧(c.fOrigin=true→r.fTop≤v∧v < r.fBottom)) (.ite (fun ho=>?_) fun ho=>?_) ?_)
 · exact .chk (inR64 (by omega) (by omega)) (.bind _ (further_q _ _ _ _ (by omega) (by omega)) fun v hv=>.ret ⟨v,rfl,by omega,by omega,fun _=>by omega⟩)
 · have:=btw y 0 (r.fH-1) (by omega)
   exact .chk (inR64 (by omega) (by omega)) (.call (b:=_) rfl (.ret ⟨_,rfl,by omega,by omega,fun h=>by rw [ho] at h;cases h⟩))
 · rintro o ⟨v,rfl,v0,v1,ho⟩
   exact .go (.chk (inR64 (by omega) (by omega)) (.call (b:=_) rfl (.ret ⟨hr,by simp only;omega,⟨v0,v1⟩,fun h=>(by cases h),ho,q.pen,q.set⟩)))
theorem column_q {c:T_cursor_Cursor} {r:T_cursor_Region} (q:CurQ c r) (x:Int):Yields (cursor_Column c r x) (fun t=>CurQ t r∧t.fY=c.fY):=by
 unfold cursor_Column cursor_between
 have hr:=q.reg;have h2:=hr.w
 have b1:=btw x 0 (r.fW-1) (by omega)
 exact .call ((cur_says c r).ok q) (.ite (fun h=>by cases h) fun _=>.chk (inR64 (by omega) (by omega)) (.call (b:=_) rfl (.ret ⟨⟨hr,by simp only;omega,q.y,fun h=>(by cases h),q.org,q.pen,q.set⟩,rfl⟩)))
theorem in_says (c:T_cursor_Cursor) (r:T_cursor_Region):Says (cursor_In c r) (CurQ c r∧r.fTop≤c.fY∧c.fY < r.fBottom):=by
 unfold cursor_In
 have ins:Says (cursor_inside c r) (r.fTop≤c.fY∧c.fY < r.fBottom):=⟨_,rfl,by grind⟩
 exact .bind _ (cur_says c r) fun v hv=>.bind _ (.guard fun _=>ins) fun w hw=>.ret (by grind)
theorem graphic_tot (r:Int):Tot (charset_Graphic r):=by
 unfold charset_Graphic
 refine .ite (fun _=>.ret) fun _=>.ite (fun h=>?_) fun _=>.ret
 have:96≤r∧r≤126:=by grind
 exact .chk (inR64 (by omega) (by omega)) (.chk ⟨by omega,by omega⟩ .ret)
theorem by_tot (f r:Int):Tot (charset_by f r):=by
 unfold charset_by charset_UK
 exact .ite (fun _=>.bind (graphic_tot r) fun _=>.ret) fun _=>.ite (fun _=>.bind (.ite (fun _=>.ret) fun _=>.ret) fun _=>.ret) fun _=>.ret
theorem map_q {s:T_charset_State} (q:SetQ s) (r:Int):Yields (charset_Map s r) (fun t=>SetQ t.1):=by
 unfold charset_Map
 have h1:=q.gl;have h2:=q.gr;have h3:=q.once
 have q0:SetQ (T_charset_State.mk s.fG s.fGL s.fGR 0):=⟨q.g,q.gl,q.gr,.inl rfl⟩
 have fin : ∀ (c:Bool) (v:Int),Yields (iteO c (some (T_charset_State.mk s.fG s.fGL s.fGR 0,v)) (some (s,v))) (fun t=>SetQ t.1):=fun c v=>.ite (fun _=>.ret q0) fun _=>.ret q
 refine .call ((set_says s).ok q) (.ite (fun h=>by cases h) fun _=>.ite (fun h=>.chk ⟨by omega,by omega⟩ (.bind _ (by_tot _ _).yields fun v _=>fin _ _)) fun _=>.ite (fun h=>.chk ⟨by omega,by omega⟩ (.bind _ (by_tot _ _).yields fun v _=>fin _ _)) fun _=>.chk (fun _=>⟨by omega,by omega⟩) (.ite (fun h=>?_) fun _=>fin _ _))
 have:160≤r∧r≤255:=by grind
 exact .chk ⟨by omega,by omega⟩ (.chk (inR64 (by omega) (by omega)) (.bind _ (by_tot _ _).yields fun v _=>fin _ _))
theorem next1_q {s:T_tabs_Stops} (q:TabQ s) (f:Int) (hf:f < s.fW-1):Yields (tabs_Next_1 f s) (fun x=>f < x∧x≤s.fW-1):=by
 unfold tabs_Next_1
 have hn:=lenL_nn s.fL;have hl:=q.len;have hw:=q.w
 refine .cut (fun o=>o = .go ()∨∃ x,o = .out x∧f < x∧x≤s.fW-1) ?_ ?_
 · refine .loop (fun v=>0≤v∧v≤lenL s.fL) (fun v=>(lenL s.fL-v).toNat) ⟨by omega,by omega⟩ ?_
   rintro v ⟨v0,v1⟩
   refine .ite (fun h=>?_) (fun _=>.ret (.inl rfl))
   have h:v < lenL s.fL:=by simpa using h
   have:=q.low v v0 h
   exact .chk ⟨v0,h⟩ (.ite (fun hx=>.ret (.inr ⟨_,rfl,by simpa using hx,by omega⟩)) fun _=>.chk (inR64 (by omega) (by omega)) (.ret ⟨⟨by omega,by omega⟩,by simp only;omega⟩))
 · rintro o (rfl | ⟨x,rfl,hx⟩)
   · exact .go (.chk (inR64 (by omega) (by omega)) (.ret ⟨hf,by omega⟩))
   · exact .out hx
theorem next_q {s:T_tabs_Stops} (q:TabQ s) (a n:Int) (hnn:n≤1000000000):Yields (tabs_Next s a n) (fun x=>0≤x∧x < s.fW):=by
 unfold tabs_Next
 have hw:=q.w
 refine .call ((tab_says s (by have:=q.len;omega)).ok q) (.ite (fun h=>by cases h) fun _=>.chk (inR64 (by omega) (by omega)) ?_)
 have c:=clamp0 a (s.fW-1) (by omega)
 refine .cut (fun o=>∃ x,o = .go x∧0≤x∧x < s.fW) ?_ ?_
 · refine .loop (fun p=>0≤p.1∧p.1 < s.fW∧0≤p.2∧p.2≤p.1+0) (fun p=>(s.fW-p.1).toNat) ⟨c.1,by simp only;omega,by simp,by simp only;omega⟩ ?_
   rintro ⟨x,i⟩ ⟨x0,x1,i0,i1⟩
   simp only at x0 x1 i0 i1 ⊢
   refine .chk (fun _=>inR64 (by omega) (by omega)) (.ite (fun h=>?_) (fun _=>.ret ⟨x,rfl,x0,x1⟩))
   have h:i < n∧x < s.fW-1:=by grind
   exact .bind _ (next1_q q x h.2) fun y hy=>.chk (inR64 (by omega) (by omega)) (.ret ⟨⟨by simp only;omega,by simp only;omega,by simp only;omega,by simp only;omega⟩,by simp only;omega⟩)
 · rintro o ⟨x,rfl,hx⟩
   exact .go (.ret hx)
theorem prev1_q {s:T_tabs_Stops} (q:TabQ s) (f:Int) (hf:0 < f):Yields (tabs_Prev_1 f s) (fun x=>0≤x∧x < f):=by
 unfold tabs_Prev_1
 have hn:=lenL_nn s.fL;have hl:=q.len;have hw:=q.w
 refine .cut (fun o=>o = .go ()∨∃ x,o = .out x∧0≤x∧x < f) ?_ ?_
 · refine .chk (inR64 (by omega) (by omega)) (.loop (fun v=>-1≤v∧v < lenL s.fL) (fun v=>(v+1).toNat) ⟨by omega,by omega⟩ ?_)
   rintro v ⟨v0,v1⟩
   refine .ite (fun h=>?_) (fun _=>.ret (.inl rfl))
   have h:0≤v:=by simpa using h
   have:=q.low v h v1
   exact .chk ⟨h,v1⟩ (.ite (fun hx=>.chk ⟨h,v1⟩ (.ret (.inr ⟨_,rfl,this.1,by simpa using hx⟩))) fun _=>.chk (inR64 (by omega) (by omega)) (.ret ⟨⟨by omega,by omega⟩,by simp only;omega⟩))
 · rintro o (rfl | ⟨x,rfl,hx⟩)
   · exact .go (.ret ⟨by omega,hf⟩)
   · exact .out hx
theorem prev_q {s:T_tabs_Stops} (q:TabQ s) (a n:Int):Yields (tabs_Prev s a n) (fun x=>0≤x∧x < s.fW):=by
 unfold tabs_Prev
 have hw:=q.w
 refine .call ((tab_says s (by have:=q.len;omega)).ok q) (.ite (fun h=>by cases h) fun _=>.chk (inR64 (by omega) (by omega)) ?_)
 have c:=clamp0 a (s.fW-1) (by omega)
 refine .cut (fun o=>∃ x,o = .go x∧0≤x∧x < s.fW) ?_ ?_
 · refine .loop (fun p=>0≤p.1∧p.1 < s.fW∧0≤p.2∧p.2+p.1≤4096) (fun p=>p.1.toNat) ⟨c.1,by simp only;omega,by simp,by simp only;omega⟩ ?_
   rintro ⟨x,i⟩ ⟨x0,x1,i0,i1⟩
   simp only at x0 x1 i0 i1 ⊢
   refine .ite (fun h=>?_) (fun _=>.ret ⟨x,rfl,x0,x1⟩)
   have h:i < n∧0 < x:=by grind
   exact .bind _ (prev1_q q x h.2) fun y hy=>.chk (inR64 (by omega) (by omega)) (.ret ⟨⟨by simp only;omega,by simp only;omega,by simp only;omega,by simp only;omega⟩,by simp only;omega⟩)
 · rintro o ⟨x,rfl,hx⟩
   exact .go (.ret hx)
end Go.Vx
