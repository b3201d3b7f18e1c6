/- Parameters: what they may be, and what keeps them so. No conditions. -/
import Derived.Test.YtmpgicplgjmjkaaGreatDoorS19
set_option linter.all false
section
namespace Go.Vx
set_option maxRecDepth 100000
theorem allI{α:Type}(d:α){l:List α}{p:α->Prop} : (∀ i,0<=i->i<ah l->p (aB d l i)) ↔ ∀ x∈l,p x:=by
 constructor
 . intro h x hx;obtain⟨k,hk,rfl⟩:=List.getElem_of_mem hx;have:=h (k:Int) ak (by simp[ah];omega);simpa[aB,hk] using this
 intro h i i0 i1;exact h _ (vF d l i0 i1)
def abS(x:List Int):Prop:=(1<=x.length/\x.length<=6)/\∀ y∈x,-1<=y/\y<=65535
def JF(p:dA):Prop:=wQ p.fL/\(p.fOpen=true->p.fL≠[])
theorem kM{α:Type}(l:List α):ah l=(l.length:Int):=rfl
theorem abl(p:dA):Says (rQ p) (JF p):=by
 unfold rQ;have hn:=bW p.fL;refine .ite (λh=>.no ?_) λh=>?_
 . rintro⟨⟨h1,_⟩,h2⟩;have h1:ah p.fL<=16:=by rw[kM];omega
   have h3 : ¬ 16<ah p.fL:=ak;cases ho:p.fOpen with
   | false=>simp[h3,ho] at h
   | true=>
    have h4:ah p.fL=0:=by simpa[h3,ho] using h
    exact h2 ho (F8.1 (by rw[kM] at h4;omega))
 have h16:ah p.fL<=16:=by grind
 have ho:p.fOpen=true->p.fL≠[]:=λe k=>by
  have h3 : ¬ 16<ah p.fL:=ak;have : ¬ ah p.fL=0:=by simpa[h3,e] using h
  rw[k] at this;exact this rfl
 refine .cut (λo=>(o = .go ()/\∀ x∈p.fL,abS x)\/(o = .out false/\¬ ∀ x∈p.fL,abS x)) ?_ ?_
 . refine .loop (λv=>0<=v/\v<=ah p.fL/\∀ i,0<=i->i<v->abS (aB [] p.fL i)) (λv=>(ah p.fL-v).toNat) ⟨ak,hn,λi a b=>by omega⟩ ?_;rintro v ⟨v0,v1,hv⟩;refine .ite (λk=>?_) (λk=>?_)
   . have k:v<ah p.fL:=by simpa using k
     have hm:=vF [] p.fL v0 k;refine .cut (λo=>(o = .go ()/\abS (aB [] p.fL v))\/(o = .out (.out (.out false))/\¬ abS (aB [] p.fL v))) ?_ ?_
     . generalize aB [] p.fL v=x;have c0:=bW x;refine .chk ⟨v0,k⟩ (.ite (λc=>.ret (.inr ⟨rfl,λq=>?_⟩)) λc=>?_)
       . have h1:=q.1;have:ah x<1\/6<ah x:=by grind
         rw[kM] at this;omega
       have c6:1<=ah x/\ah x<=6:=by grind
       refine .loop (λu=>0<=u/\u<=ah x/\∀ j,0<=j->j<u->-1<=aB 0 x j/\aB 0 x j<=65535) (λu=>(ah x-u).toNat) ⟨ak,c0,λi a b=>by omega⟩ ?_;rintro u ⟨u0,u1,hu⟩;refine .ite (λk2=>?_) (λk2=>.ret (.inl ⟨rfl,?_,?_⟩))
       . have k2:u<ah x:=by simpa using k2
         refine .chk ⟨u0,k2⟩ (.ite (λc=>.ret (.inr ⟨rfl,λq=>?_⟩)) λc=>.chk bS (.ret ⟨⟨ak,ak,λi a b=>?_⟩,by show(_-_:Int).toNat<(_-_:Int).toNat;omega⟩))
         . have:=q.2 _ (vF 0 x u0 k2);grind
         by_cases e:i=u
         . subst e;grind
         exact hu i a ak
       . simp only[kM] at c6;omega
       have k2 : ¬ u<ah x:=by simpa using k2
       exact(allI 0).1 λi a b=>hu i a ak
     rintro o (⟨rfl,c⟩|⟨rfl,c⟩)
     . refine .go (.chk bS (.ret ⟨⟨ak,ak,λi a b=>?_⟩,by show(_-_:Int).toNat<(_-_:Int).toNat;omega⟩))
       by_cases e:i=v
       . subst e;exact c
       exact hv i a ak
     exact .out (.inr ⟨rfl,λq=>c (q _ hm)⟩)
   have k : ¬ v<ah p.fL:=by simpa using k
   exact .ret (.inl ⟨rfl,(allI []).1 λi a b=>hv i a ak⟩)
 rintro o (⟨rfl,h⟩|⟨rfl,h⟩)
 . exact .go (.yes ⟨⟨by rw[kM] at h16;omega,h⟩,ho⟩)
 exact .out (by simp only[oL,false_iff];exact λq=>h q.1.2)
theorem JF.ok{p:dA}(q:JF p):ahk p=true:=by
 unfold ahk;have h1:=q.1.1;have h2:(!p.fL.isEmpty || !p.fOpen)=true:=by
  cases h:p.fOpen with
  | false=>simp
  | true=>have:=q.2 h;simp[this]
 rw[h2];simp only[Bool.and_true,ig,decide_eq_true_eq,aai];refine⟨ak,λx hx=>?_⟩;have:=(q.1.2 x hx).1;exact⟨⟨ak,ak⟩,λy hy=>(q.1.2 x hx).2 y hy⟩
theorem aeU{p:dA}(q:JF p){c:Bool}(hc:c=true){r:dA}(hr:JF r):Yields (VG p c r) JF:=by
 unfold VG;subst hc;rw[if_pos (by simp[q.ok])];exact .call ((abl p).ok q) ⟨r,bH,hr⟩
theorem alz{p:dA}(q:JF p):wQ (jE p.fL)/\jE p.fL≠[]:=by
 unfold jE;split
 . exact⟨⟨bH,λx hx=>by simp at hx;subst hx;simp⟩,bH⟩
 rename_i h;exact⟨q.1,h⟩
theorem wQ.last{l:List (List Int)}(h:wQ l)(hn:l≠[]):abS (l.getD (l.length-1) []):=by
 have h0:l.length-1<l.length:=by have:=ac3.2 hn;omega
 rw[wI,iW h0];exact h.2 _ (List.getElem_mem h0)
theorem wQ.set{l:List (List Int)}(h:wQ l)(k:Nat){x:List Int}(hx:abS x):wQ (l.set k x) :=
 ⟨by rw[List.length_set];exact h.1,λy hy=>by
  rcases List.mem_or_eq_of_mem_set hy with hy|rfl
  . exact h.2 y hy
  exact hx⟩
theorem aoU{p:dA}(q:JF p){c:Int}(h0:48<=c)(h1:c<=57):Yields (Ic p c) JF:=by
 unfold Ic;obtain⟨b1,b2⟩:=alz q;refine aeU q (by simp[h0,h1]) ⟨?_,λ_=>?_⟩
 . show wQ (if EP p.fL p.fOpen=true then J5 (jE p.fL) c else jE p.fL);split
   . unfold J5;have s:=b1.last b2;generalize (jE p.fL).getD ((jE p.fL).length-1) []=x at s ⊢;refine b1.set _ ⟨by rw[List.length_set];exact s.1,λy hy=>?_⟩;rcases List.mem_or_eq_of_mem_set hy with hy|rfl
     . exact s.2 y hy
     omega
   exact b1
 have hd:J5 (jE p.fL) c≠[]:=λh=>b2 (F8.1 (by have:=congrArg List.length h;unfold J5 at this;rw[List.length_set] at this;exact this))
 by_cases h:EP p.fL p.fOpen=true
 . simp only[h,if_true];exact hd
 simp only[h];exact b2
theorem arx{p:dA}(q:JF p):Yields (Lp p) JF:=by
 unfold Lp;obtain⟨b1,b2⟩:=alz q;refine aeU q rfl ⟨?_,λ_=>?_⟩
 . show wQ (if (jE p.fL).length=16 then jE p.fL else jE p.fL++[[-1]]);split
   . exact b1
   refine⟨by have:=b1.1;simp;omega,λx hx=>?_⟩;rcases CJ.1 hx with hx|hx
   . exact b1.2 x hx
   simp at hx;subst hx;simp
 show(if (jE p.fL).length=16 then jE p.fL else jE p.fL++[[-1]])≠[];split
 . exact b2
 simp
theorem as7{p:dA}(q:JF p):Yields (N7 p) JF:=by
 unfold N7;obtain⟨b1,b2⟩:=alz q;refine aeU q rfl ⟨?_,λ_=>?_⟩
 . show wQ (if EP p.fL p.fOpen=true/\((jE p.fL).getD ((jE p.fL).length-1) []).length<6 then D9 (jE p.fL) else jE p.fL);split
   . rename_i h;unfold D9;have s:=b1.last b2;have h6:=h.2;generalize (jE p.fL).getD ((jE p.fL).length-1) []=x at s h6 ⊢;refine b1.set _ ⟨yh,λy hy=>?_⟩;rcases CJ.1 hy with hy|hy
     . exact s.2 y hy
     simp at hy;omega
   exact b1
 show(if EP p.fL p.fOpen=true/\((jE p.fL).getD ((jE p.fL).length-1) []).length<6 then D9 (jE p.fL) else jE p.fL)≠[];split
 . unfold D9;simpa using b2
 exact b2
end Go.Vx
end
section
namespace Go.Vx
set_option maxRecDepth 100000
set_option maxHeartbeats 1000000
def abT(s:ByteArray)(i:Int):Prop:=(i=0/\60<=kY s i/\kY s i<=63)\/(32<=kY s i/\kY s i<=47)
structure lV (s:aT):Prop where
 lo:0<=s.lu/\s.lu<=9
 inter:bn s.dS<=2
 text:bn s.fText<=1024
 par:JF s.cO
 byt : ∀ i,0<=i->i<bn s.dS->abT s.dS i
 ground:s.lu=0->s.dS=ByteArray.empty/\s.oN=false/\s.cO.fL=[]/\s.fText=ByteArray.empty/\s.nX=0
 entry:s.lu=3->s.dS=ByteArray.empty
theorem aaj{a b:ByteArray} : ng a b=true↔a=b:=by
 unfold ng;rw[beq_iff_eq];exact⟨λh=>by
  have:=congrArg List.toArray h;apply ByteArray.ext;simpa[ByteArray.toList_eq] using this,λh=>by rw[h]⟩
theorem N8(s:aT):Says (xE s) (lV s):=by
 unfold xE;have e0:ByteArray.empty=(⟨#[]⟩:ByteArray):=rfl;refine .bind (λb=>(b=true↔((0<=s.lu/\s.lu<=9)/\bn s.dS<=2/\bn s.fText<=1024/\JF s.cO)) ) ?_ λb hb=>.ite (λk=>.no λq=>?_) λh=>?_
 . cases hc:(!(if (if (if (decide (s.lu<0))=true then true else (decide (9<s.lu)))=true then true else (decide (2<(bn s.dS))))=true then true else (decide (1024<(bn s.fText))))) with
   | true=>
    refine(abl s.cO).mono λr hr=>?_;rw[hr];grind
   | false=>
    refine⟨false,rfl,?_⟩;grind
 . have:=hb.2 ⟨q.lo,q.inter,q.text,q.par⟩;subst this;have a:=q.lo;have b:=q.inter;have c:=q.text;grind
 have hk:b=true:=by grind
 obtain⟨h1,h2,h3,h4⟩:=hb.1 hk;refine .cut (λo=>(o = .go ()/\∀ i,0<=i->i<bn s.dS->abT s.dS i)\/(o = .out false/\¬ ∀ i,0<=i->i<bn s.dS->abT s.dS i)) ?_ ?_
 . have hn:=zi s.dS;refine .loop (λv=>0<=v/\v<=bn s.dS/\∀ i,0<=i->i<v->abT s.dS i) (λv=>(bn s.dS-v).toNat) ⟨ak,hn,λi a b=>by omega⟩ ?_;rintro v ⟨v0,v1,hv⟩;refine .ite (λk=>?_) (λk=>.ret (.inl ⟨rfl,λi a b=>hv i a (by have : ¬ v<bn s.dS:=(by simpa using k);omega)⟩));have k:v<bn s.dS:=by simpa using k
   refine .chk ⟨v0,k⟩ (.ite (λc=>.ret (.inr ⟨rfl,λq=>?_⟩)) λc=>.chk bS (.ret ⟨⟨ak,ak,λi a b=>?_⟩,by show(_-_:Int).toNat<(_-_:Int).toNat;omega⟩))
   . have:=q v v0 k;unfold abT at this;grind
   by_cases e:i=v
   . subst e;unfold abT;grind
   exact hv i a ak
 rintro o (⟨rfl,h5⟩|⟨rfl,h5⟩)
 . refine .go (.ite (λk=>?_) λk=>.ite (λk2=>?_) λk2=>.yes ?_)
   . have k:s.lu=0:=by simpa using k
     refine⟨_,rfl,?_⟩;constructor
     . intro h;have h:ng s.dS (⟨#[]⟩:ByteArray)=true/\s.oN=false/\ah s.cO.fL=0/\ng s.fText (⟨#[]⟩:ByteArray)=true/\s.nX=0:=by grind
       exact⟨h1,h2,h3,h4,h5,λ_=>⟨aaj.1 h.1,h.2.1,F8.1 (by have:=h.2.2.1;rw[kM] at this;omega),aaj.1 h.2.2.2.1,h.2.2.2.2⟩,λe=>by omega⟩
     intro q;obtain⟨a,b,c,d,e⟩:=q.ground k;simp[a,b,c,d,e,e0,aaj]
   . have k2:s.lu=3:=by simpa using k2
     refine⟨_,rfl,?_⟩;show ng s.dS _=true↔_;rw[aaj];exact⟨λh=>⟨h1,h2,h3,h4,h5,λe=>by omega,λ_=>h⟩,λq=>q.entry k2⟩
   have k : ¬ s.lu=0:=by simpa using k
   have k2 : ¬ s.lu=3:=by simpa using k2
   exact⟨h1,h2,h3,h4,h5,λe=>absurd e k,λe=>absurd e k2⟩
 exact .out (by simp only[oL,false_iff];exact λq=>h5 q.byt)
end Go.Vx
end
section
namespace Go.Vx
set_option maxRecDepth 100000
set_option maxHeartbeats 1000000
theorem avC{n:Nat}(h:n<256):IntKind.wrap .u8 (n:Int)=n:=by
 unfold IntKind.wrap;simp only[show IntKind.bits .u8=8 from rfl];have:((n:Int)%2 ^ 8)=n:=ak;simp[IntKind.signed];omega
theorem Yt(l:List Int):bn (Aa l)=ah l:=by
 unfold bn Aa strOf;rw[strOfNums_size];simp[ah]
theorem aoV{a b:ByteArray}{i:Int}(i0:0<=i):kY (lY a b) i=if i<bn a then kY a i else kY b (i-bn a):=by
 unfold kY lY bn;have e:(a++b).data.toList=a.data.toList++b.data.toList:=by rw[ByteArray.data_append,Array.toList_append]
 have es:a.size=a.data.toList.length:=by show a.data.size=_;rw[Ia]
 rw[e,es,wI,List.getElem?_append];split
 . rename_i h;rw[if_pos ak,wI]
 rename_i h;rw[if_neg ak,wI,show i.toNat-a.data.toList.length=(i-(a.data.toList.length:Int)).toNat by omega]
theorem aoW{c:Int}(h:0<=c/\c<=255):kY (Aa [c]) 0=c:=by
 show((UInt8.ofNat c.toNat).toNat:Int)=c;rw[UInt8.toNat_ofNat'];omega
theorem abU(c:Int):bn (Aa [c])=1:=by rw[Yt];rfl
def Ea(l:List aG):Prop:=∀ a∈l,wQ a.cO
theorem abV:wQ []:=⟨bH,bH⟩
theorem tV:Ea []:=by intro a h;cases h
theorem VH{a:aG}(h:wQ a.cO):Ea [a]:=by
 intro b hb;simp only[fQ] at hb;subst hb;exact h
theorem Ea.app{l k:List aG}(h:Ea l)(g:Ea k):Ea (l++k):=λa ha=>(CJ.1 ha).elim (h a) (g a)
def PR(n:Int)(x:aT×List aG):Prop:=lV x.1/\Ea x.2/\ah x.2<=n
theorem as8:JF iC:=⟨abV,λh=>by cases h⟩
theorem ah7{a k:Int}(h:1<=a/\a<=9):lV (aT.mk a ByteArray.empty false iC ByteArray.empty k) :=
 ⟨⟨cB,h.2⟩,by show bn ByteArray.empty<=2;decide,by show bn ByteArray.empty<=1024;decide,as8,λi a b=>by have e:bn ByteArray.empty=0:=rfl;simp only[e] at b;omega,λe=>by simp only at e;omega,λ_=>rfl⟩
theorem vw:lV dL :=
 ⟨qZ,by show bn ByteArray.empty<=2;decide,by show bn ByteArray.empty<=1024;decide,as8,λi a b=>by have e:bn dL.dS=0:=rfl;rw[e] at b;omega,λe=>⟨rfl,rfl,rfl,rfl,rfl⟩,λ_=>rfl⟩
theorem lV.at{s:aT}(q:lV s){a:Int}(h:1<=a/\a<=9/\a≠3){p:dA}(hp:JF p):lV (aT.mk a s.dS s.oN p s.fText s.nX) :=
 ⟨⟨cB,h.2.1⟩,q.inter,q.text,hp,q.byt,λe=>by simp only at e;omega,λe=>by simp only at e;omega⟩
theorem QJ{s:aT}(q:lV s){c a:Int}(hc:(32<=c/\c<=47)\/(60<=c/\c<=63)/\s.dS=ByteArray.empty)(h:1<=a/\a<=9/\a≠3):Yields (qR s c a) lV:=by
 unfold qR;have h0:=zi s.dS;refine .ite (λk=>?_) λ_=>.ret ⟨⟨cB,h.2.1⟩,q.inter,q.text,q.par,q.byt,λe=>by simp only at e;omega,λe=>by simp only at e;omega⟩;have k:bn s.dS<2:=by simpa using k
 refine .chk (by rw[abU];exact bS) (.ret ⟨⟨cB,h.2.1⟩,?_,q.text,q.par,λi i0 i1=>?_,λe=>by simp only at e;omega,λe=>by simp only at e;omega⟩)
 . simp only[Gu,abU];omega
 simp only[Gu,abU] at i1 ⊢;unfold abT;rw[aoV i0]
 by_cases hi:i<bn s.dS
 . rw[if_pos hi];exact q.byt i i0 hi
 rw[if_neg hi,show i-bn s.dS=0 by omega,aoW ak];rcases hc with hc|⟨hc,he⟩
 . exact .inr hc
 have e:bn s.dS=0:=by rw[he];rfl
 exact .inl ⟨ak,hc⟩
theorem Yu(r:Int):Yields (wW r) (λl=>Ea l/\ah l<=1):=⟨_,rfl,VH abV,nL _⟩
theorem af8(r:Int):Yields (Dr r) (λl=>Ea l/\ah l<=1):=⟨_,rfl,VH abV,nL _⟩
theorem avD(s:aT):Yields (Me s) (λl=>Ea l/\ah l<=1):=by
 unfold Me;exact .ite (λ_=>.ret ⟨VH abV,nL _⟩) λ_=>.ite (λ_=>.ret ⟨VH abV,nL _⟩) λ_=>.ite (λ_=>.ret ⟨VH abV,nL _⟩) λ_=>.ret ⟨tV,bH⟩
theorem arz(r:Int):Yields (Fz r) (PR 1):=by
 unfold Fz;have N : ∀ {a k:Int},1<=a/\a<=9->PR 1 (aT.mk a ByteArray.empty false iC ByteArray.empty k,[]):=λh=>⟨ah7 h,tV,bH⟩
 exact .ite (λ_=>.ret (N ak)) λ_=>.ite (λ_=>.ret (N ak)) λ_=>.ite (λ_=>.ret (N ak)) λ_=>.ite (λ_=>.ret ⟨vw,tV,bH⟩) λ_=>.ite (λ_=>.ret (N ak)) λ_=>.ite (λ_=>.ret (N ak)) λ_=>.ite (λ_=>.ret (N ak)) λ_=>.bind _ (Yu r) λl hl=>.ret ⟨vw,hl⟩
theorem alA(r:Int):Yields (utf8_appendRuneNonASCII r) (λl=>ah l<=4):=by
 unfold utf8_appendRuneNonASCII;have G : ∀ n:Int,0<=n->n<=4->dY 1 n:=λn h0 h1=>vG h0 ak ak;refine .ite (λ_=>.chk ak (.chk (G _ ak ak) (.ret bH))) λ_=>.ite (λ_=>.ite (λ_=>?_) λ_=>?_) λ_=>.ite (λ_=>?_) λ_=>?_
 . exact .chk ak (.chk ak (.chk (G _ ak ak) (.ret bH)))
 . exact .ite (λ_=>.chk ak (.chk ak (.chk ak (.chk (G _ ak ak) (.ret bH))))) λ_=>.chk (G _ ak ak) (.ret bH)
 . exact .chk ak (.chk ak (.chk (G _ ak ak) (.ret bH)))
 exact .ite (λ_=>.chk ak (.chk ak (.chk ak (.chk (G _ ak ak) (.ret bH))))) λ_=>.chk (G _ ak ak) (.ret bH)
theorem avE(r:Int):Yields (Uo r) (λl=>ah l<=4):=by
 unfold Uo;refine .cut (λo=>∃ x,o = .go x) (.ite (λ_=>.ret ⟨_,rfl⟩) λ_=>.ret ⟨_,rfl⟩) ?_;rintro o ⟨x,rfl⟩;refine .go (.bind (λl=>ah l<=4) ?_ λl hl=>.ret hl);unfold CO;exact .ite (λ_=>.chk (vG ak ak ak) (.ret bH)) λ_=>.bind _ (alA _) λl hl=>.ret hl
theorem avF{s:aT}(q:lV s)(h:s.lu=7\/s.lu=8\/s.lu=9)(r:Int):Yields (MB s r) lV:=by
 unfold MB;have t0:=zi s.fText;have t1:=q.text;refine .ite (λ_=>.ret q) λ_=>.bind _ (avE r) λl hl=>?_;have l0:=bW l;refine .chk bS (.ite (λk=>?_) λ_=>.ret q);have k:bn s.fText+ah l<=1024:=by simpa using k
 refine .chk (by rw[Yt];exact bS) (.ret ⟨q.lo,q.inter,?_,q.par,q.byt,λe=>by simp only at e;omega,λe=>by simp only at e;omega⟩);simp only[Gu,Yt];exact k
theorem ac4{s:aT}(q:lV s)(c:Int):Yields (vB s c) (PR 1):=by
 unfold vB;exact .ite (λ_=>.ret ⟨vw,tV,bH⟩) λ_=>.ret ⟨vw,VH q.par.1,nL _⟩
theorem aoX{s:aT}(q:lV s){c:Int}(c0:32<=c):Yields (Dt s c) (PR 1):=by
 unfold Dt;have N : ∀ {a k:Int},1<=a/\a<=9->PR 1 (aT.mk a ByteArray.empty false iC ByteArray.empty k,[]):=λh=>⟨ah7 h,tV,bH⟩
 refine .ite (λk=>.bind _ (QJ q (.inl ⟨c0,by simpa using k⟩) ak) λv hv=>.ret ⟨hv,tV,bH⟩) λ_=>.cut (λo=>o = .go ()\/∃ x,o = .out x/\PR 1 x) ?_ ?_
 . refine .ite (λ_=>?_) λ_=>.ret (.inl rfl);have O : ∀ {x},PR 1 x->Yields (some (.out x):Option (Fl Unit (aT×List aG))) (λo=>o = .go ()\/∃ x,o = .out x/\PR 1 x):=λh=>.ret (.inr ⟨_,rfl,h⟩);exact .ite (λ_=>O (N ak)) λ_=>.ite (λ_=>O (N ak)) λ_=>.ite (λ_=>O (N ak)) λ_=>.ite (λ_=>.ite (λ_=>O (N ak)) λ_=>.ret (.inl rfl)) λ_=>.ite (λ_=>.ite (λ_=>O (N ak)) λ_=>.ret (.inl rfl)) λ_=>.ite (λ_=>O (N ak)) λ_=>.ret (.inl rfl)
 rintro o (rfl|⟨x,rfl,h⟩)
 . exact .go (.ite (λ_=>.ret ⟨vw,tV,bH⟩) λ_=>.ret ⟨vw,VH abV,nL _⟩)
 exact .out h
theorem ano{s:aT}(q:lV s){c:Int}(c0:32<=c):Yields (Bh s c) (PR 1):=by
 unfold Bh;refine .ite (λk=>.bind _ (QJ q (.inl ⟨c0,by simpa using k⟩) ak) λv hv=>.ret ⟨hv,tV,bH⟩) λk1=>.ite (λ_=>.bind _ (ac4 q c) λv hv=>.ret hv) λk2=>?_;have k1 : ¬ c<=47:=by simpa using k1
 have k2 : ¬ 64<=c:=by simpa using k2
 have A : ∀ {p:dA},JF p->Yields (some (aT.mk 4 s.dS s.oN p s.fText s.nX,[])) (PR 1):=λhp=>.ret ⟨q.at ak hp,tV,bH⟩;refine .ite (λ_=>.bind _ (arx q.par) λv hv=>A hv) λk3=>.ite (λ_=>.bind _ (as7 q.par) λv hv=>A hv) λk4=>.ite (λk5=>.bind _ (aoU q.par ak (by simpa using k5)) λv hv=>A hv) λk5=>.ite (λk6=>?_) λ_=>.ret ⟨q.at ak q.par,tV,bH⟩;have k3 : ¬ c=59:=by simpa using k3
 have k4 : ¬ c=58:=by simpa using k4
 have k5 : ¬ c<=57:=by simpa using k5
 exact .bind _ (QJ q (.inr ⟨ak,q.entry (by simpa using k6)⟩) ak) λv hv=>.ret ⟨hv,tV,bH⟩
theorem anp{s:aT}(q:lV s){c:Int}(c0:32<=c):Yields (Bj s c) (PR 1):=by
 unfold Bj;refine .cut (λo=>o = .go ()\/∃ x,o = .out x/\PR 1 x) (.cut (λo=>∃ b,o = .go b) (.ite (λ_=>.ret ⟨_,rfl⟩) λ_=>.ret ⟨_,rfl⟩) ?_) ?_
 . rintro o ⟨b,rfl⟩;refine .go (.ite (λ_=>.bind _ (aoX q c0) λv hv=>.ret (.inr ⟨_,rfl,hv⟩)) λ_=>.cut (λo=>∃ b,o = .go b) (.ite (λ_=>.ret ⟨_,rfl⟩) λ_=>.ret ⟨_,rfl⟩) ?_);rintro o ⟨b,rfl⟩;refine .go (.ite (λ_=>.bind _ (ano q c0) λv hv=>.ret (.inr ⟨_,rfl,hv⟩)) λ_=>.ite (λ_=>.ite (λk=>.bind _ (QJ q (.inl ⟨c0,by simpa using k⟩) ak) λv hv=>.ret (.inr ⟨_,rfl,hv,tV,bH⟩)) λ_=>.ite (λ_=>.ret (.inr ⟨_,rfl,q.at ak q.par,tV,bH⟩)) λ_=>.bind _ (ac4 q c) λv hv=>.ret (.inr ⟨_,rfl,hv⟩)) λ_=>.ite (λ_=>.ite (λ_=>.ret (.inr ⟨_,rfl,vw,tV,bH⟩)) λ_=>.ret (.inr ⟨_,rfl,q,tV,bH⟩)) λ_=>.ret (.inl rfl))
 rintro o (rfl|⟨x,rfl,h⟩)
 . exact .go (.bind _ (af8 _) λl hl=>.ret ⟨vw,hl⟩)
 exact .out h
theorem as9{s:aT}(q:lV s)(r:Int):Yields (uU s r) (PR 2):=by
 unfold uU;refine .cut (λo=>(∃ x,o = .out x/\PR 1 x)\/∃ a n,o = .go (a,n)/\Ea a/\ah a<=1/\lV n) ?_ ?_
 . refine .call ((N8 s).ok q) (.ite (λh=>by cases h) λ_=>.ite (λ_=>.bind _ (Yu r) λl hl=>.ret (.inl ⟨_,rfl,vw,hl⟩)) λk1=>.ite (λ_=>.ret (.inr ⟨_,_,rfl,tV,bH,ah7 ak⟩)) λk2=>.ite (λ_=>.bind _ (arz r) λv hv=>.ret (.inr ⟨_,_,rfl,hv.2.1,hv.2.2,hv.1⟩)) λk3=>.ite (λ_=>.ret (.inr ⟨_,_,rfl,tV,bH,vw⟩)) λ_=>.bind (λb=>b=true->s.lu=7\/s.lu=8\/s.lu=9) ⟨_,rfl,λh=>by grind⟩ λb hb=>.ite (λh=>.bind _ (avF q (hb h) r) λv hv=>.ret (.inl ⟨_,rfl,hv,tV,bH⟩)) λ_=>.ite (λ_=>.bind _ (Yu r) λl hl=>.ret (.inl ⟨_,rfl,q,hl⟩)) λk4=>.ite (λ_=>.ret (.inl ⟨_,rfl,q,tV,bH⟩)) λk5=>.ite (λ_=>.bind _ (af8 r) λl hl=>.ret (.inl ⟨_,rfl,vw,hl⟩)) λk6=>?_);have h6:0<=r/\r<=159:=by grind
   have h4:31<r:=by grind
   have hw:IntKind.wrap .u8 r=r:=by
    obtain⟨n,rfl⟩ : ∃ n:Nat,r=n:=⟨r.toNat,ak⟩
    have h8:n<256:=ak;exact avC h8
   rw[hw];exact .bind _ (anp q ak) λv hv=>.ret (.inl ⟨_,rfl,hv⟩)
 rintro o (⟨x,rfl,h⟩|⟨a,n,rfl,h1,h2,h3⟩)
 . exact .out ⟨h.1,h.2.1,by have:=h.2.2;omega⟩
 refine .go (.bind _ (avD s) λl hl=>?_);have l0:=bW l;have a0:=bW a;have l1:=hl.2;exact .chk (vG ak ak ak) (.ret ⟨h3,hl.1.app h1,by simp only[bK];omega⟩)
end Go.Vx
end
section
namespace Go.Vx
set_option maxRecDepth 100000
set_option maxHeartbeats 1000000
noncomputable def O4(s:aT)(r:Int):aT×List aG:=(uU s r).getD (dL,[])
theorem aqt{s:aT}(q:lV s)(r:Int):uU s r=some (O4 s r)/\PR 2 (O4 s r):=by
 obtain⟨x,h1,h2⟩:=as9 q r;have e:O4 s r=x:=by unfold O4;rw[h1];rfl
 rw[e];exact⟨h1,h2⟩
noncomputable def pQ:aT->List Int->aT×List aG
 | s,[]=>(s,[])
 | s,r::l=>((pQ (O4 s r).1 l).1,(O4 s r).2++(pQ (O4 s r).1 l).2)
theorem abW : ∀ (l k:List Int) (s:aT),pQ s (l++k)=((pQ (pQ s l).1 k).1,(pQ s l).2++(pQ (pQ s l).1 k).2)
 | [],k,s=>by simp[pQ]
 | r::l,k,s=>by
  show((pQ (O4 s r).1 (l++k)).1,(O4 s r).2++(pQ (O4 s r).1 (l++k)).2)=_;rw[abW l k];simp only[pQ,CP]
theorem Yv : ∀ (l:List Int) (s:aT),lV s->lV (pQ s l).1/\Ea (pQ s l).2/\ah (pQ s l).2<=2*ah l
 | [],s,q=>⟨q,tV,by simp[pQ]⟩
 | r::l,s,q=>by
  obtain⟨_,h1,h2,h3⟩:=aqt q r;obtain⟨g1,g2,g3⟩:=Yv l _ h1;exact⟨g1,h2.app g2,by simp only[pQ,bK,bE];omega⟩
theorem aoY{l:List Int}{v:Int}(h0:0<=v)(h1:v<ah l):l.drop v.toNat=aB 0 l v::l.drop (v+1).toNat:=by
 obtain⟨k,rfl⟩ : ∃ k:Nat,v=k:=⟨v.toNat,ak⟩
 have hk:k<l.length:=by rw[kM] at h1;omega
 rw[vE hk,show((k:Int)+1).toNat=k+1 by omega,Int.toNat_natCast,ac5 hk]
theorem drop_end{l:List Int}{v:Int}(h1:ah l<=v):l.drop v.toNat=[]:=by
 rw[List.drop_eq_nil_iff];rw[kM] at h1;omega
theorem aoZ{s:aT}(q:lV s){l:List Int}(hl:ah l<=100000):Ie s l=some (pQ s l):=by
 refine Yields.eq ?_;unfold Ie;have hn:=bW l;refine .call ((N8 s).ok q) (.ite (λh=>by cases h) λ_=>.cut (λo=>∃ a b,o = .go (a,b)/\pQ s l=(a,b)) ?_ ?_)
 . refine .loop (λz=>0<=z.1/\z.1<=ah l/\lV z.2.1/\ah z.2.2<=2*z.1/\pQ s l=((pQ z.2.1 (l.drop z.1.toNat)).1,z.2.2++(pQ z.2.1 (l.drop z.1.toNat)).2)) (λz=>(ah l-z.1).toNat) ⟨bH,hn,q,bH,bH⟩ ?_;rintro⟨v,t,a⟩ ⟨v0,v1,qt,ha,he⟩;simp only at v0 v1 qt ha he ⊢;refine .ite (λh=>?_) λh=>.ret ⟨t,a,rfl,?_⟩
   . have h:v<ah l:=by simpa using h
     obtain⟨e1,g1,g2,g3⟩:=aqt qt (aB 0 l v);have a0:=bW a;have g0:=bW (O4 t (aB 0 l v)).2;refine .chk ⟨v0,h⟩ (.call e1 (.chk (vG ak ak ak) (.chk bS (.ret ⟨⟨cB,cB,g1,by simp only[bK];omega,?_⟩,cB⟩))));rw[he,aoY v0 h];simp only[pQ,CP]
   have h : ¬ v<ah l:=by simpa using h
   rw[he,drop_end ak];simp[pQ]
 rintro o ⟨a,b,rfl,h⟩;exact .go (.ret h.symm)
end Go.Vx
end
section
namespace Go.Vx
set_option maxRecDepth 100000
set_option maxHeartbeats 1000000
theorem and1{p:Prop}[Decidable p]{x y:Int} : ((if decide p=true then (x==y) else false)=true)↔(p/\x=y):=by
 by_cases h:p<;>simp[h]
theorem ao0{p:Prop}[Decidable p]{x y:Int} : ((if decide p=true then (x==y) else false)=false) ↔ ¬ (p/\x=y):=by
 by_cases h:p<;>simp[h]
theorem ata(c:Int):Yields (Gv c) (λv=>(0<=v.1/\v.1<=4)/\128<=v.2.1):=by
 unfold Gv;refine .cut (λo=>∃ n:Int,o = .go n/\0<=n/\n<=4) ?_ ?_
 . exact .ite (λ_=>.ret ⟨_,rfl,ak,ak⟩) λ_=>.ite (λ_=>.ret ⟨_,rfl,ak,ak⟩) λ_=>.ite (λ_=>.ret ⟨_,rfl,ak,ak⟩) λ_=>.ite (λ_=>.ret ⟨_,rfl,ak,ak⟩) λ_=>.ret ⟨_,rfl,ak,ak⟩
 rintro o ⟨n,rfl,h⟩;have A : ∀ {a b:Int},128<=a->Yields (some (n,a,b)) (λv:Int×Int×Int=>(0<=v.1/\v.1<=4)/\128<=v.2.1):=λh1=>.ret ⟨h,h1⟩;exact .go (.ite (λ_=>A ak) λ_=>.ite (λ_=>A ak) λ_=>.ite (λ_=>A ak) λ_=>.ite (λ_=>A ak) λ_=>A ak)
noncomputable def ld(c:Int):Int×Int×Int:=(Gv c).getD (0,0,0)
theorem alB(c:Int):Gv c=some (ld c)/\(0<=(ld c).1/\(ld c).1<=4)/\128<=(ld c).2.1:=by
 obtain⟨x,h1,h2⟩:=ata c;have e:ld c=x:=by unfold ld;rw[h1];rfl
 rw[e];exact⟨h1,h2⟩
def yM:Int->Int->Nat->List Int->Nat
 | _,_,0,_=>0
 | _,_,_+1,[]=>0
 | lo,hi,m+1,c::l=>if lo<=c/\c<=hi then yM 128 191 m l+1 else 0
theorem ah8 : ∀ (m:Nat) (l:List Int) (lo hi:Int),yM lo hi m l<=m/\yM lo hi m l<=l.length
 | 0,l,lo,hi=>by simp[yM]
 | m+1,[],lo,hi=>by simp[yM]
 | m+1,c::l,lo,hi=>by
  have:=ah8 m l 128 191;simp only[yM];split
  . simp;omega
  simp
theorem akJ : ∀ (m:Nat) (l b:List Int) (lo hi:Int),(yM lo hi m l=m\/yM lo hi m l<l.length)->yM lo hi m (l++b)=yM lo hi m l
 | 0,l,b,lo,hi,_=>by simp[yM]
 | m+1,[],b,lo,hi,h=>by simp[yM] at h
 | m+1,c::l,b,lo,hi,h=>by
  simp only[yM,aak] at h ⊢;split
  . rename_i hc;rw[if_pos hc] at h;rw[akJ m l b 128 191 (by simp at h;omega)]
  rfl
theorem ah9 : ∀ (m:Nat) (l b:List Int) (c lo hi:Int),128<=lo->c<128->yM lo hi m (l++c::b)=yM lo hi m l
 | 0,l,b,c,lo,hi,_,_=>by simp[yM]
 | m+1,[],b,c,lo,hi,h,k=>by simp only[yM,List.nil_append];rw[if_neg ak]
 | m+1,x::l,b,c,lo,hi,h,k=>by
  simp only[yM,aak];rw[ah9 m l b c 128 191 ak k]
noncomputable def bg:List Int->Int×Int
 | []=>(0,0)
 | c::l=>if (ld c).1=0 then (0,0) else ((yM (ld c).2.1 (ld c).2.2 ((ld c).1.toNat-1) l+1:Nat),(ld c).1)
theorem alC(a:List Int):0<=(bg a).1/\(bg a).1<=ah a/\(bg a).1<=(bg a).2/\(bg a).2<=4/\((bg a).1=0->(bg a).2=0):=by
 cases a with
 | nil=>simp[bg]
 | cons c l=>
  have h:=(alB c).2.1;have:=ah8 ((ld c).1.toNat-1) l (ld c).2.1 (ld c).2.2;simp only[bg,kM,tX];split
  . exact⟨bH,cB,bH,bH,bH⟩
  exact⟨cB,cB,cB,h.2,cB⟩
theorem af9(c:Int)(l:List Int):Ab (c::l)=some (bg (c::l)):=by
 refine Yields.eq ?_;unfold Ab;obtain⟨e,⟨n0,n4⟩,_⟩:=alB c;have hl:=bW l;refine .chk ⟨ak,by rw[bE];omega⟩ (.call e (.ite (λh=>.ret ?_) λh=>?_))
 . have h:(ld c).1=0:=by simpa using h
   simp[bg,h]
 have h : ¬ (ld c).1=0:=by simpa using h
 simp only[bg,if_neg h];generalize ld c=d at *;obtain⟨n,lo,hi⟩:=d;simp only at n0 n4 h ⊢;refine .cut (λo=>o = .go ((yM lo hi (n.toNat-1) l+1:Nat):Int)) (.loop (λz=>∃ k:Nat,z.2.2=k/\1<=k/\(k:Int)<=n/\k<=l.length+1/\yM z.1 z.2.1 (n.toNat-k) ((c::l).drop k)+k=yM lo hi (n.toNat-1) l+1) (λz=>(n-z.2.2).toNat) ⟨1,rfl,ak,ak,ak,rfl⟩ ?_) ?_
 . rintro⟨lo1,hi1,_⟩ ⟨k,rfl,k1,kn,kl,ek⟩;simp only at ek ⊢;have hg : ∀ h:k<(c::l).length,aB 0 (c::l) (k:Int)=(c::l)[k]:=λh=>vE h;refine .chk (λhc=>?_) (.chk (λhc=>?_) (.ite (λhc=>?_) λhc=>.ret ?_))
   . exact⟨ak,by grind⟩
   . exact⟨ak,by grind⟩
   . have hc2:((k:Int)<n/\(k:Int)<ah (c::l))/\lo1<=aB 0 (c::l) k/\aB 0 (c::l) k<=hi1:=by grind
     obtain⟨⟨c1,c2⟩,c3⟩:=hc2;have hk:k<(c::l).length:=by rw[kM] at c2;omega
     refine .chk bS (.ret ⟨⟨k+1,bH,ak,ak,by simp at hk;omega,?_⟩,cB⟩);rw[ac5 hk,show n.toNat-k=(n.toNat-(k+1))+1 by omega] at ek;rw[hg hk] at c3;simp only[yM,if_pos c3] at ek;simp only;omega
   have e0:yM lo1 hi1 (n.toNat-k) ((c::l).drop k)=0:=by
    by_cases c1:(k:Int)<n
    . by_cases c2:k<(c::l).length
      . have c3 : ¬ (lo1<=(c::l)[k]/\(c::l)[k]<=hi1):=by
         rw[← hg c2];have c4:(k:Int)<ah (c::l):=by rw[kM];omega
         grind
        rw[ac5 c2,show n.toNat-k=(n.toNat-k-1)+1 by omega];simp only[yM,if_neg c3]
      rw[show(c::l).drop k=[] by rw[List.drop_eq_nil_iff];omega];cases n.toNat-k<;>rfl
    rw[show n.toNat-k=0 by omega];rfl
   rw[e0] at ek;show(Fl.go (k:Int):Fl Int (Int×Int))=Fl.go ((yM lo hi (n.toNat-1) l+1:Nat):Int);rw[← ek];simp
 rintro o rfl;exact .go (.ret rfl)
def VI(s:kE):Prop:=s.fB=[]\/(bg s.fB).1=ah s.fB/\(bg s.fB).1<(bg s.fB).2
theorem aia(s:kE):Says (J6 s) (VI s):=by
 unfold J6 VI;cases h:s.fB with
 | nil=>exact .ite (λ_=>.yes (.inl rfl)) λk=>by simp at k
 | cons c l=>
  refine .ite (λk=>?_) λk=>.call (af9 c l) ⟨_,rfl,?_⟩
  . have k:ah (c::l)=0:=by simpa using k
    rw[kM] at k;simp at k;omega
  simp
theorem VI.len{s:kE}(q:VI s):ah s.fB<=3:=by
 rcases q with h|⟨h1,h2⟩
 . rw[h];simp
 have:=alC s.fB;omega
theorem alD{l:List Int}(h0:0<ah l)(h1:ah l<=1000000):Yields (Ac l) (λ_=>True):=by
 unfold Ac;refine .chk ⟨ak,h0⟩ (.cut (λo=>∃ x,o = .go x) (.ite (λ_=>.ret ⟨_,rfl⟩) λ_=>.ite (λ_=>.ret ⟨_,rfl⟩) λ_=>.ite (λ_=>.ret ⟨_,rfl⟩) λ_=>.ret ⟨_,rfl⟩) ?_);rintro o ⟨x,rfl⟩;refine .go (.cut (λo=>∃ x,o = .go x) (.chk ⟨ak,ak,ak⟩ (.loop (λz=>0<=z.2/\z.2<=ah l) (λz=>(ah l-z.2).toNat) ⟨bH,cB⟩ ?_)) ?_)
 . rintro⟨r,v⟩ ⟨v0,v1⟩;simp only at v0 v1 ⊢;refine .ite (λh=>?_) λ_=>.ret ⟨_,rfl⟩;have h:v<ah l-1:=by simpa using h
   exact .chk ⟨v0,by rw[dG ak ak ak];exact h⟩ (.chk ak (.chk bS (.ret ⟨⟨cB,cB⟩,cB⟩)))
 rintro o ⟨x,rfl⟩;exact .go (.ret trivial)
noncomputable def ltr(l:List Int):Int:=(Ac l).getD 0
theorem atb{l:List Int}(h0:0<ah l)(h1:ah l<=1000000):Ac l=some (ltr l):=by
 obtain⟨x,h,_⟩:=alD h0 h1;unfold ltr;rw[h];rfl
noncomputable def O5:Nat->List Int->List Int×List Int
 | 0,a=>(a,[])
 | f+1,a=>if a=[] then ([],[]) else if 0<(bg a).1/\(bg a).1=(bg a).2 then ((O5 f (a.drop (aY (bg a).1 1).toNat)).1,IntKind.wrap .i64 (ltr (a.take (bg a).2.toNat))::(O5 f (a.drop (aY (bg a).1 1).toNat)).2)
  else if 0<(bg a).1/\(bg a).1=ah a then (a,[]) else ((O5 f (a.drop (aY (bg a).1 1).toNat)).1,IntKind.wrap .i64 65533::(O5 f (a.drop (aY (bg a).1 1).toNat)).2)
theorem O6(k:Int):1<=aY k 1/\k<=aY k 1/\(1<=k->aY k 1=k)/\(k<=1->aY k 1=1):=by unfold aY;split<;>omega
theorem aga : ∀ (f g:Nat) (a:List Int),a.length<=f->a.length<=g->O5 f a=O5 g a
 | 0,g,a,h,_=>by
  have:a=[]:=F8.1 ak;subst this;cases g<;>simp[O5]
 | f+1,0,a,_,h=>by
  have:a=[]:=F8.1 ak;subst this;simp[O5]
 | f+1,g+1,a,h1,h2=>by
  have hm:=O6 (bg a).1;have:=aga f g (a.drop (aY (bg a).1 1).toNat) (by rw[zZ];omega) (by rw[zZ];omega);simp only[O5,this]
noncomputable def rU(a:List Int):List Int×List Int:=O5 a.length a
theorem Ur:rU []=([],[]):=rfl
theorem Lr{a:List Int}(h:a≠[]):rU a=if 0<(bg a).1/\(bg a).1=(bg a).2 then ((rU (a.drop (aY (bg a).1 1).toNat)).1,IntKind.wrap .i64 (ltr (a.take (bg a).2.toNat))::(rU (a.drop (aY (bg a).1 1).toNat)).2)
  else if 0<(bg a).1/\(bg a).1=ah a then (a,[]) else ((rU (a.drop (aY (bg a).1 1).toNat)).1,IntKind.wrap .i64 65533::(rU (a.drop (aY (bg a).1 1).toNat)).2):=by
 have hp:=ac3.2 h;have hm:=O6 (bg a).1;obtain⟨f,hf⟩ : ∃ f,a.length=f+1:=⟨a.length-1,ak⟩
 have:=aga f (a.drop (aY (bg a).1 1).toNat).length (a.drop (aY (bg a).1 1).toNat) (by rw[zZ];omega) (iR _);unfold rU;rw[hf];simp only[O5,if_neg h,this]
theorem anq{a:List Int}(b:List Int)(ha:a≠[])(h : ¬ (0<(bg a).1/\(bg a).1=ah a/\(bg a).1≠(bg a).2)):bg (a++b)=bg a:=by
 cases a with
 | nil=>exact absurd rfl ha
 | cons c l=>
  simp only[bg,aak,kM,tX] at h ⊢;split
  . rfl
  rename_i hn;rw[if_neg hn] at h;simp only at h;have h1:=ah8 ((ld c).1.toNat-1) l (ld c).2.1 (ld c).2.2;have h2:=(alB c).2.1;rw[akJ _ l b _ _ ak]
theorem anr(b:List Int) : ∀ (n:Nat) (a:List Int),a.length<=n->rU (a++b)=((rU ((rU a).1++b)).1,(rU a).2++(rU ((rU a).1++b)).2)
 | 0,a,h=>by
  have:a=[]:=F8.1 ak;subst this;simp[Ur]
 | n+1,a,h=>by
  by_cases ha:a=[]
  . subst ha;simp[Ur]
  have hab:a++b≠[]:=by simp[ha]
  have hq:=alC a;have hm:=O6 (bg a).1;have hp:=ac3.2 ha;have hl:ah a=(a.length:Int):=rfl;have hd:(a++b).drop (aY (bg a).1 1).toNat=a.drop (aY (bg a).1 1).toNat++b:=List.drop_append_of_le_length ak;have ih:=anr b n (a.drop (aY (bg a).1 1).toNat) (by rw[zZ];omega)
  by_cases c1:0<(bg a).1/\(bg a).1=(bg a).2
  . have e:=anq b ha (λk=>k.2.2 c1.2);have ht:(a++b).take (bg a).2.toNat=a.take (bg a).2.toNat:=List.take_append_of_le_length ak;rw[Lr hab,e,if_pos c1,hd,ht,ih,Lr ha,if_pos c1];simp
  by_cases c2:0<(bg a).1/\(bg a).1=ah a
  . rw[Lr ha,if_neg c1,if_pos c2];simp
  have e:=anq b ha (λk=>c2 ⟨k.1,k.2.1⟩);have c3 : ¬ (0<(bg a).1/\(bg a).1=ah (a++b)):=λk=>c2 ⟨k.1,by have:=k.2;rw[bK] at this;have:=bW b;omega⟩;rw[Lr hab,e,if_neg c1,if_neg c3,hd,ih,Lr ha,if_neg c1,if_neg c2];simp
theorem atc : ∀ (n:Nat) (a:List Int),a.length<=n->VI ⟨(rU a).1⟩
 | 0,a,h=>by
  have:a=[]:=F8.1 ak;subst this;exact .inl rfl
 | n+1,a,h=>by
  by_cases ha:a=[]
  . subst ha;exact .inl rfl
  have hm:=O6 (bg a).1;have hp:=ac3.2 ha;have ih:=atc n (a.drop (aY (bg a).1 1).toNat) (by rw[zZ];omega);rw[Lr ha];split
  . exact ih
  rename_i c1;split
  . rename_i c2;have:=alC a;exact .inr ⟨c2.2,by show(bg a).1<(bg a).2;omega⟩
  exact ih
theorem ao1{s:kE}(q:VI s){b:List Int}(hb:ah b<=100000):O7 s b=some (⟨(rU (s.fB++b)).1⟩,(rU (s.fB++b)).2):=by
 refine Yields.eq ?_;unfold O7;have h3:=q.len;have hs:=bW s.fB;have hn:=bW b;refine .call ((aia s).ok q) (.ite (λh=>by cases h) λ_=>.chk bS (.chk ⟨ak,ak,ak,ak⟩ (.chk (vG ak ak ak) (.chk (vG ak ak ak) ?_))));have e0:(jX 0 0++s.fB)++b=s.fB++b:=by simp[jX]
 rw[e0];have eA:ah (s.fB++b)=ah s.fB+ah b:=bK _ _;generalize hA:s.fB++b=A at *;refine .cut (λo=>(∃ l,o = .go l/\rU A=([],l))\/∃ r l,o = .out (⟨r⟩,l)/\rU A=(r,l)) ?_ ?_
 . refine .loop (λz=>0<=z.1/\0<=z.2.1/\z.1+z.2.1=ah A/\ah z.2.2<=z.1/\rU A=((rU (A.drop z.1.toNat)).1,z.2.2++(rU (A.drop z.1.toNat)).2)) (λz=>z.2.1.toNat) ⟨bH,cB,cB,bH,bH⟩ ?_;rintro⟨off,n,l⟩ ⟨o0,n0,on,hl,he⟩;simp only at o0 n0 on hl he ⊢;have l0:=bW l;have hsub:kU A off (off+n)=A.drop off.toNat:=by
    unfold kU;rw[aal (by rw[zZ];rw[kM] at on;omega)]
   refine .ite (λh=>?_) λh=>.ret (.inl ⟨l,rfl,?_⟩)
   . have h:0<n:=by simpa using h
     rw[hsub];have hc0:A.drop off.toNat≠[]:=by intro k;rw[List.drop_eq_nil_iff] at k;rw[kM] at on;omega
     have hlen:ah (A.drop off.toNat)=n:=by rw[kM,zZ];rw[kM] at on;omega
     have hbg:Ab (A.drop off.toNat)=some (bg (A.drop off.toNat)):=by
      cases hx:A.drop off.toNat with
      | nil=>exact absurd hx hc0
      | cons c x=>exact af9 c x
     have hq:=alC (A.drop off.toNat);have hm:=O6 (bg (A.drop off.toNat)).1;have hre:=Lr hc0;have hdd : ∀ m:Int,0<=m->(A.drop off.toNat).drop m.toNat=A.drop (off+m).toNat:=λm hm=>by
      rw[aam,show off.toNat+m.toNat=(off+m).toNat by omega]
     rw[hdd _ ak] at hre;refine .call hbg (.ite (λc=>?_) λc=>.ite (λc2=>?_) λc2=>?_)
     . have c:=and1.1 c;rw[if_pos c] at hre;have htk:kU A (off+0) ((off+0)+((bg (A.drop off.toNat)).2-0))=(A.drop off.toNat).take (bg (A.drop off.toNat)).2.toNat:=by
        unfold kU;congr 1
        . omega
        congr 1;omega
       rw[htk];have hlt:ah ((A.drop off.toNat).take (bg (A.drop off.toNat)).2.toNat)=(bg (A.drop off.toNat)).2:=by
        rw[kM,H9];have e:=kM (A.drop off.toNat);omega
       refine .chk ⟨ak,ak,ak⟩ (.call (atb ak ak) (.chk (vG ak ak ak) (.chk ⟨ak,ak,ak⟩ (.ret ⟨⟨cB,cB,cB,by simp only[bK,bE,bP];omega,?_⟩,cB⟩))));rw[he,hre];simp
     . have c:=ao0.1 c;have c2:0<(bg (A.drop off.toNat)).1/\(bg (A.drop off.toNat)).1=ah (A.drop off.toNat):=by rw[hlen];exact and1.1 c2
       rw[if_neg c,if_pos c2] at hre;exact .chk (vG ak ak ak) (.ret (.inr ⟨_,_,rfl,by rw[he,hre];simp⟩))
     have c:=ao0.1 c;have c2 : ¬ (0<(bg (A.drop off.toNat)).1/\(bg (A.drop off.toNat)).1=ah (A.drop off.toNat)):=by rw[hlen];exact ao0.1 c2
     rw[if_neg c,if_neg c2] at hre;refine .chk (vG ak ak ak) (.chk ⟨ak,ak,ak⟩ (.ret ⟨⟨cB,cB,cB,by simp only[bK,bE,bP];omega,?_⟩,cB⟩));rw[he,hre];simp
   have h : ¬ 0<n:=by simpa using h
   rw[he,drop_end ak,Ur];simp
 rintro o (⟨l,rfl,h⟩|⟨r,l,rfl,h⟩)
 . exact .go (.ret (by rw[h];rfl))
 exact .out (by rw[h])
end Go.Vx
end
section
namespace Go.Vx
set_option maxRecDepth 100000
set_option maxHeartbeats 1000000
noncomputable def CQ(s:ay):gI:=if s.jA=true then gI.mk [] s.aI.fK.iw else s.aI.fK
theorem aeV(t:bF):Du t=some (CQ t.fS):=by
 unfold Du CQ;cases t.fS.jA<;>rfl
structure xG (t:bF):Prop where
 u:VI t.fU
 p:lV t.fP
 s:je t.fS
 b:0<=t.iF/\t.iF<=ah (CQ t.fS).aK
theorem Yw(t:bF):Says (nY t) (xG t):=by
 have e:xG t↔VI t.fU/\lV t.fP/\je t.fS/\(0<=t.iF/\t.iF<=ah (CQ t.fS).aK):=⟨λh=>⟨h.u,h.p,h.s,h.b⟩,λh=>⟨h.1,h.2.1,h.2.2.1,h.2.2.2⟩⟩
 unfold nY;rw[e];refine .bind _ (aia t.fU) λu hu=>?_;cases u with
 | false=>exact .call (b:=false) rfl (.call (b:=false) rfl (.ite (λ_=>.no λh=>by have:=hu.2 h.1;cases this) λh=>by cases h))
 | true=>
  refine .bind _ (show Yields (if (!(!true))=true then xE t.fP else some false) (λv=>v=true↔lV t.fP) from TJ (λ_=>N8 _) λh=>by cases h) λv hv=>?_;cases v with
  | false=>exact .call (b:=false) rfl (.ite (λ_=>.no λh=>by have:=hv.2 h.2.1;cases this) λh=>by cases h)
  | true=>
   refine .bind _ (show Yields (if (!(if (!true)=true then true else (!true)))=true then rR t.fS else some false) (λv=>v=true↔je t.fS) from TJ (λ_=>akL _) λh=>by cases h) λw hw=>?_;cases w with
   | false=>exact .ite (λ_=>.no λh=>by have:=hw.2 h.2.2.1;cases this) λh=>by cases h
   | true=>
    refine .ite (λh=>by cases h) λ_=>.bind (λk=>0<=t.iF->k=CQ t.fS) (TJ (λ_=>.of (aeV t) λ_=>rfl) λh=>.ret λh2=>?_) λk hk=>.ret ?_
    . simp at h;omega
    have h1:=hu.1 rfl;have h2:=hv.1 rfl;have h3:=hw.1 rfl
    by_cases h:0<=t.iF
    . rw[hk h];simp[h,h1,h2,h3]
    simp[h]
theorem xG.ok{t:bF}(q:xG t):nY t=some true:=(Yw t).ok q
noncomputable def dn(s:ay)(d:bL)(a:aG):ay:=(sM s d a).getD s
theorem atd{s:ay}(q:je s){d:bL}(hd:M8 d){a:aG}(ha:wQ a.cO):sM s d a=some (dn s d a)/\kJ s (dn s d a):=by
 obtain⟨x,h1,h2⟩:=ayo q hd a ha;have e:dn s d a=x:=by unfold dn;rw[h1];rfl
 rw[e];exact⟨h1,h2⟩
noncomputable def VJ(d:bL):ay->List aG->ay
 | s,[]=>s
 | s,a::l=>VJ d (dn s d a) l
theorem abX(d:bL) : ∀ (l k:List aG) (s:ay),VJ d s (l++k)=VJ d (VJ d s l) k
 | [],k,s=>rfl
 | a::l,k,s=>abX d l k (dn s d a)
theorem aib{d:bL}(hd:M8 d) : ∀ (l:List aG) (s:ay),je s->Ea l->kJ s (VJ d s l)
 | [],s,q,_=>kJ.refl q
 | a::l,s,q,h=>by
  have h1:=(atd q hd (h a (iO ..))).2;exact h1.trans (aib hd l _ h1.1 λb hb=>h b (gU _ hb))
theorem ant : ∀ (n:Nat) (a:List Int),a.length<=n->(rU a).2.length<=a.length
 | 0,a,h=>by
  have:a=[]:=F8.1 ak;subst this;simp[Ur]
 | n+1,a,h=>by
  by_cases ha:a=[]
  . subst ha;simp[Ur]
  have hm:=O6 (bg a).1;have hp:=ac3.2 ha;have ih:=ant n (a.drop (aY (bg a).1 1).toNat) (by rw[zZ];omega);rw[zZ] at ih;rw[Lr ha];split
  . simp only[tX];omega
  split
  . simp
  simp only[tX];omega
noncomputable def Gw(t:bF)(b:List Int):List Int×List Int:=rU (t.fU.fB++b)
noncomputable def yu(t:bF)(b:List Int):aT×List aG:=pQ t.fP (Gw t b).2
noncomputable def Na(t:bF)(d:bL)(b:List Int):ay:=VJ d t.fS (yu t b).2
noncomputable def fed(t:bF)(d:bL)(b:List Int):bF:=bF.mk ⟨(Gw t b).1⟩ (yu t b).1 (Na t d b) (aP t.iF (ah (CQ (Na t d b)).aK))
theorem anu{l:List aG}{v:Int}(h0:0<=v)(h1:v<ah l):l.drop v.toNat=aB sN l v::l.drop (v+1).toNat:=by
 obtain⟨k,rfl⟩ : ∃ k:Nat,v=k:=⟨v.toNat,ak⟩
 have hk:k<l.length:=by rw[kM] at h1;omega
 have e:aB sN l (k:Int)=l[k]:=by simp[aB,hk]
 rw[e,show((k:Int)+1).toNat=k+1 by omega,Int.toNat_natCast,ac5 hk]
theorem O8{t:bF}(q:xG t){d:bL}(hd:M8 d){b:List Int}(hb:ah b<=10000):nZ t d b=some (fed t d b):=by
 refine Yields.eq ?_;unfold nZ;have h3:=q.u.len;have hl:ah (Gw t b).2<=10003:=by
  have:=ant _ (t.fU.fB++b) (iR _);rw[aan] at this;simp only[kM] at h3 hb ⊢;unfold Gw;omega
 obtain⟨p1,p2,p3⟩:=Yv (Gw t b).2 t.fP q.p;refine .call q.ok (.ite (λh=>by cases h) λ_=>.call (ao1 q.u ak) (.call (b:=yu t b) (aoZ q.p (show ah (Gw t b).2<=100000 by omega)) (.cut (λo=>o = .go (bF.mk ⟨(Gw t b).1⟩ (yu t b).1 (Na t d b) t.iF)) ?_ ?_)))
 . have hn:=bW (yu t b).2;have hm:ah (yu t b).2<=20006:=by show ah (pQ t.fP (Gw t b).2).2<=20006;omega
   refine .loop (λz=>0<=z.1/\z.1<=ah (yu t b).2/\∃ s,z.2=bF.mk ⟨(Gw t b).1⟩ (yu t b).1 s t.iF/\je s/\Na t d b=VJ d s ((yu t b).2.drop z.1.toNat)) (λz=>(ah (yu t b).2-z.1).toNat) ⟨bH,hn,t.fS,rfl,q.s,rfl⟩ ?_;rintro⟨v,_⟩ ⟨v0,v1,s,rfl,qs,es⟩;simp only at v0 v1 es ⊢;refine .ite (λh=>?_) λh=>.ret ?_
   . have h:v<ah (yu t b).2:=by simpa using h
     obtain⟨e1,k1⟩:=atd qs hd (p2 _ (vF sN (yu t b).2 v0 h));refine .chk ⟨v0,h⟩ (.call e1 (.chk bS (.ret ⟨⟨cB,cB,_,rfl,k1.1,?_⟩,cB⟩)));rw[es,anu v0 h];rfl
   have h : ¬ v<ah (yu t b).2:=by simpa using h
   have e:(yu t b).2.drop v.toNat=[]:=by rw[List.drop_eq_nil_iff];rw[kM] at h;omega
   show(Fl.go _:Fl _ _)=Fl.go _;rw[es,e];rfl
 rintro o rfl;refine .go ?_;unfold BM;exact .call (b:=fed t d b) (.trans (by rw[aeV];rfl) rfl) (.ret rfl)
theorem avG{t:bF}(q:xG t){d:bL}(hd:M8 d)(b:List Int):kJ t.fS (fed t d b).fS:=aib hd _ _ q.s (Yv _ _ q.p).2.1
theorem ac6{t:bF}(q:xG t){d:bL}(hd:M8 d)(b:List Int):xG (fed t d b):=by
 refine⟨atc _ _ (iR _),(Yv _ _ q.p).1,(avG q hd b).1,?_⟩;have h1:=q.b.1;have h2:=bW (CQ (Na t d b)).aK;show 0<=aP t.iF _/\aP t.iF _<=ah (CQ (Na t d b)).aK;unfold aP;split<;>omega
theorem akM(t:bF)(h:t.iF=0)(d:bL)(b c:List Int):fed (fed t d b) d c=fed t d (b++c):=by
 have eU:Gw t (b++c)=((Gw (fed t d b) c).1,(Gw t b).2++(Gw (fed t d b) c).2):=by
  unfold Gw;rw[← CP,anr c _ (t.fU.fB++b) (iR _)];rfl
 have eP:yu t (b++c)=((yu (fed t d b) c).1,(yu t b).2++(yu (fed t d b) c).2):=by
  unfold yu;rw[eU,abW];rfl
 have eS:Na t d (b++c)=Na (fed t d b) d c:=by
  unfold Na;rw[eP,abX];rfl
 have z : ∀ s:ay,aP 0 (ah (CQ s).aK)=0:=λs=>by have:=bW (CQ s).aK;unfold aP;split<;>omega
 have e0:(fed t d b).iF=0:=by show aP t.iF _=0;rw[h];exact z _
 unfold fed;rw[eU,eP,eS];congr 1;show aP (fed t d b).iF _=aP t.iF _;rw[e0,h,z,z]
end Go.Vx
end
