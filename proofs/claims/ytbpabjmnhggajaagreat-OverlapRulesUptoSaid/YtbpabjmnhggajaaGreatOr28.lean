import Derived.Test.YtbpabjmnhggajaaGreatOr25
namespace Go.Proofs.YtbpabjmnhggajaaGreat
set_option linter.all false
open Go.RowKit
variable {E:List (Tm × Tm)}{t:Tm}{N:aS}
abbrev KN:=List (Int × (Int × Int))
noncomputable def qG (f:Nat->List Nat->KN->Option (Option (Int × Int) × List Nat × KN)):List Nat->List Nat->KN->Int × Int->Option (Option (Int × Int) × List Nat × KN)
 |[],up,kn,q=>some (some q,up,kn)
 |x::l,up,kn,q=>match ko up x with
  |none=>none
  |some (u,r)=>match f r u kn with
   |none=>none
   |some (none,a,b)=>some (none,a,b)
   |some (some p,a,b)=>qG f l a b (min (q.1+p.1) 201,min (max q.2 (p.2+1)) 21)
noncomputable def m9 (N:aS) (sh:List (Int × Int)):Nat->List (Int × Unit)->Nat->List Nat->KN->Option (Option (Int × Int) × List Nat × KN)
 |0,_,_,_,_=>none
 |m+1,busy,r,up,kn=>match aH kn (r:Int) with
  |some q=>some (some q,up,kn)
  |none=>match aH busy (r:Int) with
   |some _=>some (none,up,kn)
   |none=>match aH sh (r:Int) with
    |none=>some (some (1,1),up,iy kn r (1,1))
    |some k=>if 0<=k then (match N[k.toNat]? with
     |none=>none
     |some (_,l)=>match qG (m9 N sh m (iy busy r ())) l up kn (1,1) with
      |none=>none
      |some (none,u,a)=>some (none,u,a)
      |some (some q,u,a)=>some (some q,u,iy a r q)) else none
mutual
def EZ:Tm->Nat
 |⟨k,i,n,a⟩=>xp a+1
def xp:List Tm->Nat
 |[]=>0
 |x::l=>max (EZ x) (xp l)
end
def oJ (t:Tm):Int × Int:=(min (cR t:Int) 201,min (EZ t:Int) 21)
def gy (N:aS) (c:Nat->Nat) (sh:Nat->Option Nat):Nat->Nat->Prop
 |0,_=>False
 |m+1,C=>∀s,sh C=some s->∀j ∈ ks N s,gy N c sh m (c j)
section
variable {N:aS}{c:Nat->Nat}{sh:Nat->Option Nat}{lo:Nat->Int}
theorem gy.succ:∀{m C:Nat},gy N c sh m C->gy N c sh (m+1) C
 |0,_,h=>h.elim
 |m+1,C,h=>λs a j b=>(h s a j b).succ
theorem gy.le {m a C:Nat}(h:gy N c sh m C) (b:m<=a):gy N c sh a C:=by
 induction b with
 |refl=>exact h
 |step _ d=>exact d.succ
theorem yx:∀{m a C:Nat},gy N c sh m C->m<=a->TF N c sh lo a C=TF N c sh lo m C
 |0,_,_,h,_=>h.elim
 |m+1,0,_,_,h=>by omega
 |m+1,a+1,C,h,d=>by
  rw[TF,TF];cases e:sh C with
  |none=>rfl
  |some s =>
   simp only[Tm.mk.injEq,true_and];exact aF_ λj b=>yx (h s e j b) (by omega)
theorem Mt {p:Nat->Prop}:∀(n:Nat),p n->∃m,p m/\∀k,k < m->¬ p k:=by
 intro n
 induction n using Nat.strongRecOn with
 |ind n a =>
  intro h;by_cases b:∃k,k < n/\p k
  ·grind
  ·grind
end
def qH (busy:List (Int × Unit)):Nat->Nat
 |0=>0
 |n+1=>qH busy n+if aH busy (n:Int)=none then 1 else 0
theorem Mu {b b':List (Int × Unit)}(h:∀i,aH b' i=none->aH b i=none):∀n,qH b' n<=qH b n
 |0=>ac_ _
 |n+1=>by
  have:=Mu h n;rw[qH,qH];by_cases e:aH b' (n:Int)=none
  ·grind
  ·grind
theorem FP {b b':List (Int × Unit)}(h:∀i,aH b' i=none->aH b i=none) {r:Nat}(a:aH b (r:Int)=none) (c:aH b' (r:Int) ≠ none):∀n,r < n->qH b' n < qH b n
 |0,d=>by omega
 |n+1,d=>by
  rw[qH,qH];by_cases e:r=n
  ·subst e;have:=Mu h r;rw[if_pos a,if_neg c];omega
  ·have:=FP h a c n (by omega);by_cases e:aH b' (n:Int)=none
   ·grind
   ·grind
theorem JM (b:List (Int × Unit)):∀n,qH b n<=n
 |0=>ac_ _
 |n+1=>by
  have:=JM b n;rw[qH];split<;>omega
section
variable {N:aS}{c h:Nat->Nat}{sh:List (Int × Int)}{lo:Nat->Int}
def C7 (N:aS) (c:Nat->Nat) (sh:List (Int × Int)) (lo:Nat->Int) (kn:KN):Prop:=∀(C:Nat) q,aH kn (C:Int)=some q->∃m,gy N c (cN sh) m C/\q=oJ (TF N c (cN sh) lo m C)
structure IQ (N:aS) (c:Nat->Nat) (sh:List (Int × Int)):Prop where
 pos:∀C i,aH sh C=some i->0<=i
 at_:∀C,C < N.length->c C=C->∀s,cN sh C=some s->s < N.length/\c s=C/\(tn N s).k ≠ 1
 Z9:∀i,i < N.length->∀j ∈ ks N i,j < N.length
def Z_ (N:aS) (c:Nat->Nat) (sh:List (Int × Int)) (a:Nat->Nat):Prop:=∀C,C < N.length->c C=C->∀s,cN sh C=some s->∀j ∈ ks N s,a (c j) < a C
theorem Mv (l:List Tm) (x:Tm):bp (l++[x])=bp l+cR x:=by
 induction l with
 |nil=>simp[bp]
 |cons y l a=>rw[aR_,bp,bp,a];omega
theorem Qn (k i:Int) (n:ByteArray) (a:List Tm):oJ ⟨k,i,n,a⟩=(min (1+bp a:Int) 201,min (max 1 (xp a+1:Int)) 21):=by grind[oJ,cR,EZ]
theorem abP (J:IQ N c sh):∀(d:Nat) (busy:List (Int × Unit)) (r:Nat) (up:List Nat) (kn:KN),qH busy N.length<=d->UF up c h->up.length=N.length->r < N.length->c r=r->C7 N c sh lo kn ->
  ∃res y f,m9 N sh (d+1) busy r up kn=some (res,y,f)/\UF y c h/\y.length=N.length/\C7 N c sh lo f/\(∀C q,aH kn C=some q->aH f C=some q)/\(∀q,res=some q->aH f (r:Int)=some q) /\
   (res=none->∀a,Z_ N c sh a->∃b:Nat,b < N.length/\aH busy (b:Int) ≠ none/\a b<=a r):=by
 intro d
 induction d with
 |zero =>
  intro busy r up kn hd g u z K o;rw[m9];cases L:aH kn (r:Int) with
  |some q=>exact⟨some q,up,kn,rfl,g,u,o,λ_ _ h=>h,λp t=>by grind,λh=>by grind⟩
  |none =>
   cases E:aH busy (r:Int) with
   |some _=>exact⟨none,up,kn,rfl,g,u,o,λ_ _ h=>h,(λp t=>by grind),λ_ a _=>⟨r,z,by grind,ac_ _⟩⟩
   |none =>
    exfalso;have:=FP (b:=busy) (b':=iy busy (r:Int) ()) (r:=r) (λi v=>by grind[cQ]) E (by grind[cQ]) N.length z;omega
 |succ d ih =>
  intro busy r up kn hd g u z K o;rw[m9];cases L:aH kn (r:Int) with
  |some q=>exact⟨some q,up,kn,rfl,g,u,o,λ_ _ h=>h,λp t=>by grind,λh=>by grind⟩
  |none =>
   cases E:aH busy (r:Int) with
   |some _=>exact⟨none,up,kn,rfl,g,u,o,λ_ _ h=>h,(λp t=>by grind),λ_ a _=>⟨r,z,by grind,ac_ _⟩⟩
   |none =>
    have F:=FP (b:=busy) (b':=iy busy (r:Int) ()) (r:=r) (λi v=>by grind[cQ]) E (by grind[cQ]) N.length z;have T:∀{f:KN}{q:Int × Int}{m:Nat},C7 N c sh lo f->gy N c (cN sh) m r->q=oJ (TF N c (cN sh) lo m r)->C7 N c sh lo (iy f r q):=by
     intro f q m O hW n C p t;rw[cQ]at t;split at t
     ·rename_i e;have e:r=C:=by omega
      subst e;obtain rfl:=oJ_ t;exact⟨m,hW,n⟩
     ·exact O C p t
    have U:∀{f:KN}{q:Int × Int},(∀C p,aH kn C=some p->aH f C=some p)->∀C p,aH kn C=some p->aH (iy f r q) C=some p:=by grind[cQ]
    cases e3:aH sh (r:Int) with
    |none =>
     have f3:cN sh r=none:=by grind[cN]
     refine⟨some (1,1),up,_,rfl,g,u,T (m:=1) o (λs hs=>by grind) ?_,U λ_ _ h=>h,λq n=>by grind[cQ],λh=>by cases h⟩;rw[TF,f3];simp only[oJ,vr,cR,bp,EZ,xp]
     rfl
    |some k =>
     have f3:cN sh r=some k.toNat:=by grind[cN]
     obtain⟨V,s2,s3⟩:=J.at_ r z K _ f3;simp only[if_pos (J.pos _ _ e3),wE V]
     have key:∀(l:List Nat) (up:List Nat) (kn:KN) (A B:Int),1<=A->1<=B->(∀j ∈ l,j < N.length)->UF up c h->up.length=N.length->C7 N c sh lo kn ->
       ∃res y f,qG (m9 N sh (d+1) (iy busy r ())) l up kn (min A 201,min B 21)=some (res,y,f)/\UF y c h/\y.length=N.length/\C7 N c sh lo f/\(∀C q,aH kn C=some q->aH f C=some q) /\
        (∀q,res=some q->∃M,(∀j ∈ l,gy N c (cN sh) M (c j))/\q=(min (A+bp (l.map λj=>TF N c (cN sh) lo M (c j))) 201,min (max B (xp (l.map λj=>TF N c (cN sh) lo M (c j))+1)) 21)) /\
        (res=none->∀a,Z_ N c sh a->(∀j ∈ l,a (c j) < a r)->∃b:Nat,b < N.length/\aH busy (b:Int) ≠ none/\a b<=a r):=by
      intro l
      induction l with
      |nil =>
       intro up kn A B hA hB _ g u o;refine⟨_,up,kn,by rw[qG],g,u,o,λ_ _ h=>h,λq n=>⟨0,λj w=>(by grind),?_⟩,λh=>(by cases h)⟩;rw[<-oJ_ n];simp[bp,xp];omega
      |cons j l P =>
       intro up kn A B hA hB w g u o;have Qo:=w j (by simp);obtain⟨G,r1,EV,l1⟩:=g.ko (k:=j) (by omega);have cj:c j < N.length:=by have:=(g.rt j (by omega)).2;omega
       obtain⟨res,W,X,m1,Y,Z,Q,Hl,R,XI⟩:=ih (iy busy r ()) (c j) G kn (by omega) EV (by omega) cj (g.cc (by omega)) o;rw[qG,r1];simp only[m1];cases res with
       |none =>
        refine⟨none,W,X,rfl,Y,Z,Q,Hl,λq n=>(by grind),λ_ a D F=>?_⟩;obtain⟨b,b1,b2,b3⟩:=XI rfl a D;have h4:=F j (by simp);refine⟨b,b1,λe=>b2 ?_,by omega⟩;rw[cQ,if_neg]
        ·grind
        ·intro e5;have e5:r=b:=by omega
         rw[e5]at h4;omega
       |some p =>
        obtain⟨x,w0,t⟩:=Q _ _ (R p rfl);have tA:(min (min A 201+p.1) 201,min (max (min B 21) (p.2+1)) 21)=(min (A+cR (TF N c (cN sh) lo x (c j))) 201,min (max B (EZ (TF N c (cN sh) lo x (c j))+1)) 21):=by
         rw[t];simp only[oJ,pI_];omega
        simp only[tA];obtain⟨res,u3,zV,H,I,k3,k4,k5,k6,k7⟩:=P W X (A+cR (TF N c (cN sh) lo x (c j))) (max B (EZ (TF N c (cN sh) lo x (c j))+1)) (by omega) (by omega) (λi v=>w i (by grind)) Y Z Q;refine⟨res,u3,zV,H,I,k3,k4,λC q n=>k5 C q (Hl C q n),λq n=>?_,λe a D F=>k7 e a D λi v=>F i (by grind)⟩;obtain⟨M,S,n⟩:=k6 q n;have L:TF N c (cN sh) lo (max M x) (c j)=TF N c (cN sh) lo x (c j):=yx w0 (bT_ _ _);have E:(l.map λj=>TF N c (cN sh) lo (max M x) (c j))=l.map λj=>TF N c (cN sh) lo M (c j):=aF_ λi v=>yx (S i v) (bU_ _ _);refine⟨max M x,λi v=>?_,?_⟩
        ·rcases ad_.1 v with rfl|v
         ·exact w0.le (bT_ _ _)
         ·exact (S i v).le (bU_ _ _)
        ·rw[n,aC_,L,E,bp,xp];congr 1<;>omega
     obtain⟨res,G,qc,H,I,k3,k4,k5,k6,k7⟩:=key (ks N k.toNat) up kn 1 1 (by omega) (by omega) (λj w=>J.Z9 _ V j w) g u o;have e0:((min 1 201,min 1 21):Int × Int)=(1,1):=rfl;rw[e0]at H;rw[H];cases res with
     |none=>exact⟨none,G,qc,rfl,I,k3,k4,k5,λq n=>(by grind),λ_ a D=>k7 rfl a D λj w=>D r z K _ f3 j w⟩
     |some q =>
      obtain⟨M,S,n⟩:=k6 q rfl;refine⟨some q,G,_,rfl,I,k3,T (m:=M+1) k4 (λs hs j w=>?_) ?_,U k5,λp t=>by grind[cQ],λh=>by grind⟩
      ·grind
      ·grind[TF,Qn]
end
noncomputable def yy (N:aS) (sh:List (Int × Int)):List Nat->List Nat->KN->Option (Bool × List Nat × KN)
 |[],up,kn=>some (true,up,kn)
 |k::l,up,kn=>match ko up k with
  |none=>none
  |some (u,r)=>match m9 N sh (N.length+1) [] r u kn with
   |none=>none
   |some (none,a,b)=>some (false,a,b)
   |some (some _,a,b)=>yy N sh l a b
section
variable {N:aS}{c h:Nat->Nat}{sh:List (Int × Int)}{lo:Nat->Int}
theorem Mx (p:IQ N c sh):∀(l:List Nat) (up:List Nat) (kn:KN),(∀j ∈ l,j < N.length)->UF up c h->up.length=N.length->C7 N c sh lo kn ->
  ∃b f d,yy N sh l up kn=some (b,f,d)/\UF f c h/\f.length=N.length/\C7 N c sh lo d/\(∀C q,aH kn C=some q->aH d C=some q)/\(b=true->∀j ∈ l,∃q,aH d (c j:Int)=some q)/\(b=false->¬ ∃g,Z_ N c sh g)
 |[],up,kn,_,a,r,m=>⟨true,up,kn,rfl,a,r,m,λ_ _ h=>h,λ_ j n=>(by grind),λh=>by grind⟩
 |k::l,up,kn,n,a,r,m=>by
  have O:=n k (by simp);obtain⟨y,z,A,P⟩:=a.ko (k:=k) (by omega);have B:c k < N.length:=by have:=(a.rt k (by omega)).2;omega
  obtain⟨res,s,t,D,u,v,w,x,E,F⟩:=abP p N.length [] (c k) y kn (JM _ _) A (by omega) B (a.cc (by omega)) m;rw[yy,z];simp only[D];cases res with
  |none =>
   refine⟨false,s,t,rfl,u,v,w,x,λh=>(by grind),λ_ ⟨g,G⟩=>?_⟩;obtain⟨b,_,H,_⟩:=F rfl g G;exact H rfl
  |some q =>
   obtain⟨b,I,J,K,L,k3,k4,k5,k6,k7⟩:=Mx p l s t (λi o=>n i (by grind)) u v w;refine⟨b,I,J,K,L,k3,k4,λC q M=>k5 C q (x C q M),λe i o=>?_,k7⟩;rcases ad_.1 o with rfl|o
   ·grind
   ·grind
end
noncomputable def zf (f:Nat->List Nat->Option (Tm × List Nat)):List Nat->List Nat->Option (List Tm × List Nat)
 |[],up=>some ([],up)
 |x::l,up=>match ko up x with
  |none=>none
  |some (u,r)=>match f r u with
   |none=>none
   |some (t,b)=>match zf f l b with
    |none=>none
    |some (c,a)=>some (t::c,a)
noncomputable def zg (N:aS) (sh ls:List (Int × Int)):Nat->Nat->List Nat->Option (Tm × List Nat)
 |0,_,_=>none
 |m+1,r,up=>match aH sh (r:Int) with
  |none=>some (vr ((aH ls (r:Int)).getD 0),up)
  |some k=>if 0<=k then (match N[k.toNat]? with
   |none=>none
   |some (t,l)=>if l.length=t.a.length then (if t.a.length=0 then some (t,up) else match zf (zg N sh ls m) l up with
    |none=>none
    |some (a,u)=>some (⟨t.k,t.i,t.n,a⟩,u)) else none) else none
noncomputable def xq (N:aS) (sh ls vs:List (Int × Int)) (kn:KN) (m:Nat):List Int->List Nat->List Bd->Option (Option (List Bd))
 |[],_,a=>some (some a)
 |v::l,up,a=>match aH vs v with
  |none=>none
  |some k=>if 0<=k then (match ko up k.toNat with
   |none=>none
   |some (u,r)=>if aH sh (r:Int)=none/\(aH ls (r:Int)).getD 0=v then xq N sh ls vs kn m l u a else
    if 200 < ((aH kn (r:Int)).getD (0,0)).1\/20 < ((aH kn (r:Int)).getD (0,0)).2 then some none else
    match zg N sh ls m r u with
    |none=>none
    |some (t,b)=>xq N sh ls vs kn m l b (a++[⟨v,t⟩])) else none
section
variable {N:aS}{c h:Nat->Nat}{sh ls:List (Int × Int)}
def yz (ls:List (Int × Int)) (C:Nat):Int:=(aH ls (C:Int)).getD 0
theorem UH (g:fj N) (p:IQ N c sh):∀(m r:Nat) (up:List Nat),gy N c (cN sh) m r->UF up c h->up.length=N.length->r < N.length->c r=r ->
  ∃e,zg N sh ls m r up=some (TF N c (cN sh) (yz ls) m r,e)/\UF e c h/\e.length=N.length
 |0,_,_,h,_,_,_,_=>h.elim
 |m+1,r,up,x,d,f,y,z=>by
  rw[zg,TF];cases A:aH sh (r:Int) with
  |none =>
   have f3:cN sh r=none:=by grind[cN]
   rw[f3];exact⟨up,rfl,d,f⟩
  |some k =>
   have f3:cN sh r=some k.toNat:=by grind[cN]
   obtain⟨q,M,O⟩:=p.at_ r y z _ f3;rw[f3];simp only[if_pos (p.pos _ _ A),wE q,if_pos (mD g q)];by_cases e0:(tn N k.toNat).a.length=0
   ·rw[if_pos e0];have B:ks N k.toNat=[]:=bt_.1 (by grind[mD]);rw[B];refine⟨up,?_,d,f⟩;have s:(tn N k.toNat).a=[]:=bt_.1 e0;congr 2;generalize tn N k.toNat=t at s;obtain⟨a,b,n,l⟩:=t;simp only at s;subst s
    rfl
   ·rw[if_neg e0];have key:∀(l:List Nat) (up:List Nat),(∀j ∈ l,j < N.length/\gy N c (cN sh) m (c j))->UF up c h->up.length=N.length->∃e,zf (zg N sh ls m) l up=some (l.map λj=>TF N c (cN sh) (yz ls) m (c j),e)/\UF e c h/\e.length=N.length:=by
     intro l
     induction l with
     |nil=>intro up _ d f;exact⟨up,rfl,d,f⟩
     |cons j l v =>
      intro up o d f;obtain⟨P,C⟩:=o j (by simp);obtain⟨D,Q,E,R⟩:=d.ko (k:=j) (by omega);have F:c j < N.length:=by have:=(d.rt j (by omega)).2;omega
      obtain⟨G,S,H,I⟩:=UH g p m (c j) D C E (by omega) F (d.cc (by omega));obtain⟨J,T,w,K⟩:=v G (λi U=>o i (by grind)) H I;exact⟨J,by grind[zf],w,K⟩
    obtain⟨u,V,L,k3⟩:=key (ks N k.toNat) up (λj o=>⟨p.Z9 _ q j o,x _ f3 j o⟩) d f;exact⟨u,by grind,L,k3⟩
def fL (t:Tm):Bool:=decide (200 < cR t\/20 < EZ t)
theorem Qp:(200 < (oJ t).1\/20 < (oJ t).2) ↔ fL t=true:=by grind[oJ,fL]
end
mutual
def jy:Tm->Prop
 |⟨k,i,n,a⟩=>a.length<=6/\n.size<=1099511627776/\jV a
def jV:List Tm->Prop
 |[]=>True
 |x::l=>jy x/\jV l
end
theorem jV.mem:∀{l:List Tm},jV l->∀x ∈ l,jy x
 |y::l,h,x,a=>by
  rw[jV]at h;rcases ad_.1 a with rfl|a
  ·grind
  ·exact h.2.mem x a
theorem jy.out (h:jy t):t.a.length<=6/\t.n.size<=1099511627776/\jV t.a:=by
 obtain⟨k,i,n,a⟩:=t;rw[jy]at h;exact h
def qd (N:aS):Prop:=∀i,i < N.length->jy (tn N i)
theorem qd.push (h:qd N) {l:List Nat}(b:jy t):qd (N++[(t,l)]):=by
 intro i a;by_cases e:i < N.length
 ·have c:∀i,i < N.length->(N++[(t,l)])[i]?=N[i]?:=λi a=>bb_ a;rw[(ff c e).1];exact h i e
 ·have:i=N.length:=by grind
  subst this;rw[lR.1];exact b
mutual
theorem wH:∀(N:aS) (t:Tm),qd N->jy t->qd (bN N t).1/\(bN N t).1.length<=N.length+cR t
 |N,⟨k,i,n,a⟩,h,b=>by
  have c:=b;rw[jy]at b;rw[bN,cR];split
  ·grind
  ·obtain⟨d,e⟩:=A9 N a h b.2.2;exact⟨d.push c,by grind⟩
theorem A9:∀(N:aS) (l:List Tm),qd N->jV l->qd (bR N l).1/\(bR N l).1.length<=N.length+bp l
 |N,[],h,_=>by grind[bR,bp]
 |N,x::l,h,b=>by
  rw[jV]at b;obtain⟨d,e⟩:=wH N x h b.1;obtain⟨f,g⟩:=A9 _ l d b.2;rw[bR,bp];exact⟨f,by grind⟩
end
def zW (N:aS):Prop:=∀(i:Nat) (t:Tm) (l:List Nat),N[i]?=some (t,l)->l.length<=6/\t.a.length<=6/\t.n.size<=1099511627776
theorem zW.of (g:fj N) (h:qd N):zW N:=by
 intro i t l a;have b:=(ar_.1 a).1;have d:=mD g b;have c:=(h i b).out;rw[wE b]at a;simp only[oI_,pI_]at a;obtain⟨rfl,rfl⟩:=a;exact⟨by omega,c.1,c.2.1⟩
def xt:List (Tm × Tm)->Nat
 |[]=>0
 |e::l=>cR e.1+cR e.2+xt l
inductive sL:List (Tm × Tm)->PS->Bool->PS->Prop
 |nil {s:PS}:sL [] s true s
 |no {a b:Tm}{l:List (Tm × Tm)}{s:PS}{m:Nat}{j:JS}(h:iS (bU (bU s a).1 b).1.N m [((bU s a).2,(bU (bU s a).1 b).2)] (bU (bU s a).1 b).1.js=some (false,j)) :
   sL ((a,b)::l) s false ⟨(bU (bU s a).1 b).1.N,(bU (bU s a).1 b).1.vs,j⟩
 |go {a b:Tm}{l:List (Tm × Tm)}{s s':PS}{m:Nat}{j:JS}{r:Bool}(h:iS (bU (bU s a).1 b).1.N m [((bU s a).2,(bU (bU s a).1 b).2)] (bU (bU s a).1 b).1.js=some (true,j))
   (k:sL l ⟨(bU (bU s a).1 b).1.N,(bU (bU s a).1 b).1.vs,j⟩ r s'):sL ((a,b)::l) s r s'
theorem UI {E:List (Tm × Tm)}:∀(l:List (Tm × Tm)) (done:List (Tm × Tm)) (s:PS) (D:List (Nat × Nat)) (c:Nat->Nat),(∀e ∈ l,e ∈ E/\(eh e.1/\jy e.1)/\eh e.2/\jy e.2)->qd s.N->s.N.length+xt l<=100000000000->o_ E s.N D c [] s.js->qn s->(∀p ∈ D,p.1 < s.N.length/\p.2 < s.N.length) ->
  (∀e ∈ done,∃p ∈ D,p.1 < s.N.length/\p.2 < s.N.length/\tn s.N p.1=e.1/\tn s.N p.2=e.2) ->
  ∃b g,sL l s b g/\(b=false->¬ ∃f,uD E f)/\(b=true->∃z c',o_ E g.N z c' [] g.js/\qn g/\qd g.N/\g.N.length<=100000000000/\∀e ∈ done++l,∃p ∈ z,p.1 < g.N.length/\p.2 < g.N.length/\tn g.N p.1=e.1/\tn g.N p.2=e.2)
 |[],done,s,D,c,_,J,K,A,L,M,Y=>⟨true,s,.nil,λh=>(by grind),λ_=>⟨D,c,A,L,J,by grind,by grind⟩⟩
 |(a,b)::l,done,s,D,c,N,J,K,A,L,M,Y=>by
  obtain⟨e1,⟨O,Z⟩,P,o2⟩:=N (a,b) (by simp);simp only at O P Z o2;rw[xt]at K;simp only at K;obtain⟨z1,z2⟩:=wH s.N a J Z;obtain⟨q,Q⟩:=wH _ b z1 o2;obtain⟨B,p2,p3,p4⟩:=rG s a L O;obtain⟨C,t,F⟩:=pO s.N a A.gi.g O;obtain⟨q1,q2,G,q4⟩:=rG (bU s a).1 b p3 P;rw[<-B,<-p2]at t F;rw[<-B]at C;obtain⟨u,v,H⟩:=pO (bU s a).1.N b C.g P;rw[<-q1,<-q2]at v H;rw[<-q1]at u;rw[<-B]at z2 q Q;rw[<-q1]at q Q;obtain⟨d,R⟩:∃d,d=(bU (bU s a).1 b).1:=⟨_,rfl⟩;obtain⟨x,S⟩:∃x,x=(bU s a).2:=⟨_,rfl⟩;obtain⟨y,T⟩:∃y,y=(bU (bU s a).1 b).2:=⟨_,rfl⟩;have key:∀{r:Bool}{g:PS},(∃m j,iS d.N m [(x,y)] d.js=some (false,j)/\r=false/\g=⟨d.N,d.vs,j⟩)\/(∃m j,iS d.N m [(x,y)] d.js=some (true,j)/\sL l ⟨d.N,d.vs,j⟩ r g)->sL ((a,b)::l) s r g:=by
   intro r g h;subst R S T;rcases h with ⟨m,j,k,rfl,rfl⟩|⟨m,j,k,n⟩
   ·exact .no k
   ·exact .go k n
  rw[<-R]at G q4 u v H q Q;rw[<-S]at t F;rw[<-T]at v H;have tx:tn d.N x=a:=by rw[u.tn t,F]
  have pY:x < d.N.length:=au_ t u.le;have o:vo s.N d.N:=C.trans u;have hG:Grown s d:=p4.trans q4;have U:=A.grow M o hG pY v (by grind);clear R S T B p2 p3 p4 q1 q2 C t F;have hK:∀i,i < d.N.length->(ks d.N i).length<=6:=λi hi=>by rw[mD o.g hi];exact (q i hi).out.1
  obtain⟨f,r,j,j1,j2,j3⟩:=abG hK _ _ rfl rfl (by grind[G6]) U;cases r with
  |false=>exact⟨false,_,key (.inl ⟨f,j,j1,rfl,rfl⟩),λ_=>j3 rfl,λh=>by grind⟩
  |true =>
   obtain⟨c',w⟩:=j2 rfl;have hl:d.js.up.length=d.N.length:=G.up;obtain⟨r,g,k1,k2,k3⟩:=UI l (done++[(a,b)]) ⟨d.N,d.vs,j⟩ ((x,y)::D) c' (λe h=>N e (by grind)) q (by grind) w ⟨G.vs,w.len,G.nd⟩ (λp V=>by
    rcases ad_.1 V with rfl|V
    ·grind
    ·obtain⟨k,n⟩:=M p V;have:=o.le;exact⟨au_ k this,au_ n this⟩) (λe h=>by
    rcases az_.1 h with h|h
    ·obtain⟨p,k,n,I,W,X⟩:=Y e h;have:=o.le;exact⟨p,by grind,au_ n this,au_ I this,by rw[o.tn n];exact W,by rw[o.tn I];exact X⟩
    ·obtain rfl:=ae_.1 h;exact⟨(x,y),by simp,pY,v,tx,H⟩)
   exact⟨r,g,key (.inr ⟨f,j,j1,k1⟩),k2,λe=>by
    obtain⟨z,c',k,n,W,X,I⟩:=k3 e;exact⟨z,c',k,n,W,X,λe N=>I e (by grind)⟩⟩
theorem C8:fj []:=⟨(λi a=>by grind),λi a=>(by grind),λi a=>(by grind),λi j a=>by grind⟩
theorem o_.start:o_ E [] [] id [] ⟨[],[],[]⟩ :=
 ⟨⟨C8,λi j a=>(by grind),λp b=>(by grind),λp b=>(by grind),λi j a=>by grind⟩,⟨λ_=>0,λi a=>(by grind),λi a=>(by grind),λi a=>(by grind),λi a=>(by grind),λi a=>by grind⟩,rfl,
  λC i h=>(by cases h),λC c=>(by grind),λC c=>(by grind),λC _=>rfl,λC _=>rfl⟩
section
variable {E:List (Tm × Tm)}{N:aS}{D:List (Nat × Nat)}{c:Nat->Nat}{s:JS}
theorem o_.aeK (h:o_ E N D c [] s):IQ N c s.sh:=⟨h.pos,λC d e k f=>by
 have a:=h.zG C d e;rw[f]at a;exact a,λi b j g=>cj_ (h.gi.g.lt i b j g) b⟩
theorem abQ {sh:List (Int × Int)}(x:sB E N c) (o:IQ N c sh) (g:∀i,i < N.length->(tn N i).k ≠ 1->∃t,cN sh (c i)=some t) (q:∀i,i < N.length->c (c i)=c i/\c i < N.length) (s:∀i,i < N.length->∃m,gy N c (cN sh) m (c i)) :
  ∃r,sC N c r/\∀i,i < N.length->gy N c (cN sh) (r (c i)) (c i):=by
 have a:∀C,∃m,(∃m,gy N c (cN sh) m C)->gy N c (cN sh) m C/\∀k,k < m->¬ gy N c (cN sh) k C:=λC=>by
  by_cases h:∃m,gy N c (cN sh) m C
  ·obtain⟨n,g⟩:=h;obtain⟨m,d,f⟩:=Mt (p:=λm=>gy N c (cN sh) m C) n g;exact⟨m,λ_=>⟨d,f⟩⟩
  ·exact⟨0,λy=>absurd y h⟩
 refine⟨λC=>(a C).choose,λi b u j B=>?_,λi b=>((a (c i)).choose_spec (s i b)).1⟩;obtain⟨t,v⟩:=g i b u;obtain⟨t1,t2,t3⟩:=o.at_ (c i) (q i b).2 (q i b).1 t v;have d:=((a (c i)).choose_spec (s i b)).1;obtain⟨_,D⟩:=x.al i t b t1 t2.symm u t3;have z:c j ∈ (ks N t).map c:=by grind
 obtain⟨l,w,e⟩:=av_.1 z;have F:l < N.length:=o.Z9 t t1 l w;show (a (c j)).choose < (a (c i)).choose;generalize (a (c i)).choose=m at d;cases m with
 |zero=>exact d.elim
 |succ m =>
  have f:=d t v l w;rw[e]at f;have A:=((a (c j)).choose_spec ⟨m,f⟩).2;exact Nat.lt_succ_of_le (cO_ λh=>A m h f)
end
theorem aeL {D:List (Nat × Nat)}{c:Nat->Nat}{s:JS}(h:o_ E N D c [] s) (a:∃f,uD E f):∃b,Z_ N c s.sh b:=by
 obtain⟨r,d⟩:=Ju h.gi.g h.gi.sound a;refine⟨r,λC g e t i j k=>?_⟩;obtain⟨t1,t2,t3⟩:=h.aeK.at_ C g e t i;have:=d t t1 t3 j k
 rwa [t2]at this
theorem IS {N:aS}{c:Nat->Nat}{sh:Nat->Option Nat}:∀(n:Nat),(∀i,i < n->∃m,gy N c sh m (c i))->∃m,∀i,i < n->gy N c sh m (c i)
 |0,_=>⟨0,λi b=>by omega⟩
 |n+1,h=>by
  obtain⟨m,d⟩:=IS n λi b=>h i (by omega);obtain⟨f,a⟩:=h n (by omega);refine⟨max m f,λi b=>?_⟩;by_cases e:i < n
  ·exact (d i e).le (bU_ _ _)
  ·have:i=n:=by omega
   subst this;exact a.le (bT_ _ _)
section
variable {N:aS}{c h:Nat->Nat}{sh ls vs:List (Int × Int)}{kn:KN}
theorem Mz {σ:Int->Tm}{M:Nat}{p:Int->Bool}(g:fj N) (a:IQ N c sh) (b:∀v,p v=true ↔ σ v ≠ vr v)
  (d:∀v k,aH vs v=some k->0<=k/\k.toNat < N.length/\gy N c (cN sh) M (c k.toNat)/\σ v=TF N c (cN sh) (yz ls) M (c k.toNat)/\aH kn (c k.toNat:Int)=some (oJ (σ v))) :
  ∀(l:List Int) (up:List Nat) (acc:List Bd),(∀v ∈ l,∃k,aH vs v=some k)->UF up c h->up.length=N.length ->
   xq N sh ls vs kn M l up acc=some (if (l.filter p).any (λv=>fL (σ v)) then none else some (acc++(l.filter p).map λv=>⟨v,σ v⟩))
 |[],up,acc,_,_,_=>by rw[xq];simp
 |v::l,up,acc,i,j,E=>by
  obtain⟨k,m⟩:=i v (by simp);obtain⟨k0,F,n,k3,k4⟩:=d v k m;obtain⟨o,y,q,G⟩:=j.ko (k:=k.toNat) (by omega);have r:c k.toNat < N.length:=by have:=(j.rt k.toNat (by omega)).2;omega
  have cc:c (c k.toNat)=c k.toNat:=j.cc (by omega);rw[xq,m];simp only[if_pos k0,y];have t:(aH sh (c k.toNat:Int)=none/\(aH ls (c k.toNat:Int)).getD 0=v) ↔ σ v=vr v:=by
   rw[k3];cases M with
   |zero=>exact n.elim
   |succ M =>
    rw[TF];cases e:aH sh (c k.toNat:Int) with
    |none =>
     have f:cN sh (c k.toNat)=none:=by grind[cN]
     rw[f];simp only[true_and,yz,vr,Tm.mk.injEq,and_true]
    |some s =>
     have f:cN sh (c k.toNat)=some s.toNat:=by grind[cN]
     obtain⟨H,I,z⟩:=a.at_ _ r cc _ f;rw[f];simp only[vr,Tm.mk.injEq];exact⟨(λh=>by grind),λh=>absurd h.1 z⟩
  rw[k4,bz_];simp only[Qp];by_cases e:σ v=vr v
  ·rw[if_pos (t.2 e),Mz g a b d l o acc (λw A=>i w (by grind)) q (by omega)];have:p v=false:=by grind
   rw[List.filter_cons_of_neg (by grind)]
  ·rw[if_neg (λh=>e (t.1 h))];have:p v=true:=(b v).2 e;rw[List.filter_cons_of_pos this];cases u:fL (σ v) with
   |true=>simp[u]
   |false =>
    obtain⟨B,x,C,D⟩:=UH (ls:=ls) g a M (c k.toNat) o n q (by omega) r cc;rw[<-k3]at x;simp only[x,bn_,if_false];rw[Mz g a b d l B _ (λw A=>i w (by grind)) C D];simp[u]
end
theorem abR (E:List (Tm × Tm)) (hw:∀e ∈ E,(eh e.1/\jy e.1)/\eh e.2/\jy e.2) (hz:xt E<=100000000000):∃b a,sL E ⟨[],[],⟨[],[],[]⟩⟩ b a/\(b=false->kX fL E=([],13)) /\
  (b=true->qn a/\qd a.N/\a.N.length<=100000000000/\∃z up kn,yy a.N a.js.sh (List.range a.N.length) a.js.up []=some (z,up,kn)/\(z=false->kX fL E=([],13)) /\
   (z=true->∀l,tv l->(∀v,v ∈ l ↔ v ∈ a.vs.map (·.1))->∃M V,xq a.N a.js.sh a.js.ls a.vs kn M l up []=some V/\kX fL E=(match V with|none=>([],6)|some o=>(o,0)))):=by
 obtain⟨b,a,f,w,J⟩:=UI (E:=E) E [] ⟨[],[],⟨[],[],[]⟩⟩ [] id (λe K=>⟨K,hw e K⟩) (λi d=>by grind) (by grind) .start ⟨λv=>rfl,rfl,by simp⟩ (λp L=>by grind) (λe K=>by grind);refine⟨b,a,f,λe=>yg (w e),λe=>?_⟩;obtain⟨D,c,g,N,lu,O,W⟩:=J e;rw[aK_]at W;obtain⟨hh,P⟩:=g.uf;have y:=g.aeK;refine⟨N,lu,O,?_⟩;obtain⟨z,up,kn,m1,yp,l2,hK,_,m5,m6⟩:=Mx (lo:=yz a.js.ls) y (List.range a.N.length) a.js.up [] (λj G=>aI_.1 G) P g.len (λC q Q=>by cases Q);refine⟨z,up,kn,m1,λe=>yg λhu=>m6 e (aeL g hu),λe l H I=>?_⟩;have R:sB E a.N c:=g.gi.closed W;have s:∀i,i < a.N.length->c (c i)=c i/\c i < a.N.length:=λi d=>⟨P.cc (by rw[g.len];exact d),by have:=(P.rt i (by rw[g.len];exact d)).2;rw[g.len]at this;exact this⟩;have X:∀i,i < a.N.length->∃m,gy a.N c (cN a.js.sh) m (c i)/\aH kn (c i:Int)=some (oJ (TF a.N c (cN a.js.sh) (yz a.js.ls) m (c i))):=λi d=>by
  obtain⟨q,Q⟩:=m5 e i (aI_.2 d);obtain⟨m,k1,k2⟩:=hK _ _ Q;exact⟨m,k1,by grind⟩
 have MA:∀i,i < a.N.length->(tn a.N i).k ≠ 1->∃t,cN a.js.sh (c i)=some t:=λi d n=>by
  cases ht:cN a.js.sh (c i) with
  |some t=>exact⟨t,rfl⟩
  |none =>
   have:=g.zG (c i) (s i d).2 (s i d).1;rw[ht]at this;exact absurd (this i d rfl) n
 obtain⟨r,Y,Z⟩:=abQ R y MA s λi d=>let ⟨m,h,_⟩:=X i d;⟨m,h⟩
 obtain⟨M,hM⟩:=IS (sh:=cN a.js.sh) (c:=c) a.N.length λi d=>⟨_,Z i d⟩;have JO:∀(m C:Nat),C < a.N.length->c C=C->TF a.N c (cN a.js.sh) (yz a.js.ls) m C=TF a.N c (λC=>if C < a.N.length/\c C=C then cN a.js.sh C else none) (yz a.js.ls) m C:=by
  intro m
  induction m with
  |zero=>intro C _ _;rfl
  |succ m ih =>
   intro C f w;rw[TF,TF];simp only[if_pos (And.intro f w)];cases hs:cN a.js.sh C with
   |none=>rfl
   |some t =>
    simp only[Tm.mk.injEq,true_and];refine aF_ λj G=>?_;have iB:=y.Z9 t (y.at_ C f w t hs).1 j G;exact ih (c j) (s j iB).2 (s j iB).1
 obtain⟨x,A⟩:∃x:Nat->Option Nat,x=λC=>if C < a.N.length/\c C=C then cN a.js.sh C else none:=⟨_,rfl⟩
 rw[<-A]at JO;have dR:∀C t,x C=some t->t < a.N.length/\c t=C/\(tn a.N t).k ≠ 1:=λC t h=>by
  rw[A]at h;simp only at h;split at h
  ·rename_i hc;exact y.at_ C hc.1 hc.2 t h
  ·grind
 have oN:∀i,i < a.N.length->x (c i)=cN a.js.sh (c i):=λi d=>by grind
 have w8:∀i,i < a.N.length->x (c i)=none->∀j,j < a.N.length->c j=c i->(tn a.N j).k=1:=λi d h j G e=>ck_ λn=>by grind
 have Qq:AW a.N c (TC a.N c x (yz a.js.ls) r):=L8 R dR Y w8 λi d h=>by
  have f:=g.aR (c i) (s i d).2 (s i d).1;have w:=w8 i d h;unfold yz;cases H:aH a.js.ls (c i:Int) with
  |none=>rw[H]at f;exact absurd (w i d rfl) (f i d rfl)
  |some v =>
   rw[H]at f;obtain⟨⟨j,j1,j2,j3,j4⟩,j5⟩:=f;exact⟨j,j1,j2,j4.symm,λj' lX e=>by grind⟩
 have MC:=L6 R Qq Y;have S:∀{m T C:Nat},gy a.N c (cN a.js.sh) m C->gy a.N c (cN a.js.sh) T C->TF a.N c (cN a.js.sh) (yz a.js.ls) m C=TF a.N c (cN a.js.sh) (yz a.js.ls) T C:=λ{m T C} h h'=>by grind[yx]
 obtain⟨u,U⟩:∃u,u=ER a.N c (TC a.N c x (yz a.js.ls) r):=⟨_,rfl⟩;have P0:∀i,i < a.N.length->(tn a.N i).k=1->∀m,gy a.N c (cN a.js.sh) m (c i)->u (tn a.N i).i=TF a.N c (cN a.js.sh) (yz a.js.ls) m (c i):=λi d n m I=>by
  rw[U,zC g.gi.g d n];unfold TC;rw[<-JO _ _ (s i d).2 (s i d).1];exact S ((Z i d).succ) I
 rw[<-U]at MC;obtain⟨p,L⟩:∃p:Int->Bool,∀v,p v=true ↔ u v ≠ vr v:=by
  classical
  exact⟨λv=>decide (u v ≠ vr v),λv=>decide_eq_true_iff⟩
 refine⟨M,_,Mz (σ:=u) (M:=M) (p:=p) g.gi.g y L (λv k n=>?_) l up [] (λv hv=>uJ.1 ((I v).1 hv)) yp l2,?_⟩
 ·rw[N.vs]at n;cases B:mM a.N v with
  |none=>rw[B]at n;cases n
  |some j =>
   rw[B]at n;obtain rfl:=oJ_ n;obtain⟨F,a2,a3⟩:=CD B;show 0<=(j:Int)/\(j:Int).toNat < _/\gy _ _ _ M (c (j:Int).toNat)/\u v=TF _ _ _ _ M (c (j:Int).toNat)/\aH kn (c (j:Int).toNat:Int)=_;rw[cW_];obtain⟨m,w1,w2⟩:=X j F;have f:=P0 j F a2 M (hM j F);rw[a3]at f;exact⟨by omega,F,hM j F,f,by grind⟩
 ·have hO:AY E u (l.filter p):=⟨MC,AX H,λv=>by
   rw[bB_,L];refine⟨λh=>h.2,λh=>⟨?_,h⟩⟩;rw[I,uJ,N.vs];cases B:mM a.N v with
   |some j=>exact⟨_,rfl⟩
   |none =>
    refine absurd ?_ h;rw[U];exact FC λ⟨i,f,w,J⟩=>Jz B i f w J⟩
  rw[CC hO,IE];split<;>simp
end Go.Proofs.YtbpabjmnhggajaaGreat
