import Derived.Test.YtgjfgekaclobaaaGreatCa35
namespace Go.Proofs.YtgjfgekaclobaaaGreat
set_option linter.unusedVariables false
set_option linter.unusedSimpArgs false
open Go.RowKit
abbrev KN:=List (Int × (Int × Int))
noncomputable def nE (f:Nat->List Nat->KN->Option (Option (Int × Int) × List Nat × KN)):List Nat->List Nat->KN->Int × Int->Option (Option (Int × Int) × List Nat × KN)
 |[],up,kn,q=>some (some q,up,kn)
 |x::l,up,kn,q=>match gQ up x with
  |none=>none
  |some (u,r)=>match f r u kn with
   |none=>none
   |some (none,u',d_)=>some (none,u',d_)
   |some (some p,u',d_)=>nE f l u' d_ (min (q.1+p.1) 201,min (max q.2 (p.2+1)) 21)
noncomputable def jL (N:bj) (sh:List (Int × Int)):Nat->List (Int × Unit)->Nat->List Nat->KN->Option (Option (Int × Int) × List Nat × KN)
 |0,_,_,_,_=>none
 |m+1,busy,r,up,kn=>match aD kn (r:Int) with
  |some q=>some (some q,up,kn)
  |none=>match aD busy (r:Int) with
   |some _=>some (none,up,kn)
   |none=>match aD sh (r:Int) with
    |none=>some (some (1,1),up,eV kn r (1,1))
    |some k=>if 0<=k then (match N[k.toNat]? with
     |none=>none
     |some (_,l)=>match nE (jL N sh m (eV busy r ())) l up kn (1,1) with
      |none=>none
      |some (none,u,d_)=>some (none,u,d_)
      |some (some q,u,d_)=>some (some q,u,eV d_ r q)) else none
mutual
def Gm:Tm->Nat
 |⟨k,i,n,a⟩=>Ax a+1
def Ax:List Tm->Nat
 |[]=>0
 |x::l=>max (Gm x) (Ax l)
end
def sc (t:Tm):Int × Int:=(min (fX t:Int) 201,min (Gm t:Int) 21)
def jZ (N:bj) (c:Nat->Nat) (sh:Nat->Option Nat):Nat->Nat->Prop
 |0,_=>False
 |m+1,C=>∀ s,sh C=some s->∀ j ∈ ks N s,jZ N c sh m (c j)
section
variable {N:bj}{c:Nat->Nat}{sh:Nat->Option Nat}{lo:Nat->Int}
theorem jZ.succ:∀ {m C:Nat},jZ N c sh m C->jZ N c sh (m+1) C
 |0,_,h=>h.elim
 |m+1,C,h=>fun s hs j hj=>(h s hs j hj).succ
theorem jZ.le {m m' C:Nat}(h:jZ N c sh m C) (hm:m<=m'):jZ N c sh m' C:=by
 induction hm with
 |refl=>exact h
 |step _ ih=>exact ih.succ
theorem BN:∀ {m m' C:Nat},jZ N c sh m C->m<=m'->TF N c sh lo m' C=TF N c sh lo m C
 |0,_,_,h,_=>h.elim
 |m+1,0,_,_,h=>by omega
 |m+1,m'+1,C,h,hm=>by
  rw [TF,TF]
  cases e:sh C with
  |none=>rfl
  |some s =>
   simp only [Tm.mk.injEq,true_and]
   exact List.map_congr_left fun j hj=>BN (h s e j hj) (by omega)
theorem RG {p:Nat->Prop}:∀ (n:Nat),p n->∃ m,p m/\∀ k,k < m->¬ p k:=by
 intro n
 induction n using Nat.strongRecOn with
 |ind n ih =>
  intro h
  by_cases hx:∃ k,k < n/\p k
  ·obtain⟨k,hk,hp⟩:=hx
   exact ih k hk hp
  ·exact⟨n,h,fun k hk hp=>hx ⟨k,hk,hp⟩⟩
end
def nF (busy:List (Int × Unit)):Nat->Nat
 |0=>0
 |n+1=>nF busy n+if aD busy (n:Int)=none then 1 else 0
theorem Gn {b b':List (Int × Unit)}(h:∀ i,aD b' i=none->aD b i=none):∀ n,nF b' n<=nF b n
 |0=>Nat.le_refl _
 |n+1=>by
  have:=Gn h n
  rw [nF,nF]
  by_cases e:aD b' (n:Int)=none
  ·rw [if_pos e,if_pos (h _ e)];omega
  ·rw [if_neg e];omega
theorem Ay {b b':List (Int × Unit)}(h:∀ i,aD b' i=none->aD b i=none) {r:Nat}(hr:aD b (r:Int)=none) (eK:aD b' (r:Int) ≠ none):∀ n,r < n->nF b' n < nF b n
 |0,h0=>by omega
 |n+1,h0=>by
  rw [nF,nF]
  by_cases e:r=n
  ·subst e
   have:=Gn h r
   rw [if_pos hr,if_neg eK]
   omega
  ·have:=Ay h hr eK n (by omega)
   by_cases e:aD b' (n:Int)=none
   ·rw [if_pos e,if_pos (h _ e)];omega
   ·rw [if_neg e];omega
theorem Ec (b:List (Int × Unit)):∀ n,nF b n<=n
 |0=>Nat.le_refl _
 |n+1=>by
  have:=Ec b n
  rw [nF]
  split<;>omega
section
variable {N:bj}{c h:Nat->Nat}{sh:List (Int × Int)}{lo:Nat->Int}
def xN (N:bj) (c:Nat->Nat) (sh:List (Int × Int)) (lo:Nat->Int) (kn:KN):Prop:=∀ (C:Nat) q,aD kn (C:Int)=some q->∃ m,jZ N c (b8 sh) m C/\q=sc (TF N c (b8 sh) lo m C)
structure C0 (N:bj) (c:Nat->Nat) (sh:List (Int × Int)):Prop where
 pos:∀ C i,aD sh C=some i->0<=i
 at_:∀ C,C < N.length->c C=C->∀ s,b8 sh C=some s->s < N.length/\c s=C/\(tn N s).k ≠ 1
 U4:∀ i,i < N.length->∀ j ∈ ks N i,j < N.length
def U5 (N:bj) (c:Nat->Nat) (sh:List (Int × Int)) (rk:Nat->Nat):Prop:=∀ C,C < N.length->c C=C->∀ s,b8 sh C=some s->∀ j ∈ ks N s,rk (c j) < rk C
theorem RH (l:List Tm) (x:Tm):cN (l++[x])=cN l+fX x:=by
 induction l with
 |nil=>simp [cN]
 |cons y l ih=>rw [List.cons_append,cN,cN,ih];omega
theorem Yk (k i:Int) (n:ByteArray) (a:List Tm):sc ⟨k,i,n,a⟩=(min (1+cN a:Int) 201,min (max 1 (Ax a+1:Int)) 21):=by
 unfold sc
 rw [fX,Gm]
 exact Prod.ext (by simp only;omega) (by simp only;omega)
theorem Yl (hS:C0 N c sh):∀ (d:Nat) (busy:List (Int × Unit)) (r:Nat) (up:List Nat) (kn:KN),nF busy N.length<=d->UF up c h->up.length=N.length->r < N.length->c r=r->xN N c sh lo kn ->
  ∃ res de d_,jL N sh (d+1) busy r up kn=some (res,de,d_)/\UF de c h/\de.length=N.length/\xN N c sh lo d_/\(∀ C q,aD kn C=some q->aD d_ C=some q)/\(∀ q,res=some q->aD d_ (r:Int)=some q) /\
   (res=none->∀ rk,U5 N c sh rk->∃ b:Nat,b < N.length/\aD busy (b:Int) ≠ none/\rk b<=rk r):=by
 intro d
 induction d with
 |zero =>
  intro busy r up kn hd hU hl hr hc hK
  rw [jL]
  cases e1:aD kn (r:Int) with
  |some q=>exact⟨some q,up,kn,rfl,hU,hl,hK,fun _ _ h=>h,fun p hp=>by rw [e1];exact hp,fun h=>by cases h⟩
  |none =>
   cases e2:aD busy (r:Int) with
   |some _=>exact⟨none,up,kn,rfl,hU,hl,hK,fun _ _ h=>h,(fun p hp=>by cases hp),fun _ rk _=>⟨r,hr,by rw [e2];simp,Nat.le_refl _⟩⟩
   |none =>
    exfalso
    have:=Ay (b:=busy) (b':=eV busy (r:Int) ()) (r:=r) (fun i hi=>by rw [bZ] at hi;split at hi;cases hi;exact hi) e2 (by rw [bZ,if_pos rfl];simp) N.length hr
    omega
 |succ d ih =>
  intro busy r up kn hd hU hl hr hc hK
  rw [jL]
  cases e1:aD kn (r:Int) with
  |some q=>exact⟨some q,up,kn,rfl,hU,hl,hK,fun _ _ h=>h,fun p hp=>by rw [e1];exact hp,fun h=>by cases h⟩
  |none =>
   cases e2:aD busy (r:Int) with
   |some _=>exact⟨none,up,kn,rfl,hU,hl,hK,fun _ _ h=>h,(fun p hp=>by cases hp),fun _ rk _=>⟨r,hr,by rw [e2];simp,Nat.le_refl _⟩⟩
   |none =>
    have aA:=Ay (b:=busy) (b':=eV busy (r:Int) ()) (r:=r) (fun i hi=>by rw [bZ] at hi;split at hi;cases hi;exact hi) e2 (by rw [bZ,if_pos rfl];simp) N.length hr
    have O_:∀ {d_:KN}{q:Int × Int}{m:Nat},xN N c sh lo d_->jZ N c (b8 sh) m r->q=sc (TF N c (b8 sh) lo m r)->xN N c sh lo (eV d_ r q):=by
     intro d_ q m hK' hW hq C p hp
     rw [bZ] at hp
     split at hp
     ·rename_i e
      have e:r=C:=by omega
      subst e
      obtain rfl:=oJ_ hp
      exact⟨m,hW,hq⟩
     ·exact hK' C p hp
    have Gp:∀ {d_:KN}{q:Int × Int},(∀ C p,aD kn C=some p->aD d_ C=some p)->∀ C p,aD kn C=some p->aD (eV d_ r q) C=some p:=by
     intro d_ q hm C p hp
     rw [bZ,if_neg]
     ·exact hm C p hp
     ·intro e
      rw [<-e,e1] at hp
      cases hp
    cases e3:aD sh (r:Int) with
    |none =>
     have f3:b8 sh r=none:=by unfold b8;rw [e3];rfl
     refine⟨some (1,1),up,_,rfl,hU,hl,O_ (m:=1) hK (fun s hs=>by rw [f3] at hs;cases hs) ?_,Gp fun _ _ h=>h,fun q hq=>by rw [bZ,if_pos rfl];exact hq,fun h=>by cases h⟩
     rw [TF,f3]
     simp only [sc,vr,fX,cN,Gm,Ax]
     rfl
    |some k =>
     have f3:b8 sh r=some k.toNat:=by unfold b8;rw [e3];rfl
     obtain⟨s1,s2,s3⟩:=hS.at_ r hr hc _ f3
     simp only [if_pos (hS.pos _ _ e3),pe s1]
     have key:∀ (l:List Nat) (up:List Nat) (kn:KN) (A B:Int),1<=A->1<=B->(∀ j ∈ l,j < N.length)->UF up c h->up.length=N.length->xN N c sh lo kn ->
       ∃ res de d_,nE (jL N sh (d+1) (eV busy r ())) l up kn (min A 201,min B 21)=some (res,de,d_)/\UF de c h/\de.length=N.length/\xN N c sh lo d_/\(∀ C q,aD kn C=some q->aD d_ C=some q) /\
        (∀ q,res=some q->∃ M,(∀ j ∈ l,jZ N c (b8 sh) M (c j))/\q=(min (A+cN (l.map fun j=>TF N c (b8 sh) lo M (c j))) 201,min (max B (Ax (l.map fun j=>TF N c (b8 sh) lo M (c j))+1)) 21)) /\
        (res=none->∀ rk,U5 N c sh rk->(∀ j ∈ l,rk (c j) < rk r)->∃ b:Nat,b < N.length/\aD busy (b:Int) ≠ none/\rk b<=rk r):=by
      intro l
      induction l with
      |nil =>
       intro up kn A B hA hB _ hU hl hK
       refine⟨_,up,kn,by rw [nE],hU,hl,hK,fun _ _ h=>h,fun q hq=>⟨0,fun j hj=>(by cases hj),?_⟩,fun h=>(by cases h)⟩
       rw [<-oJ_ hq]
       simp [cN,Ax]
       omega
      |cons j l ihl =>
       intro up kn A B hA hB hj hU hl hK
       have hj0:=hj j (by simp)
       obtain⟨u1,r1,zm,l1⟩:=hU.gQ (k:=j) (by omega)
       have cj:c j < N.length:=by have:=(hU.rt j (by omega)).2;omega
       obtain⟨res,u2,Gq,m1,sU,l2,Ed,BO,RI,RJ⟩:=ih (eV busy r ()) (c j) u1 kn (by omega) zm (by omega) cj (hU.cc (by omega)) hK
       rw [nE,r1]
       simp only [m1]
       cases res with
       |none =>
        refine⟨none,u2,Gq,rfl,sU,l2,Ed,BO,fun q hq=>(by cases hq),fun _ rk xO aA=>?_⟩
        obtain⟨b,b1,b2,b3⟩:=RJ rfl rk xO
        have h4:=aA j (by simp)
        refine⟨b,b1,fun e=>b2 ?_,by omega⟩
        rw [bZ,if_neg]
        ·exact e
        ·intro e5
         have e5:r=b:=by omega
         rw [e5] at h4
         omega
       |some p =>
        obtain⟨m0,w0,hp⟩:=Ed _ _ (RI p rfl)
        have BP:(min (min A 201+p.1) 201,min (max (min B 21) (p.2+1)) 21)=(min (A+fX (TF N c (b8 sh) lo m0 (c j))) 201,min (max B (Gm (TF N c (b8 sh) lo m0 (c j))+1)) 21):=by
         rw [hp]
         simp only [sc,pI_]
         omega
        simp only [BP]
        obtain⟨res,u3,uw,k1,k2,k3,k4,k5,k6,k7⟩:=ihl u2 Gq (A+fX (TF N c (b8 sh) lo m0 (c j))) (max B (Gm (TF N c (b8 sh) lo m0 (c j))+1)) (by omega) (by omega) (fun i hi=>hj i (by simp [hi])) sU l2 Ed
        refine⟨res,u3,uw,k1,k2,k3,k4,fun C q hq=>k5 C q (BO C q hq),fun q hq=>?_,fun e rk xO aA=>k7 e rk xO fun i hi=>aA i (by simp [hi])⟩
        obtain⟨M,hM,hq⟩:=k6 q hq
        have e1:TF N c (b8 sh) lo (max M m0) (c j)=TF N c (b8 sh) lo m0 (c j):=BN w0 (Nat.le_max_right _ _)
        have e2:(l.map fun j=>TF N c (b8 sh) lo (max M m0) (c j))=l.map fun j=>TF N c (b8 sh) lo M (c j):=List.map_congr_left fun i hi=>BN (hM i hi) (Nat.le_max_left _ _)
        refine⟨max M m0,fun i hi=>?_,?_⟩
        ·rcases List.mem_cons.1 hi with rfl|hi
         ·exact w0.le (Nat.le_max_right _ _)
         ·exact (hM i hi).le (Nat.le_max_left _ _)
        ·rw [hq,List.map_cons,e1,e2,cN,Ax]
         congr 1<;>omega
     obtain⟨res,u1,mn,k1,k2,k3,k4,k5,k6,k7⟩:=key (ks N k.toNat) up kn 1 1 (by omega) (by omega) (fun j hj=>hS.U4 _ s1 j hj) hU hl hK
     have e0:((min 1 201,min 1 21):Int × Int)=(1,1):=rfl
     rw [e0] at k1
     rw [k1]
     cases res with
     |none=>exact⟨none,u1,mn,rfl,k2,k3,k4,k5,fun q hq=>(by cases hq),fun _ rk xO=>k7 rfl rk xO fun j hj=>xO r hr hc _ f3 j hj⟩
     |some q =>
      obtain⟨M,hM,hq⟩:=k6 q rfl
      refine⟨some q,u1,_,rfl,k2,k3,O_ (m:=M+1) k4 (fun s hs j hj=>?_) ?_,Gp k5,fun p hp=>by rw [bZ,if_pos rfl];exact hp,fun h=>by cases h⟩
      ·rw [f3] at hs
       obtain rfl:=oJ_ hs
       exact hM j hj
      ·rw [TF,f3]
       simp only
       rw [Yk,hq]
end
noncomputable def s8 (N:bj) (sh:List (Int × Int)):List Nat->List Nat->KN->Option (Bool × List Nat × KN)
 |[],up,kn=>some (true,up,kn)
 |k::l,up,kn=>match gQ up k with
  |none=>none
  |some (u,r)=>match jL N sh (N.length+1) [] r u kn with
   |none=>none
   |some (none,u',d_)=>some (false,u',d_)
   |some (some _,u',d_)=>s8 N sh l u' d_
section
variable {N:bj}{c h:Nat->Nat}{sh:List (Int × Int)}{lo:Nat->Int}
theorem Gr (hS:C0 N c sh):∀ (l:List Nat) (up:List Nat) (kn:KN),(∀ j ∈ l,j < N.length)->UF up c h->up.length=N.length->xN N c sh lo kn ->
  ∃ b de d_,s8 N sh l up kn=some (b,de,d_)/\UF de c h/\de.length=N.length/\xN N c sh lo d_/\(∀ C q,aD kn C=some q->aD d_ C=some q)/\(b=true->∀ j ∈ l,∃ q,aD d_ (c j:Int)=some q)/\(b=false->¬ ∃ rk,U5 N c sh rk)
 |[],up,kn,_,hU,hl,hK=>⟨true,up,kn,rfl,hU,hl,hK,fun _ _ h=>h,fun _ j hj=>(by cases hj),fun h=>by cases h⟩
 |k::l,up,kn,hj,hU,hl,hK=>by
  have hk:=hj k (by simp)
  obtain⟨u1,r1,zm,l1⟩:=hU.gQ (k:=k) (by omega)
  have ck:c k < N.length:=by have:=(hU.rt k (by omega)).2;omega
  obtain⟨res,u2,Gq,m1,sU,l2,Ed,BO,RI,RJ⟩:=Yl hS N.length [] (c k) u1 kn (Ec _ _) zm (by omega) ck (hU.cc (by omega)) hK
  rw [s8,r1]
  simp only [m1]
  cases res with
  |none =>
   refine⟨false,u2,Gq,rfl,sU,l2,Ed,BO,fun h=>(by cases h),fun _ ⟨rk,xO⟩=>?_⟩
   obtain⟨b,_,b2,_⟩:=RJ rfl rk xO
   exact b2 rfl
  |some q =>
   obtain⟨b,u3,uw,k1,k2,k3,k4,k5,k6,k7⟩:=Gr hS l u2 Gq (fun i hi=>hj i (by simp [hi])) sU l2 Ed
   refine⟨b,u3,uw,k1,k2,k3,k4,fun C q hq=>k5 C q (BO C q hq),fun e i hi=>?_,k7⟩
   rcases List.mem_cons.1 hi with rfl|hi
   ·exact⟨q,k5 _ _ (RI q rfl)⟩
   ·exact k6 e i hi
end
noncomputable def tH (f:Nat->List Nat->Option (Tm × List Nat)):List Nat->List Nat->Option (List Tm × List Nat)
 |[],up=>some ([],up)
 |x::l,up=>match gQ up x with
  |none=>none
  |some (u,r)=>match f r u with
   |none=>none
   |some (t,u')=>match tH f l u' with
    |none=>none
    |some (ts,u'')=>some (t::ts,u'')
noncomputable def tI (N:bj) (sh ls:List (Int × Int)):Nat->Nat->List Nat->Option (Tm × List Nat)
 |0,_,_=>none
 |m+1,r,up=>match aD sh (r:Int) with
  |none=>some (vr ((aD ls (r:Int)).getD 0),up)
  |some k=>if 0<=k then (match N[k.toNat]? with
   |none=>none
   |some (t,l)=>if l.length=t.a.length then (if t.a.length=0 then some (t,up) else match tH (tI N sh ls m) l up with
    |none=>none
    |some (ts,u)=>some (⟨t.k,t.i,t.n,ts⟩,u)) else none) else none
noncomputable def sd (N:bj) (sh ls vs:List (Int × Int)) (kn:KN) (m:Nat):List Int->List Nat->List Bd->Option (Option (List Bd))
 |[],_,acc=>some (some acc)
 |v::l,up,acc=>match aD vs v with
  |none=>none
  |some k=>if 0<=k then (match gQ up k.toNat with
   |none=>none
   |some (u,r)=>if aD sh (r:Int)=none/\(aD ls (r:Int)).getD 0=v then sd N sh ls vs kn m l u acc else
    if 200 < ((aD kn (r:Int)).getD (0,0)).1\/20 < ((aD kn (r:Int)).getD (0,0)).2 then some none else
    match tI N sh ls m r u with
    |none=>none
    |some (t,u')=>sd N sh ls vs kn m l u' (acc++[⟨v,t⟩])) else none
section
variable {N:bj}{c h:Nat->Nat}{sh ls:List (Int × Int)}
def s9 (ls:List (Int × Int)) (C:Nat):Int:=(aD ls (C:Int)).getD 0
theorem Pa (g:jt N) (hS:C0 N c sh):∀ (m r:Nat) (up:List Nat),jZ N c (b8 sh) m r->UF up c h->up.length=N.length->r < N.length->c r=r ->
  ∃ de,tI N sh ls m r up=some (TF N c (b8 sh) (s9 ls) m r,de)/\UF de c h/\de.length=N.length
 |0,_,_,h,_,_,_,_=>h.elim
 |m+1,r,up,hW,hU,hl,hr,hc=>by
  rw [tI,TF]
  cases e3:aD sh (r:Int) with
  |none =>
   have f3:b8 sh r=none:=by unfold b8;rw [e3];rfl
   rw [f3]
   exact⟨up,rfl,hU,hl⟩
  |some k =>
   have f3:b8 sh r=some k.toNat:=by unfold b8;rw [e3];rfl
   obtain⟨s1,s2,s3⟩:=hS.at_ r hr hc _ f3
   rw [f3]
   simp only [if_pos (hS.pos _ _ e3),pe s1,if_pos (lq g s1)]
   by_cases e0:(tn N k.toNat).a.length=0
   ·rw [if_pos e0]
    have h1:ks N k.toNat=[]:=List.length_eq_zero_iff.1 (by rw [lq g s1];exact e0)
    rw [h1]
    refine⟨up,?_,hU,hl⟩
    have h2:(tn N k.toNat).a=[]:=List.length_eq_zero_iff.1 e0
    congr 2
    generalize tn N k.toNat=t at h2
    obtain⟨a,b,n,l⟩:=t
    simp only at h2
    subst h2
    rfl
   ·rw [if_neg e0]
    have key:∀ (l:List Nat) (up:List Nat),(∀ j ∈ l,j < N.length/\jZ N c (b8 sh) m (c j))->UF up c h->up.length=N.length->∃ de,tH (tI N sh ls m) l up=some (l.map fun j=>TF N c (b8 sh) (s9 ls) m (c j),de)/\UF de c h/\de.length=N.length:=by
     intro l
     induction l with
     |nil=>intro up _ hU hl;exact⟨up,rfl,hU,hl⟩
     |cons j l ihl =>
      intro up hj hU hl
      obtain⟨sL,eN⟩:=hj j (by simp)
      obtain⟨u1,r1,zm,l1⟩:=hU.gQ (k:=j) (by omega)
      have cj:c j < N.length:=by have:=(hU.rt j (by omega)).2;omega
      obtain⟨u2,m2,sU,l2⟩:=Pa g hS m (c j) u1 eN zm (by omega) cj (hU.cc (by omega))
      obtain⟨u3,m3,hU3,l3⟩:=ihl u2 (fun i hi=>hj i (by simp [hi])) sU l2
      exact⟨u3,by rw [tH,r1];simp only [m2,m3,List.map_cons],hU3,l3⟩
    obtain⟨u,k1,k2,k3⟩:=key (ks N k.toNat) up (fun j hj=>⟨hS.U4 _ s1 j hj,hW _ f3 j hj⟩) hU hl
    exact⟨u,by rw [k1],k2,k3⟩
def se (t:Tm):Bool:=decide (200 < fX t\/20 < Gm t)
theorem Ym {t:Tm}:(200 < (sc t).1\/20 < (sc t).2) ↔ se t=true:=by
 unfold sc se
 simp only [decide_eq_true_eq]
 omega
end
mutual
def jM:Tm->Prop
 |⟨k,i,n,a⟩=>a.length<=6/\n.size<=1099511627776/\jR a
def jR:List Tm->Prop
 |[]=>True
 |x::l=>jM x/\jR l
end
theorem jR.mem:∀ {l:List Tm},jR l->∀ x ∈ l,jM x
 |y::l,h,x,hx=>by
  rw [jR] at h
  rcases List.mem_cons.1 hx with rfl|hx
  ·exact h.1
  ·exact h.2.mem x hx
theorem jM.out {t:Tm}(h:jM t):t.a.length<=6/\t.n.size<=1099511627776/\jR t.a:=by
 obtain⟨k,i,n,a⟩:=t
 rw [jM] at h
 exact h
def pV (N:bj):Prop:=∀ i,i < N.length->jM (tn N i)
theorem pV.push {N:bj}(h:pV N) {t:Tm}{l:List Nat}(ht:jM t):pV (N++[(t,l)]):=by
 intro i hi
 by_cases e:i < N.length
 ·have hp:∀ i,i < N.length->(N++[(t,l)])[i]?=N[i]?:=fun i hi=>List.getElem?_append_left hi
  rw [(dS hp e).1]
  exact h i e
 ·have:i=N.length:=by rw [List.length_append,List.length_singleton] at hi;omega
  subst this
  rw [jC.1]
  exact ht
mutual
theorem yW:∀ (N:bj) (t:Tm),pV N->jM t->pV (lI N t).1/\(lI N t).1.length<=N.length+fX t
 |N,⟨k,i,n,a⟩,h,ht=>by
  have ht':=ht
  rw [jM] at ht
  rw [lI,fX]
  split
  ·exact⟨h,by simp only;omega⟩
  ·obtain⟨h1,h2⟩:=Az N a h ht.2.2
   exact⟨h1.push ht',by simp only [List.length_append,List.length_singleton];omega⟩
theorem Az:∀ (N:bj) (l:List Tm),pV N->jR l->pV (eI N l).1/\(eI N l).1.length<=N.length+cN l
 |N,[],h,_=>by rw [eI,cN];exact⟨h,by simp only;omega⟩
 |N,x::l,h,ht=>by
  rw [jR] at ht
  obtain⟨h1,h2⟩:=yW N x h ht.1
  obtain⟨k1,k2⟩:=Az _ l h1 ht.2
  rw [eI,cN]
  exact⟨k1,by simp only;omega⟩
end
def Ee (N:bj):Prop:=∀ (i:Nat) (t:Tm) (l:List Nat),N[i]?=some (t,l)->l.length<=6/\t.a.length<=6/\t.n.size<=1099511627776
theorem Ee.of {N:bj}(g:jt N) (h:pV N):Ee N:=by
 intro i t l hi
 have aA:=(List.getElem?_eq_some_iff.1 hi).1
 have h1:=lq g aA
 have h2:=(h i aA).out
 rw [pe aA] at hi
 simp only [oI_,pI_] at hi
 obtain⟨rfl,rfl⟩:=hi
 exact⟨by omega,h2.1,h2.2.1⟩
def wa:List (Tm × Tm)->Nat
 |[]=>0
 |e::l=>fX e.1+fX e.2+wa l
inductive oJ:List (Tm × Tm)->PS->Bool->PS->Prop
 |nil {s:PS}:oJ [] s true s
 |no {a b:Tm}{l:List (Tm × Tm)}{s:PS}{m:Nat}{j:JS}(h:fl (bH (bH s a).1 b).1.N m [((bH s a).2,(bH (bH s a).1 b).2)] (bH (bH s a).1 b).1.js=some (false,j)) :
   oJ ((a,b)::l) s false ⟨(bH (bH s a).1 b).1.N,(bH (bH s a).1 b).1.vs,j⟩
 |go {a b:Tm}{l:List (Tm × Tm)}{s s':PS}{m:Nat}{j:JS}{r:Bool}(h:fl (bH (bH s a).1 b).1.N m [((bH s a).2,(bH (bH s a).1 b).2)] (bH (bH s a).1 b).1.js=some (true,j))
   (k:oJ l ⟨(bH (bH s a).1 b).1.N,(bH (bH s a).1 b).1.vs,j⟩ r s'):oJ ((a,b)::l) s r s'
theorem Pb {E:List (Tm × Tm)}:∀ (l:List (Tm × Tm)) (done:List (Tm × Tm)) (s:PS) (D:List (Nat × Nat)) (c:Nat->Nat),(∀ e ∈ l,e ∈ E/\(eW e.1/\jM e.1)/\eW e.2/\jM e.2)->pV s.N->s.N.length+wa l<=100000000000->m8 E s.N D c [] s.js->na s->(∀ p ∈ D,p.1 < s.N.length/\p.2 < s.N.length) ->
  (∀ e ∈ done,∃ p ∈ D,p.1 < s.N.length/\p.2 < s.N.length/\tn s.N p.1=e.1/\tn s.N p.2=e.2) ->
  ∃ b s',oJ l s b s'/\(b=false->¬ ∃ f,tU E f)/\(b=true->∃ D' c',m8 E s'.N D' c' [] s'.js/\na s'/\pV s'.N/\s'.N.length<=100000000000/\∀ e ∈ done++l,∃ p ∈ D',p.1 < s'.N.length/\p.2 < s'.N.length/\tn s'.N p.1=e.1/\tn s'.N p.2=e.2)
 |[],done,s,D,c,_,hA,hZ,hJ,hV,hD,hd=>⟨true,s,.nil,fun h=>(by cases h),fun _=>⟨D,c,hJ,hV,hA,by rw [wa] at hZ;omega,by rw [List.append_nil];exact hd⟩⟩
 |(a,b)::l,done,s,D,c,he,hA,hZ,hJ,hV,hD,hd=>by
  obtain⟨e1,⟨w1,o1⟩,w2,o2⟩:=he (a,b) (by simp)
  simp only at w1 w2 o1 o2
  rw [wa] at hZ
  simp only at hZ
  obtain⟨z1,z2⟩:=yW s.N a hA o1
  obtain⟨z3,z4⟩:=yW _ b z1 o2
  obtain⟨p1,p2,p3,p4⟩:=nZ s a hV w1
  obtain⟨x1,x2,x3⟩:=yL s.N a hJ.gi.g w1
  obtain⟨q1,q2,q3,q4⟩:=nZ (bH s a).1 b p3 w2
  rw [<-p1,<-p2] at x2 x3
  rw [<-p1] at x1
  obtain⟨y1,y2,y3⟩:=yL (bH s a).1.N b x1.g w2
  rw [<-q1,<-q2] at y2 y3
  rw [<-q1] at y1
  rw [<-p1] at z2 z3 z4
  rw [<-q1] at z3 z4
  obtain⟨s2,oT⟩:∃ s2,s2=(bH (bH s a).1 b).1:=⟨_,rfl⟩
  obtain⟨x,hx⟩:∃ x,x=(bH s a).2:=⟨_,rfl⟩
  obtain⟨y,hy⟩:∃ y,y=(bH (bH s a).1 b).2:=⟨_,rfl⟩
  have key:∀ {r:Bool}{s':PS},(∃ m j,fl s2.N m [(x,y)] s2.js=some (false,j)/\r=false/\s'=⟨s2.N,s2.vs,j⟩)\/(∃ m j,fl s2.N m [(x,y)] s2.js=some (true,j)/\oJ l ⟨s2.N,s2.vs,j⟩ r s')->oJ ((a,b)::l) s r s':=by
   intro r s' h
   subst oT hx hy
   rcases h with ⟨m,j,h1,rfl,rfl⟩|⟨m,j,h1,h2⟩
   ·exact .no h1
   ·exact .go h1 h2
  rw [<-oT] at q3 q4 y1 y2 y3 z3 z4
  rw [<-hx] at x2 x3
  rw [<-hy] at y2 y3
  have tx:tn s2.N x=a:=by rw [y1.tn x2,x3]
  have vW:x < s2.N.length:=Nat.lt_of_lt_of_le x2 y1.le
  have hE:rM s.N s2.N:=x1.trans y1
  have hG:Grown s s2:=p4.trans q4
  have hJ2:=hJ.grow hD hE hG vW y2 (by rw [tx,y3];exact e1)
  clear oT hx hy p1 p2 p3 p4 q1 q2 x1 x2 x3
  have hK:∀ i,i < s2.N.length->(ks s2.N i).length<=6:=fun i hi=>by rw [lq hE.g hi];exact (z3 i hi).out.1
  obtain⟨f,r,j,j1,j2,j3⟩:=XP hK _ _ rfl rfl (by have:=Bl (fun i=>if i < s.N.length then c i else i) s2.N.length;simp only [List.length_singleton];omega) hJ2
  cases r with
  |false=>exact⟨false,_,key (.inl ⟨f,j,j1,rfl,rfl⟩),fun _=>j3 rfl,fun h=>by cases h⟩
  |true =>
   obtain⟨c',hJ3⟩:=j2 rfl
   have hl:s2.js.up.length=s2.N.length:=q3.up
   obtain⟨r,s',k1,k2,k3⟩:=Pb l (done++[(a,b)]) ⟨s2.N,s2.vs,j⟩ ((x,y)::D) c' (fun e h=>he e (by simp [h])) z3 (by simp only;omega) hJ3 ⟨q3.vs,hJ3.len,q3.nd⟩ (fun p hp=>by
    rcases List.mem_cons.1 hp with rfl|hp
    ·exact⟨vW,y2⟩
    ·obtain⟨h1,h2⟩:=hD p hp
     have:=hE.le
     exact⟨Nat.lt_of_lt_of_le h1 this,Nat.lt_of_lt_of_le h2 this⟩) (fun e h=>by
    rcases List.mem_append.1 h with h|h
    ·obtain⟨p,h1,h2,h3,h4,h5⟩:=hd e h
     have:=hE.le
     exact⟨p,by simp [h1],Nat.lt_of_lt_of_le h2 this,Nat.lt_of_lt_of_le h3 this,by rw [hE.tn h2];exact h4,by rw [hE.tn h3];exact h5⟩
    ·obtain rfl:=List.mem_singleton.1 h
     exact⟨(x,y),by simp,vW,y2,tx,y3⟩)
   exact⟨r,s',key (.inr ⟨f,j,j1,k1⟩),k2,fun e=>by
    obtain⟨D',c',h1,h2,h4,h5,h3⟩:=k3 e
    exact⟨D',c',h1,h2,h4,h5,fun e he=>h3 e (by simpa using he)⟩⟩
theorem Ef:jt []:=⟨(fun i hi=>by cases hi),fun i hi=>(by cases hi),fun i hi=>(by cases hi),fun i j hi=>by cases hi⟩
theorem m8.start {E:List (Tm × Tm)}:m8 E [] [] id [] ⟨[],[],[]⟩ :=
 ⟨⟨Ef,fun i j hi=>(by cases hi),fun p hp=>(by cases hp),fun p hp=>(by cases hp),fun i j hi=>by cases hi⟩,⟨fun _=>0,fun i hi=>(by cases hi),fun i hi=>(by cases hi),fun i hi=>(by cases hi),fun i hi=>(by cases hi),fun i hi=>by cases hi⟩,rfl,
  fun C i h=>(by cases h),fun C hC=>(by cases hC),fun C hC=>(by cases hC),fun C _=>rfl,fun C _=>rfl⟩
section
variable {E:List (Tm × Tm)}{N:bj}{D:List (Nat × Nat)}{c:Nat->Nat}{s:JS}
theorem m8.aaR (h:m8 E N D c [] s):C0 N c s.sh:=⟨h.pos,fun C hC e s' hs=>by
 have h1:=h.tW C hC e
 rw [hs] at h1
 exact h1,fun i hi j hj=>Nat.lt_trans (h.gi.g.lt i hi j hj) hi⟩
theorem Yn {sh:List (Int × Int)}(hC:pL E N c) (hS:C0 N c sh) (hn:∀ i,i < N.length->(tn N i).k ≠ 1->∃ t,b8 sh (c i)=some t) (hc:∀ i,i < N.length->c (c i)=c i/\c i < N.length) (hW:∀ i,i < N.length->∃ m,jZ N c (b8 sh) m (c i)) :
  ∃ r,pN N c r/\∀ i,i < N.length->jZ N c (b8 sh) (r (c i)) (c i):=by
 have hl:∀ C,∃ m,(∃ m,jZ N c (b8 sh) m C)->jZ N c (b8 sh) m C/\∀ k,k < m->¬ jZ N c (b8 sh) k C:=fun C=>by
  by_cases h:∃ m,jZ N c (b8 sh) m C
  ·obtain⟨n,hn⟩:=h
   obtain⟨m,h1,h2⟩:=RG (p:=fun m=>jZ N c (b8 sh) m C) n hn
   exact⟨m,fun _=>⟨h1,h2⟩⟩
  ·exact⟨0,fun h'=>absurd h' h⟩
 refine⟨fun C=>(hl C).choose,fun i hi hk j hj=>?_,fun i hi=>((hl (c i)).choose_spec (hW i hi)).1⟩
 obtain⟨t,ht⟩:=hn i hi hk
 obtain⟨t1,t2,t3⟩:=hS.at_ (c i) (hc i hi).2 (hc i hi).1 t ht
 have h1:=((hl (c i)).choose_spec (hW i hi)).1
 obtain⟨_,a2⟩:=hC.al i t hi t1 t2.symm hk t3
 have eN:c j ∈ (ks N t).map c:=by rw [<-a2];exact List.mem_map.2 ⟨j,hj,rfl⟩
 obtain⟨j',gp,e⟩:=List.mem_map.1 eN
 have hjl:j' < N.length:=hS.U4 t t1 j' gp
 show (hl (c j)).choose < (hl (c i)).choose
 generalize (hl (c i)).choose=m at h1
 cases m with
 |zero=>exact h1.elim
 |succ m =>
  have h2:=h1 t ht j' gp
  rw [e] at h2
  have h3:=((hl (c j)).choose_spec ⟨m,h2⟩).2
  exact Nat.lt_succ_of_le (Nat.le_of_not_lt fun h=>h3 m h h2)
end
theorem aaS {E:List (Tm × Tm)}{N:bj}{D:List (Nat × Nat)}{c:Nat->Nat}{s:JS}(h:m8 E N D c [] s) (hu:∃ f,tU E f):∃ rk,U5 N c s.sh rk:=by
 obtain⟨r,hr⟩:=Oi h.gi.g h.gi.sound hu
 refine⟨r,fun C hC e t ht j hj=>?_⟩
 obtain⟨t1,t2,t3⟩:=h.aaR.at_ C hC e t ht
 have:=hr t t1 t3 j hj
 rwa [t2] at this
theorem I_ {N:bj}{c:Nat->Nat}{sh:Nat->Option Nat}:∀ (n:Nat),(∀ i,i < n->∃ m,jZ N c sh m (c i))->∃ m,∀ i,i < n->jZ N c sh m (c i)
 |0,_=>⟨0,fun i hi=>by omega⟩
 |n+1,h=>by
  obtain⟨m,hm⟩:=I_ n fun i hi=>h i (by omega)
  obtain⟨m',hm'⟩:=h n (by omega)
  refine⟨max m m',fun i hi=>?_⟩
  by_cases e:i < n
  ·exact (hm i e).le (Nat.le_max_left _ _)
  ·have:i=n:=by omega
   subst this
   exact hm'.le (Nat.le_max_right _ _)
section
variable {N:bj}{c h:Nat->Nat}{sh ls vs:List (Int × Int)}{kn:KN}
theorem Gs {σ:Int->Tm}{M:Nat}{p:Int->Bool}(g:jt N) (hS:C0 N c sh) (hp:∀ v,p v=true ↔ σ v ≠ vr v)
  (hv:∀ v k,aD vs v=some k->0<=k/\k.toNat < N.length/\jZ N c (b8 sh) M (c k.toNat)/\σ v=TF N c (b8 sh) (s9 ls) M (c k.toNat)/\aD kn (c k.toNat:Int)=some (sc (σ v))) :
  ∀ (l:List Int) (up:List Nat) (acc:List Bd),(∀ v ∈ l,∃ k,aD vs v=some k)->UF up c h->up.length=N.length ->
   sd N sh ls vs kn M l up acc=some (if (l.filter p).any (fun v=>se (σ v)) then none else some (acc++(l.filter p).map fun v=>⟨v,σ v⟩))
 |[],up,acc,_,_,_=>by rw [sd];simp
 |v::l,up,acc,hk,hU,hl=>by
  obtain⟨k,dN⟩:=hk v (by simp)
  obtain⟨k0,k1,k2,k3,k4⟩:=hv v k dN
  obtain⟨u1,r1,zm,l1⟩:=hU.gQ (k:=k.toNat) (by omega)
  have ck:c k.toNat < N.length:=by have:=(hU.rt k.toNat (by omega)).2;omega
  have cc:c (c k.toNat)=c k.toNat:=hU.cc (by omega)
  rw [sd,dN]
  simp only [if_pos k0,r1]
  have hb:(aD sh (c k.toNat:Int)=none/\(aD ls (c k.toNat:Int)).getD 0=v) ↔ σ v=vr v:=by
   rw [k3]
   cases M with
   |zero=>exact k2.elim
   |succ M =>
    rw [TF]
    cases e:aD sh (c k.toNat:Int) with
    |none =>
     have f:b8 sh (c k.toNat)=none:=by unfold b8;rw [e];rfl
     rw [f]
     simp only [true_and,s9,vr,Tm.mk.injEq,and_true]
    |some s =>
     have f:b8 sh (c k.toNat)=some s.toNat:=by unfold b8;rw [e];rfl
     obtain⟨s1,s2,s3⟩:=hS.at_ _ ck cc _ f
     rw [f]
     simp only [vr,Tm.mk.injEq]
     exact⟨(fun h=>by cases h.1),fun h=>absurd h.1 s3⟩
  rw [k4,Option.getD_some]
  simp only [Ym]
  by_cases e:σ v=vr v
  ·rw [if_pos (hb.2 e),Gs g hS hp hv l u1 acc (fun w hw=>hk w (by simp [hw])) zm (by omega)]
   have:p v=false:=by rw [Bool.eq_false_iff];intro h;exact (hp v).1 h e
   rw [List.filter_cons_of_neg (by rw [this];simp)]
  ·rw [if_neg (fun h=>e (hb.1 h))]
   have:p v=true:=(hp v).2 e
   rw [List.filter_cons_of_pos this]
   cases CS:se (σ v) with
   |true=>simp [CS]
   |false =>
    obtain⟨u2,m2,sU,l2⟩:=Pa (ls:=ls) g hS M (c k.toNat) u1 k2 zm (by omega) ck cc
    rw [<-k3] at m2
    simp only [m2,Bool.false_eq_true,if_false]
    rw [Gs g hS hp hv l u2 _ (fun w hw=>hk w (by simp [hw])) sU l2]
    simp [CS]
end
theorem Yo (E:List (Tm × Tm)) (hw:∀ e ∈ E,(eW e.1/\jM e.1)/\eW e.2/\jM e.2) (hz:wa E<=100000000000):∃ b s',oJ E ⟨[],[],⟨[],[],[]⟩⟩ b s'/\(b=false->tB se E=([],13)) /\
  (b=true->na s'/\pV s'.N/\s'.N.length<=100000000000/\∃ b2 up kn,s8 s'.N s'.js.sh (List.range s'.N.length) s'.js.up []=some (b2,up,kn)/\(b2=false->tB se E=([],13)) /\
   (b2=true->∀ l,tV l->(∀ v,v ∈ l ↔ v ∈ s'.vs.map (·.1))->∃ M ro,sd s'.N s'.js.sh s'.js.ls s'.vs kn M l up []=some ro/\tB se E=(match ro with|none=>([],6)|some o=>(o,0)))):=by
 obtain⟨b,s',h1,h2,h3⟩:=Pb (E:=E) E [] ⟨[],[],⟨[],[],[]⟩⟩ [] id (fun e he=>⟨he,hw e he⟩) (fun i hi=>by cases hi) (by simpa using hz) .start ⟨fun v=>rfl,rfl,by simp⟩ (fun p hp=>by cases hp) (fun e he=>by cases he)
 refine⟨b,s',h1,fun e=>DO (h2 e),fun e=>?_⟩
 obtain⟨D,c,hJ,hV,oW,hLe,hD⟩:=h3 e
 rw [List.nil_append] at hD
 obtain⟨hh,hU⟩:=hJ.uf
 have hS:=hJ.aaR
 refine⟨hV,oW,hLe,?_⟩
 obtain⟨b2,up,kn,m1,sU,l2,hK,_,m5,m6⟩:=Gr (lo:=s9 s'.js.ls) hS (List.range s'.N.length) s'.js.up [] (fun j hj=>List.mem_range.1 hj) hU hJ.len (fun C q hq=>by cases hq)
 refine⟨b2,up,kn,m1,fun e=>DO fun hu=>m6 e (aaS hJ hu),fun e l hl hm=>?_⟩
 have hC:pL E s'.N c:=hJ.gi.closed hD
 have lf:∀ i,i < s'.N.length->c (c i)=c i/\c i < s'.N.length:=fun i hi=>⟨hU.cc (by rw [hJ.len];exact hi),by have:=(hU.rt i (by rw [hJ.len];exact hi)).2;rw [hJ.len] at this;exact this⟩
 have xH:∀ i,i < s'.N.length->∃ m,jZ s'.N c (b8 s'.js.sh) m (c i)/\aD kn (c i:Int)=some (sc (TF s'.N c (b8 s'.js.sh) (s9 s'.js.ls) m (c i))):=fun i hi=>by
  obtain⟨q,hq⟩:=m5 e i (List.mem_range.2 hi)
  obtain⟨m,k1,k2⟩:=hK _ _ hq
  exact⟨m,k1,by rw [hq,k2]⟩
 have U6:∀ i,i < s'.N.length->(tn s'.N i).k ≠ 1->∃ t,b8 s'.js.sh (c i)=some t:=fun i hi hk=>by
  cases ht:b8 s'.js.sh (c i) with
  |some t=>exact⟨t,rfl⟩
  |none =>
   have:=hJ.tW (c i) (lf i hi).2 (lf i hi).1
   rw [ht] at this
   exact absurd (this i hi rfl) hk
 obtain⟨r,hr,hrW⟩:=Yn hC hS U6 lf fun i hi=>let ⟨m,h,_⟩:=xH i hi;⟨m,h⟩
 obtain⟨M,hM⟩:=I_ (sh:=b8 s'.js.sh) (c:=c) s'.N.length fun i hi=>⟨_,hrW i hi⟩
 have ux:∀ (m C:Nat),C < s'.N.length->c C=C->TF s'.N c (b8 s'.js.sh) (s9 s'.js.ls) m C=TF s'.N c (fun C=>if C < s'.N.length/\c C=C then b8 s'.js.sh C else none) (s9 s'.js.ls) m C:=by
  intro m
  induction m with
  |zero=>intro C _ _;rfl
  |succ m ih =>
   intro C h1 h2
   rw [TF,TF]
   simp only [if_pos (And.intro h1 h2)]
   cases hs:b8 s'.js.sh C with
   |none=>rfl
   |some t =>
    simp only [Tm.mk.injEq,true_and]
    refine List.map_congr_left fun j hj=>?_
    have eN:=hS.U4 t (hS.at_ C h1 h2 t hs).1 j hj
    exact ih (c j) (lf j eN).2 (lf j eN).1
 obtain⟨Gt,RK⟩:∃ Gt:Nat->Option Nat,Gt=fun C=>if C < s'.N.length/\c C=C then b8 s'.js.sh C else none:=⟨_,rfl⟩
 rw [<-RK] at ux
 have l_:∀ C t,Gt C=some t->t < s'.N.length/\c t=C/\(tn s'.N t).k ≠ 1:=fun C t h=>by
  rw [RK] at h
  simp only at h
  split at h
  ·rename_i hc;exact hS.at_ C hc.1 hc.2 t h
  ·cases h
 have oT:∀ i,i < s'.N.length->Gt (c i)=b8 s'.js.sh (c i):=fun i hi=>by rw [RK];simp only;rw [if_pos ⟨(lf i hi).2,(lf i hi).1⟩]
 have IN:∀ i,i < s'.N.length->Gt (c i)=none->∀ j,j < s'.N.length->c j=c i->(tn s'.N j).k=1:=fun i hi h j hj e=>Classical.byContradiction fun hk=>by
  obtain⟨t,ht⟩:=U6 j hj hk
  rw [e,<-oT i hi,h] at ht
  cases ht
 have hMe:yJ s'.N c (TC s'.N c Gt (s9 s'.js.ls) r):=QJ hC l_ hr IN fun i hi h=>by
  have h1:=hJ.cE (c i) (lf i hi).2 (lf i hi).1
  have h2:=IN i hi h
  unfold s9
  cases hl:aD s'.js.ls (c i:Int) with
  |none=>rw [hl] at h1;exact absurd (h2 i hi rfl) (h1 i hi rfl)
  |some v =>
   rw [hl] at h1
   obtain⟨⟨j,j1,j2,j3,j4⟩,j5⟩:=h1
   exact⟨j,j1,j2,j4.symm,fun j' gp e=>by rw [j4];exact j5 j' gp e (h2 j' gp e)⟩
 have aaU:=QG hC hMe hr
 have hTF:∀ {m m' C:Nat},jZ s'.N c (b8 s'.js.sh) m C->jZ s'.N c (b8 s'.js.sh) m' C->TF s'.N c (b8 s'.js.sh) (s9 s'.js.ls) m C=TF s'.N c (b8 s'.js.sh) (s9 s'.js.ls) m' C:=fun {m m' C} h h'=>by
  rw [<-BN h (Nat.le_max_left m m'),BN h' (Nat.le_max_right m m')]
 obtain⟨σ,hσ⟩:∃ σ,σ=Bi s'.N c (TC s'.N c Gt (s9 s'.js.ls) r):=⟨_,rfl⟩
 have TX:∀ i,i < s'.N.length->(tn s'.N i).k=1->∀ m,jZ s'.N c (b8 s'.js.sh) m (c i)->σ (tn s'.N i).i=TF s'.N c (b8 s'.js.sh) (s9 s'.js.ls) m (c i):=fun i hi hk m hm=>by
  rw [hσ,yK hJ.gi.g hi hk]
  unfold TC
  rw [<-ux _ _ (lf i hi).2 (lf i hi).1]
  exact hTF ((hrW i hi).succ) hm
 rw [<-hσ] at aaU
 obtain⟨p,hp⟩:∃ p:Int->Bool,∀ v,p v=true ↔ σ v ≠ vr v:=by
  classical
  exact⟨fun v=>decide (σ v ≠ vr v),fun v=>decide_eq_true_iff⟩
 refine⟨M,_,Gs (σ:=σ) (M:=M) (p:=p) hJ.gi.g hS hp (fun v k hk=>?_) l up [] (fun v hv=>pR.1 ((hm v).1 hv)) sU l2,?_⟩
 ·rw [hV.vs] at hk
  cases hx:lH s'.N v with
  |none=>rw [hx] at hk;cases hk
  |some j =>
   rw [hx] at hk
   obtain rfl:=oJ_ hk
   obtain⟨a1,a2,a3⟩:=wX hx
   show 0<=(j:Int)/\(j:Int).toNat < _/\jZ _ _ _ M (c (j:Int).toNat)/\σ v=TF _ _ _ _ M (c (j:Int).toNat)/\aD kn (c (j:Int).toNat:Int)=_
   rw [Int.toNat_natCast]
   obtain⟨m,w1,w2⟩:=xH j a1
   have h1:=TX j a1 a2 M (hM j a1)
   rw [a3] at h1
   exact⟨by omega,a1,hM j a1,h1,by rw [w2,h1,hTF w1 (hM j a1)]⟩
 ·have hO:wW E σ (l.filter p):=⟨aaU,vc hl,fun v=>by
   rw [List.mem_filter,hp]
   refine⟨fun h=>h.2,fun h=>⟨?_,h⟩⟩
   rw [hm,pR,hV.vs]
   cases hx:lH s'.N v with
   |some j=>exact⟨_,rfl⟩
   |none =>
    refine absurd ?_ h
    rw [hσ]
    exact FF fun ⟨i,h1,h2,h3⟩=>DP hx i h1 h2 h3⟩
  rw [DN hO,JV]
  split<;>simp
end Go.Proofs.YtgjfgekaclobaaaGreat
