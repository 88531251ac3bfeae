import Derived.Test.YtbpabjmnhggajaaGreatOs27
namespace Go.Proofs.YtbpabjmnhggajaaGreat
set_option linter.unusedVariables false
set_option linter.unusedSimpArgs false
open Go.RowKit
section
set_option maxRecDepth 100000
attribute [local irreducible] ah aC af ad
def FnS (P:Program) (w0:World) (so:List (Nat × Ob)) (N:Nat) (F:AV) (xs:List AV) (b:Bool):Prop:=∃ gid args,dW F xs=some (gid,args)/\(∀ a ∈ args,dz N a)/\aC P w0 gid args (aq so N) (.v (.bool b)) (aq so N)
def LD (N:Nat) (o:Ob):Prop:=fR N o/\∀ J,o ≠ .fo J
section
variable {P:Program}{w0:World}{dr:Bool}{N:Nat}{so:List (Nat × Ob)}{T:ae}{α:AA}
theorem af.fnS {f:QO}{qs:List QO}{F:AV}{l:List AV}{b:Bool}(h:FnS P w0 so N F l b) (hf:f.ev α.tm=F) (ha:qs.map (·.ev α.tm)=l) (hT:Dk so N T):af P w0 dr (.call f qs) α T (.v (.bool b)) T:=by
 obtain⟨gid,args,h1,h2,h3⟩:=h;exact af.acZ h3 (by grind) hT h2 .v
theorem W6 {o0 o1 o2:Ob}(h0:T.get 0=some o0) (h1:T.get 1=some o1) (h2:T.get 2=some o2) (hn:Nat.ble 3 T.nx=true) (k0:LD 3 o0) (k1:LD 3 o1) (k2:LD 3 o2):Dk [(0,o0),(1,o1),(2,o2)] 3 T:=by
 refine⟨Nat.le_of_ble_eq_true hn,fun j o h=>?_,fun j hj=>?_⟩
 ·match j,h with
  |0,h=>obtain rfl:=oJ_ h;exact⟨by decide,h0,k0.1,k0.2⟩
  |1,h=>obtain rfl:=oJ_ h;exact⟨by decide,h1,k1.1,k1.2⟩
  |2,h=>obtain rfl:=oJ_ h;exact⟨by decide,h2,k2.1,k2.2⟩
  |j+3,h=>cases h
 ·match j,hj with
  |0,_=>exact⟨_,rfl⟩
  |1,_=>exact⟨_,rfl⟩
  |2,_=>exact⟨_,rfl⟩
end
section
variable {w0:World}{ρ:Hd}
theorem yv {o0 o1 o2:Ob}(k0:LD 3 o0) (k1:LD 3 o1) (k2:LD 3 o2) (p:Int->Bool) (l:List Int) (gid:FuncId) (fs cs:List AV) (hl:l.length<=1099511627776) (hF:dz 3 (.fn (.func gid) fs cs)) (h:∀ x ∈ l,FnS Tryz.prog w0 [(0,o0),(1,o1),(2,o2)] 3 (.fn (.func gid) fs cs) [iv x] (p x)) :
  aC Tryz.prog w0 226 [aX ρ aP false l,.fn (.func gid) fs cs] (aq [(0,o0),(1,o1),(2,o2)] 3) (iv (du p l 0)) (aq [(0,o0),(1,o1),(2,o2)] 3):=by
 obtain⟨R,hR⟩:∃ R,R=du p l 0:=⟨_,rfl⟩;rw[<-hR];refine sc 3 3 acI ?_;refine gq iT ?_
 repeat' (first
  |refine bq (fun hb=>?_) (fun hb=>?_)<;>(try simp only[bX] at hb)<;>(first|exact absurd hb (by decide)|refine gq iT ?_)
  |refine cF fun m hm=>?_;(try rw[aE] at hm);refine gq iT ?_
  |refine cz fun _ _=>?_;refine gq iT ?_
  |refine mg fun _ _=>?_;refine gq iT ?_
  |refine ad.str rfl (af.cat rfl rfl (by assumption)) fun _ _=>?_;refine gq iT ?_
  |refine ad.aH ?_;refine gq iT ?_
  |refine ad.cP ?_;refine gq iT ?_
  |(refine fq ?_))
 refine ad.bu (σ:=Int) 3 3 [] (fun i=>[(0,aX ρ aP false l),(1,.fn (.func gid) fs cs),(7,.v (.int .i64 m)),(8,.v (.int .i64 i))]) [] (fun _=>[(0,o0),(1,o1),(2,o2)])
  (fun i=>∃ k:Nat,i=k/\k<=l.length/\R=du p (l.drop k) k) (fun i=>l.length - i.toNat) 0 ⟨0,rfl,by simp,by grind⟩ rfl ⟨⟨.ao rfl (Pure.aV (bp _)),.ao rfl hF,.ao rfl .v,.ao rfl .v,trivial⟩,rfl,⟨.inl ⟨_,rfl,.same k0.1⟩,.inl ⟨_,rfl,.same k1.1⟩,.inl ⟨_,rfl,.same k2.1⟩,trivial⟩,rfl,rfl,rfl⟩ ?_
 rintro i ⟨k,hi,hk,hp⟩;clear hR;refine gq iT ?_;by_cases aA:k < l.length
 ·obtain⟨x,hx,bK⟩:=bf aA;rw[bK,du] at hp;have hf:=h x (eU hx);obtain⟨B,hB⟩:∃ B,B=p x:=⟨_,rfl⟩;rw[<-hB] at hp hf
  repeat' (first
   |refine ad.op rfl (af.ind rfl rfl (aY (l:=l) hi hx) (aZ fun _=>rfl)) ?_;refine gq iT ?_
   |refine ad.bif rfl (af.fnS hf rfl rfl (W6 rfl rfl rfl rfl k0 k1 k2)) (fun _=>?_) (fun _=>?_)<;>refine gq iT ?_
   |refine bq (fun hb=>?_) (fun hb=>?_)<;>(try simp only[bX] at hb)<;>(first|exact absurd hb (by decide)|refine gq iT ?_)
   |refine cF fun m hm=>?_;(try rw[aE] at hm);refine gq iT ?_
   |refine cz fun _ _=>?_;refine gq iT ?_
   |refine mg fun _ _=>?_;refine gq iT ?_
   |refine ad.str rfl (af.cat rfl rfl (by assumption)) fun _ _=>?_;refine gq iT ?_
   |refine ad.aH ?_;refine gq iT ?_
   |refine ad.cP ?_;refine gq iT ?_
   |(refine fq ?_))
  all_goals first
   |exfalso;omega
   |rw[if_pos (by grind)] at hp;rw[show R=i by omega];exact⟨[],.ao .v,⟨.inl ⟨_,rfl,.same k0.1⟩,.inl ⟨_,rfl,.same k1.1⟩,.inl ⟨_,rfl,.same k2.1⟩,trivial⟩,rfl⟩
   |(rw[if_neg (by grind)] at hp
     refine ad.aO (σ:=Int) _ [] ?_ ?_ ⟨⟨.ao rfl (Pure.aV (bp _)),.ao rfl hF,.ao rfl .v,.ao rfl .v,trivial⟩,rfl,⟨.inl ⟨_,rfl,.same k0.1⟩,.inl ⟨_,rfl,.same k1.1⟩,.inl ⟨_,rfl,.same k2.1⟩,trivial⟩,rfl,rfl,rfl⟩
     ·grind
     ·omega)
 ·skip
  repeat' (first
   |refine bq (fun hb=>?_) (fun hb=>?_)<;>(try simp only[bX] at hb)<;>(first|exact absurd hb (by decide)|refine gq iT ?_)
   |refine cF fun m hm=>?_;(try rw[aE] at hm);refine gq iT ?_
   |refine cz fun _ _=>?_;refine gq iT ?_
   |refine mg fun _ _=>?_;refine gq iT ?_
   |refine ad.str rfl (af.cat rfl rfl (by assumption)) fun _ _=>?_;refine gq iT ?_
   |refine ad.aH ?_;refine gq iT ?_
   |refine ad.cP ?_;refine gq iT ?_
   |(refine fq ?_))
  all_goals first
   |exfalso;omega
   |rw[show R=-1 by rw[hp,List.drop_eq_nil_of_le (by omega)];rfl];exact⟨[],.ao .v,⟨.inl ⟨_,rfl,.same k0.1⟩,.inl ⟨_,rfl,.same k1.1⟩,.inl ⟨_,rfl,.same k2.1⟩,trivial⟩,rfl⟩
end
end
abbrev KN:=List (Int × (Int × Int))
noncomputable def oE (f:Nat->List Nat->KN->Option (Option (Int × Int) × List Nat × KN)):List Nat->List Nat->KN->Int × Int->Option (Option (Int × Int) × List Nat × KN)
 |[],up,kn,q=>some (some q,up,kn)
 |x::l,up,kn,q=>match iq up x with
  |none=>none
  |some (u,r)=>match f r u kn with
   |none=>none
   |some (none,u',eI)=>some (none,u',eI)
   |some (some p,u',eI)=>oE f l u' eI (min (q.1+p.1) 201,min (max q.2 (p.2+1)) 21)
noncomputable def kZ (N:bB) (sh:List (Int × Int)):Nat->List (Int × Unit)->Nat->List Nat->KN->Option (Option (Int × Int) × List Nat × KN)
 |0,_,_,_,_=>none
 |m+1,busy,r,up,kn=>match aB kn (r:Int) with
  |some q=>some (some q,up,kn)
  |none=>match aB busy (r:Int) with
   |some _=>some (none,up,kn)
   |none=>match aB sh (r:Int) with
    |none=>some (some (1,1),up,fl kn r (1,1))
    |some k=>if 0<=k then (match N[k.toNat]? with
     |none=>none
     |some (_,l)=>match oE (kZ N sh m (fl busy r ())) l up kn (1,1) with
      |none=>none
      |some (none,u,eI)=>some (none,u,eI)
      |some (some q,u,eI)=>some (some q,u,fl eI r q)) else none
mutual
def IA:Tm->Nat
 |⟨k,i,n,a⟩=>Cl a+1
def Cl:List Tm->Nat
 |[]=>0
 |x::l=>max (IA x) (Cl l)
end
def tO (t:Tm):Int × Int:=(min (dk t:Int) 201,min (IA t:Int) 21)
def kS (N:bB) (c:Nat->Nat) (sh:Nat->Option Nat):Nat->Nat->Prop
 |0,_=>False
 |m+1,C=>∀ s,sh C=some s->∀ j ∈ ks N s,kS N c sh m (c j)
section
variable {N:bB}{c:Nat->Nat}{sh:Nat->Option Nat}{lo:Nat->Int}
theorem kS.succ:∀ {m C:Nat},kS N c sh m C->kS N c sh (m+1) C
 |0,_,h=>h.elim
 |m+1,C,h=>fun s hs j hj=>(h s hs j hj).succ
theorem kS.le {m m' C:Nat}(h:kS N c sh m C) (hm:m<=m'):kS N c sh m' C:=by
 induction hm with
 |refl=>exact h
 |step _ ih=>exact ih.succ
theorem Hi:∀ {m m' C:Nat},kS N c sh m C->m<=m'->TF N c sh lo m' C=TF N c sh lo m C
 |0,_,_,h,_=>h.elim
 |m+1,0,_,_,h=>by omega
 |m+1,m'+1,C,h,hm=>by
  rw[TF,TF];cases e:sh C with
  |none=>rfl
  |some s =>
   simp only[Tm.mk.injEq,true_and];exact List.map_congr_left fun j hj=>Hi (h s e j hj) (by omega)
theorem S3 {p:Nat->Prop}:∀ (n:Nat),p n->∃ m,p m/\∀ k,k < m->¬ p k:=by
 intro n
 induction n using Nat.strongRecOn with
 |ind n ih =>
  intro h;by_cases hx:∃ k,k < n/\p k
  ·grind
  ·grind
end
def oF (busy:List (Int × Unit)):Nat->Nat
 |0=>0
 |n+1=>oF busy n+if aB busy (n:Int)=none then 1 else 0
theorem IB {b b':List (Int × Unit)}(h:∀ i,aB b' i=none->aB b i=none):∀ n,oF b' n<=oF b n
 |0=>Nat.le_refl _
 |n+1=>by
  have:=IB h n;rw[oF,oF];by_cases e:aB b' (n:Int)=none
  ·grind
  ·grind
theorem Cm {b b':List (Int × Unit)}(h:∀ i,aB b' i=none->aB b i=none) {r:Nat}(hr:aB b (r:Int)=none) (f_:aB b' (r:Int) ≠ none):∀ n,r < n->oF b' n < oF b n
 |0,h0=>by omega
 |n+1,h0=>by
  rw[oF,oF];by_cases e:r=n
  ·subst e;have:=IB h r;rw[if_pos hr,if_neg f_];omega
  ·have:=Cm h hr f_ n (by omega);by_cases e:aB b' (n:Int)=none
   ·grind
   ·grind
theorem F7 (b:List (Int × Unit)):∀ n,oF b n<=n
 |0=>Nat.le_refl _
 |n+1=>by
  have:=F7 b n;rw[oF];split<;>omega
section
variable {N:bB}{c h:Nat->Nat}{sh:List (Int × Int)}{lo:Nat->Int}
def zw (N:bB) (c:Nat->Nat) (sh:List (Int × Int)) (lo:Nat->Int) (kn:KN):Prop:=∀ (C:Nat) q,aB kn (C:Int)=some q->∃ m,kS N c (b9 sh) m C/\q=tO (TF N c (b9 sh) lo m C)
structure EY (N:bB) (c:Nat->Nat) (sh:List (Int × Int)):Prop where
 pos:∀ C i,aB sh C=some i->0<=i
 at_:∀ C,C < N.length->c C=C->∀ s,b9 sh C=some s->s < N.length/\c s=C/\(tn N s).k ≠ 1
 Vk:∀ i,i < N.length->∀ j ∈ ks N i,j < N.length
def Vl (N:bB) (c:Nat->Nat) (sh:List (Int × Int)) (rk:Nat->Nat):Prop:=∀ C,C < N.length->c C=C->∀ s,b9 sh C=some s->∀ j ∈ ks N s,rk (c j) < rk C
theorem S4 (l:List Tm) (x:Tm):bP (l++[x])=bP l+dk x:=by
 induction l with
 |nil=>simp[bP]
 |cons y l ih=>rw[List.cons_append,bP,bP,ih];omega
theorem W7 (k i:Int) (n:ByteArray) (a:List Tm):tO ⟨k,i,n,a⟩=(min (1+bP a:Int) 201,min (max 1 (Cl a+1:Int)) 21):=by grind[tO,dk,IA]
theorem W8 (hS:EY N c sh):∀ (d:Nat) (busy:List (Int × Unit)) (r:Nat) (up:List Nat) (kn:KN),oF busy N.length<=d->UF up c h->up.length=N.length->r < N.length->c r=r->zw N c sh lo kn ->
  ∃ res dA eI,kZ N sh (d+1) busy r up kn=some (res,dA,eI)/\UF dA c h/\dA.length=N.length/\zw N c sh lo eI/\(∀ C q,aB kn C=some q->aB eI C=some q)/\(∀ q,res=some q->aB eI (r:Int)=some q) /\
   (res=none->∀ rk,Vl N c sh rk->∃ b:Nat,b < N.length/\aB busy (b:Int) ≠ none/\rk b<=rk r):=by
 intro d
 induction d with
 |zero =>
  intro busy r up kn hd hU hl hr hc hK;rw[kZ];cases e1:aB kn (r:Int) with
  |some q=>exact⟨some q,up,kn,rfl,hU,hl,hK,fun _ _ h=>h,fun p hp=>by grind,fun h=>by grind⟩
  |none =>
   cases e2:aB busy (r:Int) with
   |some _=>exact⟨none,up,kn,rfl,hU,hl,hK,fun _ _ h=>h,(fun p hp=>by grind),fun _ rk _=>⟨r,hr,by grind,Nat.le_refl _⟩⟩
   |none =>
    exfalso;have:=Cm (b:=busy) (b':=fl busy (r:Int) ()) (r:=r) (fun i hi=>by grind[cd]) e2 (by grind[cd]) N.length hr;omega
 |succ d ih =>
  intro busy r up kn hd hU hl hr hc hK;rw[kZ];cases e1:aB kn (r:Int) with
  |some q=>exact⟨some q,up,kn,rfl,hU,hl,hK,fun _ _ h=>h,fun p hp=>by grind,fun h=>by grind⟩
  |none =>
   cases e2:aB busy (r:Int) with
   |some _=>exact⟨none,up,kn,rfl,hU,hl,hK,fun _ _ h=>h,(fun p hp=>by grind),fun _ rk _=>⟨r,hr,by grind,Nat.le_refl _⟩⟩
   |none =>
    have aA:=Cm (b:=busy) (b':=fl busy (r:Int) ()) (r:=r) (fun i hi=>by grind[cd]) e2 (by grind[cd]) N.length hr;have PR:∀ {eI:KN}{q:Int × Int}{m:Nat},zw N c sh lo eI->kS N c (b9 sh) m r->q=tO (TF N c (b9 sh) lo m r)->zw N c sh lo (fl eI r q):=by
     intro eI q m hK' hW hq C p hp;rw[cd] at hp;split at hp
     ·rename_i e;have e:r=C:=by omega
      subst e;obtain rfl:=oJ_ hp;exact⟨m,hW,hq⟩
     ·exact hK' C p hp
    have IC:∀ {eI:KN}{q:Int × Int},(∀ C p,aB kn C=some p->aB eI C=some p)->∀ C p,aB kn C=some p->aB (fl eI r q) C=some p:=by grind[cd]
    cases e3:aB sh (r:Int) with
    |none =>
     have f3:b9 sh r=none:=by grind[b9]
     refine⟨some (1,1),up,_,rfl,hU,hl,PR (m:=1) hK (fun s hs=>by grind) ?_,IC fun _ _ h=>h,fun q hq=>by grind[cd],fun h=>by cases h⟩;rw[TF,f3];simp only[tO,vr,dk,bP,IA,Cl]
     rfl
    |some k =>
     have f3:b9 sh r=some k.toNat:=by grind[b9]
     obtain⟨s1,s2,s3⟩:=hS.at_ r hr hc _ f3;simp only[if_pos (hS.pos _ _ e3),sW s1]
     have key:∀ (l:List Nat) (up:List Nat) (kn:KN) (A B:Int),1<=A->1<=B->(∀ j ∈ l,j < N.length)->UF up c h->up.length=N.length->zw N c sh lo kn ->
       ∃ res dA eI,oE (kZ N sh (d+1) (fl busy r ())) l up kn (min A 201,min B 21)=some (res,dA,eI)/\UF dA c h/\dA.length=N.length/\zw N c sh lo eI/\(∀ C q,aB kn C=some q->aB eI C=some q) /\
        (∀ q,res=some q->∃ M,(∀ j ∈ l,kS N c (b9 sh) M (c j))/\q=(min (A+bP (l.map fun j=>TF N c (b9 sh) lo M (c j))) 201,min (max B (Cl (l.map fun j=>TF N c (b9 sh) lo M (c j))+1)) 21)) /\
        (res=none->∀ rk,Vl N c sh rk->(∀ j ∈ l,rk (c j) < rk r)->∃ b:Nat,b < N.length/\aB busy (b:Int) ≠ none/\rk b<=rk r):=by
      intro l
      induction l with
      |nil =>
       intro up kn A B hA hB _ hU hl hK;refine⟨_,up,kn,by rw[oE],hU,hl,hK,fun _ _ h=>h,fun q hq=>⟨0,fun j hj=>(by grind),?_⟩,fun h=>(by cases h)⟩;rw[<-oJ_ hq];simp[bP,Cl];omega
      |cons j l ZF =>
       intro up kn A B hA hB hj hU hl hK;have hj0:=hj j (by simp);obtain⟨u1,r1,Bn,l1⟩:=hU.iq (k:=j) (by omega);have cj:c j < N.length:=by have:=(hU.rt j (by omega)).2;omega
       obtain⟨res,u2,ID,m1,uJ,l2,F8,Ds,ZG,S5⟩:=ih (fl busy r ()) (c j) u1 kn (by omega) Bn (by omega) cj (hU.cc (by omega)) hK;rw[oE,r1];simp only[m1];cases res with
       |none =>
        refine⟨none,u2,ID,rfl,uJ,l2,F8,Ds,fun q hq=>(by grind),fun _ rk F9 aA=>?_⟩;obtain⟨b,b1,b2,b3⟩:=S5 rfl rk F9;have h4:=aA j (by simp);refine⟨b,b1,fun e=>b2 ?_,by omega⟩;rw[cd,if_neg]
        ·grind
        ·intro e5;have e5:r=b:=by omega
         rw[e5] at h4;omega
       |some p =>
        obtain⟨m0,w0,hp⟩:=F8 _ _ (ZG p rfl);have x9:(min (min A 201+p.1) 201,min (max (min B 21) (p.2+1)) 21)=(min (A+dk (TF N c (b9 sh) lo m0 (c j))) 201,min (max B (IA (TF N c (b9 sh) lo m0 (c j))+1)) 21):=by
         rw[hp];simp only[tO,pI_];omega
        simp only[x9];obtain⟨res,u3,we,k1,k2,k3,k4,k5,k6,k7⟩:=ZF u2 ID (A+dk (TF N c (b9 sh) lo m0 (c j))) (max B (IA (TF N c (b9 sh) lo m0 (c j))+1)) (by omega) (by omega) (fun i hi=>hj i (by grind)) uJ l2 F8;refine⟨res,u3,we,k1,k2,k3,k4,fun C q hq=>k5 C q (Ds C q hq),fun q hq=>?_,fun e rk F9 aA=>k7 e rk F9 fun i hi=>aA i (by grind)⟩;obtain⟨M,hM,hq⟩:=k6 q hq;have e1:TF N c (b9 sh) lo (max M m0) (c j)=TF N c (b9 sh) lo m0 (c j):=Hi w0 (Nat.le_max_right _ _);have e2:(l.map fun j=>TF N c (b9 sh) lo (max M m0) (c j))=l.map fun j=>TF N c (b9 sh) lo M (c j):=List.map_congr_left fun i hi=>Hi (hM i hi) (Nat.le_max_left _ _);refine⟨max M m0,fun i hi=>?_,?_⟩
        ·rcases List.mem_cons.1 hi with rfl|hi
         ·exact w0.le (Nat.le_max_right _ _)
         ·exact (hM i hi).le (Nat.le_max_left _ _)
        ·rw[hq,List.map_cons,e1,e2,bP,Cl];congr 1<;>omega
     obtain⟨res,u1,nL,k1,k2,k3,k4,k5,k6,k7⟩:=key (ks N k.toNat) up kn 1 1 (by omega) (by omega) (fun j hj=>hS.Vk _ s1 j hj) hU hl hK;have e0:((min 1 201,min 1 21):Int × Int)=(1,1):=rfl;rw[e0] at k1;rw[k1];cases res with
     |none=>exact⟨none,u1,nL,rfl,k2,k3,k4,k5,fun q hq=>(by grind),fun _ rk F9=>k7 rfl rk F9 fun j hj=>F9 r hr hc _ f3 j hj⟩
     |some q =>
      obtain⟨M,hM,hq⟩:=k6 q rfl;refine⟨some q,u1,_,rfl,k2,k3,PR (m:=M+1) k4 (fun s hs j hj=>?_) ?_,IC k5,fun p hp=>by grind[cd],fun h=>by grind⟩
      ·grind
      ·grind[TF,W7]
end
noncomputable def uQ (N:bB) (sh:List (Int × Int)):List Nat->List Nat->KN->Option (Bool × List Nat × KN)
 |[],up,kn=>some (true,up,kn)
 |k::l,up,kn=>match iq up k with
  |none=>none
  |some (u,r)=>match kZ N sh (N.length+1) [] r u kn with
   |none=>none
   |some (none,u',eI)=>some (false,u',eI)
   |some (some _,u',eI)=>uQ N sh l u' eI
section
variable {N:bB}{c h:Nat->Nat}{sh:List (Int × Int)}{lo:Nat->Int}
theorem IE (hS:EY N c sh):∀ (l:List Nat) (up:List Nat) (kn:KN),(∀ j ∈ l,j < N.length)->UF up c h->up.length=N.length->zw N c sh lo kn ->
  ∃ b dA eI,uQ N sh l up kn=some (b,dA,eI)/\UF dA c h/\dA.length=N.length/\zw N c sh lo eI/\(∀ C q,aB kn C=some q->aB eI C=some q)/\(b=true->∀ j ∈ l,∃ q,aB eI (c j:Int)=some q)/\(b=false->¬ ∃ rk,Vl N c sh rk)
 |[],up,kn,_,hU,hl,hK=>⟨true,up,kn,rfl,hU,hl,hK,fun _ _ h=>h,fun _ j hj=>(by grind),fun h=>by grind⟩
 |k::l,up,kn,hj,hU,hl,hK=>by
  have hk:=hj k (by simp);obtain⟨u1,r1,Bn,l1⟩:=hU.iq (k:=k) (by omega);have ck:c k < N.length:=by have:=(hU.rt k (by omega)).2;omega
  obtain⟨res,u2,ID,m1,uJ,l2,F8,Ds,ZG,S5⟩:=W8 hS N.length [] (c k) u1 kn (F7 _ _) Bn (by omega) ck (hU.cc (by omega)) hK;rw[uQ,r1];simp only[m1];cases res with
  |none =>
   refine⟨false,u2,ID,rfl,uJ,l2,F8,Ds,fun h=>(by grind),fun _ ⟨rk,F9⟩=>?_⟩;obtain⟨b,_,b2,_⟩:=S5 rfl rk F9;exact b2 rfl
  |some q =>
   obtain⟨b,u3,we,k1,k2,k3,k4,k5,k6,k7⟩:=IE hS l u2 ID (fun i hi=>hj i (by grind)) uJ l2 F8;refine⟨b,u3,we,k1,k2,k3,k4,fun C q hq=>k5 C q (Ds C q hq),fun e i hi=>?_,k7⟩;rcases List.mem_cons.1 hi with rfl|hi
   ·grind
   ·grind
end
noncomputable def vx (f:Nat->List Nat->Option (Tm × List Nat)):List Nat->List Nat->Option (List Tm × List Nat)
 |[],up=>some ([],up)
 |x::l,up=>match iq up x with
  |none=>none
  |some (u,r)=>match f r u with
   |none=>none
   |some (t,u')=>match vx f l u' with
    |none=>none
    |some (ts,u'')=>some (t::ts,u'')
noncomputable def vz (N:bB) (sh ls:List (Int × Int)):Nat->Nat->List Nat->Option (Tm × List Nat)
 |0,_,_=>none
 |m+1,r,up=>match aB sh (r:Int) with
  |none=>some (vr ((aB ls (r:Int)).getD 0),up)
  |some k=>if 0<=k then (match N[k.toNat]? with
   |none=>none
   |some (t,l)=>if l.length=t.a.length then (if t.a.length=0 then some (t,up) else match vx (vz N sh ls m) l up with
    |none=>none
    |some (ts,u)=>some (⟨t.k,t.i,t.n,ts⟩,u)) else none) else none
noncomputable def tP (N:bB) (sh ls vs:List (Int × Int)) (kn:KN) (m:Nat):List Int->List Nat->List Bd->Option (Option (List Bd))
 |[],_,acc=>some (some acc)
 |v::l,up,acc=>match aB vs v with
  |none=>none
  |some k=>if 0<=k then (match iq up k.toNat with
   |none=>none
   |some (u,r)=>if aB sh (r:Int)=none/\(aB ls (r:Int)).getD 0=v then tP N sh ls vs kn m l u acc else
    if 200 < ((aB kn (r:Int)).getD (0,0)).1\/20 < ((aB kn (r:Int)).getD (0,0)).2 then some none else
    match vz N sh ls m r u with
    |none=>none
    |some (t,u')=>tP N sh ls vs kn m l u' (acc++[⟨v,t⟩])) else none
section
variable {N:bB}{c h:Nat->Nat}{sh ls:List (Int × Int)}
def uS (ls:List (Int × Int)) (C:Nat):Int:=(aB ls (C:Int)).getD 0
theorem PT (g:jT N) (hS:EY N c sh):∀ (m r:Nat) (up:List Nat),kS N c (b9 sh) m r->UF up c h->up.length=N.length->r < N.length->c r=r ->
  ∃ dA,vz N sh ls m r up=some (TF N c (b9 sh) (uS ls) m r,dA)/\UF dA c h/\dA.length=N.length
 |0,_,_,h,_,_,_,_=>h.elim
 |m+1,r,up,hW,hU,hl,hr,hc=>by
  rw[vz,TF];cases e3:aB sh (r:Int) with
  |none =>
   have f3:b9 sh r=none:=by grind[b9]
   rw[f3];exact⟨up,rfl,hU,hl⟩
  |some k =>
   have f3:b9 sh r=some k.toNat:=by grind[b9]
   obtain⟨s1,s2,s3⟩:=hS.at_ r hr hc _ f3;rw[f3];simp only[if_pos (hS.pos _ _ e3),sW s1,if_pos (mh g s1)];by_cases e0:(tn N k.toNat).a.length=0
   ·rw[if_pos e0];have h1:ks N k.toNat=[]:=List.length_eq_zero_iff.1 (by grind[mh]);rw[h1];refine⟨up,?_,hU,hl⟩;have h2:(tn N k.toNat).a=[]:=List.length_eq_zero_iff.1 e0;congr 2;generalize tn N k.toNat=t at h2;obtain⟨a,b,n,l⟩:=t;simp only at h2;subst h2
    rfl
   ·rw[if_neg e0];have key:∀ (l:List Nat) (up:List Nat),(∀ j ∈ l,j < N.length/\kS N c (b9 sh) m (c j))->UF up c h->up.length=N.length->∃ dA,vx (vz N sh ls m) l up=some (l.map fun j=>TF N c (b9 sh) (uS ls) m (c j),dA)/\UF dA c h/\dA.length=N.length:=by
     intro l
     induction l with
     |nil=>intro up _ hU hl;exact⟨up,rfl,hU,hl⟩
     |cons j l ZF =>
      intro up hj hU hl;obtain⟨Bl,fc⟩:=hj j (by simp);obtain⟨u1,r1,Bn,l1⟩:=hU.iq (k:=j) (by omega);have cj:c j < N.length:=by have:=(hU.rt j (by omega)).2;omega
      obtain⟨u2,m2,uJ,l2⟩:=PT g hS m (c j) u1 fc Bn (by omega) cj (hU.cc (by omega));obtain⟨u3,m3,hU3,l3⟩:=ZF u2 (fun i hi=>hj i (by grind)) uJ l2;exact⟨u3,by grind[vx],hU3,l3⟩
    obtain⟨u,k1,k2,k3⟩:=key (ks N k.toNat) up (fun j hj=>⟨hS.Vk _ s1 j hj,hW _ f3 j hj⟩) hU hl;exact⟨u,by grind,k2,k3⟩
def lz (t:Tm):Bool:=decide (200 < dk t\/20 < IA t)
theorem W9 {t:Tm}:(200 < (tO t).1\/20 < (tO t).2) ↔ lz t=true:=by grind[tO,lz]
end
end Go.Proofs.YtbpabjmnhggajaaGreat
