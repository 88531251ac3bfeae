import Derived.Test.YtbpabjmnhggajaaGreatOr35
namespace Go.Proofs.YtbpabjmnhggajaaGreat
set_option linter.all false
open Go.RowKit
section
set_option maxRecDepth 100000
attribute [local irreducible] ah aG ae ad
def ani:FQ 20 Tryz.f20:=aF Tryz.func20 Tryz.call20
def nv:List Nat:=[1,5,4,6,7,2,3,0,11,16,24,29,38,51,56,68]
def K5 (s:List Dc) (d:Dc):Int:=if mC d.n then (if decide (0<=d.ar) && decide (d.ar<=6) then (if l_ s d.n d.ar then 8 else 0) else 9) else 7
def sZ (ds:List Dc):List Dc->Nat->Int
 |[],_=>0
 |d::l,k=>bj (K5 (ds.take k) d) (sZ ds l (k+1))
def xE (ds:List Dc):List Rl->Nat->Int × Int
 |[],_=>(0,0)
 |r::l,k=>if yH ds r=0 then xE ds l (k+1) else (k,yH ds r)
def Af (p:Pg):Int × Int:=if p.ds.length<=30 then (if sZ p.ds p.ds 0=0 then (if p.rs.length<=40 then xE p.ds p.rs 0 else (-1,6)) else (-1,sZ p.ds p.ds 0)) else (-1,6)
section
variable {w0:World}{ρ:Hd}
set_option maxHeartbeats 1000000 in
theorem XZ (p:Pg) (S:Ac p) (G:∀r ∈ p.rs,JZ r):ah Tryz.prog w0 20 [pg ρ p] (.aL [iv (Af p).1,iv (Af p).2]):=by
 obtain⟨R,d⟩:∃R,R=Af p:=⟨_,rfl⟩;rw[<-d];unfold Af at d;obtain⟨f,o⟩:=p;obtain⟨H,T,I,J⟩:=S;dsimp only at H T I J d G;refine st ani nv ((.aL λa K=>by simp only[ad_,as_,or_false]at K;rcases K with rfl|rfl<;>exact .v)) ?_
 repeat' (first
  |refine cg nv (λi=>?_) λi=>?_
  |refine lg nv λm z=>?_
  |(refine fq ?_))
 ·rw[if_neg (by omega)]at d;rw[d];exact aP.of_eq rfl
 rw[if_pos (by omega)]at d;obtain⟨D,A⟩:∃D,D=sZ f f 0:=⟨_,rfl⟩;rw[<-A]at d;refine ad.aK (σ:=Int) 1 1 [] (λq=>[(1,.pt 0 2 0 0),(4,.v (.int .i64 q))]) [] (λ_=>[(0,.arr 2 [od ρ ⟨f,o⟩] 0 true)]) (λq=>∃k:Nat,q=k/\k<=f.length/\D=sZ f (f.drop k) k) (λq=>f.length - q.toNat) 0 ⟨0,rfl,by simp,by simpa using A⟩ rfl cz ?_;rintro q ⟨k,U,hk,c⟩;clear A;refine gq nv ?_;by_cases V:k < f.length
 ·obtain⟨x,t,C⟩:=aD V;rw[C,sZ]at c;have E:=AQ (w0:=w0) x.n (I x (aa_ t));have j:=G_ (w0:=w0) (ρ:=ρ) (f.take k) x.n x.ar (by rw[aZ_];omega);obtain⟨F,h⟩:∃F,F=K5 (f.take k) x:=⟨_,rfl⟩;rw[<-h]at c;unfold K5 at h;obtain⟨u,L⟩:∃b,b=mC x.n:=⟨_,rfl⟩;obtain⟨M,w⟩:∃b,b=l_ (f.take k) x.n x.ar:=⟨_,rfl⟩;rw[<-L]at E h;rw[<-w]at j h;clear L w;obtain⟨W,y⟩:∃l,l=f.take k:=⟨_,rfl⟩;rw[<-y]at j;obtain⟨xn,s⟩:=x;dsimp only at E j h
  repeat' (first
   |refine og nv (ae.ind rfl rfl (aB (l:=f) U t) (aA λ_=>rfl)) ?_
   |refine bg nv (pl E) (λ_=>?_) λ_=>?_
   |refine ad.gen (ft ρ) rfl (ae.Io rfl rfl rfl (λ_=>rfl) (by decide) (by omega) (by omega)) (λN X=>?_);obtain rfl:N=W:=(by rw[X,y,bV_,bw_];try (congr 1;omega));refine gq nv ?_
   |refine bg nv (pl j) (λ_=>?_) λ_=>?_
   |refine cg nv (λi=>?_) λi=>?_
   |refine lg nv λm z=>?_
   |refine ag nv λ_ _=>?_
   |refine ad.ao ?_;refine gq nv ?_
   |refine ad.bh ?_;refine gq nv ?_
   |(refine fq ?_))
  all_goals first
   |exfalso;omega
   |(have e:F=7:=by (rw[h,show u=false by grind];rfl)
     rw[dx (by omega)]at c;rw[if_neg (show ¬ D=0 by omega)]at d;rw[d,c,e];exact aP.of_eq rfl)
   |(have e:F=9:=by (rw[h,show u=true by grind,decide_eq_false (show ¬ 0<=s by omega)];rfl)
     rw[dx (by omega)]at c;rw[if_neg (show ¬ D=0 by omega)]at d;rw[d,c,e];exact aP.of_eq rfl)
   |(have e:F=9:=by (rw[h,show u=true by grind,decide_eq_true (show 0<=s by omega),decide_eq_false (show ¬ s<=6 by omega)];rfl)
     rw[dx (by omega)]at c;rw[if_neg (show ¬ D=0 by omega)]at d;rw[d,c,e];exact aP.of_eq rfl)
   |(have e:F=8:=by (rw[h,show u=true by grind,decide_eq_true (show 0<=s by omega),decide_eq_true (show s<=6 by omega),show M=true by grind];rfl)
     rw[dx (by omega)]at c;rw[if_neg (show ¬ D=0 by omega)]at d;rw[d,c,e];exact aP.of_eq rfl)
   |(have e:F=0:=by (rw[h,show u=true by assumption,decide_eq_true (show 0<=s by omega),decide_eq_true (show s<=6 by omega),show M=false by assumption];rfl)
     rw[bD e]at c;refine ad.az (σ:=Int) _ [] ?_ ?_ cz<;>first|omega|exact⟨k+1,by omega,by omega,c⟩)
 rw[ak_ (by omega),sZ]at c;rw[if_pos c]at d;clear c
 repeat' (first
  |refine cg nv (λi=>?_) λi=>?_
  |refine lg nv λm z=>?_
  |refine ad.ao ?_;refine gq nv ?_
  |(refine fq ?_))
 all_goals first
  |exfalso;omega
  |rw[if_neg (by omega)]at d;rw[d];exact aP.of_eq rfl
  |skip
 rw[if_pos (by omega)]at d;refine ad.aK (σ:=Int) 1 1 [] (λq=>[(1,.pt 0 2 0 0),(6,.v (.int .i64 q))]) [] (λ_=>[(0,.arr 2 [od ρ ⟨f,o⟩] 0 true)]) (λq=>∃k:Nat,q=k/\k<=o.length/\R=xE f (o.drop k) k) (λq=>o.length - q.toNat) 0 ⟨0,rfl,by simp,by simpa using d⟩ rfl cz ?_;rintro N ⟨O,P,fe,c⟩;clear d;refine gq nv ?_;by_cases Y:O < o.length
 ·obtain⟨x,t,C⟩:=aD Y;rw[C,xE]at c;have Q:=ab3 (w0:=w0) (ρ:=ρ) f x H (J x (aa_ t)) (G x (aa_ t));obtain⟨F,Z⟩:∃F,F=yH f x:=⟨_,rfl⟩;rw[<-Z]at c Q;have vP:=fQ (ρ:=ρ) x;obtain⟨n,ke,re,g,b,v⟩:=x
  repeat' (first
   |refine og nv (ae.ind rfl rfl (aB (l:=o) P t) (aA λ_=>rfl)) ?_
   |(refine ig nv (pl Q) λd2 nD=>?_)
   |refine cg nv (λi=>?_) λi=>?_
   |refine lg nv λm z=>?_
   |refine ag nv λ_ _=>?_
   |refine ad.ao ?_;refine gq nv ?_
   |refine ad.bh ?_;refine gq nv ?_
   |(refine fq ?_))
  all_goals first
   |exfalso;omega
   |(rw[if_pos (show F=0 by omega)]at c
     refine ad.az (σ:=Int) _ [] ?_ ?_ cz<;>first|omega|exact⟨O+1,by omega,by omega,c⟩)
   |rw[if_neg (show ¬ F=0 by omega)]at c;subst nD;rw[c,<-P];exact aP.of_eq rfl
 rw[ak_ (by omega),xE]at c
 repeat' (first
  |refine cg nv (λi=>?_) λi=>?_
  |refine lg nv λm z=>?_
  |refine ad.ao ?_;refine gq nv ?_
  |(refine fq ?_))
 all_goals first
  |exfalso;omega
  |rw[c];exact aP.of_eq rfl
end
end
def eR (ms:List (Int × Int)) (i:Nat):Int × Int:=(ms[i]?).getD (0,0)
def mc (cl:List Nat) (ms:List (Int × Int)):List Nat->Bool->Int × Int->Bool × (Int × Int)
 |[],d,x=>(d,x)
 |j::l,d,x=>mc cl ms l (d && decide (0 < (eR ms (bT cl j)).1)) (min (x.1+(eR ms (bT cl j)).1) 201,min (max x.2 ((eR ms (bT cl j)).2+1)) 21)
def oK (N:aS) (cl:List Nat) (C:Nat):List Nat:=match cM N cl C with|none=>[]|some s=>ks N s
def yI (N:aS) (cl:List Nat) (i:Nat) (p:List (Int × Int) × Int):List (Int × Int) × Int :=
 if 0 < (eR p.1 (bT cl i)).1 then p else if (mc cl p.1 (oK N cl (bT cl i)) true (1,1)).1=true then (p.1.set (bT cl i) (mc cl p.1 (oK N cl (bT cl i)) true (1,1)).2,p.2 - 1) else p
def nQ (N:aS) (cl:List Nat):List Nat->List (Int × Int) × Int->List (Int × Int) × Int
 |[],p=>p
 |i::l,p=>nQ N cl l (yI N cl i p)
def uc (N:aS) (cl:List Nat):Nat->List (Int × Int) × Int->Option (Option (List (Int × Int)))
 |0,_=>none
 |m+1,p=>if 0 < p.2 then (if (nQ N cl (List.range N.length) p).2=p.2 then some none else uc N cl m (nQ N cl (List.range N.length) p)) else some (some p.1)
def jW (c:Nat->Nat) (ms:List (Int × Int)):Nat->Nat
 |0=>0
 |n+1=>jW c ms n+if c n=n/\¬ 0 < (eR ms n).1 then 1 else 0
theorem F0 {ms:List (Int × Int)}{C:Nat}{q:Int × Int}(h:C < ms.length) (i:Nat):eR (ms.set C q) i=if i=C then q else eR ms i:=by grind[eR]
theorem Nb {c:Nat->Nat}{ms:List (Int × Int)}{C:Nat}{q:Int × Int}(a:C < ms.length) (b:c C=C) (h0:¬ 0 < (eR ms C).1) (d:0 < q.1):∀n,jW c (ms.set C q) n+(if C < n then 1 else 0)=jW c ms n
 |0=>by simp[jW]
 |n+1=>by
  have f:=Nb a b h0 d n;rw[jW,jW,F0 a];by_cases e:n=C
  ·grind
  ·grind
theorem QG {c:Nat->Nat}{ms:List (Int × Int)}:∀n,0 < jW c ms n->∃C,C < n/\c C=C/\¬ 0 < (eR ms C).1
 |0,h=>by simp[jW]at h
 |n+1,h=>by
  rw[jW]at h;split at h
  ·grind
  ·obtain⟨C,b,a⟩:=QG n (by omega);exact⟨C,by omega,a⟩
section
variable {N:aS}{cl:List Nat}{c:Nat->Nat}{lo:Nat->Int}
structure MI (N:aS) (cl:List Nat) (c:Nat->Nat) (lo:Nat->Int) (p:List (Int × Int) × Int):Prop where
 len:p.1.length=N.length
 kn:∀C,C < N.length->c C=C->0 < (eR p.1 C).1->∃m,gy N c (cM N cl) m C/\eR p.1 C=oJ (TF N c (cM N cl) lo m C)
 left:p.2=jW c p.1 N.length
theorem Nc (f:CI cl c N.length) {ms:List (Int × Int)}(n:∀C,C < N.length->c C=C->0 < (eR ms C).1->∃m,gy N c (cM N cl) m C/\eR ms C=oJ (TF N c (cM N cl) lo m C)):∀(l:List Nat) (d:Bool) (A B:Int),1<=A->1<=B->(∀j ∈ l,j < N.length) ->
  ((mc cl ms l d (min A 201,min B 21)).1=true ↔ d=true/\∀j ∈ l,0 < (eR ms (c j)).1) /\
  ((∀j ∈ l,0 < (eR ms (c j)).1)->∃M,(∀j ∈ l,gy N c (cM N cl) M (c j))/\(mc cl ms l d (min A 201,min B 21)).2=(min (A+bp (l.map λj=>TF N c (cM N cl) lo M (c j))) 201,min (max B (xp (l.map λj=>TF N c (cM N cl) lo M (c j))+1)) 21))
 |[],d,A,B,p,q,_=>by
  rw[mc];refine⟨by simp,λ_=>⟨0,λj g=>(by grind),?_⟩⟩;simp[bp,xp];omega
 |j::l,d,A,B,p,q,g=>by
  have h:=g j (by simp);rw[mc,f.at_ j h];by_cases e:0 < (eR ms (c j)).1
  ·obtain⟨a,w0,z⟩:=n (c j) (f.cc j h).1 (f.cc j h).2 e;have r:(min (min A 201+(eR ms (c j)).1) 201,min (max (min B 21) ((eR ms (c j)).2+1)) 21)=(min (A+cR (TF N c (cM N cl) lo a (c j))) 201,min (max B (EZ (TF N c (cM N cl) lo a (c j))+1)) 21):=by grind[oJ]
   simp only[r];obtain⟨D,s⟩:=Nc f n l (d && decide (0 < (eR ms (c j)).1)) (A+cR (TF N c (cM N cl) lo a (c j))) (max B (EZ (TF N c (cM N cl) lo a (c j))+1)) (by omega) (by omega) (λi b=>g i (by grind));refine⟨?_,λk=>?_⟩
   ·grind
   ·obtain⟨M,o,t⟩:=s λi b=>k i (by grind);have u:TF N c (cM N cl) lo (max M a) (c j)=TF N c (cM N cl) lo a (c j):=yx w0 (bT_ _ _);have v:(l.map λj=>TF N c (cM N cl) lo (max M a) (c j))=l.map λj=>TF N c (cM N cl) lo M (c j):=aF_ λi b=>yx (o i b) (bU_ _ _);refine⟨max M a,λi b=>?_,?_⟩
    ·rcases ad_.1 b with rfl|b
     ·exact w0.le (bT_ _ _)
     ·exact (o i b).le (bU_ _ _)
    ·rw[t,aC_,u,v,bp,xp];congr 1<;>omega
  ·have w:∀(l:List Nat) (x:Int × Int),(mc cl ms l false x).1=false:=by
    intro l
    induction l with
    |nil=>intro x;rfl
    |cons i l y=>intro x;rw[mc,bv_];exact y _
   refine⟨?_,λk=>absurd (k j (by simp)) e⟩;simp only[decide_eq_false e,bJ_,w];simp[e]
theorem U1 (g:fj N) (d:CI cl c N.length) {C:Nat}:∀j ∈ oK N cl C,j < N.length:=by
 intro j a;unfold oK at a;have b:=C_ d C;cases e:cM N cl C with
 |none=>rw[e]at a;cases a
 |some s =>
  rw[e]at a b;exact cj_ (g.lt s b.1 j a) b.1
theorem X0 (g:fj N) (a:CI cl c N.length) {p:List (Int × Int) × Int}(b:MI N cl c lo p) {i:Nat}(hi:i < N.length):MI N cl c lo (yI N cl i p) /\
  (yI N cl i p=p/\(¬ 0 < (eR p.1 (c i)).1->∃j ∈ oK N cl (c i),¬ 0 < (eR p.1 (c j)).1)\/(yI N cl i p).2=p.2 - 1):=by
 obtain⟨ci,f⟩:=a.cc i hi;unfold yI;rw[a.at_ i hi];by_cases e:0 < (eR p.1 (c i)).1
 ·grind
 ·rw[if_neg e];obtain⟨k,l⟩:=Nc a b.kn (oK N cl (c i)) true 1 1 (by omega) (by omega) (U1 g a);have e0:((min 1 201,min 1 21):Int × Int)=(1,1):=rfl;rw[e0]at k l;by_cases m:(mc cl p.1 (oK N cl (c i)) true (1,1)).1=true
  ·rw[if_pos m];obtain⟨M,n,o⟩:=l (k.1 m).2;have r:(mc cl p.1 (oK N cl (c i)) true (1,1)).2=oJ (TF N c (cM N cl) lo (M+1) (c i)):=by
    rw[o,TF];unfold oK;cases y:cM N cl (c i) with
    |none=>simp[oJ,vr,cR,bp,EZ,xp]
    |some s=>simp only;rw[Qn]
   have t:gy N c (cM N cl) (M+1) (c i):=λs z j A=>n j (by grind[oK]);have u:0 < (mc cl p.1 (oK N cl (c i)) true (1,1)).2.1:=by grind
   have hlen:=b.len;have h:=Nb (c:=c) (ms:=p.1) (C:=c i) (q:=(mc cl p.1 (oK N cl (c i)) true (1,1)).2) (by omega) f e u N.length;rw[if_pos ci]at h;refine⟨⟨by grind,λC v w d=>?_,?_⟩,.inr rfl⟩
   ·simp only at d ⊢;rw[F0 (by omega)]at d ⊢;by_cases x:C=c i
    ·grind
    ·rw[if_neg x]at d ⊢;exact b.kn C v w d
   ·simp only;rw[b.left];omega
  ·grind
theorem QH (g:fj N) (d:CI cl c N.length):∀(l:List Nat) {p:List (Int × Int) × Int},(∀i ∈ l,i < N.length)->MI N cl c lo p->MI N cl c lo (nQ N cl l p)/\(nQ N cl l p).2<=p.2 /\
  ((nQ N cl l p).2=p.2->nQ N cl l p=p/\∀i ∈ l,¬ 0 < (eR p.1 (c i)).1->∃j ∈ oK N cl (c i),¬ 0 < (eR p.1 (c j)).1)
 |[],p,_,a=>⟨a,bf_ _,λ_=>⟨rfl,λi h=>by grind⟩⟩
 |i::l,p,e,a=>by
  obtain⟨f,b⟩:=X0 g d a (e i (by simp));obtain⟨k,m,k3⟩:=QH g d l (λj n=>e j (by grind)) f;rw[nQ];rcases b with ⟨b,o⟩|b
  ·grind
  ·grind
theorem U2 (g:fj N) (a:CI cl c N.length):∀(d:Nat) {p:List (Int × Int) × Int},p.2<=d->MI N cl c lo p->∃r,uc N cl (d+1) p=some r /\
  (r=none->¬ ∃l:Nat->Nat,∀C,C < N.length->c C=C->∀j ∈ oK N cl C,l (c j) < l C)/\(∀ms,r=some ms->ms.length=N.length/\∀C,C < N.length->c C=C->∃m,gy N c (cM N cl) m C/\eR ms C=oJ (TF N c (cM N cl) lo m C))
 |d,p,J,b=>by
  rw[uc];by_cases e:0 < p.2
  ·rw[if_pos e];obtain⟨y,K,k3⟩:=QH g a (List.range N.length) (λi z=>aI_.1 z) b;by_cases q:(nQ N cl (List.range N.length) p).2=p.2
   ·rw[if_pos q];refine⟨none,rfl,λ_ ⟨l,t⟩=>?_,λms h=>by grind⟩;obtain⟨_,u⟩:=k3 q;obtain⟨A,B,D,E⟩:=QG (c:=c) (ms:=p.1) N.length (by have:=b.left;omega);have key:∀(n C:Nat),l C<=n->C < N.length->c C=C->¬ 0 < (eR p.1 C).1->False:=by
     intro n
     induction n with
     |zero =>
      intro C F f k s;have:=u C (aI_.2 f);rw[k]at this;obtain⟨j,o,_⟩:=this s;have:=t C f k j o;omega
     |succ n v =>
      intro C F f k s;have:=u C (aI_.2 f);rw[k]at this;obtain⟨j,o,G⟩:=this s;have L:=t C f k j o;have w:=U1 g a j o;exact v (c j) (by omega) (a.cc j w).1 (a.cc j w).2 G
    exact key _ A (ac_ _) B D E
   ·rw[if_neg q];cases d with
    |zero=>omega
    |succ d=>exact U2 g a d (by omega) y
  ·rw[if_neg e];refine⟨some p.1,rfl,λh=>(by grind),λms h=>?_⟩;obtain rfl:=oJ_ h;refine⟨b.len,λC x H=>b.kn C x H (ck_ λM=>?_)⟩;have I:∀n,C < n->0 < jW c p.1 n:=by
    intro n
    induction n with
    |zero=>intro h;omega
    |succ n v =>
     intro h;rw[jW];by_cases O:C=n
     ·grind
     ·grind
   have:=I _ x;have:=b.left;omega
end
def Ag (N:aS) (cl:List Nat) (C:Nat):List Nat->Int->Int
 |[],v=>v
 |i::l,v=>Ag N cl C l (if bT cl i=C/\(tn N i).k=1/\(v < 0\/(tn N i).i < v) then (tn N i).i else v)
def eX (N:aS) (cl:List Nat) (C:Nat):Int:=Ag N cl C (List.range N.length) (-1)
theorem Nf {N:aS}{cl:List Nat}{c:Nat->Nat}(a:CI cl c N.length) (b:zj N) {C:Nat}:∀(l:List Nat) (v:Int),(∀i ∈ l,i < N.length)->-1<=v ->
  (Ag N cl C l v=v\/∃i ∈ l,c i=C/\(tn N i).k=1/\(tn N i).i=Ag N cl C l v)/\(0<=v->Ag N cl C l v<=v)/\-1<=Ag N cl C l v/\(∀i ∈ l,c i=C->(tn N i).k=1->0<=Ag N cl C l v/\Ag N cl C l v<=(tn N i).i)/\(0<=v->0<=Ag N cl C l v)
 |[],v,_,d=>⟨.inl rfl,λ_=>bf_ _,d,(λi f=>by grind),λh=>h⟩
 |i::l,v,g,d=>by
  have f:=g i (by simp);rw[Ag,a.at_ i f];by_cases e:c i=C/\(tn N i).k=1/\(v < 0\/(tn N i).i < v)
  ·rw[if_pos e];have p:=b i f e.2.1;obtain⟨q,o,k,r,m⟩:=Nf a b l (tn N i).i (λj n=>g j (by grind)) (by omega);refine⟨.inr ?_,λu=>by grind,k,λj n s t=>?_,λ_=>m p⟩
   ·grind
   ·grind
  ·rw[if_neg e];obtain⟨q,o,k,r,m⟩:=Nf a b l v (λj n=>g j (by grind)) d;refine⟨?_,o,k,λj n s t=>?_,m⟩
   ·grind
   ·grind
def Bm:List Bd->Bd->List Bd
 |[],x=>[x]
 |y::l,x=>if y.v < x.v then y::Bm l x else x::y::l
def vx (N:aS) (cl:List Nat) (ms:List (Int × Int)) (m:Nat):List Nat->List Bd->Option (List Bd)
 |[],a=>some a
 |i::l,a=>if (tn N i).k ≠ 1\/(cM N cl (bT cl i)=none/\eX N cl (bT cl i)=(tn N i).i) then vx N cl ms m l a else
  if 200 < (eR ms (bT cl i)).1\/20 < (eR ms (bT cl i)).2 then none else
  vx N cl ms m l (Bm a ⟨(tn N i).i,TF N (bT cl) (cM N cl) (eX N cl) m (bT cl i)⟩)
theorem Dh {σ:Int->Tm}{v:Int}:∀{l:List Int},tv l->v ∉ l->∃b,Bm (l.map λw=>⟨w,σ w⟩) ⟨v,σ v⟩=b.map (λw=>⟨w,σ w⟩)/\tv b/\∀w,w ∈ b ↔ w ∈ l\/w=v
 |[],_,_=>⟨[v],rfl,⟨(λy g=>by grind),trivial⟩,λw=>by simp⟩
 |y::l,h,c=>by
  simp only[ad_,not_or]at c;rw[aC_,Bm];simp only;by_cases e:y < v
  ·rw[if_pos e];obtain⟨b,i,d,f⟩:=Dh (σ:=σ) h.2 c.2;refine⟨y::b,by grind,⟨λz a=>?_,d⟩,λw=>?_⟩
   ·rcases (f z).1 a with a|rfl
    ·exact h.1 z a
    ·grind
   ·grind
  ·rw[if_neg e];refine⟨v::y::l,rfl,⟨λz a=>?_,h⟩,λw=>?_⟩
   ·rcases ad_.1 a with rfl|a
    ·omega
    ·have:=h.1 z a;omega
   ·grind
theorem Ah {N:aS}{cl:List Nat}{c:Nat->Nat}{ms:List (Int × Int)}{M:Nat}{σ:Int->Tm}{p:Int->Bool}(g:fj N) (w:CI cl c N.length) (r:∀v,p v=true ↔ σ v ≠ vr v)
  (s:∀i,i < N.length->(tn N i).k=1->σ (tn N i).i=TF N (bT cl) (cM N cl) (eX N cl) M (bT cl i)/\eR ms (bT cl i)=oJ (σ (tn N i).i)/\((cM N cl (bT cl i)=none/\eX N cl (bT cl i)=(tn N i).i) ↔ σ (tn N i).i=vr (tn N i).i)) :
  ∀(l:List Nat) (L:List Int),(∀i ∈ l,i < N.length)->l.Nodup->tv L->(∀v ∈ L,∃i,i < N.length/\i ∉ l/\(tn N i).k=1/\(tn N i).i=v) ->
   ∃f,tv f/\(∀v,v ∈ f ↔ v ∈ L\/∃i ∈ l,(tn N i).k=1/\(tn N i).i=v/\p v=true) /\
    vx N cl ms M l (L.map λv=>⟨v,σ v⟩)=if (∃i ∈ l,(tn N i).k=1/\p (tn N i).i=true/\fL (σ (tn N i).i)=true) then none else some (f.map λv=>⟨v,σ v⟩)
 |[],L,_,_,o,_=>⟨L,o,λv=>by simp,by grind[vx]⟩
 |i::l,L,C,t,o,x=>by
  have D:=C i (by simp);rw[bu_]at t;have y:∀j ∈ l,j < N.length:=λj k=>C j (by grind);rw[vx];by_cases u:(tn N i).k=1
  ·obtain⟨I,J,E⟩:=s i D u;have F:=r (tn N i).i;by_cases e:σ (tn N i).i=vr (tn N i).i
   ·rw[if_pos (.inr (E.2 e))];have R:p (tn N i).i ≠ true:=λh=>F.1 h e;obtain⟨f,m,n,k3⟩:=Ah g w r s l L y t.2 o (λv q=>let ⟨j,a,b,d⟩:=x v q;⟨j,a,λh=>b (by grind),d⟩);refine⟨f,m,λv=>(n v).trans ?_,?_⟩
    ·grind
    ·rw[k3];have:(∃j ∈ l,(tn N j).k=1/\p (tn N j).i=true/\fL (σ (tn N j).i)=true) ↔ ∃j ∈ i::l,(tn N j).k=1/\p (tn N j).i=true/\fL (σ (tn N j).i)=true:=⟨λ⟨j,k,h⟩=>⟨j,by grind,h⟩,λ⟨j,k,h⟩=>by grind⟩;simp only[this]
   ·rw[if_neg (λh=>h.elim (λh=>h u) λh=>e (E.1 h)),J];have K:p (tn N i).i=true:=F.2 e;simp only[Qp];by_cases z:fL (σ (tn N i).i)=true
    ·have G:∀X:Option (List Bd),(none:Option (List Bd))=if (∃j ∈ i::l,(tn N j).k=1/\p (tn N j).i=true/\fL (σ (tn N j).i)=true) then none else X:=λX=>(if_pos ⟨i,by simp,u,K,z⟩).symm
     rw[if_pos z];obtain⟨f,m,n,k3⟩:=Ah g w r s l L y t.2 o (λv q=>let ⟨j,a,b,d⟩:=x v q;⟨j,a,λh=>b (by grind),d⟩);by_cases O:(tn N i).i ∈ f
     ·refine⟨f,m,λv=>(n v).trans ?_,G _⟩;simp only[ad_];refine⟨λh=>h.elim .inl λ⟨j,k,h⟩=>.inr ⟨j,.inr k,h⟩,λh=>?_⟩;rcases h with h|⟨j,rfl|k,S⟩
      ·grind
      ·grind
      ·grind
     ·obtain⟨P,_,A,H⟩:=Dh (σ:=σ) m O;refine⟨P,A,λv=>(H v).trans ?_,G _⟩;rw[n];simp only[ad_];refine⟨λh=>?_,λh=>?_⟩
      ·grind
      ·grind
    ·rw[if_neg z,<-I];have B:(tn N i).i ∉ L:=λh=>by
      obtain⟨j,a,b,d1,d2⟩:=x _ h;have:=g.one j i a D d1 u d2;subst this;exact b (by simp)
     obtain⟨Q,q1,A,H⟩:=Dh (σ:=σ) o B;rw[q1];obtain⟨f,m,n,k3⟩:=Ah g w r s l Q y t.2 A (λv q=>by grind);refine⟨f,m,λv=>(n v).trans ?_,?_⟩
     ·grind
     ·rw[k3];have:(∃j ∈ l,(tn N j).k=1/\p (tn N j).i=true/\fL (σ (tn N j).i)=true) ↔ ∃j ∈ i::l,(tn N j).k=1/\p (tn N j).i=true/\fL (σ (tn N j).i)=true:=⟨λ⟨j,k,h⟩=>⟨j,by grind,h⟩,λ⟨j,k,h⟩=>by grind⟩;simp only[this]
  ·rw[if_pos (.inl u)];obtain⟨f,m,n,k3⟩:=Ah g w r s l L y t.2 o (λv q=>let ⟨j,a,b,d⟩:=x v q;⟨j,a,λh=>b (by grind),d⟩);refine⟨f,m,λv=>(n v).trans ?_,?_⟩
   ·grind
   ·rw[k3];have:(∃j ∈ l,(tn N j).k=1/\p (tn N j).i=true/\fL (σ (tn N j).i)=true) ↔ ∃j ∈ i::l,(tn N j).k=1/\p (tn N j).i=true/\fL (σ (tn N j).i)=true:=⟨λ⟨j,k,h⟩=>⟨j,by grind,h⟩,λ⟨j,k,h⟩=>by grind⟩;simp only[this]
theorem afi {N:aS}{c c':Nat->Nat}{sh:Nat->Option Nat}{lo:Nat->Int}(g:fj N) (a:∀C s,sh C=some s->s < N.length) (b:∀i,i < N.length->c' i=c i):∀(m C:Nat),TF N c' sh lo m C=TF N c sh lo m C
 |0,_=>rfl
 |m+1,C=>by
  rw[TF,TF];cases e:sh C with
  |none=>rfl
  |some s =>
   simp only[Tm.mk.injEq,true_and];refine aF_ λj d=>?_;rw[b j (cj_ (g.lt s (a C s e) j d) (a C s e))];exact afi g a b m _
theorem afj (E:List (Tm × Tm)) (hw:∀e ∈ E,(eh e.1/\sP e.1)/\eh e.2/\sP e.2):∃b N cl,tU E [] [] b N cl/\(b=false->kX fL E=([],13)) /\
  (b=true->(∃c,CI cl c N.length)/\fj N/\∃r:Option (List (Int × Int)),(∃f,uc N cl f (List.replicate N.length (0,0),jW (bT cl) (List.replicate N.length (0,0)) N.length)=some r)/\(r=none->kX fL E=([],13)) /\
   ∀ms,r=some ms->∃M,(∀i,i < N.length->gy N (bT cl) (cM N cl) M (bT cl i))/\kX fL E=(match vx N cl ms M (List.range N.length) [] with|none=>([],6)|some o=>(o,0))):=by
 obtain⟨b,N,cl,q,z,V⟩:=Qt (E:=E) E [] [] [] [] id (λe P=>⟨P,hw e P⟩) (o_.start (E:=E)).gi ⟨rfl,λi a=>(by cases a),λi a=>by cases a⟩ (λi a=>by cases a) (λp Q=>by cases Q) (λe P=>by cases P);refine⟨b,N,cl,q,λe=>yg (z e),λe=>?_⟩;obtain⟨D,c,w,g,hP,hD⟩:=V e;rw[aK_]at hD;have G:sB E N c:=w.closed hD;have yJ:∀n,n<=N.length->∀ms,jW (bT cl) ms n=jW c ms n:=by
  intro n
  induction n with
  |zero=>intro _ ms;rfl
  |succ n W=>intro hn ms;rw[jW,jW,W (by omega),g.at_ n (by omega)]
 have X:MI N cl c (eX N cl) (List.replicate N.length (0,0),(jW c (List.replicate N.length (0,0)) N.length:Int)):=⟨by simp,λC G e Y=>by
  simp only[eR,cU_]at Y;split at Y<;>simp at Y,rfl⟩
 obtain⟨r,r1,r2,r3⟩:=U2 w.g g (jW c (List.replicate N.length (0,0)) N.length) (bf_ _) X;have B:∀C s,cM N cl C=some s->s < N.length/\c s=C/\(tn N s).k ≠ 1:=λC s h=>by
  have:=C_ g C;rw[h]at this;exact this
 refine⟨⟨c,g⟩,w.g,r,⟨_,by rw[yJ _ (ac_ _)];exact r1⟩,λe=>yg λhu=>r2 e ?_,λms e=>?_⟩
 ·obtain⟨R,zU⟩:=Ju w.g w.sound hu;refine⟨R,λC G e j d=>?_⟩;unfold oK at d;cases H:cM N cl C with
  |none=>rw[H]at d;cases d
  |some s =>
   rw[H]at d;obtain⟨s1,s2,s3⟩:=B C s H;have:=zU s s1 s3 j d
   rwa [s2]at this
 ·obtain⟨hml,I⟩:=r3 ms e;have S:∀i,i < N.length->c (c i)=c i/\c i < N.length:=λi a=>⟨(g.cc i a).2,(g.cc i a).1⟩;have Z:∀i,i < N.length->cM N cl (c i)=none->∀j,j < N.length->c j=c i->(tn N j).k=1:=λi a h j d e=>by
   have:=C_ g (c i);rw[h]at this;exact this j d e
  have hW:∀i,i < N.length->∃m,gy N c (cM N cl) m (c i):=λi a=>let ⟨m,h,_⟩:=I (c i) (S i a).2 (S i a).1;⟨m,h⟩
  have Nh:∀i,i < N.length->∀j ∈ ks N i,j < N.length:=λi a j d=>cj_ (w.g.lt i a j d) a;obtain⟨R,hr,UJ⟩:∃r,sC N c r/\∀i,i < N.length->gy N c (cM N cl) (r (c i)) (c i):=by
   have A:∀C,∃m,(∃m,gy N c (cM N cl) m C)->gy N c (cM N cl) m C/\∀k,k < m->¬ gy N c (cM N cl) k C:=λC=>by
    by_cases h:∃m,gy N c (cM N cl) m C
    ·obtain⟨n,hn⟩:=h;obtain⟨m,q,z⟩:=Mt (p:=λm=>gy N c (cM N cl) m C) n hn;exact⟨m,λ_=>⟨q,z⟩⟩
    ·exact⟨0,λh'=>absurd h' h⟩
   refine⟨λC=>(A C).choose,λi a l j d=>?_,λi a=>((A (c i)).choose_spec (hW i a)).1⟩;cases ht:cM N cl (c i) with
   |none=>exact absurd (Z i a ht i a rfl) l
   |some t =>
    obtain⟨t1,t2,t3⟩:=B _ _ ht;have q:=((A (c i)).choose_spec (hW i a)).1;obtain⟨_,a2⟩:=G.al i t a t1 t2.symm l t3;have iB:c j ∈ (ks N t).map c:=by rw[<-a2];exact av_.2 ⟨j,d,rfl⟩
    obtain⟨x,T,e⟩:=av_.1 iB;show (A (c j)).choose < (A (c i)).choose;generalize (A (c i)).choose=m at q;cases m with
    |zero=>exact q.elim
    |succ m =>
     have z:=q t ht x T;rw[e]at z;have V:=((A (c j)).choose_spec ⟨m,z⟩).2;exact Nat.lt_succ_of_le (cO_ λh=>V m h z)
  obtain⟨M,U⟩:=IS (sh:=cM N cl) (c:=c) N.length λi a=>⟨_,UJ i a⟩;have oo:∀i,i < N.length->cM N cl (c i)=none->∃j,j < N.length/\c j=c i/\eX N cl (c i)=(tn N j).i/\∀x,x < N.length->c x=c i->(tn N j).i<=(tn N x).i:=λi a h=>by
   have F:=Z i a h;obtain⟨k1,_,_,k4,_⟩:=Nf g hP (C:=c i) (List.range N.length) (-1) (λj d=>aI_.1 d) (by omega);have k5:=k4 i (aI_.2 a) rfl (F i a rfl);unfold eX;rcases k1 with k1|⟨j,j1,j2,j3,j4⟩
   ·omega
   ·refine⟨j,aI_.1 j1,j2,j4.symm,λx T e=>?_⟩;rw[j4];exact (k4 x (aI_.2 T) e (F x T e)).2
  have Qq:AW N c (TC N c (cM N cl) (eX N cl) R):=L8 G B hr Z oo;have MC:=L6 G Qq hr;have J:∀{m K C:Nat},gy N c (cM N cl) m C->gy N c (cM N cl) K C->TF N c (cM N cl) (eX N cl) m C=TF N c (cM N cl) (eX N cl) K C:=λ{m K C} h h'=>by
   rw[<-yx h (bU_ m K),yx h' (bT_ m K)]
  obtain⟨u,MD⟩:∃u,u=ER N c (TC N c (cM N cl) (eX N cl) R):=⟨_,rfl⟩;have P0:∀i,i < N.length->(tn N i).k=1->∀m,gy N c (cM N cl) m (c i)->u (tn N i).i=TF N c (cM N cl) (eX N cl) m (c i):=λi a l m hm=>by
   rw[MD,zC w.g a l];unfold TC;exact J ((UJ i a).succ) hm
  rw[<-MD]at MC;obtain⟨p,Q⟩:∃p:Int->Bool,∀v,p v=true ↔ u v ≠ vr v:=by
   classical
   exact⟨λv=>decide (u v ≠ vr v),λv=>decide_eq_true_iff⟩
  have hTc:∀m C,TF N (bT cl) (cM N cl) (eX N cl) m C=TF N c (cM N cl) (eX N cl) m C:=λm C=>afi w.g (λC s h=>(B C s h).1) g.at_ m C;have hWc:∀(m C:Nat),gy N c (cM N cl) m C->gy N (bT cl) (cM N cl) m C:=by
   intro m
   induction m with
   |zero=>intro C h;exact h.elim
   |succ m W =>
    intro C h s hs j d;rw[g.at_ j (Nh s (B C s hs).1 j d)];exact W _ (h s hs j d)
  refine⟨M,λi a=>by rw[g.at_ i a];exact hWc _ _ (U i a),?_⟩;obtain⟨L,l1,l2,l3⟩:=Ah (σ:=u) (M:=M) (p:=p) (ms:=ms) w.g g Q (λi a l=>by
   rw[g.at_ i a,hTc];have q:=P0 i a l M (U i a);obtain⟨m,w1,w2⟩:=I (c i) (S i a).2 (S i a).1;refine⟨q,by rw[w2,q,J w1 (U i a)],?_⟩;rw[q];have hMi:=U i a;cases M with
   |zero=>exact hMi.elim
   |succ M =>
    rw[TF];cases H:cM N cl (c i) with
    |none=>simp[vr]
    |some s =>
     simp only[vr,Tm.mk.injEq];exact⟨(λh=>by cases h.1),λh=>absurd h.1 (B _ _ H).2.2⟩) (List.range N.length) [] (λi a=>aI_.1 a) List.nodup_range trivial (λv F=>by cases F)
  have hO:AY E u L:=⟨MC,l1,λv=>by
   rw[l2];refine⟨λh=>?_,λh=>.inr ?_⟩
   ·rcases h with h|⟨i,a,l,ZQ,h⟩
    ·grind
    ·grind
   ·by_cases hx:∃i,i < N.length/\(tn N i).k=1/\(tn N i).i=v
    ·obtain⟨i,a,l,ZQ⟩:=hx;exact⟨i,aI_.2 a,l,ZQ,(Q v).2 h⟩
    ·rw[MD]at h;exact absurd (FC hx) h⟩
  rw[CC hO,IE];rw[bg_]at l3;rw[l3];have O:(L.any λv=>fL (u v))=true ↔ ∃i ∈ List.range N.length,(tn N i).k=1/\p (tn N i).i=true/\fL (u (tn N i).i)=true:=by
   rw[dh_];refine⟨λ⟨v,F,y⟩=>?_,λ⟨i,a,l,E7,y⟩=>⟨_,(l2 _).2 (.inr ⟨i,a,l,rfl,E7⟩),y⟩⟩;rcases (l2 v).1 F with h|⟨i,a,l,rfl,h⟩
   ·cases h
   ·exact⟨i,a,l,h,y⟩
  by_cases y:(L.any λv=>fL (u v))=true
  ·rw[if_pos y,if_pos (O.1 y)]
  ·rw[if_neg y,if_neg (λh=>y (O.2 h))]
end Go.Proofs.YtbpabjmnhggajaaGreat
