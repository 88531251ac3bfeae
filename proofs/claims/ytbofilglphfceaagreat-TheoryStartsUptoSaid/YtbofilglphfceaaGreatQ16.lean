import Derived.Test.YtbofilglphfceaaGreatQ15
namespace Go.Proofs.YtbofilglphfceaaGreat
set_option linter.unusedVariables false
set_option linter.unusedSimpArgs false
open Go.RowKit
section
set_option maxRecDepth 100000
attribute [local irreducible] ah bc ad ab
def NY:CF Tryz.f177:=⟨_,by conv=>lhs;cbv⟩
theorem WV:aH Tryz.prog 177 NY.1 Tryz.f177.ntmps:=aQ Tryz.func177 NY.2 Tryz.call177
def S3:List Nat:=[1,2,0,5]
def NZ:CF Tryz.f326:=⟨_,by conv=>lhs;cbv⟩
theorem WW:aH Tryz.prog 326 NZ.1 Tryz.f326.ntmps:=aQ Tryz.func326 NZ.2 Tryz.call326
def S4:List Nat:=[1,2,0,5]
def S5:CF Tryz.f95:=⟨_,by conv=>lhs;cbv⟩
theorem abp:aH Tryz.prog 95 S5.1 Tryz.f95.ntmps:=aQ Tryz.func95 S5.2 Tryz.call95
def tN:List Nat:=[5,4,3,2,0,1,11]
def N0:CF Tryz.f285:=⟨_,by conv=>lhs;cbv⟩
theorem WX:aH Tryz.prog 285 N0.1 Tryz.f285.ntmps:=aQ Tryz.func285 N0.2 Tryz.call285
def mQ:List Nat:=[5,4,3,2,0,1,11]
def N1:CF Tryz.f287:=⟨_,by conv=>lhs;cbv⟩
theorem WY:aH Tryz.prog 287 N1.1 Tryz.f287.ntmps:=aQ Tryz.func287 N1.2 Tryz.call287
def pW:List Nat:=[5,0,4,9,1,17]
def N2:CF Tryz.f134:=⟨_,by conv=>lhs;cbv⟩
theorem WZ:aH Tryz.prog 134 N2.1 Tryz.f134.ntmps:=aQ Tryz.func134 N2.2 Tryz.call134
def S6:List Nat:=[0,2,3,10,17]
def jP (x:Tm):List Tm:=if x.k=2 then x.a else []
mutual
def cM:Tm->Nat
 |⟨k,i,n,a⟩=>if k=2 then 1+bj a else 1
def bj:List Tm->Nat
 |[]=>0
 |x::l=>cM x+bj l
end
mutual
def jQ:Tm->Nat
 |⟨k,i,n,a⟩=>if k=2 then 1+fj a else 1
def fj:List Tm->Nat
 |[]=>0
 |x::l=>max (jQ x) (fj l)
end
theorem s5 (x:Tm):cM x=1+bj (jP x):=by
 obtain⟨k,i,n,a⟩:=x
 rw [cM,jP]
 split<;>rfl
theorem zw (x:Tm):jQ x=1+fj (jP x):=by
 obtain⟨k,i,n,a⟩:=x
 rw [jQ,jP]
 split<;>rfl
theorem mo (x:Tm):1<=cM x:=by rw [s5];omega
theorem QP:∀ x:Tm,jQ x<=cM x:=by
 refine Tm.ind ?_
 intro k i n a ih
 have key:∀ l:List Tm,(∀ x ∈ l,jQ x<=cM x)->fj l<=bj l:=by
  intro l
  induction l with
  |nil=>intro _;exact Nat.le_refl 0
  |cons x l il =>
   intro h
   have h1:=h x (by simp)
   have h2:=il (fun y hy=>h y (by simp [hy]))
   rw [fj,bj]
   omega
 rw [jQ,cM]
 split
 ·have:=key a ih;omega
 ·exact Nat.le_refl 1
theorem rR:∀ (l:List Tm) (k:Nat),bj (l.drop k)<=bj l
 |[],k=>by simp
 |x::l,0=>by simp
 |x::l,k+1=>by
  rw [List.drop_succ_cons,bj]
  have:=rR l k
  omega
theorem ph:∀ l:List Tm,l.length<=bj l
 |[]=>Nat.le_refl 0
 |x::l=>by
  have:=ph l
  have:=mo x
  rw [bj,List.length_cons]
  omega
section
variable {w0:World}{ρ:Hd}
theorem zx (x:Tm):ah Tryz.prog w0 177 [tm ρ x] (tl ρ (jP x)):=by
 obtain⟨k,i,n,a⟩:=x
 refine WV.aG (by simp [Tryz.ntmps177]) ((bC _)) ?_
 refine gq S3 ?_
 repeat' (first
  |(refine bq (fun hb=>?_) (fun hb=>?_)<;>(try simp only [aq] at hb)<;>(first|refine gq S3 ?_))
  |(refine fq ?_))
 ·rw [jP,if_pos hb];exact aU.of_eq rfl
 ·rw [jP,if_neg hb,tl,dx];exact aU.wk
theorem S7 (x:Tm):ah Tryz.prog w0 326 [tm ρ x] (tl ρ (jP x)):=by
 obtain⟨k,i,n,a⟩:=x
 refine WW.aG (by simp [Tryz.ntmps326]) ((bC _)) ?_
 refine gq S4 ?_
 repeat' (first
  |(refine bq (fun hb=>?_) (fun hb=>?_)<;>(try simp only [aq] at hb)<;>(first|refine gq S4 ?_))
  |(refine fq ?_))
 ·rw [jP,if_pos hb];exact aU.of_eq rfl
 ·rw [jP,if_neg hb,tl,dx];exact aU.wk
theorem S8 (l:List Int) (v:Int) (hl:l.length<=1099511627776):ah Tryz.prog w0 287 [b8 ρ bF false l,iv v] (.v (.bool (l.contains v))):=by
 refine WY.aG (by simp [Tryz.ntmps287]) (.v) ?_
 refine gq pW ?_
 refine ab.aP (σ:=Int) 0 0 [] (fun i=>[(0,b8 ρ bF false l),(1,.v (.int .i64 v)),(5,.v (.int .i64 i))]) [] (fun _=>[])
  (fun i=>∃ k:Nat,i=k/\k<=l.length/\l.contains v=(l.drop k).contains v) (fun i=>l.length - i.toNat) 0 ⟨0,rfl,by simp,by simp⟩ rfl cq ?_
 rintro i ⟨k,hi,hk,hp⟩
 refine gq pW ?_
 by_cases au:k < l.length
 ·obtain⟨x,hx,aO⟩:=az au
  rw [aO,List.contains_cons] at hp
  repeat' (first
   |(refine ab.op rfl (ad.ind rfl rfl (ay (l:=l) hi hx) (aw fun _=>rfl)) ?_;refine gq pW ?_)
   |(refine bq (fun hb=>?_) (fun hb=>?_)<;>(try simp only [aq] at hb)<;>(first|refine gq pW ?_))
   |(refine aB fun m hm=>?_;(try rw [af] at hm);refine gq pW ?_)
   |(refine aS fun _ _=>?_;refine gq pW ?_)
   |(refine ab.ao ?_;refine gq pW ?_)
   |(refine ab.bJ ?_;refine gq pW ?_)
   |(refine fq ?_))
  all_goals first
   |(refine ab.aL (σ:=Int) _ [] ?_ ?_ cq
     ·refine⟨k+1,by omega,by omega,?_⟩
      rw [hp];simp;intro h;omega
     ·omega)
   |(refine aC ?_;rw [hp];simp;left;omega)
   |(exfalso;omega)
 ·skip
  repeat' (first
   |(refine bq (fun hb=>?_) (fun hb=>?_)<;>(try simp only [aq] at hb)<;>(first|refine gq pW ?_))
   |(refine aB fun m hm=>?_;(try rw [af] at hm);refine gq pW ?_)
   |(refine ab.ao ?_;refine gq pW ?_)
   |(refine fq ?_))
  all_goals first
   |(exfalso;omega)
   |(rw [hp,List.drop_eq_nil_of_le (by omega)];exact aC rfl)
theorem QQ (o:Int):ah Tryz.prog w0 134 [iv o] (iv (if o=1\/o=2 then 0 else if o=11\/o=12 then 1 else if o > 2/\o < 11 then 2 else -1)):=by
 refine WZ.aG (by simp [Tryz.ntmps134]) (.v) ?_
 refine gq S6 ?_
 repeat' (first
  |(refine bq (fun hb=>?_) (fun hb=>?_)<;>(try simp only [aq] at hb)<;>(first|refine gq S6 ?_))
  |(refine fq ?_))
 all_goals (refine dI ?_;(repeat' split)<;>first|rfl|omega)
theorem vG (n:Nat):∀ x:Tm,cM x<=n->n<=1099511627776->ah Tryz.prog w0 95 [tm ρ x] (iv (cM x)):=by
 induction n with
 |zero=>intro x h;have:=mo x;omega
 |succ n ih =>
  intro x hx hn
  have hs:=s5 x
  have hl:=ph (jP x)
  obtain⟨A,hA⟩:∃ A,A=jP x:=⟨_,rfl⟩
  rw [<-hA] at hs hl
  have ha:ah Tryz.prog w0 177 [tm ρ x] (tl ρ A):=by rw [hA];exact zx x
  refine abp.aG (by simp [Tryz.ntmps95]) (.v) ?_
  refine gq tN ?_
  repeat' (first
   |((refine ab.op rfl (ad.ag rfl ha ⟨ba _,trivial⟩) ?_;refine gq tN ?_))
   )
  refine ab.aP (σ:=Int × Int) 1 1 [] (fun p=>[(3,.v (.int .i64 p.2)),(4,tl ρ A),(5,.v (.int .i64 p.1))]) [] (fun _=>[])
   (fun p=>∃ k:Nat,p.1=k/\k<=A.length/\0<=p.2/\p.2+bj (A.drop k)=cM x) (fun p=>A.length - p.1.toNat) (0,1) ⟨0,rfl,by simp,by simp,by simp;omega⟩ rfl cq ?_
  rintro⟨i,c⟩ ⟨k,hi,hk,h0,hp⟩
  simp only at hi h0 hp
  refine gq tN ?_
  by_cases au:k < A.length
  ·obtain⟨y,hy,cP⟩:=az au
   have hd:=rR A k
   rw [cP,bj] at hp hd
   have Ci:=mo y
   repeat' (first
    |(refine ab.op rfl (ad.ind rfl rfl (ft (l:=A) hi hy) fu) ?_;refine gq tN ?_)
    |(refine ab.int rfl (ad.ag rfl (ih y (by omega) (by omega)) ⟨ba _,trivial⟩) fun _ _=>?_;refine gq tN ?_)
    |(refine bq (fun hb=>?_) (fun hb=>?_)<;>(try simp only [aq] at hb)<;>(first|refine gq tN ?_))
    |(refine aB fun m hm=>?_;(try rw [af] at hm);refine gq tN ?_)
    |(refine aS fun _ _=>?_;refine gq tN ?_)
    |(refine ab.ao ?_;refine gq tN ?_)
    |(refine fq ?_))
   all_goals first
    |(exfalso;omega)
    |(refine ab.aL (σ:=Int × Int) (_,_) [] ?_ ?_ cq
      ·exact⟨k+1,by simp only;omega,by omega,by simp only;omega,by simp only;omega⟩
      ·simp only;omega)
  ·skip
   repeat' (first
    |(refine bq (fun hb=>?_) (fun hb=>?_)<;>(try simp only [aq] at hb)<;>(first|refine gq tN ?_))
    |(refine aB fun m hm=>?_;(try rw [af] at hm);refine gq tN ?_)
    |(refine ab.ao ?_;refine gq tN ?_)
    |(refine fq ?_))
   all_goals first
    |(exfalso;omega)
    |(rw [List.drop_eq_nil_of_le (by omega),bj] at hp;exact dI (by omega))
end
end
end Go.Proofs.YtbofilglphfceaaGreat
