import Derived.Test.YtgphljokbodciaaGreatS14
namespace Go.Proofs.YtgphljokbodciaaGreat
set_option linter.unusedVariables false
set_option linter.unusedSimpArgs false
open Go.RowKit
section
set_option maxRecDepth 100000
attribute [local irreducible] ah aV ad ab
def PH:CF Tryz.f317:=⟨_,by conv=>lhs;cbv⟩
theorem Zx:aD Tryz.prog 317 PH.1 Tryz.f317.ntmps:=aO Tryz.func317 PH.2 Tryz.call317
def Vb:List Nat:=[1,2,0,5]
def PI:CF Tryz.f505:=⟨_,by conv=>lhs;cbv⟩
theorem Zy:aD Tryz.prog 505 PI.1 Tryz.f505.ntmps:=aO Tryz.func505 PI.2 Tryz.call505
def Vc:List Nat:=[1,2,0,5]
def PJ:CF Tryz.f183:=⟨_,by conv=>lhs;cbv⟩
theorem Zz:aD Tryz.prog 183 PJ.1 Tryz.f183.ntmps:=aO Tryz.func183 PJ.2 Tryz.call183
def pv:List Nat:=[5,4,3,2,0,1,11]
def PK:CF Tryz.f406:=⟨_,by conv=>lhs;cbv⟩
theorem ZA:aD Tryz.prog 406 PK.1 Tryz.f406.ntmps:=aO Tryz.func406 PK.2 Tryz.call406
def nu:List Nat:=[5,4,3,2,0,1,11]
def PL:CF Tryz.f452:=⟨_,by conv=>lhs;cbv⟩
theorem ZB:aD Tryz.prog 452 PL.1 Tryz.f452.ntmps:=aO Tryz.func452 PL.2 Tryz.call452
def qL:List Nat:=[5,0,4,9,1,17]
def PM:CF Tryz.f311:=⟨_,by conv=>lhs;cbv⟩
theorem ZC:aD Tryz.prog 311 PM.1 Tryz.f311.ntmps:=aO Tryz.func311 PM.2 Tryz.call311
def Vd:List Nat:=[0,2,3,10,17]
def j_ (x:Tm):List Tm:=if x.k=2 then x.a else []
mutual
def cQ:Tm->Nat
 |⟨k,i,n,a⟩=>if k=2 then 1+bj a else 1
def bj:List Tm->Nat
 |[]=>0
 |x::l=>cQ x+bj l
end
mutual
def kc:Tm->Nat
 |⟨k,i,n,a⟩=>if k=2 then 1+fI a else 1
def fI:List Tm->Nat
 |[]=>0
 |x::l=>max (kc x) (fI l)
end
theorem tS (x:Tm):cQ x=1+bj (j_ x):=by
 obtain⟨k,i,n,a⟩:=x
 rw [cQ,j_]
 split<;>rfl
theorem Aa (x:Tm):kc x=1+fI (j_ x):=by
 obtain⟨k,i,n,a⟩:=x
 rw [kc,j_]
 split<;>rfl
theorem mZ (x:Tm):1<=cQ x:=by rw [tS];omega
theorem TA:∀ x:Tm,kc x<=cQ x:=by
 refine Tm.ind ?_
 intro k i n a ih
 have key:∀ l:List Tm,(∀ x ∈ l,kc x<=cQ x)->fI l<=bj l:=by
  intro l
  induction l with
  |nil=>intro _;exact Nat.le_refl 0
  |cons x l il =>
   intro h
   have h1:=h x (by simp)
   have h2:=il (fun y hy=>h y (by simp [hy]))
   rw [fI,bj]
   omega
 rw [kc,cQ]
 split
 ·have:=key a ih;omega
 ·exact Nat.le_refl 1
theorem sO:∀ (l:List Tm) (k:Nat),bj (l.drop k)<=bj l
 |[],k=>by simp
 |x::l,0=>by simp
 |x::l,k+1=>by
  rw [List.drop_succ_cons,bj]
  have:=sO l k
  omega
theorem pX:∀ l:List Tm,l.length<=bj l
 |[]=>Nat.le_refl 0
 |x::l=>by
  have:=pX l
  have:=mZ x
  rw [bj,List.length_cons]
  omega
section
variable {w0:World}{ρ:Hd}
theorem Ac (x:Tm):ah Tryz.prog w0 317 [tm ρ x] (tl ρ (j_ x)):=by
 obtain⟨k,i,n,a⟩:=x
 refine Zx.aH (by simp [Tryz.ntmps317]) ((bB _)) ?_
 refine gq Vb ?_
 repeat' (first
  |(refine bq (fun hb=>?_) (fun hb=>?_)<;>(try simp only [aq] at hb)<;>(first|refine gq Vb ?_))
  |(refine fq ?_))
 ·rw [j_,if_pos hb];exact aX.of_eq rfl
 ·rw [j_,if_neg hb,tl,dE];exact aX.wk
theorem Ve (x:Tm):ah Tryz.prog w0 505 [tm ρ x] (tl ρ (j_ x)):=by
 obtain⟨k,i,n,a⟩:=x
 refine Zy.aH (by simp [Tryz.ntmps505]) ((bB _)) ?_
 refine gq Vc ?_
 repeat' (first
  |(refine bq (fun hb=>?_) (fun hb=>?_)<;>(try simp only [aq] at hb)<;>(first|refine gq Vc ?_))
  |(refine fq ?_))
 ·rw [j_,if_pos hb];exact aX.of_eq rfl
 ·rw [j_,if_neg hb,tl,dE];exact aX.wk
theorem Vf (l:List Int) (v:Int) (hl:l.length<=1099511627776):ah Tryz.prog w0 452 [bY ρ bJ false l,iv v] (.v (.bool (l.contains v))):=by
 refine ZB.aH (by simp [Tryz.ntmps452]) (.v) ?_
 refine gq qL ?_
 refine ab.aP (σ:=Int) 0 0 [] (fun i=>[(0,bY ρ bJ false l),(1,.v (.int .i64 v)),(5,.v (.int .i64 i))]) [] (fun _=>[])
  (fun i=>∃ k:Nat,i=k/\k<=l.length/\l.contains v=(l.drop k).contains v) (fun i=>l.length - i.toNat) 0 ⟨0,rfl,by simp,by simp⟩ rfl cq ?_
 rintro i ⟨k,hi,hk,hp⟩
 refine gq qL ?_
 by_cases au:k < l.length
 ·obtain⟨x,hx,aQ⟩:=aA au
  rw [aQ,List.contains_cons] at hp
  repeat' (first
   |(refine ab.op rfl (ad.ind rfl rfl (ay (l:=l) hi hx) (aw fun _=>rfl)) ?_;refine gq qL ?_)
   |(refine bq (fun hb=>?_) (fun hb=>?_)<;>(try simp only [aq] at hb)<;>(first|refine gq qL ?_))
   |(refine az fun m hm=>?_;(try rw [af] at hm);refine gq qL ?_)
   |(refine aS fun _ _=>?_;refine gq qL ?_)
   |(refine ab.ao ?_;refine gq qL ?_)
   |(refine ab.bK ?_;refine gq qL ?_)
   |(refine fq ?_))
  all_goals first
   |(refine ab.aK (σ:=Int) _ [] ?_ ?_ cq
     ·refine⟨k+1,by omega,by omega,?_⟩
      rw [hp];simp;intro h;omega
     ·omega)
   |(refine aI ?_;rw [hp];simp;left;omega)
   |(exfalso;omega)
 ·skip
  repeat' (first
   |(refine bq (fun hb=>?_) (fun hb=>?_)<;>(try simp only [aq] at hb)<;>(first|refine gq qL ?_))
   |(refine az fun m hm=>?_;(try rw [af] at hm);refine gq qL ?_)
   |(refine ab.ao ?_;refine gq qL ?_)
   |(refine fq ?_))
  all_goals first
   |(exfalso;omega)
   |(rw [hp,List.drop_eq_nil_of_le (by omega)];exact aI rfl)
theorem TB (o:Int):ah Tryz.prog w0 311 [iv o] (iv (if o=1\/o=2 then 0 else if o=11\/o=12 then 1 else if o > 2/\o < 11 then 2 else -1)):=by
 refine ZC.aH (by simp [Tryz.ntmps311]) (.v) ?_
 refine gq Vd ?_
 repeat' (first
  |(refine bq (fun hb=>?_) (fun hb=>?_)<;>(try simp only [aq] at hb)<;>(first|refine gq Vd ?_))
  |(refine fq ?_))
 all_goals (refine dK ?_;(repeat' split)<;>first|rfl|omega)
theorem wz (n:Nat):∀ x:Tm,cQ x<=n->n<=1099511627776->ah Tryz.prog w0 183 [tm ρ x] (iv (cQ x)):=by
 induction n with
 |zero=>intro x h;have:=mZ x;omega
 |succ n ih =>
  intro x hx hn
  have hs:=tS x
  have hl:=pX (j_ x)
  obtain⟨A,hA⟩:∃ A,A=j_ x:=⟨_,rfl⟩
  rw [<-hA] at hs hl
  have ha:ah Tryz.prog w0 317 [tm ρ x] (tl ρ A):=by rw [hA];exact Ac x
  refine Zz.aH (by simp [Tryz.ntmps183]) (.v) ?_
  refine gq pv ?_
  repeat' (first
   |((refine ab.op rfl (ad.ag rfl ha ⟨bf _,trivial⟩) ?_;refine gq pv ?_))
   )
  refine ab.aP (σ:=Int × Int) 1 1 [] (fun p=>[(3,.v (.int .i64 p.2)),(4,tl ρ A),(5,.v (.int .i64 p.1))]) [] (fun _=>[])
   (fun p=>∃ k:Nat,p.1=k/\k<=A.length/\0<=p.2/\p.2+bj (A.drop k)=cQ x) (fun p=>A.length - p.1.toNat) (0,1) ⟨0,rfl,by simp,by simp,by simp;omega⟩ rfl cq ?_
  rintro⟨i,c⟩ ⟨k,hi,hk,h0,hp⟩
  simp only at hi h0 hp
  refine gq pv ?_
  by_cases au:k < A.length
  ·obtain⟨y,hy,cT⟩:=aA au
   have hd:=sO A k
   rw [cT,bj] at hp hd
   have CV:=mZ y
   repeat' (first
    |(refine ab.op rfl (ad.ind rfl rfl (fL (l:=A) hi hy) fM) ?_;refine gq pv ?_)
    |(refine ab.int rfl (ad.ag rfl (ih y (by omega) (by omega)) ⟨bf _,trivial⟩) fun _ _=>?_;refine gq pv ?_)
    |(refine bq (fun hb=>?_) (fun hb=>?_)<;>(try simp only [aq] at hb)<;>(first|refine gq pv ?_))
    |(refine az fun m hm=>?_;(try rw [af] at hm);refine gq pv ?_)
    |(refine aS fun _ _=>?_;refine gq pv ?_)
    |(refine ab.ao ?_;refine gq pv ?_)
    |(refine fq ?_))
   all_goals first
    |(exfalso;omega)
    |(refine ab.aK (σ:=Int × Int) (_,_) [] ?_ ?_ cq
      ·exact⟨k+1,by simp only;omega,by omega,by simp only;omega,by simp only;omega⟩
      ·simp only;omega)
  ·skip
   repeat' (first
    |(refine bq (fun hb=>?_) (fun hb=>?_)<;>(try simp only [aq] at hb)<;>(first|refine gq pv ?_))
    |(refine az fun m hm=>?_;(try rw [af] at hm);refine gq pv ?_)
    |(refine ab.ao ?_;refine gq pv ?_)
    |(refine fq ?_))
   all_goals first
    |(exfalso;omega)
    |(rw [List.drop_eq_nil_of_le (by omega),bj] at hp;exact dK (by omega))
end
end
section
set_option maxRecDepth 100000
attribute [local irreducible] ah aV ad ab
def PN:CF Tryz.f479:=⟨_,by conv=>lhs;cbv⟩
theorem ZD:aD Tryz.prog 479 PN.1 Tryz.f479.ntmps:=aO Tryz.func479 PN.2 Tryz.call479
def Vg:List Nat:=[0,2]
def PO:CF Tryz.f405:=⟨_,by conv=>lhs;cbv⟩
theorem ZE:aD Tryz.prog 405 PO.1 Tryz.f405.ntmps:=aO Tryz.func405 PO.2 Tryz.call405
def l9:List Nat:=[1,6,4,2,0,7,28,49,3,78,83,92]
def PQ:CF Tryz.f307:=⟨_,by conv=>lhs;cbv⟩
theorem ZF:aD Tryz.prog 307 PQ.1 Tryz.f307.ntmps:=aO Tryz.func307 PQ.2 Tryz.call307
def CW:List Nat:=[1,2,0]
def PR:CF Tryz.f310:=⟨_,by conv=>lhs;cbv⟩
theorem ZG:aD Tryz.prog 310 PR.1 Tryz.f310.ntmps:=aO Tryz.func310 PR.2 Tryz.call310
def ow:List Nat:=[4,0,3,2,8,16]
def PS:CF Tryz.f179:=⟨_,by conv=>lhs;cbv⟩
theorem ZH:aD Tryz.prog 179 PS.1 Tryz.f179.ntmps:=aO Tryz.func179 PS.2 Tryz.call179
def CX:List Nat:=[1,2,0]
def PT:CF Tryz.f181:=⟨_,by conv=>lhs;cbv⟩
theorem ZI:aD Tryz.prog 181 PT.1 Tryz.f181.ntmps:=aO Tryz.func181 PT.2 Tryz.call181
def Ad:List Nat:=[1,2,0,5]
def gL (s:ByteArray):Bool:=s.toList == ((⟨#[43]⟩:ByteArray)).toList || s.toList == ((⟨#[45]⟩:ByteArray)).toList || s.toList == ((⟨#[42]⟩:ByteArray)).toList || s.toList == ((⟨#[47]⟩:ByteArray)).toList || s.toList == ((⟨#[37]⟩:ByteArray)).toList
def sP (n:ByteArray) (a:List Tm):Bool:=n.toList == (⟨#[]⟩:ByteArray).toList && a.isEmpty
mutual
def g_:Tm->Bool
 |⟨k,i,n,a⟩=>if k=0 then decide (-2147483648<=i) && decide (i<=2147483648) && sP n a else if k=1 then decide (0<=i) && decide (i<=1048576) && sP n a
  else if k=2 then i == 0 && (gL n && a.length == 2 || gJ n && decide (a.length<=6)) && js a else false
def js:List Tm->Bool
 |[]=>true
 |x::l=>g_ x && js l
end
def gX (x:Tm):Bool:=g_ x && decide (cQ x<=200) && decide (kc x<=20)
def lP (l:List Tm):Bool:=l.all gX && decide (bj l<=200)
theorem Ae {B sz fz:Nat}{row:List AV}{ex:Bool}(h:∀ a ∈ row,Pure a):jF B (.arr sz [row] fz ex):=fun r hr a ha=>by
 obtain rfl:=List.mem_singleton.1 hr
 exact (h a ha).bM
section
variable {w0:World}{ρ:Hd}
theorem MO (n:Nat):∀ x:Tm,cQ x<=n->n<=1099511627776->ah Tryz.prog w0 406 [tm ρ x] (iv (kc x)):=by
 induction n with
 |zero=>intro x h;have:=mZ x;omega
 |succ n ih =>
  intro x hx hn
  have hs:=tS x
  have Fy:=Aa x
  have hl:=pX (j_ x)
  have hle:=TA x
  obtain⟨A,hA⟩:∃ A,A=j_ x:=⟨_,rfl⟩
  rw [<-hA] at hs hl Fy
  have ha:ah Tryz.prog w0 317 [tm ρ x] (tl ρ A):=by rw [hA];exact Ac x
  refine ZA.aH (by simp [Tryz.ntmps406]) (.v) ?_
  refine gq nu ?_
  repeat' (first
   |((refine ab.op rfl (ad.ag rfl ha ⟨bf _,trivial⟩) ?_;refine gq nu ?_))
   )
  refine ab.aP (σ:=Int × Int) 1 1 [] (fun p=>[(3,.v (.int .i64 p.2)),(4,tl ρ A),(5,.v (.int .i64 p.1))]) [] (fun _=>[])
   (fun p=>∃ k:Nat,p.1=k/\k<=A.length/\0<=p.2/\max p.2 (fI (A.drop k):Int)=fI A) (fun p=>A.length - p.1.toNat) (0,0) ⟨0,rfl,by simp,by simp,by simp⟩ rfl cq ?_
  rintro⟨i,c⟩ ⟨k,hi,hk,h0,hp⟩
  simp only at hi h0 hp
  refine gq nu ?_
  by_cases au:k < A.length
  ·obtain⟨y,hy,cT⟩:=aA au
   have hd:=sO A k
   rw [cT,fI] at hp
   rw [cT,bj] at hd
   have CV:=mZ y
   repeat' (first
    |(refine ab.op rfl (ad.ind rfl rfl (fL (l:=A) hi hy) fM) ?_;refine gq nu ?_)
    |(refine ab.int rfl (ad.ag rfl (ih y (by omega) (by omega)) ⟨bf _,trivial⟩) fun _ _=>?_;refine gq nu ?_)
    |(refine ab.int rfl (ad.max rfl rfl) fun _ _=>?_;refine gq nu ?_)
    |(refine bq (fun hb=>?_) (fun hb=>?_)<;>(try simp only [aq] at hb)<;>(first|refine gq nu ?_))
    |(refine az fun m hm=>?_;(try rw [af] at hm);refine gq nu ?_)
    |(refine aS fun _ _=>?_;refine gq nu ?_)
    |(refine ab.ao ?_;refine gq nu ?_)
    |(refine fq ?_))
   all_goals first
    |(exfalso;omega)
    |(refine ab.aK (σ:=Int × Int) (_,_) [] ?_ ?_ cq
      ·exact⟨k+1,by simp only;omega,by omega,by simp only;omega,by simp only;omega⟩
      ·simp only;omega)
  ·skip
   repeat' (first
    |(refine bq (fun hb=>?_) (fun hb=>?_)<;>(try simp only [aq] at hb)<;>(first|refine gq nu ?_))
    |(refine az fun m hm=>?_;(try rw [af] at hm);refine gq nu ?_)
    |(refine aS fun _ _=>?_;refine gq nu ?_)
    |(refine ab.ao ?_;refine gq nu ?_)
    |(refine fq ?_))
   all_goals first
    |(exfalso;omega)
    |(rw [List.drop_eq_nil_of_le (by omega),fI] at hp;exact dK (by omega))
theorem TC (s:ByteArray):ah Tryz.prog w0 479 [.v (.string s)] (.v (.bool (gL s))):=by
 refine ZD.aH (by simp [Tryz.ntmps479]) (.v) ?_
 refine gq Vg ?_
 repeat' (first
  |(refine bq (fun hb=>?_) (fun hb=>?_)<;>(try simp only [aq] at hb)<;>(first|refine gq Vg ?_))
  |(refine fq ?_))
 all_goals (refine aX.of_eq ?_;simp_all [gL])
theorem Vh (x:Tm) (hx:x.ok):ah Tryz.prog w0 405 [tm ρ x] (.v (.bool (g_ x))):=by
 revert hx
 refine Tm.ind (p:=fun x=>x.ok->ah Tryz.prog w0 405 [tm ρ x] (.v (.bool (g_ x)))) ?_ x
 intro k i n a ih hx
 obtain⟨db,eH,eM⟩:=hx.out
 dsimp only at db eH eM
 rw [g_]
 have hE:a.isEmpty=decide ((a.length:Int)=0):=by
  cases a with
  |nil=>rfl
  |cons x l=>simp;omega
 rw [sP,hE]
 have hL:(a.length == 2)=decide ((a.length:Int)=2):=by rw [Bool.eq_iff_iff];simp;omega
 have hM:decide (a.length<=6)=decide ((a.length:Int)<=6):=decide_eq_decide.2 (by omega)
 rw [hL,hM]
 obtain⟨V,hV⟩:∃ V,V=g_ ⟨k,i,n,a⟩:=⟨_,rfl⟩
 rw [g_,sP,hE,hL,hM] at hV
 rw [<-hV]
 refine ZE.aH (by simp [Tryz.ntmps405]) (.v) ?_
 refine gq l9 ?_
 repeat' (first
  |(refine ab.bif rfl (ad.ag rfl (TC _) ⟨.v,trivial⟩) (fun _=>?_) (fun _=>?_)<;>refine gq l9 ?_)
  |(refine ab.bif rfl (ad.ag rfl (tR _ eH) ⟨.v,trivial⟩) (fun _=>?_) (fun _=>?_)<;>refine gq l9 ?_)
  |(refine bq (fun hb=>?_) (fun hb=>?_)<;>(try simp only [aq] at hb)<;>(first|refine gq l9 ?_))
  |(refine az fun m hm=>?_;(try rw [af] at hm);refine gq l9 ?_)
  |(refine fq ?_))
 all_goals try (refine aI ?_;rw [hV];clear ih hx eM hE hL hM hV;subst_vars;simp_all<;>(intros;omega))
 all_goals
  have hv:V=js a:=by rw [hV];clear ih hx eM hE hL hM hV;subst_vars;simp_all<;>(intros;omega)
  clear hV hE hL hM
  refine ab.aP (σ:=Int) 1 1 [] (fun j=>[(1,.pt 0 4 0 0),(4,.v (.int .i64 j))]) [] (fun _=>[(0,.arr 4 [w5 ρ ⟨k,i,n,a⟩] 0 true)])
   (fun j=>∃ q:Nat,j=q/\q<=a.length/\V=js (a.drop q)) (fun j=>a.length - j.toNat) 0 ⟨0,rfl,by simp,by simp [hv]⟩ rfl
   ⟨⟨.aC rfl (.pt (by decide)),.aC rfl .v,trivial⟩,rfl,⟨.inl ⟨_,rfl,.same (Ae (row:=w5 ρ ⟨k,i,n,a⟩) (xM _))⟩,trivial⟩,rfl,rfl,rfl⟩ ?_
  rintro j ⟨q,hj,hq,hp⟩
  refine gq l9 ?_
  by_cases au:q < a.length
  ·obtain⟨y,hy,cT⟩:=aA au
   rw [cT,js] at hp
   have hf:=ih y (aZ hy) (eM.mem y (aZ hy))
   repeat' (first
    |(refine ab.op rfl (ad.ind rfl rfl (fL (l:=a) hj hy) fM) ?_;refine gq l9 ?_)
    |(refine ab.bif rfl (ad.ag rfl hf ⟨bf _,trivial⟩) (fun _=>?_) (fun _=>?_)<;>refine gq l9 ?_)
    |(refine bq (fun hb=>?_) (fun hb=>?_)<;>(try simp only [aq] at hb)<;>(first|refine gq l9 ?_))
    |(refine az fun m hm=>?_;(try rw [af] at hm);refine gq l9 ?_)
    |(refine aS fun _ _=>?_;refine gq l9 ?_)
    |(refine ab.ao ?_;refine gq l9 ?_)
    |(refine ab.bK ?_;refine gq l9 ?_)
    |(refine fq ?_))
   all_goals first
    |(refine ab.aK (σ:=Int) _ [] ?_ ?_ ⟨⟨.aC rfl (.pt (by decide)),.aC rfl .v,trivial⟩,rfl,⟨.inl ⟨_,rfl,.same (Ae (row:=w5 ρ ⟨k,i,n,a⟩) (xM _))⟩,trivial⟩,rfl,rfl,rfl⟩
      ·exact⟨q+1,by omega,by omega,by rw [hp];simp_all⟩
      ·omega)
    |(refine aI ?_;rw [hp];simp_all;done)
  ·skip
   repeat' (first
    |(refine bq (fun hb=>?_) (fun hb=>?_)<;>(try simp only [aq] at hb)<;>(first|refine gq l9 ?_))
    |(refine az fun m hm=>?_;(try rw [af] at hm);refine gq l9 ?_)
    |(refine ab.ao ?_;refine gq l9 ?_)
    |(refine fq ?_))
   all_goals first
    |(exfalso;omega)
    |(rw [hp,List.drop_eq_nil_of_le (by omega),js];exact aI rfl)
end
end
section
set_option maxRecDepth 100000
attribute [local irreducible] ah aV ad ab
theorem A_:∀ {l:List Tm},∀ x ∈ l,cQ x<=bj l
 |[],x,h=>by cases h
 |y::l,x,h=>by
  rw [bj]
  rcases List.mem_cons.1 h with rfl|h
  ·omega
  ·have:=A_ x h;omega
def nv (l:List Tm):Prop:=er l/\bj l<=1099511627776
theorem nv.len {l:List Tm}(h:nv l):l.length<=1099511627776:=Nat.le_trans (pX l) h.2
def eu (x:At):Bool:=gJ x.n && decide (x.a.length<=6) && lP x.a
def arity (o:Int):Int:=if o=1\/o=2 then 0 else if o=11\/o=12 then 1 else if o > 2/\o < 11 then 2 else -1
def eS (x:Gl):Bool:=if x.op=0 then eu ⟨x.n,x.a⟩ else x.n.toList == (⟨#[]⟩:ByteArray).toList && decide (arity x.op=x.a.length) && lP x.a
section
variable {w0:World}{ρ:Hd}
theorem CY (x:Tm) (hx:x.ok) (hs:cQ x<=1099511627776):ah Tryz.prog w0 307 [tm ρ x] (.v (.bool (gX x))):=by
 refine ZF.aH (by simp [Tryz.ntmps307]) (.v) ?_
 refine gq CW ?_
 repeat' (first
  |(refine ab.bif rfl (ad.ag rfl (Vh (ρ:=ρ) x hx) ⟨bf _,trivial⟩) (fun _=>?_) (fun _=>?_)<;>refine gq CW ?_)
  |(refine ab.int rfl (ad.ag rfl (wz (ρ:=ρ) _ x (Nat.le_refl _) hs) ⟨bf _,trivial⟩) fun _ _=>?_;refine gq CW ?_)
  |(refine ab.int rfl (ad.ag rfl (MO (ρ:=ρ) _ x (Nat.le_refl _) hs) ⟨bf _,trivial⟩) fun _ _=>?_;refine gq CW ?_)
  |(refine bq (fun hb=>?_) (fun hb=>?_)<;>(try simp only [aq] at hb)<;>(first|refine gq CW ?_))
  |(refine fq ?_))
 all_goals (refine aI ?_;subst_vars;clear hs hx;simp_all [gX]<;>(intros;omega))
theorem w7 (a:List Tm) (hz:nv a):ah Tryz.prog w0 310 [tl ρ a] (.v (.bool (lP a))):=by
 have hl:=hz.len
 obtain⟨Fz,Vi⟩:=hz
 refine ZG.aH (by simp [Tryz.ntmps310]) (.v) ?_
 refine gq ow ?_
 refine ab.aP (σ:=Int × Int) 0 0 [] (fun p=>[(0,tl ρ a),(3,.v (.int .i64 p.2)),(4,.v (.int .i64 p.1))]) [] (fun _=>[])
  (fun p=>∃ k:Nat,p.1=k/\k<=a.length/\0<=p.2/\p.2+bj (a.drop k)=bj a/\a.all gX=(a.drop k).all gX) (fun p=>a.length - p.1.toNat) (0,0) ⟨0,rfl,by simp,by simp,by simp,by simp⟩ rfl cq ?_
 rintro⟨i,c⟩ ⟨k,hi,hk,h0,hp,hq⟩
 simp only at hi h0 hp
 refine gq ow ?_
 by_cases au:k < a.length
 ·obtain⟨y,hy,cT⟩:=aA au
  rw [cT,bj] at hp
  rw [cT,List.all_cons] at hq
  have hm:=A_ y (aZ hy)
  have hR:=CY (w0:=w0) (ρ:=ρ) y (Fz.mem y (aZ hy)) (by omega)
  have hS:=wz (w0:=w0) (ρ:=ρ) _ y (Nat.le_refl _) (by omega)
  repeat' (first
   |(refine ab.op rfl (ad.ind rfl rfl (fL (l:=a) hi hy) fM) ?_;refine gq ow ?_)
   |(refine ab.bif rfl (ad.ag rfl hR ⟨bf _,trivial⟩) (fun _=>?_) (fun _=>?_)<;>refine gq ow ?_)
   |(refine ab.int rfl (ad.ag rfl hS ⟨bf _,trivial⟩) fun _ _=>?_;refine gq ow ?_)
   |(refine bq (fun hb=>?_) (fun hb=>?_)<;>(try simp only [aq] at hb)<;>(first|refine gq ow ?_))
   |(refine az fun m hm=>?_;(try rw [af] at hm);refine gq ow ?_)
   |(refine aS fun _ _=>?_;refine gq ow ?_)
   |(refine ab.ao ?_;refine gq ow ?_)
   |(refine ab.bK ?_;refine gq ow ?_)
   |(refine fq ?_))
  all_goals first
   |(refine ab.aK (σ:=Int × Int) (_,_) [] ?_ ?_ cq
     ·refine⟨k+1,by simp only;omega,by omega,by simp only;omega,by simp only;omega,?_⟩
      rw [hq];simp_all
     ·simp only;omega)
   |(refine aI ?_;rw [lP,hq];simp_all;done)
 ·skip
  repeat' (first
   |(refine bq (fun hb=>?_) (fun hb=>?_)<;>(try simp only [aq] at hb)<;>(first|refine gq ow ?_))
   |(refine az fun m hm=>?_;(try rw [af] at hm);refine gq ow ?_)
   |(refine ab.ao ?_;refine gq ow ?_)
   |(refine fq ?_))
  all_goals first
   |(exfalso;omega)
   |(rw [List.drop_eq_nil_of_le (by omega)] at hp hq
     rw [bj] at hp
     refine aI ?_
     rw [lP,hq]
     simp
     omega)
theorem xS (x:At) (hz:nv x.a) (hn:x.n.size<=1099511627776):ah Tryz.prog w0 179 [at_ ρ x] (.v (.bool (eu x))):=by
 obtain⟨n,a⟩:=x
 dsimp only at hz hn
 have hL:decide (a.length<=6)=decide ((a.length:Int)<=6):=decide_eq_decide.2 (by omega)
 rw [eu,hL]
 refine ZH.aH (by simp [Tryz.ntmps179]) (.v) ?_
 refine gq CX ?_
 repeat' (first
  |(refine ab.bif rfl (ad.ag rfl (tR _ hn) ⟨.v,trivial⟩) (fun _=>?_) (fun _=>?_)<;>refine gq CX ?_)
  |(refine ab.bif rfl (ad.ag rfl (w7 _ hz) ⟨bB _,trivial⟩) (fun _=>?_) (fun _=>?_)<;>refine gq CX ?_)
  |(refine bq (fun hb=>?_) (fun hb=>?_)<;>(try simp only [aq] at hb)<;>(first|refine gq CX ?_))
  |(refine az fun m hm=>?_;(try rw [af] at hm);refine gq CX ?_)
  |(refine fq ?_))
 all_goals (refine aI ?_;subst_vars;simp_all<;>(intros;omega))
theorem Vj (o:Int):ah Tryz.prog w0 311 [iv o] (iv (arity o)):=TB o
theorem CZ (x:Gl) (hz:nv x.a) (hn:x.n.size<=1099511627776):ah Tryz.prog w0 181 [gl ρ x] (.v (.bool (eS x))):=by
 obtain⟨o,n,a⟩:=x
 dsimp only at hz hn
 rw [eS]
 refine ZI.aH (by simp [Tryz.ntmps181]) (.v) ?_
 refine gq Ad ?_
 repeat' (first
  |(refine ab.bif rfl (ad.ag rfl (xS (ρ:=ρ) ⟨n,a⟩ hz hn) ⟨cX (ρ:=ρ) ⟨n,a⟩,trivial⟩) (fun _=>?_) (fun _=>?_)<;>refine gq Ad ?_)
  |(refine ab.bif rfl (ad.ag rfl (w7 _ hz) ⟨bB _,trivial⟩) (fun _=>?_) (fun _=>?_)<;>refine gq Ad ?_)
  |(refine ab.int rfl (ad.ag rfl (Vj _) ⟨.v,trivial⟩) fun _ _=>?_;refine gq Ad ?_)
  |(refine bq (fun hb=>?_) (fun hb=>?_)<;>(try simp only [aq] at hb)<;>(first|refine gq Ad ?_))
  |(refine az fun m hm=>?_;(try rw [af] at hm);refine gq Ad ?_)
  |(refine fq ?_))
 all_goals (refine aI ?_;subst_vars;simp_all<;>(intros;omega))
end
end
end Go.Proofs.YtgphljokbodciaaGreat
