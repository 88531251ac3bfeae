import Derived.Test.YtgjfgekaclobaaaGreatCa20
namespace Go.Proofs.YtgjfgekaclobaaaGreat
set_option linter.unusedVariables false
set_option linter.unusedSimpArgs false
open Go.RowKit
theorem QY (x:Tm):1<=nK x:=by rw [IK];omega
theorem vl (d:Int):∀ (l:List Tm) (h:∀ x ∈ l,∀ c,0<=c->((a6 x d c).1=(nB x && decide ((dG x:Int)<=c) && decide ((nK x:Int)<=d)))/\((a6 x d c).1=true->(a6 x d c).2=c - dG x)) (c:Int),0<=c->0<=d ->
  ((cw l d c).1=(mK l && decide ((bw l:Int)<=c) && decide ((j7 l:Int)<=d)))/\((cw l d c).1=true->(cw l d c).2=c - bw l)
 |[],h,c,hc,hd=>by
  rw [cw,mK,bw,j7]
  exact⟨by simp [hc,hd],fun _=>by simp⟩
 |x::l,h,c,hc,hd=>by
  obtain⟨h1,h2⟩:=h x (by simp) c hc
  rw [cw,mK,bw,j7]
  cases hv:(a6 x d c).1 with
  |false =>
   rw [hv] at h1
   rw [if_neg (by simp)]
   refine⟨?_,fun h=>by cases h⟩
   show false=_
   cases hf:nB x<;>cases hg:mK l<;>simp only [hf,Bool.true_and,Bool.false_and,Bool.and_false,Bool.and_true] at h1 ⊢
   all_goals try rfl
   symm
   replace h1:=h1.symm
   rw [Bool.and_eq_false_iff,decide_eq_false_iff_not,decide_eq_false_iff_not] at h1 ⊢
   omega
  |true =>
   rw [if_pos rfl]
   have h3:=h2 hv
   rw [hv] at h1
   have h4:nB x=true/\(dG x:Int)<=c/\(nK x:Int)<=d:=by
    have:=h1.symm
    rw [Bool.and_eq_true,Bool.and_eq_true,decide_eq_true_eq,decide_eq_true_eq] at this
    exact⟨this.1.1,this.1.2,this.2⟩
   obtain⟨h5,h6⟩:=vl d l (fun y hy=>h y (by simp [hy])) (c - dG x) (by omega) hd
   rw [h3]
   refine⟨?_,fun h=>by rw [h6 h];push_cast;omega⟩
   rw [h5,h4.1,Bool.true_and]
   have e1:decide ((bw l:Int)<=c - dG x)=decide (((dG x+bw l:Nat):Int)<=c):=decide_eq_decide.2 (by omega)
   have e2:decide ((j7 l:Int)<=d)=decide (((max (nK x) (j7 l):Nat):Int)<=d):=decide_eq_decide.2 (by omega)
   rw [e1,e2]
theorem FV (x:Tm):∀ (d c:Int),0<=c->((a6 x d c).1=(nB x && decide ((dG x:Int)<=c) && decide ((nK x:Int)<=d)))/\((a6 x d c).1=true->(a6 x d c).2=c - dG x):=by
 refine Tm.ind (p:=fun x=>∀ (d c:Int),0<=c->((a6 x d c).1=(nB x && decide ((dG x:Int)<=c) && decide ((nK x:Int)<=d)))/\((a6 x d c).1=true->(a6 x d c).2=c - dG x)) ?_ x
 intro k i n a ih d c hc
 have hs:=sV ⟨k,i,n,a⟩
 have hd:=QY ⟨k,i,n,a⟩
 have oT:=Al ⟨k,i,n,a⟩
 have gK:=IK ⟨k,i,n,a⟩
 by_cases h0:c - 1 < 0\/d < 1
 ·rw [a6,if_pos h0]
  refine⟨?_,fun h=>by cases h⟩
  show false=_
  symm
  rw [Bool.and_eq_false_iff,Bool.and_eq_false_iff,decide_eq_false_iff_not,decide_eq_false_iff_not]
  rcases h0 with h|h
  ·exact .inl (.inr (by omega))
  ·exact .inr (by omega)
 have hA:=vl (d - 1) a (fun y hy c hc=>ih y hy (d - 1) c hc) (c - 1)
 by_cases h2:k=2
 ·subst h2
  have e:m9 ⟨2,i,n,a⟩=a:=rfl
  rw [e] at oT gK
  obtain⟨h5,h6⟩:=hA (by omega) (by omega)
  rw [oT,gK,a6,if_neg h0,if_neg (by decide:¬ (2:Int)=0),if_neg (by decide:¬ (2:Int)=1),if_pos (rfl:(2:Int)=2),nB,if_neg (by decide:¬ (2:Int)=0),if_neg (by decide:¬ (2:Int)=1),if_pos (rfl:(2:Int)=2)]
  have e1:decide ((bw a:Int)<=c - 1)=decide (((1+bw a:Nat):Int)<=c):=decide_eq_decide.2 (by omega)
  have e2:decide ((j7 a:Int)<=d - 1)=decide (((1+j7 a:Nat):Int)<=d):=decide_eq_decide.2 (by omega)
  rw [e1,e2] at h5
  split
  ·rename_i hz
   refine⟨?_,fun h=>by cases h⟩
   show false=_
   symm
   have:(i == 0 && (ju n && a.length == 2 || mJ n && decide (a.length<=6)))=false:=by
    cases ho:ju n<;>cases hn:mJ n<;>simp<;>omega
   rw [this];rfl
  ·rename_i hz
   have hi:i=0:=by omega
   have hl:a.length<=6:=by omega
   split
   ·rename_i hw
    refine⟨?_,fun h=>by rw [h6 h];push_cast;omega⟩
    rw [h5]
    have:(i == 0 && (ju n && a.length == 2 || mJ n && decide (a.length<=6)))=true:=by
     subst hi
     rw [decide_eq_true hl,Bool.and_true,Bool.or_comm]
     exact hw
    rw [this,Bool.true_and]
   ·rename_i hw
    refine⟨?_,fun h=>by cases h⟩
    show false=_
    symm
    have:(ju n && a.length == 2 || mJ n && decide (a.length<=6))=false:=by
     rw [decide_eq_true hl,Bool.and_true,Bool.or_comm]
     simpa using hw
    rw [this,Bool.and_false];rfl
 ·have e:m9 ⟨k,i,n,a⟩=[]:=by rw [m9,if_neg h2]
  rw [e,bw] at oT
  rw [e,j7] at gK
  have e1:decide (((1+0:Nat):Int)<=c)=true:=decide_eq_true (by omega)
  have e2:decide (((1+0:Nat):Int)<=d)=true:=decide_eq_true (by omega)
  rw [oT,gK,e1,e2,Bool.and_true,Bool.and_true,a6,if_neg h0,nB,if_neg h2]
  refine⟨?_,?_⟩
  ·(repeat' split)<;>rfl
  ·intro _
   (repeat' split)<;>(show c - 1=_;omega)
theorem QZ (x:Tm):(a6 x 20 200).1=eY x:=by
 rw [(FV x 20 200 (by omega)).1,eY]
 have e1:decide ((dG x:Int)<=200)=decide (dG x<=200):=decide_eq_decide.2 (by omega)
 have e2:decide ((nK x:Int)<=20)=decide (nK x<=20):=decide_eq_decide.2 (by omega)
 rw [e1,e2]
section
set_option maxRecDepth 100000
attribute [local irreducible] ah aK ae aa
def Ug:CF Tryz.f136:=⟨_,by conv=>lhs;cbv⟩
theorem ado:aT Tryz.prog 136 Ug.1 Tryz.f136.ntmps:=bX Tryz.func136 Ug.2 Tryz.call136
def Z0:List Nat:=[2,0,3,1]
def Z1:CF Tryz.f89:=⟨_,by conv=>lhs;cbv⟩
theorem ajQ:aT Tryz.prog 89 Z1.1 Tryz.f89.ntmps:=bX Tryz.func89 Z1.2 Tryz.call89
def Oz:List Nat:=[1,2,0,3]
theorem DU:∀ l:List Tm,bw l<=200->l.all eY=(mK l && decide ((j7 l:Int)<=20))
 |[],_=>by rw [mK,j7];rfl
 |x::l,h=>by
  rw [bw] at h
  rw [List.all_cons,DU l (by omega),mK,j7,eY]
  have e1:decide (dG x<=200)=true:=decide_eq_true (by omega)
  have e2:decide (((max (nK x) (j7 l):Nat):Int)<=20)=(decide (nK x<=20) && decide ((j7 l:Int)<=20)):=by
   rw [Bool.eq_iff_iff,Bool.and_eq_true];simp only [decide_eq_true_eq];omega
  rw [e1,e2]
  cases nB x<;>cases mK l<;>cases decide (nK x<=20)<;>simp
theorem DV (l:List Tm):(cw l 20 200).1=yM l:=by
 rw [(vl 20 l (fun x _ c hc=>FV x 20 c hc) 200 (by omega) (by omega)).1,yM]
 have e1:decide ((bw l:Int)<=200)=decide (bw l<=200):=decide_eq_decide.2 (by omega)
 rw [e1]
 cases h:decide (bw l<=200) with
 |false=>simp
 |true =>
  rw [DU l (of_decide_eq_true h)]
  cases mK l<;>simp
section
variable {w0:World}{ρ:Hd}
theorem Q0 (nX:∀ s:ByteArray,ah Tryz.prog w0 280 [.v (.string s)] (.v (.bool (ju s)))) (x:Tm) (hx:x.ok):ah Tryz.prog w0 136 [tm ρ x] (.v (.bool (eY x))):=by
 have bC:=CJ (ρ:=ρ) nX x 20 200 hx (by omega) (by omega) (by omega) (by omega)
 have hr:=QZ x
 obtain⟨⟨b,c1⟩,mU⟩:∃ p,p=a6 x 20 200:=⟨_,rfl⟩
 rw [<-mU] at bC hr
 simp only at bC hr
 rw [<-hr]
 clear hr mU nX
 refine ado.bu (by simp [Tryz.ntmps136]) (.v) ?_
 refine gq Z0 ?_
 repeat' (first
  |((refine aa.bif rfl (ae.ou (m:=[(0,1)]) (to:=[(1,some (fF c1))]) bC rfl ⟨Rn.pt rfl rfl,Rn.pure (cK _),Rn.pure .v,trivial⟩ (Rb.pure .v) rfl rfl ⟨⟨_,rfl,jY.pure (iE _)⟩,trivial⟩ ⟨⟨0,_,rfl,rfl,kE.pure (iE _)⟩,trivial⟩ rfl (by repeat (first|exact (fun _ _ h=>by cases h)|refine ph ?_ rfl)) (.inr rfl)) (fun hb=>?_) (fun hb=>?_)<;>refine gq Z0 ?_))
  |(refine fq ?_))
 all_goals (refine eQ ?_;rw [hb])
theorem Q1 (nX:∀ s:ByteArray,ah Tryz.prog w0 280 [.v (.string s)] (.v (.bool (ju s)))) (x:At) (hx:x.ok) (hn:x.n.size<=1099511627776):ah Tryz.prog w0 89 [at_ ρ x] (.v (.bool (pO x))):=by
 obtain⟨n,a⟩:=x
 obtain⟨hl,hk⟩:=hx
 dsimp only at hl hk hn
 have bC:=ud (w0:=w0) (ρ:=ρ) (a:=a) 20 (fun y hy c' h0 h1=>⟨(fY y _ _ h0).1,(fY y _ _ h0).2,CJ (ρ:=ρ) nX y 20 c' (hk.mem y hy) h0 h1 (by omega) (by omega)⟩) hl 200 (by omega) (by omega)
 have hr:=DV a
 obtain⟨⟨b,c1⟩,mU⟩:∃ p,p=cw a 20 200:=⟨_,rfl⟩
 rw [<-mU] at bC hr
 simp only at bC hr
 have hL:decide (a.length<=6)=decide ((a.length:Int)<=6):=decide_eq_decide.2 (by omega)
 rw [pO,hL,<-hr]
 clear hr mU nX
 refine ajQ.bu (by simp [Tryz.ntmps89]) (.v) ?_
 refine gq Oz ?_
 repeat' (first
  |(refine aa.bif rfl (ae.aL rfl (tY _ hn) ⟨.v,trivial⟩) (fun _=>?_) (fun _=>?_)<;>refine gq Oz ?_)
  |((refine aa.bif rfl (ae.ou (m:=[(0,1)]) (to:=[(1,some (fF c1))]) bC rfl ⟨Rn.pt rfl rfl,Rn.pure (bl _),Rn.pure .v,trivial⟩ (Rb.pure .v) rfl rfl ⟨⟨_,rfl,jY.pure (iE _)⟩,trivial⟩ ⟨⟨0,_,rfl,rfl,kE.pure (iE _)⟩,trivial⟩ rfl (by repeat (first|exact (fun _ _ h=>by cases h)|refine ph ?_ rfl)) (.inr rfl)) (fun hb=>?_) (fun hb=>?_)<;>refine gq Oz ?_))
  |(refine bq (fun hb=>?_) (fun hb=>?_)<;>(try simp only [aM] at hb)<;>(first|refine gq Oz ?_))
  |(refine bL fun m hm=>?_;(try rw [aF] at hm);refine gq Oz ?_)
  |(refine fq ?_))
 all_goals (clear bC;refine eQ ?_;subst_vars;simp_all<;>(intros;omega))
end
end
end Go.Proofs.YtgjfgekaclobaaaGreat
