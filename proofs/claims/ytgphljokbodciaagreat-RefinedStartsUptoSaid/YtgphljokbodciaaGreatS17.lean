import Derived.Test.YtgphljokbodciaaGreatS16
namespace Go.Proofs.YtgphljokbodciaaGreat
set_option linter.unusedVariables false
set_option linter.unusedSimpArgs false
open Go.RowKit
theorem MP (x:Tm):1<=kc x:=by rw [Aa];omega
theorem tT (d:Int):∀ (l:List Tm) (h:∀ x ∈ l,∀ c,0<=c->((bu x d c).1=(g_ x && decide ((cQ x:Int)<=c) && decide ((kc x:Int)<=d)))/\((bu x d c).1=true->(bu x d c).2=c - cQ x)) (c:Int),0<=c->0<=d ->
  ((cz l d c).1=(js l && decide ((bj l:Int)<=c) && decide ((fI l:Int)<=d)))/\((cz l d c).1=true->(cz l d c).2=c - bj l)
 |[],h,c,hc,hd=>by
  rw [cz,js,bj,fI]
  exact⟨by simp [hc,hd],fun _=>by simp⟩
 |x::l,h,c,hc,hd=>by
  obtain⟨h1,h2⟩:=h x (by simp) c hc
  rw [cz,js,bj,fI]
  cases hv:(bu x d c).1 with
  |false =>
   rw [hv] at h1
   rw [if_neg (by simp)]
   refine⟨?_,fun h=>by cases h⟩
   show false=_
   cases hf:g_ x<;>cases hg:js l<;>simp only [hf,Bool.true_and,Bool.false_and,Bool.and_false,Bool.and_true] at h1 ⊢
   all_goals try rfl
   symm
   replace h1:=h1.symm
   rw [Bool.and_eq_false_iff,decide_eq_false_iff_not,decide_eq_false_iff_not] at h1 ⊢
   omega
  |true =>
   rw [if_pos rfl]
   have h3:=h2 hv
   rw [hv] at h1
   have h4:g_ x=true/\(cQ x:Int)<=c/\(kc x:Int)<=d:=by
    have:=h1.symm
    rw [Bool.and_eq_true,Bool.and_eq_true,decide_eq_true_eq,decide_eq_true_eq] at this
    exact⟨this.1.1,this.1.2,this.2⟩
   obtain⟨h5,h6⟩:=tT d l (fun y hy=>h y (by simp [hy])) (c - cQ x) (by omega) hd
   rw [h3]
   refine⟨?_,fun h=>by rw [h6 h];push_cast;omega⟩
   rw [h5,h4.1,Bool.true_and]
   have e1:decide ((bj l:Int)<=c - cQ x)=decide (((cQ x+bj l:Nat):Int)<=c):=decide_eq_decide.2 (by omega)
   have e2:decide ((fI l:Int)<=d)=decide (((max (kc x) (fI l):Nat):Int)<=d):=decide_eq_decide.2 (by omega)
   rw [e1,e2]
theorem C3 (x:Tm):∀ (d c:Int),0<=c->((bu x d c).1=(g_ x && decide ((cQ x:Int)<=c) && decide ((kc x:Int)<=d)))/\((bu x d c).1=true->(bu x d c).2=c - cQ x):=by
 refine Tm.ind (p:=fun x=>∀ (d c:Int),0<=c->((bu x d c).1=(g_ x && decide ((cQ x:Int)<=c) && decide ((kc x:Int)<=d)))/\((bu x d c).1=true->(bu x d c).2=c - cQ x)) ?_ x
 intro k i n a ih d c hc
 have hs:=mZ ⟨k,i,n,a⟩
 have hd:=MP ⟨k,i,n,a⟩
 have Fy:=tS ⟨k,i,n,a⟩
 have ey:=Aa ⟨k,i,n,a⟩
 by_cases h0:c - 1 < 0\/d < 1
 ·rw [bu,if_pos h0]
  refine⟨?_,fun h=>by cases h⟩
  show false=_
  symm
  rw [Bool.and_eq_false_iff,Bool.and_eq_false_iff,decide_eq_false_iff_not,decide_eq_false_iff_not]
  rcases h0 with h|h
  ·exact .inl (.inr (by omega))
  ·exact .inr (by omega)
 have hA:=tT (d - 1) a (fun y hy c hc=>ih y hy (d - 1) c hc) (c - 1)
 by_cases h2:k=2
 ·subst h2
  have e:j_ ⟨2,i,n,a⟩=a:=rfl
  rw [e] at Fy ey
  obtain⟨h5,h6⟩:=hA (by omega) (by omega)
  rw [Fy,ey,bu,if_neg h0,if_neg (by decide:¬ (2:Int)=0),if_neg (by decide:¬ (2:Int)=1),if_pos (rfl:(2:Int)=2),g_,if_neg (by decide:¬ (2:Int)=0),if_neg (by decide:¬ (2:Int)=1),if_pos (rfl:(2:Int)=2)]
  have e1:decide ((bj a:Int)<=c - 1)=decide (((1+bj a:Nat):Int)<=c):=decide_eq_decide.2 (by omega)
  have e2:decide ((fI a:Int)<=d - 1)=decide (((1+fI a:Nat):Int)<=d):=decide_eq_decide.2 (by omega)
  rw [e1,e2] at h5
  split
  ·rename_i hz
   refine⟨?_,fun h=>by cases h⟩
   show false=_
   symm
   have:(i == 0 && (gL n && a.length == 2 || gJ n && decide (a.length<=6)))=false:=by
    cases ho:gL n<;>cases hn:gJ n<;>simp<;>omega
   rw [this];rfl
  ·rename_i hz
   have hi:i=0:=by omega
   have hl:a.length<=6:=by omega
   split
   ·rename_i hw
    refine⟨?_,fun h=>by rw [h6 h];push_cast;omega⟩
    rw [h5]
    have:(i == 0 && (gL n && a.length == 2 || gJ n && decide (a.length<=6)))=true:=by
     subst hi
     rw [decide_eq_true hl,Bool.and_true,Bool.or_comm]
     exact hw
    rw [this,Bool.true_and]
   ·rename_i hw
    refine⟨?_,fun h=>by cases h⟩
    show false=_
    symm
    have:(gL n && a.length == 2 || gJ n && decide (a.length<=6))=false:=by
     rw [decide_eq_true hl,Bool.and_true,Bool.or_comm]
     simpa using hw
    rw [this,Bool.and_false];rfl
 ·have e:j_ ⟨k,i,n,a⟩=[]:=by rw [j_,if_neg h2]
  rw [e,bj] at Fy
  rw [e,fI] at ey
  have e1:decide (((1+0:Nat):Int)<=c)=true:=decide_eq_true (by omega)
  have e2:decide (((1+0:Nat):Int)<=d)=true:=decide_eq_true (by omega)
  rw [Fy,ey,e1,e2,Bool.and_true,Bool.and_true,bu,if_neg h0,g_,if_neg h2]
  refine⟨?_,?_⟩
  ·(repeat' split)<;>rfl
  ·intro _
   (repeat' split)<;>(show c - 1=_;omega)
theorem MQ (x:Tm):(bu x 20 200).1=gX x:=by
 rw [(C3 x 20 200 (by omega)).1,gX]
 have e1:decide ((cQ x:Int)<=200)=decide (cQ x<=200):=decide_eq_decide.2 (by omega)
 have e2:decide ((kc x:Int)<=20)=decide (kc x<=20):=decide_eq_decide.2 (by omega)
 rw [e1,e2]
section
set_option maxRecDepth 100000
attribute [local irreducible] ah aV ad ab
def PW:CF Tryz.f238:=⟨_,by conv=>lhs;cbv⟩
theorem ZK:aD Tryz.prog 238 PW.1 Tryz.f238.ntmps:=aO Tryz.func238 PW.2 Tryz.call238
def Vk:List Nat:=[2,0,3,1]
def PX:CF Tryz.f203:=⟨_,by conv=>lhs;cbv⟩
theorem ZL:aD Tryz.prog 203 PX.1 Tryz.f203.ntmps:=aO Tryz.func203 PX.2 Tryz.call203
def C4:List Nat:=[1,2,0,3]
theorem Ba:∀ l:List Tm,bj l<=200->l.all gX=(js l && decide ((fI l:Int)<=20))
 |[],_=>by rw [js,fI];rfl
 |x::l,h=>by
  rw [bj] at h
  rw [List.all_cons,Ba l (by omega),js,fI,gX]
  have e1:decide (cQ x<=200)=true:=decide_eq_true (by omega)
  have e2:decide (((max (kc x) (fI l):Nat):Int)<=20)=(decide (kc x<=20) && decide ((fI l:Int)<=20)):=by
   rw [Bool.eq_iff_iff,Bool.and_eq_true];simp only [decide_eq_true_eq];omega
  rw [e1,e2]
  cases g_ x<;>cases js l<;>cases decide (kc x<=20)<;>simp
theorem Bb (l:List Tm):(cz l 20 200).1=lP l:=by
 rw [(tT 20 l (fun x _ c hc=>C3 x 20 c hc) 200 (by omega) (by omega)).1,lP]
 have e1:decide ((bj l:Int)<=200)=decide (bj l<=200):=decide_eq_decide.2 (by omega)
 rw [e1]
 cases h:decide (bj l<=200) with
 |false=>simp
 |true =>
  rw [Ba l (of_decide_eq_true h)]
  cases js l<;>simp
section
variable {w0:World}{ρ:Hd}
theorem MR (m5:∀ s:ByteArray,ah Tryz.prog w0 447 [.v (.string s)] (.v (.bool (gL s)))) (x:Tm) (hx:x.ok):ah Tryz.prog w0 238 [tm ρ x] (.v (.bool (gX x))):=by
 have bL:=Af (ρ:=ρ) m5 x 20 200 hx (by omega) (by omega) (by omega) (by omega)
 have hr:=MQ x
 obtain⟨⟨b,c1⟩,lY⟩:∃ p,p=bu x 20 200:=⟨_,rfl⟩
 rw [<-lY] at bL hr
 simp only at bL hr
 rw [<-hr]
 clear hr lY m5
 refine ZK.aH (by simp [Tryz.ntmps238]) (.v) ?_
 refine gq Vk ?_
 repeat' (first
  |((refine ab.bif rfl (ad.jJ (m:=[(0,1)]) (to:=[(1,some (eV c1))]) bL rfl ⟨Rn.pt rfl rfl,Rn.pure (bf _),Rn.pure .v,trivial⟩ (Rb.pure .v) rfl rfl ⟨⟨_,rfl,kF.pure (gR _)⟩,trivial⟩ ⟨⟨0,_,rfl,rfl,kY.pure (gR _)⟩,trivial⟩ rfl (by repeat (first|exact (fun _ _ h=>by cases h)|refine m4 ?_ rfl)) (.inr rfl)) (fun hb=>?_) (fun hb=>?_)<;>refine gq Vk ?_))
  |(refine fq ?_))
 all_goals (refine aI ?_;rw [hb])
theorem MS (m5:∀ s:ByteArray,ah Tryz.prog w0 447 [.v (.string s)] (.v (.bool (gL s)))) (x:At) (hx:x.ok) (hn:x.n.size<=1099511627776):ah Tryz.prog w0 203 [at_ ρ x] (.v (.bool (eu x))):=by
 obtain⟨n,a⟩:=x
 obtain⟨hl,hk⟩:=hx
 dsimp only at hl hk hn
 have bL:=s7 (w0:=w0) (ρ:=ρ) (a:=a) 20 (fun y hy c' h0 h1=>⟨(fu y _ _ h0).1,(fu y _ _ h0).2,Af (ρ:=ρ) m5 y 20 c' (hk.mem y hy) h0 h1 (by omega) (by omega)⟩) hl 200 (by omega) (by omega)
 have hr:=Bb a
 obtain⟨⟨b,c1⟩,lY⟩:∃ p,p=cz a 20 200:=⟨_,rfl⟩
 rw [<-lY] at bL hr
 simp only at bL hr
 have hL:decide (a.length<=6)=decide ((a.length:Int)<=6):=decide_eq_decide.2 (by omega)
 rw [eu,hL,<-hr]
 clear hr lY m5
 refine ZL.aH (by simp [Tryz.ntmps203]) (.v) ?_
 refine gq C4 ?_
 repeat' (first
  |(refine ab.bif rfl (ad.ag rfl (s6 _ hn) ⟨.v,trivial⟩) (fun _=>?_) (fun _=>?_)<;>refine gq C4 ?_)
  |((refine ab.bif rfl (ad.jJ (m:=[(0,1)]) (to:=[(1,some (eV c1))]) bL rfl ⟨Rn.pt rfl rfl,Rn.pure (bB _),Rn.pure .v,trivial⟩ (Rb.pure .v) rfl rfl ⟨⟨_,rfl,kF.pure (gR _)⟩,trivial⟩ ⟨⟨0,_,rfl,rfl,kY.pure (gR _)⟩,trivial⟩ rfl (by repeat (first|exact (fun _ _ h=>by cases h)|refine m4 ?_ rfl)) (.inr rfl)) (fun hb=>?_) (fun hb=>?_)<;>refine gq C4 ?_))
  |(refine bq (fun hb=>?_) (fun hb=>?_)<;>(try simp only [aq] at hb)<;>(first|refine gq C4 ?_))
  |(refine az fun m hm=>?_;(try rw [af] at hm);refine gq C4 ?_)
  |(refine fq ?_))
 all_goals (clear bL;refine aI ?_;subst_vars;simp_all<;>(intros;omega))
end
end
end Go.Proofs.YtgphljokbodciaaGreat
