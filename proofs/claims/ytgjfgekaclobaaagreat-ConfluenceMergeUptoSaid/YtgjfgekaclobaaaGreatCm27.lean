import Derived.Test.YtgjfgekaclobaaaGreatCm26
namespace Go.Proofs.YtgjfgekaclobaaaGreat
set_option linter.unusedVariables false
set_option linter.unusedSimpArgs false
open Go.RowKit
theorem Ll (x:Tm):1<=nL x:=by rw [Ed];omega
theorem xK (d:Int):∀ (l:List Tm) (h:∀ x ∈ l,∀ c,0<=c->((aO x d c).1=(ml x && decide ((fB x:Int)<=c) && decide ((nL x:Int)<=d)))/\((aO x d c).1=true->(aO x d c).2=c - fB x)) (c:Int),0<=c->0<=d ->
  ((bN l d c).1=(pH l && decide ((fW l:Int)<=c) && decide ((mj l:Int)<=d)))/\((bN l d c).1=true->(bN l d c).2=c - fW l)
 |[],h,c,hc,hd=>by
  rw [bN,pH,fW,mj]
  exact⟨by simp [hc,hd],fun _=>by simp⟩
 |x::l,h,c,hc,hd=>by
  obtain⟨h1,h2⟩:=h x (by simp) c hc
  rw [bN,pH,fW,mj]
  cases hv:(aO x d c).1 with
  |false =>
   rw [hv] at h1
   rw [if_neg (by simp)]
   refine⟨?_,fun h=>by cases h⟩
   show false=_
   cases hf:ml x<;>cases hg:pH l<;>simp only [hf,Bool.true_and,Bool.false_and,Bool.and_false,Bool.and_true] at h1 ⊢
   all_goals try rfl
   symm
   replace h1:=h1.symm
   rw [Bool.and_eq_false_iff,decide_eq_false_iff_not,decide_eq_false_iff_not] at h1 ⊢
   omega
  |true =>
   rw [if_pos rfl]
   have h3:=h2 hv
   rw [hv] at h1
   have h4:ml x=true/\(fB x:Int)<=c/\(nL x:Int)<=d:=by
    have:=h1.symm
    rw [Bool.and_eq_true,Bool.and_eq_true,decide_eq_true_eq,decide_eq_true_eq] at this
    exact⟨this.1.1,this.1.2,this.2⟩
   obtain⟨h5,h6⟩:=xK d l (fun y hy=>h y (by simp [hy])) (c - fB x) (by omega) hd
   rw [h3]
   refine⟨?_,fun h=>by rw [h6 h];push_cast;omega⟩
   rw [h5,h4.1,Bool.true_and]
   have e1:decide ((fW l:Int)<=c - fB x)=decide (((fB x+fW l:Nat):Int)<=c):=decide_eq_decide.2 (by omega)
   have e2:decide ((mj l:Int)<=d)=decide (((max (nL x) (mj l):Nat):Int)<=d):=decide_eq_decide.2 (by omega)
   rw [e1,e2]
theorem Lm (x:Tm):∀ (d c:Int),0<=c->((aO x d c).1=(ml x && decide ((fB x:Int)<=c) && decide ((nL x:Int)<=d)))/\((aO x d c).1=true->(aO x d c).2=c - fB x):=by
 refine Tm.ind (p:=fun x=>∀ (d c:Int),0<=c->((aO x d c).1=(ml x && decide ((fB x:Int)<=c) && decide ((nL x:Int)<=d)))/\((aO x d c).1=true->(aO x d c).2=c - fB x)) ?_ x
 intro k i n a ih d c hc
 have hs:=Js ⟨k,i,n,a⟩
 have hd:=Ll ⟨k,i,n,a⟩
 have mM:=BL ⟨k,i,n,a⟩
 have fC:=Ed ⟨k,i,n,a⟩
 by_cases h0:c - 1 < 0\/d < 1
 ·rw [aO,if_pos h0]
  refine⟨?_,fun h=>by cases h⟩
  show false=_
  symm
  rw [Bool.and_eq_false_iff,Bool.and_eq_false_iff,decide_eq_false_iff_not,decide_eq_false_iff_not]
  rcases h0 with h|h
  ·exact .inl (.inr (by omega))
  ·exact .inr (by omega)
 have hA:=xK (d - 1) a (fun y hy c hc=>ih y hy (d - 1) c hc) (c - 1)
 by_cases h2:k=2
 ·subst h2
  have e:wE ⟨2,i,n,a⟩=a:=rfl
  rw [e] at mM fC
  obtain⟨h5,h6⟩:=hA (by omega) (by omega)
  rw [mM,fC,aO,if_neg h0,if_neg (by decide:¬ (2:Int)=0),if_neg (by decide:¬ (2:Int)=1),if_pos (rfl:(2:Int)=2),ml,if_neg (by decide:¬ (2:Int)=0),if_neg (by decide:¬ (2:Int)=1),if_pos (rfl:(2:Int)=2)]
  have e1:decide ((fW a:Int)<=c - 1)=decide (((1+fW a:Nat):Int)<=c):=decide_eq_decide.2 (by omega)
  have e2:decide ((mj a:Int)<=d - 1)=decide (((1+mj a:Nat):Int)<=d):=decide_eq_decide.2 (by omega)
  rw [e1,e2] at h5
  split
  ·rename_i hz
   refine⟨?_,fun h=>by cases h⟩
   show false=_
   symm
   have:(i == 0 && (ir n && a.length == 2 || pG n && decide (a.length<=6)))=false:=by
    cases ho:ir n<;>cases hn:pG n<;>simp<;>omega
   rw [this];rfl
  ·rename_i hz
   have hi:i=0:=by omega
   have hl:a.length<=6:=by omega
   split
   ·rename_i hw
    refine⟨?_,fun h=>by rw [h6 h];push_cast;omega⟩
    rw [h5]
    have:(i == 0 && (ir n && a.length == 2 || pG n && decide (a.length<=6)))=true:=by
     subst hi
     rw [decide_eq_true hl,Bool.and_true,Bool.or_comm]
     exact hw
    rw [this,Bool.true_and]
   ·rename_i hw
    refine⟨?_,fun h=>by cases h⟩
    show false=_
    symm
    have:(ir n && a.length == 2 || pG n && decide (a.length<=6))=false:=by
     rw [decide_eq_true hl,Bool.and_true,Bool.or_comm]
     simpa using hw
    rw [this,Bool.and_false];rfl
 ·have e:wE ⟨k,i,n,a⟩=[]:=by rw [wE,if_neg h2]
  rw [e,fW] at mM
  rw [e,mj] at fC
  have e1:decide (((1+0:Nat):Int)<=c)=true:=decide_eq_true (by omega)
  have e2:decide (((1+0:Nat):Int)<=d)=true:=decide_eq_true (by omega)
  rw [mM,fC,e1,e2,Bool.and_true,Bool.and_true,aO,if_neg h0,ml,if_neg h2]
  refine⟨?_,?_⟩
  ·(repeat' split)<;>rfl
  ·intro _
   (repeat' split)<;>(show c - 1=_;omega)
theorem Ln (x:Tm):(aO x 20 200).1=eM x:=by
 rw [(Lm x 20 200 (by omega)).1,eM]
 have e1:decide ((fB x:Int)<=200)=decide (fB x<=200):=decide_eq_decide.2 (by omega)
 have e2:decide ((nL x:Int)<=20)=decide (nL x<=20):=decide_eq_decide.2 (by omega)
 rw [e1,e2]
section
set_option maxRecDepth 100000
attribute [local irreducible] av aE ad ab
def N6:CF Tryz.f136:=⟨_,by conv=>lhs;cbv⟩
theorem UQ:bQ Tryz.prog 136 N6.1 Tryz.f136.ntmps:=fh Tryz.func136 N6.2 Tryz.call136
def rM:List Nat:=[2,0,3,1]
section
variable {w0:World}{ρ:Hd}
theorem Lo (mn:∀ s:ByteArray,av Tryz.prog w0 280 [.v (.string s)] (.v (.bool (ir s)))) (x:Tm) (hx:x.ok):av Tryz.prog w0 136 [tm ρ x] (.v (.bool (eM x))):=by
 have cA:=QU (ρ:=ρ) mn x 20 200 hx (by omega) (by omega) (by omega) (by omega)
 have hr:=Ln x
 obtain⟨⟨b,c1⟩,n0⟩:∃ p,p=aO x 20 200:=⟨_,rfl⟩
 rw [<-n0] at cA hr
 simp only at cA hr
 rw [<-hr]
 clear hr n0 mn
 refine UQ.eQ (by simp [Tryz.ntmps136]) (.v) ?_
 refine gq rM ?_
 repeat' (first
  |((refine ab.bif rfl (ad.rF (m:=[(0,1)]) (to:=[(1,some (en c1))]) cA rfl ⟨Rn.pt rfl rfl,Rn.pure (dN _),Rn.pure .v,trivial⟩ (Rb.pure .v) rfl rfl ⟨⟨_,rfl,kJ.pure (fN _)⟩,trivial⟩ ⟨⟨0,_,rfl,rfl,l_.pure (fN _)⟩,trivial⟩ rfl (by repeat (first|exact lU rfl|exact (fun _ _ h=>by cases h)|refine qI ?_ rfl)) (.inr rfl)) (fun hb=>?_) (fun hb=>?_)<;>refine gq rM ?_))
  |(refine bq (fun hb=>?_) (fun hb=>?_)<;>(try simp only [bS] at hb)<;>(first|exact absurd hb (by decide)|refine gq rM ?_))
  |(refine bK fun m hm=>?_;(try rw [aF] at hm);refine gq rM ?_)
  |(refine bH fun _ _=>?_;refine gq rM ?_)
  |(refine dx fun _ _=>?_;refine gq rM ?_)
  |(refine ab.str rfl (ad.cat rfl rfl (by assumption)) fun _ _=>?_;refine gq rM ?_)
  |(refine ab.bh ?_;refine gq rM ?_)
  |(refine ab.bO ?_;refine gq rM ?_)
  |(refine fq ?_))
 all_goals (refine su ?_;rw [hb])
end
end
end Go.Proofs.YtgjfgekaclobaaaGreat
