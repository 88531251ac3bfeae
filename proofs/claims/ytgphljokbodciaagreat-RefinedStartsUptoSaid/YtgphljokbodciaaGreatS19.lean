import Derived.Test.YtgphljokbodciaaGreatS18
namespace Go.Proofs.YtgphljokbodciaaGreat
set_option linter.unusedVariables false
set_option linter.unusedSimpArgs false
open Go.RowKit
section
set_option maxRecDepth 100000
attribute [local irreducible] ah aV ad ab
def P_:CF Tryz.f449:=⟨_,by conv=>lhs;cbv⟩
theorem ZV:aD Tryz.prog 449 P_.1 Tryz.f449.ntmps:=aO Tryz.func449 P_.2 Tryz.call449
def kg:List Nat:=[2,17,1,4,0,9,16,18,15,6,24]
def Qa:CF Tryz.f448:=⟨_,by conv=>lhs;cbv⟩
theorem ZW:aD Tryz.prog 448 Qa.1 Tryz.f448.ntmps:=aO Tryz.func448 Qa.2 Tryz.call448
def mH:List Nat:=[6,1,5,7,3,0,15]
def Qb:CF Tryz.f354:=⟨_,by conv=>lhs;cbv⟩
theorem ZX:aD Tryz.prog 354 Qb.1 Tryz.f354.ntmps:=aO Tryz.func354 Qb.2 Tryz.call354
def afv:List Nat:=[2,0,1]
def Qc:CF Tryz.f353:=⟨_,by conv=>lhs;cbv⟩
theorem ZY:aD Tryz.prog 353 Qc.1 Tryz.f353.ntmps:=aO Tryz.func353 Qc.2 Tryz.call353
def vf:List Nat:=[5,3,4,2,0,7,8,12]
def Qd:CF Tryz.f239:=⟨_,by conv=>lhs;cbv⟩
theorem ZZ:aD Tryz.prog 239 Qd.1 Tryz.f239.ntmps:=aO Tryz.func239 Qd.2 Tryz.call239
def MX:List Nat:=[2,0,1]
def Qe:CF Tryz.f251:=⟨_,by conv=>lhs;cbv⟩
theorem Z0:aD Tryz.prog 251 Qe.1 Tryz.f251.ntmps:=aO Tryz.func251 Qe.2 Tryz.call251
def MY:List Nat:=[2,0,1]
def Qf:CF Tryz.f247:=⟨_,by conv=>lhs;cbv⟩
theorem Z1:aD Tryz.prog 247 Qf.1 Tryz.f247.ntmps:=aO Tryz.func247 Qf.2 Tryz.call247
def MZ:List Nat:=[2,0,1]
mutual
def dh:Tm->List Int
 |⟨k,i,n,a⟩=>if k=1 then [i] else if k=2 then aY a else []
def aY:List Tm->List Int
 |[]=>[]
 |x::l=>dh x++aY l
end
def bF (s:List Int):List Int->List Int
 |[]=>[]
 |x::l=>if s.contains x then bF s l else x::bF (s++[x]) l
theorem eW {a:List Tm}{k:Nat}{y:Tm}(h:a.drop k=y::a.drop (k+1)):aY (a.drop k)=dh y++aY (a.drop (k+1)):=by rw [h,aY]
theorem wB {J:iX}{m:List (Nat × Nat)}(h0:bX m 0=0):∀ k J1,iS [(0,.fo J)] k=some (.fo J1)->∃ j,j < 1/\bX m j=k:=fun k J1 h=>by
 have:=jq h
 simp at this
 exact⟨0,by omega,by rw [h0];exact this.1.symm⟩
theorem KF {m:List (Nat × Nat)}{f:Nat->Option Ob}{d:Nat}{a:Option Ob}(h:∀ k J,f k=some (.fo J)->∃ j,j < 1/\bX m j=k) (ha:(∀ J,a ≠ some (.fo J))\/bX m 0=d):∀ k J,bP f d a k=some (.fo J)->∃ j,j < 1/\bX m j=k:=fun k J hk=>by
 by_cases e:k=d
 ·subst e
  rw [aG] at hk
  rcases ha with ha|ha
  ·exact absurd hk (ha J)
  ·exact⟨0,by omega,ha⟩
 ·rw [aN _ _ e] at hk;exact h k J hk
section
variable {w0:World}{ρ:Hd}
theorem KG (x:Tm):∀ (J:iX) (b:Bool) (J':iX),x.ok->Ys Tryz.prog w0 J ((dh x).map bJ) b J' ->
  aV Tryz.prog w0 449 [tm ρ x,.yl 0] (aE [(0,.fo J)] 1) (.v (.bool b)) (aE [(0,.fo J')] 1):=by
 refine Tm.ind (p:=fun x=>∀ (J:iX) (b:Bool) (J':iX),x.ok->Ys Tryz.prog w0 J ((dh x).map bJ) b J' ->
  aV Tryz.prog w0 449 [tm ρ x,.yl 0] (aE [(0,.fo J)] 1) (.v (.bool b)) (aE [(0,.fo J')] 1)) ?_ x
 intro k i n a ih J b J' hx hy
 obtain⟨db,eH,eM⟩:=hx.out
 dsimp only at db eH eM
 have hA:=Ve (w0:=w0) (ρ:=ρ) ⟨k,i,n,a⟩
 rw [j_] at hA
 dsimp only at hA
 refine aD.dw 1 1 _ ZV (by simp [Tryz.ntmps449]) rfl rfl ?_
 refine gq kg ?_
 rw [dh] at hy
 by_cases hk:k=1
 ·subst hk
  have h1:=hy.one
  repeat' (first
   |((refine ab.op rfl (ad.yl rfl rfl (h1 _ 0 rfl)) ?_;refine gq kg ?_))
   |(refine bq (fun hb=>?_) (fun hb=>?_)<;>(try simp only [aq] at hb)<;>(first|exact absurd hb (by decide)|refine gq kg ?_))
   |(refine fq ?_))
  exact⟨[],.aC .v,⟨.inl ⟨_,rfl,.same trivial⟩,trivial⟩,rfl⟩
 rw [if_neg hk] at hy
 obtain⟨a',cC⟩:∃ a',a'=if k=2 then a else []:=⟨_,rfl⟩
 rw [<-cC] at hA
 have KH:Ys Tryz.prog w0 J ((aY a').map bJ) b J':=by
  rw [cC]
  split at hy
  ·rw [if_pos (by assumption)];exact hy
  ·rw [if_neg (by assumption),aY];exact hy
 have hl:a'.length<=1099511627776:=by
  rw [cC]
  split
  ·omega
  ·simp
 have eR:∀ y ∈ a',y ∈ a:=by
  intro y hy
  rw [cC] at hy
  split at hy
  ·exact hy
  ·cases hy
 clear hy cC
 repeat' (first
  |(refine ab.op rfl (ad.ag rfl hA ⟨bf (ρ:=ρ) ⟨k,i,n,a⟩,trivial⟩) ?_;refine gq kg ?_)
  |(refine bq (fun hb=>?_) (fun hb=>?_)<;>(try simp only [aq] at hb)<;>(first|refine gq kg ?_))
  |(refine az fun m hm=>?_;(try rw [af] at hm);refine gq kg ?_)
  )
 ·exact absurd (by assumption) hk
 refine ab.aP (σ:=Int × iX) 2 2 [] (fun p=>[(1,.yl 0),(15,tl ρ a'),(16,.v (.int .i64 m)),(17,.v (.int .i64 p.1))]) [] (fun p=>[(0,.fo p.2)])
  (fun p=>∃ k:Nat,p.1=k/\k<=a'.length/\Ys Tryz.prog w0 p.2 ((aY (a'.drop k)).map bJ) b J') (fun p=>a'.length - p.1.toNat) (0,J) ⟨0,rfl,by simp,by simpa using KH⟩ rfl
  ⟨⟨.aC rfl (.yl (by decide)),.aC rfl (Pure.bM (bB _)),.aC rfl .v,.aC rfl .v,trivial⟩,rfl,⟨.inl ⟨_,rfl,.same trivial⟩,trivial⟩,rfl,rfl,rfl⟩ ?_
 rintro⟨i,J⟩ ⟨k,hi,hk,hp⟩
 simp only at hi hp
 clear KH
 refine gq kg ?_
 by_cases au:k < a'.length
 ·obtain⟨y,eC,cT⟩:=aA au
  rw [eW cT,List.map_append] at hp
  rcases hp.split with ⟨gj,h1⟩|⟨J1,h1,h2⟩
  ·subst gj
   have bL:=ih y (eR y (aZ eC)) _ _ _ (eM.mem y (eR y (aZ eC))) h1
   repeat' (first
    |(refine ab.op rfl (ad.ind rfl rfl (fL (l:=a') hi eC) fM) ?_;refine gq kg ?_)
    |((refine ab.op rfl (ad.jJ (m:=[(0,0)]) (to:=[(0,some (.fo J'))]) bL rfl ⟨Rn.pure (bf _),Rn.yl rfl rfl,trivial⟩ (Rb.pure .v) rfl rfl ⟨⟨_,rfl,kF.fo⟩,trivial⟩ ⟨⟨0,_,rfl,rfl,kY.fo⟩,trivial⟩ rfl (by repeat (first|exact f_ rfl|refine m4 ?_ rfl)) (.inl (by repeat (first|exact wB rfl|refine KF ?_ (.inl fun J h=>by cases h))))) ?_;refine gq kg ?_))
    |(refine bq (fun hb=>?_) (fun hb=>?_)<;>(try simp only [aq] at hb)<;>(first|refine gq kg ?_))
    |(refine ab.ao ?_;refine gq kg ?_)
    |(refine ab.bK ?_;refine gq kg ?_)
    |(refine fq ?_))
   all_goals first
    |exact⟨[],.aC .v,⟨.inl ⟨_,rfl,.same trivial⟩,trivial⟩,rfl⟩
    |(exfalso;omega)
  ·have bL:=ih y (eR y (aZ eC)) _ _ _ (eM.mem y (eR y (aZ eC))) h1
   repeat' (first
    |(refine ab.op rfl (ad.ind rfl rfl (fL (l:=a') hi eC) fM) ?_;refine gq kg ?_)
    |((refine ab.op rfl (ad.jJ (m:=[(0,0)]) (to:=[(0,some (.fo J1))]) bL rfl ⟨Rn.pure (bf _),Rn.yl rfl rfl,trivial⟩ (Rb.pure .v) rfl rfl ⟨⟨_,rfl,kF.fo⟩,trivial⟩ ⟨⟨0,_,rfl,rfl,kY.fo⟩,trivial⟩ rfl (by repeat (first|exact f_ rfl|refine m4 ?_ rfl)) (.inl (by repeat (first|exact wB rfl|refine KF ?_ (.inl fun J h=>by cases h))))) ?_;refine gq kg ?_))
    |(refine bq (fun hb=>?_) (fun hb=>?_)<;>(try simp only [aq] at hb)<;>(first|refine gq kg ?_))
    |(refine aS fun _ _=>?_;refine gq kg ?_)
    |(refine ab.ao ?_;refine gq kg ?_)
    |(refine fq ?_))
   all_goals first
    |(exfalso;omega)
    |(refine ab.aK (σ:=Int × iX) (_,J1) [] ?_ ?_ ⟨⟨.aC rfl (.yl (by decide)),.aC rfl (Pure.bM (bB _)),.aC rfl .v,.aC rfl .v,trivial⟩,rfl,⟨.inl ⟨_,rfl,.same trivial⟩,trivial⟩,rfl,rfl,rfl⟩
      ·exact⟨k+1,by simp only;omega,by omega,h2⟩
      ·simp only;omega)
 ·rw [List.drop_eq_nil_of_le (by omega),aY] at hp
  obtain⟨rfl,rfl⟩:=hp.He
  repeat' (first
   |(refine bq (fun hb=>?_) (fun hb=>?_)<;>(try simp only [aq] at hb)<;>(first|refine gq kg ?_))
   |(refine ab.ao ?_;refine gq kg ?_)
   |(refine fq ?_))
  all_goals first
   |(exfalso;omega)
   |exact⟨[],.aC .v,⟨.inl ⟨_,rfl,.same trivial⟩,trivial⟩,rfl⟩
theorem TJ (l:List Tm) (hl:l.length<=1099511627776) (hk:er l):Iter Tryz.prog w0 448 [] [.ip [tl ρ l]] ((aY l).map bJ):=by
 intro J b J' hy
 refine⟨.bc [],aE [(0,.fo J')] 1,?_,rfl⟩
 refine aD.dw 1 1 _ ZW (by simp [Tryz.ntmps448]) rfl rfl ?_
 refine gq mH ?_
 repeat' (first
  |(refine az fun m hm=>?_;(try rw [af] at hm);refine gq mH ?_)
  )
 refine ab.aP (σ:=Int × iX) 1 1 [] (fun p=>[(0,.yl 0),(1,.ip [tl ρ l]),(5,.v (.int .i64 m)),(6,.v (.int .i64 p.1))]) [] (fun p=>[(0,.fo p.2)])
  (fun p=>∃ k:Nat,p.1=k/\k<=l.length/\Ys Tryz.prog w0 p.2 ((aY (l.drop k)).map bJ) b J') (fun p=>l.length - p.1.toNat) (0,J) ⟨0,rfl,by simp,by simpa using hy⟩ rfl
  ⟨⟨.aC rfl (.yl (by decide)),.aC rfl (Pure.bM (.ip fun a ha=>by obtain rfl:=List.mem_singleton.1 ha;exact bB _)),.aC rfl .v,.aC rfl .v,trivial⟩,rfl,⟨.inl ⟨_,rfl,.same trivial⟩,trivial⟩,rfl,rfl,rfl⟩ ?_
 rintro⟨i,J⟩ ⟨k,hi,dD,hp⟩
 simp only at hi hp
 clear hy
 refine gq mH ?_
 by_cases au:k < l.length
 ·obtain⟨y,eC,cT⟩:=aA au
  rw [eW cT,List.map_append] at hp
  rcases hp.split with ⟨gj,h1⟩|⟨J1,h1,h2⟩
  ·subst gj
   have bL:=KG (ρ:=ρ) y _ _ _ (hk.mem y (aZ eC)) h1
   repeat' (first
    |(refine ab.op rfl (ad.ind rfl rfl (fL (l:=l) hi eC) fM) ?_;refine gq mH ?_)
    |((refine ab.op rfl (ad.jJ (m:=[(0,0)]) (to:=[(0,some (.fo J'))]) bL rfl ⟨Rn.pure (bf _),Rn.yl rfl rfl,trivial⟩ (Rb.pure .v) rfl rfl ⟨⟨_,rfl,kF.fo⟩,trivial⟩ ⟨⟨0,_,rfl,rfl,kY.fo⟩,trivial⟩ rfl (by repeat (first|exact f_ rfl )) (.inl (by repeat (first|exact wB rfl )))) ?_;refine gq mH ?_))
    |(refine bq (fun hb=>?_) (fun hb=>?_)<;>(try simp only [aq] at hb)<;>(first|refine gq mH ?_))
    |(refine ab.ao ?_;refine gq mH ?_)
    |(refine ab.bK ?_;refine gq mH ?_)
    |(refine fq ?_))
   all_goals first
    |exact⟨[],.aC (.bc fun a ha=>by cases ha),⟨.inl ⟨_,rfl,.same trivial⟩,trivial⟩,rfl⟩
    |(exfalso;omega)
  ·have bL:=KG (ρ:=ρ) y _ _ _ (hk.mem y (aZ eC)) h1
   repeat' (first
    |(refine ab.op rfl (ad.ind rfl rfl (fL (l:=l) hi eC) fM) ?_;refine gq mH ?_)
    |((refine ab.op rfl (ad.jJ (m:=[(0,0)]) (to:=[(0,some (.fo J1))]) bL rfl ⟨Rn.pure (bf _),Rn.yl rfl rfl,trivial⟩ (Rb.pure .v) rfl rfl ⟨⟨_,rfl,kF.fo⟩,trivial⟩ ⟨⟨0,_,rfl,rfl,kY.fo⟩,trivial⟩ rfl (by repeat (first|exact f_ rfl )) (.inl (by repeat (first|exact wB rfl )))) ?_;refine gq mH ?_))
    |(refine bq (fun hb=>?_) (fun hb=>?_)<;>(try simp only [aq] at hb)<;>(first|refine gq mH ?_))
    |(refine aS fun _ _=>?_;refine gq mH ?_)
    |(refine ab.ao ?_;refine gq mH ?_)
    |(refine fq ?_))
   all_goals first
    |(exfalso;omega)
    |(refine ab.aK (σ:=Int × iX) (_,J1) [] ?_ ?_ ⟨⟨.aC rfl (.yl (by decide)),.aC rfl (Pure.bM (.ip fun a ha=>by obtain rfl:=List.mem_singleton.1 ha;exact bB _)),.aC rfl .v,.aC rfl .v,trivial⟩,rfl,⟨.inl ⟨_,rfl,.same trivial⟩,trivial⟩,rfl,rfl,rfl⟩
      ·exact⟨k+1,by simp only;omega,by omega,h2⟩
      ·simp only;omega)
 ·rw [List.drop_eq_nil_of_le (by omega),aY] at hp
  obtain⟨rfl,rfl⟩:=hp.He
  repeat' (first
   |(refine bq (fun hb=>?_) (fun hb=>?_)<;>(try simp only [aq] at hb)<;>(first|refine gq mH ?_))
   |(refine ab.ao ?_;refine gq mH ?_)
   |(refine fq ?_))
  all_goals first
   |(exfalso;omega)
   |exact⟨[],.aC (.bc fun a ha=>by cases ha),⟨.inl ⟨_,rfl,.same trivial⟩,trivial⟩,rfl⟩
theorem Da (l:List Tm):ah Tryz.prog w0 354 [tl ρ l] (.fn (.func 448) [] [.ip [tl ρ l]]):=by
 refine ZX.aH (by simp [Tryz.ntmps354]) ((.fn (fun a ha=>by cases ha) fun a ha=>by obtain rfl:=List.mem_singleton.1 ha;exact .ip fun b hb=>by obtain rfl:=List.mem_singleton.1 hb;exact bB _)) ?_
 refine gq afv ?_
 repeat' (first
  |(refine fq ?_))
 refine aX.fns ?_ ?_
 ·exact trivial
 ·exact⟨aX.box (cs:=[tl ρ l]) (cs':=[tl ρ l]) rfl ⟨.refl _,trivial⟩,trivial⟩
end
end
end Go.Proofs.YtgphljokbodciaaGreat
