import Derived.Test.YtbpabjmnhggajaaGreatOs23
namespace Go.Proofs.YtbpabjmnhggajaaGreat
set_option linter.unusedVariables false
set_option linter.unusedSimpArgs false
open Go.RowKit
section
set_option maxRecDepth 100000
attribute [local irreducible] ah aC af ad
def acM:FQ 232 Tryz.f232:=a_ Tryz.func232 Tryz.call232
def dI:List Nat:=[2,17,1,4,0,9,16,18,15,6,24]
def acN:FQ 231 Tryz.f231:=a_ Tryz.func231 Tryz.call231
def oO:List Nat:=[6,1,5,7,3,0,15]
def acO:FQ 190 Tryz.f190:=a_ Tryz.func190 Tryz.call190
def ahb:List Nat:=[2,0,1]
def acP:FQ 189 Tryz.f189:=a_ Tryz.func189 Tryz.call189
def zd:List Nat:=[5,3,4,2,0,7,8,12]
def acQ:FQ 129 Tryz.f129:=a_ Tryz.func129 Tryz.call129
def Sz:List Nat:=[2,0,1]
def acR:FQ 130 Tryz.f130:=a_ Tryz.func130 Tryz.call130
def SA:List Nat:=[2,0,1]
mutual
def lZ:Tm->List Int
 |⟨k,i,n,a⟩=>if k=1 then [i] else if k=2 then cN a else []
def cN:List Tm->List Int
 |[]=>[]
 |x::l=>lZ x++cN l
end
def pC (s:List Int):List Int->List Int
 |[]=>[]
 |x::l=>if s.contains x then pC s l else x::pC (s++[x]) l
theorem Bw {a:List Tm}{k:Nat}{y:Tm}(h:a.drop k=y::a.drop (k+1)):cN (a.drop k)=lZ y++cN (a.drop (k+1)):=by rw[h,cN]
theorem AR {J:eP}{m:List (Nat × Nat)}(h0:aJ m 0=0):∀ k J1,dL [(0,.fo J)] k=some (.fo J1)->∃ j,j < 1/\aJ m j=k:=fun k J1 h=>by
 have:=fg h;simp at this;exact⟨0,by omega,by grind⟩
theorem Px {m:List (Nat × Nat)}{f:Nat->Option Ob}{d:Nat}{a:Option Ob}(h:∀ k J,f k=some (.fo J)->∃ j,j < 1/\aJ m j=k) (ha:(∀ J,a ≠ some (.fo J))\/aJ m 0=d):∀ k J,a7 f d a k=some (.fo J)->∃ j,j < 1/\aJ m j=k:=fun k J hk=>by grind[az,aD]
section
variable {w0:World}{ρ:Hd}
theorem Py (x:Tm):∀ (J:eP) (b:Bool) (J':eP),x.ok->Ys Tryz.prog w0 J ((lZ x).map aP) b J' ->
  aC Tryz.prog w0 232 [tm ρ x,.yl 0] (aq [(0,.fo J)] 1) (.v (.bool b)) (aq [(0,.fo J')] 1):=by
 refine Tm.ind (p:=fun x=>∀ (J:eP) (b:Bool) (J':eP),x.ok->Ys Tryz.prog w0 J ((lZ x).map aP) b J' ->
  aC Tryz.prog w0 232 [tm ρ x,.yl 0] (aq [(0,.fo J)] 1) (.v (.bool b)) (aq [(0,.fo J')] 1)) ?_ x
 intro k i n a ih J b J' hx hy;obtain⟨ia,kN,mY⟩:=hx.out;dsimp only at ia kN mY;have hA:=Y7 (w0:=w0) (ρ:=ρ) ⟨k,i,n,a⟩;rw[oM] at hA;dsimp only at hA;refine sc 1 1 acM ?_;refine gq dI ?_;rw[lZ] at hy;by_cases hk:k=1
 ·subst hk;have h1:=hy.one
  repeat' (first
   |(refine ad.op rfl (af.yl rfl rfl (h1 _ 0 rfl)) ?_;refine gq dI ?_)
   |refine bq (fun hb=>?_) (fun hb=>?_)<;>(try simp only[bX] at hb)<;>(first|exact absurd hb (by decide)|refine gq dI ?_)
   |refine cF fun m hm=>?_;(try rw[aE] at hm);refine gq dI ?_
   |refine cz fun _ _=>?_;refine gq dI ?_
   |refine mg fun _ _=>?_;refine gq dI ?_
   |refine ad.str rfl (af.cat rfl rfl (by assumption)) fun _ _=>?_;refine gq dI ?_
   |refine ad.aH ?_;refine gq dI ?_
   |refine ad.cP ?_;refine gq dI ?_
   |(refine fq ?_))
  exact⟨[],.ao .v,⟨.inl ⟨_,rfl,.same trivial⟩,trivial⟩,rfl⟩
 rw[if_neg hk] at hy;obtain⟨a',cM⟩:∃ a',a'=if k=2 then a else []:=⟨_,rfl⟩
 rw[<-cM] at hA;have Pz:Ys Tryz.prog w0 J ((cN a').map aP) b J':=by
  rw[cM];split at hy
  ·rw[if_pos (by grind)];exact hy
  ·rw[if_neg (by grind),cN];exact hy
 have hl:a'.length<=1099511627776:=by
  rw[cM];split
  ·omega
  ·simp
 have fG:∀ y ∈ a',y ∈ a:=by
  intro y hy;rw[cM] at hy;split at hy
  ·exact hy
  ·cases hy
 clear hy cM
 repeat' (first
  |refine ad.op rfl (af.aw rfl hA ⟨aT (ρ:=ρ) ⟨k,i,n,a⟩,trivial⟩) ?_;refine gq dI ?_
  |refine bq (fun hb=>?_) (fun hb=>?_)<;>(try simp only[bX] at hb)<;>(first|exact absurd hb (by decide)|refine gq dI ?_)
  |refine cF fun m hm=>?_;(try rw[aE] at hm);refine gq dI ?_
  |refine cz fun _ _=>?_;refine gq dI ?_
  |refine mg fun _ _=>?_;refine gq dI ?_
  |refine ad.str rfl (af.cat rfl rfl (by assumption)) fun _ _=>?_;refine gq dI ?_
  |refine ad.aH ?_;refine gq dI ?_
  |refine ad.cP ?_;refine gq dI ?_
  |(refine fq ?_))
 ·exact absurd (by assumption) hk
 refine ad.bu (σ:=Int × eP) 2 2 [] (fun p=>[(1,.yl 0),(15,tl ρ a'),(16,.v (.int .i64 m)),(17,.v (.int .i64 p.1))]) [] (fun p=>[(0,.fo p.2)])
  (fun p=>∃ k:Nat,p.1=k/\k<=a'.length/\Ys Tryz.prog w0 p.2 ((cN (a'.drop k)).map aP) b J') (fun p=>a'.length - p.1.toNat) (0,J) ⟨0,rfl,by simp,by simpa using Pz⟩ rfl
  ⟨⟨.ao rfl (.yl (by decide)),.ao rfl (Pure.aV (aS _)),.ao rfl .v,.ao rfl .v,trivial⟩,rfl,⟨.inl ⟨_,rfl,.same trivial⟩,trivial⟩,rfl,rfl,rfl⟩ ?_
 rintro⟨i,J⟩ ⟨k,hi,hk,hp⟩;simp only at hi hp;clear Pz;refine gq dI ?_;by_cases aA:k < a'.length
 ·obtain⟨y,qg,px⟩:=bf aA;rw[Bw px,List.map_append] at hp;rcases hp.split with ⟨iK,h1⟩|⟨J1,h1,h2⟩
  ·subst iK;have bH:=ih y (fG y (eU qg)) _ _ _ (mY.mem y (fG y (eU qg))) h1
   repeat' (first
    |refine ad.op rfl (af.ind rfl rfl (fm (l:=a') hi qg) fp) ?_;refine gq dI ?_
    |(refine ad.op rfl (af.po (m:=[(0,0)]) (to:=[(0,some (.fo J'))]) bH rfl ⟨Rn.pure (aT _),Rn.yl rfl rfl,trivial⟩ (Rb.pure .v) rfl rfl ⟨⟨_,rfl,kP.fo⟩,trivial⟩ ⟨⟨0,_,rfl,rfl,lK.fo⟩,trivial⟩ rfl (by repeat (first|exact m8 rfl|refine qw ?_ rfl)) (.inl (by repeat (first|exact AR rfl|refine Px ?_ (.inl fun J h=>by grind))))) ?_;refine gq dI ?_)
    |refine bq (fun hb=>?_) (fun hb=>?_)<;>(try simp only[bX] at hb)<;>(first|exact absurd hb (by decide)|refine gq dI ?_)
    |refine cF fun m hm=>?_;(try rw[aE] at hm);refine gq dI ?_
    |refine cz fun _ _=>?_;refine gq dI ?_
    |refine mg fun _ _=>?_;refine gq dI ?_
    |refine ad.str rfl (af.cat rfl rfl (by assumption)) fun _ _=>?_;refine gq dI ?_
    |refine ad.aH ?_;refine gq dI ?_
    |refine ad.cP ?_;refine gq dI ?_
    |(refine fq ?_))
   all_goals first
    |exact⟨[],.ao .v,⟨.inl ⟨_,rfl,.same trivial⟩,trivial⟩,rfl⟩
    |exfalso;omega
  ·have bH:=ih y (fG y (eU qg)) _ _ _ (mY.mem y (fG y (eU qg))) h1
   repeat' (first
    |refine ad.op rfl (af.ind rfl rfl (fm (l:=a') hi qg) fp) ?_;refine gq dI ?_
    |(refine ad.op rfl (af.po (m:=[(0,0)]) (to:=[(0,some (.fo J1))]) bH rfl ⟨Rn.pure (aT _),Rn.yl rfl rfl,trivial⟩ (Rb.pure .v) rfl rfl ⟨⟨_,rfl,kP.fo⟩,trivial⟩ ⟨⟨0,_,rfl,rfl,lK.fo⟩,trivial⟩ rfl (by repeat (first|exact m8 rfl|refine qw ?_ rfl)) (.inl (by repeat (first|exact AR rfl|refine Px ?_ (.inl fun J h=>by cases h))))) ?_;refine gq dI ?_)
    |refine bq (fun hb=>?_) (fun hb=>?_)<;>(try simp only[bX] at hb)<;>(first|exact absurd hb (by decide)|refine gq dI ?_)
    |refine cF fun m hm=>?_;(try rw[aE] at hm);refine gq dI ?_
    |refine cz fun _ _=>?_;refine gq dI ?_
    |refine mg fun _ _=>?_;refine gq dI ?_
    |refine ad.str rfl (af.cat rfl rfl (by assumption)) fun _ _=>?_;refine gq dI ?_
    |refine ad.aH ?_;refine gq dI ?_
    |refine ad.cP ?_;refine gq dI ?_
    |(refine fq ?_))
   all_goals first
    |exfalso;omega
    |(refine ad.aO (σ:=Int × eP) (_,J1) [] ?_ ?_ ⟨⟨.ao rfl (.yl (by decide)),.ao rfl (Pure.aV (aS _)),.ao rfl .v,.ao rfl .v,trivial⟩,rfl,⟨.inl ⟨_,rfl,.same trivial⟩,trivial⟩,rfl,rfl,rfl⟩
      ·exact⟨k+1,by simp only;omega,by omega,h2⟩
      ·simp only;omega)
 ·rw[List.drop_eq_nil_of_le (by omega),cN] at hp;obtain⟨rfl,rfl⟩:=hp.MK
  repeat' (first
   |refine bq (fun hb=>?_) (fun hb=>?_)<;>(try simp only[bX] at hb)<;>(first|exact absurd hb (by decide)|refine gq dI ?_)
   |refine cF fun m hm=>?_;(try rw[aE] at hm);refine gq dI ?_
   |refine cz fun _ _=>?_;refine gq dI ?_
   |refine mg fun _ _=>?_;refine gq dI ?_
   |refine ad.str rfl (af.cat rfl rfl (by assumption)) fun _ _=>?_;refine gq dI ?_
   |refine ad.aH ?_;refine gq dI ?_
   |refine ad.cP ?_;refine gq dI ?_
   |(refine fq ?_))
  all_goals first
   |exfalso;omega
   |exact⟨[],.ao .v,⟨.inl ⟨_,rfl,.same trivial⟩,trivial⟩,rfl⟩
theorem Ls (l:List Tm) (hl:l.length<=1099511627776) (hk:eV l):Iter Tryz.prog w0 231 [] [.ip [tl ρ l]] ((cN l).map aP):=by
 intro J b J' hy;refine⟨.aG [],aq [(0,.fo J')] 1,?_,rfl⟩;refine sc 1 1 acN ?_;refine gq oO ?_
 repeat' (first
  |refine lg oO fun m hm=>?_
  )
 refine ad.bu (σ:=Int × eP) 1 1 [] (fun p=>[(0,.yl 0),(1,.ip [tl ρ l]),(5,.v (.int .i64 m)),(6,.v (.int .i64 p.1))]) [] (fun p=>[(0,.fo p.2)])
  (fun p=>∃ k:Nat,p.1=k/\k<=l.length/\Ys Tryz.prog w0 p.2 ((cN (l.drop k)).map aP) b J') (fun p=>l.length - p.1.toNat) (0,J) ⟨0,rfl,by simp,by simpa using hy⟩ rfl
  ⟨⟨.ao rfl (.yl (by decide)),.ao rfl (Pure.aV (.ip fun a ha=>by obtain rfl:=List.mem_singleton.1 ha;exact aS _)),.ao rfl .v,.ao rfl .v,trivial⟩,rfl,⟨.inl ⟨_,rfl,.same trivial⟩,trivial⟩,rfl,rfl,rfl⟩ ?_
 rintro⟨i,J⟩ ⟨k,hi,dP,hp⟩;simp only at hi hp;clear hy;refine gq oO ?_;by_cases aA:k < l.length
 ·obtain⟨y,qg,px⟩:=bf aA;rw[Bw px,List.map_append] at hp;rcases hp.split with ⟨iK,h1⟩|⟨J1,h1,h2⟩
  ·subst iK;have bH:=Py (ρ:=ρ) y _ _ _ (hk.mem y (eU qg)) h1
   repeat' (first
    |refine og oO (af.ind rfl rfl (fm (l:=l) hi qg) fp) ?_
    |(refine og oO (af.po (m:=[(0,0)]) (to:=[(0,some (.fo J'))]) bH rfl ⟨Rn.pure (aT _),Rn.yl rfl rfl,trivial⟩ (Rb.pure .v) rfl rfl ⟨⟨_,rfl,kP.fo⟩,trivial⟩ ⟨⟨0,_,rfl,rfl,lK.fo⟩,trivial⟩ rfl (by repeat (first|exact m8 rfl )) (.inl (by repeat (first|exact AR rfl )))) ?_)
    |refine cg oO (fun hb=>?_) fun hb=>?_
    |refine ad.aH ?_;refine gq oO ?_
    |refine ad.cP ?_;refine gq oO ?_
    |(refine fq ?_))
   all_goals first
    |exact⟨[],.ao (.aG fun a ha=>by cases ha),⟨.inl ⟨_,rfl,.same trivial⟩,trivial⟩,rfl⟩
    |exfalso;omega
  ·have bH:=Py (ρ:=ρ) y _ _ _ (hk.mem y (eU qg)) h1
   repeat' (first
    |refine og oO (af.ind rfl rfl (fm (l:=l) hi qg) fp) ?_
    |(refine og oO (af.po (m:=[(0,0)]) (to:=[(0,some (.fo J1))]) bH rfl ⟨Rn.pure (aT _),Rn.yl rfl rfl,trivial⟩ (Rb.pure .v) rfl rfl ⟨⟨_,rfl,kP.fo⟩,trivial⟩ ⟨⟨0,_,rfl,rfl,lK.fo⟩,trivial⟩ rfl (by repeat (first|exact m8 rfl )) (.inl (by repeat (first|exact AR rfl )))) ?_)
    |refine cg oO (fun hb=>?_) fun hb=>?_
    |refine ag oO fun _ _=>?_
    |refine ad.aH ?_;refine gq oO ?_
    |(refine fq ?_))
   all_goals first
    |exfalso;omega
    |(refine ad.aO (σ:=Int × eP) (_,J1) [] ?_ ?_ ⟨⟨.ao rfl (.yl (by decide)),.ao rfl (Pure.aV (.ip fun a ha=>by obtain rfl:=List.mem_singleton.1 ha;exact aS _)),.ao rfl .v,.ao rfl .v,trivial⟩,rfl,⟨.inl ⟨_,rfl,.same trivial⟩,trivial⟩,rfl,rfl,rfl⟩
      ·exact⟨k+1,by simp only;omega,by omega,h2⟩
      ·simp only;omega)
 ·rw[List.drop_eq_nil_of_le (by omega),cN] at hp;obtain⟨rfl,rfl⟩:=hp.MK
  repeat' (first
   |refine cg oO (fun hb=>?_) fun hb=>?_
   |refine ad.aH ?_;refine gq oO ?_
   |(refine fq ?_))
  all_goals first
   |exfalso;omega
   |exact⟨[],.ao (.aG fun a ha=>by cases ha),⟨.inl ⟨_,rfl,.same trivial⟩,trivial⟩,rfl⟩
theorem Ia (l:List Tm):ah Tryz.prog w0 190 [tl ρ l] (.fn (.func 231) [] [.ip [tl ρ l]]):=by
 refine st acO ahb ((.fn (fun a ha=>by grind) fun a ha=>by obtain rfl:=List.mem_singleton.1 ha;exact .ip fun b hb=>by grind[aS])) ?_
 repeat' (first
  |(refine fq ?_))
 refine aR.fns ?_ ?_
 ·exact trivial
 ·exact⟨aR.box (cs:=[tl ρ l]) (cs':=[tl ρ l]) rfl ⟨.refl _,trivial⟩,trivial⟩
end
end
end Go.Proofs.YtbpabjmnhggajaaGreat
