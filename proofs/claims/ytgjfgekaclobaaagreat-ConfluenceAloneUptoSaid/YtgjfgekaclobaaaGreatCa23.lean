import Derived.Test.YtgjfgekaclobaaaGreatCa22
namespace Go.Proofs.YtgjfgekaclobaaaGreat
set_option linter.unusedVariables false
set_option linter.unusedSimpArgs false
open Go.RowKit
section
set_option maxRecDepth 100000
attribute [local irreducible] ah aK ae aa
def Un:CF Tryz.f282:=⟨_,by conv=>lhs;cbv⟩
theorem adt:aT Tryz.prog 282 Un.1 Tryz.f282.ntmps:=bX Tryz.func282 Un.2 Tryz.call282
def kO:List Nat:=[2,17,1,4,0,9,16,18,15,6,24]
def Uo:CF Tryz.f281:=⟨_,by conv=>lhs;cbv⟩
theorem adu:aT Tryz.prog 281 Uo.1 Tryz.f281.ntmps:=bX Tryz.func281 Uo.2 Tryz.call281
def nN:List Nat:=[6,1,5,7,3,0,15]
def Up:CF Tryz.f212:=⟨_,by conv=>lhs;cbv⟩
theorem adv:aT Tryz.prog 212 Up.1 Tryz.f212.ntmps:=bX Tryz.func212 Up.2 Tryz.call212
def ajS:List Nat:=[2,0,1]
def Uq:CF Tryz.f211:=⟨_,by conv=>lhs;cbv⟩
theorem adw:aT Tryz.prog 211 Uq.1 Tryz.f211.ntmps:=bX Tryz.func211 Uq.2 Tryz.call211
def xh:List Nat:=[5,3,4,2,0,7,8,12]
def Ur:CF Tryz.f143:=⟨_,by conv=>lhs;cbv⟩
theorem adx:aT Tryz.prog 143 Ur.1 Tryz.f143.ntmps:=bX Tryz.func143 Ur.2 Tryz.call143
def Q6:List Nat:=[2,0,1]
def Us:CF Tryz.f141:=⟨_,by conv=>lhs;cbv⟩
theorem ady:aT Tryz.prog 141 Us.1 Tryz.f141.ntmps:=bX Tryz.func141 Us.2 Tryz.call141
def Q7:List Nat:=[2,0,1]
mutual
def qR:Tm->List Int
 |⟨k,i,n,a⟩=>if k=1 then [i] else if k=2 then dL a else []
def dL:List Tm->List Int
 |[]=>[]
 |x::l=>qR x++dL l
end
def pD (s:List Int):List Int->List Int
 |[]=>[]
 |x::l=>if s.contains x then pD s l else x::pD (s++[x]) l
theorem zu {a:List Tm}{k:Nat}{y:Tm}(h:a.drop k=y::a.drop (k+1)):dL (a.drop k)=qR y++dL (a.drop (k+1)):=by rw [h,dL]
theorem yP {J:iq}{m:List (Nat × Nat)}(h0:aN m 0=0):∀ k J1,dF [(0,.fo J)] k=some (.fo J1)->∃ j,j < 1/\aN m j=k:=fun k J1 h=>by
 have:=eO h
 simp at this
 exact⟨0,by omega,by rw [h0];exact this.1.symm⟩
theorem OC {m:List (Nat × Nat)}{f:Nat->Option Ob}{d:Nat}{a:Option Ob}(h:∀ k J,f k=some (.fo J)->∃ j,j < 1/\aN m j=k) (ha:(∀ J,a ≠ some (.fo J))\/aN m 0=d):∀ k J,a8 f d a k=some (.fo J)->∃ j,j < 1/\aN m j=k:=fun k J hk=>by
 by_cases e:k=d
 ·subst e
  rw [aq] at hk
  rcases ha with ha|ha
  ·exact absurd hk (ha J)
  ·exact⟨0,by omega,ha⟩
 ·rw [aC _ _ e] at hk;exact h k J hk
section
variable {w0:World}{ρ:Hd}
theorem OD (x:Tm):∀ (J:iq) (b:Bool) (J':iq),x.ok->Ys Tryz.prog w0 J ((qR x).map cM) b J' ->
  aK Tryz.prog w0 282 [tm ρ x,.yl 0] (au [(0,.fo J)] 1) (.v (.bool b)) (au [(0,.fo J')] 1):=by
 refine Tm.ind (p:=fun x=>∀ (J:iq) (b:Bool) (J':iq),x.ok->Ys Tryz.prog w0 J ((qR x).map cM) b J' ->
  aK Tryz.prog w0 282 [tm ρ x,.yl 0] (au [(0,.fo J)] 1) (.v (.bool b)) (au [(0,.fo J')] 1)) ?_ x
 intro k i n a ih J b J' hx hy
 obtain⟨iK,kD,nY⟩:=hx.out
 dsimp only at iK kD nY
 have hA:=ZU (w0:=w0) (ρ:=ρ) ⟨k,i,n,a⟩
 rw [m9] at hA
 dsimp only at hA
 refine aT.fM 1 1 _ adt (by simp [Tryz.ntmps282]) rfl rfl ?_
 refine gq kO ?_
 rw [qR] at hy
 by_cases hk:k=1
 ·subst hk
  have h1:=hy.one
  repeat' (first
   |((refine aa.op rfl (ae.yl rfl rfl (h1 _ 0 rfl)) ?_;refine gq kO ?_))
   |(refine bq (fun hb=>?_) (fun hb=>?_)<;>(try simp only [aM] at hb)<;>(first|exact absurd hb (by decide)|refine gq kO ?_))
   |(refine fq ?_))
  exact⟨[],.aB .v,⟨.inl ⟨_,rfl,.same trivial⟩,trivial⟩,rfl⟩
 rw [if_neg hk] at hy
 obtain⟨a',cz⟩:∃ a',a'=if k=2 then a else []:=⟨_,rfl⟩
 rw [<-cz] at hA
 have OE:Ys Tryz.prog w0 J ((dL a').map cM) b J':=by
  rw [cz]
  split at hy
  ·rw [if_pos (by assumption)];exact hy
  ·rw [if_neg (by assumption),dL];exact hy
 have hl:a'.length<=1099511627776:=by
  rw [cz]
  split
  ·omega
  ·simp
 have fp:∀ y ∈ a',y ∈ a:=by
  intro y hy
  rw [cz] at hy
  split at hy
  ·exact hy
  ·cases hy
 clear hy cz
 repeat' (first
  |(refine aa.op rfl (ae.aL rfl hA ⟨cK (ρ:=ρ) ⟨k,i,n,a⟩,trivial⟩) ?_;refine gq kO ?_)
  |(refine bq (fun hb=>?_) (fun hb=>?_)<;>(try simp only [aM] at hb)<;>(first|refine gq kO ?_))
  |(refine bL fun m hm=>?_;(try rw [aF] at hm);refine gq kO ?_)
  )
 ·exact absurd (by assumption) hk
 refine aa.bP (σ:=Int × iq) 2 2 [] (fun p=>[(1,.yl 0),(15,tl ρ a'),(16,.v (.int .i64 m)),(17,.v (.int .i64 p.1))]) [] (fun p=>[(0,.fo p.2)])
  (fun p=>∃ k:Nat,p.1=k/\k<=a'.length/\Ys Tryz.prog w0 p.2 ((dL (a'.drop k)).map cM) b J') (fun p=>a'.length - p.1.toNat) (0,J) ⟨0,rfl,by simp,by simpa using OE⟩ rfl
  ⟨⟨.aB rfl (.yl (by decide)),.aB rfl (Pure.b9 (bl _)),.aB rfl .v,.aB rfl .v,trivial⟩,rfl,⟨.inl ⟨_,rfl,.same trivial⟩,trivial⟩,rfl,rfl,rfl⟩ ?_
 rintro⟨i,J⟩ ⟨k,hi,hk,hp⟩
 simp only at hi hp
 clear OE
 refine gq kO ?_
 by_cases aA:k < a'.length
 ·obtain⟨y,oV,tZ⟩:=cd aA
  rw [zu tZ,List.map_append] at hp
  rcases hp.split with ⟨ku,h1⟩|⟨J1,h1,h2⟩
  ·subst ku
   have bC:=ih y (fp y (g8 oV)) _ _ _ (nY.mem y (fp y (g8 oV))) h1
   repeat' (first
    |(refine aa.op rfl (ae.ind rfl rfl (lj (l:=a') hi oV) ll) ?_;refine gq kO ?_)
    |((refine aa.op rfl (ae.ou (m:=[(0,0)]) (to:=[(0,some (.fo J'))]) bC rfl ⟨Rn.pure (cK _),Rn.yl rfl rfl,trivial⟩ (Rb.pure .v) rfl rfl ⟨⟨_,rfl,jY.fo⟩,trivial⟩ ⟨⟨0,_,rfl,rfl,kE.fo⟩,trivial⟩ rfl (by repeat (first|exact mf rfl|refine ph ?_ rfl)) (.inl (by repeat (first|exact yP rfl|refine OC ?_ (.inl fun J h=>by cases h))))) ?_;refine gq kO ?_))
    |(refine bq (fun hb=>?_) (fun hb=>?_)<;>(try simp only [aM] at hb)<;>(first|refine gq kO ?_))
    |(refine aa.aR ?_;refine gq kO ?_)
    |(refine aa.iB ?_;refine gq kO ?_)
    |(refine fq ?_))
   all_goals first
    |exact⟨[],.aB .v,⟨.inl ⟨_,rfl,.same trivial⟩,trivial⟩,rfl⟩
    |(exfalso;omega)
  ·have bC:=ih y (fp y (g8 oV)) _ _ _ (nY.mem y (fp y (g8 oV))) h1
   repeat' (first
    |(refine aa.op rfl (ae.ind rfl rfl (lj (l:=a') hi oV) ll) ?_;refine gq kO ?_)
    |((refine aa.op rfl (ae.ou (m:=[(0,0)]) (to:=[(0,some (.fo J1))]) bC rfl ⟨Rn.pure (cK _),Rn.yl rfl rfl,trivial⟩ (Rb.pure .v) rfl rfl ⟨⟨_,rfl,jY.fo⟩,trivial⟩ ⟨⟨0,_,rfl,rfl,kE.fo⟩,trivial⟩ rfl (by repeat (first|exact mf rfl|refine ph ?_ rfl)) (.inl (by repeat (first|exact yP rfl|refine OC ?_ (.inl fun J h=>by cases h))))) ?_;refine gq kO ?_))
    |(refine bq (fun hb=>?_) (fun hb=>?_)<;>(try simp only [aM] at hb)<;>(first|refine gq kO ?_))
    |(refine cr fun _ _=>?_;refine gq kO ?_)
    |(refine aa.aR ?_;refine gq kO ?_)
    |(refine fq ?_))
   all_goals first
    |(exfalso;omega)
    |(refine aa.bm (σ:=Int × iq) (_,J1) [] ?_ ?_ ⟨⟨.aB rfl (.yl (by decide)),.aB rfl (Pure.b9 (bl _)),.aB rfl .v,.aB rfl .v,trivial⟩,rfl,⟨.inl ⟨_,rfl,.same trivial⟩,trivial⟩,rfl,rfl,rfl⟩
      ·exact⟨k+1,by simp only;omega,by omega,h2⟩
      ·simp only;omega)
 ·rw [List.drop_eq_nil_of_le (by omega),dL] at hp
  obtain⟨rfl,rfl⟩:=hp.Zj
  repeat' (first
   |(refine bq (fun hb=>?_) (fun hb=>?_)<;>(try simp only [aM] at hb)<;>(first|refine gq kO ?_))
   |(refine aa.aR ?_;refine gq kO ?_)
   |(refine fq ?_))
  all_goals first
   |(exfalso;omega)
   |exact⟨[],.aB .v,⟨.inl ⟨_,rfl,.same trivial⟩,trivial⟩,rfl⟩
theorem X8 (l:List Tm) (hl:l.length<=1099511627776) (hk:mc l):Iter Tryz.prog w0 281 [] [.ip [tl ρ l]] ((dL l).map cM):=by
 intro J b J' hy
 refine⟨.aE [],au [(0,.fo J')] 1,?_,rfl⟩
 refine aT.fM 1 1 _ adu (by simp [Tryz.ntmps281]) rfl rfl ?_
 refine gq nN ?_
 repeat' (first
  |(refine bL fun m hm=>?_;(try rw [aF] at hm);refine gq nN ?_)
  )
 refine aa.bP (σ:=Int × iq) 1 1 [] (fun p=>[(0,.yl 0),(1,.ip [tl ρ l]),(5,.v (.int .i64 m)),(6,.v (.int .i64 p.1))]) [] (fun p=>[(0,.fo p.2)])
  (fun p=>∃ k:Nat,p.1=k/\k<=l.length/\Ys Tryz.prog w0 p.2 ((dL (l.drop k)).map cM) b J') (fun p=>l.length - p.1.toNat) (0,J) ⟨0,rfl,by simp,by simpa using hy⟩ rfl
  ⟨⟨.aB rfl (.yl (by decide)),.aB rfl (Pure.b9 (.ip fun a ha=>by obtain rfl:=List.mem_singleton.1 ha;exact bl _)),.aB rfl .v,.aB rfl .v,trivial⟩,rfl,⟨.inl ⟨_,rfl,.same trivial⟩,trivial⟩,rfl,rfl,rfl⟩ ?_
 rintro⟨i,J⟩ ⟨k,hi,eh,hp⟩
 simp only at hi hp
 clear hy
 refine gq nN ?_
 by_cases aA:k < l.length
 ·obtain⟨y,oV,tZ⟩:=cd aA
  rw [zu tZ,List.map_append] at hp
  rcases hp.split with ⟨ku,h1⟩|⟨J1,h1,h2⟩
  ·subst ku
   have bC:=OD (ρ:=ρ) y _ _ _ (hk.mem y (g8 oV)) h1
   repeat' (first
    |(refine aa.op rfl (ae.ind rfl rfl (lj (l:=l) hi oV) ll) ?_;refine gq nN ?_)
    |((refine aa.op rfl (ae.ou (m:=[(0,0)]) (to:=[(0,some (.fo J'))]) bC rfl ⟨Rn.pure (cK _),Rn.yl rfl rfl,trivial⟩ (Rb.pure .v) rfl rfl ⟨⟨_,rfl,jY.fo⟩,trivial⟩ ⟨⟨0,_,rfl,rfl,kE.fo⟩,trivial⟩ rfl (by repeat (first|exact mf rfl )) (.inl (by repeat (first|exact yP rfl )))) ?_;refine gq nN ?_))
    |(refine bq (fun hb=>?_) (fun hb=>?_)<;>(try simp only [aM] at hb)<;>(first|refine gq nN ?_))
    |(refine aa.aR ?_;refine gq nN ?_)
    |(refine aa.iB ?_;refine gq nN ?_)
    |(refine fq ?_))
   all_goals first
    |exact⟨[],.aB (.aE fun a ha=>by cases ha),⟨.inl ⟨_,rfl,.same trivial⟩,trivial⟩,rfl⟩
    |(exfalso;omega)
  ·have bC:=OD (ρ:=ρ) y _ _ _ (hk.mem y (g8 oV)) h1
   repeat' (first
    |(refine aa.op rfl (ae.ind rfl rfl (lj (l:=l) hi oV) ll) ?_;refine gq nN ?_)
    |((refine aa.op rfl (ae.ou (m:=[(0,0)]) (to:=[(0,some (.fo J1))]) bC rfl ⟨Rn.pure (cK _),Rn.yl rfl rfl,trivial⟩ (Rb.pure .v) rfl rfl ⟨⟨_,rfl,jY.fo⟩,trivial⟩ ⟨⟨0,_,rfl,rfl,kE.fo⟩,trivial⟩ rfl (by repeat (first|exact mf rfl )) (.inl (by repeat (first|exact yP rfl )))) ?_;refine gq nN ?_))
    |(refine bq (fun hb=>?_) (fun hb=>?_)<;>(try simp only [aM] at hb)<;>(first|refine gq nN ?_))
    |(refine cr fun _ _=>?_;refine gq nN ?_)
    |(refine aa.aR ?_;refine gq nN ?_)
    |(refine fq ?_))
   all_goals first
    |(exfalso;omega)
    |(refine aa.bm (σ:=Int × iq) (_,J1) [] ?_ ?_ ⟨⟨.aB rfl (.yl (by decide)),.aB rfl (Pure.b9 (.ip fun a ha=>by obtain rfl:=List.mem_singleton.1 ha;exact bl _)),.aB rfl .v,.aB rfl .v,trivial⟩,rfl,⟨.inl ⟨_,rfl,.same trivial⟩,trivial⟩,rfl,rfl,rfl⟩
      ·exact⟨k+1,by simp only;omega,by omega,h2⟩
      ·simp only;omega)
 ·rw [List.drop_eq_nil_of_le (by omega),dL] at hp
  obtain⟨rfl,rfl⟩:=hp.Zj
  repeat' (first
   |(refine bq (fun hb=>?_) (fun hb=>?_)<;>(try simp only [aM] at hb)<;>(first|refine gq nN ?_))
   |(refine aa.aR ?_;refine gq nN ?_)
   |(refine fq ?_))
  all_goals first
   |(exfalso;omega)
   |exact⟨[],.aB (.aE fun a ha=>by cases ha),⟨.inl ⟨_,rfl,.same trivial⟩,trivial⟩,rfl⟩
theorem OF (l:List Tm):ah Tryz.prog w0 212 [tl ρ l] (.fn (.func 281) [] [.ip [tl ρ l]]):=by
 refine adv.bu (by simp [Tryz.ntmps212]) ((.fn (fun a ha=>by cases ha) fun a ha=>by obtain rfl:=List.mem_singleton.1 ha;exact .ip fun b hb=>by obtain rfl:=List.mem_singleton.1 hb;exact bl _)) ?_
 refine gq ajS ?_
 repeat' (first
  |(refine fq ?_))
 refine bp.fns ?_ ?_
 ·exact trivial
 ·exact⟨bp.box (cs:=[tl ρ l]) (cs':=[tl ρ l]) rfl ⟨.refl _,trivial⟩,trivial⟩
end
end
end Go.Proofs.YtgjfgekaclobaaaGreat
