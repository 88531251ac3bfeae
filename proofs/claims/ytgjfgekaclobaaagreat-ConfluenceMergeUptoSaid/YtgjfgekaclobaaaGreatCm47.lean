import Derived.Test.YtgjfgekaclobaaaGreatCm46
namespace Go.Proofs.YtgjfgekaclobaaaGreat
set_option linter.unusedVariables false
set_option linter.unusedSimpArgs false
open Go.RowKit
section
set_option maxRecDepth 100000
attribute [local irreducible] av aE ad ab
def OD:CF Tryz.f369:=⟨_,by conv=>lhs;cbv⟩
theorem WN:bQ Tryz.prog 369 OD.1 Tryz.f369.ntmps:=fh Tryz.func369 OD.2 Tryz.call369
def gU:List Nat:=[1,0,4,13]
def fP (k:Nat):List AV:=[iv k]
def od (ρ:Hd) (x:Tm × List Nat):List AV:=[iv x.1.k,iv x.1.i,.v (.string x.1.n),tl ρ x.1.a,dw ρ fP false x.2]
def vL (q:Int × Int):AV:=.agg [iv q.1,iv q.2]
def gO (nl ul:Nat):Ob:=.arr 6 [[.gr 1 5 nl,.mp 2,.gr 3 1 ul,.mp 4,.mp 5,.mp 6]] 0 true
def cN (ρ:Hd) (N:aU):Ob:=.arr 5 (ρ.h (List.map (od ρ)) N) 0 false
def cO (ρ:Hd) (up:List Nat):Ob:=.arr 1 (ρ.h (List.map fP) up) 0 false
def cP (ρ:Hd) (kv:List (Int × Int)):Ob:=.mp (ρ.h (cu iv) kv)
def aY (ρ:Hd) (kv:List (Int × Int)):Ob:=.mb (ρ.h (cu iv) kv)
def cQ (ρ:Hd) (kv:KN):Ob:=.mp (ρ.h (cu vL) kv)
def gS (ρ:Hd) (s:PS) (kn:KN):List (Nat × Ob):=[(0,gO s.N.length s.js.up.length),(1,cN ρ s.N),(2,aY ρ s.vs),(3,cO ρ s.js.up),(4,cP ρ s.js.sh),(5,aY ρ s.js.ls),(6,cQ ρ kn)]
section
variable {ρ:Hd}{B:Nat}
theorem lq {nl ul:Nat}(h:6 < B):kH B (gO nl ul):=fun row hr a ha=>by
 obtain rfl:=List.mem_singleton.1 hr
 simp only [List.mem_cons,List.not_mem_nil,or_false] at ha
 rcases ha with rfl|rfl|rfl|rfl|rfl|rfl
 ·exact .gr (by omega)
 ·exact .mp (by omega)
 ·exact .gr (by omega)
 ·exact .mp (by omega)
 ·exact .mp (by omega)
 ·exact .mp (by omega)
theorem MH (x:Tm × List Nat):∀ a ∈ od ρ x,Pure a:=by
 intro a ha
 simp only [od,List.mem_cons,List.not_mem_nil,or_false] at ha
 rcases ha with rfl|rfl|rfl|rfl|rfl
 ·exact .v
 ·exact .v
 ·exact .v
 ·exact cy _
 ·exact eR fun x _ a ha=>by
   obtain rfl:=List.mem_singleton.1 ha
   exact .v
theorem mZ (N:aU):∀ row ∈ ρ.h (List.map (od ρ)) N,∀ a ∈ row,Pure a:=by
 rw [ρ.eq]
 intro row hr a ha
 obtain⟨x,_,rfl⟩:=List.mem_map.1 hr
 exact MH x a ha
theorem m7 (N:List Nat):∀ row ∈ ρ.h (List.map fP) N,∀ a ∈ row,Pure a:=by
 rw [ρ.eq]
 intro row hr a ha
 obtain⟨x,_,rfl⟩:=List.mem_map.1 hr
 obtain rfl:=List.mem_singleton.1 ha
 exact .v
theorem gv (N:aU):kH B (cN ρ N):=fun row hr a ha=>Pure.bT (mZ N row hr a ha)
theorem fD (N:List Nat):kH B (cO ρ N):=fun row hr a ha=>Pure.bT (m7 N row hr a ha)
theorem cU {T:Type}{f:T->AV}(hf:∀ x,Pure (f x)) (kv:List (Int × T)):∀ e ∈ ρ.h (cu f) kv,Pure e.2:=by
 rw [ρ.eq]
 intro e he
 obtain⟨p,_,rfl⟩:=List.mem_map.1 he
 exact hf _
theorem fl (x:Int):Pure (iv x):=.v
theorem o_ (q:Int × Int):Pure (vL q):=.agg (yH .v .v)
theorem fE (kv:List (Int × Int)):kH B (cP ρ kv):=fun e he=>Pure.bT (cU fl kv e he)
theorem bY (kv:List (Int × Int)):kH B (aY ρ kv):=fun e he=>Pure.bT (cU fl kv e he)
theorem fF (kv:KN):kH B (cQ ρ kv):=fun e he=>Pure.bT (cU o_ kv e he)
end
theorem gC {N:Nat}{ρ:Hd}{S:aa}{nl ul:Nat}{Nd:aU}{vs sh ls:List (Int × Int)}{up:List Nat}{kn:KN}(h0:S.get 0=some (gO nl ul):=by rfl) (h1:S.get 1=some (cN ρ Nd):=by rfl) (h2:S.get 2=some (aY ρ vs):=by rfl) (h3:S.get 3=some (cO ρ up):=by rfl)
  (h4:S.get 4=some (cP ρ sh):=by rfl) (h5:S.get 5=some (aY ρ ls):=by rfl) (h6:S.get 6=some (cQ ρ kn):=by rfl):eI 7 [] N S [(0,gO nl ul),(1,cN ρ Nd),(2,aY ρ vs),(3,cO ρ up),(4,cP ρ sh),(5,aY ρ ls),(6,cQ ρ kn)] :=
 ⟨.inl ⟨_,h0,.same (lq (by omega))⟩,.inl ⟨_,h1,.same (gv _)⟩,.inl ⟨_,h2,.same (bY _)⟩,.inl ⟨_,h3,.same (fD _)⟩,.inl ⟨_,h4,.same (fE _)⟩,.inl ⟨_,h5,.same (bY _)⟩,.inl ⟨_,h6,.same (fF _)⟩,trivial⟩
section
variable {w0:World}{ρ:Hd}
theorem qU {s:PS}{kn:KN}{k r:Nat}{u:List Nat}(hl:s.js.up.length<=1099511627776) (h:fa s.js.up k=some (u,r)) :
  aE Tryz.prog w0 369 [.pt 0 6 0 0,iv k] (au (gS ρ s kn) 7) (iv r) (au (gS ρ ⟨s.N,s.vs,⟨u,s.js.sh,s.js.ls⟩⟩ kn) 7):=by
 obtain⟨m,hm⟩:=rK h
 obtain⟨N,vs,up,sh,ls⟩:=s
 dsimp only at hl hm ⊢
 have jy:u.length=up.length:=by
  clear h hl
  revert up k hm
  induction m with
  |zero=>intro k up hm;cases hm
  |succ m ih =>
   intro k up hm
   rw [ez] at hm
   split at hm
   ·cases hm
   ·split at hm
    ·simp only [Option.some.injEq,Prod.mk.injEq] at hm;rw [hm.1]
    ·split at hm
     ·cases hm
     ·have:=ih _ hm;rwa [List.length_set] at this
 obtain⟨ul,lL⟩:∃ ul,ul=up.length:=⟨_,rfl⟩
 obtain⟨nl,dz⟩:∃ nl,nl=N.length:=⟨_,rfl⟩
 simp only [gS,<-lL,<-dz,jy]
 refine bQ.jl 7 7 _ WN (by simp [Tryz.ntmps369]) rfl rfl ?_
 refine gq gU ?_
 refine ab.iK (σ:=Nat × List Nat × Nat) 7 7 [] (fun p=>[(0,.pt 0 6 0 0),(1,iv p.1),(4,iv 0)]) [] (fun p=>[(0,gO nl ul),(1,cN ρ N),(2,aY ρ vs),(3,cO ρ p.2.1),(4,cP ρ sh),(5,aY ρ ls),(6,cQ ρ kn)])
  (fun p=>p.2.1.length=ul/\ez p.2.2 p.2.1 p.1=some (u,r)) (fun p=>p.2.2) (k,up,m) ⟨lL.symm,hm⟩ rfl (by exact⟨sq,rfl,gC,rfl,rfl,rfl⟩) ?_
 rintro⟨k,up,m⟩ ⟨hu,hm⟩
 simp only at hu hm
 cases m with
 |zero=>cases hm
 |succ m =>
  rw [ez] at hm
  cases hp:up[k]? with
  |none=>rw [hp] at hm;cases hm
  |some p =>
   rw [hp] at hm
   simp only at hm
   have dL:=(List.getElem?_eq_some_iff.1 hp).1
   have eN:k < ul:=by omega
   by_cases e:p=k
   ·rw [if_pos e] at hm
    simp only [Option.some.injEq,Prod.mk.injEq] at hm
    obtain⟨rfl,rfl⟩:=hm
    subst e
    refine gq gU ?_
    repeat' (first
     |((refine ab.op rfl (ad.lK rfl rfl rfl eN) ?_;refine ab.op rfl (ad.o8 rfl rfl (h_ (f:=fP) hp) rfl) ?_;refine gq gU ?_))
     |(refine bq (fun hb=>?_) (fun hb=>?_)<;>(try simp only [bS] at hb)<;>(first|exact absurd hb (by decide)|refine gq gU ?_))
     |(refine bK fun m hm=>?_;(try rw [aF] at hm);refine gq gU ?_)
     |(refine bH fun _ _=>?_;refine gq gU ?_)
     |(refine dx fun _ _=>?_;refine gq gU ?_)
     |(refine ab.str rfl (ad.cat rfl rfl (by assumption)) fun _ _=>?_;refine gq gU ?_)
     |(refine ab.bh ?_;refine gq gU ?_)
     |(refine ab.bO ?_;refine gq gU ?_)
     |(refine fq ?_))
    all_goals first
     |(exfalso;omega)
     |exact⟨[],.aJ .v,gC,rfl⟩
   ·rw [if_neg e] at hm
    cases hq:up[p]? with
    |none=>rw [hq] at hm;cases hm
    |some q =>
     rw [hq] at hm
     simp only at hm
     have hp1:=(List.getElem?_eq_some_iff.1 hq).1
     have t_:p < ul:=by omega
     have hs:(up.set k q)[k]?=some q:=by rw [List.getElem?_set,if_pos rfl,if_pos dL]
     refine gq gU ?_
     repeat' (first
      |((refine ab.op rfl (ad.lK rfl rfl rfl eN) ?_;refine ab.op rfl (ad.o8 rfl rfl (h_ (f:=fP) hp) rfl) ?_;refine gq gU ?_))
      |((refine ab.op rfl (ad.lK rfl rfl rfl t_) ?_;refine ab.op rfl (ad.o8 rfl rfl (h_ (f:=fP) hq) rfl) ?_;refine gq gU ?_))
      |((refine ab.op rfl (ad.lK rfl rfl rfl eN) ?_;refine ab.LN (f:=fP) (y:=q) rfl rfl rfl rfl rfl (fun _=>rfl) rfl dL (fun met ui=>?_);refine gq gU ?_))
      |((refine ab.op rfl (ad.lK rfl rfl rfl eN) ?_;refine ab.op rfl (ad.o8 rfl rfl (h_ (f:=fP) (x:=q) (by rw [ui];exact hs)) rfl) ?_;refine gq gU ?_))
      |(refine bq (fun hb=>?_) (fun hb=>?_)<;>(try simp only [bS] at hb)<;>(first|exact absurd hb (by decide)|refine gq gU ?_))
      |(refine bK fun m hm=>?_;(try rw [aF] at hm);refine gq gU ?_)
      |(refine bH fun _ _=>?_;refine gq gU ?_)
      |(refine dx fun _ _=>?_;refine gq gU ?_)
      |(refine ab.str rfl (ad.cat rfl rfl (by assumption)) fun _ _=>?_;refine gq gU ?_)
      |(refine ab.bh ?_;refine gq gU ?_)
      |(refine ab.bO ?_;refine gq gU ?_)
      |(refine fq ?_))
     all_goals first
      |exact absurd (Int.ofNat.inj hb) e
      |(refine ab.d_ (σ:=Nat × List Nat × Nat) (q,met,m) [] ⟨by rw [ui,List.length_set];exact hu,by rw [ui];exact hm⟩ ?_ (by exact⟨sq,rfl,gC,rfl,rfl,rfl⟩);exact Nat.lt_succ_self _)
end
end
section
set_option maxRecDepth 100000
attribute [local irreducible] av aE ad ab
def OE:CF Tryz.f370:=⟨_,by conv=>lhs;cbv⟩
theorem WO:bQ Tryz.prog 370 OE.1 Tryz.f370.ntmps:=fh Tryz.func370 OE.2 Tryz.call370
def qm:List Nat:=[7,8,0,6,1,2]
def OF:CF Tryz.f371:=⟨_,by conv=>lhs;cbv⟩
theorem WQ:bQ Tryz.prog 371 OF.1 Tryz.f371.ntmps:=fh Tryz.func371 OF.2 Tryz.call371
def dX:List Nat:=[0,1,2,10,7,30,9,41,6,11,57,13,12,73]
section
variable {w0:World}{ρ:Hd}
theorem Rq {s:PS}{kn:KN}{i k:Nat}{t t':Tm}{l l':List Nat}(hi:s.N[i]?=some (t,l)) (hk:s.N[k]?=some (t',l')) (h1:t.n.size<=1099511627776) (h2:t'.n.size<=1099511627776) (h3:t.a.length<=1099511627776) (h4:t'.a.length<=1099511627776) :
  aE Tryz.prog w0 370 [.pt 0 6 0 0,iv i,iv k] (au (gS ρ s kn) 7) (.v (.bool (mf t t'))) (au (gS ρ s kn) 7):=by
 obtain⟨N,vs,up,sh,ls⟩:=s
 dsimp only at hi hk
 have lf:=(List.getElem?_eq_some_iff.1 hi).1
 have dL:=(List.getElem?_eq_some_iff.1 hk).1
 have jq:=h_ (ρ:=ρ) (f:=od ρ) hi
 have eN:=h_ (ρ:=ρ) (f:=od ρ) hk
 obtain⟨k1,k2,k3,k4⟩:=t
 obtain⟨j1,j2,j3,j4⟩:=t'
 simp only [od] at jq eN
 obtain⟨R,hR⟩:∃ R,R=mf ⟨k1,k2,k3,k4⟩ ⟨j1,j2,j3,j4⟩:=⟨_,rfl⟩
 rw [<-hR]
 have ZQ:R=true ↔ k1=j1/\k2=j2/\k3.toList=j3.toList/\(k4.length:Int)=j4.length:=by
  rw [hR];unfold mf
  simp only [Bool.and_eq_true,beq_iff_eq,decide_eq_true_eq,and_assoc]
  exact and_congr Iff.rfl (and_congr Iff.rfl (and_congr Iff.rfl (by omega)))
 clear hR
 obtain⟨ul,lL⟩:∃ ul,ul=up.length:=⟨_,rfl⟩
 obtain⟨nl,dz⟩:∃ nl,nl=N.length:=⟨_,rfl⟩
 rw [<-dz] at lf dL
 simp only [gS,<-lL,<-dz]
 refine bQ.jl 7 7 _ WO (by simp [Tryz.ntmps370]) rfl rfl ?_
 refine gq qm ?_
 refine ab.jI rfl (fun T=>ad.lK rfl rfl rfl lf) ?_
 refine ab.jI rfl (fun T=>ad.quiet rfl) ?_
 refine ab.mJ rfl (a_.o8 rfl rfl jq rfl) ?_
 refine gq qm ?_
 refine ab.jI rfl (fun T=>ad.lK rfl rfl rfl dL) ?_
 refine ab.jI rfl (fun T=>ad.quiet rfl) ?_
 refine ab.mJ rfl (a_.o8 rfl rfl eN rfl) ?_
 refine gq qm ?_
 repeat' (first
  |(refine bq (fun hb=>?_) (fun hb=>?_)<;>(try simp only [bS] at hb)<;>(first|exact absurd hb (by decide)|refine gq qm ?_))
  |(refine bK fun m hm=>?_;(try rw [aF] at hm);refine gq qm ?_)
  |(refine bH fun _ _=>?_;refine gq qm ?_)
  |(refine dx fun _ _=>?_;refine gq qm ?_)
  |(refine ab.str rfl (ad.cat rfl rfl (by assumption)) fun _ _=>?_;refine gq qm ?_)
  |(refine ab.bh ?_;refine gq qm ?_)
  |(refine ab.bO ?_;refine gq qm ?_)
  |(refine fq ?_))
 all_goals first
  |(have e:R=true:=ZQ.2 ⟨by assumption,by assumption,by assumption,by omega⟩
    rw [e]
    exact⟨[],.aJ .v,gC,rfl⟩)
  |(have e:R=false:=by
      rw [Bool.eq_false_iff]
      intro h
      obtain⟨a,b,c,d⟩:=ZQ.1 h
      first|exact hb a|exact hb b|exact hb c|omega
    rw [e]
    exact⟨[],.aJ .v,gC,rfl⟩)
theorem Rr {s:PS}{kn:KN}{a b:Nat}(hb:b < s.js.up.length) :
  aE Tryz.prog w0 371 [.pt 0 6 0 0,iv a,iv b] (au (gS ρ s kn) 7) (.aC []) (au (gS ρ ⟨s.N,s.vs,⟨s.js.up.set b a,gy s.js.sh a b,fV s.js.ls a b⟩⟩ kn) 7):=by
 obtain⟨N,vs,up,sh,ls⟩:=s
 dsimp only at hb
 obtain⟨SH,nD⟩:∃ SH,SH=gy sh a b:=⟨_,rfl⟩
 obtain⟨LS,dT⟩:∃ LS,LS=fV ls a b:=⟨_,rfl⟩
 obtain⟨ul,lL⟩:∃ ul,ul=up.length:=⟨_,rfl⟩
 obtain⟨nl,dz⟩:∃ nl,nl=N.length:=⟨_,rfl⟩
 have dF:b < ul:=by omega
 simp only [gS,List.length_set,<-lL,<-dz,<-nD,<-dT]
 unfold gy at nD
 unfold fV at dT
 obtain⟨ai,jX⟩:∃ ai:Int,ai=a:=⟨_,rfl⟩
 obtain⟨bi,Tv⟩:∃ bi:Int,bi=b:=⟨_,rfl⟩
 rw [<-jX,<-Tv] at nD dT ⊢
 refine bQ.jl 7 7 _ WQ (by simp [Tryz.ntmps371]) rfl rfl ?_
 refine gq dX ?_
 refine ab.op rfl (ad.lK rfl rfl Tv dF) ?_
 refine ab.LN (f:=fP) (y:=a) rfl rfl rfl (by rw [fP,<-jX];rfl) rfl (fun _=>rfl) rfl hb (fun u hu=>?_)
 rw [<-hu]
 clear jX Tv lL dz hu hb dF
 refine gq dX ?_
 refine ab.look (ρ:=ρ) (f:=iv) (kv:=sh) rfl rfl rfl rfl (fun k hk=>?_) (fun hk=>?_)
 ·rw [hk] at nD
  refine gq dX ?_
  refine ab.look (ρ:=ρ) (f:=iv) (kv:=sh) rfl rfl rfl rfl (fun i hi=>?_) (fun hi=>?_)
  ·rw [hi] at nD
   refine gq dX ?_
   simp only at nD
   obtain rfl:=nD
   refine ab.mw (ρ:=ρ) (f:=iv) (kv:=ls) rfl rfl rfl rfl (fun v hv=>?_) (fun hv=>?_)<;>rw [hv] at dT<;>simp only at dT
   ·refine gq dX ?_
    refine ab.mw (ρ:=ρ) (f:=iv) (kv:=ls) rfl rfl rfl rfl (fun w hw=>?_) (fun hw=>?_)<;>rw [hw] at dT<;>simp only at dT
    ·refine gq dX ?_
     refine bq (fun hb=>?_) (fun hb=>?_)<;>(try simp only [bS] at hb)
     ·rw [if_pos hb] at dT
      refine gq dX ?_
      refine ab.pL (ρ:=ρ) (f:=iv) (kv:=ls) (v:=v) rfl rfl rfl rfl rfl (fun kv oY=>?_)
      rw [<-oY] at dT
      obtain rfl:=dT
      refine gq dX ?_
      refine fq ?_
      exact⟨[],.aJ (.aC fun _ h=>by cases h),gC,rfl⟩
     ·rw [if_neg hb] at dT
      obtain rfl:=dT
      refine gq dX ?_
      refine fq ?_
      exact⟨[],.aJ (.aC fun _ h=>by cases h),gC,rfl⟩
    ·refine gq dX ?_
     refine ab.pL (ρ:=ρ) (f:=iv) (kv:=ls) (v:=v) rfl rfl rfl rfl rfl (fun kv oY=>?_)
     rw [<-oY] at dT
     obtain rfl:=dT
     refine gq dX ?_
     refine fq ?_
     exact⟨[],.aJ (.aC fun _ h=>by cases h),gC,rfl⟩
   ·obtain rfl:=dT
    refine gq dX ?_
    refine fq ?_
    exact⟨[],.aJ (.aC fun _ h=>by cases h),gC,rfl⟩
  ·rw [hi] at nD
   refine gq dX ?_
   refine ab.gQ (ρ:=ρ) (f:=iv) (kv:=sh) (v:=k) rfl rfl rfl rfl rfl (fun kv oY=>?_)
   simp only at nD
   rw [<-oY] at nD
   obtain rfl:=nD
   refine gq dX ?_
   refine ab.mw (ρ:=ρ) (f:=iv) (kv:=ls) rfl rfl rfl rfl (fun v hv=>?_) (fun hv=>?_)<;>rw [hv] at dT<;>simp only at dT
   ·refine gq dX ?_
    refine ab.mw (ρ:=ρ) (f:=iv) (kv:=ls) rfl rfl rfl rfl (fun w hw=>?_) (fun hw=>?_)<;>rw [hw] at dT<;>simp only at dT
    ·refine gq dX ?_
     refine bq (fun hb=>?_) (fun hb=>?_)<;>(try simp only [bS] at hb)
     ·rw [if_pos hb] at dT
      refine gq dX ?_
      refine ab.pL (ρ:=ρ) (f:=iv) (kv:=ls) (v:=v) rfl rfl rfl rfl rfl (fun kv oY=>?_)
      rw [<-oY] at dT
      obtain rfl:=dT
      refine gq dX ?_
      refine fq ?_
      exact⟨[],.aJ (.aC fun _ h=>by cases h),gC,rfl⟩
     ·rw [if_neg hb] at dT
      obtain rfl:=dT
      refine gq dX ?_
      refine fq ?_
      exact⟨[],.aJ (.aC fun _ h=>by cases h),gC,rfl⟩
    ·refine gq dX ?_
     refine ab.pL (ρ:=ρ) (f:=iv) (kv:=ls) (v:=v) rfl rfl rfl rfl rfl (fun kv oY=>?_)
     rw [<-oY] at dT
     obtain rfl:=dT
     refine gq dX ?_
     refine fq ?_
     exact⟨[],.aJ (.aC fun _ h=>by cases h),gC,rfl⟩
   ·obtain rfl:=dT
    refine gq dX ?_
    refine fq ?_
    exact⟨[],.aJ (.aC fun _ h=>by cases h),gC,rfl⟩
 ·rw [hk] at nD
  refine gq dX ?_
  simp only at nD
  obtain rfl:=nD
  refine ab.mw (ρ:=ρ) (f:=iv) (kv:=ls) rfl rfl rfl rfl (fun v hv=>?_) (fun hv=>?_)<;>rw [hv] at dT<;>simp only at dT
  ·refine gq dX ?_
   refine ab.mw (ρ:=ρ) (f:=iv) (kv:=ls) rfl rfl rfl rfl (fun w hw=>?_) (fun hw=>?_)<;>rw [hw] at dT<;>simp only at dT
   ·refine gq dX ?_
    refine bq (fun hb=>?_) (fun hb=>?_)<;>(try simp only [bS] at hb)
    ·rw [if_pos hb] at dT
     refine gq dX ?_
     refine ab.pL (ρ:=ρ) (f:=iv) (kv:=ls) (v:=v) rfl rfl rfl rfl rfl (fun kv oY=>?_)
     rw [<-oY] at dT
     obtain rfl:=dT
     refine gq dX ?_
     refine fq ?_
     exact⟨[],.aJ (.aC fun _ h=>by cases h),gC,rfl⟩
    ·rw [if_neg hb] at dT
     obtain rfl:=dT
     refine gq dX ?_
     refine fq ?_
     exact⟨[],.aJ (.aC fun _ h=>by cases h),gC,rfl⟩
   ·refine gq dX ?_
    refine ab.pL (ρ:=ρ) (f:=iv) (kv:=ls) (v:=v) rfl rfl rfl rfl rfl (fun kv oY=>?_)
    rw [<-oY] at dT
    obtain rfl:=dT
    refine gq dX ?_
    refine fq ?_
    exact⟨[],.aJ (.aC fun _ h=>by cases h),gC,rfl⟩
  ·obtain rfl:=dT
   refine gq dX ?_
   refine fq ?_
   exact⟨[],.aJ (.aC fun _ h=>by cases h),gC,rfl⟩
end
end
section
set_option maxRecDepth 100000
attribute [local irreducible] av aE ad ab
def OG:CF Tryz.f338:=⟨_,by conv=>lhs;cbv⟩
theorem WR:bQ Tryz.prog 338 OG.1 Tryz.f338.ntmps:=fh Tryz.func338 OG.2 Tryz.call338
def cX:List Nat:=[0,1,76,5,6,7,8,10,4,16,39,9,11,61,66,75,77,74,13,12]
def m8 (p:Nat × Nat):List AV:=[iv p.1,iv p.2]
def uk (ρ:Hd) (ps:List (Nat × Nat)):Ob:=.arr 2 (ρ.h (List.map m8) ps) 0 false
theorem EH {ρ:Hd}{B:Nat}(ps:List (Nat × Nat)):kH B (uk ρ ps):=by
 show ∀ row ∈ ρ.h (List.map m8) ps,∀ a ∈ row,cC B a
 rw [ρ.eq]
 intro row hr a ha
 obtain⟨x,_,rfl⟩:=List.mem_map.1 hr
 simp only [m8,List.mem_cons,List.not_mem_nil,or_false] at ha
 rcases ha with rfl|rfl<;>exact .v
def gX (ρ:Hd) (nl ul:Nat) (N:aU) (vs:List (Int × Int)) (up:List Nat) (sh ls:List (Int × Int)) (kn:KN):List (Nat × Ob):=[(0,gO nl ul),(1,cN ρ N),(2,aY ρ vs),(3,cO ρ up),(4,cP ρ sh),(5,aY ρ ls),(6,cQ ρ kn)]
theorem eD {ρ:Hd}{nl ul:Nat}{N:aU}{vs:List (Int × Int)}{up:List Nat}{sh ls:List (Int × Int)}{kn:KN}(dz:nl=N.length) (jy:up.length=ul):gX ρ nl ul N vs up sh ls kn=gS ρ ⟨N,vs,⟨up,sh,ls⟩⟩ kn:=by subst dz;subst jy;rfl
theorem bW {ρ:Hd}{nl ul:Nat}{N:aU}{vs:List (Int × Int)}{up:List Nat}{sh ls:List (Int × Int)}{kn:KN}{B:Nat}(h:6 < B):uh (gX ρ nl ul N vs up sh ls kn) B:=⟨fun j o hj=>by
 unfold gX at hj
 have:=dY hj
 simp only [List.mem_cons,Prod.mk.injEq,List.not_mem_nil,or_false] at this
 rcases this with ⟨rfl,rfl⟩|⟨rfl,rfl⟩|⟨rfl,rfl⟩|⟨rfl,rfl⟩|⟨rfl,rfl⟩|⟨rfl,rfl⟩|⟨rfl,rfl⟩
 ·exact⟨by omega,lq h,fun J=>by simp [gO]⟩
 ·exact⟨by omega,gv _,fun J=>by simp [cN]⟩
 ·exact⟨by omega,bY _,fun J=>by simp [aY]⟩
 ·exact⟨by omega,fD _,fun J=>by simp [cO]⟩
 ·exact⟨by omega,fE _,fun J=>by simp [cP]⟩
 ·exact⟨by omega,bY _,fun J=>by simp [aY]⟩
 ·exact⟨by omega,fF _,fun J=>by simp [cQ]⟩⟩
theorem zc {ρ:Hd}{nl ul:Nat}{N:aU}{vs:List (Int × Int)}{up:List Nat}{sh ls:List (Int × Int)}{kn:KN}:∀ p ∈ gX ρ nl ul N vs up sh ls kn,cM (gX ρ nl ul N vs up sh ls kn) p.1=some p.2:=by
 intro p hp
 unfold gX at hp ⊢
 simp only [List.mem_cons,List.not_mem_nil,or_false] at hp
 rcases hp with rfl|rfl|rfl|rfl|rfl|rfl|rfl<;>rfl
theorem ye {ρ:Hd}{nl ul:Nat}{N:aU}{vs:List (Int × Int)}{up:List Nat}{sh ls:List (Int × Int)}{kn:KN}{T:aa}(h0:T.get 0=some (gO nl ul):=by rfl) (h1:T.get 1=some (cN ρ N):=by rfl) (h2:T.get 2=some (aY ρ vs):=by rfl) (h3:T.get 3=some (cO ρ up):=by rfl) (h4:T.get 4=some (cP ρ sh):=by rfl) (h5:T.get 5=some (aY ρ ls):=by rfl) (h6:T.get 6=some (cQ ρ kn):=by rfl):fu T (gX ρ nl ul N vs up sh ls kn):=by
 intro p hp
 unfold gX at hp
 simp only [List.mem_cons,List.not_mem_nil,or_false] at hp
 rcases hp with rfl|rfl|rfl|rfl|rfl|rfl|rfl<;>assumption
theorem jB {ρ:Hd}{nl ul:Nat}{N:aU}{vs:List (Int × Int)}{up:List Nat}{sh ls:List (Int × Int)}{kn:KN}{T:aa}(h0:T.get 0=some (gO nl ul):=by rfl) (h1:T.get 1=some (cN ρ N):=by rfl) (h2:T.get 2=some (aY ρ vs):=by rfl) (h3:T.get 3=some (cO ρ up):=by rfl) (h4:T.get 4=some (cP ρ sh):=by rfl) (h5:T.get 5=some (aY ρ ls):=by rfl) (h6:T.get 6=some (cQ ρ kn):=by rfl):∀ j o,cM (gX ρ nl ul N vs up sh ls kn) j=some o->T.get j=some o:=fun j o hj=>ye (h0:=h0) (h1:=h1) (h2:=h2) (h3:=h3) (h4:=h4) (h5:=h5) (h6:=h6) (j,o) (dY hj)
theorem mB {a:AV}{N:Nat}(h:0 < N) (ha:Pure a):∀ b ∈ [AV.pt 0 6 0 0,a],cC N b:=by
 intro b hb
 simp only [List.mem_cons,List.not_mem_nil,or_false] at hb
 rcases hb with rfl|rfl
 ·exact .pt h
 ·exact Pure.bT ha
theorem um {a c:AV}{N:Nat}(h:0 < N) (ha:Pure a) (hc:Pure c):∀ b ∈ [AV.pt 0 6 0 0,a,c],cC N b:=by
 intro b hb
 simp only [List.mem_cons,List.not_mem_nil,or_false] at hb
 rcases hb with rfl|rfl|rfl
 ·exact .pt h
 ·exact Pure.bT ha
 ·exact Pure.bT hc
section
variable {P:Program}{w0:World}{rd dr:Bool}{n:Nat}{Q:Exit->AA->aa->Prop}{α:AA}{S:aa}{l:List QI}{K:List ig}{T:Type}{ρ:Hd}{f:T->List AV}
theorem ab.abp {d:Option Nat}{g:Option (Nat × Bool)}{sz k len h:Nat}{x hi:QO}{ik:IntKind}{j:Int}{ex:Bool}{xs xs0:List T}(hw:bB α.tm g=some true) (hx:x.ev α.tm=.gr k sz len) (hk:S.get k=some (.arr sz (ρ.h (List.map f) xs) 0 ex)) (hn:len=xs.length) (hj:hi.ev α.tm=.v (.int ik j)) (hh:j=h) (aB:h < len) (h0:xs.take h=xs0)
  (kk:ab P w0 rd n Q (.aR false l K) (bJ d α (.gr k sz h)) (S.set k (some (.arr sz (ρ.h (List.map f) xs0) 0 false)))):ab P w0 rd n Q (.aR false (⟨d,g,.slice (.sl sz) x none (some hi) none⟩::l) K) α S:=by
 have e:(ρ.h (List.map f) xs).take h=ρ.h (List.map f) xs0:=by rw [ρ.eq,ρ.eq,<-List.map_take,h0]
 refine ab.op (i:=⟨d,g,.slice (.sl sz) x none (some hi) none⟩) hw (ad.WL hx hk (by rw [ρ.eq,List.length_map];exact hn) hj hh aB) ?_
 rw [e]
 exact kk
end
theorem ZR {m:List (Nat × Nat)}{N:Nat}{ρ:Hd}{S:aa}{nl ul:Nat}{Nd:aU}{vs sh ls:List (Int × Int)}{up:List Nat}{kn:KN}(h0:S.get 0=some (gO nl ul):=by rfl) (h1:S.get 1=some (cN ρ Nd):=by rfl) (h2:S.get 2=some (aY ρ vs):=by rfl) (h3:S.get 3=some (cO ρ up):=by rfl)
  (h4:S.get 4=some (cP ρ sh):=by rfl) (h5:S.get 5=some (aY ρ ls):=by rfl) (h6:S.get 6=some (cQ ρ kn):=by rfl):eI 8 m N S [(0,gO nl ul),(1,cN ρ Nd),(2,aY ρ vs),(3,cO ρ up),(4,cP ρ sh),(5,aY ρ ls),(6,cQ ρ kn)] :=
 ⟨.inl ⟨_,h0,.same (lq (by omega))⟩,.inl ⟨_,h1,.same (gv _)⟩,.inl ⟨_,h2,.same (bY _)⟩,.inl ⟨_,h3,.same (fD _)⟩,.inl ⟨_,h4,.same (fE _)⟩,.inl ⟨_,h5,.same (bY _)⟩,.inl ⟨_,h6,.same (fF _)⟩,trivial⟩
theorem EI {j N:Nat}{ρ:Hd}{S:aa}{nl ul:Nat}{Nd:aU}{vs sh ls:List (Int × Int)}{up:List Nat}{kn:KN}{ps:List (Nat × Nat)}(h8:S.get j=some (uk ρ ps):=by rfl) (h0:S.get 0=some (gO nl ul):=by rfl) (h1:S.get 1=some (cN ρ Nd):=by rfl) (h2:S.get 2=some (aY ρ vs):=by rfl) (h3:S.get 3=some (cO ρ up):=by rfl)
  (h4:S.get 4=some (cP ρ sh):=by rfl) (h5:S.get 5=some (aY ρ ls):=by rfl) (h6:S.get 6=some (cQ ρ kn):=by rfl):eI 8 [(8,j)] N S [(0,gO nl ul),(1,cN ρ Nd),(2,aY ρ vs),(3,cO ρ up),(4,cP ρ sh),(5,aY ρ ls),(6,cQ ρ kn),(8,uk ρ ps)] :=
 ⟨.inl ⟨_,h0,.same (lq (by omega))⟩,.inl ⟨_,h1,.same (gv _)⟩,.inl ⟨_,h2,.same (bY _)⟩,.inl ⟨_,h3,.same (fD _)⟩,.inl ⟨_,h4,.same (fE _)⟩,.inl ⟨_,h5,.same (bY _)⟩,.inl ⟨_,h6,.same (fF _)⟩,.inl ⟨_,h8,.same (EH _)⟩,trivial⟩
theorem Tw {j N:Nat}{ρ:Hd}{S:aa}{nl ul:Nat}{Nd:aU}{vs sh ls:List (Int × Int)}{up:List Nat}{kn:KN}{ps:List (Nat × Nat)}(h8:S.get j=some (uk ρ ps):=by rfl) (h0:S.get 0=some (gO nl ul):=by rfl) (h1:S.get 1=some (cN ρ Nd):=by rfl) (h2:S.get 2=some (aY ρ vs):=by rfl) (h3:S.get 3=some (cO ρ up):=by rfl)
  (h4:S.get 4=some (cP ρ sh):=by rfl) (h5:S.get 5=some (aY ρ ls):=by rfl) (h6:S.get 6=some (cQ ρ kn):=by rfl):eI 9 [(9,j)] N S [(0,gO nl ul),(1,cN ρ Nd),(2,aY ρ vs),(3,cO ρ up),(4,cP ρ sh),(5,aY ρ ls),(6,cQ ρ kn),(9,uk ρ ps)] :=
 ⟨.inl ⟨_,h0,.same (lq (by omega))⟩,.inl ⟨_,h1,.same (gv _)⟩,.inl ⟨_,h2,.same (bY _)⟩,.inl ⟨_,h3,.same (fD _)⟩,.inl ⟨_,h4,.same (fE _)⟩,.inl ⟨_,h5,.same (bY _)⟩,.inl ⟨_,h6,.same (fF _)⟩,.inl ⟨_,h8,.same (EH _)⟩,trivial⟩
theorem As:∀ {m:Nat}{up u:List Nat}{k r:Nat},ez m up k=some (u,r)->u.length=up.length
 |0,_,_,_,_,h=>by cases h
 |m+1,up,u,k,r,h=>by
  rw [ez] at h
  split at h
  ·cases h
  ·split at h
   ·simp only [Option.some.injEq,Prod.mk.injEq] at h;rw [h.1]
   ·split at h
    ·cases h
    ·have:=As h;rwa [List.length_set] at this
theorem eG {up u:List Nat}{k r:Nat}(h:fa up k=some (u,r)):u.length=up.length:=let ⟨_,h⟩:=rK h;As h
theorem CN:∀ {m:Nat}{up u:List Nat}{k r:Nat},ez m up k=some (u,r)->r < up.length
 |0,_,_,_,_,h=>by cases h
 |m+1,up,u,k,r,h=>by
  rw [ez] at h
  split at h
  ·cases h
  ·rename_i p hp
   split at h
   ·simp only [Option.some.injEq,Prod.mk.injEq] at h
    rw [<-h.2]
    exact (List.getElem?_eq_some_iff.1 hp).1
   ·split at h
    ·cases h
    ·have:=CN h;rwa [List.length_set] at this
theorem CO {up u:List Nat}{k r:Nat}(h:fa up k=some (u,r)):r < up.length:=let ⟨_,h⟩:=rK h;CN h
theorem lW {N:aU}:∀ {m:Nat}{ps:List (Nat × Nat)}{s s':JS}{b:Bool},ec N m ps s=some (b,s')->s'.up.length=s.up.length
 |0,_,_,_,_,h=>by cases h
 |m+1,ps,s,s',b,h=>by
  rw [ec] at h
  split at h
  ·cases h
  ·split at h
   ·simp only [Option.some.injEq,Prod.mk.injEq] at h;rw [<-h.2]
   ·split at h
    ·cases h
    ·rename_i u1 a h1
     split at h
     ·cases h
     ·rename_i u2 b2 h2
      have e1:=eG h1
      have e2:=eG h2
      split at h
      ·have:=lW h;simp only at this;omega
      ·split at h
       ·split at h
        ·split at h
         ·split at h
          ·split at h
           ·have:=lW h;simp only [List.length_set] at this;omega
           ·cases h
          ·simp only [Option.some.injEq,Prod.mk.injEq] at h;rw [<-h.2];simp only;omega
         ·cases h
        ·cases h
       ·have:=lW h;simp only [List.length_set] at this;omega
section
variable {w0:World}{ρ:Hd}
theorem Tx {N:aU}{vs:List (Int × Int)}{kn:KN}{m:Nat}{ps:List (Nat × Nat)}{s s':JS}{b:Bool}(hN:zY N) (hl:s.up.length<=1099511627776) (h:ec N m ps s=some (b,s')) :
  aE Tryz.prog w0 338 [.pt 0 6 0 0,.gr 7 2 ps.length] (au (gS ρ ⟨N,vs,s⟩ kn++[(7,uk ρ ps)]) 8) (.v (.bool b)) (au (gS ρ ⟨N,vs,s'⟩ kn) 8):=by
 obtain⟨nl,dz⟩:∃ nl,nl=N.length:=⟨_,rfl⟩
 obtain⟨ul,jy⟩:∃ ul,ul=s.up.length:=⟨_,rfl⟩
 have ZS:s'.up.length=ul:=by rw [lW h,jy]
 obtain⟨OH,sh0,ls0⟩:=s'
 obtain⟨up,sh,ls⟩:=s
 dsimp only at hl jy ZS
 obtain⟨pl,tJ⟩:∃ pl,pl=ps.length:=⟨_,rfl⟩
 simp only [gS,<-dz,<-jy,ZS,<-tJ,List.cons_append,List.nil_append]
 refine bQ.jl 8 8 _ WR (by simp [Tryz.ntmps338]) rfl rfl ?_
 refine gq cX ?_
 refine ab.iK (σ:=List (Nat × Nat) × Nat × JS × Nat) 8 9 [(8,7)] (fun p=>[(0,.pt 0 6 0 0),(1,.gr 8 2 p.2.1),(4,.v (.bool false))]) [] (fun p=>[(0,gO nl ul),(1,cN ρ N),(2,aY ρ vs),(3,cO ρ p.2.2.1.up),(4,cP ρ p.2.2.1.sh),(5,aY ρ p.2.2.1.ls),(6,cQ ρ kn),(8,uk ρ p.1)])
  (fun p=>p.2.1=p.1.length/\p.2.2.1.up.length=ul/\ec N p.2.2.2 p.1 p.2.2.1=some (b,⟨OH,sh0,ls0⟩)) (fun p=>p.2.2.2) (ps,pl,⟨up,sh,ls⟩,m) ⟨tJ,jy.symm,h⟩ rfl (by exact⟨sq,rfl,EI,rfl,rfl,rfl⟩) ?_
 have aem:ul<=1099511627776:=by omega
 clear h tJ jy
 rintro⟨ps,pl,⟨up,sh,ls⟩,m⟩ ⟨tJ,jy,h⟩
 simp only at tJ jy h
 cases m with
 |zero=>cases h
 |succ m =>
  rw [ec] at h
  split at h
  ·cases h
  rename_i Bh
  rcases tu ps with rfl|⟨p0,⟨x,y⟩,rfl⟩
  ·simp only [List.getLast?_nil,Option.some.injEq,Prod.mk.injEq,JS.mk.injEq] at h
   obtain⟨rfl,rfl,rfl,rfl⟩:=h
   obtain rfl:pl=0:=tJ
   refine gq cX ?_
   refine ab.int rfl (ad.wI rfl) fun e he=>?_
   refine gq cX ?_
   refine bq (fun hb=>?_) (fun hb=>?_)<;>(try simp only [bS] at hb)
   ·omega
   ·refine gq cX ?_
    refine ab.bh ?_
    refine gq cX ?_
    refine fq ?_
    exact⟨[],.aJ .v,ZR,rfl⟩
  ·simp only [List.getLast?_concat,List.dropLast_concat] at h Bh
   split at h
   ·cases h
   rename_i u1 a h1
   split at h
   ·cases h
   rename_i u2 c h2
   have hlen:pl=p0.length+1:=by rw [tJ];simp
   have aen:p0.length < 1099511627776:=by rw [List.length_append,List.length_singleton] at Bh;omega
   have hq:(p0++[(x,y)])[p0.length]?=some (x,y):=by simp
   have nB:=h_ (ρ:=ρ) (f:=m8) hq
   have nC:(p0++[(x,y)]).take p0.length=p0:=by simp
   obtain⟨r0,pQ⟩:∃ r0,r0=p0++[(x,y)]:=⟨_,rfl⟩
   rw [<-pQ] at nB nC tJ ⊢
   have fG:u1.length=ul:=by rw [eG h1,jy]
   have gu:u2.length=ul:=by rw [eG h2,fG]
   have c1:=qU (w0:=w0) (ρ:=ρ) (s:=⟨N,vs,⟨up,sh,ls⟩⟩) (kn:=kn) (by simp only;omega) h1
   have c2:=qU (w0:=w0) (ρ:=ρ) (s:=⟨N,vs,⟨u1,sh,ls⟩⟩) (kn:=kn) (by simp only;omega) h2
   simp only at c1 c2
   rw [<-eD dz jy,<-eD dz fG] at c1
   rw [<-eD dz fG,<-eD dz gu] at c2
   refine gq cX ?_
   refine ab.int rfl (ad.wI rfl) fun e he=>?_
   refine gq cX ?_
   refine bq (fun hb=>?_) (fun hb=>?_)<;>(try simp only [bS] at hb)
   rotate_left
   ·exfalso;omega
   refine gq cX ?_
   refine ab.int rfl (ad.wI rfl) fun e2 ZT=>?_
   refine gq cX ?_
   obtain⟨xi,ZU⟩:∃ xi:Int,xi=x:=⟨_,rfl⟩
   obtain⟨yi,ZV⟩:∃ yi:Int,yi=y:=⟨_,rfl⟩
   obtain⟨ai,jX⟩:∃ ai:Int,ai=a:=⟨_,rfl⟩
   obtain⟨ci,CP⟩:∃ ci:Int,ci=c:=⟨_,rfl⟩
   rw [m8] at nB
   simp only at nB
   rw [<-ZU,<-ZV] at nB
   rw [<-ZU,<-jX] at c1
   rw [<-ZV,<-CP] at c2
   refine bH (fun e3 he3=>?_)
   refine gq cX ?_
   obtain⟨pn,EJ⟩:∃ pn,pn=p0.length:=⟨_,rfl⟩
   rw [<-EJ] at nB nC hlen
   have mH:e3=((pn:Nat):Int):=by omega
   have iN:pn < pl:=by omega
   refine ab.jI rfl (fun T=>ad.lK rfl rfl mH iN) ?_
   refine ab.jI rfl (fun T=>ad.Fs rfl rfl (by decide) (by decide)) ?_
   refine ab.mJ rfl (a_.o8 rfl rfl nB rfl) ?_
   refine ab.mJ rfl (a_.iz false c1 rfl (.inl (by decide)) (bW (by decide)) (ye) zc (bW (by decide)) (mB (by decide) .v) .v) ?_
   refine gq cX ?_
   refine ab.jI rfl (fun T=>ad.lK rfl rfl mH iN) ?_
   refine ab.jI rfl (fun T=>ad.Fs rfl rfl (by decide) (by decide)) ?_
   refine ab.mJ rfl (a_.o8 rfl rfl nB rfl) ?_
   refine ab.mJ rfl (a_.iz false c2 rfl (.inl (by decide)) (bW (by decide)) (ye) zc (bW (by decide)) (mB (by decide) .v) .v) ?_
   refine gq cX ?_
   refine ab.abp (f:=m8) (xs0:=p0) rfl rfl rfl tJ rfl mH iN nC ?_
   refine gq cX ?_
   refine bq (fun dF=>?_) (fun dF=>?_)<;>(try simp only [bS] at dF)
   ·rw [if_pos (by omega)] at h
    refine gq cX ?_
    refine ab.d_ (σ:=List (Nat × Nat) × Nat × JS × Nat) (p0,pn,⟨u2,sh,ls⟩,m) [(8,8)] ⟨EJ,gu,h⟩ ?_ (by exact⟨sq,rfl,EI,rfl,rfl,rfl⟩)
    exact Nat.lt_succ_self _
   rw [if_neg (by omega),<-jX,<-CP] at h
   have c3:=Rr (w0:=w0) (ρ:=ρ) (s:=⟨N,vs,⟨u2,sh,ls⟩⟩) (kn:=kn) (a:=a) (b:=c) (by have:=CO h2;simp only;omega)
   simp only at c3
   rw [<-eD dz gu,<-eD dz (by rw [List.length_set,gu]),<-jX,<-CP] at c3
   obtain⟨U,hU⟩:∃ U,U=u2.set c a:=⟨_,rfl⟩
   obtain⟨SH,nD⟩:∃ SH,SH=gy sh a c:=⟨_,rfl⟩
   obtain⟨LS,dT⟩:∃ LS,LS=fV ls a c:=⟨_,rfl⟩
   have OI:U.length=ul:=by rw [hU,List.length_set,gu]
   rw [<-hU,<-nD,<-dT] at c3 h
   clear hU nD dT
   refine gq cX ?_
   refine ab.look (ρ:=ρ) (f:=iv) (kv:=sh) rfl rfl rfl rfl (fun si Au=>?_) (fun Au=>?_)
   ·refine gq cX ?_
    refine ab.look (ρ:=ρ) (f:=iv) (kv:=sh) rfl rfl rfl rfl (fun sk yf=>?_) (fun yf=>?_)
    ·rw [Au,yf] at h
     simp only at h
     split at h
     rotate_left
     ·cases h
     rename_i t l t' l' Ar tR
     split at h
     rotate_left
     ·cases h
     rename_i ZW
     obtain⟨sn,Oo⟩:∃ sn:Nat,sn=si.toNat:=⟨_,rfl⟩
     obtain⟨Av,z6⟩:∃ n:Nat,n=sk.toNat:=⟨_,rfl⟩
     rw [<-Oo] at Ar
     rw [<-z6] at tR
     have q1:si=(sn:Int):=by omega
     have q2:sk=(Av:Int):=by omega
     have g1:=hN _ _ _ Ar
     have g2:=hN _ _ _ tR
     have c4:=Rq (w0:=w0) (ρ:=ρ) (s:=⟨N,vs,⟨u2,sh,ls⟩⟩) (kn:=kn) Ar tR g1.2.2 g2.2.2 (by omega) (by omega)
     rw [<-eD dz gu,<-q1,<-q2] at c4
     obtain⟨al,aH⟩:∃ al,al=mf t t':=⟨_,rfl⟩
     rw [<-aH] at c4 h
     clear aH
     refine gq cX ?_
     refine ab.op rfl (ad.iz c4 rfl (Nat.le_of_ble_eq_true rfl) (bW (by decide)) (jB) (bW (by decide)) (um (by decide) .v .v) .v) ?_
     cases al with
     |false =>
      rw [if_neg (by decide)] at h
      simp only [Option.some.injEq,Prod.mk.injEq,JS.mk.injEq] at h
      obtain⟨rfl,rfl,rfl,rfl⟩:=h
      refine gq cX ?_
      refine ab.bO ?_
      refine gq cX ?_
      refine fq ?_
      exact⟨[],.aJ .v,ZR,rfl⟩
     |true =>
      rw [if_pos rfl] at h
      split at h
      rotate_left
      ·cases h
      rename_i ZX
      have ZY:Pure (dw ρ fP false l):=eR fun x _ a ha=>by
       obtain rfl:=List.mem_singleton.1 ha
       exact .v
      have i1:sn < nl:=by rw [dz];exact (List.getElem?_eq_some_iff.1 Ar).1
      have i2:Av < nl:=by rw [dz];exact (List.getElem?_eq_some_iff.1 tR).1
      have r1:=h_ (ρ:=ρ) (f:=od ρ) Ar
      have r2:=h_ (ρ:=ρ) (f:=od ρ) tR
      rw [od] at r1 r2
      simp only at r1 r2
      refine gq cX ?_
      refine ab.op rfl (ad.lK rfl rfl q1 i1) ?_
      refine ab.op rfl (ad.quiet rfl) ?_
      refine ab.op rfl (ad.o8 rfl rfl r1 rfl) ?_
      refine gq cX ?_
      refine ab.int rfl (ad.len rfl) fun q po=>?_
      rw [aF] at po
      refine gq cX ?_
      refine ab.iK (σ:=Int × List (Nat × Nat) × Nat) 9 10 [(9,8)] (fun p=>[(0,.pt 0 6 0 0),(1,.gr 9 2 p.2.2),(4,.v (.bool false)),(6,iv ai),(7,iv ci),(10,iv sk),(74,dw ρ fP false l),(75,iv q),(76,iv p.1)]) [] (fun p=>[(0,gO nl ul),(1,cN ρ N),(2,aY ρ vs),(3,cO ρ u2),(4,cP ρ sh),(5,aY ρ ls),(6,cQ ρ kn),(9,uk ρ p.2.1)])
       (fun p=>∃ k:Nat,p.1=k/\k<=l.length/\p.2.1=p0++(l.zip l').take k/\p.2.2=p.2.1.length) (fun p=>l.length - p.1.toNat) (0,p0,pn) ⟨0,rfl,by simp,by simp,EJ⟩ rfl (by exact⟨sq,rfl,Tw,rfl,rfl,rfl⟩) ?_
      rintro⟨ki,pk,kl⟩ ⟨k,Ty,hk,OJ,pT⟩
      simp only at Ty hk OJ pT
      have aeo:kl<=pn+6:=by
       rw [pT,OJ,List.length_append,List.length_take,List.length_zip]
       omega
      refine gq cX ?_
      refine bq (fun oQ=>?_) (fun oQ=>?_)<;>(try simp only [bS] at oQ)
      ·have dL:k < l.length:=by omega
       obtain⟨u,hu⟩:∃ u,l[k]?=some u:=⟨_,List.getElem?_eq_getElem dL⟩
       obtain⟨v,hv⟩:∃ v,l'[k]?=some v:=⟨_,List.getElem?_eq_getElem (by omega)⟩
       refine gq cX ?_
       refine ab.op rfl (ad.ind rfl rfl (ky (l:=l) Ty hu) (kz fun _=>rfl)) ?_
       refine gq cX ?_
       refine ab.op rfl (ad.lK rfl rfl q2 i2) ?_
       refine ab.op rfl (ad.quiet rfl) ?_
       refine ab.op rfl (ad.o8 rfl rfl r2 rfl) ?_
       refine gq cX ?_
       refine ab.op rfl (ad.ind rfl rfl (ky (l:=l') Ty hv) (kz fun _=>rfl)) ?_
       refine gq cX ?_
       refine ab.app (x:=(u,v)) (f:=m8) rfl rfl rfl pT (fun _=>rfl) rfl rfl rfl rfl (by omega) fun s' gR eg WS=>?_
       refine gq cX ?_
       refine bH (fun k2 eN=>?_)
       refine gq cX ?_
       refine ab.d_ (σ:=Int × List (Nat × Nat) × Nat) (k2,s',gR) [(9,10)] ⟨k+1,by simp only;omega,by omega,?_,WS⟩ ?_ (by exact⟨sq,rfl,Tw,rfl,rfl,rfl⟩)
       ·simp only
        rw [eg,OJ,List.append_assoc,List.take_add_one,List.getElem?_zip_eq_some (z:=(u,v)) |>.2 ⟨hu,hv⟩]
        rfl
       ·simp only;omega
      ·have dL:k=l.length:=by omega
       have abq:pk=p0++l.zip l':=by
        rw [OJ,List.take_of_length_le (by rw [List.length_zip];omega)]
       rw [<-abq] at h
       refine gq cX ?_
       refine ab.bh ?_
       refine gq cX ?_
       refine ab.op rfl (ad.iz c3 rfl (Nat.le_of_ble_eq_true rfl) (bW (by decide)) (jB) (bW (by decide)) (um (by decide) .v .v) (.aC fun _ h=>by cases h)) ?_
       refine gq cX ?_
       refine ab.d_ (σ:=List (Nat × Nat) × Nat × JS × Nat) (pk,kl,⟨U,SH,LS⟩,m) [(8,9)] ⟨pT,OI,h⟩ ?_ (by exact⟨sq,rfl,EI,rfl,rfl,rfl⟩)
       exact Nat.lt_succ_self _
    ·rw [Au,yf] at h
     simp only at h
     refine gq cX ?_
     refine ab.op rfl (ad.iz c3 rfl (Nat.le_of_ble_eq_true rfl) (bW (by decide)) (jB) (bW (by decide)) (um (by decide) .v .v) (.aC fun _ h=>by cases h)) ?_
     refine gq cX ?_
     refine ab.d_ (σ:=List (Nat × Nat) × Nat × JS × Nat) (p0,pn,⟨U,SH,LS⟩,m) [(8,8)] ⟨EJ,OI,h⟩ ?_ (by exact⟨sq,rfl,EI,rfl,rfl,rfl⟩)
     exact Nat.lt_succ_self _
   ·rw [Au] at h
    simp only at h
    refine gq cX ?_
    refine ab.look (ρ:=ρ) (f:=iv) (kv:=sh) rfl rfl rfl rfl (fun sk yf=>?_) (fun yf=>?_)
    ·refine gq cX ?_
     refine ab.op rfl (ad.iz c3 rfl (Nat.le_of_ble_eq_true rfl) (bW (by decide)) (jB) (bW (by decide)) (um (by decide) .v .v) (.aC fun _ h=>by cases h)) ?_
     refine gq cX ?_
     refine ab.d_ (σ:=List (Nat × Nat) × Nat × JS × Nat) (p0,pn,⟨U,SH,LS⟩,m) [(8,8)] ⟨EJ,OI,h⟩ ?_ (by exact⟨sq,rfl,EI,rfl,rfl,rfl⟩)
     exact Nat.lt_succ_self _
    ·refine gq cX ?_
     refine ab.op rfl (ad.iz c3 rfl (Nat.le_of_ble_eq_true rfl) (bW (by decide)) (jB) (bW (by decide)) (um (by decide) .v .v) (.aC fun _ h=>by cases h)) ?_
     refine gq cX ?_
     refine ab.d_ (σ:=List (Nat × Nat) × Nat × JS × Nat) (p0,pn,⟨U,SH,LS⟩,m) [(8,8)] ⟨EJ,OI,h⟩ ?_ (by exact⟨sq,rfl,EI,rfl,rfl,rfl⟩)
     exact Nat.lt_succ_self _
end
end
end Go.Proofs.YtgjfgekaclobaaaGreat
