import Derived.Test.YtbofilglphfceaaGreatD48
namespace Go.Proofs.YtbofilglphfceaaGreat
set_option linter.unusedVariables false
set_option linter.unusedSimpArgs false
open Go.RowKit
section
set_option maxRecDepth 100000
attribute [local irreducible] ag aR aa ab
def KO:CF Tryz.f90:=⟨_,by conv=>lhs;cbv⟩
theorem RX:bN Tryz.prog 90 KO.1 Tryz.f90.ntmps:=cd Tryz.func90 KO.2 Tryz.call90
def kz:List Nat:=[6,0,5,4,1,10,3,18]
def KP:CF Tryz.f29:=⟨_,by conv=>lhs;cbv⟩
theorem RY:bN Tryz.prog 29 KP.1 Tryz.f29.ntmps:=cd Tryz.func29 KP.2 Tryz.call29
def kP:List Nat:=[2,3,5,4,0,1,12,17,36]
section
variable {w0:World}{ρ:Hd}
theorem yb (l:List Gl) (g:Gl) (hl:l.length<=1099511627776) (hx:∀ x ∈ l,sd x) (hg:sd g):ag Tryz.prog w0 90 [gd ρ l,gl ρ g] (iv (l.countP (aI g):Nat)):=by
 obtain⟨R,hR⟩:∃ R,R=((l.countP (aI g):Nat):Int):=⟨_,rfl⟩
 rw [<-hR]
 have PK:=dS (ρ:=ρ) g
 have dW:=lE (ρ:=ρ) g
 refine RX.bc (by simp [Tryz.ntmps90]) (.v) ?_
 refine gq kz ?_
 refine ab.cO (σ:=Int × Int) 1 1 [] (fun p=>[(0,gd ρ l),(3,.pt 0 3 0 0),(5,.v (.int .i64 p.2)),(6,.v (.int .i64 p.1))]) [] (fun _=>[(0,.arr 3 [tI ρ g] 0 true)]) (fun p=>∃ k:Nat,p.1=k/\k<=l.length/\R=p.2+((l.drop k).countP (aI g):Nat)/\0<=p.2/\p.2<=k) (fun p=>l.length - p.1.toNat) (0,0) ⟨0,rfl,by simp,by simpa using hR,by simp,by simp⟩ rfl (by exact⟨sq,rfl,⟨.inl ⟨_,rfl,.arr (by exact⟨kq,trivial⟩)⟩,trivial⟩,rfl,rfl,rfl⟩) ?_
 rintro⟨i,n⟩ ⟨k,hi,hk,hp,h0,TK⟩
 simp only at hi hp h0 TK
 clear hR
 refine gq kz ?_
 by_cases au:k < l.length
 ·obtain⟨x,dR,bI⟩:=aU au
  have cC:=hx x (bO dR)
  have hS:=vi (w0:=w0) (ρ:=ρ) x g ⟨cC.1.len,cC.1.1⟩ ⟨hg.1.len,hg.1.1⟩
  rw [bI,List.countP_cons,nM] at hp
  have iA:=dS (ρ:=ρ) x
  cases hB:aI x g with
  |true =>
   rw [hB] at hp hS
   clear hB cC
   obtain⟨xo,xn,xa⟩:=x
   obtain⟨go,gn,ga⟩:=g
   repeat' (first
    |(refine ab.op rfl (aa.ind rfl rfl (bg (l:=l) hi dR) (ba fun _=>rfl)) ?_;refine gq kz ?_)
    |(refine ab.op rfl (aa.aB rfl hS ⟨iA,PK,trivial⟩) ?_;refine gq kz ?_)
    |(refine bq (fun hb=>?_) (fun hb=>?_)<;>(try simp only [aJ] at hb)<;>(first|refine gq kz ?_))
    |(refine aS fun m hm=>?_;(try rw [aq] at hm);refine gq kz ?_)
    |(refine cQ fun _ _=>?_;refine gq kz ?_)
    |(refine ab.aK ?_;refine gq kz ?_)
    |(refine fq ?_))
   all_goals first
    |(exfalso;omega)
    |(refine ab.cK (σ:=Int × Int) (_,_) [] ?_ ?_ (by exact⟨sq,rfl,⟨.inl ⟨_,rfl,.arr (by exact⟨kq,trivial⟩)⟩,trivial⟩,rfl,rfl,rfl⟩)<;>first|(simp only;omega)|exact⟨k+1,by simp only;omega,by omega,by rw [hp];simp only [if_true];omega,by simp only;omega,by simp only;omega⟩)
  |false =>
   rw [hB] at hp hS
   clear hB cC
   obtain⟨xo,xn,xa⟩:=x
   obtain⟨go,gn,ga⟩:=g
   repeat' (first
    |(refine ab.op rfl (aa.ind rfl rfl (bg (l:=l) hi dR) (ba fun _=>rfl)) ?_;refine gq kz ?_)
    |(refine ab.op rfl (aa.aB rfl hS ⟨iA,PK,trivial⟩) ?_;refine gq kz ?_)
    |(refine bq (fun hb=>?_) (fun hb=>?_)<;>(try simp only [aJ] at hb)<;>(first|refine gq kz ?_))
    |(refine aS fun m hm=>?_;(try rw [aq] at hm);refine gq kz ?_)
    |(refine cQ fun _ _=>?_;refine gq kz ?_)
    |(refine ab.aK ?_;refine gq kz ?_)
    |(refine fq ?_))
   all_goals first
    |(exfalso;omega)
    |(refine ab.cK (σ:=Int × Int) (_,n) [] ?_ ?_ (by exact⟨sq,rfl,⟨.inl ⟨_,rfl,.arr (by exact⟨kq,trivial⟩)⟩,trivial⟩,rfl,rfl,rfl⟩)<;>first|(simp only;omega)|exact⟨k+1,by simp only;omega,by omega,by rw [hp];simp,by simp only;omega,by simp only;omega⟩)
 ·rw [List.drop_eq_nil_of_le (by omega),List.countP_nil] at hp
  repeat' (first
   |(refine bq (fun hb=>?_) (fun hb=>?_)<;>(try simp only [aJ] at hb)<;>(first|refine gq kz ?_))
   |(refine aS fun m hm=>?_;(try rw [aq] at hm);refine gq kz ?_)
   |(refine ab.aK ?_;refine gq kz ?_)
   |(refine fq ?_))
  all_goals first
   |(exfalso;omega)
   |(rw [hp];exact gR (by simp))
theorem Ig (s t:eN) (hs:jE s) (ht:jE t):ag Tryz.prog w0 29 [l8 ρ s,l8 ρ t] (.v (.bool (pc s t))):=by
 have Dk:jE (ee s):=⟨by simp [ee],hs.st,hs.bl,hs.fl,hs.kl,by simp [ee],hs.sx,hs.bx,hs.fx,hs.kx⟩
 have Dl:jE (ee t):=⟨by simp [ee],ht.st,ht.bl,ht.fl,ht.kl,by simp [ee],ht.sx,ht.bx,ht.fx,ht.kx⟩
 have hS:=Kr (w0:=w0) (ρ:=ρ) (ee s) (ee t) Dk Dl
 have Dm:=fa (ρ:=ρ) (ee s)
 have Dn:=fa (ρ:=ρ) (ee t)
 obtain⟨R,hR⟩:∃ R,R=pc s t:=⟨_,rfl⟩
 rw [<-hR]
 unfold pc BP at hR
 generalize hZ:fV (ee s) (ee t)=Z at hS hR
 clear hZ
 have fG:=fun g (hg:g ∈ s.goals)=>yb (w0:=w0) (ρ:=ρ) s.goals g hs.gl hs.gx (hs.gx g hg)
 have jx:=fun g (hg:g ∈ s.goals)=>yb (w0:=w0) (ρ:=ρ) t.goals g ht.gl ht.gx (hs.gx g hg)
 have hl:=hs.gl
 have eD:=ht.gl
 have tE:=hs.gx
 clear hs ht Dk Dl
 obtain⟨goals,store,binds,cn,known,next,fresh,failed⟩:=s
 obtain⟨cT,mW,mX,mY,mZ,next',iB,i_⟩:=t
 dsimp only [ee] at hR hS fG jx hl eD Dm Dn tE
 refine RY.bc (by simp [Tryz.ntmps29]) (.v) ?_
 refine gq kP ?_
 repeat' (first
  |(refine bq (fun hb=>?_) (fun hb=>?_)<;>(try simp only [aJ] at hb)<;>(first|refine gq kP ?_))
  |(refine aS fun m hm=>?_;(try rw [aq] at hm);refine gq kP ?_)
  |(refine fq ?_))
 ·rw [hR,beq_eq_false_iff_ne.2 (by omega)];exact aT rfl
 rw [beq_iff_eq.2 (show goals.length=cT.length by omega),Bool.true_and] at hR
 refine ab.cO (σ:=Int) 2 2 [] (fun i=>[(2,.pt 0 8 0 0),(3,.pt 1 8 0 0),(5,.v (.int .i64 i))]) [] (fun _=>[(0,.arr 8 [pX ρ ⟨goals,store,binds,cn,known,next,fresh,failed⟩] 0 true),(1,.arr 8 [pX ρ ⟨cT,mW,mX,mY,mZ,next',iB,i_⟩] 0 true)])
  (fun i=>∃ k:Nat,i=k/\k<=goals.length/\R=((goals.drop k).all (fun g=>decide (goals.countP (aI g)=cT.countP (aI g))) && Z)) (fun i=>goals.length - i.toNat) 0 ⟨0,rfl,by simp,by simpa using hR⟩ rfl (by exact⟨sq,rfl,⟨.inl ⟨_,rfl,.arr (by exact⟨kq,trivial⟩)⟩,⟨.inl ⟨_,rfl,.arr (by exact⟨kq,trivial⟩)⟩,trivial⟩⟩,rfl,rfl,rfl⟩) ?_
 rintro i ⟨k,hi,hk,hp⟩
 clear hR
 refine gq kP ?_
 by_cases au:k < goals.length
 ·obtain⟨x,dR,bI⟩:=aU au
  have PL:=bO dR
  have h1:=fG x PL
  have h2:=jx x PL
  have iA:=dS (ρ:=ρ) x
  rw [bI,List.all_cons] at hp
  generalize goals.countP (aI x)=n1 at hp h1
  generalize cT.countP (aI x)=n2 at hp h2
  obtain⟨q1,JX⟩:∃ q1:Int,q1=(n1:Int):=⟨_,rfl⟩
  obtain⟨q2,JY⟩:∃ q2:Int,q2=(n2:Int):=⟨_,rfl⟩
  rw [<-JX] at h1
  rw [<-JY] at h2
  obtain⟨xo,xn,xa⟩:=x
  repeat' (first
   |(refine ab.op rfl (aa.ind rfl rfl (bg (l:=goals) hi dR) (ba fun _=>rfl)) ?_;refine gq kP ?_)
   |(refine ab.op rfl (aa.aB rfl h1 ⟨bW _,iA,trivial⟩) ?_;refine gq kP ?_)
   |(refine ab.op rfl (aa.aB rfl h2 ⟨bW _,iA,trivial⟩) ?_;refine gq kP ?_)
   |(refine bq (fun hb=>?_) (fun hb=>?_)<;>(try simp only [aJ] at hb)<;>(first|refine gq kP ?_))
   |(refine aS fun m hm=>?_;(try rw [aq] at hm);refine gq kP ?_)
   |(refine cQ fun _ _=>?_;refine gq kP ?_)
   |(refine ab.aK ?_;refine gq kP ?_)
   |(refine ab.de ?_;refine gq kP ?_)
   |(refine fq ?_))
  all_goals first
   |(exfalso;omega)
   |(rw [hp,decide_eq_false (show ¬ n1=n2 by omega)];exact aT rfl)
   |(rw [decide_eq_true (show n1=n2 by omega),Bool.true_and] at hp
     refine ab.cK (σ:=Int) _ [] ?_ ?_ (by exact⟨sq,rfl,⟨.inl ⟨_,rfl,.arr (by exact⟨kq,trivial⟩)⟩,⟨.inl ⟨_,rfl,.arr (by exact⟨kq,trivial⟩)⟩,trivial⟩⟩,rfl,rfl,rfl⟩)<;>first|omega|exact⟨k+1,by omega,by omega,hp⟩)
 ·rw [List.drop_eq_nil_of_le (by omega),List.all_nil,Bool.true_and] at hp
  repeat' (first
   |(refine ab.op rfl (aa.ea rfl hS ⟨Dm,Dn,trivial⟩ ⟨Wk.agg ⟨Wk.nil,.refl _,.refl _,.refl _,.refl _,.refl _,.refl _,.refl _,trivial⟩,Wk.agg ⟨Wk.nil,.refl _,.refl _,.refl _,.refl _,.refl _,.refl _,.refl _,trivial⟩,trivial⟩) ?_;refine gq kP ?_)
   |(refine bq (fun hb=>?_) (fun hb=>?_)<;>(try simp only [aJ] at hb)<;>(first|refine gq kP ?_))
   |(refine aS fun m hm=>?_;(try rw [aq] at hm);refine gq kP ?_)
   |(refine ab.aK ?_;refine gq kP ?_)
   |(refine fq ?_))
  all_goals first
   |(exfalso;omega)
   |(rw [hp];exact aT rfl)
end
end
end Go.Proofs.YtbofilglphfceaaGreat
