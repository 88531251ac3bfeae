import Derived.Test.YtbofilglphfceaaGreatD44
namespace Go.Proofs.YtbofilglphfceaaGreat
set_option linter.unusedVariables false
set_option linter.unusedSimpArgs false
open Go.RowKit
section
set_option maxRecDepth 100000
attribute [local irreducible] ag aR aa ab
def Ko:CF Tryz.f39:=⟨_,by conv=>lhs;cbv⟩
theorem RB:bN Tryz.prog 39 Ko.1 Tryz.f39.ntmps:=cd Tryz.func39 Ko.2 Tryz.call39
def lR:List Nat:=[5,0,1,4,10,14,41]
def Kp:CF Tryz.f40:=⟨_,by conv=>lhs;cbv⟩
theorem RC:bN Tryz.prog 40 Kp.1 Tryz.f40.ntmps:=cd Tryz.func40 Kp.2 Tryz.call40
def lS:List Nat:=[5,0,1,4,10,20,47]
def Kq:CF Tryz.f41:=⟨_,by conv=>lhs;cbv⟩
theorem RD:bN Tryz.prog 41 Kq.1 Tryz.f41.ntmps:=cd Tryz.func41 Kq.2 Tryz.call41
def lT:List Nat:=[5,0,1,4,10,20,32]
def PJ:CF Tryz.f9:=⟨_,by conv=>lhs;cbv⟩
theorem TJ:bN Tryz.prog 9 PJ.1 Tryz.f9.ntmps:=cd Tryz.func9 PJ.2 Tryz.call9
def g9:List Nat:=[2,3,4,0,1]
section
variable {w0:World}{ρ:Hd}
theorem qk (a b:List Gl) (ha:a.length<=1099511627776) (eG:b.length<=1099511627776) (kO:∀ x ∈ a,sd x) (jF:∀ x ∈ b,sd x):ag Tryz.prog w0 38 [gd ρ a,gd ρ b] (.v (.bool (bP aI a b))):=by
 obtain⟨R,hR⟩:∃ R,R=bP aI a b:=⟨_,rfl⟩
 rw [<-hR]
 refine RA.bc (by simp [Tryz.ntmps38]) (.v) ?_
 refine gq lQ ?_
 repeat' (first
  |(refine bq (fun hb=>?_) (fun hb=>?_)<;>(try simp only [aJ] at hb)<;>(first|refine gq lQ ?_))
  |(refine aS fun m hm=>?_;(try rw [aq] at hm);refine gq lQ ?_)
  |(refine fq ?_))
 ·rw [jr (by omega)] at hR
  rw [hR];exact aT rfl
 have hle:a.length=b.length:=by omega
 refine ab.cO (σ:=Int) 0 0 [] (fun i=>[(0,gd ρ a),(1,gd ρ b),(5,.v (.int .i64 i))]) [] (fun _=>[]) (fun i=>∃ k:Nat,i=k/\k<=a.length/\R=bP aI (a.drop k) (b.drop k)) (fun i=>a.length - i.toNat) 0 ⟨0,rfl,by simp,by simpa using hR⟩ rfl cq ?_
 rintro i ⟨k,hi,hk,hp⟩
 clear hR
 refine gq lQ ?_
 by_cases au:k < a.length
 ·obtain⟨x,hx,bI⟩:=aU au
  obtain⟨y,hy,dL⟩:=aU (l:=b) (k:=k) (by omega)
  have cC:=kO x (bO hx)
  have ku:=jF y (bO hy)
  rw [bI,dL,bP] at hp
  have iA:=dS (ρ:=ρ) x
  have hyp:=dS (ρ:=ρ) y
  have hS:=vi (w0:=w0) (ρ:=ρ) x y ⟨cC.1.len,cC.1.1⟩ ⟨ku.1.len,ku.1.1⟩
  obtain⟨B,hB⟩:∃ b,b=aI x y:=⟨_,rfl⟩
  rw [<-hB] at hp hS
  clear hB cC ku
  obtain⟨xo,xn,xa⟩:=x
  obtain⟨yo,yn,ya⟩:=y
  repeat' (first
   |(refine ab.op rfl (aa.ind rfl rfl (bg (l:=a) hi hx) (ba fun _=>rfl)) ?_;refine gq lQ ?_)
   |(refine ab.op rfl (aa.ind rfl rfl (bg (l:=b) hi hy) (ba fun _=>rfl)) ?_;refine gq lQ ?_)
   |(refine ab.bif rfl (aa.aB rfl hS ⟨iA,hyp,trivial⟩) (fun _=>?_) (fun _=>?_)<;>refine gq lQ ?_)
   |(refine bq (fun hb=>?_) (fun hb=>?_)<;>(try simp only [aJ] at hb)<;>(first|refine gq lQ ?_))
   |(refine aS fun m hm=>?_;(try rw [aq] at hm);refine gq lQ ?_)
   |(refine cQ fun _ _=>?_;refine gq lQ ?_)
   |(refine ab.aK ?_;refine gq lQ ?_)
   |(refine ab.de ?_;refine gq lQ ?_)
   |(refine fq ?_))
  all_goals first
   |(exfalso;omega)
   |(rw [hp,show B=false by assumption];exact aT rfl)
   |(rw [show B=true by assumption,Bool.true_and] at hp
     refine ab.cK (σ:=Int) _ [] ?_ ?_ cq<;>first|omega|exact⟨k+1,by omega,by omega,hp⟩)
 ·rw [List.drop_eq_nil_of_le (by omega),List.drop_eq_nil_of_le (by omega),bP] at hp
  repeat' (first
   |(refine bq (fun hb=>?_) (fun hb=>?_)<;>(try simp only [aJ] at hb)<;>(first|refine gq lQ ?_))
   |(refine aS fun m hm=>?_;(try rw [aq] at hm);refine gq lQ ?_)
   |(refine ab.aK ?_;refine gq lQ ?_)
   |(refine fq ?_))
  all_goals first
   |(exfalso;omega)
   |(rw [hp];exact aT rfl)
theorem wR (a b:List Im) (ha:a.length<=1099511627776) (eG:b.length<=1099511627776) (kO:∀ x ∈ a,Im.ok x) (jF:∀ x ∈ b,Im.ok x):ag Tryz.prog w0 39 [ko ρ a,ko ρ b] (.v (.bool (bP iN a b))):=by
 obtain⟨R,hR⟩:∃ R,R=bP iN a b:=⟨_,rfl⟩
 rw [<-hR]
 refine RB.bc (by simp [Tryz.ntmps39]) (.v) ?_
 refine gq lR ?_
 repeat' (first
  |(refine bq (fun hb=>?_) (fun hb=>?_)<;>(try simp only [aJ] at hb)<;>(first|refine gq lR ?_))
  |(refine aS fun m hm=>?_;(try rw [aq] at hm);refine gq lR ?_)
  |(refine fq ?_))
 ·rw [jr (by omega)] at hR
  rw [hR];exact aT rfl
 have hle:a.length=b.length:=by omega
 refine ab.cO (σ:=Int) 0 0 [] (fun i=>[(0,ko ρ a),(1,ko ρ b),(5,.v (.int .i64 i))]) [] (fun _=>[]) (fun i=>∃ k:Nat,i=k/\k<=a.length/\R=bP iN (a.drop k) (b.drop k)) (fun i=>a.length - i.toNat) 0 ⟨0,rfl,by simp,by simpa using hR⟩ rfl cq ?_
 rintro i ⟨k,hi,hk,hp⟩
 clear hR
 refine gq lR ?_
 by_cases au:k < a.length
 ·obtain⟨x,hx,bI⟩:=aU au
  obtain⟨y,hy,dL⟩:=aU (l:=b) (k:=k) (by omega)
  have cC:=kO x (bO hx)
  have ku:=jF y (bO hy)
  rw [bI,dL,bP] at hp
  have iA:=fC (ρ:=ρ) ⟨x.n,x.a⟩
  have hyp:=fC (ρ:=ρ) ⟨y.n,y.a⟩
  have hS:=D5 (w0:=w0) (ρ:=ρ) ⟨x.n,x.a⟩ ⟨y.n,y.a⟩ ⟨cC.1.len,cC.1.1⟩ ⟨ku.1.len,ku.1.1⟩
  rw [iN] at hp
  obtain⟨B,hB⟩:∃ b,b=(lH ⟨x.n,x.a⟩ ⟨y.n,y.a⟩ == 0):=⟨_,rfl⟩
  rw [<-hB] at hp hS
  clear hB cC ku
  obtain⟨xi,xn,xa⟩:=x
  obtain⟨yi,yn,ya⟩:=y
  dsimp only at hp
  repeat' (first
   |(refine ab.op rfl (aa.ind rfl rfl (bg (l:=a) hi hx) (ba fun _=>rfl)) ?_;refine gq lR ?_)
   |(refine ab.op rfl (aa.ind rfl rfl (bg (l:=b) hi hy) (ba fun _=>rfl)) ?_;refine gq lR ?_)
   |(refine ab.bif rfl (aa.aB rfl hS ⟨iA,hyp,trivial⟩) (fun _=>?_) (fun _=>?_)<;>refine gq lR ?_)
   |(refine bq (fun hb=>?_) (fun hb=>?_)<;>(try simp only [aJ] at hb)<;>(first|refine gq lR ?_))
   |(refine aS fun m hm=>?_;(try rw [aq] at hm);refine gq lR ?_)
   |(refine cQ fun _ _=>?_;refine gq lR ?_)
   |(refine ab.aK ?_;refine gq lR ?_)
   |(refine ab.de ?_;refine gq lR ?_)
   |(refine fq ?_))
  all_goals first
   |(exfalso;omega)
   |(rw [hp,show (xi == yi)=false from beq_eq_false_iff_ne.2 (by omega)];exact aT rfl)
   |(rw [hp,show B=false by assumption];refine aT ?_;simp;done)
   |(rw [show B=true by assumption,show (xi == yi)=true from beq_iff_eq.2 (by omega),Bool.true_and,Bool.true_and] at hp
     refine ab.cK (σ:=Int) _ [] ?_ ?_ cq<;>first|omega|exact⟨k+1,by omega,by omega,hp⟩)
 ·rw [List.drop_eq_nil_of_le (by omega),List.drop_eq_nil_of_le (by omega),bP] at hp
  repeat' (first
   |(refine bq (fun hb=>?_) (fun hb=>?_)<;>(try simp only [aJ] at hb)<;>(first|refine gq lR ?_))
   |(refine aS fun m hm=>?_;(try rw [aq] at hm);refine gq lR ?_)
   |(refine ab.aK ?_;refine gq lR ?_)
   |(refine fq ?_))
  all_goals first
   |(exfalso;omega)
   |(rw [hp];exact aT rfl)
theorem wS (a b:List Bd) (ha:a.length<=1099511627776) (eG:b.length<=1099511627776) (kO:∀ x ∈ a,Bd.ok x) (jF:∀ x ∈ b,Bd.ok x):ag Tryz.prog w0 40 [kp ρ a,kp ρ b] (.v (.bool (bP iO a b))):=by
 obtain⟨R,hR⟩:∃ R,R=bP iO a b:=⟨_,rfl⟩
 rw [<-hR]
 refine RC.bc (by simp [Tryz.ntmps40]) (.v) ?_
 refine gq lS ?_
 repeat' (first
  |(refine bq (fun hb=>?_) (fun hb=>?_)<;>(try simp only [aJ] at hb)<;>(first|refine gq lS ?_))
  |(refine aS fun m hm=>?_;(try rw [aq] at hm);refine gq lS ?_)
  |(refine fq ?_))
 ·rw [jr (by omega)] at hR
  rw [hR];exact aT rfl
 have hle:a.length=b.length:=by omega
 refine ab.cO (σ:=Int) 0 0 [] (fun i=>[(0,kp ρ a),(1,kp ρ b),(5,.v (.int .i64 i))]) [] (fun _=>[]) (fun i=>∃ k:Nat,i=k/\k<=a.length/\R=bP iO (a.drop k) (b.drop k)) (fun i=>a.length - i.toNat) 0 ⟨0,rfl,by simp,by simpa using hR⟩ rfl cq ?_
 rintro i ⟨k,hi,hk,hp⟩
 clear hR
 refine gq lS ?_
 by_cases au:k < a.length
 ·obtain⟨x,hx,bI⟩:=aU au
  obtain⟨y,hy,dL⟩:=aU (l:=b) (k:=k) (by omega)
  have cC:=kO x (bO hx)
  have ku:=jF y (bO hy)
  rw [bI,dL,bP] at hp
  have hS:=HK (w0:=w0) (ρ:=ρ) x.t y.t cC.1 ku.1
  rw [iO] at hp
  obtain⟨B,hB⟩:∃ b,b=(c_ x.t y.t == 0):=⟨_,rfl⟩
  rw [<-hB] at hp hS
  clear hB cC ku
  obtain⟨xv,xk,xi,xn,xa⟩:=x
  obtain⟨yv,yk,yi,yn,ya⟩:=y
  dsimp only at hp
  repeat' (first
   |(refine ab.op rfl (aa.ind rfl rfl (bg (l:=a) hi hx) (ba fun _=>rfl)) ?_;refine gq lS ?_)
   |(refine ab.op rfl (aa.ind rfl rfl (bg (l:=b) hi hy) (ba fun _=>rfl)) ?_;refine gq lS ?_)
   |(refine ab.bif rfl (aa.aB rfl hS ⟨bT (ρ:=ρ) ⟨xk,xi,xn,xa⟩,bT (ρ:=ρ) ⟨yk,yi,yn,ya⟩,trivial⟩) (fun _=>?_) (fun _=>?_)<;>refine gq lS ?_)
   |(refine bq (fun hb=>?_) (fun hb=>?_)<;>(try simp only [aJ] at hb)<;>(first|refine gq lS ?_))
   |(refine aS fun m hm=>?_;(try rw [aq] at hm);refine gq lS ?_)
   |(refine cQ fun _ _=>?_;refine gq lS ?_)
   |(refine ab.aK ?_;refine gq lS ?_)
   |(refine ab.de ?_;refine gq lS ?_)
   |(refine fq ?_))
  all_goals first
   |(exfalso;omega)
   |(rw [hp,show (xv == yv)=false from beq_eq_false_iff_ne.2 (by omega)];exact aT rfl)
   |(rw [hp,show B=false by assumption];refine aT ?_;simp;done)
   |(rw [show B=true by assumption,show (xv == yv)=true from beq_iff_eq.2 (by omega),Bool.true_and,Bool.true_and] at hp
     refine ab.cK (σ:=Int) _ [] ?_ ?_ cq<;>first|omega|exact⟨k+1,by omega,by omega,hp⟩)
 ·rw [List.drop_eq_nil_of_le (by omega),List.drop_eq_nil_of_le (by omega),bP] at hp
  repeat' (first
   |(refine bq (fun hb=>?_) (fun hb=>?_)<;>(try simp only [aJ] at hb)<;>(first|refine gq lS ?_))
   |(refine aS fun m hm=>?_;(try rw [aq] at hm);refine gq lS ?_)
   |(refine ab.aK ?_;refine gq lS ?_)
   |(refine fq ?_))
  all_goals first
   |(exfalso;omega)
   |(rw [hp];exact aT rfl)
theorem BJ (a b:List Fi) (ha:a.length<=1099511627776) (eG:b.length<=1099511627776) (kO:∀ x ∈ a,Fi.ok x) (jF:∀ x ∈ b,Fi.ok x):ag Tryz.prog w0 41 [jC ρ a,jC ρ b] (.v (.bool (bP iP a b))):=by
 obtain⟨R,hR⟩:∃ R,R=bP iP a b:=⟨_,rfl⟩
 rw [<-hR]
 refine RD.bc (by simp [Tryz.ntmps41]) (.v) ?_
 refine gq lT ?_
 repeat' (first
  |(refine bq (fun hb=>?_) (fun hb=>?_)<;>(try simp only [aJ] at hb)<;>(first|refine gq lT ?_))
  |(refine aS fun m hm=>?_;(try rw [aq] at hm);refine gq lT ?_)
  |(refine fq ?_))
 ·rw [jr (by omega)] at hR
  rw [hR];exact aT rfl
 have hle:a.length=b.length:=by omega
 refine ab.cO (σ:=Int) 0 0 [] (fun i=>[(0,jC ρ a),(1,jC ρ b),(5,.v (.int .i64 i))]) [] (fun _=>[]) (fun i=>∃ k:Nat,i=k/\k<=a.length/\R=bP iP (a.drop k) (b.drop k)) (fun i=>a.length - i.toNat) 0 ⟨0,rfl,by simp,by simpa using hR⟩ rfl cq ?_
 rintro i ⟨k,hi,hk,hp⟩
 clear hR
 refine gq lT ?_
 by_cases au:k < a.length
 ·obtain⟨x,hx,bI⟩:=aU au
  obtain⟨y,hy,dL⟩:=aU (l:=b) (k:=k) (by omega)
  have cC:=kO x (bO hx)
  have ku:=jF y (bO hy)
  rw [bI,dL,bP] at hp
  have iA:=hD (ρ:=ρ) x
  have hyp:=hD (ρ:=ρ) y
  have hS:=Kb (w0:=w0) (ρ:=ρ) x y cC ku
  rw [iP] at hp
  obtain⟨C,hC⟩:∃ b,b=jS x y:=⟨_,rfl⟩
  rw [<-hC] at hp hS
  clear hC cC ku
  obtain⟨xr,xs⟩:=x
  obtain⟨yr,ys⟩:=y
  repeat' (first
   |(refine ab.op rfl (aa.ind rfl rfl (bg (l:=a) hi hx) (ba fun _=>rfl)) ?_;refine gq lT ?_)
   |(refine ab.op rfl (aa.ind rfl rfl (bg (l:=b) hi hy) (ba fun _=>rfl)) ?_;refine gq lT ?_)
   |((refine ab.int rfl (aa.aB rfl hS ⟨iA,hyp,trivial⟩) fun d hd=>?_;refine gq lT ?_))
   |(refine bq (fun hb=>?_) (fun hb=>?_)<;>(try simp only [aJ] at hb)<;>(first|refine gq lT ?_))
   |(refine aS fun m hm=>?_;(try rw [aq] at hm);refine gq lT ?_)
   |(refine cQ fun _ _=>?_;refine gq lT ?_)
   |(refine ab.aK ?_;refine gq lT ?_)
   |(refine ab.de ?_;refine gq lT ?_)
   |(refine fq ?_))
  all_goals first
   |(exfalso;omega)
   |(rw [hp,show (C == 0)=false from beq_eq_false_iff_ne.2 (by omega)];exact aT rfl)
   |(rw [show (C == 0)=true from beq_iff_eq.2 (by omega),Bool.true_and] at hp
     refine ab.cK (σ:=Int) _ [] ?_ ?_ cq<;>first|omega|exact⟨k+1,by omega,by omega,hp⟩)
 ·rw [List.drop_eq_nil_of_le (by omega),List.drop_eq_nil_of_le (by omega),bP] at hp
  repeat' (first
   |(refine bq (fun hb=>?_) (fun hb=>?_)<;>(try simp only [aJ] at hb)<;>(first|refine gq lT ?_))
   |(refine aS fun m hm=>?_;(try rw [aq] at hm);refine gq lT ?_)
   |(refine ab.aK ?_;refine gq lT ?_)
   |(refine fq ?_))
  all_goals first
   |(exfalso;omega)
   |(rw [hp];exact aT rfl)
set_option maxHeartbeats 2000000 in
theorem Kr (s t:eN) (hs:jE s) (ht:jE t):ag Tryz.prog w0 9 [l8 ρ s,l8 ρ t] (.v (.bool (fV s t))):=by
 have hG:=qk (w0:=w0) (ρ:=ρ) s.goals t.goals hs.gl ht.gl hs.gx ht.gx
 have hK:=qk (w0:=w0) (ρ:=ρ) s.known t.known hs.kl ht.kl hs.kx ht.kx
 have hM:=wR (w0:=w0) (ρ:=ρ) s.store t.store hs.st ht.st hs.sx ht.sx
 have hB:=wS (w0:=w0) (ρ:=ρ) s.binds t.binds hs.bl ht.bl hs.bx ht.bx
 have hF:=BJ (w0:=w0) (ρ:=ρ) s.cn t.cn hs.fl ht.fl hs.fx ht.fx
 obtain⟨R,hR⟩:∃ R,R=fV s t:=⟨_,rfl⟩
 rw [<-hR]
 unfold fV at hR
 obtain⟨x1,h1⟩:∃ b,b=bP aI s.goals t.goals:=⟨_,rfl⟩
 obtain⟨x2,h2⟩:∃ b,b=bP iN s.store t.store:=⟨_,rfl⟩
 obtain⟨x3,h3⟩:∃ b,b=bP iO s.binds t.binds:=⟨_,rfl⟩
 obtain⟨x4,h4⟩:∃ b,b=bP iP s.cn t.cn:=⟨_,rfl⟩
 obtain⟨x5,h5⟩:∃ b,b=bP aI s.known t.known:=⟨_,rfl⟩
 rw [<-h1,<-h2,<-h3,<-h4,<-h5] at hR
 rw [<-h1] at hG
 rw [<-h2] at hM
 rw [<-h3] at hB
 rw [<-h4] at hF
 rw [<-h5] at hK
 clear h1 h2 h3 h4 h5 hs ht
 obtain⟨goals,store,binds,cn,known,next,fresh,failed⟩:=s
 obtain⟨cT,mW,mX,mY,mZ,next',iB,i_⟩:=t
 dsimp only at hR hG hK hM hB hF
 refine TJ.bc (by simp [Tryz.ntmps9]) (.v) ?_
 refine gq g9 ?_
 repeat' (first
  |(refine ab.bif rfl (aa.aB rfl hG ⟨bW _,bW _,trivial⟩) (fun _=>?_) (fun _=>?_)<;>refine gq g9 ?_)
  |(refine ab.bif rfl (aa.aB rfl hM ⟨cX _,cX _,trivial⟩) (fun _=>?_) (fun _=>?_)<;>refine gq g9 ?_)
  |(refine ab.bif rfl (aa.aB rfl hB ⟨cY _,cY _,trivial⟩) (fun _=>?_) (fun _=>?_)<;>refine gq g9 ?_)
  |(refine ab.bif rfl (aa.aB rfl hF ⟨cZ _,cZ _,trivial⟩) (fun _=>?_) (fun _=>?_)<;>refine gq g9 ?_)
  |(refine ab.bif rfl (aa.aB rfl hK ⟨bW _,bW _,trivial⟩) (fun _=>?_) (fun _=>?_)<;>refine gq g9 ?_)
  |(refine bq (fun hb=>?_) (fun hb=>?_)<;>(try simp only [aJ] at hb)<;>(first|refine gq g9 ?_))
  |(refine fq ?_))
 all_goals first
  |(refine aT ?_;rw [hR,show x1=false by assumption];rfl)
  |(refine aT ?_;rw [hR,show x2=false by assumption];simp;done)
  |(refine aT ?_;rw [hR,show x3=false by assumption];simp;done)
  |(refine aT ?_;rw [hR,show x4=false by assumption];simp;done)
  |(refine aT ?_;rw [hR,show x5=false by assumption];simp;done)
  |(refine aT ?_;rw [hR,show (next == next')=false from beq_eq_false_iff_ne.2 (by omega)];simp;done)
  |(refine aT ?_;rw [hR,show (fresh == iB)=false from beq_eq_false_iff_ne.2 (by omega)];simp;done)
  |(rw [show x1=true by assumption,show x2=true by assumption,show x3=true by assumption,show x4=true by assumption,show x5=true by assumption,show (next == next')=true from beq_iff_eq.2 (by omega),show (fresh == iB)=true from beq_iff_eq.2 (by omega)] at hR
    refine aT ?_;rw [hR];cases failed<;>cases i_<;>simp_all;done)
end
end
end Go.Proofs.YtbofilglphfceaaGreat
