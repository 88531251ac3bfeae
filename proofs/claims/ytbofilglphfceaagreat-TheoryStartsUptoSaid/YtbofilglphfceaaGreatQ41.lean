import Derived.Test.YtbofilglphfceaaGreatQ39
namespace Go.Proofs.YtbofilglphfceaaGreat
set_option linter.unusedVariables false
set_option linter.unusedSimpArgs false
open Go.RowKit
section
set_option maxRecDepth 100000
attribute [local irreducible] ah bc ad ab
def Vp:CF Tryz.f39:=⟨_,by conv=>lhs;cbv⟩
theorem acf:aH Tryz.prog 39 Vp.1 Tryz.f39.ntmps:=aQ Tryz.func39 Vp.2 Tryz.call39
def qE:List Nat:=[5,0,1,4,10,14,41]
def Vq:CF Tryz.f40:=⟨_,by conv=>lhs;cbv⟩
theorem acg:aH Tryz.prog 40 Vq.1 Tryz.f40.ntmps:=aQ Tryz.func40 Vq.2 Tryz.call40
def qF:List Nat:=[5,0,1,4,10,20,47]
def Vr:CF Tryz.f41:=⟨_,by conv=>lhs;cbv⟩
theorem ach:aH Tryz.prog 41 Vr.1 Tryz.f41.ntmps:=aQ Tryz.func41 Vr.2 Tryz.call41
def qG:List Nat:=[5,0,1,4,10,20,32]
def qp9:CF Tryz.f9:=⟨_,by conv=>lhs;cbv⟩
theorem qf9:aH Tryz.prog 9 qp9.1 Tryz.f9.ntmps:=aQ Tryz.func9 qp9.2 Tryz.call9
def g9:List Nat:=[2,3,4,0,1]
section
variable {w0:World}{ρ:Hd}
theorem wB (a b:List Gl) (ha:a.length<=1099511627776) (fL:b.length<=1099511627776) (o8:∀ x ∈ a,r6 x) (lU:∀ x ∈ b,r6 x):ah Tryz.prog w0 38 [cO ρ a,cO ρ b] (.v (.bool (cR iy a b))):=by
 obtain⟨R,hR⟩:∃ R,R=cR iy a b:=⟨_,rfl⟩
 rw [<-hR]
 refine ab4.aG (by simp [Tryz.ntmps38]) (.v) ?_
 refine gq qB ?_
 repeat' (first
  |(refine bq (fun hb=>?_) (fun hb=>?_)<;>(try simp only [aq] at hb)<;>(first|refine gq qB ?_))
  |(refine aB fun m hm=>?_;(try rw [af] at hm);refine gq qB ?_)
  |(refine fq ?_))
 ·rw [mU (by omega)] at hR
  rw [hR];exact aC rfl
 have hle:a.length=b.length:=by omega
 refine ab.aP (σ:=Int) 0 0 [] (fun i=>[(0,cO ρ a),(1,cO ρ b),(5,.v (.int .i64 i))]) [] (fun _=>[]) (fun i=>∃ k:Nat,i=k/\k<=a.length/\R=cR iy (a.drop k) (b.drop k)) (fun i=>a.length - i.toNat) 0 ⟨0,rfl,by simp,by simpa using hR⟩ rfl cq ?_
 rintro i ⟨k,hi,hk,hp⟩
 clear hR
 refine gq qB ?_
 by_cases au:k < a.length
 ·obtain⟨x,hx,aO⟩:=az au
  obtain⟨y,hy,cP⟩:=az (l:=b) (k:=k) (by omega)
  have dV:=o8 x (aY hx)
  have sL:=lU y (aY hy)
  rw [aO,cP,cR] at hp
  have gn:=dy (ρ:=ρ) x
  have hyp:=dy (ρ:=ρ) y
  have hS:=K_ (w0:=w0) (ρ:=ρ) x y ⟨dV.1.len,dV.1.1⟩ ⟨sL.1.len,sL.1.1⟩
  obtain⟨B,hB⟩:∃ b,b=iy x y:=⟨_,rfl⟩
  rw [<-hB] at hp hS
  clear hB dV sL
  obtain⟨xo,xn,xa⟩:=x
  obtain⟨yo,yn,ya⟩:=y
  repeat' (first
   |(refine ab.op rfl (ad.ind rfl rfl (ay (l:=a) hi hx) (aw fun _=>rfl)) ?_;refine gq qB ?_)
   |(refine ab.op rfl (ad.ind rfl rfl (ay (l:=b) hi hy) (aw fun _=>rfl)) ?_;refine gq qB ?_)
   |(refine ab.a_ rfl (ad.ag rfl hS ⟨gn,hyp,trivial⟩) (fun _=>?_) (fun _=>?_)<;>refine gq qB ?_)
   |(refine bq (fun hb=>?_) (fun hb=>?_)<;>(try simp only [aq] at hb)<;>(first|refine gq qB ?_))
   |(refine aB fun m hm=>?_;(try rw [af] at hm);refine gq qB ?_)
   |(refine aS fun _ _=>?_;refine gq qB ?_)
   |(refine ab.ao ?_;refine gq qB ?_)
   |(refine ab.bJ ?_;refine gq qB ?_)
   |(refine fq ?_))
  all_goals first
   |(exfalso;omega)
   |(rw [hp,show B=false by assumption];exact aC rfl)
   |(rw [show B=true by assumption,Bool.true_and] at hp
     refine ab.aL (σ:=Int) _ [] ?_ ?_ cq<;>first|omega|exact⟨k+1,by omega,by omega,hp⟩)
 ·rw [List.drop_eq_nil_of_le (by omega),List.drop_eq_nil_of_le (by omega),cR] at hp
  repeat' (first
   |(refine bq (fun hb=>?_) (fun hb=>?_)<;>(try simp only [aq] at hb)<;>(first|refine gq qB ?_))
   |(refine aB fun m hm=>?_;(try rw [af] at hm);refine gq qB ?_)
   |(refine ab.ao ?_;refine gq qB ?_)
   |(refine fq ?_))
  all_goals first
   |(exfalso;omega)
   |(rw [hp];exact aC rfl)
theorem Eg (a b:List Im) (ha:a.length<=1099511627776) (fL:b.length<=1099511627776) (o8:∀ x ∈ a,Im.ok x) (lU:∀ x ∈ b,Im.ok x):ah Tryz.prog w0 39 [fJ ρ a,fJ ρ b] (.v (.bool (cR nX a b))):=by
 obtain⟨R,hR⟩:∃ R,R=cR nX a b:=⟨_,rfl⟩
 rw [<-hR]
 refine acf.aG (by simp [Tryz.ntmps39]) (.v) ?_
 refine gq qE ?_
 repeat' (first
  |(refine bq (fun hb=>?_) (fun hb=>?_)<;>(try simp only [aq] at hb)<;>(first|refine gq qE ?_))
  |(refine aB fun m hm=>?_;(try rw [af] at hm);refine gq qE ?_)
  |(refine fq ?_))
 ·rw [mU (by omega)] at hR
  rw [hR];exact aC rfl
 have hle:a.length=b.length:=by omega
 refine ab.aP (σ:=Int) 0 0 [] (fun i=>[(0,fJ ρ a),(1,fJ ρ b),(5,.v (.int .i64 i))]) [] (fun _=>[]) (fun i=>∃ k:Nat,i=k/\k<=a.length/\R=cR nX (a.drop k) (b.drop k)) (fun i=>a.length - i.toNat) 0 ⟨0,rfl,by simp,by simpa using hR⟩ rfl cq ?_
 rintro i ⟨k,hi,hk,hp⟩
 clear hR
 refine gq qE ?_
 by_cases au:k < a.length
 ·obtain⟨x,hx,aO⟩:=az au
  obtain⟨y,hy,cP⟩:=az (l:=b) (k:=k) (by omega)
  have dV:=o8 x (aY hx)
  have sL:=lU y (aY hy)
  rw [aO,cP,cR] at hp
  have gn:=de (ρ:=ρ) ⟨x.n,x.a⟩
  have hyp:=de (ρ:=ρ) ⟨y.n,y.a⟩
  have hS:=K9 (w0:=w0) (ρ:=ρ) ⟨x.n,x.a⟩ ⟨y.n,y.a⟩ ⟨dV.1.len,dV.1.1⟩ ⟨sL.1.len,sL.1.1⟩
  rw [nX] at hp
  obtain⟨B,hB⟩:∃ b,b=(rP ⟨x.n,x.a⟩ ⟨y.n,y.a⟩ == 0):=⟨_,rfl⟩
  rw [<-hB] at hp hS
  clear hB dV sL
  obtain⟨xi,xn,xa⟩:=x
  obtain⟨yi,yn,ya⟩:=y
  dsimp only at hp
  repeat' (first
   |(refine ab.op rfl (ad.ind rfl rfl (ay (l:=a) hi hx) (aw fun _=>rfl)) ?_;refine gq qE ?_)
   |(refine ab.op rfl (ad.ind rfl rfl (ay (l:=b) hi hy) (aw fun _=>rfl)) ?_;refine gq qE ?_)
   |(refine ab.a_ rfl (ad.ag rfl hS ⟨gn,hyp,trivial⟩) (fun _=>?_) (fun _=>?_)<;>refine gq qE ?_)
   |(refine bq (fun hb=>?_) (fun hb=>?_)<;>(try simp only [aq] at hb)<;>(first|refine gq qE ?_))
   |(refine aB fun m hm=>?_;(try rw [af] at hm);refine gq qE ?_)
   |(refine aS fun _ _=>?_;refine gq qE ?_)
   |(refine ab.ao ?_;refine gq qE ?_)
   |(refine ab.bJ ?_;refine gq qE ?_)
   |(refine fq ?_))
  all_goals first
   |(exfalso;omega)
   |(rw [hp,show (xi == yi)=false from beq_eq_false_iff_ne.2 (by omega)];exact aC rfl)
   |(rw [hp,show B=false by assumption];refine aC ?_;simp;done)
   |(rw [show B=true by assumption,show (xi == yi)=true from beq_iff_eq.2 (by omega),Bool.true_and,Bool.true_and] at hp
     refine ab.aL (σ:=Int) _ [] ?_ ?_ cq<;>first|omega|exact⟨k+1,by omega,by omega,hp⟩)
 ·rw [List.drop_eq_nil_of_le (by omega),List.drop_eq_nil_of_le (by omega),cR] at hp
  repeat' (first
   |(refine bq (fun hb=>?_) (fun hb=>?_)<;>(try simp only [aq] at hb)<;>(first|refine gq qE ?_))
   |(refine aB fun m hm=>?_;(try rw [af] at hm);refine gq qE ?_)
   |(refine ab.ao ?_;refine gq qE ?_)
   |(refine fq ?_))
  all_goals first
   |(exfalso;omega)
   |(rw [hp];exact aC rfl)
theorem Eh (a b:List Bd) (ha:a.length<=1099511627776) (fL:b.length<=1099511627776) (o8:∀ x ∈ a,Bd.ok x) (lU:∀ x ∈ b,Bd.ok x):ah Tryz.prog w0 40 [eJ ρ a,eJ ρ b] (.v (.bool (cR nY a b))):=by
 obtain⟨R,hR⟩:∃ R,R=cR nY a b:=⟨_,rfl⟩
 rw [<-hR]
 refine acg.aG (by simp [Tryz.ntmps40]) (.v) ?_
 refine gq qF ?_
 repeat' (first
  |(refine bq (fun hb=>?_) (fun hb=>?_)<;>(try simp only [aq] at hb)<;>(first|refine gq qF ?_))
  |(refine aB fun m hm=>?_;(try rw [af] at hm);refine gq qF ?_)
  |(refine fq ?_))
 ·rw [mU (by omega)] at hR
  rw [hR];exact aC rfl
 have hle:a.length=b.length:=by omega
 refine ab.aP (σ:=Int) 0 0 [] (fun i=>[(0,eJ ρ a),(1,eJ ρ b),(5,.v (.int .i64 i))]) [] (fun _=>[]) (fun i=>∃ k:Nat,i=k/\k<=a.length/\R=cR nY (a.drop k) (b.drop k)) (fun i=>a.length - i.toNat) 0 ⟨0,rfl,by simp,by simpa using hR⟩ rfl cq ?_
 rintro i ⟨k,hi,hk,hp⟩
 clear hR
 refine gq qF ?_
 by_cases au:k < a.length
 ·obtain⟨x,hx,aO⟩:=az au
  obtain⟨y,hy,cP⟩:=az (l:=b) (k:=k) (by omega)
  have dV:=o8 x (aY hx)
  have sL:=lU y (aY hy)
  rw [aO,cP,cR] at hp
  have hS:=QE (w0:=w0) (ρ:=ρ) x.t y.t dV.1 sL.1
  rw [nY] at hp
  obtain⟨B,hB⟩:∃ b,b=(fy x.t y.t == 0):=⟨_,rfl⟩
  rw [<-hB] at hp hS
  clear hB dV sL
  obtain⟨xv,xk,xi,xn,xa⟩:=x
  obtain⟨yv,yk,yi,yn,ya⟩:=y
  dsimp only at hp
  repeat' (first
   |(refine ab.op rfl (ad.ind rfl rfl (ay (l:=a) hi hx) (aw fun _=>rfl)) ?_;refine gq qF ?_)
   |(refine ab.op rfl (ad.ind rfl rfl (ay (l:=b) hi hy) (aw fun _=>rfl)) ?_;refine gq qF ?_)
   |(refine ab.a_ rfl (ad.ag rfl hS ⟨ba (ρ:=ρ) ⟨xk,xi,xn,xa⟩,ba (ρ:=ρ) ⟨yk,yi,yn,ya⟩,trivial⟩) (fun _=>?_) (fun _=>?_)<;>refine gq qF ?_)
   |(refine bq (fun hb=>?_) (fun hb=>?_)<;>(try simp only [aq] at hb)<;>(first|refine gq qF ?_))
   |(refine aB fun m hm=>?_;(try rw [af] at hm);refine gq qF ?_)
   |(refine aS fun _ _=>?_;refine gq qF ?_)
   |(refine ab.ao ?_;refine gq qF ?_)
   |(refine ab.bJ ?_;refine gq qF ?_)
   |(refine fq ?_))
  all_goals first
   |(exfalso;omega)
   |(rw [hp,show (xv == yv)=false from beq_eq_false_iff_ne.2 (by omega)];exact aC rfl)
   |(rw [hp,show B=false by assumption];refine aC ?_;simp;done)
   |(rw [show B=true by assumption,show (xv == yv)=true from beq_iff_eq.2 (by omega),Bool.true_and,Bool.true_and] at hp
     refine ab.aL (σ:=Int) _ [] ?_ ?_ cq<;>first|omega|exact⟨k+1,by omega,by omega,hp⟩)
 ·rw [List.drop_eq_nil_of_le (by omega),List.drop_eq_nil_of_le (by omega),cR] at hp
  repeat' (first
   |(refine bq (fun hb=>?_) (fun hb=>?_)<;>(try simp only [aq] at hb)<;>(first|refine gq qF ?_))
   |(refine aB fun m hm=>?_;(try rw [af] at hm);refine gq qF ?_)
   |(refine ab.ao ?_;refine gq qF ?_)
   |(refine fq ?_))
  all_goals first
   |(exfalso;omega)
   |(rw [hp];exact aC rfl)
theorem G2 (a b:List Fi) (ha:a.length<=1099511627776) (fL:b.length<=1099511627776) (o8:∀ x ∈ a,Fi.ok x) (lU:∀ x ∈ b,Fi.ok x):ah Tryz.prog w0 41 [gO ρ a,gO ρ b] (.v (.bool (cR nZ a b))):=by
 obtain⟨R,hR⟩:∃ R,R=cR nZ a b:=⟨_,rfl⟩
 rw [<-hR]
 refine ach.aG (by simp [Tryz.ntmps41]) (.v) ?_
 refine gq qG ?_
 repeat' (first
  |(refine bq (fun hb=>?_) (fun hb=>?_)<;>(try simp only [aq] at hb)<;>(first|refine gq qG ?_))
  |(refine aB fun m hm=>?_;(try rw [af] at hm);refine gq qG ?_)
  |(refine fq ?_))
 ·rw [mU (by omega)] at hR
  rw [hR];exact aC rfl
 have hle:a.length=b.length:=by omega
 refine ab.aP (σ:=Int) 0 0 [] (fun i=>[(0,gO ρ a),(1,gO ρ b),(5,.v (.int .i64 i))]) [] (fun _=>[]) (fun i=>∃ k:Nat,i=k/\k<=a.length/\R=cR nZ (a.drop k) (b.drop k)) (fun i=>a.length - i.toNat) 0 ⟨0,rfl,by simp,by simpa using hR⟩ rfl cq ?_
 rintro i ⟨k,hi,hk,hp⟩
 clear hR
 refine gq qG ?_
 by_cases au:k < a.length
 ·obtain⟨x,hx,aO⟩:=az au
  obtain⟨y,hy,cP⟩:=az (l:=b) (k:=k) (by omega)
  have dV:=o8 x (aY hx)
  have sL:=lU y (aY hy)
  rw [aO,cP,cR] at hp
  have gn:=eu (ρ:=ρ) x
  have hyp:=eu (ρ:=ρ) y
  have hS:=JE (w0:=w0) (ρ:=ρ) x y dV sL
  rw [nZ] at hp
  obtain⟨C,hC⟩:∃ b,b=mc x y:=⟨_,rfl⟩
  rw [<-hC] at hp hS
  clear hC dV sL
  obtain⟨xr,xs⟩:=x
  obtain⟨yr,ys⟩:=y
  repeat' (first
   |(refine ab.op rfl (ad.ind rfl rfl (ay (l:=a) hi hx) (aw fun _=>rfl)) ?_;refine gq qG ?_)
   |(refine ab.op rfl (ad.ind rfl rfl (ay (l:=b) hi hy) (aw fun _=>rfl)) ?_;refine gq qG ?_)
   |((refine ab.int rfl (ad.ag rfl hS ⟨gn,hyp,trivial⟩) fun d hd=>?_;refine gq qG ?_))
   |(refine bq (fun hb=>?_) (fun hb=>?_)<;>(try simp only [aq] at hb)<;>(first|refine gq qG ?_))
   |(refine aB fun m hm=>?_;(try rw [af] at hm);refine gq qG ?_)
   |(refine aS fun _ _=>?_;refine gq qG ?_)
   |(refine ab.ao ?_;refine gq qG ?_)
   |(refine ab.bJ ?_;refine gq qG ?_)
   |(refine fq ?_))
  all_goals first
   |(exfalso;omega)
   |(rw [hp,show (C == 0)=false from beq_eq_false_iff_ne.2 (by omega)];exact aC rfl)
   |(rw [show (C == 0)=true from beq_iff_eq.2 (by omega),Bool.true_and] at hp
     refine ab.aL (σ:=Int) _ [] ?_ ?_ cq<;>first|omega|exact⟨k+1,by omega,by omega,hp⟩)
 ·rw [List.drop_eq_nil_of_le (by omega),List.drop_eq_nil_of_le (by omega),cR] at hp
  repeat' (first
   |(refine bq (fun hb=>?_) (fun hb=>?_)<;>(try simp only [aq] at hb)<;>(first|refine gq qG ?_))
   |(refine aB fun m hm=>?_;(try rw [af] at hm);refine gq qG ?_)
   |(refine ab.ao ?_;refine gq qG ?_)
   |(refine fq ?_))
  all_goals first
   |(exfalso;omega)
   |(rw [hp];exact aC rfl)
set_option maxHeartbeats 2000000 in
theorem IU (s t:dP) (hs:v8 s) (ht:v8 t):ah Tryz.prog w0 9 [r5 ρ s,r5 ρ t] (.v (.bool (pb s t))):=by
 have hG:=wB (w0:=w0) (ρ:=ρ) s.goals t.goals hs.gl ht.gl hs.gx ht.gx
 have hK:=wB (w0:=w0) (ρ:=ρ) s.known t.known hs.kl ht.kl hs.kx ht.kx
 have hM:=Eg (w0:=w0) (ρ:=ρ) s.store t.store hs.st ht.st hs.sx ht.sx
 have hB:=Eh (w0:=w0) (ρ:=ρ) s.binds t.binds hs.bl ht.bl hs.bx ht.bx
 have hF:=G2 (w0:=w0) (ρ:=ρ) s.cg t.cg hs.fl ht.fl hs.fx ht.fx
 obtain⟨R,hR⟩:∃ R,R=pb s t:=⟨_,rfl⟩
 rw [<-hR]
 unfold pb at hR
 obtain⟨x1,h1⟩:∃ b,b=cR iy s.goals t.goals:=⟨_,rfl⟩
 obtain⟨x2,h2⟩:∃ b,b=cR nX s.store t.store:=⟨_,rfl⟩
 obtain⟨x3,h3⟩:∃ b,b=cR nY s.binds t.binds:=⟨_,rfl⟩
 obtain⟨x4,h4⟩:∃ b,b=cR nZ s.cg t.cg:=⟨_,rfl⟩
 obtain⟨x5,h5⟩:∃ b,b=cR iy s.known t.known:=⟨_,rfl⟩
 rw [<-h1,<-h2,<-h3,<-h4,<-h5] at hR
 rw [<-h1] at hG
 rw [<-h2] at hM
 rw [<-h3] at hB
 rw [<-h4] at hF
 rw [<-h5] at hK
 clear h1 h2 h3 h4 h5 hs ht
 obtain⟨goals,store,binds,cg,known,next,fresh,failed⟩:=s
 obtain⟨U_,Va,Vb,Vc,Vd,next',u0,zR⟩:=t
 dsimp only at hR hG hK hM hB hF
 refine qf9.aG (by simp [Tryz.ntmps9]) (.v) ?_
 refine gq g9 ?_
 repeat' (first
  |(refine ab.a_ rfl (ad.ag rfl hG ⟨bw _,bw _,trivial⟩) (fun _=>?_) (fun _=>?_)<;>refine gq g9 ?_)
  |(refine ab.a_ rfl (ad.ag rfl hM ⟨cb _,cb _,trivial⟩) (fun _=>?_) (fun _=>?_)<;>refine gq g9 ?_)
  |(refine ab.a_ rfl (ad.ag rfl hB ⟨bT _,bT _,trivial⟩) (fun _=>?_) (fun _=>?_)<;>refine gq g9 ?_)
  |(refine ab.a_ rfl (ad.ag rfl hF ⟨cJ _,cJ _,trivial⟩) (fun _=>?_) (fun _=>?_)<;>refine gq g9 ?_)
  |(refine ab.a_ rfl (ad.ag rfl hK ⟨bw _,bw _,trivial⟩) (fun _=>?_) (fun _=>?_)<;>refine gq g9 ?_)
  |(refine bq (fun hb=>?_) (fun hb=>?_)<;>(try simp only [aq] at hb)<;>(first|refine gq g9 ?_))
  |(refine fq ?_))
 all_goals first
  |(refine aC ?_;rw [hR,show x1=false by assumption];rfl)
  |(refine aC ?_;rw [hR,show x2=false by assumption];simp;done)
  |(refine aC ?_;rw [hR,show x3=false by assumption];simp;done)
  |(refine aC ?_;rw [hR,show x4=false by assumption];simp;done)
  |(refine aC ?_;rw [hR,show x5=false by assumption];simp;done)
  |(refine aC ?_;rw [hR,show (next == next')=false from beq_eq_false_iff_ne.2 (by omega)];simp;done)
  |(refine aC ?_;rw [hR,show (fresh == u0)=false from beq_eq_false_iff_ne.2 (by omega)];simp;done)
  |(rw [show x1=true by assumption,show x2=true by assumption,show x3=true by assumption,show x4=true by assumption,show x5=true by assumption,show (next == next')=true from beq_iff_eq.2 (by omega),show (fresh == u0)=true from beq_iff_eq.2 (by omega)] at hR
    refine aC ?_;rw [hR];cases failed<;>cases zR<;>simp_all;done)
end
end
end Go.Proofs.YtbofilglphfceaaGreat
