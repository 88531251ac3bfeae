import Derived.Test.YtbofilglphfceaaGreatD43
namespace Go.Proofs.YtbofilglphfceaaGreat
set_option linter.unusedVariables false
set_option linter.unusedSimpArgs false
open Go.RowKit
section
set_option maxRecDepth 100000
attribute [local irreducible] ag aR aa ab
def G5:CF Tryz.f138:=⟨_,by conv=>lhs;cbv⟩
theorem Ok:bN Tryz.prog 138 G5.1 Tryz.f138.ntmps:=cd Tryz.func138 G5.2 Tryz.call138
def Fj:List Nat:=[2,3,4,0,1]
def G6:CF Tryz.f141:=⟨_,by conv=>lhs;cbv⟩
theorem Ol:bN Tryz.prog 141 G6.1 Tryz.f141.ntmps:=cd Tryz.func141 G6.2 Tryz.call141
def Fk:List Nat:=[2,3,4,0,1]
def G7:CF Tryz.f144:=⟨_,by conv=>lhs;cbv⟩
theorem Om:bN Tryz.prog 144 G7.1 Tryz.f144.ntmps:=cd Tryz.func144 G7.2 Tryz.call144
def Fl:List Nat:=[4,0,1,2,3]
def Kg:CF Tryz.f63:=⟨_,by conv=>lhs;cbv⟩
theorem Rw:bN Tryz.prog 63 Kg.1 Tryz.f63.ntmps:=cd Tryz.func63 Kg.2 Tryz.call63
def PG:List Nat:=[4,0,1]
def Kh:CF Tryz.f64:=⟨_,by conv=>lhs;cbv⟩
theorem Rx:bN Tryz.prog 64 Kh.1 Tryz.f64.ntmps:=cd Tryz.func64 Kh.2 Tryz.call64
def PH:List Nat:=[4,0,1]
def Ki:CF Tryz.f65:=⟨_,by conv=>lhs;cbv⟩
theorem Ry:bN Tryz.prog 65 Ki.1 Tryz.f65.ntmps:=cd Tryz.func65 Ki.2 Tryz.call65
def PI:List Nat:=[4,0,1]
def Kj:CF Tryz.f14:=⟨_,by conv=>lhs;cbv⟩
theorem Rz:bN Tryz.prog 14 Kj.1 Tryz.f14.ntmps:=cd Tryz.func14 Kj.2 Tryz.call14
def v_:List Nat:=[2,3,4,0,1]
def iN (x y:Im):Bool:=x.id == y.id && lH ⟨x.n,x.a⟩ ⟨y.n,y.a⟩ == 0
def iO (x y:Bd):Bool:=x.v == y.v && c_ x.t y.t == 0
def iP (x y:Fi):Bool:=jS x y == 0
def fV (s t:eN):Bool:=bP aI s.goals t.goals && (bP iN s.store t.store && (bP iO s.binds t.binds && (bP iP s.cn t.cn && (bP aI s.known t.known && (s.next == t.next && (s.fresh == t.fresh && s.failed == t.failed))))))
theorem se {g:FuncId}:Wk (.v (.func (.func g) #[] #[])) (.fn (.func g) [] []):=fun gg w x h=>by
 have e:=a_ h
 subst e
 exact .fn rfl rfl (fun i a y h=>by simp at h) (fun i a y h=>by simp at h)
section
variable {w0:World}{ρ:Hd}
theorem Kk (x y:Im) (hx:x.ok) (hy:y.ok):ag Tryz.prog w0 138 [it ρ x,it ρ y] (.v (.bool (iN x y))):=by
 have hA:=HL (w0:=w0) (ρ:=ρ) ⟨x.n,x.a⟩ ⟨y.n,y.a⟩ ⟨hx.1.len,hx.1.1⟩ ⟨hy.1.len,hy.1.1⟩
 have iA:=fC (ρ:=ρ) ⟨x.n,x.a⟩
 have hyp:=fC (ρ:=ρ) ⟨y.n,y.a⟩
 unfold iN
 obtain⟨B,hB⟩:∃ b,b=(lH ⟨x.n,x.a⟩ ⟨y.n,y.a⟩ == 0):=⟨_,rfl⟩
 rw [<-hB] at hA ⊢
 clear hB
 obtain⟨xi,xn,xa⟩:=x
 obtain⟨yi,yn,ya⟩:=y
 refine Ok.bc (by simp [Tryz.ntmps138]) (.v) ?_
 refine gq Fj ?_
 repeat' (first
  |(refine ab.bif rfl (aa.aB rfl hA ⟨iA,hyp,trivial⟩) (fun _=>?_) (fun _=>?_)<;>refine gq Fj ?_)
  |(refine bq (fun hb=>?_) (fun hb=>?_)<;>(try simp only [aJ] at hb)<;>(first|refine gq Fj ?_))
  |(refine fq ?_))
 all_goals first
  |(refine aT ?_;rw [show B=true by assumption,show (xi == yi)=true from beq_iff_eq.2 (by omega)];rfl)
  |(refine aT ?_;rw [show B=false by assumption];simp;done)
  |(refine aT ?_;rw [show (xi == yi)=false from beq_eq_false_iff_ne.2 (by omega)];rfl)
theorem Kl (x y:Bd) (hx:x.ok) (hy:y.ok):ag Tryz.prog w0 141 [bd ρ x,bd ρ y] (.v (.bool (iO x y))):=by
 have hA:=Jl (w0:=w0) (ρ:=ρ) x.t y.t hx.1 hy.1
 unfold iO
 obtain⟨B,hB⟩:∃ b,b=(c_ x.t y.t == 0):=⟨_,rfl⟩
 rw [<-hB] at hA ⊢
 clear hB
 obtain⟨xv,xk,xi,xn,xa⟩:=x
 obtain⟨yv,yk,yi,yn,ya⟩:=y
 refine Ol.bc (by simp [Tryz.ntmps141]) (.v) ?_
 refine gq Fk ?_
 repeat' (first
  |(refine ab.bif rfl (aa.aB rfl hA ⟨bT (ρ:=ρ) ⟨xk,xi,xn,xa⟩,bT (ρ:=ρ) ⟨yk,yi,yn,ya⟩,trivial⟩) (fun _=>?_) (fun _=>?_)<;>refine gq Fk ?_)
  |(refine bq (fun hb=>?_) (fun hb=>?_)<;>(try simp only [aJ] at hb)<;>(first|refine gq Fk ?_))
  |(refine fq ?_))
 all_goals first
  |(refine aT ?_;rw [show B=true by assumption,show (xv == yv)=true from beq_iff_eq.2 (by omega)];rfl)
  |(refine aT ?_;rw [show B=false by assumption];simp;done)
  |(refine aT ?_;rw [show (xv == yv)=false from beq_eq_false_iff_ne.2 (by omega)];rfl)
theorem Km (x y:Fi) (hx:x.ok) (hy:y.ok):ag Tryz.prog w0 144 [fi ρ x,fi ρ y] (.v (.bool (iP x y))):=by
 have hA:=Ka (w0:=w0) (ρ:=ρ) x y hx hy
 unfold iP
 obtain⟨C,hC⟩:∃ b,b=jS x y:=⟨_,rfl⟩
 rw [<-hC] at hA ⊢
 clear hC
 have iA:=hD (ρ:=ρ) x
 have hyp:=hD (ρ:=ρ) y
 obtain⟨xr,xs⟩:=x
 obtain⟨yr,ys⟩:=y
 refine Om.bc (by simp [Tryz.ntmps144]) (.v) ?_
 refine gq Fl ?_
 repeat' (first
  |((refine ab.int rfl (aa.aB rfl hA ⟨iA,hyp,trivial⟩) fun d hd=>?_;refine gq Fl ?_))
  |(refine bq (fun hb=>?_) (fun hb=>?_)<;>(try simp only [aJ] at hb)<;>(first|refine gq Fl ?_))
  |(refine fq ?_))
 all_goals first
  |(refine aT ?_;rw [show (C == 0)=true from beq_iff_eq.2 (by omega)];done)
  |(refine aT ?_;rw [show (C == 0)=false from beq_eq_false_iff_ne.2 (by omega)];done)
end
end
section
set_option maxRecDepth 100000
attribute [local irreducible] ag aR aa ab
def Kn:CF Tryz.f38:=⟨_,by conv=>lhs;cbv⟩
theorem RA:bN Tryz.prog 38 Kn.1 Tryz.f38.ntmps:=cd Tryz.func38 Kn.2 Tryz.call38
def lQ:List Nat:=[5,0,1,4,10,14,26]
section
variable {w0:World}{ρ:Hd}
theorem j3 {a:AV}:Wk a a:=fun _ _ _ h=>h
theorem gy (g:FuncId):Pure (.fn (.func g) [] []):=.fn (fun a ha=>by cases ha) fun a ha=>by cases ha
theorem wP (a b:List Im) (ha:a.length<=1099511627776) (eG:b.length<=1099511627776) (kO:∀ x ∈ a,x.ok) (jF:∀ x ∈ b,x.ok):ag Tryz.prog w0 63 [ko ρ a,ko ρ b] (.v (.bool (bP iN a b))):=by
 have hE:=Oe (w0:=w0) (ρ:=ρ) iN a b 138 [] [] ha eG (gy _) fun x hx y hy=>⟨_,_,rfl,⟨mL x,mL y,trivial⟩,Kk x y (kO x hx) (jF y hy)⟩
 obtain⟨R,hR⟩:∃ R,R=bP iN a b:=⟨_,rfl⟩
 rw [<-hR] at hE ⊢
 clear hR kO jF
 refine Rw.bc (by simp [Tryz.ntmps63]) (.v) ?_
 refine gq PG ?_
 repeat' (first
  |(refine ab.bif rfl (aa.ea rfl hE ⟨cX _,cX _,gy _,trivial⟩ ⟨j3,j3,se,trivial⟩) (fun _=>?_) (fun _=>?_)<;>refine gq PG ?_)
  |(refine fq ?_))
 all_goals (rw [show R=_ by assumption];exact aT rfl)
theorem wQ (a b:List Bd) (ha:a.length<=1099511627776) (eG:b.length<=1099511627776) (kO:∀ x ∈ a,x.ok) (jF:∀ x ∈ b,x.ok):ag Tryz.prog w0 64 [kp ρ a,kp ρ b] (.v (.bool (bP iO a b))):=by
 have hE:=Of (w0:=w0) (ρ:=ρ) iO a b 141 [] [] ha eG (gy _) fun x hx y hy=>⟨_,_,rfl,⟨mM x,mM y,trivial⟩,Kl x y (kO x hx) (jF y hy)⟩
 obtain⟨R,hR⟩:∃ R,R=bP iO a b:=⟨_,rfl⟩
 rw [<-hR] at hE ⊢
 clear hR kO jF
 refine Rx.bc (by simp [Tryz.ntmps64]) (.v) ?_
 refine gq PH ?_
 repeat' (first
  |(refine ab.bif rfl (aa.ea rfl hE ⟨cY _,cY _,gy _,trivial⟩ ⟨j3,j3,se,trivial⟩) (fun _=>?_) (fun _=>?_)<;>refine gq PH ?_)
  |(refine fq ?_))
 all_goals (rw [show R=_ by assumption];exact aT rfl)
theorem BI (a b:List Fi) (ha:a.length<=1099511627776) (eG:b.length<=1099511627776) (kO:∀ x ∈ a,x.ok) (jF:∀ x ∈ b,x.ok):ag Tryz.prog w0 65 [jC ρ a,jC ρ b] (.v (.bool (bP iP a b))):=by
 have hE:=Og (w0:=w0) (ρ:=ρ) iP a b 144 [] [] ha eG (gy _) fun x hx y hy=>⟨_,_,rfl,⟨hD x,hD y,trivial⟩,Km x y (kO x hx) (jF y hy)⟩
 obtain⟨R,hR⟩:∃ R,R=bP iP a b:=⟨_,rfl⟩
 rw [<-hR] at hE ⊢
 clear hR kO jF
 refine Ry.bc (by simp [Tryz.ntmps65]) (.v) ?_
 refine gq PI ?_
 repeat' (first
  |(refine ab.bif rfl (aa.ea rfl hE ⟨cZ _,cZ _,gy _,trivial⟩ ⟨j3,j3,se,trivial⟩) (fun _=>?_) (fun _=>?_)<;>refine gq PI ?_)
  |(refine fq ?_))
 all_goals (rw [show R=_ by assumption];exact aT rfl)
set_option maxHeartbeats 2000000 in
theorem Ia (s t:eN) (hs:jE s) (ht:jE t):ag Tryz.prog w0 14 [l8 ρ s,l8 ρ t] (.v (.bool (fV s t))):=by
 have hG:=GZ (w0:=w0) (ρ:=ρ) aI s.goals t.goals 62 [] [] hs.gl ht.gl (gy _) fun x hx y hy=>⟨_,_,rfl,⟨dS x,dS y,trivial⟩,sJ x y ⟨(hs.gx x hx).1.len,(hs.gx x hx).1.1⟩ ⟨(ht.gx y hy).1.len,(ht.gx y hy).1.1⟩⟩
 have hK:=GZ (w0:=w0) (ρ:=ρ) aI s.known t.known 62 [] [] hs.kl ht.kl (gy _) fun x hx y hy=>⟨_,_,rfl,⟨dS x,dS y,trivial⟩,sJ x y ⟨(hs.kx x hx).1.len,(hs.kx x hx).1.1⟩ ⟨(ht.kx y hy).1.len,(ht.kx y hy).1.1⟩⟩
 have hM:=wP (w0:=w0) (ρ:=ρ) s.store t.store hs.st ht.st hs.sx ht.sx
 have hB:=wQ (w0:=w0) (ρ:=ρ) s.binds t.binds hs.bl ht.bl hs.bx ht.bx
 have hF:=BI (w0:=w0) (ρ:=ρ) s.cn t.cn hs.fl ht.fl hs.fx ht.fx
 obtain⟨R,hR⟩:∃ R,R=fV s t:=⟨_,rfl⟩
 rw [<-hR]
 unfold fV at hR
 obtain⟨x1,h1⟩:∃ b,b=bP aI s.goals t.goals:=⟨_,rfl⟩
 obtain⟨x2,h2⟩:∃ b,b=bP iN s.store t.store:=⟨_,rfl⟩
 obtain⟨x3,h3⟩:∃ b,b=bP iO s.binds t.binds:=⟨_,rfl⟩
 obtain⟨x4,h4⟩:∃ b,b=bP iP s.cn t.cn:=⟨_,rfl⟩
 obtain⟨x5,h5⟩:∃ b,b=bP aI s.known t.known:=⟨_,rfl⟩
 rw [<-h1,<-h2,<-h3,<-h4,<-h5] at hR
 rw [<-h1] at hG
 rw [<-h2] at hM
 rw [<-h3] at hB
 rw [<-h4] at hF
 rw [<-h5] at hK
 clear h1 h2 h3 h4 h5 hs ht
 obtain⟨goals,store,binds,cn,known,next,fresh,failed⟩:=s
 obtain⟨cT,mW,mX,mY,mZ,next',iB,i_⟩:=t
 dsimp only at hR hG hK hM hB hF
 refine Rz.bc (by simp [Tryz.ntmps14]) (.v) ?_
 refine gq v_ ?_
 repeat' (first
  |(refine ab.bif rfl (aa.ea rfl hG ⟨bW _,bW _,gy _,trivial⟩ ⟨j3,j3,se,trivial⟩) (fun _=>?_) (fun _=>?_)<;>refine gq v_ ?_)
  |(refine ab.bif rfl (aa.aB rfl hM ⟨cX _,cX _,trivial⟩) (fun _=>?_) (fun _=>?_)<;>refine gq v_ ?_)
  |(refine ab.bif rfl (aa.aB rfl hB ⟨cY _,cY _,trivial⟩) (fun _=>?_) (fun _=>?_)<;>refine gq v_ ?_)
  |(refine ab.bif rfl (aa.aB rfl hF ⟨cZ _,cZ _,trivial⟩) (fun _=>?_) (fun _=>?_)<;>refine gq v_ ?_)
  |(refine ab.bif rfl (aa.ea rfl hK ⟨bW _,bW _,gy _,trivial⟩ ⟨j3,j3,se,trivial⟩) (fun _=>?_) (fun _=>?_)<;>refine gq v_ ?_)
  |(refine bq (fun hb=>?_) (fun hb=>?_)<;>(try simp only [aJ] at hb)<;>(first|refine gq v_ ?_))
  |(refine fq ?_))
 all_goals first
  |(refine aT ?_;rw [hR,show x1=false by assumption];rfl)
  |(refine aT ?_;rw [hR,show x2=false by assumption];simp;done)
  |(refine aT ?_;rw [hR,show x3=false by assumption];simp;done)
  |(refine aT ?_;rw [hR,show x4=false by assumption];simp;done)
  |(refine aT ?_;rw [hR,show x5=false by assumption];simp;done)
  |(refine aT ?_;rw [hR,show (next == next')=false from beq_eq_false_iff_ne.2 (by omega)];simp;done)
  |(refine aT ?_;rw [hR,show (fresh == iB)=false from beq_eq_false_iff_ne.2 (by omega)];simp;done)
  |(rw [show x1=true by assumption,show x2=true by assumption,show x3=true by assumption,show x4=true by assumption,show x5=true by assumption,show (next == next')=true from beq_iff_eq.2 (by omega),show (fresh == iB)=true from beq_iff_eq.2 (by omega)] at hR
    refine aT ?_;rw [hR];cases failed<;>cases i_<;>simp_all;done)
end
end
end Go.Proofs.YtbofilglphfceaaGreat
