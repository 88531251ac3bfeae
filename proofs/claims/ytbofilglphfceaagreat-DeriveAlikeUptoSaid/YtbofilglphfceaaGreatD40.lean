import Derived.Test.YtbofilglphfceaaGreatD39
namespace Go.Proofs.YtbofilglphfceaaGreat
set_option linter.unusedVariables false
set_option linter.unusedSimpArgs false
open Go.RowKit
section
set_option maxRecDepth 100000
attribute [local irreducible] ag aR aa ab
def J9:CF Tryz.f61:=⟨_,by conv=>lhs;cbv⟩
theorem Rt:bN Tryz.prog 61 J9.1 Tryz.f61.ntmps:=cd Tryz.func61 J9.2 Tryz.call61
def mV:List Nat:=[17,0,1,6,14,16,18,15,7,2,8,9,30]
def GV:CF Tryz.f137:=⟨_,by conv=>lhs;cbv⟩
theorem Oa:bN Tryz.prog 137 GV.1 Tryz.f137.ntmps:=cd Tryz.func137 GV.2 Tryz.call137
def jT:List Nat:=[17,0,1,6,14,16,18,15,7,2,8,9,30]
def GX:CF Tryz.f140:=⟨_,by conv=>lhs;cbv⟩
theorem Oc:bN Tryz.prog 140 GX.1 Tryz.f140.ntmps:=cd Tryz.func140 GX.2 Tryz.call140
def jU:List Nat:=[17,0,1,6,14,16,18,15,7,2,8,9,30]
def GY:CF Tryz.f143:=⟨_,by conv=>lhs;cbv⟩
theorem Od:bN Tryz.prog 143 GY.1 Tryz.f143.ntmps:=cd Tryz.func143 GY.2 Tryz.call143
def jV:List Nat:=[17,0,1,6,14,16,18,15,7,2,8,9,30]
section
variable {w0:World}{ρ:Hd}
theorem GZ (p:Gl->Gl->Bool) (a b:List Gl) (gid:FuncId) (fs cs:List AV) (ha:a.length<=1099511627776) (eG:b.length<=1099511627776) (hF:Pure (.fn (.func gid) fs cs)) (h:∀ x ∈ a,∀ y ∈ b,Dd Tryz.prog w0 (.fn (.func gid) fs cs) [gl ρ x,gl ρ y] (p x y)):ag Tryz.prog w0 61 [gd ρ a,gd ρ b,.fn (.func gid) fs cs] (.v (.bool (bP p a b))):=by
 obtain⟨R,hR⟩:∃ R,R=bP p a b:=⟨_,rfl⟩
 rw [<-hR]
 refine Rt.bc (by simp [Tryz.ntmps61]) (.v) ?_
 refine gq mV ?_
 repeat' (first
  |(refine bq (fun hb=>?_) (fun hb=>?_)<;>(try simp only [aJ] at hb)<;>(first|refine gq mV ?_))
  |(refine aS fun m hm=>?_;(try rw [aq] at hm);refine gq mV ?_)
  |(refine fq ?_))
 ·refine aT ?_
  rw [hR,jr (by omega)]
 have aM:a.length=b.length:=by omega
 refine ab.cO (σ:=Int) 0 0 [] (fun i=>[(1,gd ρ b),(2,.fn (.func gid) fs cs),(15,gd ρ a),(16,.v (.int .i64 m)),(17,.v (.int .i64 i))]) [] (fun _=>[])
  (fun i=>∃ k:Nat,i=k/\k<=a.length/\R=bP p (a.drop k) (b.drop k)) (fun i=>a.length - i.toNat) 0 ⟨0,rfl,by simp,by simpa using hR⟩ rfl ⟨⟨.aV rfl (Pure.d_ (bW _)),.aV rfl (Pure.d_ hF),.aV rfl (Pure.d_ (bW _)),.aV rfl .v,.aV rfl .v,trivial⟩,rfl,trivial,rfl,rfl,rfl⟩ ?_
 rintro i ⟨k,hi,hk,hp⟩
 clear hR
 refine gq mV ?_
 by_cases au:k < a.length
 ·obtain⟨x,hx,bI⟩:=aU au
  obtain⟨y,hy,dL⟩:=aU (show k < b.length by omega)
  rw [bI,dL,bP] at hp
  have hf:=h x (bO hx) y (bO hy)
  repeat' (first
   |(refine ab.op rfl (aa.ind rfl rfl (bg (l:=a) hi hx) (ba fun _=>rfl)) ?_;refine gq mV ?_)
   |(refine ab.op rfl (aa.ind rfl rfl (bg (l:=b) hi hy) (ba fun _=>rfl)) ?_;refine gq mV ?_)
   |(refine ab.bif rfl (aa.GR rfl rfl hf) (fun _=>?_) (fun _=>?_)<;>refine gq mV ?_)
   |(refine bq (fun hb=>?_) (fun hb=>?_)<;>(try simp only [aJ] at hb)<;>(first|refine gq mV ?_))
   |(refine cQ fun _ _=>?_;refine gq mV ?_)
   |(refine ab.aK ?_;refine gq mV ?_)
   |(refine ab.de ?_;refine gq mV ?_)
   |(refine fq ?_))
  all_goals first
   |(refine aT ?_;rw [hp];simp_all;done)
   |(refine ab.cK (σ:=Int) _ [] ?_ ?_ ⟨⟨.aV rfl (Pure.d_ (bW _)),.aV rfl (Pure.d_ hF),.aV rfl (Pure.d_ (bW _)),.aV rfl .v,.aV rfl .v,trivial⟩,rfl,trivial,rfl,rfl,rfl⟩
     ·exact⟨k+1,by omega,by omega,by rw [hp];simp_all⟩
     ·omega)
 ·skip
  repeat' (first
   |(refine bq (fun hb=>?_) (fun hb=>?_)<;>(try simp only [aJ] at hb)<;>(first|refine gq mV ?_))
   |(refine ab.aK ?_;refine gq mV ?_)
   |(refine fq ?_))
  all_goals first
   |(exfalso;omega)
   |(rw [hp,List.drop_eq_nil_of_le (by omega),List.drop_eq_nil_of_le (by omega)];exact aT rfl)
theorem Oe (p:Im->Im->Bool) (a b:List Im) (gid:FuncId) (fs cs:List AV) (ha:a.length<=1099511627776) (eG:b.length<=1099511627776) (hF:Pure (.fn (.func gid) fs cs)) (h:∀ x ∈ a,∀ y ∈ b,Dd Tryz.prog w0 (.fn (.func gid) fs cs) [it ρ x,it ρ y] (p x y)):ag Tryz.prog w0 137 [ko ρ a,ko ρ b,.fn (.func gid) fs cs] (.v (.bool (bP p a b))):=by
 obtain⟨R,hR⟩:∃ R,R=bP p a b:=⟨_,rfl⟩
 rw [<-hR]
 refine Oa.bc (by simp [Tryz.ntmps137]) (.v) ?_
 refine gq jT ?_
 repeat' (first
  |(refine bq (fun hb=>?_) (fun hb=>?_)<;>(try simp only [aJ] at hb)<;>(first|refine gq jT ?_))
  |(refine aS fun m hm=>?_;(try rw [aq] at hm);refine gq jT ?_)
  |(refine fq ?_))
 ·refine aT ?_
  rw [hR,jr (by omega)]
 have aM:a.length=b.length:=by omega
 refine ab.cO (σ:=Int) 0 0 [] (fun i=>[(1,ko ρ b),(2,.fn (.func gid) fs cs),(15,ko ρ a),(16,.v (.int .i64 m)),(17,.v (.int .i64 i))]) [] (fun _=>[])
  (fun i=>∃ k:Nat,i=k/\k<=a.length/\R=bP p (a.drop k) (b.drop k)) (fun i=>a.length - i.toNat) 0 ⟨0,rfl,by simp,by simpa using hR⟩ rfl ⟨⟨.aV rfl (Pure.d_ (cX _)),.aV rfl (Pure.d_ hF),.aV rfl (Pure.d_ (cX _)),.aV rfl .v,.aV rfl .v,trivial⟩,rfl,trivial,rfl,rfl,rfl⟩ ?_
 rintro i ⟨k,hi,hk,hp⟩
 clear hR
 refine gq jT ?_
 by_cases au:k < a.length
 ·obtain⟨x,hx,bI⟩:=aU au
  obtain⟨y,hy,dL⟩:=aU (show k < b.length by omega)
  rw [bI,dL,bP] at hp
  have hf:=h x (bO hx) y (bO hy)
  repeat' (first
   |(refine ab.op rfl (aa.ind rfl rfl (bg (l:=a) hi hx) (ba fun _=>rfl)) ?_;refine gq jT ?_)
   |(refine ab.op rfl (aa.ind rfl rfl (bg (l:=b) hi hy) (ba fun _=>rfl)) ?_;refine gq jT ?_)
   |(refine ab.bif rfl (aa.GR rfl rfl hf) (fun _=>?_) (fun _=>?_)<;>refine gq jT ?_)
   |(refine bq (fun hb=>?_) (fun hb=>?_)<;>(try simp only [aJ] at hb)<;>(first|refine gq jT ?_))
   |(refine cQ fun _ _=>?_;refine gq jT ?_)
   |(refine ab.aK ?_;refine gq jT ?_)
   |(refine ab.de ?_;refine gq jT ?_)
   |(refine fq ?_))
  all_goals first
   |(refine aT ?_;rw [hp];simp_all;done)
   |(refine ab.cK (σ:=Int) _ [] ?_ ?_ ⟨⟨.aV rfl (Pure.d_ (cX _)),.aV rfl (Pure.d_ hF),.aV rfl (Pure.d_ (cX _)),.aV rfl .v,.aV rfl .v,trivial⟩,rfl,trivial,rfl,rfl,rfl⟩
     ·exact⟨k+1,by omega,by omega,by rw [hp];simp_all⟩
     ·omega)
 ·skip
  repeat' (first
   |(refine bq (fun hb=>?_) (fun hb=>?_)<;>(try simp only [aJ] at hb)<;>(first|refine gq jT ?_))
   |(refine ab.aK ?_;refine gq jT ?_)
   |(refine fq ?_))
  all_goals first
   |(exfalso;omega)
   |(rw [hp,List.drop_eq_nil_of_le (by omega),List.drop_eq_nil_of_le (by omega)];exact aT rfl)
theorem Of (p:Bd->Bd->Bool) (a b:List Bd) (gid:FuncId) (fs cs:List AV) (ha:a.length<=1099511627776) (eG:b.length<=1099511627776) (hF:Pure (.fn (.func gid) fs cs)) (h:∀ x ∈ a,∀ y ∈ b,Dd Tryz.prog w0 (.fn (.func gid) fs cs) [bd ρ x,bd ρ y] (p x y)):ag Tryz.prog w0 140 [kp ρ a,kp ρ b,.fn (.func gid) fs cs] (.v (.bool (bP p a b))):=by
 obtain⟨R,hR⟩:∃ R,R=bP p a b:=⟨_,rfl⟩
 rw [<-hR]
 refine Oc.bc (by simp [Tryz.ntmps140]) (.v) ?_
 refine gq jU ?_
 repeat' (first
  |(refine bq (fun hb=>?_) (fun hb=>?_)<;>(try simp only [aJ] at hb)<;>(first|refine gq jU ?_))
  |(refine aS fun m hm=>?_;(try rw [aq] at hm);refine gq jU ?_)
  |(refine fq ?_))
 ·refine aT ?_
  rw [hR,jr (by omega)]
 have aM:a.length=b.length:=by omega
 refine ab.cO (σ:=Int) 0 0 [] (fun i=>[(1,kp ρ b),(2,.fn (.func gid) fs cs),(15,kp ρ a),(16,.v (.int .i64 m)),(17,.v (.int .i64 i))]) [] (fun _=>[])
  (fun i=>∃ k:Nat,i=k/\k<=a.length/\R=bP p (a.drop k) (b.drop k)) (fun i=>a.length - i.toNat) 0 ⟨0,rfl,by simp,by simpa using hR⟩ rfl ⟨⟨.aV rfl (Pure.d_ (cY _)),.aV rfl (Pure.d_ hF),.aV rfl (Pure.d_ (cY _)),.aV rfl .v,.aV rfl .v,trivial⟩,rfl,trivial,rfl,rfl,rfl⟩ ?_
 rintro i ⟨k,hi,hk,hp⟩
 clear hR
 refine gq jU ?_
 by_cases au:k < a.length
 ·obtain⟨x,hx,bI⟩:=aU au
  obtain⟨y,hy,dL⟩:=aU (show k < b.length by omega)
  rw [bI,dL,bP] at hp
  have hf:=h x (bO hx) y (bO hy)
  repeat' (first
   |(refine ab.op rfl (aa.ind rfl rfl (bg (l:=a) hi hx) (ba fun _=>rfl)) ?_;refine gq jU ?_)
   |(refine ab.op rfl (aa.ind rfl rfl (bg (l:=b) hi hy) (ba fun _=>rfl)) ?_;refine gq jU ?_)
   |(refine ab.bif rfl (aa.GR rfl rfl hf) (fun _=>?_) (fun _=>?_)<;>refine gq jU ?_)
   |(refine bq (fun hb=>?_) (fun hb=>?_)<;>(try simp only [aJ] at hb)<;>(first|refine gq jU ?_))
   |(refine cQ fun _ _=>?_;refine gq jU ?_)
   |(refine ab.aK ?_;refine gq jU ?_)
   |(refine ab.de ?_;refine gq jU ?_)
   |(refine fq ?_))
  all_goals first
   |(refine aT ?_;rw [hp];simp_all;done)
   |(refine ab.cK (σ:=Int) _ [] ?_ ?_ ⟨⟨.aV rfl (Pure.d_ (cY _)),.aV rfl (Pure.d_ hF),.aV rfl (Pure.d_ (cY _)),.aV rfl .v,.aV rfl .v,trivial⟩,rfl,trivial,rfl,rfl,rfl⟩
     ·exact⟨k+1,by omega,by omega,by rw [hp];simp_all⟩
     ·omega)
 ·skip
  repeat' (first
   |(refine bq (fun hb=>?_) (fun hb=>?_)<;>(try simp only [aJ] at hb)<;>(first|refine gq jU ?_))
   |(refine ab.aK ?_;refine gq jU ?_)
   |(refine fq ?_))
  all_goals first
   |(exfalso;omega)
   |(rw [hp,List.drop_eq_nil_of_le (by omega),List.drop_eq_nil_of_le (by omega)];exact aT rfl)
theorem Og (p:Fi->Fi->Bool) (a b:List Fi) (gid:FuncId) (fs cs:List AV) (ha:a.length<=1099511627776) (eG:b.length<=1099511627776) (hF:Pure (.fn (.func gid) fs cs)) (h:∀ x ∈ a,∀ y ∈ b,Dd Tryz.prog w0 (.fn (.func gid) fs cs) [fi ρ x,fi ρ y] (p x y)):ag Tryz.prog w0 143 [jC ρ a,jC ρ b,.fn (.func gid) fs cs] (.v (.bool (bP p a b))):=by
 obtain⟨R,hR⟩:∃ R,R=bP p a b:=⟨_,rfl⟩
 rw [<-hR]
 refine Od.bc (by simp [Tryz.ntmps143]) (.v) ?_
 refine gq jV ?_
 repeat' (first
  |(refine bq (fun hb=>?_) (fun hb=>?_)<;>(try simp only [aJ] at hb)<;>(first|refine gq jV ?_))
  |(refine aS fun m hm=>?_;(try rw [aq] at hm);refine gq jV ?_)
  |(refine fq ?_))
 ·refine aT ?_
  rw [hR,jr (by omega)]
 have aM:a.length=b.length:=by omega
 refine ab.cO (σ:=Int) 0 0 [] (fun i=>[(1,jC ρ b),(2,.fn (.func gid) fs cs),(15,jC ρ a),(16,.v (.int .i64 m)),(17,.v (.int .i64 i))]) [] (fun _=>[])
  (fun i=>∃ k:Nat,i=k/\k<=a.length/\R=bP p (a.drop k) (b.drop k)) (fun i=>a.length - i.toNat) 0 ⟨0,rfl,by simp,by simpa using hR⟩ rfl ⟨⟨.aV rfl (Pure.d_ (cZ _)),.aV rfl (Pure.d_ hF),.aV rfl (Pure.d_ (cZ _)),.aV rfl .v,.aV rfl .v,trivial⟩,rfl,trivial,rfl,rfl,rfl⟩ ?_
 rintro i ⟨k,hi,hk,hp⟩
 clear hR
 refine gq jV ?_
 by_cases au:k < a.length
 ·obtain⟨x,hx,bI⟩:=aU au
  obtain⟨y,hy,dL⟩:=aU (show k < b.length by omega)
  rw [bI,dL,bP] at hp
  have hf:=h x (bO hx) y (bO hy)
  repeat' (first
   |(refine ab.op rfl (aa.ind rfl rfl (bg (l:=a) hi hx) (ba fun _=>rfl)) ?_;refine gq jV ?_)
   |(refine ab.op rfl (aa.ind rfl rfl (bg (l:=b) hi hy) (ba fun _=>rfl)) ?_;refine gq jV ?_)
   |(refine ab.bif rfl (aa.GR rfl rfl hf) (fun _=>?_) (fun _=>?_)<;>refine gq jV ?_)
   |(refine bq (fun hb=>?_) (fun hb=>?_)<;>(try simp only [aJ] at hb)<;>(first|refine gq jV ?_))
   |(refine cQ fun _ _=>?_;refine gq jV ?_)
   |(refine ab.aK ?_;refine gq jV ?_)
   |(refine ab.de ?_;refine gq jV ?_)
   |(refine fq ?_))
  all_goals first
   |(refine aT ?_;rw [hp];simp_all;done)
   |(refine ab.cK (σ:=Int) _ [] ?_ ?_ ⟨⟨.aV rfl (Pure.d_ (cZ _)),.aV rfl (Pure.d_ hF),.aV rfl (Pure.d_ (cZ _)),.aV rfl .v,.aV rfl .v,trivial⟩,rfl,trivial,rfl,rfl,rfl⟩
     ·exact⟨k+1,by omega,by omega,by rw [hp];simp_all⟩
     ·omega)
 ·skip
  repeat' (first
   |(refine bq (fun hb=>?_) (fun hb=>?_)<;>(try simp only [aJ] at hb)<;>(first|refine gq jV ?_))
   |(refine ab.aK ?_;refine gq jV ?_)
   |(refine fq ?_))
  all_goals first
   |(exfalso;omega)
   |(rw [hp,List.drop_eq_nil_of_le (by omega),List.drop_eq_nil_of_le (by omega)];exact aT rfl)
end
end
end Go.Proofs.YtbofilglphfceaaGreat
