import Derived.Test.YtbofilglphfceaaGreatQ20
namespace Go.Proofs.YtbofilglphfceaaGreat
set_option linter.unusedVariables false
set_option linter.unusedSimpArgs false
open Go.RowKit
section
set_option maxRecDepth 100000
attribute [local irreducible] ah bc ad ab
def TC:CF Tryz.f61:=⟨_,by conv=>lhs;cbv⟩
theorem abz:aH Tryz.prog 61 TC.1 Tryz.f61.ntmps:=aQ Tryz.func61 TC.2 Tryz.call61
def sm:List Nat:=[17,0,1,6,14,16,18,15,7,2,8,9,30]
def Oz:CF Tryz.f137:=⟨_,by conv=>lhs;cbv⟩
theorem Xq:aH Tryz.prog 137 Oz.1 Tryz.f137.ntmps:=aQ Tryz.func137 Oz.2 Tryz.call137
def nN:List Nat:=[17,0,1,6,14,16,18,15,7,2,8,9,30]
def OA:CF Tryz.f140:=⟨_,by conv=>lhs;cbv⟩
theorem Xr:aH Tryz.prog 140 OA.1 Tryz.f140.ntmps:=aQ Tryz.func140 OA.2 Tryz.call140
def nO:List Nat:=[17,0,1,6,14,16,18,15,7,2,8,9,30]
def OB:CF Tryz.f143:=⟨_,by conv=>lhs;cbv⟩
theorem Xs:aH Tryz.prog 143 OB.1 Tryz.f143.ntmps:=aQ Tryz.func143 OB.2 Tryz.call143
def nQ:List Nat:=[17,0,1,6,14,16,18,15,7,2,8,9,30]
section
variable {w0:World}{ρ:Hd}
theorem OC (p:Gl->Gl->Bool) (a b:List Gl) (gid:FuncId) (fs cs:List AV) (ha:a.length<=1099511627776) (fL:b.length<=1099511627776) (hF:Pure (.fn (.func gid) fs cs)) (h:∀ x ∈ a,∀ y ∈ b,sk Tryz.prog w0 (.fn (.func gid) fs cs) [gl ρ x,gl ρ y] (p x y)):ah Tryz.prog w0 61 [cO ρ a,cO ρ b,.fn (.func gid) fs cs] (.v (.bool (cR p a b))):=by
 obtain⟨R,hR⟩:∃ R,R=cR p a b:=⟨_,rfl⟩
 rw [<-hR]
 refine abz.aG (by simp [Tryz.ntmps61]) (.v) ?_
 refine gq sm ?_
 repeat' (first
  |(refine bq (fun hb=>?_) (fun hb=>?_)<;>(try simp only [aq] at hb)<;>(first|refine gq sm ?_))
  |(refine aB fun m hm=>?_;(try rw [af] at hm);refine gq sm ?_)
  |(refine fq ?_))
 ·refine aC ?_
  rw [hR,mU (by omega)]
 have bG:a.length=b.length:=by omega
 refine ab.aP (σ:=Int) 0 0 [] (fun i=>[(1,cO ρ b),(2,.fn (.func gid) fs cs),(15,cO ρ a),(16,.v (.int .i64 m)),(17,.v (.int .i64 i))]) [] (fun _=>[])
  (fun i=>∃ k:Nat,i=k/\k<=a.length/\R=cR p (a.drop k) (b.drop k)) (fun i=>a.length - i.toNat) 0 ⟨0,rfl,by simp,by simpa using hR⟩ rfl ⟨⟨.aD rfl (Pure.b_ (bw _)),.aD rfl (Pure.b_ hF),.aD rfl (Pure.b_ (bw _)),.aD rfl .v,.aD rfl .v,trivial⟩,rfl,trivial,rfl,rfl,rfl⟩ ?_
 rintro i ⟨k,hi,hk,hp⟩
 clear hR
 refine gq sm ?_
 by_cases au:k < a.length
 ·obtain⟨x,hx,aO⟩:=az au
  obtain⟨y,hy,cP⟩:=az (show k < b.length by omega)
  rw [aO,cP,cR] at hp
  have hf:=h x (aY hx) y (aY hy)
  repeat' (first
   |(refine ab.op rfl (ad.ind rfl rfl (ay (l:=a) hi hx) (aw fun _=>rfl)) ?_;refine gq sm ?_)
   |(refine ab.op rfl (ad.ind rfl rfl (ay (l:=b) hi hy) (aw fun _=>rfl)) ?_;refine gq sm ?_)
   |(refine ab.a_ rfl (ad.x_ rfl rfl hf) (fun _=>?_) (fun _=>?_)<;>refine gq sm ?_)
   |(refine bq (fun hb=>?_) (fun hb=>?_)<;>(try simp only [aq] at hb)<;>(first|refine gq sm ?_))
   |(refine aS fun _ _=>?_;refine gq sm ?_)
   |(refine ab.ao ?_;refine gq sm ?_)
   |(refine ab.bJ ?_;refine gq sm ?_)
   |(refine fq ?_))
  all_goals first
   |(refine aC ?_;rw [hp];simp_all;done)
   |(refine ab.aL (σ:=Int) _ [] ?_ ?_ ⟨⟨.aD rfl (Pure.b_ (bw _)),.aD rfl (Pure.b_ hF),.aD rfl (Pure.b_ (bw _)),.aD rfl .v,.aD rfl .v,trivial⟩,rfl,trivial,rfl,rfl,rfl⟩
     ·exact⟨k+1,by omega,by omega,by rw [hp];simp_all⟩
     ·omega)
 ·skip
  repeat' (first
   |(refine bq (fun hb=>?_) (fun hb=>?_)<;>(try simp only [aq] at hb)<;>(first|refine gq sm ?_))
   |(refine ab.ao ?_;refine gq sm ?_)
   |(refine fq ?_))
  all_goals first
   |(exfalso;omega)
   |(rw [hp,List.drop_eq_nil_of_le (by omega),List.drop_eq_nil_of_le (by omega)];exact aC rfl)
theorem Xt (p:Im->Im->Bool) (a b:List Im) (gid:FuncId) (fs cs:List AV) (ha:a.length<=1099511627776) (fL:b.length<=1099511627776) (hF:Pure (.fn (.func gid) fs cs)) (h:∀ x ∈ a,∀ y ∈ b,sk Tryz.prog w0 (.fn (.func gid) fs cs) [it ρ x,it ρ y] (p x y)):ah Tryz.prog w0 137 [fJ ρ a,fJ ρ b,.fn (.func gid) fs cs] (.v (.bool (cR p a b))):=by
 obtain⟨R,hR⟩:∃ R,R=cR p a b:=⟨_,rfl⟩
 rw [<-hR]
 refine Xq.aG (by simp [Tryz.ntmps137]) (.v) ?_
 refine gq nN ?_
 repeat' (first
  |(refine bq (fun hb=>?_) (fun hb=>?_)<;>(try simp only [aq] at hb)<;>(first|refine gq nN ?_))
  |(refine aB fun m hm=>?_;(try rw [af] at hm);refine gq nN ?_)
  |(refine fq ?_))
 ·refine aC ?_
  rw [hR,mU (by omega)]
 have bG:a.length=b.length:=by omega
 refine ab.aP (σ:=Int) 0 0 [] (fun i=>[(1,fJ ρ b),(2,.fn (.func gid) fs cs),(15,fJ ρ a),(16,.v (.int .i64 m)),(17,.v (.int .i64 i))]) [] (fun _=>[])
  (fun i=>∃ k:Nat,i=k/\k<=a.length/\R=cR p (a.drop k) (b.drop k)) (fun i=>a.length - i.toNat) 0 ⟨0,rfl,by simp,by simpa using hR⟩ rfl ⟨⟨.aD rfl (Pure.b_ (cb _)),.aD rfl (Pure.b_ hF),.aD rfl (Pure.b_ (cb _)),.aD rfl .v,.aD rfl .v,trivial⟩,rfl,trivial,rfl,rfl,rfl⟩ ?_
 rintro i ⟨k,hi,hk,hp⟩
 clear hR
 refine gq nN ?_
 by_cases au:k < a.length
 ·obtain⟨x,hx,aO⟩:=az au
  obtain⟨y,hy,cP⟩:=az (show k < b.length by omega)
  rw [aO,cP,cR] at hp
  have hf:=h x (aY hx) y (aY hy)
  repeat' (first
   |(refine ab.op rfl (ad.ind rfl rfl (ay (l:=a) hi hx) (aw fun _=>rfl)) ?_;refine gq nN ?_)
   |(refine ab.op rfl (ad.ind rfl rfl (ay (l:=b) hi hy) (aw fun _=>rfl)) ?_;refine gq nN ?_)
   |(refine ab.a_ rfl (ad.x_ rfl rfl hf) (fun _=>?_) (fun _=>?_)<;>refine gq nN ?_)
   |(refine bq (fun hb=>?_) (fun hb=>?_)<;>(try simp only [aq] at hb)<;>(first|refine gq nN ?_))
   |(refine aS fun _ _=>?_;refine gq nN ?_)
   |(refine ab.ao ?_;refine gq nN ?_)
   |(refine ab.bJ ?_;refine gq nN ?_)
   |(refine fq ?_))
  all_goals first
   |(refine aC ?_;rw [hp];simp_all;done)
   |(refine ab.aL (σ:=Int) _ [] ?_ ?_ ⟨⟨.aD rfl (Pure.b_ (cb _)),.aD rfl (Pure.b_ hF),.aD rfl (Pure.b_ (cb _)),.aD rfl .v,.aD rfl .v,trivial⟩,rfl,trivial,rfl,rfl,rfl⟩
     ·exact⟨k+1,by omega,by omega,by rw [hp];simp_all⟩
     ·omega)
 ·skip
  repeat' (first
   |(refine bq (fun hb=>?_) (fun hb=>?_)<;>(try simp only [aq] at hb)<;>(first|refine gq nN ?_))
   |(refine ab.ao ?_;refine gq nN ?_)
   |(refine fq ?_))
  all_goals first
   |(exfalso;omega)
   |(rw [hp,List.drop_eq_nil_of_le (by omega),List.drop_eq_nil_of_le (by omega)];exact aC rfl)
theorem Xu (p:Bd->Bd->Bool) (a b:List Bd) (gid:FuncId) (fs cs:List AV) (ha:a.length<=1099511627776) (fL:b.length<=1099511627776) (hF:Pure (.fn (.func gid) fs cs)) (h:∀ x ∈ a,∀ y ∈ b,sk Tryz.prog w0 (.fn (.func gid) fs cs) [bd ρ x,bd ρ y] (p x y)):ah Tryz.prog w0 140 [eJ ρ a,eJ ρ b,.fn (.func gid) fs cs] (.v (.bool (cR p a b))):=by
 obtain⟨R,hR⟩:∃ R,R=cR p a b:=⟨_,rfl⟩
 rw [<-hR]
 refine Xr.aG (by simp [Tryz.ntmps140]) (.v) ?_
 refine gq nO ?_
 repeat' (first
  |(refine bq (fun hb=>?_) (fun hb=>?_)<;>(try simp only [aq] at hb)<;>(first|refine gq nO ?_))
  |(refine aB fun m hm=>?_;(try rw [af] at hm);refine gq nO ?_)
  |(refine fq ?_))
 ·refine aC ?_
  rw [hR,mU (by omega)]
 have bG:a.length=b.length:=by omega
 refine ab.aP (σ:=Int) 0 0 [] (fun i=>[(1,eJ ρ b),(2,.fn (.func gid) fs cs),(15,eJ ρ a),(16,.v (.int .i64 m)),(17,.v (.int .i64 i))]) [] (fun _=>[])
  (fun i=>∃ k:Nat,i=k/\k<=a.length/\R=cR p (a.drop k) (b.drop k)) (fun i=>a.length - i.toNat) 0 ⟨0,rfl,by simp,by simpa using hR⟩ rfl ⟨⟨.aD rfl (Pure.b_ (bT _)),.aD rfl (Pure.b_ hF),.aD rfl (Pure.b_ (bT _)),.aD rfl .v,.aD rfl .v,trivial⟩,rfl,trivial,rfl,rfl,rfl⟩ ?_
 rintro i ⟨k,hi,hk,hp⟩
 clear hR
 refine gq nO ?_
 by_cases au:k < a.length
 ·obtain⟨x,hx,aO⟩:=az au
  obtain⟨y,hy,cP⟩:=az (show k < b.length by omega)
  rw [aO,cP,cR] at hp
  have hf:=h x (aY hx) y (aY hy)
  repeat' (first
   |(refine ab.op rfl (ad.ind rfl rfl (ay (l:=a) hi hx) (aw fun _=>rfl)) ?_;refine gq nO ?_)
   |(refine ab.op rfl (ad.ind rfl rfl (ay (l:=b) hi hy) (aw fun _=>rfl)) ?_;refine gq nO ?_)
   |(refine ab.a_ rfl (ad.x_ rfl rfl hf) (fun _=>?_) (fun _=>?_)<;>refine gq nO ?_)
   |(refine bq (fun hb=>?_) (fun hb=>?_)<;>(try simp only [aq] at hb)<;>(first|refine gq nO ?_))
   |(refine aS fun _ _=>?_;refine gq nO ?_)
   |(refine ab.ao ?_;refine gq nO ?_)
   |(refine ab.bJ ?_;refine gq nO ?_)
   |(refine fq ?_))
  all_goals first
   |(refine aC ?_;rw [hp];simp_all;done)
   |(refine ab.aL (σ:=Int) _ [] ?_ ?_ ⟨⟨.aD rfl (Pure.b_ (bT _)),.aD rfl (Pure.b_ hF),.aD rfl (Pure.b_ (bT _)),.aD rfl .v,.aD rfl .v,trivial⟩,rfl,trivial,rfl,rfl,rfl⟩
     ·exact⟨k+1,by omega,by omega,by rw [hp];simp_all⟩
     ·omega)
 ·skip
  repeat' (first
   |(refine bq (fun hb=>?_) (fun hb=>?_)<;>(try simp only [aq] at hb)<;>(first|refine gq nO ?_))
   |(refine ab.ao ?_;refine gq nO ?_)
   |(refine fq ?_))
  all_goals first
   |(exfalso;omega)
   |(rw [hp,List.drop_eq_nil_of_le (by omega),List.drop_eq_nil_of_le (by omega)];exact aC rfl)
theorem Xv (p:Fi->Fi->Bool) (a b:List Fi) (gid:FuncId) (fs cs:List AV) (ha:a.length<=1099511627776) (fL:b.length<=1099511627776) (hF:Pure (.fn (.func gid) fs cs)) (h:∀ x ∈ a,∀ y ∈ b,sk Tryz.prog w0 (.fn (.func gid) fs cs) [fi ρ x,fi ρ y] (p x y)):ah Tryz.prog w0 143 [gO ρ a,gO ρ b,.fn (.func gid) fs cs] (.v (.bool (cR p a b))):=by
 obtain⟨R,hR⟩:∃ R,R=cR p a b:=⟨_,rfl⟩
 rw [<-hR]
 refine Xs.aG (by simp [Tryz.ntmps143]) (.v) ?_
 refine gq nQ ?_
 repeat' (first
  |(refine bq (fun hb=>?_) (fun hb=>?_)<;>(try simp only [aq] at hb)<;>(first|refine gq nQ ?_))
  |(refine aB fun m hm=>?_;(try rw [af] at hm);refine gq nQ ?_)
  |(refine fq ?_))
 ·refine aC ?_
  rw [hR,mU (by omega)]
 have bG:a.length=b.length:=by omega
 refine ab.aP (σ:=Int) 0 0 [] (fun i=>[(1,gO ρ b),(2,.fn (.func gid) fs cs),(15,gO ρ a),(16,.v (.int .i64 m)),(17,.v (.int .i64 i))]) [] (fun _=>[])
  (fun i=>∃ k:Nat,i=k/\k<=a.length/\R=cR p (a.drop k) (b.drop k)) (fun i=>a.length - i.toNat) 0 ⟨0,rfl,by simp,by simpa using hR⟩ rfl ⟨⟨.aD rfl (Pure.b_ (cJ _)),.aD rfl (Pure.b_ hF),.aD rfl (Pure.b_ (cJ _)),.aD rfl .v,.aD rfl .v,trivial⟩,rfl,trivial,rfl,rfl,rfl⟩ ?_
 rintro i ⟨k,hi,hk,hp⟩
 clear hR
 refine gq nQ ?_
 by_cases au:k < a.length
 ·obtain⟨x,hx,aO⟩:=az au
  obtain⟨y,hy,cP⟩:=az (show k < b.length by omega)
  rw [aO,cP,cR] at hp
  have hf:=h x (aY hx) y (aY hy)
  repeat' (first
   |(refine ab.op rfl (ad.ind rfl rfl (ay (l:=a) hi hx) (aw fun _=>rfl)) ?_;refine gq nQ ?_)
   |(refine ab.op rfl (ad.ind rfl rfl (ay (l:=b) hi hy) (aw fun _=>rfl)) ?_;refine gq nQ ?_)
   |(refine ab.a_ rfl (ad.x_ rfl rfl hf) (fun _=>?_) (fun _=>?_)<;>refine gq nQ ?_)
   |(refine bq (fun hb=>?_) (fun hb=>?_)<;>(try simp only [aq] at hb)<;>(first|refine gq nQ ?_))
   |(refine aS fun _ _=>?_;refine gq nQ ?_)
   |(refine ab.ao ?_;refine gq nQ ?_)
   |(refine ab.bJ ?_;refine gq nQ ?_)
   |(refine fq ?_))
  all_goals first
   |(refine aC ?_;rw [hp];simp_all;done)
   |(refine ab.aL (σ:=Int) _ [] ?_ ?_ ⟨⟨.aD rfl (Pure.b_ (cJ _)),.aD rfl (Pure.b_ hF),.aD rfl (Pure.b_ (cJ _)),.aD rfl .v,.aD rfl .v,trivial⟩,rfl,trivial,rfl,rfl,rfl⟩
     ·exact⟨k+1,by omega,by omega,by rw [hp];simp_all⟩
     ·omega)
 ·skip
  repeat' (first
   |(refine bq (fun hb=>?_) (fun hb=>?_)<;>(try simp only [aq] at hb)<;>(first|refine gq nQ ?_))
   |(refine ab.ao ?_;refine gq nQ ?_)
   |(refine fq ?_))
  all_goals first
   |(exfalso;omega)
   |(rw [hp,List.drop_eq_nil_of_le (by omega),List.drop_eq_nil_of_le (by omega)];exact aC rfl)
end
end
end Go.Proofs.YtbofilglphfceaaGreat
