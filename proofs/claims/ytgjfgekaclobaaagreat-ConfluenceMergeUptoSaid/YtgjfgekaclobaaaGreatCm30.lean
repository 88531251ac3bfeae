import Derived.Test.YtgjfgekaclobaaaGreatCm29
namespace Go.Proofs.YtgjfgekaclobaaaGreat
set_option linter.unusedVariables false
set_option linter.unusedSimpArgs false
open Go.RowKit
section
set_option maxRecDepth 100000
attribute [local irreducible] av aE ad ab
def SG:CF Tryz.f22:=⟨_,by conv=>lhs;cbv⟩
theorem aaw:bQ Tryz.prog 22 SG.1 Tryz.f22.ntmps:=fh Tryz.func22 SG.2 Tryz.call22
def jL:List Nat:=[8,12,2,0,7,9,6,5,13,15,3]
def SI:CF Tryz.f23:=⟨_,by conv=>lhs;cbv⟩
theorem aax:bQ Tryz.prog 23 SI.1 Tryz.f23.ntmps:=fh Tryz.func23 SI.2 Tryz.call23
def jM:List Nat:=[4,0,2,8,15,20,3]
def dW:List Int->Int->Int
 |[],o=>o
 |v::l,o=>if v=2 then 2 else if v=1 then dW l o else dW l 0
theorem mY:∀ (l:List Int) (o:Int),dW l o=if 2 ∈ l then 2 else if ∀ v ∈ l,v=1 then o else 0
 |[],o=>by simp [dW]
 |v::l,o=>by
  rw [dW,mY l,mY l]
  by_cases h2:v=2
  ·simp [h2]
  ·by_cases h1:v=1
   ·subst h1
    simp
   ·rw [if_neg h2,if_neg h1]
    have e:¬ (2=v):=fun h=>h2 h.symm
    simp [e,h1]
theorem JC (a b:List Int):dW (b++a) 1=dW (a++b) 1:=by
 rw [mY,mY]
 have e1:(2 ∈ b++a)=(2 ∈ a++b):=by simp [or_comm]
 have e2:(∀ v ∈ b++a,v=1)=(∀ v ∈ a++b,v=1):=by simp only [List.mem_append,or_comm]
 simp only [e1,e2]
theorem Lr (a b:List Int):dW [dW a 1,dW b 1] 1=dW (a++b) 1:=by
 rw [mY (a++b),mY a,mY b]
 by_cases ha:2 ∈ a
 ·simp [ha,dW]
 ·by_cases hb:2 ∈ b
  ·by_cases fU:∀ v ∈ a,v=1<;>simp [ha,hb,fU,dW]
  ·by_cases fU:∀ v ∈ a,v=1
   ·by_cases fA:∀ v ∈ b,v=1
    ·have:∀ v ∈ a++b,v=1:=fun v hv=>(List.mem_append.1 hv).elim (fU v) (fA v)
     simp only [List.mem_append,ha,hb,or_self,if_false,if_pos fU,if_pos fA,if_pos this,dW]
     rfl
    ·have:¬ ∀ v ∈ a++b,v=1:=fun h=>fA fun v hv=>h v (List.mem_append.2 (.inr hv))
     simp only [List.mem_append,ha,hb,or_self,if_false,if_pos fU,if_neg fA,if_neg this,dW]
     rfl
   ·have:¬ ∀ v ∈ a++b,v=1:=fun h=>fU fun v hv=>h v (List.mem_append.2 (.inl hv))
    simp only [List.mem_append,ha,hb,or_self,if_false,if_neg fU,if_neg this,dW]
    by_cases fA:∀ v ∈ b,v=1
    ·rw [if_pos fA];rfl
    ·rw [if_neg fA];rfl
section
variable {w0:World}{ρ:Hd}
theorem oC (l:List Int) (hl:l.length<=1099511627776):av Tryz.prog w0 22 [dw ρ fc false l] (iv (dW l 1)):=by
 obtain⟨R,hR⟩:∃ R,R=dW l 1:=⟨_,rfl⟩
 rw [<-hR]
 refine aaw.eQ (by simp [Tryz.ntmps22]) (.v) ?_
 refine gq jL ?_
 repeat' (first
  |(refine bq (fun hb=>?_) (fun hb=>?_)<;>(try simp only [bS] at hb)<;>(first|exact absurd hb (by decide)|refine gq jL ?_))
  |(refine bK fun m hm=>?_;(try rw [aF] at hm);refine gq jL ?_)
  |(refine bH fun _ _=>?_;refine gq jL ?_)
  |(refine dx fun _ _=>?_;refine gq jL ?_)
  |(refine ab.str rfl (ad.cat rfl rfl (by assumption)) fun _ _=>?_;refine gq jL ?_)
  |(refine ab.bh ?_;refine gq jL ?_)
  |(refine ab.bO ?_;refine gq jL ?_)
  |(refine fq ?_))
 refine ab.iK (σ:=Int × Int) 0 0 [] (fun p=>[(3,.v (.int .i64 p.2)),(6,dw ρ fc false l),(7,.v (.int .i64 m)),(8,.v (.int .i64 p.1))]) [] (fun _=>[]) (fun p=>∃ k:Nat,p.1=k/\k<=l.length/\R=dW (l.drop k) p.2) (fun p=>l.length - p.1.toNat) (0,1) ⟨0,rfl,by simp,by simpa using hR⟩ rfl cq ?_
 rintro⟨i,o⟩ ⟨k,hi,hk,hp⟩
 simp only at hi hp
 clear hR
 refine gq jL ?_
 by_cases aB:k < l.length
 ·obtain⟨x,hx,iN⟩:=oA aB
  rw [iN,dW] at hp
  repeat' (first
   |(refine ab.op rfl (ad.ind rfl rfl (ky (l:=l) hi hx) (kz fun _=>rfl)) ?_;refine gq jL ?_)
   |(refine bq (fun hb=>?_) (fun hb=>?_)<;>(try simp only [bS] at hb)<;>(first|exact absurd hb (by decide)|refine gq jL ?_))
   |(refine bK fun m hm=>?_;(try rw [aF] at hm);refine gq jL ?_)
   |(refine bH fun _ _=>?_;refine gq jL ?_)
   |(refine dx fun _ _=>?_;refine gq jL ?_)
   |(refine ab.str rfl (ad.cat rfl rfl (by assumption)) fun _ _=>?_;refine gq jL ?_)
   |(refine ab.bh ?_;refine gq jL ?_)
   |(refine ab.bO ?_;refine gq jL ?_)
   |(refine fq ?_))
  all_goals first
   |(exfalso;omega)
   |(rw [if_pos (by omega)] at hp;rw [hp];exact vw rfl)
   |(rw [if_neg (by omega),if_pos (by omega)] at hp;refine ab.d_ (σ:=Int × Int) (_,o) [] ?_ ?_ cq<;>first|(simp only;omega)|exact⟨k+1,by simp only;omega,by omega,hp⟩)
   |(rw [if_neg (by omega),if_neg (by omega)] at hp;refine ab.d_ (σ:=Int × Int) (_,0) [] ?_ ?_ cq<;>first|(simp only;omega)|exact⟨k+1,by simp only;omega,by omega,hp⟩)
 ·rw [List.drop_eq_nil_of_le (by omega),dW] at hp
  repeat' (first
   |(refine bq (fun hb=>?_) (fun hb=>?_)<;>(try simp only [bS] at hb)<;>(first|exact absurd hb (by decide)|refine gq jL ?_))
   |(refine bK fun m hm=>?_;(try rw [aF] at hm);refine gq jL ?_)
   |(refine bH fun _ _=>?_;refine gq jL ?_)
   |(refine dx fun _ _=>?_;refine gq jL ?_)
   |(refine ab.str rfl (ad.cat rfl rfl (by assumption)) fun _ _=>?_;refine gq jL ?_)
   |(refine ab.bh ?_;refine gq jL ?_)
   |(refine ab.bO ?_;refine gq jL ?_)
   |(refine fq ?_))
  all_goals first
   |(exfalso;omega)
   |(rw [hp];exact vw rfl)
theorem QX (l:List Int) (hl:l.length<=1099511627776):av Tryz.prog w0 23 [dw ρ fc false l] (iv (dW l 1)):=by
 obtain⟨R,hR⟩:∃ R,R=dW l 1:=⟨_,rfl⟩
 rw [<-hR]
 refine aax.eQ (by simp [Tryz.ntmps23]) (.v) ?_
 refine gq jM ?_
 repeat' (first
  |(refine bq (fun hb=>?_) (fun hb=>?_)<;>(try simp only [bS] at hb)<;>(first|exact absurd hb (by decide)|refine gq jM ?_))
  |(refine bK fun m hm=>?_;(try rw [aF] at hm);refine gq jM ?_)
  |(refine bH fun _ _=>?_;refine gq jM ?_)
  |(refine dx fun _ _=>?_;refine gq jM ?_)
  |(refine ab.str rfl (ad.cat rfl rfl (by assumption)) fun _ _=>?_;refine gq jM ?_)
  |(refine ab.bh ?_;refine gq jM ?_)
  |(refine ab.bO ?_;refine gq jM ?_)
  |(refine fq ?_))
 refine ab.iK (σ:=Int × Int) 0 0 [] (fun p=>[(0,dw ρ fc false l),(3,.v (.int .i64 p.2)),(4,.v (.int .i64 p.1))]) [] (fun _=>[]) (fun p=>∃ k:Nat,p.1=k/\k<=l.length/\R=dW (l.drop k) p.2) (fun p=>l.length - p.1.toNat) (0,1) ⟨0,rfl,by simp,by simpa using hR⟩ rfl cq ?_
 rintro⟨i,o⟩ ⟨k,hi,hk,hp⟩
 simp only at hi hp
 clear hR
 refine gq jM ?_
 by_cases aB:k < l.length
 ·obtain⟨x,hx,iN⟩:=oA aB
  rw [iN,dW] at hp
  repeat' (first
   |(refine ab.op rfl (ad.ind rfl rfl (ky (l:=l) hi hx) (kz fun _=>rfl)) ?_;refine gq jM ?_)
   |(refine bq (fun hb=>?_) (fun hb=>?_)<;>(try simp only [bS] at hb)<;>(first|exact absurd hb (by decide)|refine gq jM ?_))
   |(refine bK fun m hm=>?_;(try rw [aF] at hm);refine gq jM ?_)
   |(refine bH fun _ _=>?_;refine gq jM ?_)
   |(refine dx fun _ _=>?_;refine gq jM ?_)
   |(refine ab.str rfl (ad.cat rfl rfl (by assumption)) fun _ _=>?_;refine gq jM ?_)
   |(refine ab.bh ?_;refine gq jM ?_)
   |(refine ab.bO ?_;refine gq jM ?_)
   |(refine fq ?_))
  all_goals first
   |(exfalso;omega)
   |(rw [if_pos (by omega)] at hp;rw [hp];exact vw rfl)
   |(rw [if_neg (by omega),if_pos (by omega)] at hp;refine ab.d_ (σ:=Int × Int) (_,o) [] ?_ ?_ cq<;>first|(simp only;omega)|exact⟨k+1,by simp only;omega,by omega,hp⟩)
   |(rw [if_neg (by omega),if_neg (by omega)] at hp;refine ab.d_ (σ:=Int × Int) (_,0) [] ?_ ?_ cq<;>first|(simp only;omega)|exact⟨k+1,by simp only;omega,by omega,hp⟩)
 ·rw [List.drop_eq_nil_of_le (by omega),dW] at hp
  repeat' (first
   |(refine bq (fun hb=>?_) (fun hb=>?_)<;>(try simp only [bS] at hb)<;>(first|exact absurd hb (by decide)|refine gq jM ?_))
   |(refine bK fun m hm=>?_;(try rw [aF] at hm);refine gq jM ?_)
   |(refine bH fun _ _=>?_;refine gq jM ?_)
   |(refine dx fun _ _=>?_;refine gq jM ?_)
   |(refine ab.str rfl (ad.cat rfl rfl (by assumption)) fun _ _=>?_;refine gq jM ?_)
   |(refine ab.bh ?_;refine gq jM ?_)
   |(refine ab.bO ?_;refine gq jM ?_)
   |(refine fq ?_))
  all_goals first
   |(exfalso;omega)
   |(rw [hp];exact vw rfl)
end
end
end Go.Proofs.YtgjfgekaclobaaaGreat
