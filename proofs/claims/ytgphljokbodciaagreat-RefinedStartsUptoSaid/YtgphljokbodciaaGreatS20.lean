import Derived.Test.YtgphljokbodciaaGreatS19
namespace Go.Proofs.YtgphljokbodciaaGreat
set_option linter.unusedVariables false
set_option linter.unusedSimpArgs false
open Go.RowKit
section
set_option maxRecDepth 100000
attribute [local irreducible] ah aV ad ab
def Qh:CF Tryz.f418:=⟨_,by conv=>lhs;cbv⟩
theorem Qi:aD Tryz.prog 418 Qh.1 Tryz.f418.ntmps:=aO Tryz.func418 Qh.2 Tryz.call418
def jd:List Nat:=[8,0,5,4,7,9,1,16]
def Qj:CF Tryz.f328:=⟨_,by conv=>lhs;cbv⟩
theorem Qk:aD Tryz.prog 328 Qj.1 Tryz.f328.ntmps:=aO Tryz.func328 Qj.2 Tryz.call328
def je:List Nat:=[8,0,5,4,7,9,1,16]
def Ql:CF Tryz.f362:=⟨_,by conv=>lhs;cbv⟩
theorem Z2:aD Tryz.prog 362 Ql.1 Tryz.f362.ntmps:=aO Tryz.func362 Ql.2 Tryz.call362
def qV:List Nat:=[8,0,5,4,7,9,1,16]
def Qm:CF Tryz.f466:=⟨_,by conv=>lhs;cbv⟩
theorem Z3:aD Tryz.prog 466 Qm.1 Tryz.f466.ntmps:=aO Tryz.func466 Qm.2 Tryz.call466
def qW:List Nat:=[8,0,5,4,7,9,1,16]
def Qn:CF Tryz.f319:=⟨_,by conv=>lhs;cbv⟩
theorem Z4:aD Tryz.prog 319 Qn.1 Tryz.f319.ntmps:=aO Tryz.func319 Qn.2 Tryz.call319
def M5:List Nat:=[4,0,1]
def Qo:CF Tryz.f384:=⟨_,by conv=>lhs;cbv⟩
theorem Z5:aD Tryz.prog 384 Qo.1 Tryz.f384.ntmps:=aO Tryz.func384 Qo.2 Tryz.call384
def M6:List Nat:=[4,0,1]
section
variable {w0:World}{ρ:Hd}
theorem Vw (p:Im->Bool) (l:List Im) (gid:FuncId) (fs cs:List AV) (hl:l.length<=1099511627776) (hF:Pure (.fn (.func gid) fs cs)) (h:∀ x ∈ l,yN Tryz.prog w0 (.fn (.func gid) fs cs) [it ρ x] (p x)):ah Tryz.prog w0 328 [fN ρ l,.fn (.func gid) fs cs] (iv (cE p l 0)):=by
 obtain⟨R,hR⟩:∃ R,R=cE p l 0:=⟨_,rfl⟩
 rw [<-hR]
 refine Qk.aH (by simp [Tryz.ntmps328]) (.v) ?_
 refine gq je ?_
 repeat' (first
  |(refine az fun m hm=>?_;(try rw [af] at hm);refine gq je ?_)
  )
 refine ab.aP (σ:=Int) 0 0 [] (fun i=>[(0,fN ρ l),(1,.fn (.func gid) fs cs),(7,.v (.int .i64 m)),(8,.v (.int .i64 i))]) [] (fun _=>[])
  (fun i=>∃ k:Nat,i=k/\k<=l.length/\R=cE p (l.drop k) k) (fun i=>l.length - i.toNat) 0 ⟨0,rfl,by simp,by simpa using hR⟩ rfl ⟨⟨.aC rfl (Pure.bM (ct _)),.aC rfl (Pure.bM hF),.aC rfl .v,.aC rfl .v,trivial⟩,rfl,trivial,rfl,rfl,rfl⟩ ?_
 rintro i ⟨k,hi,hk,hp⟩
 clear hR
 refine gq je ?_
 by_cases au:k < l.length
 ·obtain⟨x,hx,aQ⟩:=aA au
  rw [aQ,cE] at hp
  have hf:=h x (aZ hx)
  repeat' (first
   |(refine ab.op rfl (ad.ind rfl rfl (ay (l:=l) hi hx) (aw fun _=>rfl)) ?_;refine gq je ?_)
   |(refine ab.bif rfl (ad.FB rfl rfl hf) (fun _=>?_) (fun _=>?_)<;>refine gq je ?_)
   |(refine bq (fun hb=>?_) (fun hb=>?_)<;>(try simp only [aq] at hb)<;>(first|refine gq je ?_))
   |(refine aS fun _ _=>?_;refine gq je ?_)
   |(refine ab.ao ?_;refine gq je ?_)
   |(refine ab.bK ?_;refine gq je ?_)
   |(refine fq ?_))
  all_goals first
   |(rw [if_pos (by assumption)] at hp;refine dK ?_;omega)
   |(rw [if_neg (by simp_all)] at hp
     refine ab.aK (σ:=Int) _ [] ?_ ?_ ⟨⟨.aC rfl (Pure.bM (ct _)),.aC rfl (Pure.bM hF),.aC rfl .v,.aC rfl .v,trivial⟩,rfl,trivial,rfl,rfl,rfl⟩
     ·exact⟨k+1,by omega,by omega,hp⟩
     ·omega)
   |(exfalso;omega)
 ·skip
  repeat' (first
   |(refine bq (fun hb=>?_) (fun hb=>?_)<;>(try simp only [aq] at hb)<;>(first|refine gq je ?_))
   |(refine ab.ao ?_;refine gq je ?_)
   |(refine fq ?_))
  all_goals first
   |(exfalso;omega)
   |(rw [hp,List.drop_eq_nil_of_le (by omega)];exact dK rfl)
theorem Vx (p:Dc->Bool) (l:List Dc) (gid:FuncId) (fs cs:List AV) (hl:l.length<=1099511627776) (hF:Pure (.fn (.func gid) fs cs)) (h:∀ x ∈ l,yN Tryz.prog w0 (.fn (.func gid) fs cs) [dc x] (p x)):ah Tryz.prog w0 466 [dP ρ l,.fn (.func gid) fs cs] (iv (cE p l 0)):=by
 obtain⟨R,hR⟩:∃ R,R=cE p l 0:=⟨_,rfl⟩
 rw [<-hR]
 refine Z3.aH (by simp [Tryz.ntmps466]) (.v) ?_
 refine gq qW ?_
 repeat' (first
  |(refine az fun m hm=>?_;(try rw [af] at hm);refine gq qW ?_)
  )
 refine ab.aP (σ:=Int) 0 0 [] (fun i=>[(0,dP ρ l),(1,.fn (.func gid) fs cs),(7,.v (.int .i64 m)),(8,.v (.int .i64 i))]) [] (fun _=>[])
  (fun i=>∃ k:Nat,i=k/\k<=l.length/\R=cE p (l.drop k) k) (fun i=>l.length - i.toNat) 0 ⟨0,rfl,by simp,by simpa using hR⟩ rfl ⟨⟨.aC rfl (Pure.bM (cg _)),.aC rfl (Pure.bM hF),.aC rfl .v,.aC rfl .v,trivial⟩,rfl,trivial,rfl,rfl,rfl⟩ ?_
 rintro i ⟨k,hi,hk,hp⟩
 clear hR
 refine gq qW ?_
 by_cases au:k < l.length
 ·obtain⟨x,hx,aQ⟩:=aA au
  rw [aQ,cE] at hp
  have hf:=h x (aZ hx)
  repeat' (first
   |(refine ab.op rfl (ad.ind rfl rfl (ay (l:=l) hi hx) (aw fun _=>rfl)) ?_;refine gq qW ?_)
   |(refine ab.bif rfl (ad.FB rfl rfl hf) (fun _=>?_) (fun _=>?_)<;>refine gq qW ?_)
   |(refine bq (fun hb=>?_) (fun hb=>?_)<;>(try simp only [aq] at hb)<;>(first|refine gq qW ?_))
   |(refine aS fun _ _=>?_;refine gq qW ?_)
   |(refine ab.ao ?_;refine gq qW ?_)
   |(refine ab.bK ?_;refine gq qW ?_)
   |(refine fq ?_))
  all_goals first
   |(rw [if_pos (by assumption)] at hp;refine dK ?_;omega)
   |(rw [if_neg (by simp_all)] at hp
     refine ab.aK (σ:=Int) _ [] ?_ ?_ ⟨⟨.aC rfl (Pure.bM (cg _)),.aC rfl (Pure.bM hF),.aC rfl .v,.aC rfl .v,trivial⟩,rfl,trivial,rfl,rfl,rfl⟩
     ·exact⟨k+1,by omega,by omega,hp⟩
     ·omega)
   |(exfalso;omega)
 ·skip
  repeat' (first
   |(refine bq (fun hb=>?_) (fun hb=>?_)<;>(try simp only [aq] at hb)<;>(first|refine gq qW ?_))
   |(refine ab.ao ?_;refine gq qW ?_)
   |(refine fq ?_))
  all_goals first
   |(exfalso;omega)
   |(rw [hp,List.drop_eq_nil_of_le (by omega)];exact dK rfl)
theorem Vy (p:Dc->Bool) (l:List Dc) (gid:FuncId) (fs cs:List AV) (hl:l.length<=1099511627776) (hF:Pure (.fn (.func gid) fs cs)) (h:∀ x ∈ l,yN Tryz.prog w0 (.fn (.func gid) fs cs) [dc x] (p x)):ah Tryz.prog w0 384 [dP ρ l,.fn (.func gid) fs cs] (.v (.bool (l.any p))):=by
 have hI:=Vx (w0:=w0) (ρ:=ρ) p l gid fs cs hl hF h
 have ea:=kf p l 0
 obtain⟨j,hj⟩:∃ j,j=cE p l 0:=⟨_,rfl⟩
 rw [<-hj] at hI ea
 refine Z5.aH (by simp [Tryz.ntmps384]) (.v) ?_
 refine gq M6 ?_
 repeat' (first
  |(refine ab.int rfl (ad.ag rfl hI ⟨cg _,hF,trivial⟩) fun _ _=>?_;refine gq M6 ?_)
  |(refine bq (fun hb=>?_) (fun hb=>?_)<;>(try simp only [aq] at hb)<;>(first|refine gq M6 ?_))
  |(refine fq ?_))
 all_goals (subst_vars;refine aI ?_;rw [<-ea];simp_all)
end
end
section
set_option maxRecDepth 100000
attribute [local irreducible] ah aV ad ab
def fB (b:Bool):AV:=.v (.bool b)
def Bh (s:List Int):List (Int × Bool):=s.map fun i=>(i,true)
theorem Bi (s:List Int) (i:Int):j5 (Bh s) i=if s.contains i then some true else none:=by
 induction s with
 |nil=>rfl
 |cons x s ih =>
  rw [Bh,List.map_cons,j5,List.contains_cons]
  rw [Bh] at ih
  by_cases h:x=i
  ·simp [h]
  ·have h':¬ i=x:=fun e=>h e.symm
   simp [h,h',ih]
theorem M7 {s:List Int}{i:Int}(h:s.contains i=false):qA (Bh s) i true=Bh (s++[i]):=by
 induction s with
 |nil=>rfl
 |cons x s ih =>
  rw [List.contains_cons,Bool.or_eq_false_iff] at h
  have h1:¬ x=i:=fun e=>by simp [e] at h
  have h2:=ih h.2
  rw [Bh] at h2
  simp only [Bh,List.map_cons,List.cons_append,qA,h1,if_false]
  rw [h2];rfl
def Z6 (ρ:Hd) (p:List Int × List (Int × Bool) × Nat):List (Nat × Ob):=[(0,.arr 1 [[.gr 4 1 p.2.2]] 0 true),(1,.mp (ρ.h (kX fB) p.2.1)),(2,.arr 1 [[.mp 1]] 0 true),(3,.df),(4,.arr 1 (ρ.h (List.map bJ) p.1) 0 false)]
section
variable {w0:World}{ρ:Hd}
theorem An {B:Nat}{kv:List (Int × Bool)}:jF B (.mp (ρ.h (kX fB) kv)):=by
 rw [ρ.eq]
 intro e he
 obtain⟨p,_,rfl⟩:=List.mem_map.1 he
 exact .v
theorem cW {B sz fz:Nat}{s:List Int}{ex:Bool}:jF B (.arr sz (ρ.h (List.map bJ) s) fz ex):=s8 fun x _ a ha=>by
 obtain rfl:=List.mem_singleton.1 ha
 exact .v
theorem Vz (gid:FuncId) (fs cs:List AV) (xs:List Int) (hl:xs.length<=1099511627776) (hf:∀ a ∈ fs,Pure a) (hc:∀ a ∈ cs,Pure a) (Bg:Iter Tryz.prog w0 gid fs cs (xs.map bJ)) :
  ah Tryz.prog w0 353 [.fn (.func gid) fs cs] (bY ρ bJ false (bF [] xs)):=by
 obtain⟨R,hR⟩:∃ R,R=bF [] xs:=⟨_,rfl⟩
 rw [<-hR]
 refine ZY.aH (by simp [Tryz.ntmps353]) ((bR _)) ?_
 refine gq vf ?_
 refine ab.eZ ρ fB rfl fun kv jG=>?_
 subst jG
 refine gq vf ?_
 refine ab.range (σ:=List Int × List (Int × Bool) × Nat) bJ xs 4 5 [] [(3,.pt 0 1 0 0),(4,.pt 2 1 0 0)] (Z6 ρ) (fun rest p=>R=p.1++bF p.1 rest/\p.1.length+rest.length<=1099511627776/\p.2.1=Bh p.1/\p.2.2=p.1.length) ([],[],0) rfl hf hc Bg rfl ⟨by simpa using hR,by simpa using hl,rfl,rfl⟩ rfl
  (by intro p hp;simp only [List.mem_cons,List.not_mem_nil,or_false] at hp;rcases hp with rfl|rfl<;>exact .pt (by decide)) rfl (fun x=>⟨rfl,fun a ha=>by obtain rfl:=List.mem_singleton.1 ha;exact .v⟩)
  ⟨⟨.aC rfl (.pt (by decide)),.aC rfl (.pt (by decide)),trivial⟩,rfl,⟨.inl ⟨_,rfl,.arr ⟨⟨.iW,trivial⟩,trivial⟩⟩,.inl ⟨_,rfl,.same An⟩,.inl ⟨_,rfl,.arr ⟨⟨.aC (.mp (by decide)),trivial⟩,trivial⟩⟩,.inl ⟨_,rfl,.same trivial⟩,.inr rfl,trivial⟩,rfl,rfl,rfl⟩ ?_ ?_
 ·rintro x rest ⟨s,kv,len⟩ ⟨hI,hlen,jG,fA⟩
  simp only at hI hlen jG fA
  rw [bF] at hI
  rw [List.length_cons] at hlen
  refine gq vf ?_
  refine ab.look rfl rfl rfl rfl (fun v hv=>?_) (fun hv=>?_)
  ·rw [jG,Bi] at hv
   have hs:s.contains x=true:=by
    cases hc:s.contains x with
    |true=>rfl
    |false=>rw [if_neg (by rw [hc];simp)] at hv;cases hv
   rw [if_pos hs] at hv hI
   obtain rfl:=Option.some.inj hv
   refine gq vf ?_
   refine ab.Ha (s,kv,len) [(4,4)] ⟨hI,by simp only;omega,jG,fA⟩ ⟨trivial,rfl,⟨.inl ⟨_,rfl,.arr ⟨⟨.ll rfl rfl,trivial⟩,trivial⟩⟩,.inl ⟨_,rfl,.same An⟩,.inl ⟨_,rfl,.arr ⟨⟨.aC (.mp (by decide)),trivial⟩,trivial⟩⟩,.inl ⟨_,rfl,.same trivial⟩,.inl ⟨_,rfl,.same cW⟩,trivial⟩,rfl,rfl,rfl⟩
  ·rw [jG,Bi] at hv
   have hs:s.contains x=false:=by
    cases hc:s.contains x with
    |true=>rw [if_pos hc] at hv;cases hv
    |false=>rfl
   rw [if_neg (by rw [hs];simp)] at hI
   refine gq vf ?_
   refine ab.j6 (v:=true) rfl rfl rfl rfl rfl fun sY vl=>?_
   rw [jG,M7 hs] at vl
   refine gq vf ?_
   refine ab.app (x:=x) (f:=bJ) rfl rfl rfl fA (fun _=>rfl) rfl rfl rfl rfl (by omega) fun s' cF iK fe=>?_
   refine gq vf ?_
   refine ab.Ha (s',sY,cF) [(4,5)] ⟨by simp only;rw [hI,iK];simp,by simp only;rw [iK];simp;omega,by simp only;rw [vl,iK],fe⟩ ⟨trivial,rfl,⟨.inl ⟨_,rfl,.arr ⟨⟨.ll rfl rfl,trivial⟩,trivial⟩⟩,.inl ⟨_,rfl,.same An⟩,.inl ⟨_,rfl,.arr ⟨⟨.aC (.mp (by decide)),trivial⟩,trivial⟩⟩,.inl ⟨_,rfl,.same trivial⟩,.inl ⟨_,rfl,.same cW⟩,trivial⟩,rfl,rfl,rfl⟩
 ·rintro⟨s,kv,len⟩ ⟨hI,_,jG,fA⟩
  simp only at hI jG fA
  rw [bF,List.append_nil] at hI
  refine gq vf ?_
  subst hI
  refine ab.fin (by conv=>lhs;cbv) ?_
  exact aX.grow rfl fA
theorem gp:∀ (l s:List Int),(bF s l).length<=l.length
 |[],s=>Nat.le_refl _
 |x::l,s=>by
  rw [bF]
  split
  ·have:=gp l s;simp;omega
  ·have:=gp l (s++[x]);simp;omega
def varsOf (l:List Tm):List Int:=bF [] (aY l)
theorem vm (l:List Tm) (hl:l.length<=1099511627776) (hk:er l) (hv:(aY l).length<=1099511627776):ah Tryz.prog w0 353 [.fn (.func 448) [] [.ip [tl ρ l]]] (bY ρ bJ false (varsOf l)) :=
 Vz _ [] _ _ hv (fun a ha=>by cases ha) (fun a ha=>by obtain rfl:=List.mem_singleton.1 ha;exact .ip fun b hb=>by obtain rfl:=List.mem_singleton.1 hb;exact bB _) (TJ l hl hk)
theorem VA (x:Tm) {ex:Bool}:Wk (.sl ex [w5 ρ x]) (tl ρ [x]):=by
 rw [tl,dE,List.map_cons,rY (ρ:=ρ),List.map_nil]
 exact Wk.sl
theorem KL (x:Tm) (hx:x.ok) (hv:(dh x).length<=1099511627776):ah Tryz.prog w0 239 [tm ρ x] (bY ρ bJ false (varsOf [x])):=by
 have h1:=Da (w0:=w0) (ρ:=ρ) [x]
 have h2:=vm (w0:=w0) (ρ:=ρ) [x] (by simp) ⟨hx,trivial⟩ (by simpa [aY] using hv)
 obtain⟨k,i,n,a⟩:=x
 obtain⟨R,hR⟩:∃ R,R=varsOf [⟨k,i,n,a⟩]:=⟨_,rfl⟩
 rw [<-hR] at h2 ⊢
 clear hv hx hR
 refine ZZ.aH (by simp [Tryz.ntmps239]) ((bR _)) ?_
 refine gq MX ?_
 repeat' (first
  |((refine ab.op rfl (ad.nt rfl h1 ⟨bB _,trivial⟩ ⟨VA (ρ:=ρ) ⟨k,i,n,a⟩,trivial⟩) ?_;refine gq MX ?_))
  |((refine ab.op rfl (ad.ag rfl h2 ⟨.fn (fun a ha=>by cases ha) fun a ha=>by obtain rfl:=List.mem_singleton.1 ha;exact .ip fun b hb=>by obtain rfl:=List.mem_singleton.1 hb;exact bB _,trivial⟩) ?_;refine gq MX ?_))
  |(refine fq ?_))
 exact aX.of_eq rfl
theorem yT (x:Gl) (hl:x.a.length<=1099511627776) (hk:er x.a) (hv:(aY x.a).length<=1099511627776):ah Tryz.prog w0 247 [gl ρ x] (bY ρ bJ false (varsOf x.a)):=by
 have h1:=Da (w0:=w0) (ρ:=ρ) x.a
 have h2:=vm (w0:=w0) (ρ:=ρ) x.a hl hk hv
 obtain⟨o,n,a⟩:=x
 dsimp only at h1 h2 ⊢
 obtain⟨R,hR⟩:∃ R,R=varsOf a:=⟨_,rfl⟩
 rw [<-hR] at h2 ⊢
 clear hv hl hk hR
 refine Z1.aH (by simp [Tryz.ntmps247]) ((bR _)) ?_
 refine gq MZ ?_
 repeat' (first
  |((refine ab.op rfl (ad.ag rfl h1 ⟨bB _,trivial⟩) ?_;refine gq MZ ?_))
  |((refine ab.op rfl (ad.ag rfl h2 ⟨.fn (fun a ha=>by cases ha) fun a ha=>by obtain rfl:=List.mem_singleton.1 ha;exact .ip fun b hb=>by obtain rfl:=List.mem_singleton.1 hb;exact bB _,trivial⟩) ?_;refine gq MZ ?_))
  |(refine fq ?_))
 exact aX.of_eq rfl
theorem yU (x:At) (hl:x.a.length<=1099511627776) (hk:er x.a) (hv:(aY x.a).length<=1099511627776):ah Tryz.prog w0 251 [at_ ρ x] (bY ρ bJ false (varsOf x.a)):=by
 have h1:=Da (w0:=w0) (ρ:=ρ) x.a
 have h2:=vm (w0:=w0) (ρ:=ρ) x.a hl hk hv
 obtain⟨n,a⟩:=x
 dsimp only at h1 h2 ⊢
 obtain⟨R,hR⟩:∃ R,R=varsOf a:=⟨_,rfl⟩
 rw [<-hR] at h2 ⊢
 clear hv hl hk hR
 refine Z0.aH (by simp [Tryz.ntmps251]) ((bR _)) ?_
 refine gq MY ?_
 repeat' (first
  |((refine ab.op rfl (ad.ag rfl h1 ⟨bB _,trivial⟩) ?_;refine gq MY ?_))
  |((refine ab.op rfl (ad.ag rfl h2 ⟨.fn (fun a ha=>by cases ha) fun a ha=>by obtain rfl:=List.mem_singleton.1 ha;exact .ip fun b hb=>by obtain rfl:=List.mem_singleton.1 hb;exact bB _,trivial⟩) ?_;refine gq MY ?_))
  |(refine fq ?_))
 exact aX.of_eq rfl
end
end
end Go.Proofs.YtgphljokbodciaaGreat
