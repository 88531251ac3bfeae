import Derived.Test.YtgjfgekaclobaaaGreatCa51
namespace Go.Proofs.YtgjfgekaclobaaaGreat
set_option linter.unusedVariables false
set_option linter.unusedSimpArgs false
open Go.RowKit
section
set_option maxRecDepth 100000
attribute [local irreducible] ah aK ae aa
def ace:CF Tryz.f55:=⟨_,by conv=>lhs;cbv⟩
theorem acf:aT Tryz.prog 55 ace.1 Tryz.f55.ntmps:=bX Tryz.func55 ace.2 Tryz.call55
def yu:List Nat:=[4,5,6,2,1,36,0,8,25,32,35,37,34,10]
def acg:CF Tryz.f25:=⟨_,by conv=>lhs;cbv⟩
theorem alv:aT Tryz.prog 25 acg.1 Tryz.f25.ntmps:=bX Tryz.func25 acg.2 Tryz.call25
def g25:List Nat:=[4,5,0,2,1,7,8]
def ach:CF Tryz.f26:=⟨_,by conv=>lhs;cbv⟩
theorem alw:aT Tryz.prog 26 ach.1 Tryz.f26.ntmps:=bX Tryz.func26 ach.2 Tryz.call26
def Wf:List Nat:=[7,4,5,0,2,1,15,6]
def aci:CF Tryz.f24:=⟨_,by conv=>lhs;cbv⟩
theorem alx:aT Tryz.prog 24 aci.1 Tryz.f24.ntmps:=bX Tryz.func24 aci.2 Tryz.call24
def tr:List Nat:=[2,5,1,4,0,22,27,45]
def qp7:CF Tryz.f7:=⟨_,by conv=>lhs;cbv⟩
theorem Wg:aT Tryz.prog 7 qp7.1 Tryz.f7.ntmps:=bX Tryz.func7 qp7.2 Tryz.call7
def g7:List Nat:=[2,1,6,8,7,4,0,10,43,57,5]
def HJ:List Rl->Bool
 |[]=>false
 |r::l=>decide (2 < r.a7.length+r.rem.length) || HJ l
def Wh (p:Pg) (m:Int):Bool:=(decide (25 < m) && decide (m<=2000)) || (decide (3 < p.rs.length) || (!Ci p || HJ p.rs))
section
variable {w0:World}{ρ:Hd}
theorem y6 {ex:Bool}:Pure (.sl ex []):=.sl fun r h=>by cases h
theorem acj (p:Pg) (jJ:zE p) (hc:(kA p).2=0) (hl:p.rs.length<=1) (hR:p.rs.length=1->ah Tryz.prog w0 179 [pg ρ p,iv 0,iv 0] (.aE [.sl true [],iv 0])):ah Tryz.prog w0 117 [pg ρ p] (.aE [.sl true [],iv 0]):=by
 have yt:=CZ (w0:=w0) (ρ:=ρ) p jJ
 rw [hc] at yt
 obtain⟨c1,fW⟩:∃ c,c=(kA p).1:=⟨_,rfl⟩
 rw [<-fW] at yt
 have jI:=lD (ρ:=ρ) p
 have xG:=pd (ρ:=ρ) p
 clear fW hc jJ
 obtain⟨ds,rs⟩:=p
 simp only at hl hR
 have kp:fV 1 (.arr 2 [mR ρ ⟨ds,rs⟩] 0 true):=pf xG
 refine agZ.bu (by simp [Tryz.ntmps117]) ((.aE (tA y6 .v))) ?_
 refine gq lM ?_
 repeat' (first
  |(refine aa.op rfl (ae.aL rfl yt ⟨jI,trivial⟩) ?_;refine gq lM ?_)
  |(refine bq (fun hb=>?_) (fun hb=>?_)<;>(try simp only [aM] at hb)<;>(first|exact absurd hb (by decide)|refine gq lM ?_))
  |(refine bL fun m hm=>?_;(try rw [aF] at hm);refine gq lM ?_)
  )
 all_goals first
  |skip
 refine aa.bP (σ:=Int) 1 1 [] (fun i=>[(1,.pt 0 2 0 0),(6,.sl true []),(20,.v (.int .i64 m)),(21,.v (.int .i64 i))]) [] (fun _=>[(0,.arr 2 [mR ρ ⟨ds,rs⟩] 0 true)]) (fun i=>0<=i/\i<=rs.length) (fun i=>rs.length - i.toNat) 0 ⟨by omega,by omega⟩ rfl ⟨⟨.aB rfl (.pt (by decide)),.aB rfl jB,.aB rfl .v,.aB rfl .v,trivial⟩,rfl,⟨.inl ⟨_,rfl,.same kp⟩,trivial⟩,rfl,rfl,rfl⟩ ?_
 rintro i ⟨Br,lQ⟩
 unfold mR
 refine gq lM ?_
 refine bq (fun eB=>?_) (fun eB=>?_)<;>(try simp only [aM] at eB)
 rotate_left
 ·refine gq lM ?_
  refine aa.aR ?_
  refine gq lM ?_
  refine fq ?_
  exact .refl _
 obtain rfl:i=0:=by omega
 have hR:=hR (by omega)
 refine gq lM ?_
 refine aa.bP (σ:=Int) 1 1 [] (fun j=>[(1,.pt 0 2 0 0),(6,.sl true []),(7,.v (.int .i64 0)),(8,.v (.int .i64 j)),(20,.v (.int .i64 m)),(21,.v (.int .i64 0))]) [] (fun _=>[(0,.arr 2 [mR ρ ⟨ds,rs⟩] 0 true)]) (fun i=>0<=i/\i<=rs.length) (fun i=>rs.length - i.toNat) 0 ⟨by omega,by omega⟩ rfl ⟨⟨.aB rfl (.pt (by decide)),.aB rfl jB,.aB rfl .v,.aB rfl .v,.aB rfl .v,.aB rfl .v,trivial⟩,rfl,⟨.inl ⟨_,rfl,.same kp⟩,trivial⟩,rfl,rfl,rfl⟩ ?_
 rintro j ⟨hj0,sL⟩
 unfold mR
 refine gq lM ?_
 refine bL fun m2 gH=>?_;rw [aF] at gH
 refine gq lM ?_
 refine bq (fun eg=>?_) (fun eg=>?_)<;>(try simp only [aM] at eg)
 rotate_left
 ·refine gq lM ?_
  refine aa.aR ?_
  refine gq lM ?_
  refine cr fun i3 td=>?_
  refine gq lM ?_
  refine aa.bm (σ:=Int) i3 [] ⟨by omega,by omega⟩ (by omega) ⟨⟨.aB rfl (.pt (by decide)),.aB rfl jB,.aB rfl .v,.aB rfl .v,trivial⟩,rfl,⟨.inl ⟨_,rfl,.same kp⟩,trivial⟩,rfl,rfl,rfl⟩
 obtain rfl:j=0:=by omega
 refine gq lM ?_
 refine aa.op rfl (ae.aL rfl hR ⟨jI,.v,.v,trivial⟩) ?_
 refine gq lM ?_
 refine bq (fun oq=>?_) (fun oq=>?_)<;>(try simp only [aM] at oq)
 ·exact absurd oq (by decide)
 refine gq lM ?_
 refine aa.op rfl (ae.E0 rfl rfl) ?_
 refine gq lM ?_
 refine cr fun i3 td=>?_
 refine gq lM ?_
 refine aa.bm (σ:=Int) i3 [] ⟨by omega,by omega⟩ (by omega) ⟨⟨.aB rfl (.pt (by decide)),.aB rfl jB,.aB rfl .v,.aB rfl .v,.aB rfl .v,.aB rfl .v,trivial⟩,rfl,⟨.inl ⟨_,rfl,.same kp⟩,trivial⟩,rfl,rfl,rfl⟩
theorem P3 (p:Pg) (mo:Int) (jJ:zE p) (hA:(kA p).2=0->ah Tryz.prog w0 117 [pg ρ p] (.aE [.sl true [],iv 0])):ah Tryz.prog w0 55 [pg ρ p,iv mo] (.aE [.sl true [],.sl true [],iv (if (kA p).2=0/\1<=mo/\mo<=2000 then 0 else 2)]):=by
 have yt:=CZ (w0:=w0) (ρ:=ρ) p jJ
 obtain⟨c1,fW⟩:∃ c,c=(kA p).1:=⟨_,rfl⟩
 obtain⟨c2,dv⟩:∃ c,c=(kA p).2:=⟨_,rfl⟩
 rw [<-fW,<-dv] at yt
 rw [<-dv] at hA ⊢
 have jI:=lD (ρ:=ρ) p
 have xG:=pd (ρ:=ρ) p
 obtain⟨R,hR⟩:∃ R:Int,R=if c2=0/\1<=mo/\mo<=2000 then 0 else 2:=⟨_,rfl⟩
 rw [<-hR]
 clear fW dv jJ
 obtain⟨ds,rs⟩:=p
 by_cases lN:c2=0/\1<=mo/\mo<=2000
 ·rw [if_pos lN] at hR
  obtain⟨rfl,h1,h2⟩:=lN
  have hA:=hA rfl
  subst hR
  refine acf.bu (by simp [Tryz.ntmps55]) ((.aE fun a ha=>by simp only [List.mem_cons,List.not_mem_nil,or_false] at ha;rcases ha with rfl|rfl|rfl;exact y6;exact y6;exact .v)) ?_
  refine gq yu ?_
  repeat' (first
   |(refine aa.op rfl (ae.aL rfl yt ⟨jI,trivial⟩) ?_;refine gq yu ?_)
   |(refine aa.op rfl (ae.aL rfl hA ⟨jI,trivial⟩) ?_;refine gq yu ?_)
   |(refine bq (fun hb=>?_) (fun hb=>?_)<;>(try simp only [aM] at hb)<;>(first|exact absurd hb (by decide)|refine gq yu ?_))
   |(refine bL fun m hm=>?_;(try rw [aF] at hm);refine gq yu ?_)
   |(refine fq ?_))
  all_goals first
   |(exfalso;omega)
   |skip
  have kp:fV 1 (.arr 2 [mR ρ ⟨ds,rs⟩] 0 true):=pf xG
  refine aa.bP (σ:=Int) 1 1 [] (fun i=>[(4,.sl true []),(5,.sl true []),(35,.v (.int .i64 m)),(36,.v (.int .i64 i))]) [] (fun _=>[]) (fun i=>i=0) (fun i=>0) 0 rfl rfl ⟨⟨.aB rfl jB,.aB rfl jB,.aB rfl .v,.aB rfl .v,trivial⟩,rfl,trivial,rfl,rfl,rfl⟩ ?_
  rintro i rfl
  refine gq yu ?_
  refine bq (fun eB=>?_) (fun eB=>?_)<;>(try simp only [aM] at eB)
  ·exfalso
   simp only [List.length_nil] at hm
   omega
  refine gq yu ?_
  refine aa.aR ?_
  refine gq yu ?_
  refine fq ?_
  exact .refl _
 ·rw [if_neg lN] at hR
  subst hR
  clear hA
  refine acf.bu (by simp [Tryz.ntmps55]) ((.aE fun a ha=>by simp only [List.mem_cons,List.not_mem_nil,or_false] at ha;rcases ha with rfl|rfl|rfl;exact y6;exact y6;exact .v)) ?_
  refine gq yu ?_
  repeat' (first
   |(refine aa.op rfl (ae.aL rfl yt ⟨jI,trivial⟩) ?_;refine gq yu ?_)
   |(refine bq (fun hb=>?_) (fun hb=>?_)<;>(try simp only [aM] at hb)<;>(first|refine gq yu ?_))
   |(refine fq ?_))
  all_goals first
   |(exfalso;omega)
   |exact .refl _
theorem Ie (p:Pg) (mo e:Int) (hS:ah Tryz.prog w0 55 [pg ρ p,iv mo] (.aE [.sl true [],.sl true [],iv e])):ah Tryz.prog w0 25 [pg ρ p,iv mo] (.aE [.sl true [],iv e]):=by
 have jI:=lD (ρ:=ρ) p
 obtain⟨ds,rs⟩:=p
 refine alv.bu (by simp [Tryz.ntmps25]) ((.aE (tA y6 .v))) ?_
 refine gq g25 ?_
 repeat' (first
  |(refine aa.op rfl (ae.aL rfl hS ⟨jI,.v,trivial⟩) ?_;refine gq g25 ?_)
  |(refine fq ?_))
 exact .refl _
theorem P4 (p:Pg) (mo e:Int) (hV:ah Tryz.prog w0 25 [pg ρ p,iv mo] (.aE [.sl true [],iv e])):ah Tryz.prog w0 26 [pg ρ p,iv mo] (.aE [iv (if e=0 then 1 else 0),iv e]):=by
 have jI:=lD (ρ:=ρ) p
 have hM:=Yj (w0:=w0) (ρ:=ρ) [] (by simp)
 rw [show xK [] 1=1 from rfl] at hM
 obtain⟨R,hR⟩:∃ R:Int,R=if e=0 then 1 else 0:=⟨_,rfl⟩
 rw [<-hR]
 obtain⟨ds,rs⟩:=p
 refine alw.bu (by simp [Tryz.ntmps26]) ((.aE (tA .v .v))) ?_
 refine gq Wf ?_
 repeat' (first
  |(refine aa.op rfl (ae.aL rfl hV ⟨jI,.v,trivial⟩) ?_;refine gq Wf ?_)
  |(refine aa.op rfl (ae.Fo rfl hM ⟨gy _,trivial⟩ ⟨Wk.nil,trivial⟩) ?_;refine gq Wf ?_)
  |(refine bq (fun hb=>?_) (fun hb=>?_)<;>(try simp only [aM] at hb)<;>(first|refine gq Wf ?_))
  |(refine fq ?_))
 all_goals first
  |(have h:R=0:=(by rw [hR,if_neg (by omega)]);rw [h];exact .refl _)
  |(have h:R=1:=(by rw [hR,if_pos (by omega)]);have h2:e=0:=(by omega);rw [h,h2];exact .refl _)
theorem YR (p:Pg) (mo:Int) (jJ:zE p):ah Tryz.prog w0 24 [pg ρ p,iv mo] (.v (.bool (Wh p mo))):=by
 have hP:=NL (w0:=w0) (ρ:=ρ) p jJ
 have jI:=lD (ρ:=ρ) p
 have xG:=pd (ρ:=ρ) p
 have xO:∀ r ∈ p.rs,r.a7.length<=1099511627776/\r.rem.length<=1099511627776:=fun r hr=>⟨(jJ.rr r hr).ke,(jJ.rr r hr).re⟩
 obtain⟨T,hT⟩:∃ T,T=Ci p:=⟨_,rfl⟩
 rw [<-hT] at hP
 obtain⟨R,hR⟩:∃ R,R=Wh p mo:=⟨_,rfl⟩
 rw [<-hR]
 unfold Wh at hR
 rw [<-hT] at hR
 clear hT jJ
 obtain⟨ds,rs⟩:=p
 simp only at hR xO
 have kp:fV 1 (.arr 2 [mR ρ ⟨ds,rs⟩] 0 true):=pf xG
 refine alx.bu (by simp [Tryz.ntmps24]) (.v) ?_
 refine gq tr ?_
 repeat' (first
  |((refine aa.op rfl (ae.aL rfl hP ⟨jI,trivial⟩) ?_;cases T<;>refine gq tr ?_))
  |(refine bq (fun hb=>?_) (fun hb=>?_)<;>(try simp only [aM] at hb)<;>(first|refine gq tr ?_))
  |(refine bL fun m hm=>?_;(try rw [aF] at hm);refine gq tr ?_)
  |(refine fq ?_))
 all_goals first
  |(refine eQ ?_;rw [hR];simp;omega)
  |(refine eQ ?_;rw [hR];simp;done)
  |skip
 all_goals
  have hR2:R=HJ rs:=by
   have h1:(decide (25 < mo) && decide (mo<=2000))=false:=by
    rw [Bool.and_eq_false_iff]
    simp only [decide_eq_false_iff_not]
    omega
   have h2:decide (3 < rs.length)=false:=by
    simp only [decide_eq_false_iff_not]
    omega
   rw [h1,h2] at hR
   simpa using hR
  clear hR
  refine aa.bP (σ:=Int) 1 1 [] (fun i=>[(2,.pt 0 2 0 0),(5,.v (.int .i64 i))]) [] (fun _=>[(0,.arr 2 [mR ρ ⟨ds,rs⟩] 0 true)]) (fun i=>∃ k:Nat,i=k/\k<=rs.length/\R=HJ (rs.drop k)) (fun i=>rs.length - i.toNat) 0 ⟨0,rfl,by omega,by simpa using hR2⟩ rfl ⟨⟨.aB rfl (.pt (by decide)),.aB rfl .v,trivial⟩,rfl,⟨.inl ⟨_,rfl,.same kp⟩,trivial⟩,rfl,rfl,rfl⟩ ?_
  rintro i ⟨k,hi,hk,hp⟩
  clear hR2
  unfold mR
  refine gq tr ?_
  refine bL fun m2 gH=>?_;rw [aF] at gH
  refine gq tr ?_
  refine bq (fun eg=>?_) (fun eg=>?_)<;>(try simp only [aM] at eg)
  rotate_left
  ·refine gq tr ?_
   refine aa.aR ?_
   refine gq tr ?_
   refine fq ?_
   rw [List.drop_of_length_le (by omega),HJ] at hp
   exact eQ hp.symm
  obtain⟨r,iM,cg⟩:=cd (l:=rs) (k:=k) (by omega)
  rw [cg,HJ] at hp
  have JC:=xO r (g8 iM)
  obtain⟨rn,ke,re,rg,rb,rv⟩:=r
  simp only at JC hp
  refine gq tr ?_
  repeat' (first
   |(refine aa.op rfl (ae.ind rfl rfl (bU (l:=rs) hi iM) (bV fun _=>rfl)) ?_;refine gq tr ?_)
   |(refine bq (fun hb=>?_) (fun hb=>?_)<;>(try simp only [aM] at hb)<;>(first|refine gq tr ?_))
   |(refine bL fun m hm=>?_;(try rw [aF] at hm);refine gq tr ?_)
   |(refine cr fun _ _=>?_;refine gq tr ?_)
   |(refine aa.iB ?_;refine gq tr ?_)
   |(refine fq ?_))
  all_goals first
   |(refine eQ ?_;rw [hp];simp;omega)
   |(rename_i hb9 i9 hi9
     have iN:R=HJ (rs.drop (k+1)):=(by
      have h1:decide (2 < ke.length+re.length)=false:=(by simp only [decide_eq_false_iff_not];omega)
      rw [h1] at hp
      simpa using hp)
     refine aa.bm (σ:=Int) i9 [] ⟨k+1,by omega,by omega,iN⟩ (by omega) ⟨⟨.aB rfl (.pt (by decide)),.aB rfl .v,trivial⟩,rfl,⟨.inl ⟨_,rfl,.same kp⟩,trivial⟩,rfl,rfl,rfl⟩)
end
end
end Go.Proofs.YtgjfgekaclobaaaGreat
