import Derived.Test.YtbofilglphfceaaGreatQ45
namespace Go.Proofs.YtbofilglphfceaaGreat
set_option linter.unusedVariables false
set_option linter.unusedSimpArgs false
open Go.RowKit
section
set_option maxRecDepth 100000
attribute [local irreducible] ah bc ad ab
def P5:CF Tryz.f210:=⟨_,by conv=>lhs;cbv⟩
theorem YN:aH Tryz.prog 210 P5.1 Tryz.f210.ntmps:=aQ Tryz.func210 P5.2 Tryz.call210
def cz:List Nat:=[3,6,9,5,10,12,14,0,7,8,13,4,1,20,37,44,50,69,74,83,90,102,11,111]
theorem MB (ds:List Dc) (n:ByteArray) (a:Int):kC ds n a=if ef ds n a=true then 0 else if ds.any (named n)=true then 9 else 7:=by
 unfold kC
 by_cases h:ef ds n a=true
 ·have h2:ds.any (named n)=true:=by
   unfold ef at h
   rw [List.any_eq_true] at h ⊢
   obtain⟨d,hd,h⟩:=h
   rw [Bool.and_eq_true] at h
   exact⟨d,hd,h.1⟩
  rw [if_pos h2,if_pos h,if_pos h]
 ·rw [if_neg h,if_neg h]
section
variable {w0:World}{ρ:Hd}
theorem A8 (ds:List Dc) (n:ByteArray) (a:Int) (hd:ds.length<=1099511627776):ah Tryz.prog w0 279 [dG ρ ds,.v (.string n),iv a] (iv (kC ds n a)):=by
 have h2:=po (w0:=w0) (ρ:=ρ) ds n a hd
 rw [MB]
 obtain⟨b2,e2⟩:∃ b,b=ef ds n a:=⟨_,rfl⟩
 rw [<-e2] at h2 ⊢
 clear e2
 obtain⟨b1,e1⟩:∃ b,b=ds.any (named n):=⟨_,rfl⟩
 rw [<-e1]
 refine YJ.aG (by simp [Tryz.ntmps279]) (.v) ?_
 refine gq mf ?_
 refine ab.aP (σ:=Int × Int) 0 0 [] (fun p=>[(0,dG ρ ds),(1,.v (.string n)),(2,.v (.int .i64 a)),(7,.v (.int .i64 p.2)),(8,.v (.int .i64 p.1))]) [] (fun _=>[])
  (fun p=>∃ k:Nat,p.1=k/\k<=ds.length/\p.2=if (ds.take k).any (named n)=true then 9 else 7) (fun p=>ds.length - p.1.toNat) (0,7) ⟨0,rfl,by simp,rfl⟩ rfl cq ?_
 rintro⟨i,c⟩ ⟨k,hi,hk,hp⟩
 simp only at hi hp
 refine gq mf ?_
 by_cases au:k < ds.length
 ·obtain⟨x,hx,aO⟩:=az au
  have ht:(ds.take (k+1)).any (named n)=((ds.take k).any (named n) || named n x):=by rw [List.take_add_one,hx];simp
  obtain⟨xn,xa⟩:=x
  obtain⟨P,hP⟩:∃ P,P=(ds.take k).any (named n):=⟨_,rfl⟩
  rw [<-hP] at hp ht
  repeat' (first
   |(refine ab.op rfl (ad.ind rfl rfl (ay (l:=ds) hi hx) (aw fun _=>rfl)) ?_;refine gq mf ?_)
   |(refine ab.a_ rfl (ad.bit rfl) (fun hs=>?_) (fun hs=>?_)<;>refine gq mf ?_)
   |(refine aB fun m hm=>?_;(try rw [af] at hm);refine gq mf ?_)
   |(refine aS fun _ _=>?_;refine gq mf ?_)
   |(refine ab.ao ?_;refine gq mf ?_)
   )
  all_goals first
   |(exfalso;simp only [decide_eq_true_eq,decide_eq_false_iff_not] at *;omega)
   |(refine ab.aL (σ:=Int × Int) (_,_) [] ?_ ?_ cq
     ·refine⟨k+1,by simp only;omega,by omega,?_⟩
      simp only
      rw [ht]
      first
       |(rw [show named n ⟨xn,xa⟩=true from hs,Bool.or_true];rfl)
       |(rw [show named n ⟨xn,xa⟩=false from hs,Bool.or_false];exact hp)
     ·simp only;omega)
 rw [List.take_of_length_le (by omega),<-e1] at hp
 cases b2
 ·skip
  repeat' (first
   |(refine ab.op rfl (ad.ag rfl h2 ⟨bU _,.v,.v,trivial⟩) ?_;refine gq mf ?_)
   |(refine bq (fun hb=>?_) (fun hb=>?_)<;>(try simp only [aq] at hb)<;>(first|refine gq mf ?_))
   |(refine aB fun m hm=>?_;(try rw [af] at hm);refine gq mf ?_)
   |(refine ab.ao ?_;refine gq mf ?_)
   |(refine fq ?_))
  all_goals first
   |(exfalso;omega)
   |(rw [hp];exact aU.of_eq rfl)
 ·skip
  repeat' (first
   |(refine ab.op rfl (ad.ag rfl h2 ⟨bU _,.v,.v,trivial⟩) ?_;refine gq mf ?_)
   |(refine bq (fun hb=>?_) (fun hb=>?_)<;>(try simp only [aq] at hb)<;>(first|refine gq mf ?_))
   |(refine aB fun m hm=>?_;(try rw [af] at hm);refine gq mf ?_)
   |(refine ab.ao ?_;refine gq mf ?_)
   |(refine fq ?_))
  all_goals first
   |(exfalso;omega)
   |exact aU.of_eq rfl
theorem RD (ds:List Dc) (l:List Gl) (hd:ds.length<=1099511627776) (hl:l.length<=1099511627776) (hz:∀ g ∈ l,g.a.length<=1099511627776):ah Tryz.prog w0 280 [dG ρ ds,cO ρ l] (iv (fX ds l)):=by
 obtain⟨R,hR⟩:∃ R,R=fX ds l:=⟨_,rfl⟩
 rw [<-hR]
 refine YK.aG (by simp [Tryz.ntmps280]) (.v) ?_
 refine gq oa ?_
 refine ab.aP (σ:=Int) 0 0 [] (fun i=>[(0,dG ρ ds),(1,cO ρ l),(5,.v (.int .i64 i))]) [] (fun _=>[]) (fun i=>∃ k:Nat,i=k/\k<=l.length/\R=fX ds (l.drop k)) (fun i=>l.length - i.toNat) 0 ⟨0,rfl,by simp,by simpa using hR⟩ rfl cq ?_
 rintro i ⟨k,hi,hk,hp⟩
 clear hR
 refine gq oa ?_
 by_cases au:k < l.length
 ·obtain⟨x,hx,aO⟩:=az au
  rw [aO,fX] at hp
  have jG:=hz x (List.mem_of_getElem? hx)
  obtain⟨o,n,a⟩:=x
  dsimp only at jG
  have hD:=A8 (w0:=w0) (ρ:=ρ) ds n a.length hd
  have hC:lZ ds ⟨o,n,a⟩=if o=0 then kC ds n a.length else 0:=rfl
  obtain⟨D,JU⟩:∃ D,D=kC ds n a.length:=⟨_,rfl⟩
  rw [<-JU] at hC hD
  obtain⟨C,wv⟩:∃ C,C=lZ ds ⟨o,n,a⟩:=⟨_,rfl⟩
  rw [<-wv] at hC hp
  obtain⟨q,hq⟩:∃ q:Int,q=a.length:=⟨_,rfl⟩
  rw [<-hq] at hD
  clear JU wv
  refine ab.int rfl (ad.len rfl) fun m0 kO=>?_;rw [af] at kO
  refine gq oa ?_
  repeat' (first
   |(refine ab.op rfl (ad.ind rfl rfl (ay (l:=l) hi hx) (aw fun _=>rfl)) ?_;refine gq oa ?_)
   |(refine ab.int rfl (ad.len rfl) fun m hm=>?_;rw [af] at hm;obtain rfl:m=q:=(by omega);refine gq oa ?_)
   |((refine ab.int rfl (ad.ag rfl hD ⟨bU _,.v,.v,trivial⟩) fun d eK=>?_;refine gq oa ?_))
   |(refine bq (fun hb=>?_) (fun hb=>?_)<;>(try simp only [aq] at hb)<;>(first|refine gq oa ?_))
   |(refine aS fun _ _=>?_;refine gq oa ?_)
   |(refine ab.ao ?_;refine gq oa ?_)
   |(refine ab.bJ ?_;refine gq oa ?_)
   |(refine fq ?_))
  all_goals first
   |(exfalso;omega)
   |(have e:C=0:=by (rw [hC];split<;>omega)
     rw [bu e] at hp;(refine ab.aL (σ:=Int) _ [] ?_ ?_ cq<;>first|omega|exact⟨k+1,by omega,by omega,hp⟩))
   |(have e:C=D:=by (rw [hC];split<;>omega)
     rw [cE (by omega)] at hp;refine dI ?_;omega)
 ·skip
  repeat' (first
   |(refine bq (fun hb=>?_) (fun hb=>?_)<;>(try simp only [aq] at hb)<;>(first|refine gq oa ?_))
   |(refine aB fun m hm=>?_;(try rw [af] at hm);refine gq oa ?_)
   |(refine ab.ao ?_;refine gq oa ?_)
   |(refine fq ?_))
  all_goals first
   |(exfalso;omega)
   |(rw [hp,List.drop_eq_nil_of_le (by omega)];exact dI rfl)
end
end
section
set_option maxRecDepth 100000
attribute [local irreducible] ah bc ad ab
def VQ:CF Tryz.f11:=⟨_,by conv=>lhs;cbv⟩
theorem acy:aH Tryz.prog 11 VQ.1 Tryz.f11.ntmps:=aQ Tryz.func11 VQ.2 Tryz.call11
def g11:List Nat:=[4,1,6,0]
def fm (l:List Gl) (v:Int):dP:=⟨l,[],[],[],[],1,if v < 0 then 0 else v,false⟩
section
variable {w0:World}{ρ:Hd}
theorem tW {S:ae}{l:List Gl}{v w:Int}(h:v=w):aU S (.agg [cO ρ l,.sl true [],.sl true [],.sl true [],.sl true [],.v (.int .i64 1),.v (.int .i64 v),.v (.bool false)]) (r5 ρ ⟨l,[],[],[],[],1,w,false⟩):=by
 subst h
 refine .agg rfl fun i a a' h1 h2=>?_
 match i,h1,h2 with
 |0,h1,h2=>obtain rfl:=Option.some.inj h1;obtain rfl:=Option.some.inj h2;exact .refl _
 |1,h1,h2=>obtain rfl:=Option.some.inj h1;obtain rfl:=Option.some.inj h2;rw [fJ,dx];exact aU.wk
 |2,h1,h2=>obtain rfl:=Option.some.inj h1;obtain rfl:=Option.some.inj h2;rw [eJ,dx];exact aU.wk
 |3,h1,h2=>obtain rfl:=Option.some.inj h1;obtain rfl:=Option.some.inj h2;rw [gO,dx];exact aU.wk
 |4,h1,h2=>obtain rfl:=Option.some.inj h1;obtain rfl:=Option.some.inj h2;rw [cO,dx];exact aU.wk
 |5,h1,h2=>obtain rfl:=Option.some.inj h1;obtain rfl:=Option.some.inj h2;exact .refl _
 |6,h1,h2=>obtain rfl:=Option.some.inj h1;obtain rfl:=Option.some.inj h2;exact .refl _
 |7,h1,h2=>obtain rfl:=Option.some.inj h1;obtain rfl:=Option.some.inj h2;exact .refl _
 |i+8,h1,h2=>cases h1
theorem Qy (l:List Gl) (v:Int):ah Tryz.prog w0 11 [cO ρ l,iv v] (r5 ρ (fm l v)):=by
 have hp:=l4 (ρ:=ρ) (fm l v)
 unfold fm at hp ⊢
 refine acy.aG (by simp [Tryz.ntmps11]) (hp) ?_
 refine gq g11 ?_
 repeat' (first
  |(refine bq (fun hb=>?_) (fun hb=>?_)<;>(try simp only [aq] at hb)<;>(first|refine gq g11 ?_))
  |(refine fq ?_))
 ·exact tW (by rw [if_pos (by assumption)])
 ·exact tW (by rw [if_neg (by assumption)])
end
end
section
set_option maxRecDepth 100000
noncomputable def MC:{q:QC × List QR // aX Tryz.progTables Tryz.f12=some q}:=⟨_,by conv=>lhs;cbv⟩
theorem acz:aN Tryz.prog 12 MC.1 Tryz.f12.ntmps:=aN.of Tryz.func12 MC.2 rfl rfl (by kernel_rfl) Tryz.call12
noncomputable def MD:{q:QC × List QR // aX Tryz.progTables Tryz.f44=some q}:=⟨_,by conv=>lhs;cbv⟩
theorem acA:aN Tryz.prog 44 MD.1 Tryz.f44.ntmps:=aN.of Tryz.func44 MD.2 rfl rfl (by kernel_rfl) Tryz.call44
noncomputable def MF:{q:QC × List QR // aX Tryz.progTables Tryz.f48=some q}:=⟨_,by conv=>lhs;cbv⟩
theorem acB:aN Tryz.prog 48 MF.1 Tryz.f48.ntmps:=aN.of Tryz.func48 MF.2 rfl rfl (by kernel_rfl) Tryz.call48
noncomputable def MG:{q:QC × List QR // aX Tryz.progTables Tryz.f54=some q}:=⟨_,by conv=>lhs;cbv⟩
theorem acC:aN Tryz.prog 54 MG.1 Tryz.f54.ntmps:=aN.of Tryz.func54 MG.2 rfl rfl (by kernel_rfl) Tryz.call54
noncomputable def Ho:{q:QC × List QR // aX Tryz.progTables Tryz.f101=some q}:=⟨_,by conv=>lhs;cbv⟩
theorem YO:aN Tryz.prog 101 Ho.1 Tryz.f101.ntmps:=aN.of Tryz.func101 Ho.2 rfl rfl (by kernel_rfl) Tryz.call101
noncomputable def Hp:{q:QC × List QR // aX Tryz.progTables Tryz.f105=some q}:=⟨_,by conv=>lhs;cbv⟩
theorem YP:aN Tryz.prog 105 Hp.1 Tryz.f105.ntmps:=aN.of Tryz.func105 Hp.2 rfl rfl (by kernel_rfl) Tryz.call105
noncomputable def Hq:{q:QC × List QR // aX Tryz.progTables Tryz.f113=some q}:=⟨_,by conv=>lhs;cbv⟩
theorem YQ:aN Tryz.prog 113 Hq.1 Tryz.f113.ntmps:=aN.of Tryz.func113 Hq.2 rfl rfl (by kernel_rfl) Tryz.call113
noncomputable def Hr:{q:QC × List QR // aX Tryz.progTables Tryz.f118=some q}:=⟨_,by conv=>lhs;cbv⟩
theorem YR:aN Tryz.prog 118 Hr.1 Tryz.f118.ntmps:=aN.of Tryz.func118 Hr.2 rfl rfl (by kernel_rfl) Tryz.call118
noncomputable def Hs:{q:QC × List QR // aX Tryz.progTables Tryz.f158=some q}:=⟨_,by conv=>lhs;cbv⟩
theorem YS:aN Tryz.prog 158 Hs.1 Tryz.f158.ntmps:=aN.of Tryz.func158 Hs.2 rfl rfl (by kernel_rfl) Tryz.call158
noncomputable def Ht:{q:QC × List QR // aX Tryz.progTables Tryz.f185=some q}:=⟨_,by conv=>lhs;cbv⟩
theorem YT:aN Tryz.prog 185 Ht.1 Tryz.f185.ntmps:=aN.of Tryz.func185 Ht.2 rfl rfl (by kernel_rfl) Tryz.call185
noncomputable def Hu:{q:QC × List QR // aX Tryz.progTables Tryz.f189=some q}:=⟨_,by conv=>lhs;cbv⟩
theorem YU:aN Tryz.prog 189 Hu.1 Tryz.f189.ntmps:=aN.of Tryz.func189 Hu.2 rfl rfl (by kernel_rfl) Tryz.call189
noncomputable def Hv:{q:QC × List QR // aX Tryz.progTables Tryz.f194=some q}:=⟨_,by conv=>lhs;cbv⟩
theorem YV:aN Tryz.prog 194 Hv.1 Tryz.f194.ntmps:=aN.of Tryz.func194 Hv.2 rfl rfl (by kernel_rfl) Tryz.call194
noncomputable def Hw:{q:QC × List QR // aX Tryz.progTables Tryz.f202=some q}:=⟨_,by conv=>lhs;cbv⟩
theorem YW:aN Tryz.prog 202 Hw.1 Tryz.f202.ntmps:=aN.of Tryz.func202 Hw.2 rfl rfl (by kernel_rfl) Tryz.call202
noncomputable def Hx:{q:QC × List QR // aX Tryz.progTables Tryz.f221=some q}:=⟨_,by conv=>lhs;cbv⟩
theorem YX:aN Tryz.prog 221 Hx.1 Tryz.f221.ntmps:=aN.of Tryz.func221 Hx.2 rfl rfl (by kernel_rfl) Tryz.call221
noncomputable def Hy:{q:QC × List QR // aX Tryz.progTables Tryz.f229=some q}:=⟨_,by conv=>lhs;cbv⟩
theorem YY:aN Tryz.prog 229 Hy.1 Tryz.f229.ntmps:=aN.of Tryz.func229 Hy.2 rfl rfl (by kernel_rfl) Tryz.call229
noncomputable def Hz:{q:QC × List QR // aX Tryz.progTables Tryz.f271=some q}:=⟨_,by conv=>lhs;cbv⟩
theorem YZ:aN Tryz.prog 271 Hz.1 Tryz.f271.ntmps:=aN.of Tryz.func271 Hz.2 rfl rfl (by kernel_rfl) Tryz.call271
noncomputable def HA:{q:QC × List QR // aX Tryz.progTables Tryz.f290=some q}:=⟨_,by conv=>lhs;cbv⟩
theorem Y0:aN Tryz.prog 290 HA.1 Tryz.f290.ntmps:=aN.of Tryz.func290 HA.2 rfl rfl (by kernel_rfl) Tryz.call290
noncomputable def HB:{q:QC × List QR // aX Tryz.progTables Tryz.f304=some q}:=⟨_,by conv=>lhs;cbv⟩
theorem Y1:aN Tryz.prog 304 HB.1 Tryz.f304.ntmps:=aN.of Tryz.func304 HB.2 rfl rfl (by kernel_rfl) Tryz.call304
noncomputable def HC:{q:QC × List QR // aX Tryz.progTables Tryz.f329=some q}:=⟨_,by conv=>lhs;cbv⟩
theorem Y2:aN Tryz.prog 329 HC.1 Tryz.f329.ntmps:=aN.of Tryz.func329 HC.2 rfl rfl (by kernel_rfl) Tryz.call329
noncomputable def HD:{q:QC × List QR // aX Tryz.progTables Tryz.f365=some q}:=⟨_,by conv=>lhs;cbv⟩
theorem Y3:aN Tryz.prog 365 HD.1 Tryz.f365.ntmps:=aN.of Tryz.func365 HD.2 rfl rfl (by kernel_rfl) Tryz.call365
noncomputable def HE:{q:QC × List QR // aX Tryz.progTables Tryz.f395=some q}:=⟨_,by conv=>lhs;cbv⟩
theorem Y4:aN Tryz.prog 395 HE.1 Tryz.f395.ntmps:=aN.of Tryz.func395 HE.2 rfl rfl (by kernel_rfl) Tryz.call395
noncomputable def HF:{q:QC × List QR // aX Tryz.progTables Tryz.f425=some q}:=⟨_,by conv=>lhs;cbv⟩
theorem Y5:aN Tryz.prog 425 HF.1 Tryz.f425.ntmps:=aN.of Tryz.func425 HF.2 rfl rfl (by kernel_rfl) Tryz.call425
end
section
set_option maxRecDepth 100000
noncomputable def MH:{q:QC × List QR // aX Tryz.progTables Tryz.f15=some q}:=⟨_,by conv=>lhs;cbv⟩
theorem acD:aN Tryz.prog 15 MH.1 Tryz.f15.ntmps:=aN.of Tryz.func15 MH.2 rfl rfl (by kernel_rfl) Tryz.call15
noncomputable def MI:{q:QC × List QR // aX Tryz.progTables Tryz.f45=some q}:=⟨_,by conv=>lhs;cbv⟩
theorem acE:aN Tryz.prog 45 MI.1 Tryz.f45.ntmps:=aN.of Tryz.func45 MI.2 rfl rfl (by kernel_rfl) Tryz.call45
noncomputable def MJ:{q:QC × List QR // aX Tryz.progTables Tryz.f49=some q}:=⟨_,by conv=>lhs;cbv⟩
theorem acF:aN Tryz.prog 49 MJ.1 Tryz.f49.ntmps:=aN.of Tryz.func49 MJ.2 rfl rfl (by kernel_rfl) Tryz.call49
noncomputable def MK:{q:QC × List QR // aX Tryz.progTables Tryz.f66=some q}:=⟨_,by conv=>lhs;cbv⟩
theorem acG:aN Tryz.prog 66 MK.1 Tryz.f66.ntmps:=aN.of Tryz.func66 MK.2 rfl rfl (by kernel_rfl) Tryz.call66
noncomputable def HG:{q:QC × List QR // aX Tryz.progTables Tryz.f102=some q}:=⟨_,by conv=>lhs;cbv⟩
theorem Y6:aN Tryz.prog 102 HG.1 Tryz.f102.ntmps:=aN.of Tryz.func102 HG.2 rfl rfl (by kernel_rfl) Tryz.call102
noncomputable def HH:{q:QC × List QR // aX Tryz.progTables Tryz.f110=some q}:=⟨_,by conv=>lhs;cbv⟩
theorem Y7:aN Tryz.prog 110 HH.1 Tryz.f110.ntmps:=aN.of Tryz.func110 HH.2 rfl rfl (by kernel_rfl) Tryz.call110
noncomputable def HI:{q:QC × List QR // aX Tryz.progTables Tryz.f114=some q}:=⟨_,by conv=>lhs;cbv⟩
theorem Y8:aN Tryz.prog 114 HI.1 Tryz.f114.ntmps:=aN.of Tryz.func114 HI.2 rfl rfl (by kernel_rfl) Tryz.call114
noncomputable def HJ:{q:QC × List QR // aX Tryz.progTables Tryz.f145=some q}:=⟨_,by conv=>lhs;cbv⟩
theorem Y9:aN Tryz.prog 145 HJ.1 Tryz.f145.ntmps:=aN.of Tryz.func145 HJ.2 rfl rfl (by kernel_rfl) Tryz.call145
noncomputable def HK:{q:QC × List QR // aX Tryz.progTables Tryz.f174=some q}:=⟨_,by conv=>lhs;cbv⟩
theorem Y_:aN Tryz.prog 174 HK.1 Tryz.f174.ntmps:=aN.of Tryz.func174 HK.2 rfl rfl (by kernel_rfl) Tryz.call174
noncomputable def HL:{q:QC × List QR // aX Tryz.progTables Tryz.f186=some q}:=⟨_,by conv=>lhs;cbv⟩
theorem Za:aN Tryz.prog 186 HL.1 Tryz.f186.ntmps:=aN.of Tryz.func186 HL.2 rfl rfl (by kernel_rfl) Tryz.call186
noncomputable def HM:{q:QC × List QR // aX Tryz.progTables Tryz.f191=some q}:=⟨_,by conv=>lhs;cbv⟩
theorem Zb:aN Tryz.prog 191 HM.1 Tryz.f191.ntmps:=aN.of Tryz.func191 HM.2 rfl rfl (by kernel_rfl) Tryz.call191
noncomputable def HN:{q:QC × List QR // aX Tryz.progTables Tryz.f195=some q}:=⟨_,by conv=>lhs;cbv⟩
theorem Zc:aN Tryz.prog 195 HN.1 Tryz.f195.ntmps:=aN.of Tryz.func195 HN.2 rfl rfl (by kernel_rfl) Tryz.call195
noncomputable def HO:{q:QC × List QR // aX Tryz.progTables Tryz.f203=some q}:=⟨_,by conv=>lhs;cbv⟩
theorem Zd:aN Tryz.prog 203 HO.1 Tryz.f203.ntmps:=aN.of Tryz.func203 HO.2 rfl rfl (by kernel_rfl) Tryz.call203
noncomputable def HP:{q:QC × List QR // aX Tryz.progTables Tryz.f222=some q}:=⟨_,by conv=>lhs;cbv⟩
theorem Ze:aN Tryz.prog 222 HP.1 Tryz.f222.ntmps:=aN.of Tryz.func222 HP.2 rfl rfl (by kernel_rfl) Tryz.call222
noncomputable def HQ:{q:QC × List QR // aX Tryz.progTables Tryz.f267=some q}:=⟨_,by conv=>lhs;cbv⟩
theorem Zf:aN Tryz.prog 267 HQ.1 Tryz.f267.ntmps:=aN.of Tryz.func267 HQ.2 rfl rfl (by kernel_rfl) Tryz.call267
noncomputable def HR:{q:QC × List QR // aX Tryz.progTables Tryz.f273=some q}:=⟨_,by conv=>lhs;cbv⟩
theorem Zg:aN Tryz.prog 273 HR.1 Tryz.f273.ntmps:=aN.of Tryz.func273 HR.2 rfl rfl (by kernel_rfl) Tryz.call273
noncomputable def HS:{q:QC × List QR // aX Tryz.progTables Tryz.f291=some q}:=⟨_,by conv=>lhs;cbv⟩
theorem Zh:aN Tryz.prog 291 HS.1 Tryz.f291.ntmps:=aN.of Tryz.func291 HS.2 rfl rfl (by kernel_rfl) Tryz.call291
noncomputable def HT:{q:QC × List QR // aX Tryz.progTables Tryz.f323=some q}:=⟨_,by conv=>lhs;cbv⟩
theorem Zi:aN Tryz.prog 323 HT.1 Tryz.f323.ntmps:=aN.of Tryz.func323 HT.2 rfl rfl (by kernel_rfl) Tryz.call323
noncomputable def HU:{q:QC × List QR // aX Tryz.progTables Tryz.f330=some q}:=⟨_,by conv=>lhs;cbv⟩
theorem Zj:aN Tryz.prog 330 HU.1 Tryz.f330.ntmps:=aN.of Tryz.func330 HU.2 rfl rfl (by kernel_rfl) Tryz.call330
noncomputable def HV:{q:QC × List QR // aX Tryz.progTables Tryz.f366=some q}:=⟨_,by conv=>lhs;cbv⟩
theorem Zk:aN Tryz.prog 366 HV.1 Tryz.f366.ntmps:=aN.of Tryz.func366 HV.2 rfl rfl (by kernel_rfl) Tryz.call366
noncomputable def HW:{q:QC × List QR // aX Tryz.progTables Tryz.f396=some q}:=⟨_,by conv=>lhs;cbv⟩
theorem Zl:aN Tryz.prog 396 HW.1 Tryz.f396.ntmps:=aN.of Tryz.func396 HW.2 rfl rfl (by kernel_rfl) Tryz.call396
noncomputable def HX:{q:QC × List QR // aX Tryz.progTables Tryz.f441=some q}:=⟨_,by conv=>lhs;cbv⟩
theorem Zm:aN Tryz.prog 441 HX.1 Tryz.f441.ntmps:=aN.of Tryz.func441 HX.2 rfl rfl (by kernel_rfl) Tryz.call441
end
section
set_option maxRecDepth 100000
noncomputable def ML:{q:QC × List QR // aX Tryz.progTables Tryz.f42=some q}:=⟨_,by conv=>lhs;cbv⟩
theorem acH:aN Tryz.prog 42 ML.1 Tryz.f42.ntmps:=aN.of Tryz.func42 ML.2 rfl rfl (by kernel_rfl) Tryz.call42
noncomputable def MM:{q:QC × List QR // aX Tryz.progTables Tryz.f46=some q}:=⟨_,by conv=>lhs;cbv⟩
theorem acI:aN Tryz.prog 46 MM.1 Tryz.f46.ntmps:=aN.of Tryz.func46 MM.2 rfl rfl (by kernel_rfl) Tryz.call46
noncomputable def MN:{q:QC × List QR // aX Tryz.progTables Tryz.f50=some q}:=⟨_,by conv=>lhs;cbv⟩
theorem acJ:aN Tryz.prog 50 MN.1 Tryz.f50.ntmps:=aN.of Tryz.func50 MN.2 rfl rfl (by kernel_rfl) Tryz.call50
noncomputable def MO:{q:QC × List QR // aX Tryz.progTables Tryz.f67=some q}:=⟨_,by conv=>lhs;cbv⟩
theorem acK:aN Tryz.prog 67 MO.1 Tryz.f67.ntmps:=aN.of Tryz.func67 MO.2 rfl rfl (by kernel_rfl) Tryz.call67
noncomputable def HY:{q:QC × List QR // aX Tryz.progTables Tryz.f103=some q}:=⟨_,by conv=>lhs;cbv⟩
theorem Zn:aN Tryz.prog 103 HY.1 Tryz.f103.ntmps:=aN.of Tryz.func103 HY.2 rfl rfl (by kernel_rfl) Tryz.call103
noncomputable def HZ:{q:QC × List QR // aX Tryz.progTables Tryz.f111=some q}:=⟨_,by conv=>lhs;cbv⟩
theorem Zo:aN Tryz.prog 111 HZ.1 Tryz.f111.ntmps:=aN.of Tryz.func111 HZ.2 rfl rfl (by kernel_rfl) Tryz.call111
noncomputable def H0:{q:QC × List QR // aX Tryz.progTables Tryz.f115=some q}:=⟨_,by conv=>lhs;cbv⟩
theorem Zp:aN Tryz.prog 115 H0.1 Tryz.f115.ntmps:=aN.of Tryz.func115 H0.2 rfl rfl (by kernel_rfl) Tryz.call115
noncomputable def H2:{q:QC × List QR // aX Tryz.progTables Tryz.f146=some q}:=⟨_,by conv=>lhs;cbv⟩
theorem Zq:aN Tryz.prog 146 H2.1 Tryz.f146.ntmps:=aN.of Tryz.func146 H2.2 rfl rfl (by kernel_rfl) Tryz.call146
noncomputable def H3:{q:QC × List QR // aX Tryz.progTables Tryz.f183=some q}:=⟨_,by conv=>lhs;cbv⟩
theorem Zr:aN Tryz.prog 183 H3.1 Tryz.f183.ntmps:=aN.of Tryz.func183 H3.2 rfl rfl (by kernel_rfl) Tryz.call183
noncomputable def H4:{q:QC × List QR // aX Tryz.progTables Tryz.f187=some q}:=⟨_,by conv=>lhs;cbv⟩
theorem Zs:aN Tryz.prog 187 H4.1 Tryz.f187.ntmps:=aN.of Tryz.func187 H4.2 rfl rfl (by kernel_rfl) Tryz.call187
noncomputable def H5:{q:QC × List QR // aX Tryz.progTables Tryz.f192=some q}:=⟨_,by conv=>lhs;cbv⟩
theorem Zt:aN Tryz.prog 192 H5.1 Tryz.f192.ntmps:=aN.of Tryz.func192 H5.2 rfl rfl (by kernel_rfl) Tryz.call192
noncomputable def H6:{q:QC × List QR // aX Tryz.progTables Tryz.f200=some q}:=⟨_,by conv=>lhs;cbv⟩
theorem Zu:aN Tryz.prog 200 H6.1 Tryz.f200.ntmps:=aN.of Tryz.func200 H6.2 rfl rfl (by kernel_rfl) Tryz.call200
noncomputable def H7:{q:QC × List QR // aX Tryz.progTables Tryz.f219=some q}:=⟨_,by conv=>lhs;cbv⟩
theorem Zv:aN Tryz.prog 219 H7.1 Tryz.f219.ntmps:=aN.of Tryz.func219 H7.2 rfl rfl (by kernel_rfl) Tryz.call219
noncomputable def H8:{q:QC × List QR // aX Tryz.progTables Tryz.f223=some q}:=⟨_,by conv=>lhs;cbv⟩
theorem Zw:aN Tryz.prog 223 H8.1 Tryz.f223.ntmps:=aN.of Tryz.func223 H8.2 rfl rfl (by kernel_rfl) Tryz.call223
noncomputable def H9:{q:QC × List QR // aX Tryz.progTables Tryz.f268=some q}:=⟨_,by conv=>lhs;cbv⟩
theorem Zx:aN Tryz.prog 268 H9.1 Tryz.f268.ntmps:=aN.of Tryz.func268 H9.2 rfl rfl (by kernel_rfl) Tryz.call268
noncomputable def H_:{q:QC × List QR // aX Tryz.progTables Tryz.f274=some q}:=⟨_,by conv=>lhs;cbv⟩
theorem Zy:aN Tryz.prog 274 H_.1 Tryz.f274.ntmps:=aN.of Tryz.func274 H_.2 rfl rfl (by kernel_rfl) Tryz.call274
noncomputable def Ia:{q:QC × List QR // aX Tryz.progTables Tryz.f296=some q}:=⟨_,by conv=>lhs;cbv⟩
theorem Zz:aN Tryz.prog 296 Ia.1 Tryz.f296.ntmps:=aN.of Tryz.func296 Ia.2 rfl rfl (by kernel_rfl) Tryz.call296
noncomputable def Ib:{q:QC × List QR // aX Tryz.progTables Tryz.f324=some q}:=⟨_,by conv=>lhs;cbv⟩
theorem ZA:aN Tryz.prog 324 Ib.1 Tryz.f324.ntmps:=aN.of Tryz.func324 Ib.2 rfl rfl (by kernel_rfl) Tryz.call324
noncomputable def Ic:{q:QC × List QR // aX Tryz.progTables Tryz.f331=some q}:=⟨_,by conv=>lhs;cbv⟩
theorem ZB:aN Tryz.prog 331 Ic.1 Tryz.f331.ntmps:=aN.of Tryz.func331 Ic.2 rfl rfl (by kernel_rfl) Tryz.call331
noncomputable def Ie:{q:QC × List QR // aX Tryz.progTables Tryz.f367=some q}:=⟨_,by conv=>lhs;cbv⟩
theorem ZC:aN Tryz.prog 367 Ie.1 Tryz.f367.ntmps:=aN.of Tryz.func367 Ie.2 rfl rfl (by kernel_rfl) Tryz.call367
noncomputable def Ig:{q:QC × List QR // aX Tryz.progTables Tryz.f404=some q}:=⟨_,by conv=>lhs;cbv⟩
theorem ZD:aN Tryz.prog 404 Ig.1 Tryz.f404.ntmps:=aN.of Tryz.func404 Ig.2 rfl rfl (by kernel_rfl) Tryz.call404
noncomputable def Ih:{q:QC × List QR // aX Tryz.progTables Tryz.f464=some q}:=⟨_,by conv=>lhs;cbv⟩
theorem ZE:aN Tryz.prog 464 Ih.1 Tryz.f464.ntmps:=aN.of Tryz.func464 Ih.2 rfl rfl (by kernel_rfl) Tryz.call464
end
end Go.Proofs.YtbofilglphfceaaGreat
