import Derived.Test.YtgphljokbodciaaGreatS35
namespace Go.Proofs.YtgphljokbodciaaGreat
set_option linter.unusedVariables false
set_option linter.unusedSimpArgs false
open Go.RowKit
section
set_option maxRecDepth 100000
attribute [local irreducible] ah aV ad ab
def Ec (p x:Fi):Bool:=decide (mJ p x < 0)
theorem zF (l:List Fi):iB l=(decide ((l.length:Int)<=5000) && iL nD Ec none l):=rfl
section
variable {w0:World}{ρ:Hd}
theorem LG (l:List Fi) (hl:l.length<=1099511627776) (ga:∀ x ∈ l,x.ok):ah Tryz.prog w0 124 [gW ρ l] (.v (.bool (iB l))):=by
 obtain⟨R,hR⟩:∃ R,R=iB l:=⟨_,rfl⟩
 rw [<-hR]
 rw [zF] at hR
 refine aaQ.aH (by simp [Tryz.ntmps124]) (.v) ?_
 refine gq jU ?_
 repeat' (first
  |(refine bq (fun hb=>?_) (fun hb=>?_)<;>(try simp only [aq] at hb)<;>(first|refine gq jU ?_))
  |(refine az fun m hm=>?_;(try rw [af] at hm);refine gq jU ?_)
  |(refine fq ?_))
 ·refine aI ?_;rw [hR,decide_eq_false (by omega)];rfl
 rw [decide_eq_true (by omega),Bool.true_and] at hR
 refine ab.aP (σ:=Int) 0 0 [] (fun i=>[(0,gW ρ l),(8,.v (.int .i64 m)),(9,.v (.int .i64 i))]) [] (fun _=>[])
  (fun i=>∃ (k:Nat) (pr:Option Fi),i=k/\k<=l.length/\R=iL nD Ec pr (l.drop k)/\ta l k pr) (fun i=>l.length - i.toNat) 0 ⟨0,none,rfl,by simp,by simpa using hR,.inl ⟨rfl,rfl⟩⟩ rfl cq ?_
 rintro i ⟨k,pr,hi,dD,hp,ju⟩
 clear hR
 refine gq jU ?_
 by_cases au:k < l.length
 ·obtain⟨x,hx,aQ⟩:=aA au
  rw [aQ,jx] at hp
  have hV:=NP (w0:=w0) (ρ:=ρ) x (ga x (aZ hx))
  obtain⟨V,Dm⟩:∃ V,V=nD x:=⟨_,rfl⟩
  rw [<-Dm] at hV hp
  obtain⟨xr,xs⟩:=x
  rcases ju with ⟨rfl,rfl⟩|⟨⟨yr,ys⟩,VQ,hy,rfl⟩
  ·simp only [r8,Bool.and_true] at hp
   repeat' (first
    |(refine ab.op rfl (ad.ind rfl rfl (ay (l:=l) hi hx) (aw fun _=>rfl)) ?_;refine gq jU ?_)
    |(refine ab.bif rfl (ad.ag rfl hV ⟨eh (ρ:=ρ) ⟨xr,xs⟩,trivial⟩) (fun _=>?_) (fun _=>?_)<;>refine gq jU ?_)
    |(refine bq (fun hb=>?_) (fun hb=>?_)<;>(try simp only [aq] at hb)<;>(first|refine gq jU ?_))
    |(refine aS fun _ _=>?_;refine gq jU ?_)
    |(refine ab.ao ?_;refine gq jU ?_)
    |(refine ab.bK ?_;refine gq jU ?_)
    |(refine fq ?_))
   all_goals first
    |(exfalso;omega)
    |(refine aI ?_;rw [hp,show V=false by assumption];rfl)
    |(refine ab.aK (σ:=Int) _ [] ?_ ?_ cq
      ·refine⟨0+1,some ⟨xr,xs⟩,by omega,by omega,?_,eX hx⟩
       rw [hp,show V=true by assumption];rfl
      ·omega)
  ·have hC:=K5 (w0:=w0) (ρ:=ρ) ⟨yr,ys⟩ ⟨xr,xs⟩ (ga _ (aZ hy)) (ga _ (aZ hx))
   simp only [r8,Ec] at hp
   obtain⟨C,K6⟩:∃ C,C=mJ ⟨yr,ys⟩ ⟨xr,xs⟩:=⟨_,rfl⟩
   rw [<-K6] at hC hp
   repeat' (first
    |(refine ab.op rfl (ad.ind rfl rfl (ay (l:=l) hi hx) (aw fun _=>rfl)) ?_;refine gq jU ?_)
    |(refine ab.op rfl (ad.ind rfl rfl (ay (l:=l) (k:=k - 1) (by omega) hy) (aw fun _=>rfl)) ?_;refine gq jU ?_)
    |(refine ab.bif rfl (ad.ag rfl hV ⟨eh (ρ:=ρ) ⟨xr,xs⟩,trivial⟩) (fun _=>?_) (fun _=>?_)<;>refine gq jU ?_)
    |(refine ab.int rfl (ad.ag rfl hC ⟨eh (ρ:=ρ) ⟨yr,ys⟩,eh (ρ:=ρ) ⟨xr,xs⟩,trivial⟩) fun _ _=>?_;refine gq jU ?_)
    |(refine bq (fun hb=>?_) (fun hb=>?_)<;>(try simp only [aq] at hb)<;>(first|refine gq jU ?_))
    |(refine aS fun _ _=>?_;refine gq jU ?_)
    |(refine ab.ao ?_;refine gq jU ?_)
    |(refine ab.bK ?_;refine gq jU ?_)
    |(refine fq ?_))
   all_goals first
    |(exfalso;omega)
    |(refine aI ?_;rw [hp,show V=false by assumption];rfl)
    |(refine aI ?_;rw [hp,decide_eq_false (show ¬ C < 0 by omega)];simp;done)
    |(refine ab.aK (σ:=Int) _ [] ?_ ?_ cq
      ·refine⟨k+1,some ⟨xr,xs⟩,by omega,by omega,?_,eX hx⟩
       rw [hp,show V=true by assumption,decide_eq_true (show C < 0 by omega)];rfl
      ·omega)
 ·skip
  repeat' (first
   |(refine bq (fun hb=>?_) (fun hb=>?_)<;>(try simp only [aq] at hb)<;>(first|refine gq jU ?_))
   |(refine ab.ao ?_;refine gq jU ?_)
   |(refine fq ?_))
  all_goals first
   |(exfalso;omega)
   |(rw [hp,List.drop_eq_nil_of_le (by omega),lT];exact aI rfl)
theorem LH (l:List Fi) (hl:l.length<=1099511627776) (ga:∀ x ∈ l,x.ok):ah Tryz.prog w0 260 [gW ρ l] (.v (.bool (iB l))):=by
 obtain⟨R,hR⟩:∃ R,R=iB l:=⟨_,rfl⟩
 rw [<-hR]
 rw [zF] at hR
 refine aaR.aH (by simp [Tryz.ntmps260]) (.v) ?_
 refine gq iP ?_
 repeat' (first
  |(refine bq (fun hb=>?_) (fun hb=>?_)<;>(try simp only [aq] at hb)<;>(first|refine gq iP ?_))
  |(refine az fun m hm=>?_;(try rw [af] at hm);refine gq iP ?_)
  |(refine fq ?_))
 ·refine aI ?_;rw [hR,decide_eq_false (by omega)];rfl
 rw [decide_eq_true (by omega),Bool.true_and] at hR
 refine ab.aP (σ:=Int) 0 0 [] (fun i=>[(0,gW ρ l),(3,.v (.int .i64 i))]) [] (fun _=>[])
  (fun i=>∃ (k:Nat) (pr:Option Fi),i=k/\k<=l.length/\R=iL nD Ec pr (l.drop k)/\ta l k pr) (fun i=>l.length - i.toNat) 0 ⟨0,none,rfl,by simp,by simpa using hR,.inl ⟨rfl,rfl⟩⟩ rfl cq ?_
 rintro i ⟨k,pr,hi,dD,hp,ju⟩
 clear hR
 refine gq iP ?_
 by_cases au:k < l.length
 ·obtain⟨x,hx,aQ⟩:=aA au
  rw [aQ,jx] at hp
  have hV:=Ud (w0:=w0) (ρ:=ρ) x (ga x (aZ hx))
  obtain⟨V,Dm⟩:∃ V,V=nD x:=⟨_,rfl⟩
  rw [<-Dm] at hV hp
  obtain⟨xr,xs⟩:=x
  rcases ju with ⟨rfl,rfl⟩|⟨⟨yr,ys⟩,VQ,hy,rfl⟩
  ·simp only [r8,Bool.and_true] at hp
   repeat' (first
    |(refine ab.op rfl (ad.ind rfl rfl (ay (l:=l) hi hx) (aw fun _=>rfl)) ?_;refine gq iP ?_)
    |(refine ab.bif rfl (ad.ag rfl hV ⟨eh (ρ:=ρ) ⟨xr,xs⟩,trivial⟩) (fun _=>?_) (fun _=>?_)<;>refine gq iP ?_)
    |(refine bq (fun hb=>?_) (fun hb=>?_)<;>(try simp only [aq] at hb)<;>(first|refine gq iP ?_))
    |(refine az fun m hm=>?_;(try rw [af] at hm);refine gq iP ?_)
    |(refine aS fun _ _=>?_;refine gq iP ?_)
    |(refine ab.ao ?_;refine gq iP ?_)
    |(refine ab.bK ?_;refine gq iP ?_)
    |(refine fq ?_))
   all_goals first
    |(exfalso;omega)
    |(refine aI ?_;rw [hp,show V=false by assumption];rfl)
    |(refine ab.aK (σ:=Int) _ [] ?_ ?_ cq
      ·refine⟨0+1,some ⟨xr,xs⟩,by omega,by omega,?_,eX hx⟩
       rw [hp,show V=true by assumption];rfl
      ·omega)
  ·have hC:=K7 (w0:=w0) (ρ:=ρ) ⟨yr,ys⟩ ⟨xr,xs⟩ (ga _ (aZ hy)) (ga _ (aZ hx))
   simp only [r8,Ec] at hp
   obtain⟨C,K6⟩:∃ C,C=mJ ⟨yr,ys⟩ ⟨xr,xs⟩:=⟨_,rfl⟩
   rw [<-K6] at hC hp
   repeat' (first
    |(refine ab.op rfl (ad.ind rfl rfl (ay (l:=l) hi hx) (aw fun _=>rfl)) ?_;refine gq iP ?_)
    |(refine ab.op rfl (ad.ind rfl rfl (ay (l:=l) (k:=k - 1) (by omega) hy) (aw fun _=>rfl)) ?_;refine gq iP ?_)
    |(refine ab.bif rfl (ad.ag rfl hV ⟨eh (ρ:=ρ) ⟨xr,xs⟩,trivial⟩) (fun _=>?_) (fun _=>?_)<;>refine gq iP ?_)
    |(refine ab.int rfl (ad.ag rfl hC ⟨eh (ρ:=ρ) ⟨yr,ys⟩,eh (ρ:=ρ) ⟨xr,xs⟩,trivial⟩) fun _ _=>?_;refine gq iP ?_)
    |(refine bq (fun hb=>?_) (fun hb=>?_)<;>(try simp only [aq] at hb)<;>(first|refine gq iP ?_))
    |(refine az fun m hm=>?_;(try rw [af] at hm);refine gq iP ?_)
    |(refine aS fun _ _=>?_;refine gq iP ?_)
    |(refine ab.ao ?_;refine gq iP ?_)
    |(refine ab.bK ?_;refine gq iP ?_)
    |(refine fq ?_))
   all_goals first
    |(exfalso;omega)
    |(refine aI ?_;rw [hp,show V=false by assumption];rfl)
    |(refine aI ?_;rw [hp,decide_eq_false (show ¬ C < 0 by omega)];simp;done)
    |(refine ab.aK (σ:=Int) _ [] ?_ ?_ cq
      ·refine⟨k+1,some ⟨xr,xs⟩,by omega,by omega,?_,eX hx⟩
       rw [hp,show V=true by assumption,decide_eq_true (show C < 0 by omega)];rfl
      ·omega)
 ·skip
  repeat' (first
   |(refine bq (fun hb=>?_) (fun hb=>?_)<;>(try simp only [aq] at hb)<;>(first|refine gq iP ?_))
   |(refine az fun m hm=>?_;(try rw [af] at hm);refine gq iP ?_)
   |(refine ab.ao ?_;refine gq iP ?_)
   |(refine fq ?_))
  all_goals first
   |(exfalso;omega)
   |(rw [hp,List.drop_eq_nil_of_le (by omega),lT];exact aI rfl)
end
end
section
set_option maxRecDepth 100000
noncomputable def N6:{q:QC × List QR // aR Tryz.progTables Tryz.f36=some q}:=⟨_,by conv=>lhs;cbv⟩
theorem af3:aF Tryz.prog 36 N6.1 Tryz.f36.ntmps:=aF.of Tryz.func36 N6.2 rfl rfl (by kernel_rfl) Tryz.call36
noncomputable def N7:{q:QC × List QR // aR Tryz.progTables Tryz.f71=some q}:=⟨_,by conv=>lhs;cbv⟩
theorem af4:aF Tryz.prog 71 N7.1 Tryz.f71.ntmps:=aF.of Tryz.func71 N7.2 rfl rfl (by kernel_rfl) Tryz.call71
noncomputable def IB:{q:QC × List QR // aR Tryz.progTables Tryz.f122=some q}:=⟨_,by conv=>lhs;cbv⟩
theorem abw:aF Tryz.prog 122 IB.1 Tryz.f122.ntmps:=aF.of Tryz.func122 IB.2 rfl rfl (by kernel_rfl) Tryz.call122
noncomputable def IC:{q:QC × List QR // aR Tryz.progTables Tryz.f127=some q}:=⟨_,by conv=>lhs;cbv⟩
theorem abx:aF Tryz.prog 127 IC.1 Tryz.f127.ntmps:=aF.of Tryz.func127 IC.2 rfl rfl (by kernel_rfl) Tryz.call127
noncomputable def ID:{q:QC × List QR // aR Tryz.progTables Tryz.f154=some q}:=⟨_,by conv=>lhs;cbv⟩
theorem aby:aF Tryz.prog 154 ID.1 Tryz.f154.ntmps:=aF.of Tryz.func154 ID.2 rfl rfl (by kernel_rfl) Tryz.call154
noncomputable def IE:{q:QC × List QR // aR Tryz.progTables Tryz.f168=some q}:=⟨_,by conv=>lhs;cbv⟩
theorem abz:aF Tryz.prog 168 IE.1 Tryz.f168.ntmps:=aF.of Tryz.func168 IE.2 rfl rfl (by kernel_rfl) Tryz.call168
noncomputable def IF:{q:QC × List QR // aR Tryz.progTables Tryz.f208=some q}:=⟨_,by conv=>lhs;cbv⟩
theorem abA:aF Tryz.prog 208 IF.1 Tryz.f208.ntmps:=aF.of Tryz.func208 IF.2 rfl rfl (by kernel_rfl) Tryz.call208
noncomputable def IG:{q:QC × List QR // aR Tryz.progTables Tryz.f228=some q}:=⟨_,by conv=>lhs;cbv⟩
theorem abB:aF Tryz.prog 228 IG.1 Tryz.f228.ntmps:=aF.of Tryz.func228 IG.2 rfl rfl (by kernel_rfl) Tryz.call228
noncomputable def IH:{q:QC × List QR // aR Tryz.progTables Tryz.f237=some q}:=⟨_,by conv=>lhs;cbv⟩
theorem abC:aF Tryz.prog 237 IH.1 Tryz.f237.ntmps:=aF.of Tryz.func237 IH.2 rfl rfl (by kernel_rfl) Tryz.call237
noncomputable def II:{q:QC × List QR // aR Tryz.progTables Tryz.f247=some q}:=⟨_,by conv=>lhs;cbv⟩
theorem abD:aF Tryz.prog 247 II.1 Tryz.f247.ntmps:=aF.of Tryz.func247 II.2 rfl rfl (by kernel_rfl) Tryz.call247
noncomputable def IJ:{q:QC × List QR // aR Tryz.progTables Tryz.f254=some q}:=⟨_,by conv=>lhs;cbv⟩
theorem abE:aF Tryz.prog 254 IJ.1 Tryz.f254.ntmps:=aF.of Tryz.func254 IJ.2 rfl rfl (by kernel_rfl) Tryz.call254
noncomputable def IK:{q:QC × List QR // aR Tryz.progTables Tryz.f283=some q}:=⟨_,by conv=>lhs;cbv⟩
theorem abF:aF Tryz.prog 283 IK.1 Tryz.f283.ntmps:=aF.of Tryz.func283 IK.2 rfl rfl (by kernel_rfl) Tryz.call283
noncomputable def IL:{q:QC × List QR // aR Tryz.progTables Tryz.f288=some q}:=⟨_,by conv=>lhs;cbv⟩
theorem abG:aF Tryz.prog 288 IL.1 Tryz.f288.ntmps:=aF.of Tryz.func288 IL.2 rfl rfl (by kernel_rfl) Tryz.call288
noncomputable def IM:{q:QC × List QR // aR Tryz.progTables Tryz.f340=some q}:=⟨_,by conv=>lhs;cbv⟩
theorem abH:aF Tryz.prog 340 IM.1 Tryz.f340.ntmps:=aF.of Tryz.func340 IM.2 rfl rfl (by kernel_rfl) Tryz.call340
noncomputable def IN:{q:QC × List QR // aR Tryz.progTables Tryz.f353=some q}:=⟨_,by conv=>lhs;cbv⟩
theorem abI:aF Tryz.prog 353 IN.1 Tryz.f353.ntmps:=aF.of Tryz.func353 IN.2 rfl rfl (by kernel_rfl) Tryz.call353
noncomputable def IP:{q:QC × List QR // aR Tryz.progTables Tryz.f362=some q}:=⟨_,by conv=>lhs;cbv⟩
theorem abJ:aF Tryz.prog 362 IP.1 Tryz.f362.ntmps:=aF.of Tryz.func362 IP.2 rfl rfl (by kernel_rfl) Tryz.call362
noncomputable def IQ:{q:QC × List QR // aR Tryz.progTables Tryz.f385=some q}:=⟨_,by conv=>lhs;cbv⟩
theorem abK:aF Tryz.prog 385 IQ.1 Tryz.f385.ntmps:=aF.of Tryz.func385 IQ.2 rfl rfl (by kernel_rfl) Tryz.call385
noncomputable def IS:{q:QC × List QR // aR Tryz.progTables Tryz.f441=some q}:=⟨_,by conv=>lhs;cbv⟩
theorem abL:aF Tryz.prog 441 IS.1 Tryz.f441.ntmps:=aF.of Tryz.func441 IS.2 rfl rfl (by kernel_rfl) Tryz.call441
noncomputable def IT:{q:QC × List QR // aR Tryz.progTables Tryz.f449=some q}:=⟨_,by conv=>lhs;cbv⟩
theorem abM:aF Tryz.prog 449 IT.1 Tryz.f449.ntmps:=aF.of Tryz.func449 IT.2 rfl rfl (by kernel_rfl) Tryz.call449
noncomputable def IU:{q:QC × List QR // aR Tryz.progTables Tryz.f486=some q}:=⟨_,by conv=>lhs;cbv⟩
theorem abN:aF Tryz.prog 486 IU.1 Tryz.f486.ntmps:=aF.of Tryz.func486 IU.2 rfl rfl (by kernel_rfl) Tryz.call486
noncomputable def IV:{q:QC × List QR // aR Tryz.progTables Tryz.f517=some q}:=⟨_,by conv=>lhs;cbv⟩
theorem abO:aF Tryz.prog 517 IV.1 Tryz.f517.ntmps:=aF.of Tryz.func517 IV.2 rfl rfl (by kernel_rfl) Tryz.call517
noncomputable def IW:{q:QC × List QR // aR Tryz.progTables Tryz.f534=some q}:=⟨_,by conv=>lhs;cbv⟩
theorem abP:aF Tryz.prog 534 IW.1 Tryz.f534.ntmps:=aF.of Tryz.func534 IW.2 rfl rfl (by kernel_rfl) Tryz.call534
end
section
set_option maxRecDepth 100000
noncomputable def N8:{q:QC × List QR // aR Tryz.progTables Tryz.f49=some q}:=⟨_,by conv=>lhs;cbv⟩
theorem af5:aF Tryz.prog 49 N8.1 Tryz.f49.ntmps:=aF.of Tryz.func49 N8.2 rfl rfl (by kernel_rfl) Tryz.call49
noncomputable def IX:{q:QC × List QR // aR Tryz.progTables Tryz.f108=some q}:=⟨_,by conv=>lhs;cbv⟩
theorem abQ:aF Tryz.prog 108 IX.1 Tryz.f108.ntmps:=aF.of Tryz.func108 IX.2 rfl rfl (by kernel_rfl) Tryz.call108
noncomputable def IY:{q:QC × List QR // aR Tryz.progTables Tryz.f124=some q}:=⟨_,by conv=>lhs;cbv⟩
theorem abR:aF Tryz.prog 124 IY.1 Tryz.f124.ntmps:=aF.of Tryz.func124 IY.2 rfl rfl (by kernel_rfl) Tryz.call124
noncomputable def IZ:{q:QC × List QR // aR Tryz.progTables Tryz.f130=some q}:=⟨_,by conv=>lhs;cbv⟩
theorem abS:aF Tryz.prog 130 IZ.1 Tryz.f130.ntmps:=aF.of Tryz.func130 IZ.2 rfl rfl (by kernel_rfl) Tryz.call130
noncomputable def I0:{q:QC × List QR // aR Tryz.progTables Tryz.f156=some q}:=⟨_,by conv=>lhs;cbv⟩
theorem abT:aF Tryz.prog 156 I0.1 Tryz.f156.ntmps:=aF.of Tryz.func156 I0.2 rfl rfl (by kernel_rfl) Tryz.call156
noncomputable def I1:{q:QC × List QR // aR Tryz.progTables Tryz.f204=some q}:=⟨_,by conv=>lhs;cbv⟩
theorem abU:aF Tryz.prog 204 I1.1 Tryz.f204.ntmps:=aF.of Tryz.func204 I1.2 rfl rfl (by kernel_rfl) Tryz.call204
noncomputable def I2:{q:QC × List QR // aR Tryz.progTables Tryz.f219=some q}:=⟨_,by conv=>lhs;cbv⟩
theorem abV:aF Tryz.prog 219 I2.1 Tryz.f219.ntmps:=aF.of Tryz.func219 I2.2 rfl rfl (by kernel_rfl) Tryz.call219
noncomputable def I3:{q:QC × List QR // aR Tryz.progTables Tryz.f230=some q}:=⟨_,by conv=>lhs;cbv⟩
theorem abW:aF Tryz.prog 230 I3.1 Tryz.f230.ntmps:=aF.of Tryz.func230 I3.2 rfl rfl (by kernel_rfl) Tryz.call230
noncomputable def I4:{q:QC × List QR // aR Tryz.progTables Tryz.f243=some q}:=⟨_,by conv=>lhs;cbv⟩
theorem abX:aF Tryz.prog 243 I4.1 Tryz.f243.ntmps:=aF.of Tryz.func243 I4.2 rfl rfl (by kernel_rfl) Tryz.call243
noncomputable def I5:{q:QC × List QR // aR Tryz.progTables Tryz.f249=some q}:=⟨_,by conv=>lhs;cbv⟩
theorem abY:aF Tryz.prog 249 I5.1 Tryz.f249.ntmps:=aF.of Tryz.func249 I5.2 rfl rfl (by kernel_rfl) Tryz.call249
noncomputable def I6:{q:QC × List QR // aR Tryz.progTables Tryz.f278=some q}:=⟨_,by conv=>lhs;cbv⟩
theorem abZ:aF Tryz.prog 278 I6.1 Tryz.f278.ntmps:=aF.of Tryz.func278 I6.2 rfl rfl (by kernel_rfl) Tryz.call278
noncomputable def I7:{q:QC × List QR // aR Tryz.progTables Tryz.f285=some q}:=⟨_,by conv=>lhs;cbv⟩
theorem ab0:aF Tryz.prog 285 I7.1 Tryz.f285.ntmps:=aF.of Tryz.func285 I7.2 rfl rfl (by kernel_rfl) Tryz.call285
noncomputable def I8:{q:QC × List QR // aR Tryz.progTables Tryz.f325=some q}:=⟨_,by conv=>lhs;cbv⟩
theorem ab1:aF Tryz.prog 325 I8.1 Tryz.f325.ntmps:=aF.of Tryz.func325 I8.2 rfl rfl (by kernel_rfl) Tryz.call325
noncomputable def I9:{q:QC × List QR // aR Tryz.progTables Tryz.f349=some q}:=⟨_,by conv=>lhs;cbv⟩
theorem ab2:aF Tryz.prog 349 I9.1 Tryz.f349.ntmps:=aF.of Tryz.func349 I9.2 rfl rfl (by kernel_rfl) Tryz.call349
noncomputable def I_:{q:QC × List QR // aR Tryz.progTables Tryz.f358=some q}:=⟨_,by conv=>lhs;cbv⟩
theorem ab3:aF Tryz.prog 358 I_.1 Tryz.f358.ntmps:=aF.of Tryz.func358 I_.2 rfl rfl (by kernel_rfl) Tryz.call358
noncomputable def Ja:{q:QC × List QR // aR Tryz.progTables Tryz.f381=some q}:=⟨_,by conv=>lhs;cbv⟩
theorem ab4:aF Tryz.prog 381 Ja.1 Tryz.f381.ntmps:=aF.of Tryz.func381 Ja.2 rfl rfl (by kernel_rfl) Tryz.call381
noncomputable def Jb:{q:QC × List QR // aR Tryz.progTables Tryz.f420=some q}:=⟨_,by conv=>lhs;cbv⟩
theorem ab5:aF Tryz.prog 420 Jb.1 Tryz.f420.ntmps:=aF.of Tryz.func420 Jb.2 rfl rfl (by kernel_rfl) Tryz.call420
noncomputable def Jc:{q:QC × List QR // aR Tryz.progTables Tryz.f445=some q}:=⟨_,by conv=>lhs;cbv⟩
theorem ab6:aF Tryz.prog 445 Jc.1 Tryz.f445.ntmps:=aF.of Tryz.func445 Jc.2 rfl rfl (by kernel_rfl) Tryz.call445
noncomputable def Jd:{q:QC × List QR // aR Tryz.progTables Tryz.f465=some q}:=⟨_,by conv=>lhs;cbv⟩
theorem ab7:aF Tryz.prog 465 Jd.1 Tryz.f465.ntmps:=aF.of Tryz.func465 Jd.2 rfl rfl (by kernel_rfl) Tryz.call465
noncomputable def Je:{q:QC × List QR // aR Tryz.progTables Tryz.f495=some q}:=⟨_,by conv=>lhs;cbv⟩
theorem ab8:aF Tryz.prog 495 Je.1 Tryz.f495.ntmps:=aF.of Tryz.func495 Je.2 rfl rfl (by kernel_rfl) Tryz.call495
noncomputable def Jf:{q:QC × List QR // aR Tryz.progTables Tryz.f522=some q}:=⟨_,by conv=>lhs;cbv⟩
theorem ab9:aF Tryz.prog 522 Jf.1 Tryz.f522.ntmps:=aF.of Tryz.func522 Jf.2 rfl rfl (by kernel_rfl) Tryz.call522
end
section
set_option maxRecDepth 100000
noncomputable def N9:{q:QC × List QR // aR Tryz.progTables Tryz.f51=some q}:=⟨_,by conv=>lhs;cbv⟩
theorem af6:aF Tryz.prog 51 N9.1 Tryz.f51.ntmps:=aF.of Tryz.func51 N9.2 rfl rfl (by kernel_rfl) Tryz.call51
noncomputable def Jg:{q:QC × List QR // aR Tryz.progTables Tryz.f109=some q}:=⟨_,by conv=>lhs;cbv⟩
theorem ab_:aF Tryz.prog 109 Jg.1 Tryz.f109.ntmps:=aF.of Tryz.func109 Jg.2 rfl rfl (by kernel_rfl) Tryz.call109
noncomputable def Jh:{q:QC × List QR // aR Tryz.progTables Tryz.f125=some q}:=⟨_,by conv=>lhs;cbv⟩
theorem aca:aF Tryz.prog 125 Jh.1 Tryz.f125.ntmps:=aF.of Tryz.func125 Jh.2 rfl rfl (by kernel_rfl) Tryz.call125
noncomputable def Ji:{q:QC × List QR // aR Tryz.progTables Tryz.f132=some q}:=⟨_,by conv=>lhs;cbv⟩
theorem acb:aF Tryz.prog 132 Ji.1 Tryz.f132.ntmps:=aF.of Tryz.func132 Ji.2 rfl rfl (by kernel_rfl) Tryz.call132
noncomputable def Jj:{q:QC × List QR // aR Tryz.progTables Tryz.f163=some q}:=⟨_,by conv=>lhs;cbv⟩
theorem acd:aF Tryz.prog 163 Jj.1 Tryz.f163.ntmps:=aF.of Tryz.func163 Jj.2 rfl rfl (by kernel_rfl) Tryz.call163
noncomputable def Jk:{q:QC × List QR // aR Tryz.progTables Tryz.f206=some q}:=⟨_,by conv=>lhs;cbv⟩
theorem ace:aF Tryz.prog 206 Jk.1 Tryz.f206.ntmps:=aF.of Tryz.func206 Jk.2 rfl rfl (by kernel_rfl) Tryz.call206
noncomputable def Jl:{q:QC × List QR // aR Tryz.progTables Tryz.f226=some q}:=⟨_,by conv=>lhs;cbv⟩
theorem acf:aF Tryz.prog 226 Jl.1 Tryz.f226.ntmps:=aF.of Tryz.func226 Jl.2 rfl rfl (by kernel_rfl) Tryz.call226
noncomputable def Jm:{q:QC × List QR // aR Tryz.progTables Tryz.f232=some q}:=⟨_,by conv=>lhs;cbv⟩
theorem acg:aF Tryz.prog 232 Jm.1 Tryz.f232.ntmps:=aF.of Tryz.func232 Jm.2 rfl rfl (by kernel_rfl) Tryz.call232
noncomputable def Jn:{q:QC × List QR // aR Tryz.progTables Tryz.f244=some q}:=⟨_,by conv=>lhs;cbv⟩
theorem ach:aF Tryz.prog 244 Jn.1 Tryz.f244.ntmps:=aF.of Tryz.func244 Jn.2 rfl rfl (by kernel_rfl) Tryz.call244
noncomputable def Jo:{q:QC × List QR // aR Tryz.progTables Tryz.f251=some q}:=⟨_,by conv=>lhs;cbv⟩
theorem aci:aF Tryz.prog 251 Jo.1 Tryz.f251.ntmps:=aF.of Tryz.func251 Jo.2 rfl rfl (by kernel_rfl) Tryz.call251
noncomputable def Jp:{q:QC × List QR // aR Tryz.progTables Tryz.f281=some q}:=⟨_,by conv=>lhs;cbv⟩
theorem acj:aF Tryz.prog 281 Jp.1 Tryz.f281.ntmps:=aF.of Tryz.func281 Jp.2 rfl rfl (by kernel_rfl) Tryz.call281
noncomputable def Jq:{q:QC × List QR // aR Tryz.progTables Tryz.f286=some q}:=⟨_,by conv=>lhs;cbv⟩
theorem ack:aF Tryz.prog 286 Jq.1 Tryz.f286.ntmps:=aF.of Tryz.func286 Jq.2 rfl rfl (by kernel_rfl) Tryz.call286
noncomputable def Jr:{q:QC × List QR // aR Tryz.progTables Tryz.f326=some q}:=⟨_,by conv=>lhs;cbv⟩
theorem acm:aF Tryz.prog 326 Jr.1 Tryz.f326.ntmps:=aF.of Tryz.func326 Jr.2 rfl rfl (by kernel_rfl) Tryz.call326
noncomputable def Js:{q:QC × List QR // aR Tryz.progTables Tryz.f351=some q}:=⟨_,by conv=>lhs;cbv⟩
theorem acn:aF Tryz.prog 351 Js.1 Tryz.f351.ntmps:=aF.of Tryz.func351 Js.2 rfl rfl (by kernel_rfl) Tryz.call351
noncomputable def Jt:{q:QC × List QR // aR Tryz.progTables Tryz.f359=some q}:=⟨_,by conv=>lhs;cbv⟩
theorem aco:aF Tryz.prog 359 Jt.1 Tryz.f359.ntmps:=aF.of Tryz.func359 Jt.2 rfl rfl (by kernel_rfl) Tryz.call359
noncomputable def Ju:{q:QC × List QR // aR Tryz.progTables Tryz.f382=some q}:=⟨_,by conv=>lhs;cbv⟩
theorem acp:aF Tryz.prog 382 Ju.1 Tryz.f382.ntmps:=aF.of Tryz.func382 Ju.2 rfl rfl (by kernel_rfl) Tryz.call382
noncomputable def Jv:{q:QC × List QR // aR Tryz.progTables Tryz.f426=some q}:=⟨_,by conv=>lhs;cbv⟩
theorem acq:aF Tryz.prog 426 Jv.1 Tryz.f426.ntmps:=aF.of Tryz.func426 Jv.2 rfl rfl (by kernel_rfl) Tryz.call426
noncomputable def Jw:{q:QC × List QR // aR Tryz.progTables Tryz.f446=some q}:=⟨_,by conv=>lhs;cbv⟩
theorem acr:aF Tryz.prog 446 Jw.1 Tryz.f446.ntmps:=aF.of Tryz.func446 Jw.2 rfl rfl (by kernel_rfl) Tryz.call446
noncomputable def Jx:{q:QC × List QR // aR Tryz.progTables Tryz.f466=some q}:=⟨_,by conv=>lhs;cbv⟩
theorem acs:aF Tryz.prog 466 Jx.1 Tryz.f466.ntmps:=aF.of Tryz.func466 Jx.2 rfl rfl (by kernel_rfl) Tryz.call466
noncomputable def Jy:{q:QC × List QR // aR Tryz.progTables Tryz.f503=some q}:=⟨_,by conv=>lhs;cbv⟩
theorem acu:aF Tryz.prog 503 Jy.1 Tryz.f503.ntmps:=aF.of Tryz.func503 Jy.2 rfl rfl (by kernel_rfl) Tryz.call503
noncomputable def Jz:{q:QC × List QR // aR Tryz.progTables Tryz.f523=some q}:=⟨_,by conv=>lhs;cbv⟩
theorem acv:aF Tryz.prog 523 Jz.1 Tryz.f523.ntmps:=aF.of Tryz.func523 Jz.2 rfl rfl (by kernel_rfl) Tryz.call523
end
section
set_option maxRecDepth 100000
noncomputable def N_:{q:QC × List QR // aR Tryz.progTables Tryz.f53=some q}:=⟨_,by conv=>lhs;cbv⟩
theorem af7:aF Tryz.prog 53 N_.1 Tryz.f53.ntmps:=aF.of Tryz.func53 N_.2 rfl rfl (by kernel_rfl) Tryz.call53
noncomputable def JA:{q:QC × List QR // aR Tryz.progTables Tryz.f121=some q}:=⟨_,by conv=>lhs;cbv⟩
theorem acw:aF Tryz.prog 121 JA.1 Tryz.f121.ntmps:=aF.of Tryz.func121 JA.2 rfl rfl (by kernel_rfl) Tryz.call121
noncomputable def JB:{q:QC × List QR // aR Tryz.progTables Tryz.f126=some q}:=⟨_,by conv=>lhs;cbv⟩
theorem acx:aF Tryz.prog 126 JB.1 Tryz.f126.ntmps:=aF.of Tryz.func126 JB.2 rfl rfl (by kernel_rfl) Tryz.call126
noncomputable def JC:{q:QC × List QR // aR Tryz.progTables Tryz.f153=some q}:=⟨_,by conv=>lhs;cbv⟩
theorem acy:aF Tryz.prog 153 JC.1 Tryz.f153.ntmps:=aF.of Tryz.func153 JC.2 rfl rfl (by kernel_rfl) Tryz.call153
noncomputable def JD:{q:QC × List QR // aR Tryz.progTables Tryz.f166=some q}:=⟨_,by conv=>lhs;cbv⟩
theorem acz:aF Tryz.prog 166 JD.1 Tryz.f166.ntmps:=aF.of Tryz.func166 JD.2 rfl rfl (by kernel_rfl) Tryz.call166
noncomputable def JE:{q:QC × List QR // aR Tryz.progTables Tryz.f207=some q}:=⟨_,by conv=>lhs;cbv⟩
theorem acA:aF Tryz.prog 207 JE.1 Tryz.f207.ntmps:=aF.of Tryz.func207 JE.2 rfl rfl (by kernel_rfl) Tryz.call207
noncomputable def JF:{q:QC × List QR // aR Tryz.progTables Tryz.f227=some q}:=⟨_,by conv=>lhs;cbv⟩
theorem acB:aF Tryz.prog 227 JF.1 Tryz.f227.ntmps:=aF.of Tryz.func227 JF.2 rfl rfl (by kernel_rfl) Tryz.call227
noncomputable def JG:{q:QC × List QR // aR Tryz.progTables Tryz.f233=some q}:=⟨_,by conv=>lhs;cbv⟩
theorem acC:aF Tryz.prog 233 JG.1 Tryz.f233.ntmps:=aF.of Tryz.func233 JG.2 rfl rfl (by kernel_rfl) Tryz.call233
noncomputable def JH:{q:QC × List QR // aR Tryz.progTables Tryz.f246=some q}:=⟨_,by conv=>lhs;cbv⟩
theorem acD:aF Tryz.prog 246 JH.1 Tryz.f246.ntmps:=aF.of Tryz.func246 JH.2 rfl rfl (by kernel_rfl) Tryz.call246
noncomputable def JI:{q:QC × List QR // aR Tryz.progTables Tryz.f252=some q}:=⟨_,by conv=>lhs;cbv⟩
theorem acE:aF Tryz.prog 252 JI.1 Tryz.f252.ntmps:=aF.of Tryz.func252 JI.2 rfl rfl (by kernel_rfl) Tryz.call252
noncomputable def JJ:{q:QC × List QR // aR Tryz.progTables Tryz.f282=some q}:=⟨_,by conv=>lhs;cbv⟩
theorem acF:aF Tryz.prog 282 JJ.1 Tryz.f282.ntmps:=aF.of Tryz.func282 JJ.2 rfl rfl (by kernel_rfl) Tryz.call282
noncomputable def JK:{q:QC × List QR // aR Tryz.progTables Tryz.f287=some q}:=⟨_,by conv=>lhs;cbv⟩
theorem acG:aF Tryz.prog 287 JK.1 Tryz.f287.ntmps:=aF.of Tryz.func287 JK.2 rfl rfl (by kernel_rfl) Tryz.call287
noncomputable def JL:{q:QC × List QR // aR Tryz.progTables Tryz.f328=some q}:=⟨_,by conv=>lhs;cbv⟩
theorem acH:aF Tryz.prog 328 JL.1 Tryz.f328.ntmps:=aF.of Tryz.func328 JL.2 rfl rfl (by kernel_rfl) Tryz.call328
noncomputable def JM:{q:QC × List QR // aR Tryz.progTables Tryz.f352=some q}:=⟨_,by conv=>lhs;cbv⟩
theorem acI:aF Tryz.prog 352 JM.1 Tryz.f352.ntmps:=aF.of Tryz.func352 JM.2 rfl rfl (by kernel_rfl) Tryz.call352
noncomputable def JN:{q:QC × List QR // aR Tryz.progTables Tryz.f361=some q}:=⟨_,by conv=>lhs;cbv⟩
theorem acJ:aF Tryz.prog 361 JN.1 Tryz.f361.ntmps:=aF.of Tryz.func361 JN.2 rfl rfl (by kernel_rfl) Tryz.call361
noncomputable def JO:{q:QC × List QR // aR Tryz.progTables Tryz.f384=some q}:=⟨_,by conv=>lhs;cbv⟩
theorem acK:aF Tryz.prog 384 JO.1 Tryz.f384.ntmps:=aF.of Tryz.func384 JO.2 rfl rfl (by kernel_rfl) Tryz.call384
noncomputable def JP:{q:QC × List QR // aR Tryz.progTables Tryz.f436=some q}:=⟨_,by conv=>lhs;cbv⟩
theorem acL:aF Tryz.prog 436 JP.1 Tryz.f436.ntmps:=aF.of Tryz.func436 JP.2 rfl rfl (by kernel_rfl) Tryz.call436
noncomputable def JQ:{q:QC × List QR // aR Tryz.progTables Tryz.f448=some q}:=⟨_,by conv=>lhs;cbv⟩
theorem acM:aF Tryz.prog 448 JQ.1 Tryz.f448.ntmps:=aF.of Tryz.func448 JQ.2 rfl rfl (by kernel_rfl) Tryz.call448
noncomputable def JR:{q:QC × List QR // aR Tryz.progTables Tryz.f485=some q}:=⟨_,by conv=>lhs;cbv⟩
theorem acN:aF Tryz.prog 485 JR.1 Tryz.f485.ntmps:=aF.of Tryz.func485 JR.2 rfl rfl (by kernel_rfl) Tryz.call485
noncomputable def JS:{q:QC × List QR // aR Tryz.progTables Tryz.f505=some q}:=⟨_,by conv=>lhs;cbv⟩
theorem acO:aF Tryz.prog 505 JS.1 Tryz.f505.ntmps:=aF.of Tryz.func505 JS.2 rfl rfl (by kernel_rfl) Tryz.call505
noncomputable def JT:{q:QC × List QR // aR Tryz.progTables Tryz.f533=some q}:=⟨_,by conv=>lhs;cbv⟩
theorem acP:aF Tryz.prog 533 JT.1 Tryz.f533.ntmps:=aF.of Tryz.func533 JT.2 rfl rfl (by kernel_rfl) Tryz.call533
end
end Go.Proofs.YtgphljokbodciaaGreat
