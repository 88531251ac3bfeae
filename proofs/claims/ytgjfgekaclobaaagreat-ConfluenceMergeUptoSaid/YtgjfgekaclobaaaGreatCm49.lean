import Derived.Test.YtgjfgekaclobaaaGreatCm48
namespace Go.Proofs.YtgjfgekaclobaaaGreat
set_option linter.unusedVariables false
set_option linter.unusedSimpArgs false
open Go.RowKit
section
set_option maxRecDepth 100000
noncomputable def ML:{q:QC × List QR // af Tryz.progTables Tryz.f21=some q}:=⟨_,by conv=>lhs;cbv⟩
theorem abu:ae Tryz.prog 21 ML.1 Tryz.f21.ntmps:=ae.of Tryz.func21 ML.2 rfl rfl (by kernel_rfl) Tryz.call21
noncomputable def MM:{q:QC × List QR // af Tryz.progTables Tryz.f35=some q}:=⟨_,by conv=>lhs;cbv⟩
theorem abv:ae Tryz.prog 35 MM.1 Tryz.f35.ntmps:=ae.of Tryz.func35 MM.2 rfl rfl (by kernel_rfl) Tryz.call35
noncomputable def MN:{q:QC × List QR // af Tryz.progTables Tryz.f53=some q}:=⟨_,by conv=>lhs;cbv⟩
theorem abw:ae Tryz.prog 53 MN.1 Tryz.f53.ntmps:=ae.of Tryz.func53 MN.2 rfl rfl (by kernel_rfl) Tryz.call53
noncomputable def MO:{q:QC × List QR // af Tryz.progTables Tryz.f69=some q}:=⟨_,by conv=>lhs;cbv⟩
theorem abx:ae Tryz.prog 69 MO.1 Tryz.f69.ntmps:=ae.of Tryz.func69 MO.2 rfl rfl (by kernel_rfl) Tryz.call69
noncomputable def MP:{q:QC × List QR // af Tryz.progTables Tryz.f77=some q}:=⟨_,by conv=>lhs;cbv⟩
theorem aby:ae Tryz.prog 77 MP.1 Tryz.f77.ntmps:=ae.of Tryz.func77 MP.2 rfl rfl (by kernel_rfl) Tryz.call77
noncomputable def MQ:{q:QC × List QR // af Tryz.progTables Tryz.f84=some q}:=⟨_,by conv=>lhs;cbv⟩
theorem abz:ae Tryz.prog 84 MQ.1 Tryz.f84.ntmps:=ae.of Tryz.func84 MQ.2 rfl rfl (by kernel_rfl) Tryz.call84
noncomputable def MR:{q:QC × List QR // af Tryz.progTables Tryz.f94=some q}:=⟨_,by conv=>lhs;cbv⟩
theorem abA:ae Tryz.prog 94 MR.1 Tryz.f94.ntmps:=ae.of Tryz.func94 MR.2 rfl rfl (by kernel_rfl) Tryz.call94
noncomputable def HM:{q:QC × List QR // af Tryz.progTables Tryz.f117=some q}:=⟨_,by conv=>lhs;cbv⟩
theorem WU:ae Tryz.prog 117 HM.1 Tryz.f117.ntmps:=ae.of Tryz.func117 HM.2 rfl rfl (by kernel_rfl) Tryz.call117
noncomputable def HN:{q:QC × List QR // af Tryz.progTables Tryz.f137=some q}:=⟨_,by conv=>lhs;cbv⟩
theorem WV:ae Tryz.prog 137 HN.1 Tryz.f137.ntmps:=ae.of Tryz.func137 HN.2 rfl rfl (by kernel_rfl) Tryz.call137
noncomputable def HO:{q:QC × List QR // af Tryz.progTables Tryz.f147=some q}:=⟨_,by conv=>lhs;cbv⟩
theorem WW:ae Tryz.prog 147 HO.1 Tryz.f147.ntmps:=ae.of Tryz.func147 HO.2 rfl rfl (by kernel_rfl) Tryz.call147
noncomputable def HP:{q:QC × List QR // af Tryz.progTables Tryz.f156=some q}:=⟨_,by conv=>lhs;cbv⟩
theorem WX:ae Tryz.prog 156 HP.1 Tryz.f156.ntmps:=ae.of Tryz.func156 HP.2 rfl rfl (by kernel_rfl) Tryz.call156
noncomputable def HQ:{q:QC × List QR // af Tryz.progTables Tryz.f180=some q}:=⟨_,by conv=>lhs;cbv⟩
theorem WY:ae Tryz.prog 180 HQ.1 Tryz.f180.ntmps:=ae.of Tryz.func180 HQ.2 rfl rfl (by kernel_rfl) Tryz.call180
noncomputable def HR:{q:QC × List QR // af Tryz.progTables Tryz.f186=some q}:=⟨_,by conv=>lhs;cbv⟩
theorem WZ:ae Tryz.prog 186 HR.1 Tryz.f186.ntmps:=ae.of Tryz.func186 HR.2 rfl rfl (by kernel_rfl) Tryz.call186
noncomputable def HS:{q:QC × List QR // af Tryz.progTables Tryz.f206=some q}:=⟨_,by conv=>lhs;cbv⟩
theorem W0:ae Tryz.prog 206 HS.1 Tryz.f206.ntmps:=ae.of Tryz.func206 HS.2 rfl rfl (by kernel_rfl) Tryz.call206
noncomputable def HT:{q:QC × List QR // af Tryz.progTables Tryz.f212=some q}:=⟨_,by conv=>lhs;cbv⟩
theorem W1:ae Tryz.prog 212 HT.1 Tryz.f212.ntmps:=ae.of Tryz.func212 HT.2 rfl rfl (by kernel_rfl) Tryz.call212
noncomputable def HU:{q:QC × List QR // af Tryz.progTables Tryz.f219=some q}:=⟨_,by conv=>lhs;cbv⟩
theorem W2:ae Tryz.prog 219 HU.1 Tryz.f219.ntmps:=ae.of Tryz.func219 HU.2 rfl rfl (by kernel_rfl) Tryz.call219
noncomputable def HV:{q:QC × List QR // af Tryz.progTables Tryz.f241=some q}:=⟨_,by conv=>lhs;cbv⟩
theorem W3:ae Tryz.prog 241 HV.1 Tryz.f241.ntmps:=ae.of Tryz.func241 HV.2 rfl rfl (by kernel_rfl) Tryz.call241
noncomputable def HW:{q:QC × List QR // af Tryz.progTables Tryz.f255=some q}:=⟨_,by conv=>lhs;cbv⟩
theorem W4:ae Tryz.prog 255 HW.1 Tryz.f255.ntmps:=ae.of Tryz.func255 HW.2 rfl rfl (by kernel_rfl) Tryz.call255
noncomputable def HX:{q:QC × List QR // af Tryz.progTables Tryz.f261=some q}:=⟨_,by conv=>lhs;cbv⟩
theorem W5:ae Tryz.prog 261 HX.1 Tryz.f261.ntmps:=ae.of Tryz.func261 HX.2 rfl rfl (by kernel_rfl) Tryz.call261
noncomputable def HY:{q:QC × List QR // af Tryz.progTables Tryz.f276=some q}:=⟨_,by conv=>lhs;cbv⟩
theorem W6:ae Tryz.prog 276 HY.1 Tryz.f276.ntmps:=ae.of Tryz.func276 HY.2 rfl rfl (by kernel_rfl) Tryz.call276
noncomputable def HZ:{q:QC × List QR // af Tryz.progTables Tryz.f284=some q}:=⟨_,by conv=>lhs;cbv⟩
theorem W7:ae Tryz.prog 284 HZ.1 Tryz.f284.ntmps:=ae.of Tryz.func284 HZ.2 rfl rfl (by kernel_rfl) Tryz.call284
noncomputable def H0:{q:QC × List QR // af Tryz.progTables Tryz.f297=some q}:=⟨_,by conv=>lhs;cbv⟩
theorem W8:ae Tryz.prog 297 H0.1 Tryz.f297.ntmps:=ae.of Tryz.func297 H0.2 rfl rfl (by kernel_rfl) Tryz.call297
noncomputable def H2:{q:QC × List QR // af Tryz.progTables Tryz.f311=some q}:=⟨_,by conv=>lhs;cbv⟩
theorem W9:ae Tryz.prog 311 H2.1 Tryz.f311.ntmps:=ae.of Tryz.func311 H2.2 rfl rfl (by kernel_rfl) Tryz.call311
noncomputable def H3:{q:QC × List QR // af Tryz.progTables Tryz.f317=some q}:=⟨_,by conv=>lhs;cbv⟩
theorem W_:ae Tryz.prog 317 H3.1 Tryz.f317.ntmps:=ae.of Tryz.func317 H3.2 rfl rfl (by kernel_rfl) Tryz.call317
noncomputable def H4:{q:QC × List QR // af Tryz.progTables Tryz.f325=some q}:=⟨_,by conv=>lhs;cbv⟩
theorem Xa:ae Tryz.prog 325 H4.1 Tryz.f325.ntmps:=ae.of Tryz.func325 H4.2 rfl rfl (by kernel_rfl) Tryz.call325
noncomputable def H5:{q:QC × List QR // af Tryz.progTables Tryz.f342=some q}:=⟨_,by conv=>lhs;cbv⟩
theorem Xb:ae Tryz.prog 342 H5.1 Tryz.f342.ntmps:=ae.of Tryz.func342 H5.2 rfl rfl (by kernel_rfl) Tryz.call342
noncomputable def H6:{q:QC × List QR // af Tryz.progTables Tryz.f351=some q}:=⟨_,by conv=>lhs;cbv⟩
theorem Xc:ae Tryz.prog 351 H6.1 Tryz.f351.ntmps:=ae.of Tryz.func351 H6.2 rfl rfl (by kernel_rfl) Tryz.call351
noncomputable def H7:{q:QC × List QR // af Tryz.progTables Tryz.f358=some q}:=⟨_,by conv=>lhs;cbv⟩
theorem Xd:ae Tryz.prog 358 H7.1 Tryz.f358.ntmps:=ae.of Tryz.func358 H7.2 rfl rfl (by kernel_rfl) Tryz.call358
noncomputable def H8:{q:QC × List QR // af Tryz.progTables Tryz.f394=some q}:=⟨_,by conv=>lhs;cbv⟩
theorem Xe:ae Tryz.prog 394 H8.1 Tryz.f394.ntmps:=ae.of Tryz.func394 H8.2 rfl rfl (by kernel_rfl) Tryz.call394
noncomputable def H9:{q:QC × List QR // af Tryz.progTables Tryz.f418=some q}:=⟨_,by conv=>lhs;cbv⟩
theorem Xf:ae Tryz.prog 418 H9.1 Tryz.f418.ntmps:=ae.of Tryz.func418 H9.2 rfl rfl (by kernel_rfl) Tryz.call418
end
section
set_option maxRecDepth 100000
noncomputable def MS:{q:QC × List QR // af Tryz.progTables Tryz.f22=some q}:=⟨_,by conv=>lhs;cbv⟩
theorem abB:ae Tryz.prog 22 MS.1 Tryz.f22.ntmps:=ae.of Tryz.func22 MS.2 rfl rfl (by kernel_rfl) Tryz.call22
noncomputable def MT:{q:QC × List QR // af Tryz.progTables Tryz.f37=some q}:=⟨_,by conv=>lhs;cbv⟩
theorem abC:ae Tryz.prog 37 MT.1 Tryz.f37.ntmps:=ae.of Tryz.func37 MT.2 rfl rfl (by kernel_rfl) Tryz.call37
noncomputable def MU:{q:QC × List QR // af Tryz.progTables Tryz.f54=some q}:=⟨_,by conv=>lhs;cbv⟩
theorem abD:ae Tryz.prog 54 MU.1 Tryz.f54.ntmps:=ae.of Tryz.func54 MU.2 rfl rfl (by kernel_rfl) Tryz.call54
noncomputable def MV:{q:QC × List QR // af Tryz.progTables Tryz.f70=some q}:=⟨_,by conv=>lhs;cbv⟩
theorem abE:ae Tryz.prog 70 MV.1 Tryz.f70.ntmps:=ae.of Tryz.func70 MV.2 rfl rfl (by kernel_rfl) Tryz.call70
noncomputable def MW:{q:QC × List QR // af Tryz.progTables Tryz.f79=some q}:=⟨_,by conv=>lhs;cbv⟩
theorem abF:ae Tryz.prog 79 MW.1 Tryz.f79.ntmps:=ae.of Tryz.func79 MW.2 rfl rfl (by kernel_rfl) Tryz.call79
noncomputable def MX:{q:QC × List QR // af Tryz.progTables Tryz.f89=some q}:=⟨_,by conv=>lhs;cbv⟩
theorem abG:ae Tryz.prog 89 MX.1 Tryz.f89.ntmps:=ae.of Tryz.func89 MX.2 rfl rfl (by kernel_rfl) Tryz.call89
noncomputable def MY:{q:QC × List QR // af Tryz.progTables Tryz.f95=some q}:=⟨_,by conv=>lhs;cbv⟩
theorem abH:ae Tryz.prog 95 MY.1 Tryz.f95.ntmps:=ae.of Tryz.func95 MY.2 rfl rfl (by kernel_rfl) Tryz.call95
noncomputable def H_:{q:QC × List QR // af Tryz.progTables Tryz.f118=some q}:=⟨_,by conv=>lhs;cbv⟩
theorem Xg:ae Tryz.prog 118 H_.1 Tryz.f118.ntmps:=ae.of Tryz.func118 H_.2 rfl rfl (by kernel_rfl) Tryz.call118
noncomputable def Ia:{q:QC × List QR // af Tryz.progTables Tryz.f140=some q}:=⟨_,by conv=>lhs;cbv⟩
theorem Xh:ae Tryz.prog 140 Ia.1 Tryz.f140.ntmps:=ae.of Tryz.func140 Ia.2 rfl rfl (by kernel_rfl) Tryz.call140
noncomputable def Ib:{q:QC × List QR // af Tryz.progTables Tryz.f148=some q}:=⟨_,by conv=>lhs;cbv⟩
theorem Xi:ae Tryz.prog 148 Ib.1 Tryz.f148.ntmps:=ae.of Tryz.func148 Ib.2 rfl rfl (by kernel_rfl) Tryz.call148
noncomputable def Ic:{q:QC × List QR // af Tryz.progTables Tryz.f157=some q}:=⟨_,by conv=>lhs;cbv⟩
theorem Xj:ae Tryz.prog 157 Ic.1 Tryz.f157.ntmps:=ae.of Tryz.func157 Ic.2 rfl rfl (by kernel_rfl) Tryz.call157
noncomputable def Ie:{q:QC × List QR // af Tryz.progTables Tryz.f181=some q}:=⟨_,by conv=>lhs;cbv⟩
theorem Xk:ae Tryz.prog 181 Ie.1 Tryz.f181.ntmps:=ae.of Tryz.func181 Ie.2 rfl rfl (by kernel_rfl) Tryz.call181
noncomputable def Ig:{q:QC × List QR // af Tryz.progTables Tryz.f201=some q}:=⟨_,by conv=>lhs;cbv⟩
theorem Xl:ae Tryz.prog 201 Ig.1 Tryz.f201.ntmps:=ae.of Tryz.func201 Ig.2 rfl rfl (by kernel_rfl) Tryz.call201
noncomputable def Ih:{q:QC × List QR // af Tryz.progTables Tryz.f207=some q}:=⟨_,by conv=>lhs;cbv⟩
theorem Xm:ae Tryz.prog 207 Ih.1 Tryz.f207.ntmps:=ae.of Tryz.func207 Ih.2 rfl rfl (by kernel_rfl) Tryz.call207
noncomputable def Ii:{q:QC × List QR // af Tryz.progTables Tryz.f213=some q}:=⟨_,by conv=>lhs;cbv⟩
theorem Xn:ae Tryz.prog 213 Ii.1 Tryz.f213.ntmps:=ae.of Tryz.func213 Ii.2 rfl rfl (by kernel_rfl) Tryz.call213
noncomputable def Ij:{q:QC × List QR // af Tryz.progTables Tryz.f220=some q}:=⟨_,by conv=>lhs;cbv⟩
theorem Xo:ae Tryz.prog 220 Ij.1 Tryz.f220.ntmps:=ae.of Tryz.func220 Ij.2 rfl rfl (by kernel_rfl) Tryz.call220
noncomputable def Ik:{q:QC × List QR // af Tryz.progTables Tryz.f250=some q}:=⟨_,by conv=>lhs;cbv⟩
theorem Xp:ae Tryz.prog 250 Ik.1 Tryz.f250.ntmps:=ae.of Tryz.func250 Ik.2 rfl rfl (by kernel_rfl) Tryz.call250
noncomputable def Il:{q:QC × List QR // af Tryz.progTables Tryz.f256=some q}:=⟨_,by conv=>lhs;cbv⟩
theorem Xq:ae Tryz.prog 256 Il.1 Tryz.f256.ntmps:=ae.of Tryz.func256 Il.2 rfl rfl (by kernel_rfl) Tryz.call256
noncomputable def Io:{q:QC × List QR // af Tryz.progTables Tryz.f262=some q}:=⟨_,by conv=>lhs;cbv⟩
theorem Xr:ae Tryz.prog 262 Io.1 Tryz.f262.ntmps:=ae.of Tryz.func262 Io.2 rfl rfl (by kernel_rfl) Tryz.call262
noncomputable def Ip:{q:QC × List QR // af Tryz.progTables Tryz.f278=some q}:=⟨_,by conv=>lhs;cbv⟩
theorem Xs:ae Tryz.prog 278 Ip.1 Tryz.f278.ntmps:=ae.of Tryz.func278 Ip.2 rfl rfl (by kernel_rfl) Tryz.call278
noncomputable def Iq:{q:QC × List QR // af Tryz.progTables Tryz.f287=some q}:=⟨_,by conv=>lhs;cbv⟩
theorem Xt:ae Tryz.prog 287 Iq.1 Tryz.f287.ntmps:=ae.of Tryz.func287 Iq.2 rfl rfl (by kernel_rfl) Tryz.call287
noncomputable def Ir:{q:QC × List QR // af Tryz.progTables Tryz.f303=some q}:=⟨_,by conv=>lhs;cbv⟩
theorem Xu:ae Tryz.prog 303 Ir.1 Tryz.f303.ntmps:=ae.of Tryz.func303 Ir.2 rfl rfl (by kernel_rfl) Tryz.call303
noncomputable def Is:{q:QC × List QR // af Tryz.progTables Tryz.f312=some q}:=⟨_,by conv=>lhs;cbv⟩
theorem Xv:ae Tryz.prog 312 Is.1 Tryz.f312.ntmps:=ae.of Tryz.func312 Is.2 rfl rfl (by kernel_rfl) Tryz.call312
noncomputable def Iu:{q:QC × List QR // af Tryz.progTables Tryz.f318=some q}:=⟨_,by conv=>lhs;cbv⟩
theorem Xw:ae Tryz.prog 318 Iu.1 Tryz.f318.ntmps:=ae.of Tryz.func318 Iu.2 rfl rfl (by kernel_rfl) Tryz.call318
noncomputable def Iv:{q:QC × List QR // af Tryz.progTables Tryz.f327=some q}:=⟨_,by conv=>lhs;cbv⟩
theorem Xx:ae Tryz.prog 327 Iv.1 Tryz.f327.ntmps:=ae.of Tryz.func327 Iv.2 rfl rfl (by kernel_rfl) Tryz.call327
noncomputable def Iw:{q:QC × List QR // af Tryz.progTables Tryz.f343=some q}:=⟨_,by conv=>lhs;cbv⟩
theorem Xy:ae Tryz.prog 343 Iw.1 Tryz.f343.ntmps:=ae.of Tryz.func343 Iw.2 rfl rfl (by kernel_rfl) Tryz.call343
noncomputable def Ix:{q:QC × List QR // af Tryz.progTables Tryz.f352=some q}:=⟨_,by conv=>lhs;cbv⟩
theorem Xz:ae Tryz.prog 352 Ix.1 Tryz.f352.ntmps:=ae.of Tryz.func352 Ix.2 rfl rfl (by kernel_rfl) Tryz.call352
noncomputable def Iy:{q:QC × List QR // af Tryz.progTables Tryz.f365=some q}:=⟨_,by conv=>lhs;cbv⟩
theorem XA:ae Tryz.prog 365 Iy.1 Tryz.f365.ntmps:=ae.of Tryz.func365 Iy.2 rfl rfl (by kernel_rfl) Tryz.call365
noncomputable def Iz:{q:QC × List QR // af Tryz.progTables Tryz.f395=some q}:=⟨_,by conv=>lhs;cbv⟩
theorem XB:ae Tryz.prog 395 Iz.1 Tryz.f395.ntmps:=ae.of Tryz.func395 Iz.2 rfl rfl (by kernel_rfl) Tryz.call395
noncomputable def IA:{q:QC × List QR // af Tryz.progTables Tryz.f419=some q}:=⟨_,by conv=>lhs;cbv⟩
theorem XC:ae Tryz.prog 419 IA.1 Tryz.f419.ntmps:=ae.of Tryz.func419 IA.2 rfl rfl (by kernel_rfl) Tryz.call419
end
section
set_option maxRecDepth 100000
attribute [local irreducible] av aE ad ab
def OS:CF Tryz.f291:=⟨_,by conv=>lhs;cbv⟩
theorem XD:bQ Tryz.prog 291 OS.1 Tryz.f291.ntmps:=fh Tryz.func291 OS.2 Tryz.call291
def ur:List Nat:=[2,0]
def OT:CF Tryz.f375:=⟨_,by conv=>lhs;cbv⟩
theorem OU:bQ Tryz.prog 375 OT.1 Tryz.f375.ntmps:=fh Tryz.func375 OT.2 Tryz.call375
def fQ:List Nat:=[0,7,4,55,1,5,8,6,21,40,54,56,53,9,10]
theorem TG {S:aa}{ρ:Hd}{v:Int}:bX S (.agg [.v (.int .i64 1),.v (.int .i64 v),.v (.string ⟨#[]⟩),.sl true []]) (tm ρ (vr v)):=by
 refine .agg rfl fun i a a' h1 h2=>?_
 match i,h1,h2 with
 |0,h1,h2=>obtain rfl:=Option.some.inj h1;obtain rfl:=Option.some.inj h2;exact .refl _
 |1,h1,h2=>obtain rfl:=Option.some.inj h1;obtain rfl:=Option.some.inj h2;exact .refl _
 |2,h1,h2=>obtain rfl:=Option.some.inj h1;obtain rfl:=Option.some.inj h2;exact .refl _
 |3,h1,h2 =>
  obtain rfl:=Option.some.inj h1
  obtain rfl:=Option.some.inj h2
  rw [vr,tl,ij]
  exact bX.wk
def pb:Option Tm->List AV
 |none=>[iv 0,iv 0,.v (.string ⟨#[]⟩),.sl true []]
 |some x=>mL x
theorem Rt (x:Option Tm):(pb x).length=4:=by cases x with|none=>rfl|some x=>exact DY x
theorem Ru (l:List Tm):List.map pb (l.map some)=List.map mL l:=by rw [List.map_map];rfl
theorem OV {N:Nat}{ρ:Hd}{S:aa}{nl ul:Nat}{Nd:aU}{vs sh ls:List (Int × Int)}{up:List Nat}{kn:KN}(h0:S.get 0=some (gO nl ul):=by rfl) (h1:S.get 1=some (cN ρ Nd):=by rfl) (h2:S.get 2=some (aY ρ vs):=by rfl) (h3:S.get 3=some (cO ρ up):=by rfl)
  (h4:S.get 4=some (cP ρ sh):=by rfl) (h5:S.get 5=some (aY ρ ls):=by rfl) (h6:S.get 6=some (cQ ρ kn):=by rfl):eI 7 [] N S (gX ρ nl ul Nd vs up sh ls kn):=gC h0 h1 h2 h3 h4 h5 h6
theorem CS {f:Nat->List Nat->Option (Tm × List Nat)}(hf:∀ r u t u',f r u=some (t,u')->u'.length=u.length):∀ (l:List Nat) {up cw:List Nat}{ts:List Tm},qf f l up=some (ts,cw)->cw.length=up.length/\ts.length=l.length
 |[],up,cw,ts,h=>by
  simp only [qf,Option.some.injEq,Prod.mk.injEq] at h
  obtain⟨rfl,rfl⟩:=h
  exact⟨rfl,rfl⟩
 |x::l,up,cw,ts,h=>by
  rw [qf] at h
  split at h
  ·cases h
  ·rename_i u r hr
   have e1:=eG hr
   split at h
   ·cases h
   ·rename_i t u1 ht
    have e2:=hf _ _ _ _ ht
    split at h
    ·cases h
    ·rename_i Z2 u2 hl
     obtain⟨e3,e4⟩:=CS hf l hl
     simp only [Option.some.injEq,Prod.mk.injEq] at h
     obtain⟨rfl,rfl⟩:=h
     exact⟨by omega,by simp only [List.length_cons];omega⟩
theorem r7 {N:aU}{sh ls:List (Int × Int)}:∀ (m:Nat) (r:Nat) (up:List Nat) (t:Tm) (cw:List Nat),qg N sh ls m r up=some (t,cw)->cw.length=up.length
 |0,_,_,_,_,h=>by cases h
 |m+1,r,up,t,cw,h=>by
  rw [qg] at h
  split at h
  ·simp only [Option.some.injEq,Prod.mk.injEq] at h
   obtain⟨rfl,rfl⟩:=h
   rfl
  ·split at h
   ·split at h
    ·cases h
    ·split at h
     ·split at h
      ·simp only [Option.some.injEq,Prod.mk.injEq] at h
       obtain⟨rfl,rfl⟩:=h
       rfl
      ·split at h
       ·cases h
       ·rename_i hl
        have:=(CS (r7 m) _ hl).1
        simp only [Option.some.injEq,Prod.mk.injEq] at h
        obtain⟨rfl,rfl⟩:=h
        exact this
     ·cases h
   ·cases h
theorem ab.TH {P:Program}{w0:World}{rd:Bool}{n:Nat}{Q:Exit->AA->aa->Prop}{α:AA}{S:aa}{id:Nat}{b:QC}{K:List ig}(h:ab P w0 rd n Q (.out .normal (.seq b::K)) α S):ab P w0 rd n Q (.out (.exit id) (.nU id::.seq b::K)) α S:=by
 simp only [ab,iJ,Nat.beq_refl] at h ⊢
 exact h
theorem CT (x:Option Tm) {B:Nat}:∀ a ∈ pb x,cC B a:=by
 intro a ha
 cases x with
 |some x=>exact Pure.bT (wh x a ha)
 |none =>
  simp only [pb,List.mem_cons,List.not_mem_nil,or_false] at ha
  rcases ha with rfl|rfl|rfl|rfl<;>first|exact .v|exact yC
theorem Rw {B:Nat}{ρ:Hd}(met:List (Option Tm)) {ex:Bool}:kH B (.arr 4 (ρ.h (List.map pb) met) 0 ex):=by
 show ∀ row ∈ ρ.h (List.map pb) met,∀ a ∈ row,cC B a
 rw [ρ.eq]
 intro row hr a ha
 obtain⟨x,_,rfl⟩:=List.mem_map.1 hr
 exact CT x a ha
theorem TI {N:Nat}{ρ:Hd}{S:aa}{nl ul:Nat}{Nd:aU}{vs sh ls:List (Int × Int)}{up:List Nat}{kn:KN}{t:Tm}{met:List (Option Tm)}(h7:S.get 7=some (.arr 4 [pb none] 0 true):=by rfl) (h8:S.get 8=some (.arr 4 [pB ρ t] 0 true):=by rfl) (h9:S.get 9=some (.arr 4 (ρ.h (List.map pb) met) 0 true):=by rfl) (h0:S.get 0=some (gO nl ul):=by rfl) (h1:S.get 1=some (cN ρ Nd):=by rfl) (h2:S.get 2=some (aY ρ vs):=by rfl) (h3:S.get 3=some (cO ρ up):=by rfl)
  (h4:S.get 4=some (cP ρ sh):=by rfl) (h5:S.get 5=some (aY ρ ls):=by rfl) (h6:S.get 6=some (cQ ρ kn):=by rfl):eI 10 [] N S [(0,gO nl ul),(1,cN ρ Nd),(2,aY ρ vs),(3,cO ρ up),(4,cP ρ sh),(5,aY ρ ls),(6,cQ ρ kn),(7,.arr 4 [pb none] 0 true),(8,.arr 4 [pB ρ t] 0 true),(9,.arr 4 (ρ.h (List.map pb) met) 0 true)] :=
 ⟨.inl ⟨_,h0,.same (lq (by omega))⟩,.inl ⟨_,h1,.same (gv _)⟩,.inl ⟨_,h2,.same (bY _)⟩,.inl ⟨_,h3,.same (fD _)⟩,.inl ⟨_,h4,.same (fE _)⟩,.inl ⟨_,h5,.same (bY _)⟩,.inl ⟨_,h6,.same (fF _)⟩,.inl ⟨_,h7,.same (fun row hr a ha=>by obtain rfl:=List.mem_singleton.1 hr;exact CT none a ha)⟩,
  .inl ⟨_,h8,.same (fun row hr a ha=>by obtain rfl:=List.mem_singleton.1 hr;exact Pure.bT (rH t a ha))⟩,.inl ⟨_,h9,.same (Rw _)⟩,trivial⟩
section
variable {w0:World}{ρ:Hd}
theorem OW (v:Int):av Tryz.prog w0 291 [iv v] (tm ρ (vr v)):=by
 refine XD.eQ (by simp [Tryz.ntmps291]) (dN _) ?_
 refine gq ur ?_
 repeat' (first
  |(refine bq (fun hb=>?_) (fun hb=>?_)<;>(try simp only [bS] at hb)<;>(first|exact absurd hb (by decide)|refine gq ur ?_))
  |(refine bK fun m hm=>?_;(try rw [aF] at hm);refine gq ur ?_)
  |(refine bH fun _ _=>?_;refine gq ur ?_)
  |(refine dx fun _ _=>?_;refine gq ur ?_)
  |(refine ab.str rfl (ad.cat rfl rfl (by assumption)) fun _ _=>?_;refine gq ur ?_)
  |(refine ab.bh ?_;refine gq ur ?_)
  |(refine ab.bO ?_;refine gq ur ?_)
  |(refine fq ?_))
 exact TG
theorem CU {N:aU}{vs sh ls:List (Int × Int)}{kn:KN}{nl ul:Nat}(hN:zY N) (dz:nl=N.length) (jy:ul<=1099511627776):∀ (m:Nat) {r:Nat}{up cw:List Nat}{t:Tm},up.length=ul->qg N sh ls m r up=some (t,cw) ->
  aE Tryz.prog w0 375 [.pt 0 6 0 0,iv r] (au (gX ρ nl ul N vs up sh ls kn) 7) (tm ρ t) (au (gX ρ nl ul N vs cw sh ls kn) 7):=by
 intro m
 induction m with
 |zero=>intro r up cw t _ h;cases h
 |succ m ih =>
  intro r up cw t hu h
  rw [qg] at h
  obtain⟨ri,Ej⟩:∃ ri:Int,ri=r:=⟨_,rfl⟩
  rw [<-Ej] at h ⊢
  split at h
  ·rename_i OX
   simp only [Option.some.injEq,Prod.mk.injEq] at h
   obtain⟨rfl,rfl⟩:=h
   refine bQ.jl 7 7 _ OU (by simp [Tryz.ntmps375]) rfl rfl ?_
   unfold gX
   refine gq fQ ?_
   refine ab.look (ρ:=ρ) (f:=iv) (kv:=sh) rfl rfl rfl rfl (fun k hk=>?_) (fun hk=>?_)
   ·rw [OX] at hk;cases hk
   obtain⟨vv,Kg⟩:∃ vv,vv=(ao ls ri).getD 0:=⟨_,rfl⟩
   rw [<-Kg]
   refine gq fQ ?_
   refine ab.mw (ρ:=ρ) (f:=iv) (kv:=ls) rfl rfl rfl rfl (fun v hv=>?_) (fun hv=>?_)
   ·rw [hv] at Kg
    obtain rfl:vv=v:=Kg
    refine gq fQ ?_
    refine ab.op rfl (ad.b9 rfl (OW (ρ:=ρ) vv) ⟨.v,trivial⟩) ?_
    refine gq fQ ?_
    refine fq ?_
    exact⟨[],.aJ (Pure.bT (dN (vr vv))),OV,rfl⟩
   ·rw [hv] at Kg
    obtain rfl:vv=0:=Kg
    refine gq fQ ?_
    refine ab.op rfl (ad.b9 rfl (OW (ρ:=ρ) 0) ⟨.v,trivial⟩) ?_
    refine gq fQ ?_
    refine fq ?_
    exact⟨[],.aJ (Pure.bT (dN (vr 0))),OV,rfl⟩
  ·rename_i k OX
   split at h
   rotate_left
   ·cases h
   rename_i ZW
   obtain⟨Av,z6⟩:∃ n:Nat,n=k.toNat:=⟨_,rfl⟩
   rw [<-z6] at h
   split at h
   ·cases h
   rename_i t0 l xY
   split at h
   rotate_left
   ·cases h
   rename_i hla
   have q2:k=(Av:Int):=by omega
   have g2:=hN _ _ _ xY
   have i2:Av < nl:=by rw [dz];exact (List.getElem?_eq_some_iff.1 xY).1
   have r2:=h_ (ρ:=ρ) (f:=od ρ) xY
   obtain⟨tk,ti,TJ,ta⟩:=t0
   rw [od] at r2
   simp only at r2 hla g2 h
   have ZY:Pure (dw ρ fP false l):=eR fun x _ a ha=>by
    obtain rfl:=List.mem_singleton.1 ha
    exact .v
   refine bQ.jl 7 7 _ OU (by simp [Tryz.ntmps375]) rfl rfl ?_
   unfold gX
   refine gq fQ ?_
   refine ab.look (ρ:=ρ) (f:=iv) (kv:=sh) rfl rfl rfl rfl (fun k2 hk=>?_) (fun hk=>?_)
   rotate_left
   ·rw [OX] at hk;cases hk
   rw [OX] at hk
   obtain rfl:=Option.some.inj hk
   refine gq fQ ?_
   refine ab.op rfl (ad.lK rfl rfl q2 i2) ?_
   refine ab.op rfl (ad.quiet rfl) ?_
   refine ab.op rfl (ad.o8 rfl rfl r2 rfl) ?_
   refine gq fQ ?_
   refine bK fun q1 xH=>?_
   rw [aF] at xH
   refine gq fQ ?_
   refine bq (fun fA=>?_) (fun fA=>?_)<;>(try simp only [bS] at fA)
   ·rw [if_pos (by omega)] at h
    simp only [Option.some.injEq,Prod.mk.injEq] at h
    obtain⟨rfl,rfl⟩:=h
    refine gq fQ ?_
    refine fq ?_
    exact⟨[],.aJ (Pure.bT (dN ⟨tk,ti,TJ,ta⟩)),OV,rfl⟩
   rw [if_neg (by omega)] at h
   split at h
   ·cases h
   rename_i ts u hex
   simp only [Option.some.injEq,Prod.mk.injEq] at h
   obtain⟨rfl,rfl⟩:=h
   refine gq fQ ?_
   refine bK fun q3 Kh=>?_
   rw [aF] at Kh
   refine gq fQ ?_
   obtain⟨an,han⟩:∃ an,an=ta.length:=⟨_,rfl⟩
   rw [<-han] at Kh
   refine ab.Nv (m:=an) ρ pb none rfl rfl rfl Kh rfl (by omega) (by omega) fun abI OY=>?_
   refine gq fQ ?_
   refine ab.op rfl (ad.lK rfl rfl q2 i2) ?_
   refine ab.op rfl (ad.quiet rfl) ?_
   refine ab.op rfl (ad.o8 rfl rfl r2 rfl) ?_
   refine gq fQ ?_
   refine ab.int rfl (ad.len rfl) fun q po=>?_
   rw [aF] at po
   refine gq fQ ?_
   have aH:an=l.length:=by omega
   rw [aH] at OY
   refine ab.iK (σ:=Int × List Nat × List (Option Tm)) 10 10 [] (fun p=>[(0,.pt 0 6 0 0),(4,.pt 7 4 0 0),(7,.pt 8 4 0 0),(8,.ob 9 4 0 an none),(53,dw ρ fP false l),(54,iv q),(55,iv p.1)]) []
    (fun p=>[(0,gO nl ul),(1,cN ρ N),(2,aY ρ vs),(3,cO ρ p.2.1),(4,cP ρ sh),(5,aY ρ ls),(6,cQ ρ kn),(7,.arr 4 [pb none] 0 true),(8,.arr 4 [pB ρ ⟨tk,ti,TJ,ta⟩] 0 true),(9,.arr 4 (ρ.h (List.map pb) p.2.2) 0 true)])
    (fun p=>∃ i:Nat,p.1=i/\i<=l.length/\p.2.1.length=ul/\∃ d rest:List Tm,d.length=i/\p.2.2=d.map some++List.replicate (l.length - i) none/\qf (qg N sh ls m) (l.drop i) p.2.1=some (rest,u)/\d++rest=ts) (fun p=>l.length - p.1.toNat)
    (0,up,abI) ⟨0,rfl,by simp,hu,[],ts,rfl,by simpa using OY,by simpa using hex,rfl⟩ rfl (by exact⟨sq,rfl,TI,rfl,rfl,rfl⟩) ?_
   rintro⟨ii,eF,met⟩ ⟨i,sA,wX,fG,d,rest,hd,ui,hm,EE⟩
   simp only at sA wX fG ui hm
   refine gq fQ ?_
   refine bq (fun dF=>?_) (fun dF=>?_)<;>(try simp only [bS] at dF)
   ·have lf:i < l.length:=by omega
    obtain⟨x,hx⟩:∃ x,l[i]?=some x:=⟨_,List.getElem?_eq_getElem lf⟩
    obtain⟨xa,xb⟩:=List.getElem?_eq_some_iff.1 hx
    rw [List.drop_eq_getElem_cons xa,xb,qf] at hm
    split at hm
    ·cases hm
    rename_i u2 cl hr
    split at hm
    ·cases hm
    rename_i tx u3 Az
    split at hm
    ·cases hm
    rename_i Z2 u4 vt
    simp only [Option.some.injEq,Prod.mk.injEq] at hm
    obtain⟨rfl,rfl⟩:=hm
    have c1:=qU (w0:=w0) (ρ:=ρ) (s:=⟨N,vs,⟨eF,sh,ls⟩⟩) (kn:=kn) (by simp only;omega) hr
    have gu:u2.length=ul:=by rw [eG hr,fG]
    have oe:u3.length=ul:=by rw [r7 m _ _ _ _ Az,gu]
    simp only at c1
    rw [<-eD dz fG,<-eD dz gu] at c1
    have c2:=ih gu Az
    have hml:met.length=l.length:=by rw [ui,List.length_append,List.length_map,List.length_replicate];omega
    refine gq fQ ?_
    refine ab.op rfl (ad.ind rfl rfl (ky (l:=l) sA hx) (kz fun _=>rfl)) ?_
    refine gq fQ ?_
    refine ab.op rfl (ad.iz c1 rfl (Nat.le_of_ble_eq_true rfl) (bW (by decide)) (jB) (bW (by decide)) (mB (by decide) .v) .v) ?_
    refine gq fQ ?_
    refine ab.op rfl (ad.iz c2 rfl (Nat.le_of_ble_eq_true rfl) (bW (by decide)) (jB) (bW (by decide)) (mB (by decide) .v) (Pure.bT (dN tx))) ?_
    refine gq fQ ?_
    refine ab.op rfl (ad.aaJ rfl rfl sA (by omega)) ?_
    refine ab.LN (f:=pb) (y:=some tx) rfl rfl rfl (xw tx).symm (by show (mL tx).all bl=true;rw [xw (ρ:=ρ)];rfl) Rt rfl (by omega) (fun abJ XE=>?_)
    refine gq fQ ?_
    refine bH (fun i3 Ki=>?_)
    refine gq fQ ?_
    refine ab.d_ (σ:=Int × List Nat × List (Option Tm)) (i3,u3,abJ) [] ⟨i+1,by simp only;omega,by omega,oe,d++[tx],Z2,by simp [hd],?_,vt,by rw [List.append_assoc];exact EE⟩ ?_ (by exact⟨sq,rfl,TI,rfl,rfl,rfl⟩)
    ·have e:l.length - i=(l.length - (i+1))+1:=by omega
     simp only
     rw [XE,ui,e,List.replicate_succ,List.set_append_right _ _ (by simp [hd])]
     simp [hd]
    ·simp only;omega
   ·have lf:i=l.length:=by omega
    rw [lf,List.drop_of_length_le (Nat.le_refl _),qf] at hm
    simp only [Option.some.injEq,Prod.mk.injEq] at hm
    obtain⟨rfl,rfl⟩:=hm
    rw [List.append_nil] at EE
    have hme:ρ.h (List.map pb) met=ρ.h (List.map mL) ts:=by
     rw [ρ.eq,ρ.eq,ui,lf,Nat.sub_self,List.replicate_zero,List.append_nil,Ru,EE]
    have hmn:an=(ρ.h (List.map mL) ts).length:=by rw [aF,<-EE];omega
    refine gq fQ ?_
    refine ab.bh ?_
    refine ab.TH (ab.Zf (Cv.freeze (t:=8) (k:=9) (rows:=ρ.h (List.map mL) ts) (by rw [<-hme];rfl) rfl (.inr ⟨_,rfl⟩) hmn (Nat.zero_le _)) ?_)
    refine gq fQ ?_
    refine fq ?_
    exact⟨[],.aJ (Pure.bT (dN ⟨tk,ti,TJ,ts⟩)),OV,rfl⟩
end
end
end Go.Proofs.YtgjfgekaclobaaaGreat
