import Derived.Test.YtgjfgekaclobaaaGreatCm44
namespace Go.Proofs.YtgjfgekaclobaaaGreat
set_option linter.unusedVariables false
set_option linter.unusedSimpArgs false
open Go.RowKit
section
set_option maxRecDepth 100000
noncomputable def Mf:{q:QC × List QR // af Tryz.progTables Tryz.f11=some q}:=⟨_,by conv=>lhs;cbv⟩
theorem aaZ:ae Tryz.prog 11 Mf.1 Tryz.f11.ntmps:=ae.of Tryz.func11 Mf.2 rfl rfl (by kernel_rfl) Tryz.call11
noncomputable def Mg:{q:QC × List QR // af Tryz.progTables Tryz.f33=some q}:=⟨_,by conv=>lhs;cbv⟩
theorem aa0:ae Tryz.prog 33 Mg.1 Tryz.f33.ntmps:=ae.of Tryz.func33 Mg.2 rfl rfl (by kernel_rfl) Tryz.call33
noncomputable def Mh:{q:QC × List QR // af Tryz.progTables Tryz.f41=some q}:=⟨_,by conv=>lhs;cbv⟩
theorem aa1:ae Tryz.prog 41 Mh.1 Tryz.f41.ntmps:=ae.of Tryz.func41 Mh.2 rfl rfl (by kernel_rfl) Tryz.call41
noncomputable def Mi:{q:QC × List QR // af Tryz.progTables Tryz.f67=some q}:=⟨_,by conv=>lhs;cbv⟩
theorem aa2:ae Tryz.prog 67 Mi.1 Tryz.f67.ntmps:=ae.of Tryz.func67 Mi.2 rfl rfl (by kernel_rfl) Tryz.call67
noncomputable def Mj:{q:QC × List QR // af Tryz.progTables Tryz.f73=some q}:=⟨_,by conv=>lhs;cbv⟩
theorem aa3:ae Tryz.prog 73 Mj.1 Tryz.f73.ntmps:=ae.of Tryz.func73 Mj.2 rfl rfl (by kernel_rfl) Tryz.call73
noncomputable def Mk:{q:QC × List QR // af Tryz.progTables Tryz.f82=some q}:=⟨_,by conv=>lhs;cbv⟩
theorem aa4:ae Tryz.prog 82 Mk.1 Tryz.f82.ntmps:=ae.of Tryz.func82 Mk.2 rfl rfl (by kernel_rfl) Tryz.call82
noncomputable def Ml:{q:QC × List QR // af Tryz.progTables Tryz.f92=some q}:=⟨_,by conv=>lhs;cbv⟩
theorem aa5:ae Tryz.prog 92 Ml.1 Tryz.f92.ntmps:=ae.of Tryz.func92 Ml.2 rfl rfl (by kernel_rfl) Tryz.call92
noncomputable def F3:{q:QC × List QR // af Tryz.progTables Tryz.f115=some q}:=⟨_,by conv=>lhs;cbv⟩
theorem U_:ae Tryz.prog 115 F3.1 Tryz.f115.ntmps:=ae.of Tryz.func115 F3.2 rfl rfl (by kernel_rfl) Tryz.call115
noncomputable def F4:{q:QC × List QR // af Tryz.progTables Tryz.f134=some q}:=⟨_,by conv=>lhs;cbv⟩
theorem Va:ae Tryz.prog 134 F4.1 Tryz.f134.ntmps:=ae.of Tryz.func134 F4.2 rfl rfl (by kernel_rfl) Tryz.call134
noncomputable def F5:{q:QC × List QR // af Tryz.progTables Tryz.f143=some q}:=⟨_,by conv=>lhs;cbv⟩
theorem Vb:ae Tryz.prog 143 F5.1 Tryz.f143.ntmps:=ae.of Tryz.func143 F5.2 rfl rfl (by kernel_rfl) Tryz.call143
noncomputable def F6:{q:QC × List QR // af Tryz.progTables Tryz.f154=some q}:=⟨_,by conv=>lhs;cbv⟩
theorem Vc:ae Tryz.prog 154 F6.1 Tryz.f154.ntmps:=ae.of Tryz.func154 F6.2 rfl rfl (by kernel_rfl) Tryz.call154
noncomputable def F7:{q:QC × List QR // af Tryz.progTables Tryz.f178=some q}:=⟨_,by conv=>lhs;cbv⟩
theorem Vd:ae Tryz.prog 178 F7.1 Tryz.f178.ntmps:=ae.of Tryz.func178 F7.2 rfl rfl (by kernel_rfl) Tryz.call178
noncomputable def F8:{q:QC × List QR // af Tryz.progTables Tryz.f184=some q}:=⟨_,by conv=>lhs;cbv⟩
theorem Ve:ae Tryz.prog 184 F8.1 Tryz.f184.ntmps:=ae.of Tryz.func184 F8.2 rfl rfl (by kernel_rfl) Tryz.call184
noncomputable def F9:{q:QC × List QR // af Tryz.progTables Tryz.f204=some q}:=⟨_,by conv=>lhs;cbv⟩
theorem Vf:ae Tryz.prog 204 F9.1 Tryz.f204.ntmps:=ae.of Tryz.func204 F9.2 rfl rfl (by kernel_rfl) Tryz.call204
noncomputable def F_:{q:QC × List QR // af Tryz.progTables Tryz.f210=some q}:=⟨_,by conv=>lhs;cbv⟩
theorem Vg:ae Tryz.prog 210 F_.1 Tryz.f210.ntmps:=ae.of Tryz.func210 F_.2 rfl rfl (by kernel_rfl) Tryz.call210
noncomputable def Ga:{q:QC × List QR // af Tryz.progTables Tryz.f217=some q}:=⟨_,by conv=>lhs;cbv⟩
theorem Vh:ae Tryz.prog 217 Ga.1 Tryz.f217.ntmps:=ae.of Tryz.func217 Ga.2 rfl rfl (by kernel_rfl) Tryz.call217
noncomputable def Gb:{q:QC × List QR // af Tryz.progTables Tryz.f227=some q}:=⟨_,by conv=>lhs;cbv⟩
theorem Vi:ae Tryz.prog 227 Gb.1 Tryz.f227.ntmps:=ae.of Tryz.func227 Gb.2 rfl rfl (by kernel_rfl) Tryz.call227
noncomputable def Gc:{q:QC × List QR // af Tryz.progTables Tryz.f253=some q}:=⟨_,by conv=>lhs;cbv⟩
theorem Vj:ae Tryz.prog 253 Gc.1 Tryz.f253.ntmps:=ae.of Tryz.func253 Gc.2 rfl rfl (by kernel_rfl) Tryz.call253
noncomputable def Gd:{q:QC × List QR // af Tryz.progTables Tryz.f259=some q}:=⟨_,by conv=>lhs;cbv⟩
theorem Vk:ae Tryz.prog 259 Gd.1 Tryz.f259.ntmps:=ae.of Tryz.func259 Gd.2 rfl rfl (by kernel_rfl) Tryz.call259
noncomputable def Ge:{q:QC × List QR // af Tryz.progTables Tryz.f265=some q}:=⟨_,by conv=>lhs;cbv⟩
theorem Vl:ae Tryz.prog 265 Ge.1 Tryz.f265.ntmps:=ae.of Tryz.func265 Ge.2 rfl rfl (by kernel_rfl) Tryz.call265
noncomputable def Gf:{q:QC × List QR // af Tryz.progTables Tryz.f282=some q}:=⟨_,by conv=>lhs;cbv⟩
theorem Vm:ae Tryz.prog 282 Gf.1 Tryz.f282.ntmps:=ae.of Tryz.func282 Gf.2 rfl rfl (by kernel_rfl) Tryz.call282
noncomputable def Gg:{q:QC × List QR // af Tryz.progTables Tryz.f291=some q}:=⟨_,by conv=>lhs;cbv⟩
theorem Vn:ae Tryz.prog 291 Gg.1 Tryz.f291.ntmps:=ae.of Tryz.func291 Gg.2 rfl rfl (by kernel_rfl) Tryz.call291
noncomputable def Gi:{q:QC × List QR // af Tryz.progTables Tryz.f309=some q}:=⟨_,by conv=>lhs;cbv⟩
theorem Vo:ae Tryz.prog 309 Gi.1 Tryz.f309.ntmps:=ae.of Tryz.func309 Gi.2 rfl rfl (by kernel_rfl) Tryz.call309
noncomputable def Gj:{q:QC × List QR // af Tryz.progTables Tryz.f315=some q}:=⟨_,by conv=>lhs;cbv⟩
theorem Vp:ae Tryz.prog 315 Gj.1 Tryz.f315.ntmps:=ae.of Tryz.func315 Gj.2 rfl rfl (by kernel_rfl) Tryz.call315
noncomputable def Gk:{q:QC × List QR // af Tryz.progTables Tryz.f323=some q}:=⟨_,by conv=>lhs;cbv⟩
theorem Vq:ae Tryz.prog 323 Gk.1 Tryz.f323.ntmps:=ae.of Tryz.func323 Gk.2 rfl rfl (by kernel_rfl) Tryz.call323
noncomputable def Gm:{q:QC × List QR // af Tryz.progTables Tryz.f334=some q}:=⟨_,by conv=>lhs;cbv⟩
theorem Vr:ae Tryz.prog 334 Gm.1 Tryz.f334.ntmps:=ae.of Tryz.func334 Gm.2 rfl rfl (by kernel_rfl) Tryz.call334
noncomputable def Gn:{q:QC × List QR // af Tryz.progTables Tryz.f349=some q}:=⟨_,by conv=>lhs;cbv⟩
theorem Vs:ae Tryz.prog 349 Gn.1 Tryz.f349.ntmps:=ae.of Tryz.func349 Gn.2 rfl rfl (by kernel_rfl) Tryz.call349
noncomputable def Gp:{q:QC × List QR // af Tryz.progTables Tryz.f355=some q}:=⟨_,by conv=>lhs;cbv⟩
theorem Vt:ae Tryz.prog 355 Gp.1 Tryz.f355.ntmps:=ae.of Tryz.func355 Gp.2 rfl rfl (by kernel_rfl) Tryz.call355
noncomputable def Gq:{q:QC × List QR // af Tryz.progTables Tryz.f389=some q}:=⟨_,by conv=>lhs;cbv⟩
theorem Vu:ae Tryz.prog 389 Gq.1 Tryz.f389.ntmps:=ae.of Tryz.func389 Gq.2 rfl rfl (by kernel_rfl) Tryz.call389
noncomputable def Gr:{q:QC × List QR // af Tryz.progTables Tryz.f415=some q}:=⟨_,by conv=>lhs;cbv⟩
theorem Vv:ae Tryz.prog 415 Gr.1 Tryz.f415.ntmps:=ae.of Tryz.func415 Gr.2 rfl rfl (by kernel_rfl) Tryz.call415
noncomputable def Gs:{q:QC × List QR // af Tryz.progTables Tryz.f444=some q}:=⟨_,by conv=>lhs;cbv⟩
theorem Vw:ae Tryz.prog 444 Gs.1 Tryz.f444.ntmps:=ae.of Tryz.func444 Gs.2 rfl rfl (by kernel_rfl) Tryz.call444
end
section
set_option maxRecDepth 100000
noncomputable def Mm:{q:QC × List QR // af Tryz.progTables Tryz.f15=some q}:=⟨_,by conv=>lhs;cbv⟩
theorem aa6:ae Tryz.prog 15 Mm.1 Tryz.f15.ntmps:=ae.of Tryz.func15 Mm.2 rfl rfl (by kernel_rfl) Tryz.call15
noncomputable def Mn:{q:QC × List QR // af Tryz.progTables Tryz.f34=some q}:=⟨_,by conv=>lhs;cbv⟩
theorem aa7:ae Tryz.prog 34 Mn.1 Tryz.f34.ntmps:=ae.of Tryz.func34 Mn.2 rfl rfl (by kernel_rfl) Tryz.call34
noncomputable def Mo:{q:QC × List QR // af Tryz.progTables Tryz.f49=some q}:=⟨_,by conv=>lhs;cbv⟩
theorem aa8:ae Tryz.prog 49 Mo.1 Tryz.f49.ntmps:=ae.of Tryz.func49 Mo.2 rfl rfl (by kernel_rfl) Tryz.call49
noncomputable def Mp:{q:QC × List QR // af Tryz.progTables Tryz.f68=some q}:=⟨_,by conv=>lhs;cbv⟩
theorem aa9:ae Tryz.prog 68 Mp.1 Tryz.f68.ntmps:=ae.of Tryz.func68 Mp.2 rfl rfl (by kernel_rfl) Tryz.call68
noncomputable def Mq:{q:QC × List QR // af Tryz.progTables Tryz.f75=some q}:=⟨_,by conv=>lhs;cbv⟩
theorem aa_:ae Tryz.prog 75 Mq.1 Tryz.f75.ntmps:=ae.of Tryz.func75 Mq.2 rfl rfl (by kernel_rfl) Tryz.call75
noncomputable def Mr:{q:QC × List QR // af Tryz.progTables Tryz.f83=some q}:=⟨_,by conv=>lhs;cbv⟩
theorem aba:ae Tryz.prog 83 Mr.1 Tryz.f83.ntmps:=ae.of Tryz.func83 Mr.2 rfl rfl (by kernel_rfl) Tryz.call83
noncomputable def Ms:{q:QC × List QR // af Tryz.progTables Tryz.f93=some q}:=⟨_,by conv=>lhs;cbv⟩
theorem abb:ae Tryz.prog 93 Ms.1 Tryz.f93.ntmps:=ae.of Tryz.func93 Ms.2 rfl rfl (by kernel_rfl) Tryz.call93
noncomputable def Gt:{q:QC × List QR // af Tryz.progTables Tryz.f116=some q}:=⟨_,by conv=>lhs;cbv⟩
theorem Vx:ae Tryz.prog 116 Gt.1 Tryz.f116.ntmps:=ae.of Tryz.func116 Gt.2 rfl rfl (by kernel_rfl) Tryz.call116
noncomputable def Gu:{q:QC × List QR // af Tryz.progTables Tryz.f135=some q}:=⟨_,by conv=>lhs;cbv⟩
theorem Vy:ae Tryz.prog 135 Gu.1 Tryz.f135.ntmps:=ae.of Tryz.func135 Gu.2 rfl rfl (by kernel_rfl) Tryz.call135
noncomputable def Gv:{q:QC × List QR // af Tryz.progTables Tryz.f145=some q}:=⟨_,by conv=>lhs;cbv⟩
theorem Vz:ae Tryz.prog 145 Gv.1 Tryz.f145.ntmps:=ae.of Tryz.func145 Gv.2 rfl rfl (by kernel_rfl) Tryz.call145
noncomputable def Gw:{q:QC × List QR // af Tryz.progTables Tryz.f155=some q}:=⟨_,by conv=>lhs;cbv⟩
theorem VA:ae Tryz.prog 155 Gw.1 Tryz.f155.ntmps:=ae.of Tryz.func155 Gw.2 rfl rfl (by kernel_rfl) Tryz.call155
noncomputable def Gx:{q:QC × List QR // af Tryz.progTables Tryz.f179=some q}:=⟨_,by conv=>lhs;cbv⟩
theorem VB:ae Tryz.prog 179 Gx.1 Tryz.f179.ntmps:=ae.of Tryz.func179 Gx.2 rfl rfl (by kernel_rfl) Tryz.call179
noncomputable def Gy:{q:QC × List QR // af Tryz.progTables Tryz.f185=some q}:=⟨_,by conv=>lhs;cbv⟩
theorem VC:ae Tryz.prog 185 Gy.1 Tryz.f185.ntmps:=ae.of Tryz.func185 Gy.2 rfl rfl (by kernel_rfl) Tryz.call185
noncomputable def Gz:{q:QC × List QR // af Tryz.progTables Tryz.f205=some q}:=⟨_,by conv=>lhs;cbv⟩
theorem VD:ae Tryz.prog 205 Gz.1 Tryz.f205.ntmps:=ae.of Tryz.func205 Gz.2 rfl rfl (by kernel_rfl) Tryz.call205
noncomputable def GC:{q:QC × List QR // af Tryz.progTables Tryz.f211=some q}:=⟨_,by conv=>lhs;cbv⟩
theorem VE:ae Tryz.prog 211 GC.1 Tryz.f211.ntmps:=ae.of Tryz.func211 GC.2 rfl rfl (by kernel_rfl) Tryz.call211
noncomputable def GD:{q:QC × List QR // af Tryz.progTables Tryz.f218=some q}:=⟨_,by conv=>lhs;cbv⟩
theorem VF:ae Tryz.prog 218 GD.1 Tryz.f218.ntmps:=ae.of Tryz.func218 GD.2 rfl rfl (by kernel_rfl) Tryz.call218
noncomputable def GF:{q:QC × List QR // af Tryz.progTables Tryz.f228=some q}:=⟨_,by conv=>lhs;cbv⟩
theorem VG:ae Tryz.prog 228 GF.1 Tryz.f228.ntmps:=ae.of Tryz.func228 GF.2 rfl rfl (by kernel_rfl) Tryz.call228
noncomputable def GG:{q:QC × List QR // af Tryz.progTables Tryz.f254=some q}:=⟨_,by conv=>lhs;cbv⟩
theorem VH:ae Tryz.prog 254 GG.1 Tryz.f254.ntmps:=ae.of Tryz.func254 GG.2 rfl rfl (by kernel_rfl) Tryz.call254
noncomputable def GH:{q:QC × List QR // af Tryz.progTables Tryz.f260=some q}:=⟨_,by conv=>lhs;cbv⟩
theorem VI:ae Tryz.prog 260 GH.1 Tryz.f260.ntmps:=ae.of Tryz.func260 GH.2 rfl rfl (by kernel_rfl) Tryz.call260
noncomputable def GJ:{q:QC × List QR // af Tryz.progTables Tryz.f275=some q}:=⟨_,by conv=>lhs;cbv⟩
theorem VJ:ae Tryz.prog 275 GJ.1 Tryz.f275.ntmps:=ae.of Tryz.func275 GJ.2 rfl rfl (by kernel_rfl) Tryz.call275
noncomputable def GK:{q:QC × List QR // af Tryz.progTables Tryz.f283=some q}:=⟨_,by conv=>lhs;cbv⟩
theorem VK:ae Tryz.prog 283 GK.1 Tryz.f283.ntmps:=ae.of Tryz.func283 GK.2 rfl rfl (by kernel_rfl) Tryz.call283
noncomputable def GM:{q:QC × List QR // af Tryz.progTables Tryz.f296=some q}:=⟨_,by conv=>lhs;cbv⟩
theorem VL:ae Tryz.prog 296 GM.1 Tryz.f296.ntmps:=ae.of Tryz.func296 GM.2 rfl rfl (by kernel_rfl) Tryz.call296
noncomputable def GN:{q:QC × List QR // af Tryz.progTables Tryz.f310=some q}:=⟨_,by conv=>lhs;cbv⟩
theorem VM:ae Tryz.prog 310 GN.1 Tryz.f310.ntmps:=ae.of Tryz.func310 GN.2 rfl rfl (by kernel_rfl) Tryz.call310
noncomputable def GO:{q:QC × List QR // af Tryz.progTables Tryz.f316=some q}:=⟨_,by conv=>lhs;cbv⟩
theorem VN:ae Tryz.prog 316 GO.1 Tryz.f316.ntmps:=ae.of Tryz.func316 GO.2 rfl rfl (by kernel_rfl) Tryz.call316
noncomputable def GQ:{q:QC × List QR // af Tryz.progTables Tryz.f324=some q}:=⟨_,by conv=>lhs;cbv⟩
theorem VO:ae Tryz.prog 324 GQ.1 Tryz.f324.ntmps:=ae.of Tryz.func324 GQ.2 rfl rfl (by kernel_rfl) Tryz.call324
noncomputable def GR:{q:QC × List QR // af Tryz.progTables Tryz.f335=some q}:=⟨_,by conv=>lhs;cbv⟩
theorem VP:ae Tryz.prog 335 GR.1 Tryz.f335.ntmps:=ae.of Tryz.func335 GR.2 rfl rfl (by kernel_rfl) Tryz.call335
noncomputable def GU:{q:QC × List QR // af Tryz.progTables Tryz.f350=some q}:=⟨_,by conv=>lhs;cbv⟩
theorem VQ:ae Tryz.prog 350 GU.1 Tryz.f350.ntmps:=ae.of Tryz.func350 GU.2 rfl rfl (by kernel_rfl) Tryz.call350
noncomputable def GV:{q:QC × List QR // af Tryz.progTables Tryz.f356=some q}:=⟨_,by conv=>lhs;cbv⟩
theorem VR:ae Tryz.prog 356 GV.1 Tryz.f356.ntmps:=ae.of Tryz.func356 GV.2 rfl rfl (by kernel_rfl) Tryz.call356
noncomputable def GX:{q:QC × List QR // af Tryz.progTables Tryz.f393=some q}:=⟨_,by conv=>lhs;cbv⟩
theorem VS:ae Tryz.prog 393 GX.1 Tryz.f393.ntmps:=ae.of Tryz.func393 GX.2 rfl rfl (by kernel_rfl) Tryz.call393
noncomputable def GY:{q:QC × List QR // af Tryz.progTables Tryz.f417=some q}:=⟨_,by conv=>lhs;cbv⟩
theorem VT:ae Tryz.prog 417 GY.1 Tryz.f417.ntmps:=ae.of Tryz.func417 GY.2 rfl rfl (by kernel_rfl) Tryz.call417
noncomputable def GZ:{q:QC × List QR // af Tryz.progTables Tryz.f445=some q}:=⟨_,by conv=>lhs;cbv⟩
theorem VU:ae Tryz.prog 445 GZ.1 Tryz.f445.ntmps:=ae.of Tryz.func445 GZ.2 rfl rfl (by kernel_rfl) Tryz.call445
end
section
set_option maxRecDepth 100000
noncomputable def Mt:{q:QC × List QR // af Tryz.progTables Tryz.f25=some q}:=⟨_,by conv=>lhs;cbv⟩
theorem abc:ae Tryz.prog 25 Mt.1 Tryz.f25.ntmps:=ae.of Tryz.func25 Mt.2 rfl rfl (by kernel_rfl) Tryz.call25
noncomputable def Mu:{q:QC × List QR // af Tryz.progTables Tryz.f39=some q}:=⟨_,by conv=>lhs;cbv⟩
theorem abd:ae Tryz.prog 39 Mu.1 Tryz.f39.ntmps:=ae.of Tryz.func39 Mu.2 rfl rfl (by kernel_rfl) Tryz.call39
noncomputable def Mv:{q:QC × List QR // af Tryz.progTables Tryz.f55=some q}:=⟨_,by conv=>lhs;cbv⟩
theorem abe:ae Tryz.prog 55 Mv.1 Tryz.f55.ntmps:=ae.of Tryz.func55 Mv.2 rfl rfl (by kernel_rfl) Tryz.call55
noncomputable def Mw:{q:QC × List QR // af Tryz.progTables Tryz.f71=some q}:=⟨_,by conv=>lhs;cbv⟩
theorem abf:ae Tryz.prog 71 Mw.1 Tryz.f71.ntmps:=ae.of Tryz.func71 Mw.2 rfl rfl (by kernel_rfl) Tryz.call71
noncomputable def Mx:{q:QC × List QR // af Tryz.progTables Tryz.f80=some q}:=⟨_,by conv=>lhs;cbv⟩
theorem abg:ae Tryz.prog 80 Mx.1 Tryz.f80.ntmps:=ae.of Tryz.func80 Mx.2 rfl rfl (by kernel_rfl) Tryz.call80
noncomputable def My:{q:QC × List QR // af Tryz.progTables Tryz.f90=some q}:=⟨_,by conv=>lhs;cbv⟩
theorem abh:ae Tryz.prog 90 My.1 Tryz.f90.ntmps:=ae.of Tryz.func90 My.2 rfl rfl (by kernel_rfl) Tryz.call90
noncomputable def Mz:{q:QC × List QR // af Tryz.progTables Tryz.f96=some q}:=⟨_,by conv=>lhs;cbv⟩
theorem abi:ae Tryz.prog 96 Mz.1 Tryz.f96.ntmps:=ae.of Tryz.func96 Mz.2 rfl rfl (by kernel_rfl) Tryz.call96
noncomputable def G0:{q:QC × List QR // af Tryz.progTables Tryz.f132=some q}:=⟨_,by conv=>lhs;cbv⟩
theorem VV:ae Tryz.prog 132 G0.1 Tryz.f132.ntmps:=ae.of Tryz.func132 G0.2 rfl rfl (by kernel_rfl) Tryz.call132
noncomputable def G1:{q:QC × List QR // af Tryz.progTables Tryz.f141=some q}:=⟨_,by conv=>lhs;cbv⟩
theorem VW:ae Tryz.prog 141 G1.1 Tryz.f141.ntmps:=ae.of Tryz.func141 G1.2 rfl rfl (by kernel_rfl) Tryz.call141
noncomputable def G2:{q:QC × List QR // af Tryz.progTables Tryz.f152=some q}:=⟨_,by conv=>lhs;cbv⟩
theorem VX:ae Tryz.prog 152 G2.1 Tryz.f152.ntmps:=ae.of Tryz.func152 G2.2 rfl rfl (by kernel_rfl) Tryz.call152
noncomputable def G3:{q:QC × List QR // af Tryz.progTables Tryz.f158=some q}:=⟨_,by conv=>lhs;cbv⟩
theorem VY:ae Tryz.prog 158 G3.1 Tryz.f158.ntmps:=ae.of Tryz.func158 G3.2 rfl rfl (by kernel_rfl) Tryz.call158
noncomputable def G4:{q:QC × List QR // af Tryz.progTables Tryz.f182=some q}:=⟨_,by conv=>lhs;cbv⟩
theorem VZ:ae Tryz.prog 182 G4.1 Tryz.f182.ntmps:=ae.of Tryz.func182 G4.2 rfl rfl (by kernel_rfl) Tryz.call182
noncomputable def G5:{q:QC × List QR // af Tryz.progTables Tryz.f202=some q}:=⟨_,by conv=>lhs;cbv⟩
theorem V0:ae Tryz.prog 202 G5.1 Tryz.f202.ntmps:=ae.of Tryz.func202 G5.2 rfl rfl (by kernel_rfl) Tryz.call202
noncomputable def G6:{q:QC × List QR // af Tryz.progTables Tryz.f208=some q}:=⟨_,by conv=>lhs;cbv⟩
theorem V1:ae Tryz.prog 208 G6.1 Tryz.f208.ntmps:=ae.of Tryz.func208 G6.2 rfl rfl (by kernel_rfl) Tryz.call208
noncomputable def G7:{q:QC × List QR // af Tryz.progTables Tryz.f214=some q}:=⟨_,by conv=>lhs;cbv⟩
theorem V4:ae Tryz.prog 214 G7.1 Tryz.f214.ntmps:=ae.of Tryz.func214 G7.2 rfl rfl (by kernel_rfl) Tryz.call214
noncomputable def G8:{q:QC × List QR // af Tryz.progTables Tryz.f221=some q}:=⟨_,by conv=>lhs;cbv⟩
theorem V5:ae Tryz.prog 221 G8.1 Tryz.f221.ntmps:=ae.of Tryz.func221 G8.2 rfl rfl (by kernel_rfl) Tryz.call221
noncomputable def G9:{q:QC × List QR // af Tryz.progTables Tryz.f251=some q}:=⟨_,by conv=>lhs;cbv⟩
theorem V6:ae Tryz.prog 251 G9.1 Tryz.f251.ntmps:=ae.of Tryz.func251 G9.2 rfl rfl (by kernel_rfl) Tryz.call251
noncomputable def G_:{q:QC × List QR // af Tryz.progTables Tryz.f257=some q}:=⟨_,by conv=>lhs;cbv⟩
theorem V7:ae Tryz.prog 257 G_.1 Tryz.f257.ntmps:=ae.of Tryz.func257 G_.2 rfl rfl (by kernel_rfl) Tryz.call257
noncomputable def Ha:{q:QC × List QR // af Tryz.progTables Tryz.f263=some q}:=⟨_,by conv=>lhs;cbv⟩
theorem V8:ae Tryz.prog 263 Ha.1 Tryz.f263.ntmps:=ae.of Tryz.func263 Ha.2 rfl rfl (by kernel_rfl) Tryz.call263
noncomputable def Hb:{q:QC × List QR // af Tryz.progTables Tryz.f279=some q}:=⟨_,by conv=>lhs;cbv⟩
theorem V9:ae Tryz.prog 279 Hb.1 Tryz.f279.ntmps:=ae.of Tryz.func279 Hb.2 rfl rfl (by kernel_rfl) Tryz.call279
noncomputable def Hc:{q:QC × List QR // af Tryz.progTables Tryz.f288=some q}:=⟨_,by conv=>lhs;cbv⟩
theorem V_:ae Tryz.prog 288 Hc.1 Tryz.f288.ntmps:=ae.of Tryz.func288 Hc.2 rfl rfl (by kernel_rfl) Tryz.call288
noncomputable def He:{q:QC × List QR // af Tryz.progTables Tryz.f304=some q}:=⟨_,by conv=>lhs;cbv⟩
theorem Wa:ae Tryz.prog 304 He.1 Tryz.f304.ntmps:=ae.of Tryz.func304 He.2 rfl rfl (by kernel_rfl) Tryz.call304
noncomputable def Hf:{q:QC × List QR // af Tryz.progTables Tryz.f313=some q}:=⟨_,by conv=>lhs;cbv⟩
theorem Wb:ae Tryz.prog 313 Hf.1 Tryz.f313.ntmps:=ae.of Tryz.func313 Hf.2 rfl rfl (by kernel_rfl) Tryz.call313
noncomputable def Hg:{q:QC × List QR // af Tryz.progTables Tryz.f319=some q}:=⟨_,by conv=>lhs;cbv⟩
theorem Wc:ae Tryz.prog 319 Hg.1 Tryz.f319.ntmps:=ae.of Tryz.func319 Hg.2 rfl rfl (by kernel_rfl) Tryz.call319
noncomputable def Hh:{q:QC × List QR // af Tryz.progTables Tryz.f328=some q}:=⟨_,by conv=>lhs;cbv⟩
theorem Wd:ae Tryz.prog 328 Hh.1 Tryz.f328.ntmps:=ae.of Tryz.func328 Hh.2 rfl rfl (by kernel_rfl) Tryz.call328
noncomputable def Hi:{q:QC × List QR // af Tryz.progTables Tryz.f347=some q}:=⟨_,by conv=>lhs;cbv⟩
theorem We:ae Tryz.prog 347 Hi.1 Tryz.f347.ntmps:=ae.of Tryz.func347 Hi.2 rfl rfl (by kernel_rfl) Tryz.call347
noncomputable def Hj:{q:QC × List QR // af Tryz.progTables Tryz.f353=some q}:=⟨_,by conv=>lhs;cbv⟩
theorem Wf:ae Tryz.prog 353 Hj.1 Tryz.f353.ntmps:=ae.of Tryz.func353 Hj.2 rfl rfl (by kernel_rfl) Tryz.call353
noncomputable def Hk:{q:QC × List QR // af Tryz.progTables Tryz.f366=some q}:=⟨_,by conv=>lhs;cbv⟩
theorem Wg:ae Tryz.prog 366 Hk.1 Tryz.f366.ntmps:=ae.of Tryz.func366 Hk.2 rfl rfl (by kernel_rfl) Tryz.call366
noncomputable def Hl:{q:QC × List QR // af Tryz.progTables Tryz.f396=some q}:=⟨_,by conv=>lhs;cbv⟩
theorem Wh:ae Tryz.prog 396 Hl.1 Tryz.f396.ntmps:=ae.of Tryz.func396 Hl.2 rfl rfl (by kernel_rfl) Tryz.call396
noncomputable def Hm:{q:QC × List QR // af Tryz.progTables Tryz.f429=some q}:=⟨_,by conv=>lhs;cbv⟩
theorem Wi:ae Tryz.prog 429 Hm.1 Tryz.f429.ntmps:=ae.of Tryz.func429 Hm.2 rfl rfl (by kernel_rfl) Tryz.call429
end
section
set_option maxRecDepth 100000
noncomputable def MA:{q:QC × List QR // af Tryz.progTables Tryz.f26=some q}:=⟨_,by conv=>lhs;cbv⟩
theorem abj:ae Tryz.prog 26 MA.1 Tryz.f26.ntmps:=ae.of Tryz.func26 MA.2 rfl rfl (by kernel_rfl) Tryz.call26
noncomputable def MB:{q:QC × List QR // af Tryz.progTables Tryz.f40=some q}:=⟨_,by conv=>lhs;cbv⟩
theorem abk:ae Tryz.prog 40 MB.1 Tryz.f40.ntmps:=ae.of Tryz.func40 MB.2 rfl rfl (by kernel_rfl) Tryz.call40
noncomputable def MC:{q:QC × List QR // af Tryz.progTables Tryz.f66=some q}:=⟨_,by conv=>lhs;cbv⟩
theorem abl:ae Tryz.prog 66 MC.1 Tryz.f66.ntmps:=ae.of Tryz.func66 MC.2 rfl rfl (by kernel_rfl) Tryz.call66
noncomputable def MD:{q:QC × List QR // af Tryz.progTables Tryz.f72=some q}:=⟨_,by conv=>lhs;cbv⟩
theorem abm:ae Tryz.prog 72 MD.1 Tryz.f72.ntmps:=ae.of Tryz.func72 MD.2 rfl rfl (by kernel_rfl) Tryz.call72
noncomputable def ME:{q:QC × List QR // af Tryz.progTables Tryz.f81=some q}:=⟨_,by conv=>lhs;cbv⟩
theorem abn:ae Tryz.prog 81 ME.1 Tryz.f81.ntmps:=ae.of Tryz.func81 ME.2 rfl rfl (by kernel_rfl) Tryz.call81
noncomputable def MF:{q:QC × List QR // af Tryz.progTables Tryz.f91=some q}:=⟨_,by conv=>lhs;cbv⟩
theorem abo:ae Tryz.prog 91 MF.1 Tryz.f91.ntmps:=ae.of Tryz.func91 MF.2 rfl rfl (by kernel_rfl) Tryz.call91
noncomputable def Hn:{q:QC × List QR // af Tryz.progTables Tryz.f107=some q}:=⟨_,by conv=>lhs;cbv⟩
theorem Wj:ae Tryz.prog 107 Hn.1 Tryz.f107.ntmps:=ae.of Tryz.func107 Hn.2 rfl rfl (by kernel_rfl) Tryz.call107
noncomputable def Ho:{q:QC × List QR // af Tryz.progTables Tryz.f133=some q}:=⟨_,by conv=>lhs;cbv⟩
theorem Wl:ae Tryz.prog 133 Ho.1 Tryz.f133.ntmps:=ae.of Tryz.func133 Ho.2 rfl rfl (by kernel_rfl) Tryz.call133
noncomputable def Hp:{q:QC × List QR // af Tryz.progTables Tryz.f142=some q}:=⟨_,by conv=>lhs;cbv⟩
theorem Wm:ae Tryz.prog 142 Hp.1 Tryz.f142.ntmps:=ae.of Tryz.func142 Hp.2 rfl rfl (by kernel_rfl) Tryz.call142
noncomputable def Hq:{q:QC × List QR // af Tryz.progTables Tryz.f153=some q}:=⟨_,by conv=>lhs;cbv⟩
theorem Wn:ae Tryz.prog 153 Hq.1 Tryz.f153.ntmps:=ae.of Tryz.func153 Hq.2 rfl rfl (by kernel_rfl) Tryz.call153
noncomputable def Hr:{q:QC × List QR // af Tryz.progTables Tryz.f172=some q}:=⟨_,by conv=>lhs;cbv⟩
theorem Wo:ae Tryz.prog 172 Hr.1 Tryz.f172.ntmps:=ae.of Tryz.func172 Hr.2 rfl rfl (by kernel_rfl) Tryz.call172
noncomputable def Hs:{q:QC × List QR // af Tryz.progTables Tryz.f183=some q}:=⟨_,by conv=>lhs;cbv⟩
theorem Wq:ae Tryz.prog 183 Hs.1 Tryz.f183.ntmps:=ae.of Tryz.func183 Hs.2 rfl rfl (by kernel_rfl) Tryz.call183
noncomputable def Ht:{q:QC × List QR // af Tryz.progTables Tryz.f203=some q}:=⟨_,by conv=>lhs;cbv⟩
theorem Wr:ae Tryz.prog 203 Ht.1 Tryz.f203.ntmps:=ae.of Tryz.func203 Ht.2 rfl rfl (by kernel_rfl) Tryz.call203
noncomputable def Hu:{q:QC × List QR // af Tryz.progTables Tryz.f209=some q}:=⟨_,by conv=>lhs;cbv⟩
theorem Ws:ae Tryz.prog 209 Hu.1 Tryz.f209.ntmps:=ae.of Tryz.func209 Hu.2 rfl rfl (by kernel_rfl) Tryz.call209
noncomputable def Hv:{q:QC × List QR // af Tryz.progTables Tryz.f216=some q}:=⟨_,by conv=>lhs;cbv⟩
theorem Wt:ae Tryz.prog 216 Hv.1 Tryz.f216.ntmps:=ae.of Tryz.func216 Hv.2 rfl rfl (by kernel_rfl) Tryz.call216
noncomputable def Hw:{q:QC × List QR // af Tryz.progTables Tryz.f225=some q}:=⟨_,by conv=>lhs;cbv⟩
theorem Wu:ae Tryz.prog 225 Hw.1 Tryz.f225.ntmps:=ae.of Tryz.func225 Hw.2 rfl rfl (by kernel_rfl) Tryz.call225
noncomputable def Hx:{q:QC × List QR // af Tryz.progTables Tryz.f252=some q}:=⟨_,by conv=>lhs;cbv⟩
theorem Wv:ae Tryz.prog 252 Hx.1 Tryz.f252.ntmps:=ae.of Tryz.func252 Hx.2 rfl rfl (by kernel_rfl) Tryz.call252
noncomputable def Hy:{q:QC × List QR // af Tryz.progTables Tryz.f258=some q}:=⟨_,by conv=>lhs;cbv⟩
theorem Ww:ae Tryz.prog 258 Hy.1 Tryz.f258.ntmps:=ae.of Tryz.func258 Hy.2 rfl rfl (by kernel_rfl) Tryz.call258
noncomputable def Hz:{q:QC × List QR // af Tryz.progTables Tryz.f264=some q}:=⟨_,by conv=>lhs;cbv⟩
theorem Wx:ae Tryz.prog 264 Hz.1 Tryz.f264.ntmps:=ae.of Tryz.func264 Hz.2 rfl rfl (by kernel_rfl) Tryz.call264
noncomputable def HA:{q:QC × List QR // af Tryz.progTables Tryz.f281=some q}:=⟨_,by conv=>lhs;cbv⟩
theorem Wy:ae Tryz.prog 281 HA.1 Tryz.f281.ntmps:=ae.of Tryz.func281 HA.2 rfl rfl (by kernel_rfl) Tryz.call281
noncomputable def HB:{q:QC × List QR // af Tryz.progTables Tryz.f289=some q}:=⟨_,by conv=>lhs;cbv⟩
theorem Wz:ae Tryz.prog 289 HB.1 Tryz.f289.ntmps:=ae.of Tryz.func289 HB.2 rfl rfl (by kernel_rfl) Tryz.call289
noncomputable def HC:{q:QC × List QR // af Tryz.progTables Tryz.f308=some q}:=⟨_,by conv=>lhs;cbv⟩
theorem WA:ae Tryz.prog 308 HC.1 Tryz.f308.ntmps:=ae.of Tryz.func308 HC.2 rfl rfl (by kernel_rfl) Tryz.call308
noncomputable def HD:{q:QC × List QR // af Tryz.progTables Tryz.f314=some q}:=⟨_,by conv=>lhs;cbv⟩
theorem WB:ae Tryz.prog 314 HD.1 Tryz.f314.ntmps:=ae.of Tryz.func314 HD.2 rfl rfl (by kernel_rfl) Tryz.call314
noncomputable def HE:{q:QC × List QR // af Tryz.progTables Tryz.f320=some q}:=⟨_,by conv=>lhs;cbv⟩
theorem WC:ae Tryz.prog 320 HE.1 Tryz.f320.ntmps:=ae.of Tryz.func320 HE.2 rfl rfl (by kernel_rfl) Tryz.call320
noncomputable def HF:{q:QC × List QR // af Tryz.progTables Tryz.f330=some q}:=⟨_,by conv=>lhs;cbv⟩
theorem WD:ae Tryz.prog 330 HF.1 Tryz.f330.ntmps:=ae.of Tryz.func330 HF.2 rfl rfl (by kernel_rfl) Tryz.call330
noncomputable def HG:{q:QC × List QR // af Tryz.progTables Tryz.f348=some q}:=⟨_,by conv=>lhs;cbv⟩
theorem WE:ae Tryz.prog 348 HG.1 Tryz.f348.ntmps:=ae.of Tryz.func348 HG.2 rfl rfl (by kernel_rfl) Tryz.call348
noncomputable def HH:{q:QC × List QR // af Tryz.progTables Tryz.f354=some q}:=⟨_,by conv=>lhs;cbv⟩
theorem WG:ae Tryz.prog 354 HH.1 Tryz.f354.ntmps:=ae.of Tryz.func354 HH.2 rfl rfl (by kernel_rfl) Tryz.call354
noncomputable def HI:{q:QC × List QR // af Tryz.progTables Tryz.f388=some q}:=⟨_,by conv=>lhs;cbv⟩
theorem WH:ae Tryz.prog 388 HI.1 Tryz.f388.ntmps:=ae.of Tryz.func388 HI.2 rfl rfl (by kernel_rfl) Tryz.call388
noncomputable def HJ:{q:QC × List QR // af Tryz.progTables Tryz.f402=some q}:=⟨_,by conv=>lhs;cbv⟩
theorem WI:ae Tryz.prog 402 HJ.1 Tryz.f402.ntmps:=ae.of Tryz.func402 HJ.2 rfl rfl (by kernel_rfl) Tryz.call402
noncomputable def HK:{q:QC × List QR // af Tryz.progTables Tryz.f430=some q}:=⟨_,by conv=>lhs;cbv⟩
theorem WJ:ae Tryz.prog 430 HK.1 Tryz.f430.ntmps:=ae.of Tryz.func430 HK.2 rfl rfl (by kernel_rfl) Tryz.call430
end
end Go.Proofs.YtgjfgekaclobaaaGreat
