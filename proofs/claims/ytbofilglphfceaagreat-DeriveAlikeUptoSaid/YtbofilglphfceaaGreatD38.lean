import Derived.Test.YtbofilglphfceaaGreatD37
namespace Go.Proofs.YtbofilglphfceaaGreat
set_option linter.unusedVariables false
set_option linter.unusedSimpArgs false
open Go.RowKit
section
set_option maxRecDepth 100000
noncomputable def EL:{q:QC × List QR // ae Tryz.progTables Tryz.f14=some q}:=⟨_,by conv=>lhs;cbv⟩
theorem Q3:ad Tryz.prog 14 EL.1 Tryz.f14.ntmps:=ad.of Tryz.func14 EL.2 rfl rfl (by kernel_rfl) Tryz.call14
noncomputable def EM:{q:QC × List QR // ae Tryz.progTables Tryz.f42=some q}:=⟨_,by conv=>lhs;cbv⟩
theorem Q4:ad Tryz.prog 42 EM.1 Tryz.f42.ntmps:=ad.of Tryz.func42 EM.2 rfl rfl (by kernel_rfl) Tryz.call42
noncomputable def EN:{q:QC × List QR // ae Tryz.progTables Tryz.f48=some q}:=⟨_,by conv=>lhs;cbv⟩
theorem Q5:ad Tryz.prog 48 EN.1 Tryz.f48.ntmps:=ad.of Tryz.func48 EN.2 rfl rfl (by kernel_rfl) Tryz.call48
noncomputable def EO:{q:QC × List QR // ae Tryz.progTables Tryz.f62=some q}:=⟨_,by conv=>lhs;cbv⟩
theorem Q6:ad Tryz.prog 62 EO.1 Tryz.f62.ntmps:=ad.of Tryz.func62 EO.2 rfl rfl (by kernel_rfl) Tryz.call62
noncomputable def EP:{q:QC × List QR // ae Tryz.progTables Tryz.f72=some q}:=⟨_,by conv=>lhs;cbv⟩
theorem Q7:ad Tryz.prog 72 EP.1 Tryz.f72.ntmps:=ad.of Tryz.func72 EP.2 rfl rfl (by kernel_rfl) Tryz.call72
noncomputable def ER:{q:QC × List QR // ae Tryz.progTables Tryz.f79=some q}:=⟨_,by conv=>lhs;cbv⟩
theorem Q8:ad Tryz.prog 79 ER.1 Tryz.f79.ntmps:=ad.of Tryz.func79 ER.2 rfl rfl (by kernel_rfl) Tryz.call79
noncomputable def z5:{q:QC × List QR // ae Tryz.progTables Tryz.f102=some q}:=⟨_,by conv=>lhs;cbv⟩
theorem ME:ad Tryz.prog 102 z5.1 Tryz.f102.ntmps:=ad.of Tryz.func102 z5.2 rfl rfl (by kernel_rfl) Tryz.call102
noncomputable def z6:{q:QC × List QR // ae Tryz.progTables Tryz.f112=some q}:=⟨_,by conv=>lhs;cbv⟩
theorem MF:ad Tryz.prog 112 z6.1 Tryz.f112.ntmps:=ad.of Tryz.func112 z6.2 rfl rfl (by kernel_rfl) Tryz.call112
noncomputable def z7:{q:QC × List QR // ae Tryz.progTables Tryz.f118=some q}:=⟨_,by conv=>lhs;cbv⟩
theorem MG:ad Tryz.prog 118 z7.1 Tryz.f118.ntmps:=ad.of Tryz.func118 z7.2 rfl rfl (by kernel_rfl) Tryz.call118
noncomputable def z8:{q:QC × List QR // ae Tryz.progTables Tryz.f143=some q}:=⟨_,by conv=>lhs;cbv⟩
theorem MH:ad Tryz.prog 143 z8.1 Tryz.f143.ntmps:=ad.of Tryz.func143 z8.2 rfl rfl (by kernel_rfl) Tryz.call143
noncomputable def z9:{q:QC × List QR // ae Tryz.progTables Tryz.f153=some q}:=⟨_,by conv=>lhs;cbv⟩
theorem MI:ad Tryz.prog 153 z9.1 Tryz.f153.ntmps:=ad.of Tryz.func153 z9.2 rfl rfl (by kernel_rfl) Tryz.call153
noncomputable def z_:{q:QC × List QR // ae Tryz.progTables Tryz.f159=some q}:=⟨_,by conv=>lhs;cbv⟩
theorem MJ:ad Tryz.prog 159 z_.1 Tryz.f159.ntmps:=ad.of Tryz.func159 z_.2 rfl rfl (by kernel_rfl) Tryz.call159
noncomputable def Aa:{q:QC × List QR // ae Tryz.progTables Tryz.f169=some q}:=⟨_,by conv=>lhs;cbv⟩
theorem MK:ad Tryz.prog 169 Aa.1 Tryz.f169.ntmps:=ad.of Tryz.func169 Aa.2 rfl rfl (by kernel_rfl) Tryz.call169
noncomputable def Ac:{q:QC × List QR // ae Tryz.progTables Tryz.f184=some q}:=⟨_,by conv=>lhs;cbv⟩
theorem ML:ad Tryz.prog 184 Ac.1 Tryz.f184.ntmps:=ad.of Tryz.func184 Ac.2 rfl rfl (by kernel_rfl) Tryz.call184
noncomputable def Ad:{q:QC × List QR // ae Tryz.progTables Tryz.f190=some q}:=⟨_,by conv=>lhs;cbv⟩
theorem MM:ad Tryz.prog 190 Ad.1 Tryz.f190.ntmps:=ad.of Tryz.func190 Ad.2 rfl rfl (by kernel_rfl) Tryz.call190
noncomputable def Ae:{q:QC × List QR // ae Tryz.progTables Tryz.f196=some q}:=⟨_,by conv=>lhs;cbv⟩
theorem MN:ad Tryz.prog 196 Ae.1 Tryz.f196.ntmps:=ad.of Tryz.func196 Ae.2 rfl rfl (by kernel_rfl) Tryz.call196
noncomputable def Af:{q:QC × List QR // ae Tryz.progTables Tryz.f217=some q}:=⟨_,by conv=>lhs;cbv⟩
theorem MO:ad Tryz.prog 217 Af.1 Tryz.f217.ntmps:=ad.of Tryz.func217 Af.2 rfl rfl (by kernel_rfl) Tryz.call217
noncomputable def Ag:{q:QC × List QR // ae Tryz.progTables Tryz.f230=some q}:=⟨_,by conv=>lhs;cbv⟩
theorem MP:ad Tryz.prog 230 Ag.1 Tryz.f230.ntmps:=ad.of Tryz.func230 Ag.2 rfl rfl (by kernel_rfl) Tryz.call230
noncomputable def Ah:{q:QC × List QR // ae Tryz.progTables Tryz.f237=some q}:=⟨_,by conv=>lhs;cbv⟩
theorem MQ:ad Tryz.prog 237 Ah.1 Tryz.f237.ntmps:=ad.of Tryz.func237 Ah.2 rfl rfl (by kernel_rfl) Tryz.call237
noncomputable def Ai:{q:QC × List QR // ae Tryz.progTables Tryz.f246=some q}:=⟨_,by conv=>lhs;cbv⟩
theorem MR:ad Tryz.prog 246 Ai.1 Tryz.f246.ntmps:=ad.of Tryz.func246 Ai.2 rfl rfl (by kernel_rfl) Tryz.call246
noncomputable def Aj:{q:QC × List QR // ae Tryz.progTables Tryz.f252=some q}:=⟨_,by conv=>lhs;cbv⟩
theorem MS:ad Tryz.prog 252 Aj.1 Tryz.f252.ntmps:=ad.of Tryz.func252 Aj.2 rfl rfl (by kernel_rfl) Tryz.call252
noncomputable def Ak:{q:QC × List QR // ae Tryz.progTables Tryz.f273=some q}:=⟨_,by conv=>lhs;cbv⟩
theorem MT:ad Tryz.prog 273 Ak.1 Tryz.f273.ntmps:=ad.of Tryz.func273 Ak.2 rfl rfl (by kernel_rfl) Tryz.call273
noncomputable def Al:{q:QC × List QR // ae Tryz.progTables Tryz.f289=some q}:=⟨_,by conv=>lhs;cbv⟩
theorem MU:ad Tryz.prog 289 Al.1 Tryz.f289.ntmps:=ad.of Tryz.func289 Al.2 rfl rfl (by kernel_rfl) Tryz.call289
noncomputable def Am:{q:QC × List QR // ae Tryz.progTables Tryz.f302=some q}:=⟨_,by conv=>lhs;cbv⟩
theorem MV:ad Tryz.prog 302 Am.1 Tryz.f302.ntmps:=ad.of Tryz.func302 Am.2 rfl rfl (by kernel_rfl) Tryz.call302
noncomputable def An:{q:QC × List QR // ae Tryz.progTables Tryz.f328=some q}:=⟨_,by conv=>lhs;cbv⟩
theorem MW:ad Tryz.prog 328 An.1 Tryz.f328.ntmps:=ad.of Tryz.func328 An.2 rfl rfl (by kernel_rfl) Tryz.call328
noncomputable def Ao:{q:QC × List QR // ae Tryz.progTables Tryz.f342=some q}:=⟨_,by conv=>lhs;cbv⟩
theorem MX:ad Tryz.prog 342 Ao.1 Tryz.f342.ntmps:=ad.of Tryz.func342 Ao.2 rfl rfl (by kernel_rfl) Tryz.call342
noncomputable def Ap:{q:QC × List QR // ae Tryz.progTables Tryz.f376=some q}:=⟨_,by conv=>lhs;cbv⟩
theorem MY:ad Tryz.prog 376 Ap.1 Tryz.f376.ntmps:=ad.of Tryz.func376 Ap.2 rfl rfl (by kernel_rfl) Tryz.call376
noncomputable def Aq:{q:QC × List QR // ae Tryz.progTables Tryz.f425=some q}:=⟨_,by conv=>lhs;cbv⟩
theorem MZ:ad Tryz.prog 425 Aq.1 Tryz.f425.ntmps:=ad.of Tryz.func425 Aq.2 rfl rfl (by kernel_rfl) Tryz.call425
end
section
set_option maxRecDepth 100000
noncomputable def ES:{q:QC × List QR // ae Tryz.progTables Tryz.f20=some q}:=⟨_,by conv=>lhs;cbv⟩
theorem Q9:ad Tryz.prog 20 ES.1 Tryz.f20.ntmps:=ad.of Tryz.func20 ES.2 rfl rfl (by kernel_rfl) Tryz.call20
noncomputable def ET:{q:QC × List QR // ae Tryz.progTables Tryz.f43=some q}:=⟨_,by conv=>lhs;cbv⟩
theorem Q_:ad Tryz.prog 43 ET.1 Tryz.f43.ntmps:=ad.of Tryz.func43 ET.2 rfl rfl (by kernel_rfl) Tryz.call43
noncomputable def EU:{q:QC × List QR // ae Tryz.progTables Tryz.f49=some q}:=⟨_,by conv=>lhs;cbv⟩
theorem Ra:ad Tryz.prog 49 EU.1 Tryz.f49.ntmps:=ad.of Tryz.func49 EU.2 rfl rfl (by kernel_rfl) Tryz.call49
noncomputable def EV:{q:QC × List QR // ae Tryz.progTables Tryz.f63=some q}:=⟨_,by conv=>lhs;cbv⟩
theorem Rc:ad Tryz.prog 63 EV.1 Tryz.f63.ntmps:=ad.of Tryz.func63 EV.2 rfl rfl (by kernel_rfl) Tryz.call63
noncomputable def EW:{q:QC × List QR // ae Tryz.progTables Tryz.f73=some q}:=⟨_,by conv=>lhs;cbv⟩
theorem Rd:ad Tryz.prog 73 EW.1 Tryz.f73.ntmps:=ad.of Tryz.func73 EW.2 rfl rfl (by kernel_rfl) Tryz.call73
noncomputable def EX:{q:QC × List QR // ae Tryz.progTables Tryz.f86=some q}:=⟨_,by conv=>lhs;cbv⟩
theorem Re:ad Tryz.prog 86 EX.1 Tryz.f86.ntmps:=ad.of Tryz.func86 EX.2 rfl rfl (by kernel_rfl) Tryz.call86
noncomputable def Ar:{q:QC × List QR // ae Tryz.progTables Tryz.f103=some q}:=⟨_,by conv=>lhs;cbv⟩
theorem M0:ad Tryz.prog 103 Ar.1 Tryz.f103.ntmps:=ad.of Tryz.func103 Ar.2 rfl rfl (by kernel_rfl) Tryz.call103
noncomputable def As:{q:QC × List QR // ae Tryz.progTables Tryz.f113=some q}:=⟨_,by conv=>lhs;cbv⟩
theorem M1:ad Tryz.prog 113 As.1 Tryz.f113.ntmps:=ad.of Tryz.func113 As.2 rfl rfl (by kernel_rfl) Tryz.call113
noncomputable def Au:{q:QC × List QR // ae Tryz.progTables Tryz.f136=some q}:=⟨_,by conv=>lhs;cbv⟩
theorem M3:ad Tryz.prog 136 Au.1 Tryz.f136.ntmps:=ad.of Tryz.func136 Au.2 rfl rfl (by kernel_rfl) Tryz.call136
noncomputable def Av:{q:QC × List QR // ae Tryz.progTables Tryz.f148=some q}:=⟨_,by conv=>lhs;cbv⟩
theorem M4:ad Tryz.prog 148 Av.1 Tryz.f148.ntmps:=ad.of Tryz.func148 Av.2 rfl rfl (by kernel_rfl) Tryz.call148
noncomputable def Aw:{q:QC × List QR // ae Tryz.progTables Tryz.f154=some q}:=⟨_,by conv=>lhs;cbv⟩
theorem M5:ad Tryz.prog 154 Aw.1 Tryz.f154.ntmps:=ad.of Tryz.func154 Aw.2 rfl rfl (by kernel_rfl) Tryz.call154
noncomputable def Ax:{q:QC × List QR // ae Tryz.progTables Tryz.f160=some q}:=⟨_,by conv=>lhs;cbv⟩
theorem M6:ad Tryz.prog 160 Ax.1 Tryz.f160.ntmps:=ad.of Tryz.func160 Ax.2 rfl rfl (by kernel_rfl) Tryz.call160
noncomputable def Ay:{q:QC × List QR // ae Tryz.progTables Tryz.f170=some q}:=⟨_,by conv=>lhs;cbv⟩
theorem M7:ad Tryz.prog 170 Ay.1 Tryz.f170.ntmps:=ad.of Tryz.func170 Ay.2 rfl rfl (by kernel_rfl) Tryz.call170
noncomputable def Az:{q:QC × List QR // ae Tryz.progTables Tryz.f185=some q}:=⟨_,by conv=>lhs;cbv⟩
theorem M8:ad Tryz.prog 185 Az.1 Tryz.f185.ntmps:=ad.of Tryz.func185 Az.2 rfl rfl (by kernel_rfl) Tryz.call185
noncomputable def AB:{q:QC × List QR // ae Tryz.progTables Tryz.f191=some q}:=⟨_,by conv=>lhs;cbv⟩
theorem M9:ad Tryz.prog 191 AB.1 Tryz.f191.ntmps:=ad.of Tryz.func191 AB.2 rfl rfl (by kernel_rfl) Tryz.call191
noncomputable def AD:{q:QC × List QR // ae Tryz.progTables Tryz.f197=some q}:=⟨_,by conv=>lhs;cbv⟩
theorem M_:ad Tryz.prog 197 AD.1 Tryz.f197.ntmps:=ad.of Tryz.func197 AD.2 rfl rfl (by kernel_rfl) Tryz.call197
noncomputable def AE:{q:QC × List QR // ae Tryz.progTables Tryz.f218=some q}:=⟨_,by conv=>lhs;cbv⟩
theorem Na:ad Tryz.prog 218 AE.1 Tryz.f218.ntmps:=ad.of Tryz.func218 AE.2 rfl rfl (by kernel_rfl) Tryz.call218
noncomputable def AF:{q:QC × List QR // ae Tryz.progTables Tryz.f231=some q}:=⟨_,by conv=>lhs;cbv⟩
theorem Nb:ad Tryz.prog 231 AF.1 Tryz.f231.ntmps:=ad.of Tryz.func231 AF.2 rfl rfl (by kernel_rfl) Tryz.call231
noncomputable def AG:{q:QC × List QR // ae Tryz.progTables Tryz.f239=some q}:=⟨_,by conv=>lhs;cbv⟩
theorem Nc:ad Tryz.prog 239 AG.1 Tryz.f239.ntmps:=ad.of Tryz.func239 AG.2 rfl rfl (by kernel_rfl) Tryz.call239
noncomputable def AH:{q:QC × List QR // ae Tryz.progTables Tryz.f247=some q}:=⟨_,by conv=>lhs;cbv⟩
theorem Nd:ad Tryz.prog 247 AH.1 Tryz.f247.ntmps:=ad.of Tryz.func247 AH.2 rfl rfl (by kernel_rfl) Tryz.call247
noncomputable def AI:{q:QC × List QR // ae Tryz.progTables Tryz.f253=some q}:=⟨_,by conv=>lhs;cbv⟩
theorem Nf:ad Tryz.prog 253 AI.1 Tryz.f253.ntmps:=ad.of Tryz.func253 AI.2 rfl rfl (by kernel_rfl) Tryz.call253
noncomputable def AJ:{q:QC × List QR // ae Tryz.progTables Tryz.f274=some q}:=⟨_,by conv=>lhs;cbv⟩
theorem Ng:ad Tryz.prog 274 AJ.1 Tryz.f274.ntmps:=ad.of Tryz.func274 AJ.2 rfl rfl (by kernel_rfl) Tryz.call274
noncomputable def AK:{q:QC × List QR // ae Tryz.progTables Tryz.f290=some q}:=⟨_,by conv=>lhs;cbv⟩
theorem Nh:ad Tryz.prog 290 AK.1 Tryz.f290.ntmps:=ad.of Tryz.func290 AK.2 rfl rfl (by kernel_rfl) Tryz.call290
noncomputable def AL:{q:QC × List QR // ae Tryz.progTables Tryz.f307=some q}:=⟨_,by conv=>lhs;cbv⟩
theorem Ni:ad Tryz.prog 307 AL.1 Tryz.f307.ntmps:=ad.of Tryz.func307 AL.2 rfl rfl (by kernel_rfl) Tryz.call307
noncomputable def AM:{q:QC × List QR // ae Tryz.progTables Tryz.f329=some q}:=⟨_,by conv=>lhs;cbv⟩
theorem Nj:ad Tryz.prog 329 AM.1 Tryz.f329.ntmps:=ad.of Tryz.func329 AM.2 rfl rfl (by kernel_rfl) Tryz.call329
noncomputable def AN:{q:QC × List QR // ae Tryz.progTables Tryz.f345=some q}:=⟨_,by conv=>lhs;cbv⟩
theorem Nk:ad Tryz.prog 345 AN.1 Tryz.f345.ntmps:=ad.of Tryz.func345 AN.2 rfl rfl (by kernel_rfl) Tryz.call345
noncomputable def AO:{q:QC × List QR // ae Tryz.progTables Tryz.f383=some q}:=⟨_,by conv=>lhs;cbv⟩
theorem Nl:ad Tryz.prog 383 AO.1 Tryz.f383.ntmps:=ad.of Tryz.func383 AO.2 rfl rfl (by kernel_rfl) Tryz.call383
noncomputable def AP:{q:QC × List QR // ae Tryz.progTables Tryz.f441=some q}:=⟨_,by conv=>lhs;cbv⟩
theorem Nm:ad Tryz.prog 441 AP.1 Tryz.f441.ntmps:=ad.of Tryz.func441 AP.2 rfl rfl (by kernel_rfl) Tryz.call441
end
section
set_option maxRecDepth 100000
noncomputable def EY:{q:QC × List QR // ae Tryz.progTables Tryz.f21=some q}:=⟨_,by conv=>lhs;cbv⟩
theorem Rf:ad Tryz.prog 21 EY.1 Tryz.f21.ntmps:=ad.of Tryz.func21 EY.2 rfl rfl (by kernel_rfl) Tryz.call21
noncomputable def EZ:{q:QC × List QR // ae Tryz.progTables Tryz.f44=some q}:=⟨_,by conv=>lhs;cbv⟩
theorem Rg:ad Tryz.prog 44 EZ.1 Tryz.f44.ntmps:=ad.of Tryz.func44 EZ.2 rfl rfl (by kernel_rfl) Tryz.call44
noncomputable def E0:{q:QC × List QR // ae Tryz.progTables Tryz.f50=some q}:=⟨_,by conv=>lhs;cbv⟩
theorem Rh:ad Tryz.prog 50 E0.1 Tryz.f50.ntmps:=ad.of Tryz.func50 E0.2 rfl rfl (by kernel_rfl) Tryz.call50
noncomputable def E1:{q:QC × List QR // ae Tryz.progTables Tryz.f64=some q}:=⟨_,by conv=>lhs;cbv⟩
theorem Ri:ad Tryz.prog 64 E1.1 Tryz.f64.ntmps:=ad.of Tryz.func64 E1.2 rfl rfl (by kernel_rfl) Tryz.call64
noncomputable def E2:{q:QC × List QR // ae Tryz.progTables Tryz.f74=some q}:=⟨_,by conv=>lhs;cbv⟩
theorem Rj:ad Tryz.prog 74 E2.1 Tryz.f74.ntmps:=ad.of Tryz.func74 E2.2 rfl rfl (by kernel_rfl) Tryz.call74
noncomputable def E3:{q:QC × List QR // ae Tryz.progTables Tryz.f87=some q}:=⟨_,by conv=>lhs;cbv⟩
theorem Rk:ad Tryz.prog 87 E3.1 Tryz.f87.ntmps:=ad.of Tryz.func87 E3.2 rfl rfl (by kernel_rfl) Tryz.call87
noncomputable def AQ:{q:QC × List QR // ae Tryz.progTables Tryz.f104=some q}:=⟨_,by conv=>lhs;cbv⟩
theorem Nn:ad Tryz.prog 104 AQ.1 Tryz.f104.ntmps:=ad.of Tryz.func104 AQ.2 rfl rfl (by kernel_rfl) Tryz.call104
noncomputable def AR:{q:QC × List QR // ae Tryz.progTables Tryz.f114=some q}:=⟨_,by conv=>lhs;cbv⟩
theorem No:ad Tryz.prog 114 AR.1 Tryz.f114.ntmps:=ad.of Tryz.func114 AR.2 rfl rfl (by kernel_rfl) Tryz.call114
noncomputable def AS:{q:QC × List QR // ae Tryz.progTables Tryz.f137=some q}:=⟨_,by conv=>lhs;cbv⟩
theorem Np:ad Tryz.prog 137 AS.1 Tryz.f137.ntmps:=ad.of Tryz.func137 AS.2 rfl rfl (by kernel_rfl) Tryz.call137
noncomputable def AT:{q:QC × List QR // ae Tryz.progTables Tryz.f149=some q}:=⟨_,by conv=>lhs;cbv⟩
theorem Nq:ad Tryz.prog 149 AT.1 Tryz.f149.ntmps:=ad.of Tryz.func149 AT.2 rfl rfl (by kernel_rfl) Tryz.call149
noncomputable def AU:{q:QC × List QR // ae Tryz.progTables Tryz.f155=some q}:=⟨_,by conv=>lhs;cbv⟩
theorem Nr:ad Tryz.prog 155 AU.1 Tryz.f155.ntmps:=ad.of Tryz.func155 AU.2 rfl rfl (by kernel_rfl) Tryz.call155
noncomputable def AW:{q:QC × List QR // ae Tryz.progTables Tryz.f162=some q}:=⟨_,by conv=>lhs;cbv⟩
theorem Ns:ad Tryz.prog 162 AW.1 Tryz.f162.ntmps:=ad.of Tryz.func162 AW.2 rfl rfl (by kernel_rfl) Tryz.call162
noncomputable def AX:{q:QC × List QR // ae Tryz.progTables Tryz.f171=some q}:=⟨_,by conv=>lhs;cbv⟩
theorem Nt:ad Tryz.prog 171 AX.1 Tryz.f171.ntmps:=ad.of Tryz.func171 AX.2 rfl rfl (by kernel_rfl) Tryz.call171
noncomputable def AY:{q:QC × List QR // ae Tryz.progTables Tryz.f186=some q}:=⟨_,by conv=>lhs;cbv⟩
theorem Nu:ad Tryz.prog 186 AY.1 Tryz.f186.ntmps:=ad.of Tryz.func186 AY.2 rfl rfl (by kernel_rfl) Tryz.call186
noncomputable def AZ:{q:QC × List QR // ae Tryz.progTables Tryz.f192=some q}:=⟨_,by conv=>lhs;cbv⟩
theorem Nv:ad Tryz.prog 192 AZ.1 Tryz.f192.ntmps:=ad.of Tryz.func192 AZ.2 rfl rfl (by kernel_rfl) Tryz.call192
noncomputable def A0:{q:QC × List QR // ae Tryz.progTables Tryz.f200=some q}:=⟨_,by conv=>lhs;cbv⟩
theorem Nw:ad Tryz.prog 200 A0.1 Tryz.f200.ntmps:=ad.of Tryz.func200 A0.2 rfl rfl (by kernel_rfl) Tryz.call200
noncomputable def A1:{q:QC × List QR // ae Tryz.progTables Tryz.f221=some q}:=⟨_,by conv=>lhs;cbv⟩
theorem Nx:ad Tryz.prog 221 A1.1 Tryz.f221.ntmps:=ad.of Tryz.func221 A1.2 rfl rfl (by kernel_rfl) Tryz.call221
noncomputable def A3:{q:QC × List QR // ae Tryz.progTables Tryz.f232=some q}:=⟨_,by conv=>lhs;cbv⟩
theorem Ny:ad Tryz.prog 232 A3.1 Tryz.f232.ntmps:=ad.of Tryz.func232 A3.2 rfl rfl (by kernel_rfl) Tryz.call232
noncomputable def A4:{q:QC × List QR // ae Tryz.progTables Tryz.f241=some q}:=⟨_,by conv=>lhs;cbv⟩
theorem Nz:ad Tryz.prog 241 A4.1 Tryz.f241.ntmps:=ad.of Tryz.func241 A4.2 rfl rfl (by kernel_rfl) Tryz.call241
noncomputable def A5:{q:QC × List QR // ae Tryz.progTables Tryz.f248=some q}:=⟨_,by conv=>lhs;cbv⟩
theorem NA:ad Tryz.prog 248 A5.1 Tryz.f248.ntmps:=ad.of Tryz.func248 A5.2 rfl rfl (by kernel_rfl) Tryz.call248
noncomputable def A6:{q:QC × List QR // ae Tryz.progTables Tryz.f267=some q}:=⟨_,by conv=>lhs;cbv⟩
theorem NB:ad Tryz.prog 267 A6.1 Tryz.f267.ntmps:=ad.of Tryz.func267 A6.2 rfl rfl (by kernel_rfl) Tryz.call267
noncomputable def A7:{q:QC × List QR // ae Tryz.progTables Tryz.f275=some q}:=⟨_,by conv=>lhs;cbv⟩
theorem NC:ad Tryz.prog 275 A7.1 Tryz.f275.ntmps:=ad.of Tryz.func275 A7.2 rfl rfl (by kernel_rfl) Tryz.call275
noncomputable def A8:{q:QC × List QR // ae Tryz.progTables Tryz.f291=some q}:=⟨_,by conv=>lhs;cbv⟩
theorem ND:ad Tryz.prog 291 A8.1 Tryz.f291.ntmps:=ad.of Tryz.func291 A8.2 rfl rfl (by kernel_rfl) Tryz.call291
noncomputable def A9:{q:QC × List QR // ae Tryz.progTables Tryz.f308=some q}:=⟨_,by conv=>lhs;cbv⟩
theorem NF:ad Tryz.prog 308 A9.1 Tryz.f308.ntmps:=ad.of Tryz.func308 A9.2 rfl rfl (by kernel_rfl) Tryz.call308
noncomputable def A_:{q:QC × List QR // ae Tryz.progTables Tryz.f330=some q}:=⟨_,by conv=>lhs;cbv⟩
theorem NG:ad Tryz.prog 330 A_.1 Tryz.f330.ntmps:=ad.of Tryz.func330 A_.2 rfl rfl (by kernel_rfl) Tryz.call330
noncomputable def Ba:{q:QC × List QR // ae Tryz.progTables Tryz.f346=some q}:=⟨_,by conv=>lhs;cbv⟩
theorem NH:ad Tryz.prog 346 Ba.1 Tryz.f346.ntmps:=ad.of Tryz.func346 Ba.2 rfl rfl (by kernel_rfl) Tryz.call346
noncomputable def Bb:{q:QC × List QR // ae Tryz.progTables Tryz.f395=some q}:=⟨_,by conv=>lhs;cbv⟩
theorem NI:ad Tryz.prog 395 Bb.1 Tryz.f395.ntmps:=ad.of Tryz.func395 Bb.2 rfl rfl (by kernel_rfl) Tryz.call395
noncomputable def Bc:{q:QC × List QR // ae Tryz.progTables Tryz.f442=some q}:=⟨_,by conv=>lhs;cbv⟩
theorem NJ:ad Tryz.prog 442 Bc.1 Tryz.f442.ntmps:=ad.of Tryz.func442 Bc.2 rfl rfl (by kernel_rfl) Tryz.call442
end
section
set_option maxRecDepth 100000
noncomputable def E4:{q:QC × List QR // ae Tryz.progTables Tryz.f23=some q}:=⟨_,by conv=>lhs;cbv⟩
theorem Rm:ad Tryz.prog 23 E4.1 Tryz.f23.ntmps:=ad.of Tryz.func23 E4.2 rfl rfl (by kernel_rfl) Tryz.call23
noncomputable def E5:{q:QC × List QR // ae Tryz.progTables Tryz.f45=some q}:=⟨_,by conv=>lhs;cbv⟩
theorem Ro:ad Tryz.prog 45 E5.1 Tryz.f45.ntmps:=ad.of Tryz.func45 E5.2 rfl rfl (by kernel_rfl) Tryz.call45
noncomputable def E6:{q:QC × List QR // ae Tryz.progTables Tryz.f52=some q}:=⟨_,by conv=>lhs;cbv⟩
theorem Rp:ad Tryz.prog 52 E6.1 Tryz.f52.ntmps:=ad.of Tryz.func52 E6.2 rfl rfl (by kernel_rfl) Tryz.call52
noncomputable def E7:{q:QC × List QR // ae Tryz.progTables Tryz.f65=some q}:=⟨_,by conv=>lhs;cbv⟩
theorem Rq:ad Tryz.prog 65 E7.1 Tryz.f65.ntmps:=ad.of Tryz.func65 E7.2 rfl rfl (by kernel_rfl) Tryz.call65
noncomputable def E8:{q:QC × List QR // ae Tryz.progTables Tryz.f75=some q}:=⟨_,by conv=>lhs;cbv⟩
theorem Rr:ad Tryz.prog 75 E8.1 Tryz.f75.ntmps:=ad.of Tryz.func75 E8.2 rfl rfl (by kernel_rfl) Tryz.call75
noncomputable def E9:{q:QC × List QR // ae Tryz.progTables Tryz.f88=some q}:=⟨_,by conv=>lhs;cbv⟩
theorem Rs:ad Tryz.prog 88 E9.1 Tryz.f88.ntmps:=ad.of Tryz.func88 E9.2 rfl rfl (by kernel_rfl) Tryz.call88
noncomputable def Be:{q:QC × List QR // ae Tryz.progTables Tryz.f105=some q}:=⟨_,by conv=>lhs;cbv⟩
theorem NK:ad Tryz.prog 105 Be.1 Tryz.f105.ntmps:=ad.of Tryz.func105 Be.2 rfl rfl (by kernel_rfl) Tryz.call105
noncomputable def Bg:{q:QC × List QR // ae Tryz.progTables Tryz.f115=some q}:=⟨_,by conv=>lhs;cbv⟩
theorem NL:ad Tryz.prog 115 Bg.1 Tryz.f115.ntmps:=ad.of Tryz.func115 Bg.2 rfl rfl (by kernel_rfl) Tryz.call115
noncomputable def Bh:{q:QC × List QR // ae Tryz.progTables Tryz.f138=some q}:=⟨_,by conv=>lhs;cbv⟩
theorem NM:ad Tryz.prog 138 Bh.1 Tryz.f138.ntmps:=ad.of Tryz.func138 Bh.2 rfl rfl (by kernel_rfl) Tryz.call138
noncomputable def Bi:{q:QC × List QR // ae Tryz.progTables Tryz.f150=some q}:=⟨_,by conv=>lhs;cbv⟩
theorem NN:ad Tryz.prog 150 Bi.1 Tryz.f150.ntmps:=ad.of Tryz.func150 Bi.2 rfl rfl (by kernel_rfl) Tryz.call150
noncomputable def Bj:{q:QC × List QR // ae Tryz.progTables Tryz.f156=some q}:=⟨_,by conv=>lhs;cbv⟩
theorem NO:ad Tryz.prog 156 Bj.1 Tryz.f156.ntmps:=ad.of Tryz.func156 Bj.2 rfl rfl (by kernel_rfl) Tryz.call156
noncomputable def Bl:{q:QC × List QR // ae Tryz.progTables Tryz.f164=some q}:=⟨_,by conv=>lhs;cbv⟩
theorem NP:ad Tryz.prog 164 Bl.1 Tryz.f164.ntmps:=ad.of Tryz.func164 Bl.2 rfl rfl (by kernel_rfl) Tryz.call164
noncomputable def Bm:{q:QC × List QR // ae Tryz.progTables Tryz.f172=some q}:=⟨_,by conv=>lhs;cbv⟩
theorem NQ:ad Tryz.prog 172 Bm.1 Tryz.f172.ntmps:=ad.of Tryz.func172 Bm.2 rfl rfl (by kernel_rfl) Tryz.call172
noncomputable def Bn:{q:QC × List QR // ae Tryz.progTables Tryz.f187=some q}:=⟨_,by conv=>lhs;cbv⟩
theorem NR:ad Tryz.prog 187 Bn.1 Tryz.f187.ntmps:=ad.of Tryz.func187 Bn.2 rfl rfl (by kernel_rfl) Tryz.call187
noncomputable def Bo:{q:QC × List QR // ae Tryz.progTables Tryz.f193=some q}:=⟨_,by conv=>lhs;cbv⟩
theorem NS:ad Tryz.prog 193 Bo.1 Tryz.f193.ntmps:=ad.of Tryz.func193 Bo.2 rfl rfl (by kernel_rfl) Tryz.call193
noncomputable def Bp:{q:QC × List QR // ae Tryz.progTables Tryz.f201=some q}:=⟨_,by conv=>lhs;cbv⟩
theorem NT:ad Tryz.prog 201 Bp.1 Tryz.f201.ntmps:=ad.of Tryz.func201 Bp.2 rfl rfl (by kernel_rfl) Tryz.call201
noncomputable def Bq:{q:QC × List QR // ae Tryz.progTables Tryz.f223=some q}:=⟨_,by conv=>lhs;cbv⟩
theorem NU:ad Tryz.prog 223 Bq.1 Tryz.f223.ntmps:=ad.of Tryz.func223 Bq.2 rfl rfl (by kernel_rfl) Tryz.call223
noncomputable def Br:{q:QC × List QR // ae Tryz.progTables Tryz.f233=some q}:=⟨_,by conv=>lhs;cbv⟩
theorem NV:ad Tryz.prog 233 Br.1 Tryz.f233.ntmps:=ad.of Tryz.func233 Br.2 rfl rfl (by kernel_rfl) Tryz.call233
noncomputable def Bs:{q:QC × List QR // ae Tryz.progTables Tryz.f242=some q}:=⟨_,by conv=>lhs;cbv⟩
theorem NW:ad Tryz.prog 242 Bs.1 Tryz.f242.ntmps:=ad.of Tryz.func242 Bs.2 rfl rfl (by kernel_rfl) Tryz.call242
noncomputable def Bt:{q:QC × List QR // ae Tryz.progTables Tryz.f249=some q}:=⟨_,by conv=>lhs;cbv⟩
theorem NY:ad Tryz.prog 249 Bt.1 Tryz.f249.ntmps:=ad.of Tryz.func249 Bt.2 rfl rfl (by kernel_rfl) Tryz.call249
noncomputable def Bu:{q:QC × List QR // ae Tryz.progTables Tryz.f268=some q}:=⟨_,by conv=>lhs;cbv⟩
theorem NZ:ad Tryz.prog 268 Bu.1 Tryz.f268.ntmps:=ad.of Tryz.func268 Bu.2 rfl rfl (by kernel_rfl) Tryz.call268
noncomputable def Bv:{q:QC × List QR // ae Tryz.progTables Tryz.f276=some q}:=⟨_,by conv=>lhs;cbv⟩
theorem N0:ad Tryz.prog 276 Bv.1 Tryz.f276.ntmps:=ad.of Tryz.func276 Bv.2 rfl rfl (by kernel_rfl) Tryz.call276
noncomputable def Bw:{q:QC × List QR // ae Tryz.progTables Tryz.f296=some q}:=⟨_,by conv=>lhs;cbv⟩
theorem N1:ad Tryz.prog 296 Bw.1 Tryz.f296.ntmps:=ad.of Tryz.func296 Bw.2 rfl rfl (by kernel_rfl) Tryz.call296
noncomputable def Bx:{q:QC × List QR // ae Tryz.progTables Tryz.f323=some q}:=⟨_,by conv=>lhs;cbv⟩
theorem N2:ad Tryz.prog 323 Bx.1 Tryz.f323.ntmps:=ad.of Tryz.func323 Bx.2 rfl rfl (by kernel_rfl) Tryz.call323
noncomputable def By:{q:QC × List QR // ae Tryz.progTables Tryz.f331=some q}:=⟨_,by conv=>lhs;cbv⟩
theorem N3:ad Tryz.prog 331 By.1 Tryz.f331.ntmps:=ad.of Tryz.func331 By.2 rfl rfl (by kernel_rfl) Tryz.call331
noncomputable def Bz:{q:QC × List QR // ae Tryz.progTables Tryz.f365=some q}:=⟨_,by conv=>lhs;cbv⟩
theorem N4:ad Tryz.prog 365 Bz.1 Tryz.f365.ntmps:=ad.of Tryz.func365 Bz.2 rfl rfl (by kernel_rfl) Tryz.call365
noncomputable def BA:{q:QC × List QR // ae Tryz.progTables Tryz.f396=some q}:=⟨_,by conv=>lhs;cbv⟩
theorem N5:ad Tryz.prog 396 BA.1 Tryz.f396.ntmps:=ad.of Tryz.func396 BA.2 rfl rfl (by kernel_rfl) Tryz.call396
noncomputable def BB:{q:QC × List QR // ae Tryz.progTables Tryz.f464=some q}:=⟨_,by conv=>lhs;cbv⟩
theorem N6:ad Tryz.prog 464 BB.1 Tryz.f464.ntmps:=ad.of Tryz.func464 BB.2 rfl rfl (by kernel_rfl) Tryz.call464
end
end Go.Proofs.YtbofilglphfceaaGreat
