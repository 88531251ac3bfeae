import Derived.Test.YtgjfgekaclobaaaGreatCa44
namespace Go.Proofs.YtgjfgekaclobaaaGreat
set_option linter.unusedVariables false
set_option linter.unusedSimpArgs false
open Go.RowKit
section
set_option maxRecDepth 100000
noncomputable def SA:GQ_ Tryz.f21:=⟨_,by conv=>lhs;cbv⟩
theorem akI:af Tryz.prog 21 SA.1 Tryz.f21.ntmps:=gW_ Tryz.func21 SA.2 Tryz.call21
noncomputable def SB:GQ_ Tryz.f35:=⟨_,by conv=>lhs;cbv⟩
theorem akJ:af Tryz.prog 35 SB.1 Tryz.f35.ntmps:=gW_ Tryz.func35 SB.2 Tryz.call35
noncomputable def SC:GQ_ Tryz.f53:=⟨_,by conv=>lhs;cbv⟩
theorem akK:af Tryz.prog 53 SC.1 Tryz.f53.ntmps:=gW_ Tryz.func53 SC.2 Tryz.call53
noncomputable def SD:GQ_ Tryz.f69:=⟨_,by conv=>lhs;cbv⟩
theorem akL:af Tryz.prog 69 SD.1 Tryz.f69.ntmps:=gW_ Tryz.func69 SD.2 Tryz.call69
noncomputable def SE:GQ_ Tryz.f77:=⟨_,by conv=>lhs;cbv⟩
theorem akM:af Tryz.prog 77 SE.1 Tryz.f77.ntmps:=gW_ Tryz.func77 SE.2 Tryz.call77
noncomputable def SF:GQ_ Tryz.f84:=⟨_,by conv=>lhs;cbv⟩
theorem akN:af Tryz.prog 84 SF.1 Tryz.f84.ntmps:=gW_ Tryz.func84 SF.2 Tryz.call84
noncomputable def SG:GQ_ Tryz.f94:=⟨_,by conv=>lhs;cbv⟩
theorem akO:af Tryz.prog 94 SG.1 Tryz.f94.ntmps:=gW_ Tryz.func94 SG.2 Tryz.call94
noncomputable def LR:GQ_ Tryz.f117:=⟨_,by conv=>lhs;cbv⟩
theorem afa:af Tryz.prog 117 LR.1 Tryz.f117.ntmps:=gW_ Tryz.func117 LR.2 Tryz.call117
noncomputable def LU:GQ_ Tryz.f137:=⟨_,by conv=>lhs;cbv⟩
theorem afb:af Tryz.prog 137 LU.1 Tryz.f137.ntmps:=gW_ Tryz.func137 LU.2 Tryz.call137
noncomputable def LV:GQ_ Tryz.f147:=⟨_,by conv=>lhs;cbv⟩
theorem afc:af Tryz.prog 147 LV.1 Tryz.f147.ntmps:=gW_ Tryz.func147 LV.2 Tryz.call147
noncomputable def LW:GQ_ Tryz.f156:=⟨_,by conv=>lhs;cbv⟩
theorem afd:af Tryz.prog 156 LW.1 Tryz.f156.ntmps:=gW_ Tryz.func156 LW.2 Tryz.call156
noncomputable def LX:GQ_ Tryz.f180:=⟨_,by conv=>lhs;cbv⟩
theorem afe:af Tryz.prog 180 LX.1 Tryz.f180.ntmps:=gW_ Tryz.func180 LX.2 Tryz.call180
noncomputable def LY:GQ_ Tryz.f186:=⟨_,by conv=>lhs;cbv⟩
theorem aff:af Tryz.prog 186 LY.1 Tryz.f186.ntmps:=gW_ Tryz.func186 LY.2 Tryz.call186
noncomputable def LZ:GQ_ Tryz.f206:=⟨_,by conv=>lhs;cbv⟩
theorem afg:af Tryz.prog 206 LZ.1 Tryz.f206.ntmps:=gW_ Tryz.func206 LZ.2 Tryz.call206
noncomputable def L0:GQ_ Tryz.f212:=⟨_,by conv=>lhs;cbv⟩
theorem afh:af Tryz.prog 212 L0.1 Tryz.f212.ntmps:=gW_ Tryz.func212 L0.2 Tryz.call212
noncomputable def L4:GQ_ Tryz.f219:=⟨_,by conv=>lhs;cbv⟩
theorem afi:af Tryz.prog 219 L4.1 Tryz.f219.ntmps:=gW_ Tryz.func219 L4.2 Tryz.call219
noncomputable def L5:GQ_ Tryz.f241:=⟨_,by conv=>lhs;cbv⟩
theorem afj:af Tryz.prog 241 L5.1 Tryz.f241.ntmps:=gW_ Tryz.func241 L5.2 Tryz.call241
noncomputable def L6:GQ_ Tryz.f255:=⟨_,by conv=>lhs;cbv⟩
theorem afk:af Tryz.prog 255 L6.1 Tryz.f255.ntmps:=gW_ Tryz.func255 L6.2 Tryz.call255
noncomputable def L7:GQ_ Tryz.f261:=⟨_,by conv=>lhs;cbv⟩
theorem afl:af Tryz.prog 261 L7.1 Tryz.f261.ntmps:=gW_ Tryz.func261 L7.2 Tryz.call261
noncomputable def L8:GQ_ Tryz.f276:=⟨_,by conv=>lhs;cbv⟩
theorem afm:af Tryz.prog 276 L8.1 Tryz.f276.ntmps:=gW_ Tryz.func276 L8.2 Tryz.call276
noncomputable def L9:GQ_ Tryz.f284:=⟨_,by conv=>lhs;cbv⟩
theorem afn:af Tryz.prog 284 L9.1 Tryz.f284.ntmps:=gW_ Tryz.func284 L9.2 Tryz.call284
noncomputable def L_:GQ_ Tryz.f297:=⟨_,by conv=>lhs;cbv⟩
theorem afo:af Tryz.prog 297 L_.1 Tryz.f297.ntmps:=gW_ Tryz.func297 L_.2 Tryz.call297
noncomputable def Ma:GQ_ Tryz.f311:=⟨_,by conv=>lhs;cbv⟩
theorem afp:af Tryz.prog 311 Ma.1 Tryz.f311.ntmps:=gW_ Tryz.func311 Ma.2 Tryz.call311
noncomputable def Mb:GQ_ Tryz.f317:=⟨_,by conv=>lhs;cbv⟩
theorem afq:af Tryz.prog 317 Mb.1 Tryz.f317.ntmps:=gW_ Tryz.func317 Mb.2 Tryz.call317
noncomputable def Mc:GQ_ Tryz.f325:=⟨_,by conv=>lhs;cbv⟩
theorem afr:af Tryz.prog 325 Mc.1 Tryz.f325.ntmps:=gW_ Tryz.func325 Mc.2 Tryz.call325
noncomputable def Md:GQ_ Tryz.f342:=⟨_,by conv=>lhs;cbv⟩
theorem afs:af Tryz.prog 342 Md.1 Tryz.f342.ntmps:=gW_ Tryz.func342 Md.2 Tryz.call342
noncomputable def Me:GQ_ Tryz.f351:=⟨_,by conv=>lhs;cbv⟩
theorem aft:af Tryz.prog 351 Me.1 Tryz.f351.ntmps:=gW_ Tryz.func351 Me.2 Tryz.call351
noncomputable def Mf:GQ_ Tryz.f358:=⟨_,by conv=>lhs;cbv⟩
theorem afu:af Tryz.prog 358 Mf.1 Tryz.f358.ntmps:=gW_ Tryz.func358 Mf.2 Tryz.call358
noncomputable def Mg:GQ_ Tryz.f394:=⟨_,by conv=>lhs;cbv⟩
theorem afv:af Tryz.prog 394 Mg.1 Tryz.f394.ntmps:=gW_ Tryz.func394 Mg.2 Tryz.call394
noncomputable def Mh:GQ_ Tryz.f418:=⟨_,by conv=>lhs;cbv⟩
theorem afw:af Tryz.prog 418 Mh.1 Tryz.f418.ntmps:=gW_ Tryz.func418 Mh.2 Tryz.call418
end
section
set_option maxRecDepth 100000
noncomputable def SI:GQ_ Tryz.f22:=⟨_,by conv=>lhs;cbv⟩
theorem akP:af Tryz.prog 22 SI.1 Tryz.f22.ntmps:=gW_ Tryz.func22 SI.2 Tryz.call22
noncomputable def SJ:GQ_ Tryz.f37:=⟨_,by conv=>lhs;cbv⟩
theorem akQ:af Tryz.prog 37 SJ.1 Tryz.f37.ntmps:=gW_ Tryz.func37 SJ.2 Tryz.call37
noncomputable def SL:GQ_ Tryz.f54:=⟨_,by conv=>lhs;cbv⟩
theorem akR:af Tryz.prog 54 SL.1 Tryz.f54.ntmps:=gW_ Tryz.func54 SL.2 Tryz.call54
noncomputable def SM:GQ_ Tryz.f70:=⟨_,by conv=>lhs;cbv⟩
theorem akS:af Tryz.prog 70 SM.1 Tryz.f70.ntmps:=gW_ Tryz.func70 SM.2 Tryz.call70
noncomputable def SN:GQ_ Tryz.f79:=⟨_,by conv=>lhs;cbv⟩
theorem akT:af Tryz.prog 79 SN.1 Tryz.f79.ntmps:=gW_ Tryz.func79 SN.2 Tryz.call79
noncomputable def SO:GQ_ Tryz.f89:=⟨_,by conv=>lhs;cbv⟩
theorem akU:af Tryz.prog 89 SO.1 Tryz.f89.ntmps:=gW_ Tryz.func89 SO.2 Tryz.call89
noncomputable def SP:GQ_ Tryz.f95:=⟨_,by conv=>lhs;cbv⟩
theorem akV:af Tryz.prog 95 SP.1 Tryz.f95.ntmps:=gW_ Tryz.func95 SP.2 Tryz.call95
noncomputable def Mi:GQ_ Tryz.f118:=⟨_,by conv=>lhs;cbv⟩
theorem afx:af Tryz.prog 118 Mi.1 Tryz.f118.ntmps:=gW_ Tryz.func118 Mi.2 Tryz.call118
noncomputable def Mj:GQ_ Tryz.f140:=⟨_,by conv=>lhs;cbv⟩
theorem afy:af Tryz.prog 140 Mj.1 Tryz.f140.ntmps:=gW_ Tryz.func140 Mj.2 Tryz.call140
noncomputable def Mk:GQ_ Tryz.f148:=⟨_,by conv=>lhs;cbv⟩
theorem afz:af Tryz.prog 148 Mk.1 Tryz.f148.ntmps:=gW_ Tryz.func148 Mk.2 Tryz.call148
noncomputable def Ml:GQ_ Tryz.f157:=⟨_,by conv=>lhs;cbv⟩
theorem afA:af Tryz.prog 157 Ml.1 Tryz.f157.ntmps:=gW_ Tryz.func157 Ml.2 Tryz.call157
noncomputable def Mm:GQ_ Tryz.f181:=⟨_,by conv=>lhs;cbv⟩
theorem afB:af Tryz.prog 181 Mm.1 Tryz.f181.ntmps:=gW_ Tryz.func181 Mm.2 Tryz.call181
noncomputable def Mn:GQ_ Tryz.f201:=⟨_,by conv=>lhs;cbv⟩
theorem afC:af Tryz.prog 201 Mn.1 Tryz.f201.ntmps:=gW_ Tryz.func201 Mn.2 Tryz.call201
noncomputable def Mo:GQ_ Tryz.f207:=⟨_,by conv=>lhs;cbv⟩
theorem afD:af Tryz.prog 207 Mo.1 Tryz.f207.ntmps:=gW_ Tryz.func207 Mo.2 Tryz.call207
noncomputable def Mp:GQ_ Tryz.f213:=⟨_,by conv=>lhs;cbv⟩
theorem afE:af Tryz.prog 213 Mp.1 Tryz.f213.ntmps:=gW_ Tryz.func213 Mp.2 Tryz.call213
noncomputable def Mq:GQ_ Tryz.f220:=⟨_,by conv=>lhs;cbv⟩
theorem afF:af Tryz.prog 220 Mq.1 Tryz.f220.ntmps:=gW_ Tryz.func220 Mq.2 Tryz.call220
noncomputable def Mr:GQ_ Tryz.f250:=⟨_,by conv=>lhs;cbv⟩
theorem afG:af Tryz.prog 250 Mr.1 Tryz.f250.ntmps:=gW_ Tryz.func250 Mr.2 Tryz.call250
noncomputable def Ms:GQ_ Tryz.f256:=⟨_,by conv=>lhs;cbv⟩
theorem afH:af Tryz.prog 256 Ms.1 Tryz.f256.ntmps:=gW_ Tryz.func256 Ms.2 Tryz.call256
noncomputable def Mt:GQ_ Tryz.f262:=⟨_,by conv=>lhs;cbv⟩
theorem afI:af Tryz.prog 262 Mt.1 Tryz.f262.ntmps:=gW_ Tryz.func262 Mt.2 Tryz.call262
noncomputable def Mu:GQ_ Tryz.f278:=⟨_,by conv=>lhs;cbv⟩
theorem afJ:af Tryz.prog 278 Mu.1 Tryz.f278.ntmps:=gW_ Tryz.func278 Mu.2 Tryz.call278
noncomputable def Mv:GQ_ Tryz.f287:=⟨_,by conv=>lhs;cbv⟩
theorem afK:af Tryz.prog 287 Mv.1 Tryz.f287.ntmps:=gW_ Tryz.func287 Mv.2 Tryz.call287
noncomputable def Mw:GQ_ Tryz.f303:=⟨_,by conv=>lhs;cbv⟩
theorem afL:af Tryz.prog 303 Mw.1 Tryz.f303.ntmps:=gW_ Tryz.func303 Mw.2 Tryz.call303
noncomputable def Mx:GQ_ Tryz.f312:=⟨_,by conv=>lhs;cbv⟩
theorem afM:af Tryz.prog 312 Mx.1 Tryz.f312.ntmps:=gW_ Tryz.func312 Mx.2 Tryz.call312
noncomputable def My:GQ_ Tryz.f318:=⟨_,by conv=>lhs;cbv⟩
theorem afN:af Tryz.prog 318 My.1 Tryz.f318.ntmps:=gW_ Tryz.func318 My.2 Tryz.call318
noncomputable def Mz:GQ_ Tryz.f327:=⟨_,by conv=>lhs;cbv⟩
theorem afO:af Tryz.prog 327 Mz.1 Tryz.f327.ntmps:=gW_ Tryz.func327 Mz.2 Tryz.call327
noncomputable def MA:GQ_ Tryz.f343:=⟨_,by conv=>lhs;cbv⟩
theorem afP:af Tryz.prog 343 MA.1 Tryz.f343.ntmps:=gW_ Tryz.func343 MA.2 Tryz.call343
noncomputable def MB:GQ_ Tryz.f352:=⟨_,by conv=>lhs;cbv⟩
theorem afQ:af Tryz.prog 352 MB.1 Tryz.f352.ntmps:=gW_ Tryz.func352 MB.2 Tryz.call352
noncomputable def MC:GQ_ Tryz.f365:=⟨_,by conv=>lhs;cbv⟩
theorem afR:af Tryz.prog 365 MC.1 Tryz.f365.ntmps:=gW_ Tryz.func365 MC.2 Tryz.call365
noncomputable def MD:GQ_ Tryz.f395:=⟨_,by conv=>lhs;cbv⟩
theorem afS:af Tryz.prog 395 MD.1 Tryz.f395.ntmps:=gW_ Tryz.func395 MD.2 Tryz.call395
noncomputable def ME:GQ_ Tryz.f419:=⟨_,by conv=>lhs;cbv⟩
theorem afT:af Tryz.prog 419 ME.1 Tryz.f419.ntmps:=gW_ Tryz.func419 ME.2 Tryz.call419
end
section
set_option maxRecDepth 100000
noncomputable def SQ:GQ_ Tryz.f25:=⟨_,by conv=>lhs;cbv⟩
theorem akW:af Tryz.prog 25 SQ.1 Tryz.f25.ntmps:=gW_ Tryz.func25 SQ.2 Tryz.call25
noncomputable def SR:GQ_ Tryz.f39:=⟨_,by conv=>lhs;cbv⟩
theorem akX:af Tryz.prog 39 SR.1 Tryz.f39.ntmps:=gW_ Tryz.func39 SR.2 Tryz.call39
noncomputable def SS:GQ_ Tryz.f55:=⟨_,by conv=>lhs;cbv⟩
theorem akY:af Tryz.prog 55 SS.1 Tryz.f55.ntmps:=gW_ Tryz.func55 SS.2 Tryz.call55
noncomputable def SU:GQ_ Tryz.f71:=⟨_,by conv=>lhs;cbv⟩
theorem akZ:af Tryz.prog 71 SU.1 Tryz.f71.ntmps:=gW_ Tryz.func71 SU.2 Tryz.call71
noncomputable def SV:GQ_ Tryz.f80:=⟨_,by conv=>lhs;cbv⟩
theorem ak0:af Tryz.prog 80 SV.1 Tryz.f80.ntmps:=gW_ Tryz.func80 SV.2 Tryz.call80
noncomputable def SW:GQ_ Tryz.f90:=⟨_,by conv=>lhs;cbv⟩
theorem ak1:af Tryz.prog 90 SW.1 Tryz.f90.ntmps:=gW_ Tryz.func90 SW.2 Tryz.call90
noncomputable def SX:GQ_ Tryz.f96:=⟨_,by conv=>lhs;cbv⟩
theorem ak2:af Tryz.prog 96 SX.1 Tryz.f96.ntmps:=gW_ Tryz.func96 SX.2 Tryz.call96
noncomputable def MF:GQ_ Tryz.f132:=⟨_,by conv=>lhs;cbv⟩
theorem afU:af Tryz.prog 132 MF.1 Tryz.f132.ntmps:=gW_ Tryz.func132 MF.2 Tryz.call132
noncomputable def MG:GQ_ Tryz.f141:=⟨_,by conv=>lhs;cbv⟩
theorem afV:af Tryz.prog 141 MG.1 Tryz.f141.ntmps:=gW_ Tryz.func141 MG.2 Tryz.call141
noncomputable def MH:GQ_ Tryz.f152:=⟨_,by conv=>lhs;cbv⟩
theorem afW:af Tryz.prog 152 MH.1 Tryz.f152.ntmps:=gW_ Tryz.func152 MH.2 Tryz.call152
noncomputable def MI:GQ_ Tryz.f158:=⟨_,by conv=>lhs;cbv⟩
theorem afX:af Tryz.prog 158 MI.1 Tryz.f158.ntmps:=gW_ Tryz.func158 MI.2 Tryz.call158
noncomputable def MJ:GQ_ Tryz.f182:=⟨_,by conv=>lhs;cbv⟩
theorem afY:af Tryz.prog 182 MJ.1 Tryz.f182.ntmps:=gW_ Tryz.func182 MJ.2 Tryz.call182
noncomputable def MK:GQ_ Tryz.f202:=⟨_,by conv=>lhs;cbv⟩
theorem afZ:af Tryz.prog 202 MK.1 Tryz.f202.ntmps:=gW_ Tryz.func202 MK.2 Tryz.call202
noncomputable def ML:GQ_ Tryz.f208:=⟨_,by conv=>lhs;cbv⟩
theorem af0:af Tryz.prog 208 ML.1 Tryz.f208.ntmps:=gW_ Tryz.func208 ML.2 Tryz.call208
noncomputable def MM:GQ_ Tryz.f214:=⟨_,by conv=>lhs;cbv⟩
theorem af1:af Tryz.prog 214 MM.1 Tryz.f214.ntmps:=gW_ Tryz.func214 MM.2 Tryz.call214
noncomputable def MN:GQ_ Tryz.f221:=⟨_,by conv=>lhs;cbv⟩
theorem af2:af Tryz.prog 221 MN.1 Tryz.f221.ntmps:=gW_ Tryz.func221 MN.2 Tryz.call221
noncomputable def MO:GQ_ Tryz.f251:=⟨_,by conv=>lhs;cbv⟩
theorem af3:af Tryz.prog 251 MO.1 Tryz.f251.ntmps:=gW_ Tryz.func251 MO.2 Tryz.call251
noncomputable def MP:GQ_ Tryz.f257:=⟨_,by conv=>lhs;cbv⟩
theorem af4:af Tryz.prog 257 MP.1 Tryz.f257.ntmps:=gW_ Tryz.func257 MP.2 Tryz.call257
noncomputable def MQ:GQ_ Tryz.f263:=⟨_,by conv=>lhs;cbv⟩
theorem af5:af Tryz.prog 263 MQ.1 Tryz.f263.ntmps:=gW_ Tryz.func263 MQ.2 Tryz.call263
noncomputable def MR:GQ_ Tryz.f279:=⟨_,by conv=>lhs;cbv⟩
theorem af6:af Tryz.prog 279 MR.1 Tryz.f279.ntmps:=gW_ Tryz.func279 MR.2 Tryz.call279
noncomputable def MS:GQ_ Tryz.f288:=⟨_,by conv=>lhs;cbv⟩
theorem af7:af Tryz.prog 288 MS.1 Tryz.f288.ntmps:=gW_ Tryz.func288 MS.2 Tryz.call288
noncomputable def MT:GQ_ Tryz.f304:=⟨_,by conv=>lhs;cbv⟩
theorem af8:af Tryz.prog 304 MT.1 Tryz.f304.ntmps:=gW_ Tryz.func304 MT.2 Tryz.call304
noncomputable def MU:GQ_ Tryz.f313:=⟨_,by conv=>lhs;cbv⟩
theorem af9:af Tryz.prog 313 MU.1 Tryz.f313.ntmps:=gW_ Tryz.func313 MU.2 Tryz.call313
noncomputable def MV:GQ_ Tryz.f319:=⟨_,by conv=>lhs;cbv⟩
theorem af_:af Tryz.prog 319 MV.1 Tryz.f319.ntmps:=gW_ Tryz.func319 MV.2 Tryz.call319
noncomputable def MW:GQ_ Tryz.f328:=⟨_,by conv=>lhs;cbv⟩
theorem aga:af Tryz.prog 328 MW.1 Tryz.f328.ntmps:=gW_ Tryz.func328 MW.2 Tryz.call328
noncomputable def MX:GQ_ Tryz.f347:=⟨_,by conv=>lhs;cbv⟩
theorem agb:af Tryz.prog 347 MX.1 Tryz.f347.ntmps:=gW_ Tryz.func347 MX.2 Tryz.call347
noncomputable def MY:GQ_ Tryz.f353:=⟨_,by conv=>lhs;cbv⟩
theorem agc:af Tryz.prog 353 MY.1 Tryz.f353.ntmps:=gW_ Tryz.func353 MY.2 Tryz.call353
noncomputable def MZ:GQ_ Tryz.f366:=⟨_,by conv=>lhs;cbv⟩
theorem agd:af Tryz.prog 366 MZ.1 Tryz.f366.ntmps:=gW_ Tryz.func366 MZ.2 Tryz.call366
noncomputable def M0:GQ_ Tryz.f396:=⟨_,by conv=>lhs;cbv⟩
theorem age:af Tryz.prog 396 M0.1 Tryz.f396.ntmps:=gW_ Tryz.func396 M0.2 Tryz.call396
noncomputable def M1:GQ_ Tryz.f429:=⟨_,by conv=>lhs;cbv⟩
theorem agf:af Tryz.prog 429 M1.1 Tryz.f429.ntmps:=gW_ Tryz.func429 M1.2 Tryz.call429
end
section
set_option maxRecDepth 100000
noncomputable def SY:GQ_ Tryz.f26:=⟨_,by conv=>lhs;cbv⟩
theorem ak3:af Tryz.prog 26 SY.1 Tryz.f26.ntmps:=gW_ Tryz.func26 SY.2 Tryz.call26
noncomputable def SZ:GQ_ Tryz.f40:=⟨_,by conv=>lhs;cbv⟩
theorem ak4:af Tryz.prog 40 SZ.1 Tryz.f40.ntmps:=gW_ Tryz.func40 SZ.2 Tryz.call40
noncomputable def S0:GQ_ Tryz.f66:=⟨_,by conv=>lhs;cbv⟩
theorem ak5:af Tryz.prog 66 S0.1 Tryz.f66.ntmps:=gW_ Tryz.func66 S0.2 Tryz.call66
noncomputable def S3:GQ_ Tryz.f72:=⟨_,by conv=>lhs;cbv⟩
theorem ak6:af Tryz.prog 72 S3.1 Tryz.f72.ntmps:=gW_ Tryz.func72 S3.2 Tryz.call72
noncomputable def S4:GQ_ Tryz.f81:=⟨_,by conv=>lhs;cbv⟩
theorem ak7:af Tryz.prog 81 S4.1 Tryz.f81.ntmps:=gW_ Tryz.func81 S4.2 Tryz.call81
noncomputable def S5:GQ_ Tryz.f91:=⟨_,by conv=>lhs;cbv⟩
theorem ak8:af Tryz.prog 91 S5.1 Tryz.f91.ntmps:=gW_ Tryz.func91 S5.2 Tryz.call91
noncomputable def M3:GQ_ Tryz.f107:=⟨_,by conv=>lhs;cbv⟩
theorem agh:af Tryz.prog 107 M3.1 Tryz.f107.ntmps:=gW_ Tryz.func107 M3.2 Tryz.call107
noncomputable def M4:GQ_ Tryz.f133:=⟨_,by conv=>lhs;cbv⟩
theorem agi:af Tryz.prog 133 M4.1 Tryz.f133.ntmps:=gW_ Tryz.func133 M4.2 Tryz.call133
noncomputable def M5:GQ_ Tryz.f142:=⟨_,by conv=>lhs;cbv⟩
theorem agj:af Tryz.prog 142 M5.1 Tryz.f142.ntmps:=gW_ Tryz.func142 M5.2 Tryz.call142
noncomputable def M6:GQ_ Tryz.f153:=⟨_,by conv=>lhs;cbv⟩
theorem agk:af Tryz.prog 153 M6.1 Tryz.f153.ntmps:=gW_ Tryz.func153 M6.2 Tryz.call153
noncomputable def M7:GQ_ Tryz.f172:=⟨_,by conv=>lhs;cbv⟩
theorem agl:af Tryz.prog 172 M7.1 Tryz.f172.ntmps:=gW_ Tryz.func172 M7.2 Tryz.call172
noncomputable def M8:GQ_ Tryz.f183:=⟨_,by conv=>lhs;cbv⟩
theorem agm:af Tryz.prog 183 M8.1 Tryz.f183.ntmps:=gW_ Tryz.func183 M8.2 Tryz.call183
noncomputable def M9:GQ_ Tryz.f203:=⟨_,by conv=>lhs;cbv⟩
theorem agn:af Tryz.prog 203 M9.1 Tryz.f203.ntmps:=gW_ Tryz.func203 M9.2 Tryz.call203
noncomputable def M_:GQ_ Tryz.f209:=⟨_,by conv=>lhs;cbv⟩
theorem ago:af Tryz.prog 209 M_.1 Tryz.f209.ntmps:=gW_ Tryz.func209 M_.2 Tryz.call209
noncomputable def Na:GQ_ Tryz.f216:=⟨_,by conv=>lhs;cbv⟩
theorem agp:af Tryz.prog 216 Na.1 Tryz.f216.ntmps:=gW_ Tryz.func216 Na.2 Tryz.call216
noncomputable def Nb:GQ_ Tryz.f225:=⟨_,by conv=>lhs;cbv⟩
theorem agq:af Tryz.prog 225 Nb.1 Tryz.f225.ntmps:=gW_ Tryz.func225 Nb.2 Tryz.call225
noncomputable def Nc:GQ_ Tryz.f252:=⟨_,by conv=>lhs;cbv⟩
theorem ags:af Tryz.prog 252 Nc.1 Tryz.f252.ntmps:=gW_ Tryz.func252 Nc.2 Tryz.call252
noncomputable def Nf:GQ_ Tryz.f258:=⟨_,by conv=>lhs;cbv⟩
theorem agt:af Tryz.prog 258 Nf.1 Tryz.f258.ntmps:=gW_ Tryz.func258 Nf.2 Tryz.call258
noncomputable def Ng:GQ_ Tryz.f264:=⟨_,by conv=>lhs;cbv⟩
theorem agu:af Tryz.prog 264 Ng.1 Tryz.f264.ntmps:=gW_ Tryz.func264 Ng.2 Tryz.call264
noncomputable def Nh:GQ_ Tryz.f281:=⟨_,by conv=>lhs;cbv⟩
theorem agv:af Tryz.prog 281 Nh.1 Tryz.f281.ntmps:=gW_ Tryz.func281 Nh.2 Tryz.call281
noncomputable def Ni:GQ_ Tryz.f289:=⟨_,by conv=>lhs;cbv⟩
theorem agw:af Tryz.prog 289 Ni.1 Tryz.f289.ntmps:=gW_ Tryz.func289 Ni.2 Tryz.call289
noncomputable def Nj:GQ_ Tryz.f308:=⟨_,by conv=>lhs;cbv⟩
theorem agx:af Tryz.prog 308 Nj.1 Tryz.f308.ntmps:=gW_ Tryz.func308 Nj.2 Tryz.call308
noncomputable def Nk:GQ_ Tryz.f314:=⟨_,by conv=>lhs;cbv⟩
theorem agy:af Tryz.prog 314 Nk.1 Tryz.f314.ntmps:=gW_ Tryz.func314 Nk.2 Tryz.call314
noncomputable def Nl:GQ_ Tryz.f320:=⟨_,by conv=>lhs;cbv⟩
theorem agz:af Tryz.prog 320 Nl.1 Tryz.f320.ntmps:=gW_ Tryz.func320 Nl.2 Tryz.call320
noncomputable def Nm:GQ_ Tryz.f330:=⟨_,by conv=>lhs;cbv⟩
theorem agA:af Tryz.prog 330 Nm.1 Tryz.f330.ntmps:=gW_ Tryz.func330 Nm.2 Tryz.call330
noncomputable def Nn:GQ_ Tryz.f348:=⟨_,by conv=>lhs;cbv⟩
theorem agB:af Tryz.prog 348 Nn.1 Tryz.f348.ntmps:=gW_ Tryz.func348 Nn.2 Tryz.call348
noncomputable def No:GQ_ Tryz.f354:=⟨_,by conv=>lhs;cbv⟩
theorem agC:af Tryz.prog 354 No.1 Tryz.f354.ntmps:=gW_ Tryz.func354 No.2 Tryz.call354
noncomputable def Np:GQ_ Tryz.f388:=⟨_,by conv=>lhs;cbv⟩
theorem agD:af Tryz.prog 388 Np.1 Tryz.f388.ntmps:=gW_ Tryz.func388 Np.2 Tryz.call388
noncomputable def Nq:GQ_ Tryz.f402:=⟨_,by conv=>lhs;cbv⟩
theorem agE:af Tryz.prog 402 Nq.1 Tryz.f402.ntmps:=gW_ Tryz.func402 Nq.2 Tryz.call402
noncomputable def Nr:GQ_ Tryz.f430:=⟨_,by conv=>lhs;cbv⟩
theorem agF:af Tryz.prog 430 Nr.1 Tryz.f430.ntmps:=gW_ Tryz.func430 Nr.2 Tryz.call430
end
section
set_option maxRecDepth 100000
def AN {α:Type}(F:Nat->α->Prop):Tr α->(Nat->Nat)->Prop
 |.nil,_=>True
 |.nd l v r,p=>(∀ a,v=some a->F (p 0) a)/\AN F l (fun k=>p (2*k+1))/\AN F r (fun k=>p (2*k+2))
theorem AN.get {α:Type}{F:Nat->α->Prop}:∀ {t:Tr α}{p:Nat->Nat}{k:Nat}{a:α},AN F t p->ft t k=some a->F (p k) a
 |.nil,_,_,_,_,h=>by cases h
 |.nd l v r,p,k,a,h,hk=>by
  rw [I0] at hk
  split at hk
  ·rename_i e
   subst e
   exact h.1 a hk
  ·split at hk
   ·have:F (p (2*(k / 2)+1)) a:=AN.get (p:=fun k=>p (2*k+1)) h.2.1 hk
    rwa [show 2*(k / 2)+1=k by omega] at this
   ·have:F (p (2*(k / 2 - 1)+2)) a:=AN.get (p:=fun k=>p (2*k+2)) h.2.2 hk
    rwa [show 2*(k / 2 - 1)+2=k by omega] at this
noncomputable def xt:Tr ((QC × List QR) × Nat):=(.nd (.nd (.nd (.nd (.nd (.nd (.nd (.nd (.nd .nil (some (L6.1,Tryz.f255.ntmps)) .nil) none .nil) none (.nd (.nd .nil (some (MV.1,Tryz.f319.ntmps)) .nil) none .nil)) none (.nd (.nd (.nd .nil (some (Mv.1,Tryz.f287.ntmps)) .nil) none (.nd .nil (some (Lo.1,Tryz.f415.ntmps)) .nil)) (some (SP.1,Tryz.f95.ntmps)) (.nd (.nd .nil (some (Me.1,Tryz.f351.ntmps)) .nil) none .nil))) (some (Sn.1,Tryz.f15.ntmps)) (.nd (.nd (.nd .nil (some (K5.1,Tryz.f143.ntmps)) .nil) (some (SN.1,Tryz.f79.ntmps)) (.nd (.nd .nil (some (LL.1,Tryz.f335.ntmps)) .nil) (some (Mo.1,Tryz.f207.ntmps)) .nil)) none (.nd (.nd (.nd .nil (some (Mw.1,Tryz.f303.ntmps)) .nil) none .nil) none .nil))) none (.nd (.nd (.nd (.nd (.nd .nil (some (MQ.1,Tryz.f263.ntmps)) .nil) (some (Lr.1,Tryz.f135.ntmps)) .nil) (some (SU.1,Tryz.f71.ntmps)) (.nd (.nd .nil (some (Mz.1,Tryz.f327.ntmps)) .nil) none .nil)) (some (SR.1,Tryz.f39.ntmps)) .nil) none (.nd (.nd (.nd (.nd .nil (some (MR.1,Tryz.f279.ntmps)) .nil) none .nil) none (.nd (.nd .nil (some (MA.1,Tryz.f343.ntmps)) .nil) none .nil)) (some (SS.1,Tryz.f55.ntmps)) (.nd (.nd (.nd .nil (some (Ma.1,Tryz.f311.ntmps)) .nil) (some (M8.1,Tryz.f183.ntmps)) .nil) none .nil)))) none (.nd (.nd (.nd (.nd (.nd (.nd .nil (some (Ld.1,Tryz.f259.ntmps)) .nil) none .nil) (some (Sj.1,Tryz.f67.ntmps)) (.nd (.nd .nil (some (Lj.1,Tryz.f323.ntmps)) .nil) none .nil)) (some (SB.1,Tryz.f35.ntmps)) (.nd (.nd (.nd .nil (some (Lg.1,Tryz.f291.ntmps)) .nil) none (.nd .nil (some (ME.1,Tryz.f419.ntmps)) .nil)) none (.nd (.nd .nil (some (Lm.1,Tryz.f355.ntmps)) .nil) (some (Lb.1,Tryz.f227.ntmps)) .nil))) none (.nd (.nd (.nd (.nd .nil (some (LC.1,Tryz.f275.ntmps)) .nil) (some (LV.1,Tryz.f147.ntmps)) .nil) (some (Su.1,Tryz.f83.ntmps)) (.nd .nil (some (Lx.1,Tryz.f211.ntmps)) .nil)) none (.nd (.nd .nil (some (Lu.1,Tryz.f179.ntmps)) .nil) (some (K3.1,Tryz.f115.ntmps)) .nil))) (some (Sg.1,Tryz.f11.ntmps)) (.nd (.nd (.nd (.nd .nil none (.nd .nil (some (MD.1,Tryz.f395.ntmps)) .nil)) (some (Ss.1,Tryz.f75.ntmps)) (.nd .nil (some (M9.1,Tryz.f203.ntmps)) .nil)) none (.nd .nil (some (M3.1,Tryz.f107.ntmps)) .nil)) none (.nd (.nd (.nd (.nd .nil (some (LD.1,Tryz.f283.ntmps)) .nil) (some (Lt.1,Tryz.f155.ntmps)) .nil) (some (S5.1,Tryz.f91.ntmps)) (.nd (.nd .nil (some (MX.1,Tryz.f347.ntmps)) .nil) (some (L4.1,Tryz.f219.ntmps)) .nil)) none (.nd (.nd (.nd .nil (some (Li.1,Tryz.f315.ntmps)) .nil) none .nil) none (.nd .nil (some (MO.1,Tryz.f251.ntmps)) .nil)))))) none (.nd (.nd (.nd (.nd (.nd (.nd (.nd .nil (some (MP.1,Tryz.f257.ntmps)) .nil) none .nil) none .nil) (some (Sh.1,Tryz.f33.ntmps)) (.nd (.nd (.nd .nil (some (Ni.1,Tryz.f289.ntmps)) .nil) none (.nd .nil (some (LP.1,Tryz.f417.ntmps)) .nil)) none (.nd (.nd .nil (some (MY.1,Tryz.f353.ntmps)) .nil) (some (Nb.1,Tryz.f225.ntmps)) .nil))) none (.nd (.nd (.nd .nil (some (Ls.1,Tryz.f145.ntmps)) .nil) (some (S4.1,Tryz.f81.ntmps)) (.nd .nil (some (M_.1,Tryz.f209.ntmps)) .nil)) (some (Sq.1,Tryz.f49.ntmps)) (.nd .nil none (.nd .nil (some (L5.1,Tryz.f241.ntmps)) .nil)))) none (.nd (.nd (.nd (.nd (.nd .nil (some (Le.1,Tryz.f265.ntmps)) .nil) (some (LU.1,Tryz.f137.ntmps)) (.nd .nil (some (LO.1,Tryz.f393.ntmps)) .nil)) (some (Sk.1,Tryz.f73.ntmps)) (.nd .nil (some (Mn.1,Tryz.f201.ntmps)) .nil)) (some (Si.1,Tryz.f41.ntmps)) (.nd (.nd (.nd .nil (some (L_.1,Tryz.f297.ntmps)) .nil) none .nil) none .nil)) (some (SQ.1,Tryz.f25.ntmps)) (.nd (.nd (.nd (.nd .nil (some (Nh.1,Tryz.f281.ntmps)) .nil) (some (M6.1,Tryz.f153.ntmps)) .nil) (some (SO.1,Tryz.f89.ntmps)) (.nd .nil (some (La.1,Tryz.f217.ntmps)) .nil)) none (.nd (.nd (.nd .nil (some (MU.1,Tryz.f313.ntmps)) .nil) (some (Lv.1,Tryz.f185.ntmps)) .nil) none .nil)))) none (.nd (.nd (.nd (.nd (.nd (.nd .nil (some (L7.1,Tryz.f261.ntmps)) .nil) (some (M4.1,Tryz.f133.ntmps)) (.nd .nil (some (Ln.1,Tryz.f389.ntmps)) .nil)) (some (SD.1,Tryz.f69.ntmps)) (.nd (.nd .nil (some (Mc.1,Tryz.f325.ntmps)) .nil) none .nil)) (some (SJ.1,Tryz.f37.ntmps)) .nil) (some (SA.1,Tryz.f21.ntmps)) (.nd (.nd .nil none (.nd .nil (some (Mp.1,Tryz.f213.ntmps)) .nil)) (some (SC.1,Tryz.f53.ntmps)) (.nd (.nd (.nd .nil (some (Lh.1,Tryz.f309.ntmps)) .nil) (some (Mm.1,Tryz.f181.ntmps)) .nil) (some (LR.1,Tryz.f117.ntmps)) .nil))) none (.nd (.nd (.nd (.nd .nil (some (MG.1,Tryz.f141.ntmps)) .nil) (some (SE.1,Tryz.f77.ntmps)) (.nd .nil (some (Lw.1,Tryz.f205.ntmps)) .nil)) none (.nd (.nd .nil none (.nd .nil (some (M1.1,Tryz.f429.ntmps)) .nil)) none (.nd (.nd .nil (some (MC.1,Tryz.f365.ntmps)) .nil) none .nil))) none (.nd (.nd (.nd .nil (some (Ml.1,Tryz.f157.ntmps)) .nil) (some (Sv.1,Tryz.f93.ntmps)) (.nd (.nd .nil (some (Ll.1,Tryz.f349.ntmps)) .nil) (some (MN.1,Tryz.f221.ntmps)) .nil)) none (.nd (.nd (.nd .nil (some (Mb.1,Tryz.f317.ntmps)) .nil) none (.nd .nil (some (LQ.1,Tryz.f445.ntmps)) .nil)) none (.nd .nil (some (Lc.1,Tryz.f253.ntmps)) .nil))))))) none (.nd (.nd (.nd (.nd (.nd (.nd (.nd (.nd .nil (some (Ms.1,Tryz.f256.ntmps)) .nil) none .nil) none (.nd (.nd .nil (some (Nl.1,Tryz.f320.ntmps)) .nil) none .nil)) none (.nd (.nd (.nd .nil (some (MS.1,Tryz.f288.ntmps)) .nil) none .nil) (some (SX.1,Tryz.f96.ntmps)) (.nd (.nd .nil (some (MB.1,Tryz.f352.ntmps)) .nil) none .nil))) none (.nd (.nd .nil (some (SV.1,Tryz.f80.ntmps)) (.nd .nil (some (ML.1,Tryz.f208.ntmps)) .nil)) none (.nd (.nd (.nd .nil (some (MT.1,Tryz.f304.ntmps)) .nil) none .nil) none .nil))) none (.nd (.nd (.nd (.nd (.nd .nil (some (Ng.1,Tryz.f264.ntmps)) .nil) none .nil) (some (S3.1,Tryz.f72.ntmps)) (.nd (.nd .nil (some (MW.1,Tryz.f328.ntmps)) .nil) none .nil)) (some (SZ.1,Tryz.f40.ntmps)) (.nd (.nd (.nd .nil (some (LF.1,Tryz.f296.ntmps)) .nil) none .nil) none .nil)) none (.nd (.nd (.nd .nil (some (MH.1,Tryz.f152.ntmps)) .nil) none (.nd .nil (some (Na.1,Tryz.f216.ntmps)) .nil)) none (.nd (.nd (.nd .nil (some (Mx.1,Tryz.f312.ntmps)) .nil) (some (K8.1,Tryz.f184.ntmps)) .nil) none .nil)))) none (.nd (.nd (.nd (.nd (.nd (.nd .nil (some (LB.1,Tryz.f260.ntmps)) .nil) (some (MF.1,Tryz.f132.ntmps)) (.nd .nil (some (Np.1,Tryz.f388.ntmps)) .nil)) (some (Sr.1,Tryz.f68.ntmps)) (.nd (.nd .nil (some (LI.1,Tryz.f324.ntmps)) .nil) none .nil)) none (.nd .nil none (.nd (.nd .nil (some (LN.1,Tryz.f356.ntmps)) .nil) (some (Lz.1,Tryz.f228.ntmps)) .nil))) none (.nd (.nd (.nd (.nd .nil (some (L8.1,Tryz.f276.ntmps)) .nil) (some (Mk.1,Tryz.f148.ntmps)) .nil) (some (SF.1,Tryz.f84.ntmps)) (.nd .nil (some (L0.1,Tryz.f212.ntmps)) .nil)) none (.nd (.nd (.nd .nil (some (Nj.1,Tryz.f308.ntmps)) .nil) (some (LX.1,Tryz.f180.ntmps)) .nil) (some (Lq.1,Tryz.f116.ntmps)) .nil))) none (.nd (.nd (.nd (.nd .nil (some (Mj.1,Tryz.f140.ntmps)) (.nd .nil (some (M0.1,Tryz.f396.ntmps)) .nil)) none (.nd .nil (some (K9.1,Tryz.f204.ntmps)) .nil)) none (.nd (.nd .nil (some (M7.1,Tryz.f172.ntmps)) .nil) none .nil)) none (.nd (.nd (.nd (.nd .nil (some (L9.1,Tryz.f284.ntmps)) .nil) (some (LW.1,Tryz.f156.ntmps)) .nil) (some (Sm.1,Tryz.f92.ntmps)) (.nd (.nd .nil (some (Nn.1,Tryz.f348.ntmps)) .nil) (some (Mq.1,Tryz.f220.ntmps)) .nil)) none (.nd (.nd (.nd .nil (some (LH.1,Tryz.f316.ntmps)) .nil) none (.nd .nil (some (Lp.1,Tryz.f444.ntmps)) .nil)) none (.nd .nil (some (Nc.1,Tryz.f252.ntmps)) .nil)))))) none (.nd (.nd (.nd (.nd (.nd (.nd (.nd .nil (some (Nf.1,Tryz.f258.ntmps)) .nil) none .nil) (some (S0.1,Tryz.f66.ntmps)) .nil) (some (Sp.1,Tryz.f34.ntmps)) (.nd (.nd .nil none (.nd .nil (some (Mh.1,Tryz.f418.ntmps)) .nil)) none (.nd (.nd .nil (some (No.1,Tryz.f354.ntmps)) .nil) none .nil))) none (.nd (.nd (.nd .nil none (.nd .nil (some (Nq.1,Tryz.f402.ntmps)) .nil)) (some (Sl.1,Tryz.f82.ntmps)) (.nd .nil (some (K_.1,Tryz.f210.ntmps)) .nil)) none (.nd (.nd .nil (some (K7.1,Tryz.f178.ntmps)) .nil) none .nil))) none (.nd (.nd (.nd (.nd .nil none (.nd .nil (some (Mg.1,Tryz.f394.ntmps)) .nil)) none (.nd (.nd .nil (some (Nm.1,Tryz.f330.ntmps)) .nil) (some (MK.1,Tryz.f202.ntmps)) .nil)) none .nil) (some (SY.1,Tryz.f26.ntmps)) (.nd (.nd (.nd (.nd .nil (some (Lf.1,Tryz.f282.ntmps)) .nil) (some (K6.1,Tryz.f154.ntmps)) .nil) (some (SW.1,Tryz.f90.ntmps)) (.nd .nil (some (Ly.1,Tryz.f218.ntmps)) .nil)) none (.nd (.nd (.nd .nil (some (Nk.1,Tryz.f314.ntmps)) .nil) (some (LY.1,Tryz.f186.ntmps)) .nil) none (.nd .nil (some (Mr.1,Tryz.f250.ntmps)) .nil))))) none (.nd (.nd (.nd (.nd (.nd (.nd .nil (some (Mt.1,Tryz.f262.ntmps)) .nil) (some (K4.1,Tryz.f134.ntmps)) .nil) (some (SM.1,Tryz.f70.ntmps)) .nil) none (.nd .nil none (.nd (.nd .nil (some (Mf.1,Tryz.f358.ntmps)) .nil) none .nil))) (some (SI.1,Tryz.f22.ntmps)) (.nd (.nd (.nd (.nd .nil (some (Mu.1,Tryz.f278.ntmps)) .nil) none .nil) none (.nd (.nd .nil (some (Md.1,Tryz.f342.ntmps)) .nil) (some (MM.1,Tryz.f214.ntmps)) .nil)) (some (SL.1,Tryz.f54.ntmps)) (.nd (.nd (.nd .nil (some (LG.1,Tryz.f310.ntmps)) .nil) (some (MJ.1,Tryz.f182.ntmps)) .nil) (some (Mi.1,Tryz.f118.ntmps)) .nil))) none (.nd (.nd (.nd (.nd .nil (some (M5.1,Tryz.f142.ntmps)) .nil) none (.nd (.nd .nil (some (Lk.1,Tryz.f334.ntmps)) .nil) (some (LZ.1,Tryz.f206.ntmps)) .nil)) none (.nd (.nd .nil none (.nd .nil (some (Nr.1,Tryz.f430.ntmps)) .nil)) none (.nd (.nd .nil (some (MZ.1,Tryz.f366.ntmps)) .nil) none .nil))) none (.nd (.nd (.nd .nil (some (MI.1,Tryz.f158.ntmps)) .nil) (some (SG.1,Tryz.f94.ntmps)) (.nd (.nd .nil (some (LM.1,Tryz.f350.ntmps)) .nil) none .nil)) none (.nd (.nd (.nd .nil (some (My.1,Tryz.f318.ntmps)) .nil) none .nil) none (.nd .nil (some (LA.1,Tryz.f254.ntmps)) .nil))))))))
theorem agG:AN (fun g (c:(QC × List QR) × Nat)=>af Tryz.prog g c.1 c.2) xt id:=⟨(fun _ e=>nomatch e),⟨(fun _ e=>nomatch e),⟨(fun _ e=>nomatch e),⟨(fun _ e=>nomatch e),⟨(fun _ e=>oJ_ e ▸ akB),⟨(fun _ e=>nomatch e),⟨(fun _ e=>nomatch e),⟨(fun _ e=>nomatch e),⟨(fun _ e=>oJ_ e ▸ afk),trivial,trivial⟩,trivial⟩,⟨(fun _ e=>nomatch e),⟨(fun _ e=>oJ_ e ▸ af_),trivial,trivial⟩,trivial⟩⟩,⟨(fun _ e=>oJ_ e ▸ akV),⟨(fun _ e=>nomatch e),⟨(fun _ e=>oJ_ e ▸ afK),trivial,trivial⟩,⟨(fun _ e=>oJ_ e ▸ aeH),trivial,trivial⟩⟩,⟨(fun _ e=>nomatch e),⟨(fun _ e=>oJ_ e ▸ aft),trivial,trivial⟩,trivial⟩⟩⟩,⟨(fun _ e=>nomatch e),⟨(fun _ e=>oJ_ e ▸ akT),⟨(fun _ e=>oJ_ e ▸ aen),trivial,trivial⟩,⟨(fun _ e=>oJ_ e ▸ afD),⟨(fun _ e=>oJ_ e ▸ ae1),trivial,trivial⟩,trivial⟩⟩,⟨(fun _ e=>nomatch e),⟨(fun _ e=>nomatch e),⟨(fun _ e=>oJ_ e ▸ afL),trivial,trivial⟩,trivial⟩,trivial⟩⟩⟩,⟨(fun _ e=>nomatch e),⟨(fun _ e=>oJ_ e ▸ akX),⟨(fun _ e=>oJ_ e ▸ akZ),⟨(fun _ e=>oJ_ e ▸ aeK),⟨(fun _ e=>oJ_ e ▸ af5),trivial,trivial⟩,trivial⟩,⟨(fun _ e=>nomatch e),⟨(fun _ e=>oJ_ e ▸ afO),trivial,trivial⟩,trivial⟩⟩,trivial⟩,⟨(fun _ e=>oJ_ e ▸ akY),⟨(fun _ e=>nomatch e),⟨(fun _ e=>nomatch e),⟨(fun _ e=>oJ_ e ▸ af6),trivial,trivial⟩,trivial⟩,⟨(fun _ e=>nomatch e),⟨(fun _ e=>oJ_ e ▸ afP),trivial,trivial⟩,trivial⟩⟩,⟨(fun _ e=>nomatch e),⟨(fun _ e=>oJ_ e ▸ agm),⟨(fun _ e=>oJ_ e ▸ afp),trivial,trivial⟩,trivial⟩,trivial⟩⟩⟩⟩,⟨(fun _ e=>oJ_ e ▸ aku),⟨(fun _ e=>nomatch e),⟨(fun _ e=>oJ_ e ▸ akJ),⟨(fun _ e=>oJ_ e ▸ akx),⟨(fun _ e=>nomatch e),⟨(fun _ e=>oJ_ e ▸ aew),trivial,trivial⟩,trivial⟩,⟨(fun _ e=>nomatch e),⟨(fun _ e=>oJ_ e ▸ aeC),trivial,trivial⟩,trivial⟩⟩,⟨(fun _ e=>nomatch e),⟨(fun _ e=>nomatch e),⟨(fun _ e=>oJ_ e ▸ aez),trivial,trivial⟩,⟨(fun _ e=>oJ_ e ▸ afT),trivial,trivial⟩⟩,⟨(fun _ e=>oJ_ e ▸ aeu),⟨(fun _ e=>oJ_ e ▸ aeF),trivial,trivial⟩,trivial⟩⟩⟩,⟨(fun _ e=>nomatch e),⟨(fun _ e=>oJ_ e ▸ akG),⟨(fun _ e=>oJ_ e ▸ afc),⟨(fun _ e=>oJ_ e ▸ aeV),trivial,trivial⟩,trivial⟩,⟨(fun _ e=>oJ_ e ▸ aeQ),trivial,trivial⟩⟩,⟨(fun _ e=>oJ_ e ▸ ael),⟨(fun _ e=>oJ_ e ▸ aeN),trivial,trivial⟩,trivial⟩⟩⟩,⟨(fun _ e=>nomatch e),⟨(fun _ e=>nomatch e),⟨(fun _ e=>oJ_ e ▸ akF),⟨(fun _ e=>nomatch e),trivial,⟨(fun _ e=>oJ_ e ▸ afS),trivial,trivial⟩⟩,⟨(fun _ e=>oJ_ e ▸ agn),trivial,trivial⟩⟩,⟨(fun _ e=>oJ_ e ▸ agh),trivial,trivial⟩⟩,⟨(fun _ e=>nomatch e),⟨(fun _ e=>oJ_ e ▸ ak8),⟨(fun _ e=>oJ_ e ▸ aeM),⟨(fun _ e=>oJ_ e ▸ aeW),trivial,trivial⟩,trivial⟩,⟨(fun _ e=>oJ_ e ▸ afi),⟨(fun _ e=>oJ_ e ▸ agb),trivial,trivial⟩,trivial⟩⟩,⟨(fun _ e=>nomatch e),⟨(fun _ e=>nomatch e),⟨(fun _ e=>oJ_ e ▸ aeB),trivial,trivial⟩,trivial⟩,⟨(fun _ e=>oJ_ e ▸ af3),trivial,trivial⟩⟩⟩⟩⟩⟩,⟨(fun _ e=>nomatch e),⟨(fun _ e=>nomatch e),⟨(fun _ e=>nomatch e),⟨(fun _ e=>oJ_ e ▸ akv),⟨(fun _ e=>nomatch e),⟨(fun _ e=>nomatch e),⟨(fun _ e=>oJ_ e ▸ af4),trivial,trivial⟩,trivial⟩,trivial⟩,⟨(fun _ e=>nomatch e),⟨(fun _ e=>nomatch e),⟨(fun _ e=>oJ_ e ▸ agw),trivial,trivial⟩,⟨(fun _ e=>oJ_ e ▸ ae5),trivial,trivial⟩⟩,⟨(fun _ e=>oJ_ e ▸ agq),⟨(fun _ e=>oJ_ e ▸ agc),trivial,trivial⟩,trivial⟩⟩⟩,⟨(fun _ e=>oJ_ e ▸ akD),⟨(fun _ e=>oJ_ e ▸ ak7),⟨(fun _ e=>oJ_ e ▸ aeL),trivial,trivial⟩,⟨(fun _ e=>oJ_ e ▸ ago),trivial,trivial⟩⟩,⟨(fun _ e=>nomatch e),trivial,⟨(fun _ e=>oJ_ e ▸ afj),trivial,trivial⟩⟩⟩⟩,⟨(fun _ e=>oJ_ e ▸ akW),⟨(fun _ e=>oJ_ e ▸ akw),⟨(fun _ e=>oJ_ e ▸ aky),⟨(fun _ e=>oJ_ e ▸ afb),⟨(fun _ e=>oJ_ e ▸ aex),trivial,trivial⟩,⟨(fun _ e=>oJ_ e ▸ ae4),trivial,trivial⟩⟩,⟨(fun _ e=>oJ_ e ▸ afC),trivial,trivial⟩⟩,⟨(fun _ e=>nomatch e),⟨(fun _ e=>nomatch e),⟨(fun _ e=>oJ_ e ▸ afo),trivial,trivial⟩,trivial⟩,trivial⟩⟩,⟨(fun _ e=>nomatch e),⟨(fun _ e=>oJ_ e ▸ akU),⟨(fun _ e=>oJ_ e ▸ agk),⟨(fun _ e=>oJ_ e ▸ agv),trivial,trivial⟩,trivial⟩,⟨(fun _ e=>oJ_ e ▸ aet),trivial,trivial⟩⟩,⟨(fun _ e=>nomatch e),⟨(fun _ e=>oJ_ e ▸ aeO),⟨(fun _ e=>oJ_ e ▸ af9),trivial,trivial⟩,trivial⟩,trivial⟩⟩⟩⟩,⟨(fun _ e=>nomatch e),⟨(fun _ e=>oJ_ e ▸ akI),⟨(fun _ e=>oJ_ e ▸ akQ),⟨(fun _ e=>oJ_ e ▸ akL),⟨(fun _ e=>oJ_ e ▸ agi),⟨(fun _ e=>oJ_ e ▸ afl),trivial,trivial⟩,⟨(fun _ e=>oJ_ e ▸ aeG),trivial,trivial⟩⟩,⟨(fun _ e=>nomatch e),⟨(fun _ e=>oJ_ e ▸ afr),trivial,trivial⟩,trivial⟩⟩,trivial⟩,⟨(fun _ e=>oJ_ e ▸ akK),⟨(fun _ e=>nomatch e),trivial,⟨(fun _ e=>oJ_ e ▸ afE),trivial,trivial⟩⟩,⟨(fun _ e=>oJ_ e ▸ afa),⟨(fun _ e=>oJ_ e ▸ afB),⟨(fun _ e=>oJ_ e ▸ aeA),trivial,trivial⟩,trivial⟩,trivial⟩⟩⟩,⟨(fun _ e=>nomatch e),⟨(fun _ e=>nomatch e),⟨(fun _ e=>oJ_ e ▸ akM),⟨(fun _ e=>oJ_ e ▸ afV),trivial,trivial⟩,⟨(fun _ e=>oJ_ e ▸ aeP),trivial,trivial⟩⟩,⟨(fun _ e=>nomatch e),⟨(fun _ e=>nomatch e),trivial,⟨(fun _ e=>oJ_ e ▸ agf),trivial,trivial⟩⟩,⟨(fun _ e=>nomatch e),⟨(fun _ e=>oJ_ e ▸ afR),trivial,trivial⟩,trivial⟩⟩⟩,⟨(fun _ e=>nomatch e),⟨(fun _ e=>oJ_ e ▸ akH),⟨(fun _ e=>oJ_ e ▸ afA),trivial,trivial⟩,⟨(fun _ e=>oJ_ e ▸ af2),⟨(fun _ e=>oJ_ e ▸ aeE),trivial,trivial⟩,trivial⟩⟩,⟨(fun _ e=>nomatch e),⟨(fun _ e=>nomatch e),⟨(fun _ e=>oJ_ e ▸ afq),trivial,trivial⟩,⟨(fun _ e=>oJ_ e ▸ ae6),trivial,trivial⟩⟩,⟨(fun _ e=>oJ_ e ▸ aev),trivial,trivial⟩⟩⟩⟩⟩⟩⟩,⟨(fun _ e=>nomatch e),⟨(fun _ e=>nomatch e),⟨(fun _ e=>nomatch e),⟨(fun _ e=>nomatch e),⟨(fun _ e=>nomatch e),⟨(fun _ e=>nomatch e),⟨(fun _ e=>nomatch e),⟨(fun _ e=>oJ_ e ▸ afH),trivial,trivial⟩,trivial⟩,⟨(fun _ e=>nomatch e),⟨(fun _ e=>oJ_ e ▸ agz),trivial,trivial⟩,trivial⟩⟩,⟨(fun _ e=>oJ_ e ▸ ak2),⟨(fun _ e=>nomatch e),⟨(fun _ e=>oJ_ e ▸ af7),trivial,trivial⟩,trivial⟩,⟨(fun _ e=>nomatch e),⟨(fun _ e=>oJ_ e ▸ afQ),trivial,trivial⟩,trivial⟩⟩⟩,⟨(fun _ e=>nomatch e),⟨(fun _ e=>oJ_ e ▸ ak0),trivial,⟨(fun _ e=>oJ_ e ▸ af0),trivial,trivial⟩⟩,⟨(fun _ e=>nomatch e),⟨(fun _ e=>nomatch e),⟨(fun _ e=>oJ_ e ▸ af8),trivial,trivial⟩,trivial⟩,trivial⟩⟩⟩,⟨(fun _ e=>nomatch e),⟨(fun _ e=>oJ_ e ▸ ak4),⟨(fun _ e=>oJ_ e ▸ ak6),⟨(fun _ e=>nomatch e),⟨(fun _ e=>oJ_ e ▸ agu),trivial,trivial⟩,trivial⟩,⟨(fun _ e=>nomatch e),⟨(fun _ e=>oJ_ e ▸ aga),trivial,trivial⟩,trivial⟩⟩,⟨(fun _ e=>nomatch e),⟨(fun _ e=>nomatch e),⟨(fun _ e=>oJ_ e ▸ aeX),trivial,trivial⟩,trivial⟩,trivial⟩⟩,⟨(fun _ e=>nomatch e),⟨(fun _ e=>nomatch e),⟨(fun _ e=>oJ_ e ▸ afW),trivial,trivial⟩,⟨(fun _ e=>oJ_ e ▸ agp),trivial,trivial⟩⟩,⟨(fun _ e=>nomatch e),⟨(fun _ e=>oJ_ e ▸ aeq),⟨(fun _ e=>oJ_ e ▸ afM),trivial,trivial⟩,trivial⟩,trivial⟩⟩⟩⟩,⟨(fun _ e=>nomatch e),⟨(fun _ e=>nomatch e),⟨(fun _ e=>nomatch e),⟨(fun _ e=>oJ_ e ▸ akE),⟨(fun _ e=>oJ_ e ▸ afU),⟨(fun _ e=>oJ_ e ▸ aeU),trivial,trivial⟩,⟨(fun _ e=>oJ_ e ▸ agD),trivial,trivial⟩⟩,⟨(fun _ e=>nomatch e),⟨(fun _ e=>oJ_ e ▸ ae0),trivial,trivial⟩,trivial⟩⟩,⟨(fun _ e=>nomatch e),trivial,⟨(fun _ e=>oJ_ e ▸ aeS),⟨(fun _ e=>oJ_ e ▸ ae3),trivial,trivial⟩,trivial⟩⟩⟩,⟨(fun _ e=>nomatch e),⟨(fun _ e=>oJ_ e ▸ akN),⟨(fun _ e=>oJ_ e ▸ afz),⟨(fun _ e=>oJ_ e ▸ afm),trivial,trivial⟩,trivial⟩,⟨(fun _ e=>oJ_ e ▸ afh),trivial,trivial⟩⟩,⟨(fun _ e=>oJ_ e ▸ aeJ),⟨(fun _ e=>oJ_ e ▸ afe),⟨(fun _ e=>oJ_ e ▸ agx),trivial,trivial⟩,trivial⟩,trivial⟩⟩⟩,⟨(fun _ e=>nomatch e),⟨(fun _ e=>nomatch e),⟨(fun _ e=>nomatch e),⟨(fun _ e=>oJ_ e ▸ afy),trivial,⟨(fun _ e=>oJ_ e ▸ age),trivial,trivial⟩⟩,⟨(fun _ e=>oJ_ e ▸ aer),trivial,trivial⟩⟩,⟨(fun _ e=>nomatch e),⟨(fun _ e=>oJ_ e ▸ agl),trivial,trivial⟩,trivial⟩⟩,⟨(fun _ e=>nomatch e),⟨(fun _ e=>oJ_ e ▸ akA),⟨(fun _ e=>oJ_ e ▸ afd),⟨(fun _ e=>oJ_ e ▸ afn),trivial,trivial⟩,trivial⟩,⟨(fun _ e=>oJ_ e ▸ afF),⟨(fun _ e=>oJ_ e ▸ agB),trivial,trivial⟩,trivial⟩⟩,⟨(fun _ e=>nomatch e),⟨(fun _ e=>nomatch e),⟨(fun _ e=>oJ_ e ▸ aeZ),trivial,trivial⟩,⟨(fun _ e=>oJ_ e ▸ aeI),trivial,trivial⟩⟩,⟨(fun _ e=>oJ_ e ▸ ags),trivial,trivial⟩⟩⟩⟩⟩⟩,⟨(fun _ e=>nomatch e),⟨(fun _ e=>nomatch e),⟨(fun _ e=>nomatch e),⟨(fun _ e=>oJ_ e ▸ akC),⟨(fun _ e=>oJ_ e ▸ ak5),⟨(fun _ e=>nomatch e),⟨(fun _ e=>oJ_ e ▸ agt),trivial,trivial⟩,trivial⟩,trivial⟩,⟨(fun _ e=>nomatch e),⟨(fun _ e=>nomatch e),trivial,⟨(fun _ e=>oJ_ e ▸ afw),trivial,trivial⟩⟩,⟨(fun _ e=>nomatch e),⟨(fun _ e=>oJ_ e ▸ agC),trivial,trivial⟩,trivial⟩⟩⟩,⟨(fun _ e=>nomatch e),⟨(fun _ e=>oJ_ e ▸ akz),⟨(fun _ e=>nomatch e),trivial,⟨(fun _ e=>oJ_ e ▸ agE),trivial,trivial⟩⟩,⟨(fun _ e=>oJ_ e ▸ aes),trivial,trivial⟩⟩,⟨(fun _ e=>nomatch e),⟨(fun _ e=>oJ_ e ▸ aep),trivial,trivial⟩,trivial⟩⟩⟩,⟨(fun _ e=>oJ_ e ▸ ak3),⟨(fun _ e=>nomatch e),⟨(fun _ e=>nomatch e),⟨(fun _ e=>nomatch e),trivial,⟨(fun _ e=>oJ_ e ▸ afv),trivial,trivial⟩⟩,⟨(fun _ e=>oJ_ e ▸ afZ),⟨(fun _ e=>oJ_ e ▸ agA),trivial,trivial⟩,trivial⟩⟩,trivial⟩,⟨(fun _ e=>nomatch e),⟨(fun _ e=>oJ_ e ▸ ak1),⟨(fun _ e=>oJ_ e ▸ aeo),⟨(fun _ e=>oJ_ e ▸ aey),trivial,trivial⟩,trivial⟩,⟨(fun _ e=>oJ_ e ▸ aeR),trivial,trivial⟩⟩,⟨(fun _ e=>nomatch e),⟨(fun _ e=>oJ_ e ▸ aff),⟨(fun _ e=>oJ_ e ▸ agy),trivial,trivial⟩,trivial⟩,⟨(fun _ e=>oJ_ e ▸ afG),trivial,trivial⟩⟩⟩⟩⟩,⟨(fun _ e=>nomatch e),⟨(fun _ e=>oJ_ e ▸ akP),⟨(fun _ e=>nomatch e),⟨(fun _ e=>oJ_ e ▸ akS),⟨(fun _ e=>oJ_ e ▸ aem),⟨(fun _ e=>oJ_ e ▸ afI),trivial,trivial⟩,trivial⟩,trivial⟩,⟨(fun _ e=>nomatch e),trivial,⟨(fun _ e=>nomatch e),⟨(fun _ e=>oJ_ e ▸ afu),trivial,trivial⟩,trivial⟩⟩⟩,⟨(fun _ e=>oJ_ e ▸ akR),⟨(fun _ e=>nomatch e),⟨(fun _ e=>nomatch e),⟨(fun _ e=>oJ_ e ▸ afJ),trivial,trivial⟩,trivial⟩,⟨(fun _ e=>oJ_ e ▸ af1),⟨(fun _ e=>oJ_ e ▸ afs),trivial,trivial⟩,trivial⟩⟩,⟨(fun _ e=>oJ_ e ▸ afx),⟨(fun _ e=>oJ_ e ▸ afY),⟨(fun _ e=>oJ_ e ▸ aeY),trivial,trivial⟩,trivial⟩,trivial⟩⟩⟩,⟨(fun _ e=>nomatch e),⟨(fun _ e=>nomatch e),⟨(fun _ e=>nomatch e),⟨(fun _ e=>oJ_ e ▸ agj),trivial,trivial⟩,⟨(fun _ e=>oJ_ e ▸ afg),⟨(fun _ e=>oJ_ e ▸ aeD),trivial,trivial⟩,trivial⟩⟩,⟨(fun _ e=>nomatch e),⟨(fun _ e=>nomatch e),trivial,⟨(fun _ e=>oJ_ e ▸ agF),trivial,trivial⟩⟩,⟨(fun _ e=>nomatch e),⟨(fun _ e=>oJ_ e ▸ agd),trivial,trivial⟩,trivial⟩⟩⟩,⟨(fun _ e=>nomatch e),⟨(fun _ e=>oJ_ e ▸ akO),⟨(fun _ e=>oJ_ e ▸ afX),trivial,trivial⟩,⟨(fun _ e=>nomatch e),⟨(fun _ e=>oJ_ e ▸ ae2),trivial,trivial⟩,trivial⟩⟩,⟨(fun _ e=>nomatch e),⟨(fun _ e=>nomatch e),⟨(fun _ e=>oJ_ e ▸ afN),trivial,trivial⟩,trivial⟩,⟨(fun _ e=>oJ_ e ▸ aeT),trivial,trivial⟩⟩⟩⟩⟩⟩⟩⟩
theorem PK {g:Nat}{c:QC × List QR}{n:Nat}(h:ft xt g=some (c,n)):af Tryz.prog g c n:=agG.get h
end
end Go.Proofs.YtgjfgekaclobaaaGreat
