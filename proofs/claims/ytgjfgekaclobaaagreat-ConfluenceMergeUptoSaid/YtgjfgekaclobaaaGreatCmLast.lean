/- ConfluenceMerge holds (its Upto form): for every input whose bulk is at most 1048576 the call returns true, and the input reads afterwards as before. -/
import Derived.Test.YtgjfgekaclobaaaGreatCm53
namespace Go.Proofs.YtgjfgekaclobaaaGreat
set_option linter.unusedVariables false
set_option linter.unusedSimpArgs false
open Go.RowKit
section
namespace ConfluenceMerge
set_option maxRecDepth 100000
open Go.ChangeShapes Go.WideShapes Go.ChangeAt Go.RowKit
theorem k0:(Rows.confluenceMergeUptoRow.wf (OpenSpec.ofChange (Rows.OpenSpec.upto Rows.confluenceMergeSpec).bare))=true:=by kernel_rfl
theorem k3:(Tryz.f6.params.all (Tryz.prog.readableRec ·))=true:=by kernel_rfl
theorem k4:(namedTie Tryz.prog Rows.confluenceMergeUptoRow.named (Rows.OpenSpec.upto Rows.confluenceMergeSpec).bare.vars)=true:=by kernel_rfl
theorem k5:((Rows.confluenceMergeUptoRow.stops == []))=true:=by kernel_rfl
theorem k6:((Tryz.prog.stops == []))=true:=by kernel_rfl
theorem k7:((Rows.confluenceMergeUptoRow.knobs == []))=true:=by kernel_rfl
theorem k8:((Tryz.prog.stopKnobs == []))=true:=by kernel_rfl
theorem k9:((Rows.confluenceMergeUptoRow.inPlace == Tryz.prog.inPlace 6))=true:=by kernel_rfl
theorem k10:((Rows.confluenceMergeUptoRow.unfollowed == Tryz.prog.unfollowed 6))=true:=by kernel_rfl
theorem k11:((Rows.confluenceMergeUptoRow.recurses == Tryz.prog.recurses 6))=true:=by kernel_rfl
theorem k12:((Rows.confluenceMergeUptoRow.named == Tryz.prog.varsNamed 6))=true:=by kernel_rfl
theorem k13:((Rows.confluenceMergeUptoRow.maps == (Tryz.f6.params.toList++(Rows.OpenSpec.upto Rows.confluenceMergeSpec).bare.plain.varTypes Tryz.prog).any (Tryz.prog.mapsRec ·)))=true:=by kernel_rfl
theorem k14:((Rows.confluenceMergeUptoRow.ifaces == (Tryz.f6.params.toList++(Rows.OpenSpec.upto Rows.confluenceMergeSpec).bare.plain.varTypes Tryz.prog).any (Tryz.prog.ifacesRec ·)))=true:=by kernel_rfl
theorem k15:((Rows.confluenceMergeUptoRow.mapsOut == Tryz.prog.mapsAmong Tryz.f6.resultTypes.toList))=true:=by kernel_rfl
theorem k16:((Rows.confluenceMergeUptoRow.loops == (Tryz.f6.params.toList++(Rows.OpenSpec.upto Rows.confluenceMergeSpec).bare.plain.varTypes Tryz.prog).any (Tryz.prog.loopsFrom ·)))=true:=by kernel_rfl
theorem k17:((Rows.confluenceMergeUptoRow.wideKeys == (Tryz.f6.params.toList++(Rows.OpenSpec.upto Rows.confluenceMergeSpec).bare.plain.varTypes Tryz.prog++Tryz.f6.resultTypes.toList).any (Tryz.prog.wideKeysFrom ·)))=true:=by kernel_rfl
theorem k18:((Rows.OpenSpec.upto Rows.confluenceMergeSpec).bare.vars.all (Tryz.prog.varReadable ·))=true:=by kernel_rfl
theorem k19:(Tryz.f6.resultTypes.all (fun t=>Tryz.prog.readableRec t && decide (t < Tryz.prog.types.size)))=true:=by kernel_rfl
theorem k20:((Rows.confluenceMergeUptoRow.ifacesOut == Tryz.f6.resultTypes.toList.any (Tryz.prog.ifacesRec ·)))=true:=by kernel_rfl
theorem k21:((Rows.confluenceMergeUptoRow.loopsOut == Tryz.f6.resultTypes.toList.any (Tryz.prog.loopsFrom ·)))=true:=by kernel_rfl
theorem k22:((Rows.confluenceMergeUptoRow.plainKeys == Tryz.prog.plainKeys))=true:=by kernel_rfl
theorem k23:(Rows.confluenceMergeUptoRow.shortTexts.isNone)=true:=by kernel_rfl
theorem k26:((Rows.confluenceMergeUptoRow.lifted == Tryz.prog.liftsFinal))=true:=by kernel_rfl
theorem k27:((Tryz.prog.make == some Rows.confluenceMergeUptoRow.make))=true:=by kernel_rfl
theorem k28:((Rows.confluenceMergeUptoRow.kinds == (if Rows.confluenceMergeUptoRow.domain.isEmpty then [] else Tryz.f6.params.toList.map fun t=>match Tryz.prog.underlying t with|some (.int k)=>some k|_=>none)))=true:=by kernel_rfl
theorem k29:((Rows.confluenceMergeUptoRow.pinned == Rows.confluenceMergeUptoRow.pinnedBy))=true:=by kernel_rfl
theorem k30:((Rows.confluenceMergeUptoRow.veiled == (Tryz.f6.params.toList++(Rows.OpenSpec.upto Rows.confluenceMergeSpec).bare.plain.varTypes Tryz.prog++Tryz.f6.resultTypes.toList).any (Tryz.prog.veiledRec ·)))=true:=by kernel_rfl
theorem k31:(Rows.confluenceMergeUptoRow.veiledFits Tryz.prog Tryz.f6.params.toList (Tryz.f6.params.toList++(Rows.OpenSpec.upto Rows.confluenceMergeSpec).bare.plain.varTypes Tryz.prog++Tryz.f6.resultTypes.toList))=true:=by kernel_rfl
end ConfluenceMerge
end
section
set_option maxRecDepth 100000
def Ng:AV:=.sl true [[ix 1,ix 0,sx [],.sl true []]]
def IM:AV:=.agg [ix 3,ix 0,ix 0,.sl false [[ix 1]]]
def IN:AV:=.agg [ix 3,ix 0,ix 1,.sl false [[ix 1]]]
def zj:AV:=.sl false [[ix 2,ix 0,ix 0,.sl false []]]
def Nh:AV:=.sl false [[ix 1,ix 1,sx [],.sl false []]]
def ux:AV:=.sl false [[ix 1,ix 0,sx [],.sl false []]]
def Ue:AV:=.sl false [[ix 0,ix 1,ix 0,sx [],.sl false []]]
def IP:AV:=.sl true [[sx [112],ix 1],[sx [113],ix 1],[sx [114],ix 1]]
def Uf:AV:=.sl false [[sx [112],ix 1],[sx [113],ix 1],[sx [114],ix 1]]
def uy:AV:=.sl true [[sx [112],Ng]]
def va:AV:=.sl false [[sx [112],Nh]]
def vc:AV:=.sl false [[sx [112],ux]]
def Pa:AV:=.sl false [[sx [113],ux]]
def Pb:AV:=.sl false [[sx [114],ux]]
def vd:AV:=.sl true [[ix 0,sx [113],Ng]]
def Pc:AV:=.sl true [[ix 0,sx [114],Ng]]
def Pd:AV:=.sl false [[ix 0,sx [113],Nh]]
def Pe:AV:=.sl false [[ix 0,sx [114],Nh]]
def yr:AV:=.sl false [[ix 1,sx [112],ux]]
def AQ:AV:=.sl false [[ix 0,sx [113],ux]]
def Pf:AV:=.sl false [[ix 0,sx [114],ux]]
def Ph:AV:=.sl false [[ix 2,sx [113],ux]]
def Pj:AV:=.sl false [[ix 2,sx [114],ux]]
def AR:AV:=.sl false [[ix 1,ix 0,sx [],.sl false []],[ix 1,ix 1,sx [],.sl false []]]
def Pk:AV:=.agg [ix 0,.sl false [[ix 1]],Ue]
def Pl:AV:=.agg [ix 1,.sl false [[ix 1]],Ue]
def nf:AV:=.agg [.sl false [],yr,.sl false [],.sl false [],.sl false [],ix 2,ix 2,bx false]
def fb:AV:=.agg [AQ,.sl false [],.sl false [],.sl false [],.sl false [],ix 2,ix 3,bx false]
def ng:AV:=.agg [Pf,.sl false [],.sl false [],.sl false [],.sl false [],ix 2,ix 3,bx false]
def nh:AV:=.agg [.sl false [],Ph,.sl false [],.sl false [],.sl false [],ix 3,ix 3,bx false]
def ve:AV:=.agg [.sl false [],Pj,.sl false [],.sl false [],.sl false [],ix 3,ix 3,bx false]
def Pm:AV:=.sl false [[bx false,AR,Pa]]
def Pn:AV:=.agg [ix 0,ix 1,.sl true [],yr,.sl true [],.sl true [],.sl true [],ix 2,ix 2,bx false,.sl false [[ix 0]],.sl false [[ix 0]]]
def yt:AV:=.agg [ix 0,ix 1,.sl false [],yr,.sl false [],.sl false [],.sl false [],ix 2,ix 2,bx false,.sl false [[ix 0]],.sl false [[ix 0]]]
def vf:AV:=.sl false [[ix 0,ix 1,.sl false [],yr,.sl false [],.sl false [],.sl false [],ix 2,ix 2,bx false,.sl false [[ix 0]],.sl false [[ix 0]]]]
def Po:AV:=.sl true [[sx [],.sl true [],uy,.sl true [],vd,ix 1],[sx [],.sl true [],uy,.sl true [],Pc,ix 1]]
def Pp:AV:=.sl true [[sx [],.sl true [],uy,.sl true [],vd,ix 1],[sx [],.sl true [],uy,.sl true [],vd,ix 1]]
def XP:AV:=.sl false [[sx [],.sl false [],vc,.sl false [],AQ,ix 1],[sx [],.sl false [],vc,.sl false [],Pf,ix 1]]
def XQ:AV:=.sl false [[sx [],.sl false [],vc,.sl false [],AQ,ix 1],[sx [],.sl false [],vc,.sl false [],AQ,ix 1]]
def dE:AV:=.agg [IP,Po]
def fH:AV:=.agg [IP,Pp]
def sj:AV:=.agg [Uf,XP]
def AS:AV:=.agg [Uf,XQ]
def Ug:List Fa:=[]
def Uh:List Fa:=(66,[dE],.aC [ix 0,ix 0])::Ug
def Ui:List Fa:=(250,[.agg [sx [],.sl true [],uy,.sl true [],vd,ix 1],ix 1],.agg [sx [],.sl false [],va,.sl false [],Pd,ix 1])::Uh
def Uj:List Fa:=(179,[dE,ix 0,ix 0],.aC [.sl true [],ix 0])::Ui
def Uk:List Fa:=(250,[.agg [sx [],.sl true [],uy,.sl true [],Pc,ix 1],ix 1],.agg [sx [],.sl false [],va,.sl false [],Pe,ix 1])::Uj
def Ul:List Fa:=(253,[.agg [IP,Po,ix 0,ix 1,sx [],.sl true [],uy,.sl true [],vd,ix 1,sx [],.sl false [],va,.sl false [],Pe,ix 1,vc,va],.sl false [[ix 0]]],.aC [Pn,bx true,ix 0])::Uk
def Um:List Fa:=(179,[dE,ix 0,ix 1],.aC [vf,ix 0])::Ul
def Un:List Fa:=(179,[dE,ix 1,ix 1],.aC [.sl true [],ix 0])::Um
def Uo:List Fa:=(117,[dE],.aC [vf,ix 0])::Un
def Up:List Fa:=(67,[yr],bx true)::Uo
def Pq:List Fa:=(33,[dE,nf],bx true)::Up
def Pr:List Fa:=(40,[dE,nf,IM],.aC [Pk,bx true])::Pq
def Ps:List Fa:=(15,[dE,nf,IM],.aC [fb,ix 0])::Pr
def Pt:List Fa:=(40,[dE,nf,IN],.aC [Pl,bx true])::Ps
def Pu:List Fa:=(15,[dE,nf,IN],.aC [ng,ix 0])::Pt
def Pv:List Fa:=(180,[dE,yt],.aC [fb,ng,ix 0])::Pu
def Pw:List Fa:=(67,[.sl false []],bx true)::Pv
def Px:List Fa:=(33,[dE,fb],bx true)::Pw
def Py:List Fa:=(66,[sj],.aC [ix 0,ix 0])::Px
def Pz:List Fa:=(33,[sj,fb],bx true)::Py
def PA:List Fa:=(11,[sj,fb],zj)::Pz
def PB:List Fa:=(15,[sj,fb,.agg [ix 2,ix 0,ix 0,.sl false []]],.aC [nh,ix 0])::PA
def PC:List Fa:=(353,[fb,nh],bx false)::PB
def PD:List Fa:=(11,[dE,fb],zj)::PC
def PE:List Fa:=(15,[dE,fb,.agg [ix 2,ix 0,ix 0,.sl false []]],.aC [nh,ix 0])::PD
def PF:List Fa:=(67,[Ph],bx true)::PE
def PG:List Fa:=(33,[dE,nh],bx true)::PF
def PH:List Fa:=(11,[dE,nh],.sl true [])::PG
def PI:List Fa:=(258,[ix 2,nh],.aC [.agg [bx false,AR,Pa],ix 0])::PH
def PJ:List Fa:=(181,[dE,fb,ix 2,ix 10],.aC [Pm,ix 0])::PI
def PK:List Fa:=(33,[dE,ng],bx true)::PJ
def PL:List Fa:=(33,[sj,ng],bx true)::PK
def PM:List Fa:=(11,[sj,ng],zj)::PL
def PN:List Fa:=(15,[sj,ng,.agg [ix 2,ix 0,ix 0,.sl false []]],.aC [ve,ix 0])::PM
def PO:List Fa:=(353,[ng,ve],bx false)::PN
def PQ:List Fa:=(11,[dE,ng],zj)::PO
def PR:List Fa:=(15,[dE,ng,.agg [ix 2,ix 0,ix 0,.sl false []]],.aC [ve,ix 0])::PQ
def PT:List Fa:=(67,[Pj],bx true)::PR
def PU:List Fa:=(33,[dE,ve],bx true)::PT
def PV:List Fa:=(11,[dE,ve],.sl true [])::PU
def PW:List Fa:=(258,[ix 2,ve],.aC [.agg [bx false,AR,Pb],ix 0])::PV
def PX:List Fa:=(181,[dE,ng,ix 2,ix 10],.aC [.sl false [[bx false,AR,Pb]],ix 0])::PW
def PY:List Fa:=(118,[dE,yt,ix 10],ix 2)::PX
def PZ:List Fa:=(55,[dE,ix 10],.aC [vf,.sl false [[ix 2]],ix 0])::PY
def P0:List Fa:=(26,[dE,ix 10],.aC [ix 2,ix 0])::PZ
def P1:List Fa:=(66,[fH],.aC [ix 0,ix 0])::P0
def P2:List Fa:=(179,[fH,ix 0,ix 0],.aC [.sl true [],ix 0])::P1
def P3:List Fa:=(253,[.agg [IP,Pp,ix 0,ix 1,sx [],.sl true [],uy,.sl true [],vd,ix 1,sx [],.sl false [],va,.sl false [],Pd,ix 1,vc,va],.sl false [[ix 0]]],.aC [Pn,bx true,ix 0])::P2
def P4:List Fa:=(179,[fH,ix 0,ix 1],.aC [vf,ix 0])::P3
def P5:List Fa:=(179,[fH,ix 1,ix 1],.aC [.sl true [],ix 0])::P4
def P6:List Fa:=(117,[fH],.aC [vf,ix 0])::P5
def P7:List Fa:=(33,[fH,nf],bx true)::P6
def P8:List Fa:=(40,[fH,nf,IM],.aC [Pk,bx true])::P7
def P9:List Fa:=(15,[fH,nf,IM],.aC [fb,ix 0])::P8
def P_:List Fa:=(40,[fH,nf,IN],.aC [Pl,bx true])::P9
def Qa:List Fa:=(15,[fH,nf,IN],.aC [fb,ix 0])::P_
def Qb:List Fa:=(180,[fH,yt],.aC [fb,fb,ix 0])::Qa
def Qc:List Fa:=(33,[fH,fb],bx true)::Qb
def Qd:List Fa:=(66,[AS],.aC [ix 0,ix 0])::Qc
def Qe:List Fa:=(33,[AS,fb],bx true)::Qd
def Qf:List Fa:=(11,[AS,fb],zj)::Qe
def Qg:List Fa:=(15,[AS,fb,.agg [ix 2,ix 0,ix 0,.sl false []]],.aC [nh,ix 0])::Qf
def Qh:List Fa:=(11,[fH,fb],zj)::Qg
def Qi:List Fa:=(15,[fH,fb,.agg [ix 2,ix 0,ix 0,.sl false []]],.aC [nh,ix 0])::Qh
def Qj:List Fa:=(33,[fH,nh],bx true)::Qi
def Qk:List Fa:=(11,[fH,nh],.sl true [])::Qj
def Ql:List Fa:=(181,[fH,fb,ix 2,ix 10],.aC [Pm,ix 0])::Qk
def Qm:List Fa:=(118,[fH,yt,ix 10],ix 1)::Ql
def Qn:List Fa:=(55,[fH,ix 10],.aC [vf,.sl false [[ix 1]],ix 0])::Qm
def Qo:List Fa:=(26,[fH,ix 10],.aC [ix 1,ix 0])::Qn
def XT:List Fa:=(54,[dE,ix 10],.aC [yt,bx true])::Qo
section
variable {w0:World}(hu:av Tryz.prog w0 292 [uA,uB] uR)
include hu
theorem abU:aw w0 Ug:=have _:=hu;aw.nil
theorem abV:aw w0 Uh:=aw.cons (aS hu) (abU hu) (by kernel_rfl)
theorem abW:aw w0 Ui:=aw.cons (aS hu) (abV hu) (by kernel_rfl)
theorem abX:aw w0 Uj:=aw.cons (aS hu) (abW hu) (by kernel_rfl)
theorem abY:aw w0 Uk:=aw.cons (aS hu) (abX hu) (by kernel_rfl)
theorem abZ:aw w0 Ul:=aw.cons (aS hu) (abY hu) (by kernel_rfl)
theorem ab0:aw w0 Um:=aw.cons (aS hu) (abZ hu) (by kernel_rfl)
theorem ab1:aw w0 Un:=aw.cons (aS hu) (ab0 hu) (by kernel_rfl)
theorem ab2:aw w0 Uo:=aw.cons (aS hu) (ab1 hu) (by kernel_rfl)
theorem ab3:aw w0 Up:=aw.cons (aS hu) (ab2 hu) (by kernel_rfl)
theorem XU:aw w0 Pq:=aw.cons (aS hu) (ab3 hu) (by kernel_rfl)
theorem XV:aw w0 Pr:=aw.cons (aS hu) (XU hu) (by kernel_rfl)
theorem XW:aw w0 Ps:=aw.cons (aS hu) (XV hu) (by kernel_rfl)
theorem XX:aw w0 Pt:=aw.cons (aS hu) (XW hu) (by kernel_rfl)
theorem XY:aw w0 Pu:=aw.cons (aS hu) (XX hu) (by kernel_rfl)
theorem XZ:aw w0 Pv:=aw.cons (aS hu) (XY hu) (by kernel_rfl)
theorem X0:aw w0 Pw:=aw.cons (aS hu) (XZ hu) (by kernel_rfl)
theorem X1:aw w0 Px:=aw.cons (aS hu) (X0 hu) (by kernel_rfl)
theorem X2:aw w0 Py:=aw.cons (aS hu) (X1 hu) (by kernel_rfl)
theorem X3:aw w0 Pz:=aw.cons (aS hu) (X2 hu) (by kernel_rfl)
theorem X4:aw w0 PA:=aw.cons (aS hu) (X3 hu) (by kernel_rfl)
theorem X5:aw w0 PB:=aw.cons (aS hu) (X4 hu) (by kernel_rfl)
theorem X6:aw w0 PC:=aw.cons (aS hu) (X5 hu) (by kernel_rfl)
theorem X7:aw w0 PD:=aw.cons (aS hu) (X6 hu) (by kernel_rfl)
theorem X8:aw w0 PE:=aw.cons (aS hu) (X7 hu) (by kernel_rfl)
theorem X9:aw w0 PF:=aw.cons (aS hu) (X8 hu) (by kernel_rfl)
theorem X_:aw w0 PG:=aw.cons (aS hu) (X9 hu) (by kernel_rfl)
theorem Ya:aw w0 PH:=aw.cons (aS hu) (X_ hu) (by kernel_rfl)
theorem Yb:aw w0 PI:=aw.cons (aS hu) (Ya hu) (by kernel_rfl)
theorem Yc:aw w0 PJ:=aw.cons (aS hu) (Yb hu) (by kernel_rfl)
theorem Yd:aw w0 PK:=aw.cons (aS hu) (Yc hu) (by kernel_rfl)
theorem Ye:aw w0 PL:=aw.cons (aS hu) (Yd hu) (by kernel_rfl)
theorem Yf:aw w0 PM:=aw.cons (aS hu) (Ye hu) (by kernel_rfl)
theorem Yg:aw w0 PN:=aw.cons (aS hu) (Yf hu) (by kernel_rfl)
theorem Yh:aw w0 PO:=aw.cons (aS hu) (Yg hu) (by kernel_rfl)
theorem Yi:aw w0 PQ:=aw.cons (aS hu) (Yh hu) (by kernel_rfl)
theorem Yj:aw w0 PR:=aw.cons (aS hu) (Yi hu) (by kernel_rfl)
theorem Yk:aw w0 PT:=aw.cons (aS hu) (Yj hu) (by kernel_rfl)
theorem Yl:aw w0 PU:=aw.cons (aS hu) (Yk hu) (by kernel_rfl)
theorem Ym:aw w0 PV:=aw.cons (aS hu) (Yl hu) (by kernel_rfl)
theorem Yn:aw w0 PW:=aw.cons (aS hu) (Ym hu) (by kernel_rfl)
theorem Yo:aw w0 PX:=aw.cons (aS hu) (Yn hu) (by kernel_rfl)
theorem Yp:aw w0 PY:=aw.cons (aS hu) (Yo hu) (by kernel_rfl)
theorem Yq:aw w0 PZ:=aw.cons (aS hu) (Yp hu) (by kernel_rfl)
theorem Yr:aw w0 P0:=aw.cons (aS hu) (Yq hu) (by kernel_rfl)
theorem Ys:aw w0 P1:=aw.cons (aS hu) (Yr hu) (by kernel_rfl)
theorem Yt:aw w0 P2:=aw.cons (aS hu) (Ys hu) (by kernel_rfl)
theorem Yu:aw w0 P3:=aw.cons (aS hu) (Yt hu) (by kernel_rfl)
theorem Yv:aw w0 P4:=aw.cons (aS hu) (Yu hu) (by kernel_rfl)
theorem Yw:aw w0 P5:=aw.cons (aS hu) (Yv hu) (by kernel_rfl)
theorem Yx:aw w0 P6:=aw.cons (aS hu) (Yw hu) (by kernel_rfl)
theorem Yy:aw w0 P7:=aw.cons (aS hu) (Yx hu) (by kernel_rfl)
theorem Yz:aw w0 P8:=aw.cons (aS hu) (Yy hu) (by kernel_rfl)
theorem YA:aw w0 P9:=aw.cons (aS hu) (Yz hu) (by kernel_rfl)
theorem YB:aw w0 P_:=aw.cons (aS hu) (YA hu) (by kernel_rfl)
theorem YC:aw w0 Qa:=aw.cons (aS hu) (YB hu) (by kernel_rfl)
theorem YD:aw w0 Qb:=aw.cons (aS hu) (YC hu) (by kernel_rfl)
theorem YE:aw w0 Qc:=aw.cons (aS hu) (YD hu) (by kernel_rfl)
theorem YF:aw w0 Qd:=aw.cons (aS hu) (YE hu) (by kernel_rfl)
theorem YG:aw w0 Qe:=aw.cons (aS hu) (YF hu) (by kernel_rfl)
theorem YH:aw w0 Qf:=aw.cons (aS hu) (YG hu) (by kernel_rfl)
theorem YI:aw w0 Qg:=aw.cons (aS hu) (YH hu) (by kernel_rfl)
theorem YJ:aw w0 Qh:=aw.cons (aS hu) (YI hu) (by kernel_rfl)
theorem YK:aw w0 Qi:=aw.cons (aS hu) (YJ hu) (by kernel_rfl)
theorem YL:aw w0 Qj:=aw.cons (aS hu) (YK hu) (by kernel_rfl)
theorem YM:aw w0 Qk:=aw.cons (aS hu) (YL hu) (by kernel_rfl)
theorem YN:aw w0 Ql:=aw.cons (aS hu) (YM hu) (by kernel_rfl)
theorem YO:aw w0 Qm:=aw.cons (aS hu) (YN hu) (by kernel_rfl)
theorem YP:aw w0 Qn:=aw.cons (aS hu) (YO hu) (by kernel_rfl)
theorem YQ:aw w0 Qo:=aw.cons (aS hu) (YP hu) (by kernel_rfl)
theorem YR:aw w0 XT:=aw.cons (aS hu) (YQ hu) (by kernel_rfl)
theorem Uq:av Tryz.prog w0 21 [] (.v (.bool true)):=aw.last (aS hu) (YR hu) (by kernel_rfl)
end
end
section
set_option maxRecDepth 100000
theorem YS (v:Int):dP (vr v):=by
 rw [vr,dP,if_pos rfl]
 exact⟨rfl,rfl⟩
theorem Kz {v w:Int}:nK v (vr w) ↔ w=v:=by rw [vr,nK,if_pos rfl]
theorem Df {v w:Int}(h:vr v=vr w):v=w:=by
 injection h
theorem Qp (v:Int):(vr v).ok:=by
 rw [vr,Tm.ok,sr]
 exact⟨by simp,by decide,trivial⟩
def sm (v:Int):Tm:=if v=1 then vr 0 else vr v
theorem Ur:tq [(vr 0,vr 1)] sm [1]:=by
 refine⟨⟨fun v=>?_,fun v w h=>?_,fun v w h=>?_,fun e he=>?_,fun f hf v=>?_⟩,?_,fun v=>?_⟩
 ·unfold sm
  split<;>exact YS _
 ·unfold sm at h ⊢
  split at h
  ·rw [Kz] at h
   rw [if_neg (by omega)]
  ·rw [Kz] at h
   rw [if_neg (by omega)]
 ·unfold sm at h
  split at h
  ·have:=Df h
   omega
  ·have:=Df h
   omega
 ·obtain rfl:=List.mem_singleton.1 he
  simp only [qD]
  unfold sm
  rw [if_neg (by decide),if_pos rfl]
 ·have h:=hf (vr 0,vr 1) (by simp)
  simp only [qD] at h
  unfold sm
  split
  ·rename_i e
   rw [qD,e,h]
  ·rw [qD]
 ·exact⟨fun y h=>(by cases h),trivial⟩
 ·unfold sm
  rw [List.mem_singleton]
  constructor
  ·intro h
   rw [if_pos h]
   intro e
   have:=Df e
   omega
  ·intro h
   by_cases e:v=1
   ·exact e
   ·rw [if_neg e] at h
    exact absurd rfl h
theorem Us:IF [vr 0] [vr 1]=([⟨1,vr 0⟩],0):=by
 have r0:eM (vr 0)=true:=by kernel_rfl
 have r1:eM (vr 1)=true:=by kernel_rfl
 have b0:oV (vr 0)=false:=by kernel_rfl
 unfold IF
 rw [if_neg (by simp [r0]),if_neg (by simp [r1]),if_pos (by rfl:[vr 0].length=[vr 1].length),show [vr 0].zip [vr 1]=[(vr 0,vr 1)] from rfl,zJ Ur]
 unfold Fe
 have e:sm 1=vr 0:=by unfold sm;rw [if_pos rfl]
 rw [if_neg (by simp [e,b0])]
 simp [e]
section
variable {w0:World}
theorem Ut:av Tryz.prog w0 292 [uA,uB] uR:=by
 have h:=T6 (w0:=w0) (ρ:=.plain) (l:=[vr 0]) (r:=[vr 1]) (by simp) (by simp) (fun x hx=>by obtain rfl:=List.mem_singleton.1 hx;exact Qp _) (fun x hx=>by obtain rfl:=List.mem_singleton.1 hx;exact Qp _)
 rw [Us] at h
 have e1:∀ v:Int,tl .plain [vr v]=.sl false [[.v (.int .i64 1),.v (.int .i64 v),.v (.string ⟨#[]⟩),.sl false []]]:=fun v=>by
  rw [tl,ij,List.map_cons,List.map_nil,vr,mL,yF]
  rfl
 have e2:zh .plain ([⟨1,vr 0⟩],0)=uR:=by
  unfold zh
  rw [DZ,ij,List.map_cons,List.map_nil,pC,vr]
  simp only [tl,ij,List.map_nil]
  rfl
 rw [e1,e1,e2] at h
 exact h
end
end
section
namespace ConfluenceMerge
open Go.ChangeShapes Go.WideShapes Go.ChangeAt Go.RowKit
open Go.ChangeMaps (open_string shut_string)
set_option maxRecDepth 100000 in
theorem Ni (H:Type) (enc:TypeId × Value->H) (W:World) (base:Nat) (args:Array Value) (ds gs:List (DataW H)) (before:List MemPlace)
  (se:∀ (j:Nat) t v,Tryz.f6.params[j]?=some t->args[j]?=some v->Value.okWide Tryz.prog W .any base t v)
  (hW:DataW.Whole enc Tryz.prog Tryz.f6.params.toList Rows.confluenceMergeSpec.vars false W args.toList ds gs before) (hB:Rows.uptoBulkAll (ds++gs)<=1048576) :
  Calls Tryz.prog 6 args W fun e W'=>∃ v,e=.returned v/\Rows.confluenceMergeSpec.post enc Tryz.prog Tryz.f6 false true false false W args v W':=by
 have hW0:=hW
 obtain⟨p,q,hA,hV,rfl,nY,vK⟩:=hW
 obtain⟨rfl,rfl⟩:=trodVars_none hV
 have tc:=hA
 rw [Tryz.params6] at hA se
 obtain⟨v0,vs0,d0,ds0,p0,q0,aT,rfl,rfl,h0,r0⟩:=trodAll_cons hA
 obtain⟨v1,iW,d1,ds1,p1,q1,rfl,rfl,rfl,h1,r1⟩:=trodAll_cons r0
 obtain⟨rfl,rfl,rfl⟩:=trodAll_nil r1
 obtain rfl:args=#[v0,v1]:=by cases args;simp_all
 simp only [List.cons_append,List.nil_append,Rows.uptoBulkAll] at hB
 obtain⟨x0,w0,e0⟩:=C9 (se 0 38 v0 rfl rfl) h0
 obtain⟨x1,w1,e1⟩:=C9 (se 1 38 v1 rfl rfl) h1
 refine ((LL (w0:=W) (ρ:=.plain) (Uq Ut) x0 x1 (by omega) (by omega)).calls (U9 e0 e1)).mono fun e W' ⟨he,hb⟩=>?_
 subst he
 exact⟨_,rfl,Ma laidOut (by rw [Tryz.params6];simp only [List.mem_cons,List.not_mem_nil,or_false];intro t ht;rcases ht with rfl|rfl<;>exact⟨by kernel_rfl,by decide +kernel⟩) rfl rfl Tryz.underlying4 rfl hW0 hb⟩
theorem Nj (os:Os):laidMet Tryz.prog Rows.confluenceMergeUptoRow.laid ((ug os).forCall (fun _ _=>0) ⟨#[],#[.slice none 0 0,.slice none 0 0],[]⟩).memory :=
 laidMet_of_run' 8 (by kernel_rfl) (by kernel_rfl)
theorem reads (os:Os) {H:Type}(enc:TypeId × Value->H):∃ KA,DataW.whole enc Tryz.prog ((ug os).forCall (fun _ _=>0) ⟨#[],#[.slice none 0 0,.slice none 0 0],[]⟩).memory Tryz.f6.params.toList Rows.confluenceMergeSpec.vars false ((#[.slice none 0 0,.slice none 0 0]:Array Value)).toList 8=some ([.nil,.nil],[],KA) :=
 ⟨[],by kernel_rfl⟩
set_option maxRecDepth 100000 in
theorem lifted (os:Os) (started:os.Started) (H:Type) (enc:TypeId × Value->H) (F:Stop.Interp) :
  ReturnsInHanded {} Tryz.checked os 6 .any ((Rows.OpenSpec.upto Rows.confluenceMergeSpec).preRow enc Tryz.prog Tryz.f6 Rows.confluenceMergeUptoRow.domain false Rows.confluenceMergeUptoRow.laid) (((Rows.OpenSpec.upto Rows.confluenceMergeSpec).at F).post enc Tryz.prog Tryz.f6 false true false false):=by
 obtain⟨KA,hx⟩:=reads os enc
 refine returnsInHanded_of_row (C:=Tryz.checked) (s:=Rows.OpenSpec.upto Rows.confluenceMergeSpec) own started (by kernel_rfl) Tryz.func6
  (witness_row_at (enc:=enc) (C:=Tryz.checked) false (ug os) #[.slice none 0 0,.slice none 0 0] rfl (by kernel_rfl) (by kernel_rfl) (by kernel_rfl)
   (OpenSpec.preRow_of_cond 8 hx (by kernel_rfl) (fun k hk=>by obtain rfl:=Option.some.inj hk;kernel_rfl) (by kernel_rfl) (Nj os))) ?_
 intro W base args ds gs before se hW _ hk _ _ _ _
 exact Ni H enc W base args ds gs before se hW (of_decide_eq_true (hk _ rfl))
set_option maxRecDepth 100000 in
theorem closed:joinedFacts Tryz.prog 6 Tryz.f6 (Rows.OpenSpec.upto Rows.confluenceMergeSpec).bare Rows.confluenceMergeUptoRow=true:=by
 unfold joinedFacts
 exact cV (cV (cV (cV (cV (cV (cV (cV (cV (cV (cV (cV (cV (cV (cV (cV (cV (cV (cV (cV (cV (cV (cV (cV (cV (cV (cV (cV (cV (cV (cV k0 laidOut) Di) k3) k4) k5) k6) k7) k8) k9) k10) k11) k12) k13) k14) k15) k16) k17) k18) k19) k20) k21) k22) k23) Qy) Qz) k26) k27) k28) k29) k30) k31
theorem said:Rows.ConfluenceMergeUptoSaid :=
 OpenClaim.holds_of_cond 6 Tryz.f6 rfl rfl rfl rfl rfl rfl rfl ⟨rfl,rfl,rfl,rfl,rfl⟩ rfl rfl rfl rfl rfl (by kernel_rfl) Tryz.func6 closed
  (of_decide_eq_true (by kernel_rfl)) (by unfold Func.isWrapper;first|(rw [if_pos (by decide +kernel)];kernel_rfl)|(rw [if_neg (by decide +kernel)];exact⟨rfl,rfl⟩))
  (fun os started H enc _ F=>by rw [OpenClaim.pre_eq_preRow];exact lifted os started H enc F)
end ConfluenceMerge
end
end Go.Proofs.YtgjfgekaclobaaaGreat
