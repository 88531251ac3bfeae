/- ConfluenceAlone holds (its Upto form): for every input whose bulk is at most 1048576 the call returns true, and the input reads afterwards as before. -/
import Derived.Test.YtgjfgekaclobaaaGreatCa53
namespace Go.Proofs.YtgjfgekaclobaaaGreat
set_option linter.unusedVariables false
set_option linter.unusedSimpArgs false
open Go.RowKit
section
namespace ConfluenceAlone
set_option maxRecDepth 100000
open Go.ChangeShapes Go.WideShapes Go.ChangeAt Go.RowKit
theorem k0:(Rows.confluenceAloneUptoRow.wf (OpenSpec.ofChange (Rows.OpenSpec.upto Rows.confluenceAloneSpec).bare))=true:=by kernel_rfl
theorem k3:(Tryz.f7.params.all (Tryz.prog.readableRec ·))=true:=by kernel_rfl
theorem k4:(namedTie Tryz.prog Rows.confluenceAloneUptoRow.named (Rows.OpenSpec.upto Rows.confluenceAloneSpec).bare.vars)=true:=by kernel_rfl
theorem k5:((Rows.confluenceAloneUptoRow.stops == []))=true:=by kernel_rfl
theorem k6:((Tryz.prog.stops == []))=true:=by kernel_rfl
theorem k7:((Rows.confluenceAloneUptoRow.knobs == []))=true:=by kernel_rfl
theorem k8:((Tryz.prog.stopKnobs == []))=true:=by kernel_rfl
theorem k9:((Rows.confluenceAloneUptoRow.inPlace == Tryz.prog.inPlace 7))=true:=by kernel_rfl
theorem k10:((Rows.confluenceAloneUptoRow.unfollowed == Tryz.prog.unfollowed 7))=true:=by kernel_rfl
theorem k11:((Rows.confluenceAloneUptoRow.recurses == Tryz.prog.recurses 7))=true:=by kernel_rfl
theorem k12:((Rows.confluenceAloneUptoRow.named == Tryz.prog.varsNamed 7))=true:=by kernel_rfl
theorem k13:((Rows.confluenceAloneUptoRow.maps == (Tryz.f7.params.toList++(Rows.OpenSpec.upto Rows.confluenceAloneSpec).bare.plain.varTypes Tryz.prog).any (Tryz.prog.mapsRec ·)))=true:=by kernel_rfl
theorem k14:((Rows.confluenceAloneUptoRow.ifaces == (Tryz.f7.params.toList++(Rows.OpenSpec.upto Rows.confluenceAloneSpec).bare.plain.varTypes Tryz.prog).any (Tryz.prog.ifacesRec ·)))=true:=by kernel_rfl
theorem k15:((Rows.confluenceAloneUptoRow.mapsOut == Tryz.prog.mapsAmong Tryz.f7.resultTypes.toList))=true:=by kernel_rfl
theorem k16:((Rows.confluenceAloneUptoRow.loops == (Tryz.f7.params.toList++(Rows.OpenSpec.upto Rows.confluenceAloneSpec).bare.plain.varTypes Tryz.prog).any (Tryz.prog.loopsFrom ·)))=true:=by kernel_rfl
theorem k17:((Rows.confluenceAloneUptoRow.wideKeys == (Tryz.f7.params.toList++(Rows.OpenSpec.upto Rows.confluenceAloneSpec).bare.plain.varTypes Tryz.prog++Tryz.f7.resultTypes.toList).any (Tryz.prog.wideKeysFrom ·)))=true:=by kernel_rfl
theorem k18:((Rows.OpenSpec.upto Rows.confluenceAloneSpec).bare.vars.all (Tryz.prog.varReadable ·))=true:=by kernel_rfl
theorem k19:(Tryz.f7.resultTypes.all (fun t=>Tryz.prog.readableRec t && decide (t < Tryz.prog.types.size)))=true:=by kernel_rfl
theorem k20:((Rows.confluenceAloneUptoRow.ifacesOut == Tryz.f7.resultTypes.toList.any (Tryz.prog.ifacesRec ·)))=true:=by kernel_rfl
theorem k21:((Rows.confluenceAloneUptoRow.loopsOut == Tryz.f7.resultTypes.toList.any (Tryz.prog.loopsFrom ·)))=true:=by kernel_rfl
theorem k22:((Rows.confluenceAloneUptoRow.plainKeys == Tryz.prog.plainKeys))=true:=by kernel_rfl
theorem k23:(Rows.confluenceAloneUptoRow.shortTexts.isNone)=true:=by kernel_rfl
theorem k26:((Rows.confluenceAloneUptoRow.lifted == Tryz.prog.liftsFinal))=true:=by kernel_rfl
theorem k27:((Tryz.prog.make == some Rows.confluenceAloneUptoRow.make))=true:=by kernel_rfl
theorem k28:((Rows.confluenceAloneUptoRow.kinds == (if Rows.confluenceAloneUptoRow.domain.isEmpty then [] else Tryz.f7.params.toList.map fun t=>match Tryz.prog.underlying t with|some (.int k)=>some k|_=>none)))=true:=by kernel_rfl
theorem k29:((Rows.confluenceAloneUptoRow.pinned == Rows.confluenceAloneUptoRow.pinnedBy))=true:=by kernel_rfl
theorem k30:((Rows.confluenceAloneUptoRow.veiled == (Tryz.f7.params.toList++(Rows.OpenSpec.upto Rows.confluenceAloneSpec).bare.plain.varTypes Tryz.prog++Tryz.f7.resultTypes.toList).any (Tryz.prog.veiledRec ·)))=true:=by kernel_rfl
theorem k31:(Rows.confluenceAloneUptoRow.veiledFits Tryz.prog Tryz.f7.params.toList (Tryz.f7.params.toList++(Rows.OpenSpec.upto Rows.confluenceAloneSpec).bare.plain.varTypes Tryz.prog++Tryz.f7.resultTypes.toList))=true:=by kernel_rfl
end ConfluenceAlone
end
theorem jq {α:Type}{μ:α->Nat}:∀ {l:List α}{x:α},x ∈ l->μ x<=eC μ l
 |y::l,x,h=>by
  rw [eC]
  rcases List.mem_cons.1 h with rfl|h
  ·omega
  ·have:=jq (μ:=μ) h
   omega
theorem fT {α:Type}{μ:α->Nat}(h:∀ x,1<=μ x):∀ l:List α,l.length<=eC μ l
 |[]=>Nat.le_refl _
 |x::l=>by
  have h1:=h x
  have h2:=fT h l
  rw [eC,List.length_cons]
  omega
theorem sB {α:Type}{μ:α->Nat}:∀ a b:List α,eC μ (a++b)=eC μ a+eC μ b
 |[],b=>by rw [List.nil_append,eC];omega
 |x::a,b=>by rw [List.cons_append,eC,eC,sB a b];omega
theorem acv (x:Tm):5<=mT x:=by obtain⟨k,i,n,a⟩:=x;rw [mT];omega
theorem JE (l:List Tm):l.length<=nc l:=by rw [<-iY];exact fT (fun x=>by have:=acv x;omega) l
mutual
theorem ag7:∀ (N:Nat) (x:Tm),N<=1099511627776->mT x<=N->x.ok
 |N,⟨k,i,n,a⟩,hN,h=>by
  rw [mT] at h
  have:=JE a
  rw [Tm.ok,ZH]
  exact⟨by omega,by omega,Cm N a hN (by omega)⟩
theorem Cm:∀ (N:Nat) (l:List Tm),N<=1099511627776->nc l<=N->mc l
 |N,[],_,_=>by rw [mc];trivial
 |N,x::l,hN,h=>by
  rw [nc] at h
  rw [mc]
  exact⟨ag7 N x hN (by omega),Cm N l hN (by omega)⟩
end
mutual
theorem YV:∀ x:Tm,dG x<=mT x
 |⟨k,i,n,a⟩=>by
  have:=pC a
  rw [dG,mT]
  split<;>omega
theorem pC:∀ l:List Tm,bw l<=nc l
 |[]=>by rw [bw,nc];exact Nat.le_refl _
 |x::l=>by
  have:=YV x
  have:=pC l
  rw [bw,nc]
  omega
end
theorem Qc {l:List Tm}(h:nc l<=1099511627776):t_ l:=⟨Cm _ l (Nat.le_refl _) h,Nat.le_trans (pC l) h⟩
theorem Qd {x:Gl}(h:ow x<=1099511627776):gok x:=by
 unfold ow at h
 exact⟨Qc (by omega),by omega⟩
theorem y_ (x:At):1<=mS x:=by unfold mS;omega
theorem rz (x:Gl):1<=ow x:=by unfold ow;omega
theorem Qe:∀ l:List At,nc (tF l)<=eC mS l
 |[]=>Nat.le_refl _
 |x::l=>by
  have h:=Qe l
  rw [show tF (x::l)=x.a++tF l from rfl,<-iY,sB,iY,iY,eC,mS]
  omega
theorem Qf:∀ l:List Gl,nc (tG l)<=eC ow l
 |[]=>Nat.le_refl _
 |x::l=>by
  have h:=Qf l
  rw [show tG (x::l)=x.a++tG l from rfl,<-iY,sB,iY,iY,eC,ow]
  omega
theorem NN:∀ l:List At,(zA l).length<=eC mS l
 |[]=>Nat.le_refl _
 |x::l=>by
  have h:=NN l
  have h1:=By x.a
  have h2:=pC x.a
  rw [show zA (x::l)=varsOf x.a++zA l from rfl,List.length_append,eC,mS]
  omega
theorem NO:∀ l:List Gl,(zB l).length<=eC ow l
 |[]=>Nat.le_refl _
 |x::l=>by
  have h:=NO l
  have h1:=By x.a
  have h2:=pC x.a
  rw [show zB (x::l)=varsOf x.a++zB l from rfl,List.length_append,eC,ow]
  omega
theorem acw {r:Rl}(h:rN r<=1048576):BG r:=by
 have a1:=fT y_ r.a7
 have a2:=fT y_ r.rem
 have a3:=fT rz r.guard
 have a4:=fT rz r.body
 have b1:=NN r.a7
 have b2:=NN r.rem
 have b3:=NO r.guard
 have b4:=NO r.body
 unfold rN at h
 have at_:∀ x:At,mS x<=1048576->t_ x.a/\x.n.size<=1099511627776:=fun x hx=>by
  unfold mS at hx
  exact⟨Qc (by omega),by omega⟩
 refine⟨by omega,by omega,by omega,by omega,by omega,fun x hx=>at_ x ?_,fun x hx=>at_ x ?_,fun x hx=>Qd ?_,fun x hx=>Qd ?_,?_,?_⟩
 ·have:=jq (μ:=mS) hx;omega
 ·have:=jq (μ:=mS) hx;omega
 ·have:=jq (μ:=ow) hx;omega
 ·have:=jq (μ:=ow) hx;omega
 ·rw [zD,show D8 [r.a7,r.rem]=zA r.a7++(zA r.rem++[]) from rfl,List.append_nil,List.length_append];omega
 ·rw [D9,show r_ [r.guard,r.body]=zB r.guard++(zB r.body++[]) from rfl,List.append_nil,List.length_append];omega
theorem acx {r:Rl}(h:rN r<=1048576):rsm r:=by
 have a1:=fT y_ r.a7
 have a2:=fT y_ r.rem
 have a3:=fT rz r.guard
 have a4:=fT rz r.body
 unfold rN at h
 have k1:=Qe (r.a7++r.rem)
 have k2:=Qf (r.guard++r.body)
 rw [sB] at k1 k2
 have k3:nc (tF (r.a7++r.rem)++tG (r.guard++r.body))<=1048576:=by
  rw [<-iY,sB,iY,iY]
  omega
 have k4:=JE (tF (r.a7++r.rem)++tG (r.guard++r.body))
 have k5:=pE (tF (r.a7++r.rem)++tG (r.guard++r.body))
 have k6:=pC (tF (r.a7++r.rem)++tG (r.guard++r.body))
 exact⟨by omega,by omega,by omega,Cm _ _ (Nat.le_refl _) (by omega),by omega⟩
theorem acy {p:Pg}(h:FI p<=1048576):zE p/\∀ r ∈ p.rs,rsm r:=by
 have a1:=fT (μ:=DQ) (fun x=>by unfold DQ;omega) p.ds
 have a2:=fT (μ:=rN) (fun x=>by unfold rN;omega) p.rs
 unfold FI at h
 have hr:∀ r ∈ p.rs,rN r<=1048576:=fun r hr=>by
  have:=jq (μ:=rN) hr
  omega
 refine⟨⟨by omega,by omega,fun d hd=>?_,fun r h=>acw (hr r h)⟩,fun r h=>acx (hr r h)⟩
 have:=jq (μ:=DQ) hd
 unfold DQ at this a1 h
 omega
section
set_option maxRecDepth 100000
mutual
theorem acz:∀ x:Tm,fX x<=mT x
 |⟨k,i,n,a⟩=>by
  have:=uM a
  rw [fX,mT]
  omega
theorem uM:∀ l:List Tm,cN l<=nc l
 |[]=>by rw [cN,nc];exact Nat.le_refl _
 |x::l=>by
  have:=acz x
  have:=uM l
  rw [cN,nc]
  omega
end
theorem acA {p:Pg}(h:FI p<=1048576):∀ r ∈ p.rs,szR r:=fun r hr=>by
 have h1:=jq (μ:=rN) hr
 unfold FI at h
 have h2:rN r<=1048576:=by omega
 unfold rN at h2
 have a3:=fT rz r.guard
 have a4:=fT rz r.body
 refine⟨by omega,by omega,fun x hx=>?_,fun x hx=>?_,fun x hx=>?_⟩
 ·have:=jq (μ:=mS) hx
  have h3:=uM x.a
  unfold mS at this h2
  omega
 ·have:=jq (μ:=ow) hx
  have h3:=uM x.a
  unfold ow at this h2
  omega
 ·have:=jq (μ:=ow) hx
  have h3:=uM x.a
  unfold ow at this h2
  omega
end
section
set_option maxRecDepth 100000
def Tw:AV:=.sl true [[ix 1,ix 0,sx [],.sl true []]]
def NP:AV:=.agg [ix 3,ix 0,ix 0,.sl false [[ix 1]]]
def NQ:AV:=.agg [ix 3,ix 0,ix 1,.sl false [[ix 1]]]
def Du:AV:=.sl false [[ix 2,ix 0,ix 0,.sl false []]]
def Tx:AV:=.sl false [[ix 1,ix 1,sx [],.sl false []]]
def yz:AV:=.sl false [[ix 1,ix 0,sx [],.sl false []]]
def acB:AV:=.sl false [[ix 0,ix 1,ix 0,sx [],.sl false []]]
def NR:AV:=.sl true [[sx [112],ix 1],[sx [113],ix 1],[sx [114],ix 1]]
def acC:AV:=.sl false [[sx [112],ix 1],[sx [113],ix 1],[sx [114],ix 1]]
def yA:AV:=.sl true [[sx [112],Tw]]
def za:AV:=.sl false [[sx [112],Tx]]
def zb:AV:=.sl false [[sx [112],yz]]
def Wr:AV:=.sl false [[sx [113],yz]]
def Ws:AV:=.sl false [[sx [114],yz]]
def zc:AV:=.sl true [[ix 0,sx [113],Tw]]
def Wt:AV:=.sl true [[ix 0,sx [114],Tw]]
def Wu:AV:=.sl false [[ix 0,sx [113],Tx]]
def Wv:AV:=.sl false [[ix 0,sx [114],Tx]]
def Cn:AV:=.sl false [[ix 1,sx [112],yz]]
def E7:AV:=.sl false [[ix 0,sx [113],yz]]
def Ww:AV:=.sl false [[ix 0,sx [114],yz]]
def Wx:AV:=.sl false [[ix 2,sx [113],yz]]
def Wy:AV:=.sl false [[ix 2,sx [114],yz]]
def E8:AV:=.sl false [[ix 1,ix 0,sx [],.sl false []],[ix 1,ix 1,sx [],.sl false []]]
def Wz:AV:=.agg [ix 0,.sl false [[ix 1]],acB]
def WA:AV:=.agg [ix 1,.sl false [[ix 1]],acB]
def pG:AV:=.agg [.sl false [],Cn,.sl false [],.sl false [],.sl false [],ix 2,ix 2,bx false]
def gT:AV:=.agg [E7,.sl false [],.sl false [],.sl false [],.sl false [],ix 2,ix 3,bx false]
def pH:AV:=.agg [Ww,.sl false [],.sl false [],.sl false [],.sl false [],ix 2,ix 3,bx false]
def pI:AV:=.agg [.sl false [],Wx,.sl false [],.sl false [],.sl false [],ix 3,ix 3,bx false]
def zd:AV:=.agg [.sl false [],Wy,.sl false [],.sl false [],.sl false [],ix 3,ix 3,bx false]
def WB:AV:=.sl false [[bx false,E8,Wr]]
def WC:AV:=.agg [ix 0,ix 1,.sl true [],Cn,.sl true [],.sl true [],.sl true [],ix 2,ix 2,bx false,.sl false [[ix 0]],.sl false [[ix 0]]]
def Co:AV:=.agg [ix 0,ix 1,.sl false [],Cn,.sl false [],.sl false [],.sl false [],ix 2,ix 2,bx false,.sl false [[ix 0]],.sl false [[ix 0]]]
def ze:AV:=.sl false [[ix 0,ix 1,.sl false [],Cn,.sl false [],.sl false [],.sl false [],ix 2,ix 2,bx false,.sl false [[ix 0]],.sl false [[ix 0]]]]
def WD:AV:=.sl true [[sx [],.sl true [],yA,.sl true [],zc,ix 1],[sx [],.sl true [],yA,.sl true [],Wt,ix 1]]
def WE:AV:=.sl true [[sx [],.sl true [],yA,.sl true [],zc,ix 1],[sx [],.sl true [],yA,.sl true [],zc,ix 1]]
def ag8:AV:=.sl false [[sx [],.sl false [],zb,.sl false [],E7,ix 1],[sx [],.sl false [],zb,.sl false [],Ww,ix 1]]
def ag9:AV:=.sl false [[sx [],.sl false [],zb,.sl false [],E7,ix 1],[sx [],.sl false [],zb,.sl false [],E7,ix 1]]
def eJ:AV:=.agg [NR,WD]
def iz:AV:=.agg [NR,WE]
def vU:AV:=.agg [acC,ag8]
def E9:AV:=.agg [acC,ag9]
def acD:List Fa:=[]
def acE:List Fa:=(66,[eJ],.aE [ix 0,ix 0])::acD
def acF:List Fa:=(250,[.agg [sx [],.sl true [],yA,.sl true [],zc,ix 1],ix 1],.agg [sx [],.sl false [],za,.sl false [],Wu,ix 1])::acE
def acG:List Fa:=(179,[eJ,ix 0,ix 0],.aE [.sl true [],ix 0])::acF
def acH:List Fa:=(250,[.agg [sx [],.sl true [],yA,.sl true [],Wt,ix 1],ix 1],.agg [sx [],.sl false [],za,.sl false [],Wv,ix 1])::acG
def acI:List Fa:=(253,[.agg [NR,WD,ix 0,ix 1,sx [],.sl true [],yA,.sl true [],zc,ix 1,sx [],.sl false [],za,.sl false [],Wv,ix 1,zb,za],.sl false [[ix 0]]],.aE [WC,bx true,ix 0])::acH
def acJ:List Fa:=(179,[eJ,ix 0,ix 1],.aE [ze,ix 0])::acI
def acK:List Fa:=(179,[eJ,ix 1,ix 1],.aE [.sl true [],ix 0])::acJ
def acL:List Fa:=(117,[eJ],.aE [ze,ix 0])::acK
def acM:List Fa:=(67,[Cn],bx true)::acL
def WG:List Fa:=(33,[eJ,pG],bx true)::acM
def WH:List Fa:=(40,[eJ,pG,NP],.aE [Wz,bx true])::WG
def WI:List Fa:=(15,[eJ,pG,NP],.aE [gT,ix 0])::WH
def WJ:List Fa:=(40,[eJ,pG,NQ],.aE [WA,bx true])::WI
def WK:List Fa:=(15,[eJ,pG,NQ],.aE [pH,ix 0])::WJ
def WL:List Fa:=(180,[eJ,Co],.aE [gT,pH,ix 0])::WK
def WM:List Fa:=(67,[.sl false []],bx true)::WL
def WN:List Fa:=(33,[eJ,gT],bx true)::WM
def WO:List Fa:=(66,[vU],.aE [ix 0,ix 0])::WN
def WQ:List Fa:=(33,[vU,gT],bx true)::WO
def WR:List Fa:=(11,[vU,gT],Du)::WQ
def WS:List Fa:=(15,[vU,gT,.agg [ix 2,ix 0,ix 0,.sl false []]],.aE [pI,ix 0])::WR
def WT:List Fa:=(353,[gT,pI],bx false)::WS
def WU:List Fa:=(11,[eJ,gT],Du)::WT
def WV:List Fa:=(15,[eJ,gT,.agg [ix 2,ix 0,ix 0,.sl false []]],.aE [pI,ix 0])::WU
def WW:List Fa:=(67,[Wx],bx true)::WV
def WX:List Fa:=(33,[eJ,pI],bx true)::WW
def WY:List Fa:=(11,[eJ,pI],.sl true [])::WX
def WZ:List Fa:=(258,[ix 2,pI],.aE [.agg [bx false,E8,Wr],ix 0])::WY
def W0:List Fa:=(181,[eJ,gT,ix 2,ix 10],.aE [WB,ix 0])::WZ
def W1:List Fa:=(33,[eJ,pH],bx true)::W0
def W2:List Fa:=(33,[vU,pH],bx true)::W1
def W3:List Fa:=(11,[vU,pH],Du)::W2
def W4:List Fa:=(15,[vU,pH,.agg [ix 2,ix 0,ix 0,.sl false []]],.aE [zd,ix 0])::W3
def W5:List Fa:=(353,[pH,zd],bx false)::W4
def W6:List Fa:=(11,[eJ,pH],Du)::W5
def W7:List Fa:=(15,[eJ,pH,.agg [ix 2,ix 0,ix 0,.sl false []]],.aE [zd,ix 0])::W6
def W8:List Fa:=(67,[Wy],bx true)::W7
def W9:List Fa:=(33,[eJ,zd],bx true)::W8
def W_:List Fa:=(11,[eJ,zd],.sl true [])::W9
def Xa:List Fa:=(258,[ix 2,zd],.aE [.agg [bx false,E8,Ws],ix 0])::W_
def Xb:List Fa:=(181,[eJ,pH,ix 2,ix 10],.aE [.sl false [[bx false,E8,Ws]],ix 0])::Xa
def Xc:List Fa:=(118,[eJ,Co,ix 10],ix 2)::Xb
def Xd:List Fa:=(55,[eJ,ix 10],.aE [ze,.sl false [[ix 2]],ix 0])::Xc
def Xe:List Fa:=(26,[eJ,ix 10],.aE [ix 2,ix 0])::Xd
def Xf:List Fa:=(66,[iz],.aE [ix 0,ix 0])::Xe
def Xg:List Fa:=(179,[iz,ix 0,ix 0],.aE [.sl true [],ix 0])::Xf
def Xh:List Fa:=(253,[.agg [NR,WE,ix 0,ix 1,sx [],.sl true [],yA,.sl true [],zc,ix 1,sx [],.sl false [],za,.sl false [],Wu,ix 1,zb,za],.sl false [[ix 0]]],.aE [WC,bx true,ix 0])::Xg
def Xi:List Fa:=(179,[iz,ix 0,ix 1],.aE [ze,ix 0])::Xh
def Xj:List Fa:=(179,[iz,ix 1,ix 1],.aE [.sl true [],ix 0])::Xi
def Xk:List Fa:=(117,[iz],.aE [ze,ix 0])::Xj
def Xl:List Fa:=(33,[iz,pG],bx true)::Xk
def Xm:List Fa:=(40,[iz,pG,NP],.aE [Wz,bx true])::Xl
def Xn:List Fa:=(15,[iz,pG,NP],.aE [gT,ix 0])::Xm
def Xo:List Fa:=(40,[iz,pG,NQ],.aE [WA,bx true])::Xn
def Xp:List Fa:=(15,[iz,pG,NQ],.aE [gT,ix 0])::Xo
def Xq:List Fa:=(180,[iz,Co],.aE [gT,gT,ix 0])::Xp
def Xr:List Fa:=(33,[iz,gT],bx true)::Xq
def Xs:List Fa:=(66,[E9],.aE [ix 0,ix 0])::Xr
def Xt:List Fa:=(33,[E9,gT],bx true)::Xs
def Xu:List Fa:=(11,[E9,gT],Du)::Xt
def Xv:List Fa:=(15,[E9,gT,.agg [ix 2,ix 0,ix 0,.sl false []]],.aE [pI,ix 0])::Xu
def Xw:List Fa:=(11,[iz,gT],Du)::Xv
def Xx:List Fa:=(15,[iz,gT,.agg [ix 2,ix 0,ix 0,.sl false []]],.aE [pI,ix 0])::Xw
def Xy:List Fa:=(33,[iz,pI],bx true)::Xx
def Xz:List Fa:=(11,[iz,pI],.sl true [])::Xy
def XA:List Fa:=(181,[iz,gT,ix 2,ix 10],.aE [WB,ix 0])::Xz
def XB:List Fa:=(118,[iz,Co,ix 10],ix 1)::XA
def XC:List Fa:=(55,[iz,ix 10],.aE [ze,.sl false [[ix 1]],ix 0])::XB
def XD:List Fa:=(26,[iz,ix 10],.aE [ix 1,ix 0])::XC
def ag_:List Fa:=(54,[eJ,ix 10],.aE [Co,bx true])::XD
section
variable {w0:World}(hu:ah Tryz.prog w0 292 [uA,uB] uR)
include hu
theorem alB:aI w0 acD:=have _:=hu;aI.nil
theorem alC:aI w0 acE:=aI.cons (bf hu) (alB hu) (by kernel_rfl)
theorem alD:aI w0 acF:=aI.cons (bf hu) (alC hu) (by kernel_rfl)
theorem alE:aI w0 acG:=aI.cons (bf hu) (alD hu) (by kernel_rfl)
theorem alF:aI w0 acH:=aI.cons (bf hu) (alE hu) (by kernel_rfl)
theorem alG:aI w0 acI:=aI.cons (bf hu) (alF hu) (by kernel_rfl)
theorem alH:aI w0 acJ:=aI.cons (bf hu) (alG hu) (by kernel_rfl)
theorem alI:aI w0 acK:=aI.cons (bf hu) (alH hu) (by kernel_rfl)
theorem alJ:aI w0 acL:=aI.cons (bf hu) (alI hu) (by kernel_rfl)
theorem alK:aI w0 acM:=aI.cons (bf hu) (alJ hu) (by kernel_rfl)
theorem aha:aI w0 WG:=aI.cons (bf hu) (alK hu) (by kernel_rfl)
theorem ahb:aI w0 WH:=aI.cons (bf hu) (aha hu) (by kernel_rfl)
theorem ahc:aI w0 WI:=aI.cons (bf hu) (ahb hu) (by kernel_rfl)
theorem ahd:aI w0 WJ:=aI.cons (bf hu) (ahc hu) (by kernel_rfl)
theorem ahe:aI w0 WK:=aI.cons (bf hu) (ahd hu) (by kernel_rfl)
theorem ahf:aI w0 WL:=aI.cons (bf hu) (ahe hu) (by kernel_rfl)
theorem ahg:aI w0 WM:=aI.cons (bf hu) (ahf hu) (by kernel_rfl)
theorem ahh:aI w0 WN:=aI.cons (bf hu) (ahg hu) (by kernel_rfl)
theorem ahi:aI w0 WO:=aI.cons (bf hu) (ahh hu) (by kernel_rfl)
theorem ahj:aI w0 WQ:=aI.cons (bf hu) (ahi hu) (by kernel_rfl)
theorem ahk:aI w0 WR:=aI.cons (bf hu) (ahj hu) (by kernel_rfl)
theorem ahl:aI w0 WS:=aI.cons (bf hu) (ahk hu) (by kernel_rfl)
theorem ahm:aI w0 WT:=aI.cons (bf hu) (ahl hu) (by kernel_rfl)
theorem ahn:aI w0 WU:=aI.cons (bf hu) (ahm hu) (by kernel_rfl)
theorem aho:aI w0 WV:=aI.cons (bf hu) (ahn hu) (by kernel_rfl)
theorem ahp:aI w0 WW:=aI.cons (bf hu) (aho hu) (by kernel_rfl)
theorem ahq:aI w0 WX:=aI.cons (bf hu) (ahp hu) (by kernel_rfl)
theorem ahr:aI w0 WY:=aI.cons (bf hu) (ahq hu) (by kernel_rfl)
theorem ahs:aI w0 WZ:=aI.cons (bf hu) (ahr hu) (by kernel_rfl)
theorem aht:aI w0 W0:=aI.cons (bf hu) (ahs hu) (by kernel_rfl)
theorem ahu:aI w0 W1:=aI.cons (bf hu) (aht hu) (by kernel_rfl)
theorem ahv:aI w0 W2:=aI.cons (bf hu) (ahu hu) (by kernel_rfl)
theorem ahw:aI w0 W3:=aI.cons (bf hu) (ahv hu) (by kernel_rfl)
theorem ahx:aI w0 W4:=aI.cons (bf hu) (ahw hu) (by kernel_rfl)
theorem ahy:aI w0 W5:=aI.cons (bf hu) (ahx hu) (by kernel_rfl)
theorem ahz:aI w0 W6:=aI.cons (bf hu) (ahy hu) (by kernel_rfl)
theorem ahA:aI w0 W7:=aI.cons (bf hu) (ahz hu) (by kernel_rfl)
theorem ahB:aI w0 W8:=aI.cons (bf hu) (ahA hu) (by kernel_rfl)
theorem ahC:aI w0 W9:=aI.cons (bf hu) (ahB hu) (by kernel_rfl)
theorem ahD:aI w0 W_:=aI.cons (bf hu) (ahC hu) (by kernel_rfl)
theorem ahE:aI w0 Xa:=aI.cons (bf hu) (ahD hu) (by kernel_rfl)
theorem ahF:aI w0 Xb:=aI.cons (bf hu) (ahE hu) (by kernel_rfl)
theorem ahG:aI w0 Xc:=aI.cons (bf hu) (ahF hu) (by kernel_rfl)
theorem ahH:aI w0 Xd:=aI.cons (bf hu) (ahG hu) (by kernel_rfl)
theorem ahI:aI w0 Xe:=aI.cons (bf hu) (ahH hu) (by kernel_rfl)
theorem ahJ:aI w0 Xf:=aI.cons (bf hu) (ahI hu) (by kernel_rfl)
theorem ahK:aI w0 Xg:=aI.cons (bf hu) (ahJ hu) (by kernel_rfl)
theorem ahL:aI w0 Xh:=aI.cons (bf hu) (ahK hu) (by kernel_rfl)
theorem ahM:aI w0 Xi:=aI.cons (bf hu) (ahL hu) (by kernel_rfl)
theorem ahN:aI w0 Xj:=aI.cons (bf hu) (ahM hu) (by kernel_rfl)
theorem ahO:aI w0 Xk:=aI.cons (bf hu) (ahN hu) (by kernel_rfl)
theorem ahP:aI w0 Xl:=aI.cons (bf hu) (ahO hu) (by kernel_rfl)
theorem ahQ:aI w0 Xm:=aI.cons (bf hu) (ahP hu) (by kernel_rfl)
theorem ahR:aI w0 Xn:=aI.cons (bf hu) (ahQ hu) (by kernel_rfl)
theorem ahS:aI w0 Xo:=aI.cons (bf hu) (ahR hu) (by kernel_rfl)
theorem ahT:aI w0 Xp:=aI.cons (bf hu) (ahS hu) (by kernel_rfl)
theorem ahU:aI w0 Xq:=aI.cons (bf hu) (ahT hu) (by kernel_rfl)
theorem ahV:aI w0 Xr:=aI.cons (bf hu) (ahU hu) (by kernel_rfl)
theorem ahW:aI w0 Xs:=aI.cons (bf hu) (ahV hu) (by kernel_rfl)
theorem ahX:aI w0 Xt:=aI.cons (bf hu) (ahW hu) (by kernel_rfl)
theorem ahY:aI w0 Xu:=aI.cons (bf hu) (ahX hu) (by kernel_rfl)
theorem ahZ:aI w0 Xv:=aI.cons (bf hu) (ahY hu) (by kernel_rfl)
theorem ah0:aI w0 Xw:=aI.cons (bf hu) (ahZ hu) (by kernel_rfl)
theorem ah1:aI w0 Xx:=aI.cons (bf hu) (ah0 hu) (by kernel_rfl)
theorem ah2:aI w0 Xy:=aI.cons (bf hu) (ah1 hu) (by kernel_rfl)
theorem ah3:aI w0 Xz:=aI.cons (bf hu) (ah2 hu) (by kernel_rfl)
theorem ah4:aI w0 XA:=aI.cons (bf hu) (ah3 hu) (by kernel_rfl)
theorem ah5:aI w0 XB:=aI.cons (bf hu) (ah4 hu) (by kernel_rfl)
theorem ah6:aI w0 XC:=aI.cons (bf hu) (ah5 hu) (by kernel_rfl)
theorem ah7:aI w0 XD:=aI.cons (bf hu) (ah6 hu) (by kernel_rfl)
theorem ah8:aI w0 ag_:=aI.cons (bf hu) (ah7 hu) (by kernel_rfl)
theorem acN:ah Tryz.prog w0 21 [] (.v (.bool true)):=aI.last (bf hu) (ah8 hu) (by kernel_rfl)
end
end
theorem HN {n:ByteArray}{a:List Tm}(h:tC n a=true):n=⟨#[]⟩/\a=[]:=by
 unfold tC at h
 rw [Bool.and_eq_true] at h
 exact⟨Oh.1 (eq_of_beq h.1),List.isEmpty_iff.1 h.2⟩
mutual
theorem HO:∀ x:Tm,nB x=true->x.ok->eW x/\jM x/\Dp x/\zN x/\fX x=dG x
 |⟨k,i,n,a⟩,h,ho=>by
  rw [nB] at h
  rw [Tm.ok] at ho
  rw [eW,jM,Dp,zN,fX,dG]
  by_cases h0:k=0
  ·rw [if_pos h0] at h
   simp only [Bool.and_eq_true,decide_eq_true_eq] at h
   obtain⟨rfl,rfl⟩:=HN h.2
   rw [if_neg (by omega),if_neg (by omega)]
   exact⟨⟨by rw [iS];trivial,.inr rfl⟩,⟨by simp,ho.2.1,by rw [jR];trivial⟩,⟨by omega,by rw [vN];trivial⟩,⟨by omega,by rw [vK];trivial⟩,by rw [cN]⟩
  ·rw [if_neg h0] at h
   by_cases h1:k=1
   ·rw [if_pos h1] at h
    simp only [Bool.and_eq_true,decide_eq_true_eq] at h
    obtain⟨rfl,rfl⟩:=HN h.2
    rw [if_pos h1,if_neg (by omega)]
    exact⟨⟨rfl,rfl⟩,⟨by simp,ho.2.1,by rw [jR];trivial⟩,⟨fun _=>h.1.1,by rw [vN];trivial⟩,⟨fun _=>⟨h.1.1,by omega⟩,by rw [vK];trivial⟩,by rw [cN]⟩
   ·rw [if_neg h1] at h
    split at h
    ·rename_i h2
     simp only [Bool.and_eq_true,Bool.or_eq_true,beq_iff_eq,decide_eq_true_eq] at h
     obtain⟨p1,p2,p3,p4,p5⟩:=EO a h.2 ho.2.2
     rw [if_neg h1,if_pos h2]
     refine⟨⟨p1,.inl h2⟩,⟨?_,ho.2.1,p2⟩,⟨fun e=>absurd e h1,p3⟩,⟨fun e=>absurd e h1,p4⟩,by omega⟩
     rcases h.1.2 with h3|h3<;>omega
    ·cases h
theorem EO:∀ l:List Tm,mK l=true->mc l->iS l/\jR l/\vN l/\vK l/\cN l=bw l
 |[],_,_=>⟨by rw [iS];trivial,by rw [jR];trivial,by rw [vN];trivial,by rw [vK];trivial,by rw [cN,bw]⟩
 |x::l,h,ho=>by
  rw [mK,Bool.and_eq_true] at h
  rw [mc] at ho
  obtain⟨a1,a2,a3,a4,a5⟩:=HO x h.1 ho.1
  obtain⟨b1,b2,b3,b4,b5⟩:=EO l h.2 ho.2
  exact⟨by rw [iS];exact⟨a1,b1⟩,by rw [jR];exact⟨a2,b2⟩,by rw [vN];exact⟨a3,b3⟩,by rw [vK];exact⟨a4,b4⟩,by rw [cN,bw,a5,b5]⟩
end
theorem EP {x:Tm}(h:eY x=true) (ho:x.ok):eW x/\jM x/\Dp x/\zN x/\fX x<=200:=by
 unfold eY at h
 simp only [Bool.and_eq_true,decide_eq_true_eq] at h
 obtain⟨p1,p2,p3,p4,p5⟩:=HO x h.1.1 ho
 exact⟨p1,p2,p3,p4,by omega⟩
section
set_option maxRecDepth 100000
def yB (N:bj):Prop:=∀ i,i < N.length->(tn N i).k=1->0<=(tn N i).i/\(tn N i).i<=1099511627776
theorem yB.push {N:bj}(h:yB N) {t:Tm}{l:List Nat}(ht:t.k=1->0<=t.i/\t.i<=1099511627776):yB (N++[(t,l)]):=by
 intro i hi hk
 by_cases e:i < N.length
 ·have hp:∀ i,i < N.length->(N++[(t,l)])[i]?=N[i]?:=fun i hi=>List.getElem?_append_left hi
  rw [(dS hp e).1] at hk ⊢
  exact h i e hk
 ·have:i=N.length:=by rw [List.length_append,List.length_singleton] at hi;omega
  subst this
  rw [jC.1] at hk ⊢
  exact ht hk
mutual
theorem uN:∀ (N:bj) (t:Tm),yB N->zN t->yB (lI N t).1
 |N,⟨k,i,n,a⟩,h,ht=>by
  rw [zN] at ht
  rw [lI]
  split
  ·exact h
  ·exact (HP N a h ht.2).push ht.1
theorem HP:∀ (N:bj) (l:List Tm),yB N->vK l->yB (eI N l).1
 |N,[],h,_=>by rw [eI];exact h
 |N,x::l,h,ht=>by
  rw [vK] at ht
  rw [eI]
  exact HP _ l (uN N x h ht.1) ht.2
end
theorem oJ.vb {l:List (Tm × Tm)}{s s':PS}{b:Bool}(h:oJ l s b s'):GI s->yB s.N->(∀ e ∈ l,(eW e.1/\jM e.1/\zN e.1)/\eW e.2/\jM e.2/\zN e.2)->GI s'/\yB s'.N:=by
 induction h with
 |nil=>exact fun h1 h2 _=>⟨h1,h2⟩
 |@no a b l s j m h =>
  intro h1 h2 he
  obtain⟨⟨w1,a1,v1⟩,w2,a2,v2⟩:=he (a,b) (by simp)
  simp only at w1 a1 v1 w2 a2 v2
  have g1:=(h1.add w1 a1).1
  have g2:=(g1.add w2 a2).1
  have e1:=(nZ s a h1.V w1).1
  have e2:=(nZ (bH s a).1 b g1.V w2).1
  refine⟨g2.join h,?_⟩
  show yB (bH (bH s a).1 b).1.N
  rw [e2]
  refine uN _ _ ?_ v2
  rw [e1]
  exact uN _ _ h2 v1
 |@go a b l s s' j m r h k ih =>
  intro h1 h2 he
  obtain⟨⟨w1,a1,v1⟩,w2,a2,v2⟩:=he (a,b) (by simp)
  simp only at w1 a1 v1 w2 a2 v2
  have g1:=(h1.add w1 a1).1
  have g2:=(g1.add w2 a2).1
  have e1:=(nZ s a h1.V w1).1
  have e2:=(nZ (bH s a).1 b g1.V w2).1
  refine ih (g2.join h) ?_ fun e hx=>he e (by simp [hx])
  show yB (bH (bH s a).1 b).1.N
  rw [e2]
  refine uN _ _ ?_ v2
  rw [e1]
  exact uN _ _ h2 v1
theorem Qg:∀ {l m:List Int},l.Nodup->(∀ x ∈ l,x ∈ m)->l.length<=m.length
 |[],m,_,_=>Nat.zero_le _
 |x::l,m,hn,hs=>by
  rw [List.nodup_cons] at hn
  have h1:=Qg (l:=l) (m:=m.erase x) hn.2 fun y hy=>(List.mem_erase_of_ne (fun e=>hn.1 (by rw [<-e];exact hy))).2 (hs y (by simp [hy]))
  have h2:=List.length_erase_of_mem (hs x (by simp))
  have h3:0 < m.length:=List.length_pos_of_mem (hs x (by simp))
  rw [List.length_cons]
  omega
noncomputable def NS (l r:List Tm):List Bd × Int:=if (l.any fun x=>!(eY x))=true then ([],2) else if (r.any fun x=>!(eY x))=true then ([],2) else if l.length=r.length then tB se (l.zip r) else ([],9)
def Dv (ρ:Hd) (p:List Bd × Int):AV:=.aE [ID ρ p.1,iv p.2]
theorem mE {ρ:Hd}(p:List Bd × Int):Pure (Dv ρ p):=.aE (tA (pc _) .v)
theorem uO {ρ:Hd}{S:ad}{c:Int}:bp S (.aE [.sl true [],iv c]) (Dv ρ ([],c)):=by
 refine .aE rfl fun i a a' h1 h2=>?_
 match i with
 |0 =>
  obtain rfl:=oJ_ h1
  obtain rfl:=oJ_ h2
  rw [ID,cO]
  exact bp.wk
 |1 =>
  obtain rfl:=oJ_ h1
  obtain rfl:=oJ_ h2
  exact .refl _
 |i+2=>simp at h1
theorem Qh:∀ (E:List (Tm × Tm)),(∀ e ∈ E,fX e.1<=200/\fX e.2<=200)->wa E<=400*E.length
 |[],_=>by simp [wa]
 |e::E,h=>by
  have h1:=h e (by simp)
  have h2:=Qh E fun x hx=>h x (by simp [hx])
  rw [wa,List.length_cons]
  omega
theorem ah.fz {P:Program}{w0:World}{g:Nat}{l:List AV}{r r':AV}(h:ah P w0 g l r) (hf:∀ S,bp S r r') (hp:Pure r'):ah P w0 g l r':=by
 obtain⟨_,S',h2⟩:=h
 exact ah.xm h2 (hf _) hp
section
variable {w0:World}{ρ:Hd}
theorem acO {l r:List Tm}(hl:l.length<=100000000) (hr:r.length<=100000000) (zQ:∀ x ∈ l,x.ok) (kY:∀ x ∈ r,x.ok):ah Tryz.prog w0 292 [tl ρ l,tl ρ r] (Dv ρ (NS l r)):=by
 have qF:=Hr (w0:=w0) (ρ:=ρ) l (by omega) zQ
 have uH:=Hr (w0:=w0) (ρ:=ρ) r (by omega) kY
 unfold NS
 by_cases c1:(l.any fun x=>!(eY x))=true
 ·rw [if_pos c1]
  rw [c1] at qF
  exact ah.fz (pz (jV 2) (Sx qF)) (fun S=>uO) (mE _)
 rw [if_neg c1]
 rw [Bool.not_eq_true] at c1
 rw [c1] at qF
 by_cases c2:(r.any fun x=>!(eY x))=true
 ·rw [if_pos c2]
  rw [c2] at uH
  exact ah.fz (pz (jV 2) (Sy qF uH)) (fun S=>uO) (mE _)
 rw [if_neg c2]
 rw [Bool.not_eq_true] at c2
 rw [c2] at uH
 by_cases c3:l.length=r.length
 rotate_left
 ·rw [if_neg c3]
  exact ah.fz (pz (jV 9) (Sz qF uH c3)) (fun S=>uO) (mE _)
 rw [if_pos c3]
 have zJ:∀ x ∈ l,eW x/\jM x/\Dp x/\zN x/\fX x<=200:=fun x hx=>EP (by
  have:=List.any_eq_false.1 c1 x hx
  simpa using this) (zQ x hx)
 have zK:∀ x ∈ r,eW x/\jM x/\Dp x/\zN x/\fX x<=200:=fun x hx=>EP (by
  have:=List.any_eq_false.1 c2 x hx
  simpa using this) (kY x hx)
 have hE:∀ e ∈ l.zip r,e.1 ∈ l/\e.2 ∈ r:=fun e he=>⟨(List.of_mem_zip he).1,(List.of_mem_zip he).2⟩
 have bh:wa (l.zip r)<=100000000000:=by
  have:=Qh (l.zip r) fun e he=>⟨(zJ _ (hE e he).1).2.2.2.2,(zK _ (hE e he).2).2.2.2.2⟩
  rw [List.length_zip] at this
  omega
 obtain⟨b,s',hA,hf,ht⟩:=Yo (l.zip r) (fun e he=>⟨⟨(zJ _ (hE e he).1).1,(zJ _ (hE e he).1).2.1⟩,(zK _ (hE e he).2).1,(zK _ (hE e he).2).2.1⟩) bh
 have Ty:∀ x ∈ l,eW x/\jM x:=fun x hx=>⟨(zJ x hx).1,(zJ x hx).2.1⟩
 have Tz:∀ x ∈ r,eW x/\jM x:=fun x hx=>⟨(zK x hx).1,(zK x hx).2.1⟩
 have bad:(b=true->aK Tryz.prog w0 340 [.pt 0 6 0 0] (au (gS ρ s' []) 7) (.aE [.sl true [],iv 13]) (au [] 7))->tB se (l.zip r)=([],13)->ah Tryz.prog w0 292 [tl ρ l,tl ρ r] (Dv ρ (tB se (l.zip r))):=fun h1 h2=>by
  rw [h2]
  exact ah.fz (pz (jV 13) (KL (by omega) qF uH Ty Tz c3 bh hA (.sl fun r hr=>by cases hr) (fun _=>⟨⟨rfl,rfl⟩,rfl⟩) h1)) (fun S=>uO) (mE _)
 cases b with
 |false=>exact bad (fun h=>by cases h) (hf rfl)
 |true =>
  obtain⟨hV,oW,hle,b2,up,kn,hm,acP,acQ⟩:=ht rfl
  obtain⟨B6,acR⟩:=hA.vb .nil (fun i hi=>by cases hi) fun e he=>⟨⟨(zJ _ (hE e he).1).1,(zJ _ (hE e he).1).2.1,(zJ _ (hE e he).1).2.2.2.1⟩,(zK _ (hE e he).2).1,(zK _ (hE e he).2).2.1,(zK _ (hE e he).2).2.2.2.1⟩
  have Nt:∀ x ∈ s'.vs.map (·.1),∃ i,i < s'.N.length/\(tn s'.N i).k=1/\(tn s'.N i).i=x:=fun x hx=>by
   obtain⟨k,hk⟩:=pR.1 hx
   rw [hV.vs] at hk
   cases hv:lH s'.N x with
   |none=>rw [hv] at hk;cases hk
   |some j=>exact⟨j,wX hv⟩
  have Wm:∀ x ∈ s'.vs.map (·.1),0<=x/\x<=1099511627776:=fun x hx=>by
   obtain⟨i,h1,h2,h3⟩:=Nt x hx
   have:=acR i h1 h2
   rw [h3] at this
   exact this
  have hvl:s'.vs.length<=s'.N.length:=by
   have:=Qg (l:=s'.vs.map (·.1)) (m:=s'.N.map fun x=>x.1.i) hV.nd fun x hx=>by
    obtain⟨i,h1,h2,h3⟩:=Nt x hx
    refine List.mem_map.2 ⟨s'.N[i],List.getElem_mem h1,?_⟩
    rw [<-h3]
    unfold tn
    rw [List.getElem?_eq_getElem h1]
    rfl
   rwa [List.length_map,List.length_map] at this
  obtain⟨N,vs,⟨Ve,sh,ls⟩⟩:=s'
  simp only at hV oW hle hm acP acQ B6 acR Wm hvl
  have hu:Ve.length=N.length:=hV.up
  have hG:∀ {R:AV},Pure R->(b2=false->R=.aE [.sl true [],iv 13])->(b2=true->∃ L M ro,tV L/\(∀ v,v ∈ L ↔ v ∈ vs.map (·.1))/\L.length<=100000000000/\sd N sh ls vs kn M L up []=some ro/\R=acm ρ ro) ->
    aK Tryz.prog w0 340 [.pt 0 6 0 0] (au (gS ρ ⟨N,vs,⟨Ve,sh,ls⟩⟩ []) 7) R (au [] 7):=fun hp h1 h2=>by
   rw [<-fQ (nl:=N.length) (ul:=N.length) rfl hu]
   exact Tv (Ee.of B6.G B6.A) rfl (by simp only at *;omega) (by simp only at *;omega) hu (by simp only at *;omega) hV.nd Wm hm hp h1 h2
  cases b2 with
  |false=>exact bad (fun _=>hG (jV 13) (fun _=>rfl) fun h=>by cases h) (acP rfl)
  |true =>
   have hs:=List.mergeSort_perm (vs.map (·.1)) (fun x y=>decide (x<=y))
   obtain⟨L,hL⟩:∃ L,L=(vs.map (·.1)).mergeSort (fun x y=>decide (x<=y)):=⟨_,rfl⟩
   have HK:tV L:=by
    rw [hL]
    refine qt ?_ (hs.nodup_iff.2 hV.nd)
    have:=List.pairwise_mergeSort (le:=fun x y:Int=>decide (x<=y)) (fun a b c h1 h2=>by simp only [decide_eq_true_eq] at *;omega) (fun a b=>by simp only [Bool.or_eq_true,decide_eq_true_eq];omega) (vs.map (·.1))
    exact this.imp fun h=>by simpa using h
   have fp:∀ v,v ∈ L ↔ v ∈ vs.map (·.1):=fun v=>by rw [hL];exact hs.mem_iff
   have Gg:L.length<=100000000000:=by rw [hL,List.length_mergeSort,List.length_map];omega
   obtain⟨M,ro,ho,he⟩:=acQ rfl L HK fp
   rw [he]
   cases ro with
   |none =>
    exact ah.fz (pz (jV 6) (KL (by omega) qF uH Ty Tz c3 bh hA (.sl fun r hr=>by cases hr) (fun h=>by cases h) fun _=>hG (jV 6) (fun h=>by cases h) fun _=>⟨L,M,none,HK,fp,Gg,ho,rfl⟩)) (fun S=>uO) (mE _)
   |some o =>
    exact pz (mE (o,0)) (KL (by omega) qF uH Ty Tz c3 bh hA (pc o) (fun h=>by cases h) fun _=>hG (mE (o,0)) (fun h=>by cases h) fun _=>⟨L,M,some o,HK,fp,Gg,ho,rfl⟩)
end
end
section
set_option maxRecDepth 100000
theorem ah9 (v:Int):eW (vr v):=by
 rw [vr,eW,if_pos rfl]
 exact⟨rfl,rfl⟩
theorem Qi {v w:Int}:qg v (vr w) ↔ w=v:=by rw [vr,qg,if_pos rfl]
theorem HQ {v w:Int}(h:vr v=vr w):v=w:=by
 injection h
theorem XE (v:Int):(vr v).ok:=by
 rw [vr,Tm.ok,mc]
 exact⟨by simp,by decide,trivial⟩
def vV (v:Int):Tm:=if v=1 then vr 0 else vr v
theorem acS:wW [(vr 0,vr 1)] vV [1]:=by
 refine⟨⟨fun v=>?_,fun v w h=>?_,fun v w h=>?_,fun e he=>?_,fun f hf v=>?_⟩,?_,fun v=>?_⟩
 ·unfold vV
  split<;>exact ah9 _
 ·unfold vV at h ⊢
  split at h
  ·rw [Qi] at h
   rw [if_neg (by omega)]
  ·rw [Qi] at h
   rw [if_neg (by omega)]
 ·unfold vV at h
  split at h
  ·have:=HQ h
   omega
  ·have:=HQ h
   omega
 ·obtain rfl:=List.mem_singleton.1 he
  simp only [tT]
  unfold vV
  rw [if_neg (by decide),if_pos rfl]
 ·have h:=hf (vr 0,vr 1) (by simp)
  simp only [tT] at h
  unfold vV
  split
  ·rename_i e
   rw [tT,e,h]
  ·rw [tT]
 ·exact⟨fun y h=>(by cases h),trivial⟩
 ·unfold vV
  rw [List.mem_singleton]
  constructor
  ·intro h
   rw [if_pos h]
   intro e
   have:=HQ e
   omega
  ·intro h
   by_cases e:v=1
   ·exact e
   ·rw [if_neg e] at h
    exact absurd rfl h
theorem acT:NS [vr 0] [vr 1]=([⟨1,vr 0⟩],0):=by
 have r0:eY (vr 0)=true:=by kernel_rfl
 have r1:eY (vr 1)=true:=by kernel_rfl
 have b0:se (vr 0)=false:=by kernel_rfl
 unfold NS
 rw [if_neg (by simp [r0]),if_neg (by simp [r1]),if_pos (by rfl:[vr 0].length=[vr 1].length),show [vr 0].zip [vr 1]=[(vr 0,vr 1)] from rfl,DN acS]
 unfold JV
 have e:vV 1=vr 0:=by unfold vV;rw [if_pos rfl]
 rw [if_neg (by simp [e,b0])]
 simp [e]
section
variable {w0:World}
theorem acU:ah Tryz.prog w0 292 [uA,uB] uR:=by
 have h:=acO (w0:=w0) (ρ:=.plain) (l:=[vr 0]) (r:=[vr 1]) (by simp) (by simp) (fun x hx=>by obtain rfl:=List.mem_singleton.1 hx;exact XE _) (fun x hx=>by obtain rfl:=List.mem_singleton.1 hx;exact XE _)
 rw [acT] at h
 have e1:∀ v:Int,tl .plain [vr v]=.sl false [[.v (.int .i64 1),.v (.int .i64 v),.v (.string ⟨#[]⟩),.sl false []]]:=fun v=>by
  rw [tl,cO,List.map_cons,List.map_nil,vr,ov,Cx]
  rfl
 have e2:Dv .plain ([⟨1,vr 0⟩],0)=uR:=by
  unfold Dv
  rw [ID,cO,List.map_cons,List.map_nil,sR,vr]
  simp only [tl,cO,List.map_nil]
  rfl
 rw [e1,e1,e2] at h
 exact h
end
end
section
namespace ConfluenceAlone
open Go.ChangeShapes Go.WideShapes Go.ChangeAt Go.RowKit
open Go.ChangeMaps (open_string shut_string)
set_option maxRecDepth 100000 in
theorem TA (H:Type) (enc:TypeId × Value->H) (W:World) (base:Nat) (args:Array Value) (ds gs:List (DataW H)) (before:List MemPlace)
  (qh:∀ (j:Nat) t v,Tryz.f7.params[j]?=some t->args[j]?=some v->Value.okWide Tryz.prog W .any base t v)
  (hW:DataW.Whole enc Tryz.prog Tryz.f7.params.toList Rows.confluenceAloneSpec.vars false W args.toList ds gs before) (hB:Rows.uptoBulkAll (ds++gs)<=1048576) :
  Calls Tryz.prog 7 args W fun e W'=>∃ v,e=.returned v/\Rows.confluenceAloneSpec.post enc Tryz.prog Tryz.f7 false true false false W args v W':=by
 have hW0:=hW
 obtain⟨p,q,hA,hV,rfl,qy,zy⟩:=hW
 obtain⟨rfl,rfl⟩:=trodVars_none hV
 have wP:=hA
 rw [Tryz.params7] at hA qh
 obtain⟨v0,vs0,d0,ds0,p0,q0,aY,rfl,rfl,h0,r0⟩:=trodAll_cons hA
 obtain⟨v1,kC,d1,ds1,p1,q1,rfl,rfl,rfl,h1,r1⟩:=trodAll_cons r0
 obtain⟨rfl,rfl,rfl⟩:=trodAll_nil r1
 obtain rfl:args=#[v0,v1]:=by cases args;simp_all
 simp only [List.cons_append,List.nil_append,Rows.uptoBulkAll] at hB
 obtain⟨x0,w0,e0⟩:=ZG (qh 0 25 v0 rfl rfl) h0
 obtain⟨x1,e1⟩:=XO h1 (qh 1 3 v1 rfl rfl)
 obtain⟨k0,k1⟩:=acy (p:=x0) (by omega)
 have k2:=acA (p:=x0) (by omega)
 refine ((YS (w0:=W) (ρ:=.plain) (acN acU) x0 x1 k0 k2).calls (adP e0 e1)).mono fun e W' ⟨he,hb⟩=>?_
 subst he
 exact⟨_,rfl,Rp laidOut (by rw [Tryz.params7];simp only [List.mem_cons,List.not_mem_nil,or_false];intro t ht;rcases ht with rfl|rfl<;>exact⟨by kernel_rfl,by decide +kernel⟩) rfl rfl Tryz.underlying4 rfl hW0 hb⟩
theorem TB (os:Os):laidMet Tryz.prog Rows.confluenceAloneUptoRow.laid ((xz os).forCall (fun _ _=>0) ⟨#[],#[.agg #[.slice none 0 0,.slice none 0 0],.int .i64 0],[]⟩).memory :=
 laidMet_of_run' 8 (by kernel_rfl) (by kernel_rfl)
theorem reads (os:Os) {H:Type}(enc:TypeId × Value->H):∃ Qj,DataW.whole enc Tryz.prog ((xz os).forCall (fun _ _=>0) ⟨#[],#[.agg #[.slice none 0 0,.slice none 0 0],.int .i64 0],[]⟩).memory Tryz.f7.params.toList Rows.confluenceAloneSpec.vars false ((#[.agg #[.slice none 0 0,.slice none 0 0],.int .i64 0]:Array Value)).toList 8=some ([.agg [.nil,.nil],.lit (.int .i64 0)],[],Qj) :=
 ⟨[],by kernel_rfl⟩
set_option maxRecDepth 100000 in
theorem lifted (os:Os) (started:os.Started) (H:Type) (enc:TypeId × Value->H) (F:Stop.Interp) :
  ReturnsInHanded {} Tryz.checked os 7 .any ((Rows.OpenSpec.upto Rows.confluenceAloneSpec).preRow enc Tryz.prog Tryz.f7 Rows.confluenceAloneUptoRow.domain false Rows.confluenceAloneUptoRow.laid) (((Rows.OpenSpec.upto Rows.confluenceAloneSpec).at F).post enc Tryz.prog Tryz.f7 false true false false):=by
 obtain⟨Qj,hx⟩:=reads os enc
 refine returnsInHanded_of_row (C:=Tryz.checked) (s:=Rows.OpenSpec.upto Rows.confluenceAloneSpec) own started (by kernel_rfl) Tryz.func7
  (witness_row_at (enc:=enc) (C:=Tryz.checked) false (xz os) #[.agg #[.slice none 0 0,.slice none 0 0],.int .i64 0] rfl (by kernel_rfl) (by kernel_rfl) (by kernel_rfl)
   (OpenSpec.preRow_of_cond 8 hx (by kernel_rfl) (fun k hk=>by obtain rfl:=oJ_ hk;kernel_rfl) (by kernel_rfl) (TB os))) ?_
 intro W base args ds gs before qh hW _ hk _ _ _ _
 exact TA H enc W base args ds gs before qh hW (of_decide_eq_true (hk _ rfl))
set_option maxRecDepth 100000 in
theorem closed:joinedFacts Tryz.prog 7 Tryz.f7 (Rows.OpenSpec.upto Rows.confluenceAloneSpec).bare Rows.confluenceAloneUptoRow=true:=by
 unfold joinedFacts
 exact dU (dU (dU (dU (dU (dU (dU (dU (dU (dU (dU (dU (dU (dU (dU (dU (dU (dU (dU (dU (dU (dU (dU (dU (dU (dU (dU (dU (dU (dU (dU k0 laidOut) HS) k3) k4) k5) k6) k7) k8) k9) k10) k11) k12) k13) k14) k15) k16) k17) k18) k19) k20) k21) k22) k23) X4) X5) k26) k27) k28) k29) k30) k31
theorem said:Rows.ConfluenceAloneUptoSaid :=
 OpenClaim.holds_of_cond 7 Tryz.f7 rfl rfl rfl rfl rfl rfl rfl ⟨rfl,rfl,rfl,rfl,rfl⟩ rfl rfl rfl rfl rfl (by kernel_rfl) Tryz.func7 closed
  (of_decide_eq_true (by kernel_rfl)) (by unfold Func.isWrapper;first|(rw [if_pos (by decide +kernel)];kernel_rfl)|(rw [if_neg (by decide +kernel)];exact⟨rfl,rfl⟩))
  (fun os started H enc _ F=>by rw [OpenClaim.pre_eq_preRow];exact lifted os started H enc F)
end ConfluenceAlone
end
end Go.Proofs.YtgjfgekaclobaaaGreat
