import Derived.Test.YtgphljokbodciaaGreatS50
namespace Go.Proofs.YtgphljokbodciaaGreat
set_option linter.unusedVariables false
set_option linter.unusedSimpArgs false
open Go.RowKit
section
namespace RefinedStarts
set_option maxRecDepth 100000
open Go.ChangeShapes Go.WideShapes Go.ChangeAt Go.RowKit
theorem k0:(Rows.refinedStartsUptoRow.wf (OpenSpec.ofChange (Rows.OpenSpec.upto Rows.refinedStartsSpec).bare))=true:=by kernel_rfl
theorem k3:(Tryz.f11.params.all (Tryz.prog.readableRec ·))=true:=by kernel_rfl
theorem k4:(namedTie Tryz.prog Rows.refinedStartsUptoRow.named (Rows.OpenSpec.upto Rows.refinedStartsSpec).bare.vars)=true:=by kernel_rfl
theorem k5:((Rows.refinedStartsUptoRow.stops == []))=true:=by kernel_rfl
theorem k6:((Tryz.prog.stops == []))=true:=by kernel_rfl
theorem k7:((Rows.refinedStartsUptoRow.knobs == []))=true:=by kernel_rfl
theorem k8:((Tryz.prog.stopKnobs == []))=true:=by kernel_rfl
theorem k9:((Rows.refinedStartsUptoRow.inPlace == Tryz.prog.inPlace 11))=true:=by kernel_rfl
theorem k10:((Rows.refinedStartsUptoRow.unfollowed == Tryz.prog.unfollowed 11))=true:=by kernel_rfl
theorem k11:((Rows.refinedStartsUptoRow.recurses == Tryz.prog.recurses 11))=true:=by kernel_rfl
theorem k12:((Rows.refinedStartsUptoRow.named == Tryz.prog.varsNamed 11))=true:=by kernel_rfl
theorem k13:((Rows.refinedStartsUptoRow.maps == (Tryz.f11.params.toList++(Rows.OpenSpec.upto Rows.refinedStartsSpec).bare.plain.varTypes Tryz.prog).any (Tryz.prog.mapsRec ·)))=true:=by kernel_rfl
theorem k14:((Rows.refinedStartsUptoRow.ifaces == (Tryz.f11.params.toList++(Rows.OpenSpec.upto Rows.refinedStartsSpec).bare.plain.varTypes Tryz.prog).any (Tryz.prog.ifacesRec ·)))=true:=by kernel_rfl
theorem k15:((Rows.refinedStartsUptoRow.mapsOut == Tryz.prog.mapsAmong Tryz.f11.resultTypes.toList))=true:=by kernel_rfl
theorem k16:((Rows.refinedStartsUptoRow.loops == (Tryz.f11.params.toList++(Rows.OpenSpec.upto Rows.refinedStartsSpec).bare.plain.varTypes Tryz.prog).any (Tryz.prog.loopsFrom ·)))=true:=by kernel_rfl
theorem k17:((Rows.refinedStartsUptoRow.wideKeys == (Tryz.f11.params.toList++(Rows.OpenSpec.upto Rows.refinedStartsSpec).bare.plain.varTypes Tryz.prog++Tryz.f11.resultTypes.toList).any (Tryz.prog.wideKeysFrom ·)))=true:=by kernel_rfl
theorem k18:((Rows.OpenSpec.upto Rows.refinedStartsSpec).bare.vars.all (Tryz.prog.varReadable ·))=true:=by kernel_rfl
theorem k19:(Tryz.f11.resultTypes.all (fun t=>Tryz.prog.readableRec t && decide (t < Tryz.prog.types.size)))=true:=by kernel_rfl
theorem k20:((Rows.refinedStartsUptoRow.ifacesOut == Tryz.f11.resultTypes.toList.any (Tryz.prog.ifacesRec ·)))=true:=by kernel_rfl
theorem k21:((Rows.refinedStartsUptoRow.loopsOut == Tryz.f11.resultTypes.toList.any (Tryz.prog.loopsFrom ·)))=true:=by kernel_rfl
theorem k22:((Rows.refinedStartsUptoRow.plainKeys == Tryz.prog.plainKeys))=true:=by kernel_rfl
theorem k23:(Rows.refinedStartsUptoRow.shortTexts.isNone)=true:=by kernel_rfl
theorem k26:((Rows.refinedStartsUptoRow.lifted == Tryz.prog.liftsFinal))=true:=by kernel_rfl
theorem k27:((Tryz.prog.make == some Rows.refinedStartsUptoRow.make))=true:=by kernel_rfl
theorem k28:((Rows.refinedStartsUptoRow.kinds == (if Rows.refinedStartsUptoRow.domain.isEmpty then [] else Tryz.f11.params.toList.map fun t=>match Tryz.prog.underlying t with|some (.int k)=>some k|_=>none)))=true:=by kernel_rfl
theorem k29:((Rows.refinedStartsUptoRow.pinned == Rows.refinedStartsUptoRow.pinnedBy))=true:=by kernel_rfl
theorem k30:((Rows.refinedStartsUptoRow.veiled == (Tryz.f11.params.toList++(Rows.OpenSpec.upto Rows.refinedStartsSpec).bare.plain.varTypes Tryz.prog++Tryz.f11.resultTypes.toList).any (Tryz.prog.veiledRec ·)))=true:=by kernel_rfl
theorem k31:(Rows.refinedStartsUptoRow.veiledFits Tryz.prog Tryz.f11.params.toList (Tryz.f11.params.toList++(Rows.OpenSpec.upto Rows.refinedStartsSpec).bare.plain.varTypes Tryz.prog++Tryz.f11.resultTypes.toList))=true:=by kernel_rfl
end RefinedStarts
end
theorem gT {α:Type}{μ:α->Nat}:∀ {l:List α}{x:α},x ∈ l->μ x<=cJ μ l
 |y::l,x,h=>by
  rw [cJ]
  rcases List.mem_cons.1 h with rfl|h
  ·omega
  ·have:=gT (μ:=μ) h
   omega
theorem dS {α:Type}{μ:α->Nat}(h:∀ x,1<=μ x):∀ l:List α,l.length<=cJ μ l
 |[]=>Nat.le_refl _
 |x::l=>by
  have h1:=h x
  have h2:=dS h l
  rw [cJ,List.length_cons]
  omega
theorem rS {α:Type}{μ:α->Nat}:∀ a b:List α,cJ μ (a++b)=cJ μ a+cJ μ b
 |[],b=>by rw [List.nil_append,cJ];omega
 |x::a,b=>by rw [List.cons_append,cJ,cJ,rS a b];omega
theorem X_ (x:Tm):5<=mT x:=by obtain⟨k,i,n,a⟩:=x;rw [mT];omega
theorem Gy (l:List Tm):l.length<=mu l:=by rw [<-iC];exact dS (fun x=>by have:=X_ x;omega) l
mutual
theorem S5:∀ (N:Nat) (x:Tm),N<=1099511627776->mT x<=N->x.ok
 |N,⟨k,i,n,a⟩,hN,h=>by
  rw [mT] at h
  have:=Gy a
  rw [Tm.ok,CQ]
  exact⟨by omega,by omega,zP N a hN (by omega)⟩
theorem zP:∀ (N:Nat) (l:List Tm),N<=1099511627776->mu l<=N->er l
 |N,[],_,_=>by rw [er];trivial
 |N,x::l,hN,h=>by
  rw [mu] at h
  rw [er]
  exact⟨S5 N x hN (by omega),zP N l hN (by omega)⟩
end
mutual
theorem Gz:∀ x:Tm,cQ x<=mT x
 |⟨k,i,n,a⟩=>by
  have:=oR a
  rw [cQ,mT]
  split<;>omega
theorem oR:∀ l:List Tm,bj l<=mu l
 |[]=>by rw [bj,mu];exact Nat.le_refl _
 |x::l=>by
  have:=Gz x
  have:=oR l
  rw [bj,mu]
  omega
end
theorem EC {l:List Tm}(h:mu l<=1099511627776):nv l:=⟨zP _ l (Nat.le_refl _) h,Nat.le_trans (oR l) h⟩
theorem zQ {x:Gl}(h:lK x<=1099511627776):q9 x:=by
 unfold lK at h
 exact⟨EC (by omega),by omega⟩
theorem qx (x:At):1<=kL x:=by unfold kL;omega
theorem wU (x:Gl):1<=lK x:=by unfold lK;omega
theorem L6:∀ l:List At,mu (dJ l)<=cJ kL l
 |[]=>Nat.le_refl _
 |x::l=>by
  have h:=L6 l
  rw [show dJ (x::l)=x.a++dJ l from rfl,<-iC,rS,iC,iC,cJ,kL]
  omega
theorem L7:∀ l:List Gl,mu (ji l)<=cJ lK l
 |[]=>Nat.le_refl _
 |x::l=>by
  have h:=L7 l
  rw [show ji (x::l)=x.a++ji l from rfl,<-iC,rS,iC,iC,cJ,lK]
  omega
theorem Kg:∀ l:List At,(uM l).length<=cJ kL l
 |[]=>Nat.le_refl _
 |x::l=>by
  have h:=Kg l
  have h1:=nF x.a
  have h2:=oR x.a
  rw [show uM (x::l)=varsOf x.a++uM l from rfl,List.length_append,cJ,kL]
  omega
theorem Kh:∀ l:List Gl,(tr l).length<=cJ lK l
 |[]=>Nat.le_refl _
 |x::l=>by
  have h:=Kh l
  have h1:=nF x.a
  have h2:=oR x.a
  rw [show tr (x::l)=varsOf x.a++tr l from rfl,List.length_append,cJ,lK]
  omega
theorem Ya {r:Rl}(h:sy r<=1048576):vS r:=by
 have a1:=dS qx r.aT
 have a2:=dS qx r.rem
 have a3:=dS wU r.guard
 have a4:=dS wU r.body
 have b1:=Kg r.aT
 have b2:=Kg r.rem
 have b3:=Kh r.guard
 have b4:=Kh r.body
 unfold sy at h
 have at_:∀ x:At,kL x<=1048576->nv x.a/\x.n.size<=1099511627776:=fun x hx=>by
  unfold kL at hx
  exact⟨EC (by omega),by omega⟩
 refine⟨by omega,by omega,by omega,by omega,by omega,fun x hx=>at_ x ?_,fun x hx=>at_ x ?_,fun x hx=>zQ ?_,fun x hx=>zQ ?_,?_,?_⟩
 ·have:=gT (μ:=kL) hx;omega
 ·have:=gT (μ:=kL) hx;omega
 ·have:=gT (μ:=lK) hx;omega
 ·have:=gT (μ:=lK) hx;omega
 ·rw [pP,show zj [r.aT,r.rem]=uM r.aT++(uM r.rem++[]) from rfl,List.append_nil,List.length_append];omega
 ·rw [tv,show oe [r.guard,r.body]=tr r.guard++(tr r.body++[]) from rfl,List.append_nil,List.length_append];omega
theorem Yb {r:Rl}(h:sy r<=1048576):BU r:=by
 have a1:=dS qx r.aT
 have a2:=dS qx r.rem
 have a3:=dS wU r.guard
 have a4:=dS wU r.body
 unfold sy at h
 have k1:=L6 (r.aT++r.rem)
 have k2:=L7 (r.guard++r.body)
 rw [rS] at k1 k2
 have k3:mu (dJ (r.aT++r.rem)++ji (r.guard++r.body))<=1048576:=by
  rw [<-iC,rS,iC,iC]
  omega
 have k4:=Gy (dJ (r.aT++r.rem)++ji (r.guard++r.body))
 have k5:=oV (dJ (r.aT++r.rem)++ji (r.guard++r.body))
 have k6:=oR (dJ (r.aT++r.rem)++ji (r.guard++r.body))
 exact⟨by omega,by omega,by omega,zP _ _ (Nat.le_refl _) (by omega),by omega⟩
theorem Yc {p:Pg}(h:Ef p<=1048576):zE p/\∀ r ∈ p.rs,BU r:=by
 have a1:=dS (μ:=BR) (fun x=>by unfold BR;omega) p.ds
 have a2:=dS (μ:=sy) (fun x=>by unfold sy;omega) p.rs
 unfold Ef at h
 have hr:∀ r ∈ p.rs,sy r<=1048576:=fun r hr=>by
  have:=gT (μ:=sy) hr
  omega
 refine⟨⟨by omega,by omega,fun d hd=>?_,fun r h=>Ya (hr r h)⟩,fun r h=>Yb (hr r h)⟩
 have:=gT (μ:=BR) hd
 unfold BR at this a1 h
 omega
section
set_option maxRecDepth 100000
attribute [local irreducible] ah aV ad ab
def Yd:CF Tryz.f83:=⟨_,by conv=>lhs;cbv⟩
theorem agq:aD Tryz.prog 83 Yd.1 Tryz.f83.ntmps:=aO Tryz.func83 Yd.2 Tryz.call83
def gG:List Nat:=[0,1,2,7,8,9,6,22,26,36,40,49,53,62]
def Ye:CF Tryz.f15:=⟨_,by conv=>lhs;cbv⟩
theorem ags:aD Tryz.prog 15 Ye.1 Tryz.f15.ntmps:=aO Tryz.func15 Ye.2 Tryz.call15
def ot:List Nat:=[4,1,3,2,0,14,19,58,80]
def sH (x:At):Bool:=ql x.a
def mF (x:Gl):Bool:=ql x.a
def Ki (x:Im):Bool:=ql x.a
section
variable {w0:World}{ρ:Hd}
theorem GC (l:List At) (hl:l.length<=1099511627776) (Yf:∀ x ∈ l,nv x.a):ah Tryz.prog w0 69 [eK ρ l] (.v (.bool (l.all sH))):=by
 obtain⟨R,hR⟩:∃ R,R=l.all sH:=⟨_,rfl⟩
 rw [<-hR]
 refine agh.aH (by simp [Tryz.ntmps69]) (.v) ?_
 refine gq uP ?_
 refine ab.aP (σ:=Int) 0 0 [] (fun i=>[(0,eK ρ l),(3,.v (.int .i64 i))]) [] (fun _=>[]) (fun i=>∃ k:Nat,i=k/\k<=l.length/\R=(l.drop k).all sH) (fun i=>l.length - i.toNat) 0 ⟨0,rfl,by simp,by simpa using hR⟩ rfl cq ?_
 rintro i ⟨k,hi,hk,hp⟩
 clear hR
 refine gq uP ?_
 by_cases au:k < l.length
 ·obtain⟨x,hx,aQ⟩:=aA au
  have dY:=Yf x (aZ hx)
  have hT:=Ez (w0:=w0) (ρ:=ρ) x.a dY.len dY.2
  rw [aQ,List.all_cons,sH] at hp
  obtain⟨B,hB⟩:∃ B,B=ql x.a:=⟨_,rfl⟩
  rw [<-hB] at hp hT
  obtain⟨xn,xa⟩:=x
  repeat' (first
   |(refine ab.op rfl (ad.ind rfl rfl (ay (l:=l) hi hx) (aw fun _=>rfl)) ?_;refine gq uP ?_)
   |(refine ab.bif rfl (ad.ag rfl hT ⟨bB _,trivial⟩) (fun _=>?_) (fun _=>?_)<;>refine gq uP ?_)
   |(refine bq (fun hb=>?_) (fun hb=>?_)<;>(try simp only [aq] at hb)<;>(first|refine gq uP ?_))
   |(refine az fun m hm=>?_;(try rw [af] at hm);refine gq uP ?_)
   |(refine aS fun _ _=>?_;refine gq uP ?_)
   |(refine ab.ao ?_;refine gq uP ?_)
   |(refine ab.bK ?_;refine gq uP ?_)
   |(refine fq ?_))
  all_goals first
   |(exfalso;omega)
   |(rw [hp,show B=false by assumption];exact aI rfl)
   |(rw [show B=true by assumption,Bool.true_and] at hp;(refine ab.aK (σ:=Int) _ [] ?_ ?_ cq<;>first|omega|exact⟨k+1,by omega,by omega,hp⟩))
 ·skip
  repeat' (first
   |(refine bq (fun hb=>?_) (fun hb=>?_)<;>(try simp only [aq] at hb)<;>(first|refine gq uP ?_))
   |(refine az fun m hm=>?_;(try rw [af] at hm);refine gq uP ?_)
   |(refine ab.ao ?_;refine gq uP ?_)
   |(refine fq ?_))
  all_goals first
   |(exfalso;omega)
   |(rw [hp,List.drop_eq_nil_of_le (by omega)];exact aI rfl)
theorem uF (l:List Gl) (n:Int) (hl:l.length<=1099511627776) (Yf:∀ x ∈ l,nv x.a):ah Tryz.prog w0 48 [dC ρ l,iv n] (.v (.bool (decide ((l.length:Int)<=n) && l.all mF))):=by
 obtain⟨R,hR⟩:∃ R,R=(decide ((l.length:Int)<=n) && l.all mF):=⟨_,rfl⟩
 rw [<-hR]
 refine agi.aH (by simp [Tryz.ntmps48]) (.v) ?_
 refine gq sE ?_
 repeat' (first
  |(refine bq (fun hb=>?_) (fun hb=>?_)<;>(try simp only [aq] at hb)<;>(first|refine gq sE ?_))
  |(refine az fun m hm=>?_;(try rw [af] at hm);refine gq sE ?_)
  |(refine fq ?_))
 ·rw [hR,decide_eq_false (by omega)];exact aI rfl
 rw [decide_eq_true (by omega),Bool.true_and] at hR
 refine ab.aP (σ:=Int) 0 0 [] (fun i=>[(0,dC ρ l),(5,.v (.int .i64 i))]) [] (fun _=>[]) (fun i=>∃ k:Nat,i=k/\k<=l.length/\R=(l.drop k).all mF) (fun i=>l.length - i.toNat) 0 ⟨0,rfl,by simp,by simpa using hR⟩ rfl cq ?_
 rintro i ⟨k,hi,hk,hp⟩
 clear hR
 refine gq sE ?_
 by_cases au:k < l.length
 ·obtain⟨x,hx,aQ⟩:=aA au
  have dY:=Yf x (aZ hx)
  have hT:=Ez (w0:=w0) (ρ:=ρ) x.a dY.len dY.2
  rw [aQ,List.all_cons,mF] at hp
  obtain⟨B,hB⟩:∃ B,B=ql x.a:=⟨_,rfl⟩
  rw [<-hB] at hp hT
  obtain⟨xo,xn,xa⟩:=x
  repeat' (first
   |(refine ab.op rfl (ad.ind rfl rfl (ay (l:=l) hi hx) (aw fun _=>rfl)) ?_;refine gq sE ?_)
   |(refine ab.bif rfl (ad.ag rfl hT ⟨bB _,trivial⟩) (fun _=>?_) (fun _=>?_)<;>refine gq sE ?_)
   |(refine bq (fun hb=>?_) (fun hb=>?_)<;>(try simp only [aq] at hb)<;>(first|refine gq sE ?_))
   |(refine az fun m hm=>?_;(try rw [af] at hm);refine gq sE ?_)
   |(refine aS fun _ _=>?_;refine gq sE ?_)
   |(refine ab.ao ?_;refine gq sE ?_)
   |(refine ab.bK ?_;refine gq sE ?_)
   |(refine fq ?_))
  all_goals first
   |(exfalso;omega)
   |(rw [hp,show B=false by assumption];exact aI rfl)
   |(rw [show B=true by assumption,Bool.true_and] at hp;(refine ab.aK (σ:=Int) _ [] ?_ ?_ cq<;>first|omega|exact⟨k+1,by omega,by omega,hp⟩))
 ·skip
  repeat' (first
   |(refine bq (fun hb=>?_) (fun hb=>?_)<;>(try simp only [aq] at hb)<;>(first|refine gq sE ?_))
   |(refine az fun m hm=>?_;(try rw [af] at hm);refine gq sE ?_)
   |(refine ab.ao ?_;refine gq sE ?_)
   |(refine fq ?_))
  all_goals first
   |(exfalso;omega)
   |(rw [hp,List.drop_eq_nil_of_le (by omega)];exact aI rfl)
end
end
section
set_option maxRecDepth 100000
attribute [local irreducible] ah aV ad ab
def Yg:CF Tryz.f51:=⟨_,by conv=>lhs;cbv⟩
theorem agt:aD Tryz.prog 51 Yg.1 Tryz.f51.ntmps:=aO Tryz.func51 Yg.2 Tryz.call51
def lL:List Nat:=[3,7,2,68,4,0,1,6,16,40,56,67,69,66,9]
def zR (c:eD):Bool:=decide (c.stack.length<=1000) && (decide (1<=c.next) && (decide (c.next<=2147483648) && (decide (0<=c.fresh) && decide (c.fresh<=1048576))))
def qy (p:Pg) (c:eD):Bool:=decide ((pc p).2=0) && (zR c && (jP c.store && (jn c.binds && (iB c.b9 && (c.stack.all (nh p c (ep p.rs 0).length) && (c.store.all (pj p c) && (c.binds.all (pf c) && c.b9.all (ph p c))))))))
section
variable {P:Program}{w0:World}{B:Nat}{α:AA}{S:ae}
theorem cj.eZ {es:List (Value × AV)}(he:es=[]):cj P w0 B (.eZ none) α S (.mp S.nx) ⟨[],[(S.nx,some (.mp es))],true⟩:=by
 subst he
 intro n o hr
 obtain⟨t,y,kt,et,ho,hy,hu⟩:=uT hr
 refine⟨fun hp=>(by rw [ho] at hp;cases hp),(fun p hp=>by cases hp),fun T _ hT hm=>?_⟩
 have hm:=hm rfl
 obtain⟨G,x⟩:=T
 simp only at hm
 subst hm
 cases y with
 |none=>exact (A6 ho).ops fun c e=>by rw [ho] at e;cases e
 |some z=>cases hy
end
section
variable {w0:World}{ρ:Hd}
set_option maxHeartbeats 4000000 in
theorem L8 (p:Pg) (c:eD) (hp:zE p) (hs:xy c) (hn:(ep p.rs 0).length<=1099511627776) (hO:ah Tryz.prog w0 125 [pg ρ p] (LX ρ (ep p.rs 0))):ah Tryz.prog w0 51 [pg ρ p,rL ρ c] (.v (.bool (qy p c))):=by
 have hC:=Uj (w0:=w0) (ρ:=ρ) p hp
 have cZ:=KO (w0:=w0) (ρ:=ρ) c.store hs.st hs.sx
 have S6:=LA (w0:=w0) (ρ:=ρ) c.binds hs.bl hs.bx
 have S7:=LG (w0:=w0) (ρ:=ρ) c.b9 hs.fl hs.fx
 have lq:=mW (ρ:=ρ) p
 have ga:ba 4 (.arr 2 [iY ρ p] 0 true):=⟨fun row hr a ha=>by obtain rfl:=List.mem_singleton.1 hr;exact (j7 (ρ:=ρ) p a ha).bM,fun J h=>by cases h⟩
 have ez:ba 4 (.arr 7 [zM ρ c] 0 true):=⟨fun row hr a ha=>by obtain rfl:=List.mem_singleton.1 hr;exact (uC (ρ:=ρ) c a ha).bM,fun J h=>by cases h⟩
 have BZ:∀ f:FuncId,cD 4 (.fn (.func f) [.pt 3 11 0 0] []):=fun f=>.fn (fun a ha=>by obtain rfl:=List.mem_singleton.1 ha;exact .pt (by decide)) fun a ha=>by cases ha
 have S8:∀ {y:AV},Pure y->∀ a ∈ [.pt 3 11 0 0,y],cD 4 a:=fun hy a ha=>by simp only [List.mem_cons,List.not_mem_nil,or_false] at ha;rcases ha with rfl|rfl;exact .pt (by decide);exact hy.bM
 have hdl:=hp.ds
 have zS:∀ (kv:List (Int × Unit)) (m:Int),(∀ v,jh kv v=gz c.binds v)->_:=fun kv m jG=>adS (w0:=w0) (ρ:=ρ) ga ez (kM (ρ:=ρ) (N:=4) kv) (eF (ρ:=ρ) (N:=4) (by decide) p c m) (nh p c m) c.stack 127 [.pt 3 11 0 0] [] hs.gl (BZ _) fun x hx=>⟨_,[.pt 3 11 0 0,tD ρ x],rfl,S8 (wR _),OK ga ez p c m kv jG hdl x (hs.gx x hx)⟩
 have L9:∀ (kv:List (Int × Unit)) (m:Int),(∀ v,jh kv v=gz c.binds v)->_:=fun kv m jG=>adW (w0:=w0) (ρ:=ρ) ga ez (kM (ρ:=ρ) (N:=4) kv) (eF (ρ:=ρ) (N:=4) (by decide) p c m) (pj p c) c.store 129 [.pt 3 11 0 0] [] hs.st (BZ _) fun x hx=>⟨_,[.pt 3 11 0 0,it ρ x],rfl,S8 (mV _),UA ga ez p c m kv jG hdl x (hs.sx x hx)⟩
 have L_:∀ (kv:List (Int × Unit)) (m:Int),_:=fun kv m=>ad0 (w0:=w0) (ρ:=ρ) ga ez (kM (ρ:=ρ) (N:=4) kv) (eF (ρ:=ρ) (N:=4) (by decide) p c m) (pf c) c.binds 131 [.pt 3 11 0 0] [] hs.bl (BZ _) fun x hx=>⟨_,[.pt 3 11 0 0,bd ρ x],rfl,S8 (ou _),Uy ga ez (kM kv) p c m x (hs.bx x hx)⟩
 have B0:iB c.b9=true->∀ (kv:List (Int × Unit)) (m:Int),_:=fun h kv m=>ad4 (w0:=w0) (ρ:=ρ) ga ez (kM (ρ:=ρ) (N:=4) kv) (eF (ρ:=ρ) (N:=4) (by decide) p c m) (ph p c) c.b9 133 [.pt 3 11 0 0] [] hs.fl (BZ _) fun x hx=>⟨_,[.pt 3 11 0 0,fi ρ x],rfl,S8 (eh _),Uz ga ez (kM kv) p c m x (vW h x hx) (hs.fx x hx) hp.rs (fun r hr=>⟨(hp.rr r hr).ke,(hp.rr r hr).re⟩) hs.st⟩
 obtain⟨R,hR⟩:∃ R,R=qy p c:=⟨_,rfl⟩
 rw [<-hR]
 unfold qy at hR
 obtain⟨⟨c1,c2⟩,hc⟩:∃ c,c=pc p:=⟨_,rfl⟩
 rw [<-hc] at hC hR
 dsimp only at hC hR
 obtain⟨A,F7⟩:∃ b,b=jP c.store:=⟨_,rfl⟩
 obtain⟨U,Gx⟩:∃ b,b=jn c.binds:=⟨_,rfl⟩
 obtain⟨H,Yh⟩:∃ b,b=iB c.b9:=⟨_,rfl⟩
 obtain⟨YF,Yi⟩:∃ b,b=c.b9.all (ph p c):=⟨_,rfl⟩
 obtain⟨YM,Yj⟩:∃ b,b=c.store.all (pj p c):=⟨_,rfl⟩
 obtain⟨YB,Yk⟩:∃ b,b=c.binds.all (pf c):=⟨_,rfl⟩
 obtain⟨YA,Yl⟩:∃ b,b=c.stack.all (nh p c (ep p.rs 0).length):=⟨_,rfl⟩
 rw [<-F7,<-Gx,<-Yh,<-Yi,<-Yj,<-Yk,<-Yl] at hR
 simp only [<-Yi] at B0
 simp only [<-Yj] at L9
 simp only [<-Yk] at L_
 rw [<-Yh] at B0
 replace zS:=fun kv=>zS kv (ep p.rs 0).length
 simp only [<-Yl] at zS
 clear Yi Yj Yk Yl
 rw [<-F7] at cZ
 rw [<-Gx] at S6
 rw [<-Yh] at S7
 obtain⟨SZ,GD⟩:∃ b,b=zR c:=⟨_,rfl⟩
 rw [<-GD] at hR
 unfold zR at GD
 have td:=hs.bl
 have zK:=hs.gl
 obtain⟨oc,hoc⟩:∃ l,l=ep p.rs 0:=⟨_,rfl⟩
 rw [<-hoc] at hn hO zS
 clear hoc hp hs
 obtain⟨ds,rs⟩:=p
 obtain⟨stack,store,binds,b9,next,fresh,failed⟩:=c
 dsimp only at cZ S6 S7 td zK GD zS L9 L_ B0
 refine agt.aH (by simp [Tryz.ntmps51]) (.v) ?_
 refine gq lL ?_
 repeat' (first
  |(refine ab.op rfl (ad.ag rfl hC ⟨lq,trivial⟩) ?_;refine gq lL ?_)
  |(refine ab.bif rfl (ad.ag rfl cZ ⟨ct _,trivial⟩) (fun _=>?_) (fun _=>?_)<;>refine gq lL ?_)
  |(refine ab.bif rfl (ad.ag rfl S6 ⟨b8 _,trivial⟩) (fun _=>?_) (fun _=>?_)<;>refine gq lL ?_)
  |(refine ab.bif rfl (ad.ag rfl S7 ⟨cN _,trivial⟩) (fun _=>?_) (fun _=>?_)<;>refine gq lL ?_)
  |(refine bq (fun hb=>?_) (fun hb=>?_)<;>(try simp only [aq] at hb)<;>(first|refine gq lL ?_))
  |(refine az fun m hm=>?_;(try rw [af] at hm);refine gq lL ?_)
  |(refine fq ?_))
 all_goals first
  |(refine aI ?_;rw [hR,decide_eq_false (show ¬ c2=0 by omega)];rfl)
  |(refine aI ?_;rw [hR,show A=false by assumption];simp;done)
  |(refine aI ?_;rw [hR,show U=false by assumption];simp;done)
  |(refine aI ?_;rw [hR,show H=false by assumption];simp;done)
  |(refine aI ?_;rw [hR,show SZ=false by (rw [GD];simp;intros;omega)];simp;done)
  |skip
 rw [decide_eq_true (show c2=0 by omega),show SZ=true by (rw [GD];simp;omega),show A=true by assumption,show U=true by assumption,show H=true by assumption,Bool.true_and,Bool.true_and,Bool.true_and,Bool.true_and,Bool.true_and] at hR
 clear GD hC cZ S6 S7
 obtain⟨RH,AS⟩:∃ kv:List (Int × Unit),kv=[]:=⟨_,rfl⟩
 refine ab.vq rfl (cj.eZ (es:=ρ.h (kX fU) RH) (by rw [ρ.eq,AS];rfl)) ?_
 refine gq lL ?_
 refine ab.vq rfl (cj.pure fun T=>ad.ag rfl hO ⟨lq,trivial⟩) ?_
 refine gq lL ?_
 obtain⟨m,hm⟩:∃ m:Int,m=oc.length:=⟨_,rfl⟩
 have hme:iv m=.v (.int .i64 ((ρ.h (List.map rM) oc).length)):=by rw [af,hm];rfl
 refine ab.vq rfl (cj.pure (r:=iv m) fun T=>by rw [hme];exact ad.len rfl) ?_
 clear hme
 refine gq lL ?_
 refine ab.int rfl (ad.len rfl) fun m2 g7=>?_;rw [af] at g7
 refine gq lL ?_
 replace B0:=B0 (by assumption)
 rw [<-hm] at zS
 refine ab.aP (σ:=Int × List (Int × Unit)) 4 4 [] (fun q=>[(3,.pt 1 7 0 0),(7,.pt 3 11 0 0),(66,eL ρ binds),(67,.v (.int .i64 m2)),(68,.v (.int .i64 q.1))]) [] (fun q=>[(0,.arr 2 [iY ρ ⟨ds,rs⟩] 0 true),(1,.arr 7 [zM ρ ⟨stack,store,binds,b9,next,fresh,failed⟩] 0 true),(2,.mp (ρ.h (kX fU) q.2)),(3,.arr 11 [OF ρ ⟨ds,rs⟩ ⟨stack,store,binds,b9,next,fresh,failed⟩ m] 0 true)])
  (fun q=>∃ k:Nat,q.1=k/\k<=binds.length/\∀ v,jh q.2 v=gz (binds.take k) v) (fun q=>binds.length - q.1.toNat) (0,RH) ⟨0,rfl,by simp,fun v=>by rw [AS];rfl⟩ rfl (by exact⟨sq,rfl,⟨.inl ⟨_,rfl,.same ga.1⟩,.inl ⟨_,rfl,.same ez.1⟩,.inl ⟨_,rfl,.same jC⟩,.inl ⟨_,rfl,.same (eF (ρ:=ρ) (N:=4) (by decide) ⟨ds,rs⟩ ⟨stack,store,binds,b9,next,fresh,failed⟩ m).1⟩,trivial⟩,rfl,rfl,rfl⟩) ?_
 rintro⟨i,kv⟩ ⟨k,hi,hk,S9⟩
 simp only at hi S9
 refine gq lL ?_
 by_cases au:k < binds.length
 ·obtain⟨x,hx,aQ⟩:=aA au
  have zD:∀ v,(gz (binds.take k) v || x.v == v)=gz (binds.take (k+1)) v:=fun v=>by
   unfold gz
   rw [List.take_add_one,hx]
   simp
  obtain⟨xv,xk,xi,xn,xa⟩:=x
  dsimp only at zD
  repeat' (first
   |(refine ab.op rfl (ad.ind rfl rfl (ay (l:=binds) hi hx) (aw fun _=>rfl)) ?_;refine gq lL ?_)
   |((refine ab.Cm (v:=()) rfl rfl rfl rfl rfl (fun sY vl=>?_);refine gq lL ?_))
   |(refine bq (fun hb=>?_) (fun hb=>?_)<;>(try simp only [aq] at hb)<;>(first|refine gq lL ?_))
   |(refine aS fun _ _=>?_;refine gq lL ?_)
   |(refine ab.ao ?_;refine gq lL ?_)
   )
  all_goals first
   |(exfalso;omega)
   |(refine ab.aK (σ:=Int × List (Int × Unit)) (_,sY) [] ?_ ?_ (by exact⟨sq,rfl,⟨.inl ⟨_,rfl,.same ga.1⟩,.inl ⟨_,rfl,.same ez.1⟩,.inl ⟨_,rfl,.same jC⟩,.inl ⟨_,rfl,.same (eF (ρ:=ρ) (N:=4) (by decide) ⟨ds,rs⟩ ⟨stack,store,binds,b9,next,fresh,failed⟩ m).1⟩,trivial⟩,rfl,rfl,rfl⟩)
     ·exact⟨k+1,by simp only;omega,by omega,fun v=>by simp only;rw [vl,yp,S9,zD]⟩
     ·simp only;omega)
 have OL:∀ v,jh kv v=gz binds v:=fun v=>by rw [S9,List.take_of_length_le (by omega)]
 have zS:=zS kv OL
 have L9:=L9 kv m OL
 have L_:=L_ kv m
 have B0:=B0 kv m
 have dD:=kM (ρ:=ρ) (N:=4) kv
 have sf:=eF (ρ:=ρ) (N:=4) (by decide) ⟨ds,rs⟩ ⟨stack,store,binds,b9,next,fresh,failed⟩ m
 clear S9 OL AS
 unfold sF gF at *
 repeat' (first
  |(refine ab.bif rfl (ad.gN zS rfl (kO rfl rfl rfl rfl rfl ga ez dD sf) (fun a ha=>by simp only [List.mem_cons,List.not_mem_nil,or_false] at ha;rcases ha with rfl|rfl;exact (dR _).bM;exact BZ _) .v) (fun _=>?_) (fun _=>?_)<;>refine gq lL ?_)
  |(refine ab.bif rfl (ad.gN L9 rfl (kO rfl rfl rfl rfl rfl ga ez dD sf) (fun a ha=>by simp only [List.mem_cons,List.not_mem_nil,or_false] at ha;rcases ha with rfl|rfl;exact (ct _).bM;exact BZ _) .v) (fun _=>?_) (fun _=>?_)<;>refine gq lL ?_)
  |(refine ab.bif rfl (ad.gN L_ rfl (kO rfl rfl rfl rfl rfl ga ez dD sf) (fun a ha=>by simp only [List.mem_cons,List.not_mem_nil,or_false] at ha;rcases ha with rfl|rfl;exact (b8 _).bM;exact BZ _) .v) (fun _=>?_) (fun _=>?_)<;>refine gq lL ?_)
  |(refine ab.bif rfl (ad.gN B0 rfl (kO rfl rfl rfl rfl rfl ga ez dD sf) (fun a ha=>by simp only [List.mem_cons,List.not_mem_nil,or_false] at ha;rcases ha with rfl|rfl;exact (cN _).bM;exact BZ _) .v) (fun _=>?_) (fun _=>?_)<;>refine gq lL ?_)
  |(refine bq (fun hb=>?_) (fun hb=>?_)<;>(try simp only [aq] at hb)<;>(first|refine gq lL ?_))
  |(refine ab.ao ?_;refine gq lL ?_)
  |(refine fq ?_))
 all_goals first
  |(exfalso;omega)
  |(refine aI ?_;rw [hR,show YA=false by assumption];rfl)
  |(refine aI ?_;rw [hR,show YM=false by assumption];simp;done)
  |(refine aI ?_;rw [hR,show YB=false by assumption];simp;done)
  |(refine aI ?_;rw [hR,show YF=false by assumption];simp;done)
  |(refine aI ?_;rw [hR,show YA=true by assumption,show YM=true by assumption,show YB=true by assumption,show YF=true by assumption];rfl)
end
end
def rT (c:eD):rZ:=⟨[],c.store,c.binds,c.b9,[],c.next,c.fresh,c.failed⟩
theorem OM (c:eD) (x:Bd):pf c x=zH (rT c) x:=by
 unfold pf zH rT
 rw [List.all_eq_not_any_not]
 congr 2
 induction varsOf [x.t] with
 |nil=>rfl
 |cons v l ih =>
  rw [List.any_cons,List.any_cons,ih]
  congr 1
  dsimp only
  rw [Bool.eq_iff_iff]
  simp
theorem Ma (p:Pg) (c:eD) (m:Nat) (x:fX):nh p c m x=tF p c m x:=by
 unfold nh tF
 have h:=Us p (rT c) x.g
 unfold JX Ka rT at h
 dsimp only at h
 by_cases h0:x.id=0
 ·rw [if_pos h0,if_pos h0]
  congr 1
  rw [<-h,Bool.and_assoc]
 ·rw [if_neg h0,if_neg h0]
  congr 1
theorem Kj (p:Pg) (c:eD):qy p c=tG p c:=by
 unfold qy tG qw zR
 rw [Oi,all_congr (fun x _=>Ma p c _ x),all_congr (f:=pj p c) (fun x _=>(show pj p c x=JY p (rT c) x from rfl).trans (Ut p (rT c) x)),all_congr (f:=pf c) (fun x _=>OM c x)]
 cases hU:jn c.binds with
 |false=>simp
 |true =>
  cases hH:iB c.b9 with
  |false=>simp
  |true =>
   have kJ:nE c.binds=true:=by
    unfold jn at hU
    exact ((Bool.and_eq_true _ _).mp hU).2
   rw [all_congr (f:=ph p c) (fun x hx=>(show ph p c x=JW p (rT c) x from rfl).trans (Uu p (rT c) x (vW hH x hx))),all_congr (l:=c.binds) (f:=zH (rT c)) (fun x hx=>bind_eq (rT c) x kJ hx)]
   unfold rT
   dsimp only
   generalize decide ((nR p).2=0)=a1
   generalize decide (c.stack.length<=1000)=a2
   generalize decide (1<=c.next)=a4
   generalize decide (c.next<=2147483648)=a5
   generalize decide (0<=c.fresh)=a6
   generalize decide (c.fresh<=1048576)=a7
   generalize jP c.store=a8
   generalize c.stack.all _=a9
   generalize c.store.all _=b1
   generalize c.b9.all _=b3
   generalize c.binds.all _=b4
   rw [Bool.eq_iff_iff]
   simp only [Bool.and_eq_true]
   constructor<;>rintro h<;>simp_all
end Go.Proofs.YtgphljokbodciaaGreat
