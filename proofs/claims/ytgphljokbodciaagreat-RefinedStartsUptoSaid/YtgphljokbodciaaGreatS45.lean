import Derived.Test.YtgphljokbodciaaGreatS44
namespace Go.Proofs.YtgphljokbodciaaGreat
set_option linter.unusedVariables false
set_option linter.unusedSimpArgs false
open Go.RowKit
section
set_option maxRecDepth 100000
attribute [local irreducible] ah aV ad ab
def Xq:CF Tryz.f53:=⟨_,by conv=>lhs;cbv⟩
theorem agc:aD Tryz.prog 53 Xq.1 Tryz.f53.ntmps:=aO Tryz.func53 Xq.2 Tryz.call53
def Xr:List Nat:=[1,2,0]
def Xs:CF Tryz.f54:=⟨_,by conv=>lhs;cbv⟩
theorem agd:aD Tryz.prog 54 Xs.1 Tryz.f54.ntmps:=aO Tryz.func54 Xs.2 Tryz.call54
def Xt:List Nat:=[1,2,0]
def Sj:CF Tryz.f140:=⟨_,by conv=>lhs;cbv⟩
theorem adg:aD Tryz.prog 140 Sj.1 Tryz.f140.ntmps:=aO Tryz.func140 Sj.2 Tryz.call140
def Ol:List Nat:=[2,3,4,0,1]
def Sk:CF Tryz.f110:=⟨_,by conv=>lhs;cbv⟩
theorem adh:aD Tryz.prog 110 Sk.1 Tryz.f110.ntmps:=aO Tryz.func110 Sk.2 Tryz.call110
def mR:List Nat:=[5,0,1,4,10,14,54]
def Sl:CF Tryz.f138:=⟨_,by conv=>lhs;cbv⟩
theorem adi:aD Tryz.prog 138 Sl.1 Tryz.f138.ntmps:=aO Tryz.func138 Sl.2 Tryz.call138
def Om:List Nat:=[1,2,0]
def Sm:CF Tryz.f245:=⟨_,by conv=>lhs;cbv⟩
theorem adj:aD Tryz.prog 245 Sm.1 Tryz.f245.ntmps:=aO Tryz.func245 Sm.2 Tryz.call245
def On:List Nat:=[1,2,0]
def Sn:CF Tryz.f227:=⟨_,by conv=>lhs;cbv⟩
theorem adk:aD Tryz.prog 227 Sn.1 Tryz.f227.ntmps:=aO Tryz.func227 Sn.2 Tryz.call227
def Xu:List Nat:=[1,2,0]
structure fX where
 g:Gl
 id:Int
 pS:Int
structure eD where
 stack:List fX
 store:List Im
 binds:List Bd
 b9:List Fi
 next:Int
 fresh:Int
 failed:Bool
def tC (ρ:Hd) (x:fX):List AV:=[iv x.g.op,.v (.string x.g.n),tl ρ x.g.a,iv x.id,iv x.pS]
def oo (ρ:Hd) (l:List fX):AV:=bY ρ (tC ρ) false l
def zM (ρ:Hd) (c:eD):List AV:=[oo ρ c.stack,fN ρ c.store,eL ρ c.binds,gW ρ c.b9,iv c.next,iv c.fresh,.v (.bool c.failed)]
def tD (ρ:Hd) (x:fX):AV:=.agg (tC ρ x)
def rL (ρ:Hd) (c:eD):AV:=.agg (zM ρ c)
section
variable {ρ:Hd}
theorem uB (x:fX):∀ a ∈ tC ρ x,Pure a:=by simp [tC,bB,Pure.v,iv]
theorem dR (l:List fX):Pure (oo ρ l):=e9 fun x _ a ha=>uB x a ha
theorem wR (x:fX):Pure (tD ρ x):=.agg (uB x)
theorem uC (c:eD):∀ a ∈ zM ρ c,Pure a:=by simp [zM,dR,ct,b8,cN,Pure.v,iv]
theorem wS (c:eD):Pure (rL ρ c):=.agg (uC c)
end
structure xy (c:eD):Prop where
 gl:c.stack.length<=1099511627776
 st:c.store.length<=1099511627776
 bl:c.binds.length<=1099511627776
 fl:c.b9.length<=1099511627776
 gx:∀ x ∈ c.stack,q9 x.g
 sx:∀ x ∈ c.store,x.ok
 bx:∀ x ∈ c.binds,x.ok
 fx:∀ x ∈ c.b9,x.ok
def zN (c:eD):Bool:=c.failed || c.stack.isEmpty
def pF (x y:fX):Bool:=x.id == y.id && (x.pS == y.pS && r6 x.g y.g)
def qk (s t:eD):Bool:=de pF s.stack t.stack && (de oM s.store t.store && (de oN s.binds t.binds && (de oO s.b9 t.b9 && (s.next == t.next && (s.fresh == t.fresh && s.failed == t.failed)))))
def my (x:Gl):Bool:=x.op == 0 && (x.n.toList == [] && x.a.isEmpty)
section
variable {w0:World}{ρ:Hd}
theorem Xv (c:eD) (h:c.stack.length<=1099511627776):ah Tryz.prog w0 53 [rL ρ c] (.v (.bool (zN c))):=by
 obtain⟨l,st,b,f,n,r,e⟩:=c
 dsimp only at h
 unfold zN
 dsimp only
 cases e
 all_goals
  refine agc.aH (by simp [Tryz.ntmps53]) (.v) ?_
  refine gq Xr ?_
  repeat' (first
   |(refine bq (fun hb=>?_) (fun hb=>?_)<;>(try simp only [aq] at hb)<;>(first|refine gq Xr ?_))
   |(refine az fun m hm=>?_;(try rw [af] at hm);refine gq Xr ?_)
   |(refine fq ?_))
  all_goals (subst_vars;refine aI ?_;cases l<;>simp_all<;>omega)
theorem Xw (c:eD) (h:c.stack.length<=1099511627776):ah Tryz.prog w0 54 [rL ρ c] (.v (.bool (zN c))):=by
 obtain⟨l,st,b,f,n,r,e⟩:=c
 dsimp only at h
 unfold zN
 dsimp only
 cases e
 all_goals
  refine agd.aH (by simp [Tryz.ntmps54]) (.v) ?_
  refine gq Xt ?_
  repeat' (first
   |(refine bq (fun hb=>?_) (fun hb=>?_)<;>(try simp only [aq] at hb)<;>(first|refine gq Xt ?_))
   |(refine az fun m hm=>?_;(try rw [af] at hm);refine gq Xt ?_)
   |(refine fq ?_))
  all_goals (subst_vars;refine aI ?_;cases l<;>simp_all<;>omega)
theorem Xx (x y:fX) (hx:q9 x.g) (hy:q9 y.g):ah Tryz.prog w0 140 [tD ρ x,tD ρ y] (.v (.bool (pF x y))):=by
 have hS:=Tt (w0:=w0) (ρ:=ρ) x.g y.g ⟨hx.1.len,hx.1.1⟩ ⟨hy.1.len,hy.1.1⟩
 have jb:=eE (ρ:=ρ) x.g
 have hyp:=eE (ρ:=ρ) y.g
 obtain⟨R,hR⟩:∃ R,R=pF x y:=⟨_,rfl⟩
 rw [<-hR]
 unfold pF at hR
 generalize r6 x.g y.g=B at hS hR
 obtain⟨⟨xo,xn,xa⟩,xi,xc⟩:=x
 obtain⟨⟨yo,yn,ya⟩,yi,yc⟩:=y
 dsimp only at hR hS jb hyp
 refine adg.aH (by simp [Tryz.ntmps140]) (.v) ?_
 refine gq Ol ?_
 repeat' (first
  |(refine ab.bif rfl (ad.ag rfl hS ⟨jb,hyp,trivial⟩) (fun _=>?_) (fun _=>?_)<;>refine gq Ol ?_)
  |(refine bq (fun hb=>?_) (fun hb=>?_)<;>(try simp only [aq] at hb)<;>(first|refine gq Ol ?_))
  |(refine fq ?_))
 all_goals (refine aI ?_;rw [hR];simp_all)
theorem Ev (a b:List fX) (ha:a.length<=1099511627776) (gj:b.length<=1099511627776) (pR:∀ x ∈ a,q9 x.g) (mw:∀ x ∈ b,q9 x.g):ah Tryz.prog w0 110 [oo ρ a,oo ρ b] (.v (.bool (de pF a b))):=by
 have kJ:=dR (ρ:=ρ) a
 have hbp:=dR (ρ:=ρ) b
 obtain⟨R,hR⟩:∃ R,R=de pF a b:=⟨_,rfl⟩
 rw [<-hR]
 refine adh.aH (by simp [Tryz.ntmps110]) (.v) ?_
 refine gq mR ?_
 repeat' (first
  |(refine bq (fun hb=>?_) (fun hb=>?_)<;>(try simp only [aq] at hb)<;>(first|refine gq mR ?_))
  |(refine az fun m hm=>?_;(try rw [af] at hm);refine gq mR ?_)
  |(refine fq ?_))
 ·rw [ny (by omega)] at hR
  rw [hR];exact aI rfl
 have hle:a.length=b.length:=by omega
 refine ab.aP (σ:=Int) 0 0 [] (fun i=>[(0,oo ρ a),(1,oo ρ b),(5,.v (.int .i64 i))]) [] (fun _=>[]) (fun i=>∃ k:Nat,i=k/\k<=a.length/\R=de pF (a.drop k) (b.drop k)) (fun i=>a.length - i.toNat) 0 ⟨0,rfl,by simp,by simpa using hR⟩ rfl cq ?_
 rintro i ⟨k,hi,hk,hp⟩
 clear hR
 refine gq mR ?_
 by_cases au:k < a.length
 ·obtain⟨x,hx,aQ⟩:=aA au
  obtain⟨y,hy,cT⟩:=aA (l:=b) (k:=k) (by omega)
  have dY:=pR x (aZ hx)
  have tB:=mw y (aZ hy)
  rw [aQ,cT,de] at hp
  have jb:=eE (ρ:=ρ) x.g
  have hyp:=eE (ρ:=ρ) y.g
  have hS:=MG (w0:=w0) (ρ:=ρ) x.g y.g ⟨dY.1.len,dY.1.1⟩ ⟨tB.1.len,tB.1.1⟩
  unfold pF at hp
  generalize r6 x.g y.g=B at hS hp
  clear dY tB
  obtain⟨⟨xo,xn,xa⟩,xi,xc⟩:=x
  obtain⟨⟨yo,yn,ya⟩,yi,yc⟩:=y
  dsimp only at hp hS jb hyp
  repeat' (first
   |(refine ab.op rfl (ad.ind rfl rfl (ay (l:=a) hi hx) (aw fun _=>rfl)) ?_;refine gq mR ?_)
   |(refine ab.op rfl (ad.ind rfl rfl (ay (l:=b) hi hy) (aw fun _=>rfl)) ?_;refine gq mR ?_)
   |(refine ab.bif rfl (ad.ag rfl hS ⟨jb,hyp,trivial⟩) (fun _=>?_) (fun _=>?_)<;>refine gq mR ?_)
   |(refine bq (fun hb=>?_) (fun hb=>?_)<;>(try simp only [aq] at hb)<;>(first|refine gq mR ?_))
   |(refine az fun m hm=>?_;(try rw [af] at hm);refine gq mR ?_)
   |(refine aS fun _ _=>?_;refine gq mR ?_)
   |(refine ab.ao ?_;refine gq mR ?_)
   |(refine ab.bK ?_;refine gq mR ?_)
   |(refine fq ?_))
  all_goals first
   |(exfalso;omega)
   |(rw [hp];refine aI ?_;simp_all;done)
   |(rw [beq_iff_eq.2 (show xi=yi by omega),beq_iff_eq.2 (show xc=yc by omega),show B=true by assumption,Bool.true_and,Bool.true_and,Bool.true_and] at hp
     refine ab.aK (σ:=Int) _ [] ?_ ?_ cq<;>first|omega|exact⟨k+1,by omega,by omega,hp⟩)
 ·rw [List.drop_eq_nil_of_le (by omega),List.drop_eq_nil_of_le (by omega),de] at hp
  repeat' (first
   |(refine bq (fun hb=>?_) (fun hb=>?_)<;>(try simp only [aq] at hb)<;>(first|refine gq mR ?_))
   |(refine az fun m hm=>?_;(try rw [af] at hm);refine gq mR ?_)
   |(refine ab.ao ?_;refine gq mR ?_)
   |(refine fq ?_))
  all_goals first
   |(exfalso;omega)
   |(rw [hp];exact aI rfl)
theorem Oo (x:Gl):ah Tryz.prog w0 227 [gl ρ x] (.v (.bool (tA x.op))):=by
 obtain⟨o,n,a⟩:=x
 refine adk.aH (by simp [Tryz.ntmps227]) (.v) ?_
 refine gq Xu ?_
 repeat' (first
  |(refine bq (fun hb=>?_) (fun hb=>?_)<;>(try simp only [aq] at hb)<;>(first|refine gq Xu ?_))
  |(refine fq ?_))
 all_goals (subst_vars;refine aI ?_;rw [tA,Bool.eq_iff_iff];simp;omega)
theorem Uv (x:Gl) (h:x.a.length<=1099511627776):ah Tryz.prog w0 245 [gl ρ x] (.v (.bool (my x))):=by
 obtain⟨R,hR⟩:∃ R,R=my x:=⟨_,rfl⟩
 rw [<-hR]
 unfold my at hR
 obtain⟨o,n,a⟩:=x
 dsimp only at h hR
 refine adj.aH (by simp [Tryz.ntmps245]) (.v) ?_
 refine gq On ?_
 repeat' (first
  |(refine bq (fun hb=>?_) (fun hb=>?_)<;>(try simp only [aq] at hb)<;>(first|refine gq On ?_))
  |(refine az fun m hm=>?_;(try rw [af] at hm);refine gq On ?_)
  |(refine fq ?_))
 all_goals
  refine aI ?_
  rw [hR,Bool.eq_iff_iff]
  have e0:(⟨#[]⟩:ByteArray).toList=[]:=by rw [ByteArray.toList_eq]
  rw [e0] at *
  cases a<;>simp_all<;>omega
theorem Uw (x:Gl) (h:x.a.length<=1099511627776):ah Tryz.prog w0 138 [gl ρ x] (.v (.bool (my x))):=by
 obtain⟨R,hR⟩:∃ R,R=my x:=⟨_,rfl⟩
 rw [<-hR]
 unfold my at hR
 obtain⟨o,n,a⟩:=x
 dsimp only at h hR
 refine adi.aH (by simp [Tryz.ntmps138]) (.v) ?_
 refine gq Om ?_
 repeat' (first
  |(refine bq (fun hb=>?_) (fun hb=>?_)<;>(try simp only [aq] at hb)<;>(first|refine gq Om ?_))
  |(refine az fun m hm=>?_;(try rw [af] at hm);refine gq Om ?_)
  |(refine fq ?_))
 all_goals
  refine aI ?_
  rw [hR,Bool.eq_iff_iff]
  have e0:(⟨#[]⟩:ByteArray).toList=[]:=by rw [ByteArray.toList_eq]
  rw [e0] at *
  cases a<;>simp_all<;>omega
end
end
section
set_option maxRecDepth 100000
attribute [local irreducible] ah aV ad ab
def So:CF Tryz.f163:=⟨_,by conv=>lhs;cbv⟩
theorem adl:aD Tryz.prog 163 So.1 Tryz.f163.ntmps:=aO Tryz.func163 So.2 Tryz.call163
def Oq:List Nat:=[1,2,0]
def Xy:CF Tryz.f73:=⟨_,by conv=>lhs;cbv⟩
theorem age:aD Tryz.prog 73 Xy.1 Tryz.f73.ntmps:=aO Tryz.func73 Xy.2 Tryz.call73
def LW:List Nat:=[1,3,2,0]
def Sp:CF Tryz.f358:=⟨_,by conv=>lhs;cbv⟩
theorem adm:aD Tryz.prog 358 Sp.1 Tryz.f358.ntmps:=aO Tryz.func358 Sp.2 Tryz.call358
def jj:List Nat:=[6,10,4,5,1,9,11,8,21,0,3,38]
def Sq:CF Tryz.f242:=⟨_,by conv=>lhs;cbv⟩
theorem adn:aD Tryz.prog 242 Sq.1 Tryz.f242.ntmps:=aO Tryz.func242 Sq.2 Tryz.call242
def agf:List Nat:=[2,0,1]
def Sr:CF Tryz.f125:=⟨_,by conv=>lhs;cbv⟩
theorem ado:aD Tryz.prog 125 Sr.1 Tryz.f125.ntmps:=aO Tryz.func125 Sr.2 Tryz.call125
def Ew:List Nat:=[3,2,0,1,6,7,4]
def Ss:CF Tryz.f135:=⟨_,by conv=>lhs;cbv⟩
theorem adp:aD Tryz.prog 135 Ss.1 Tryz.f135.ntmps:=aO Tryz.func135 Ss.2 Tryz.call135
def kB:List Nat:=[4,6,1,5,3,2,0,11,32]
structure Oc where
 jM:Int
 head:Int
 kept:Bool
def rM (x:Oc):List AV:=[iv x.jM,iv x.head,.v (.bool x.kept)]
def LX (ρ:Hd) (l:List Oc):AV:=bY ρ rM false l
def uD (i:Int) (q:Nat):Nat->List Oc
 |0=>[]
 |m+1=>⟨i,m,decide ((m:Int) < q)⟩::uD i q m
def ep:List Rl->Int->List Oc
 |[],_=>[]
 |r::l,i=>uD i r.aT.length (r.aT.length+r.rem.length)++ep l (i+1)
theorem Ex {i:Int}{q:Nat}:∀ m,(uD i q m).length=m
 |0=>rfl
 |m+1=>by rw [uD,List.length_cons,Ex m]
section
variable {w0:World}{ρ:Hd}
theorem Ey (x:Oc):∀ a ∈ rM x,Pure a:=by simp [rM,Pure.v,iv]
theorem Ot (l:List Oc):Pure (LX ρ l):=e9 fun x _ a ha=>Ey x a ha
theorem wT {B sz fz:Nat}{s:List Oc}{ex:Bool}:jF B (.arr sz (ρ.h (List.map rM) s) fz ex):=s8 fun x _=>Ey x
theorem Ux (r:Rl) (h:r.aT.length+r.rem.length<=549755813888):ah Tryz.prog w0 163 [rl ρ r] (iv ((r.aT.length+r.rem.length:Nat):Int)):=by
 obtain⟨n,ke,re,g,b,v⟩:=r
 dsimp only at h ⊢
 obtain⟨R,hR⟩:∃ R:Int,R=((ke.length+re.length:Nat):Int):=⟨_,rfl⟩
 rw [<-hR]
 refine adl.aH (by simp [Tryz.ntmps163]) (.v) ?_
 refine gq Oq ?_
 repeat' (first
  |(refine az fun m hm=>?_;(try rw [af] at hm);refine gq Oq ?_)
  |(refine aS fun _ _=>?_;refine gq Oq ?_)
  |(refine fq ?_))
 all_goals (subst_vars;exact dK (by omega))
theorem Ou (r:Rl) (h:r.aT.length+r.rem.length<=549755813888):ah Tryz.prog w0 73 [rl ρ r] (eK ρ (r.aT++r.rem)):=by
 have hC:=Ux (w0:=w0) (ρ:=ρ) r h
 have lJ:=iz (ρ:=ρ) r
 obtain⟨n,ke,re,g,b,v⟩:=r
 dsimp only at h hC ⊢
 obtain⟨R,hR⟩:∃ R,R=ke++re:=⟨_,rfl⟩
 rw [<-hR]
 obtain⟨N,hN⟩:∃ N,N=ke.length+re.length:=⟨_,rfl⟩
 rw [<-hN] at hC
 obtain⟨M,hM⟩:∃ M:Int,M=(N:Int):=⟨_,rfl⟩
 rw [<-hM] at hC
 refine age.aH (by simp [Tryz.ntmps73]) ((fQ _)) ?_
 refine gq LW ?_
 repeat' (first
  |(refine ab.op rfl (ad.ag rfl hC ⟨lJ,trivial⟩) ?_;refine gq LW ?_)
  )
 refine ab.V3 (m:=N) ρ (atR ρ) rfl rfl rfl hM rfl (by omega) (by omega) fun acc oF=>?_
 refine gq LW ?_
 refine ab.Nh (f:=atR ρ) (ys:=ke) rfl rfl rfl (by rw [oF];rfl) rfl (fun _=>rfl) (fun _=>rfl) (by rw [oF,hN];simp) fun dk gy nI lV=>?_
 refine gq LW ?_
 refine ab.Nh (f:=atR ρ) (ys:=re) rfl rfl rfl lV rfl (fun _=>rfl) (fun _=>rfl) (by rw [nI,oF,hN];simp) fun ff oA fZ gM=>?_
 refine gq LW ?_
 refine ab.fin (by conv=>lhs;cbv) ?_
 obtain rfl:ff=R:=by rw [fZ,nI,oF,hR];rfl
 exact aX.V5 rfl gM
end
end
section
set_option maxRecDepth 100000
attribute [local irreducible] ah aV ad ab
def Su:CF Tryz.f120:=⟨_,by conv=>lhs;cbv⟩
theorem adq:aD Tryz.prog 120 Su.1 Tryz.f120.ntmps:=aO Tryz.func120 Su.2 Tryz.call120
def nV:List Nat:=[0,4,3,2,7,11,22]
def Xz:CF Tryz.f69:=⟨_,by conv=>lhs;cbv⟩
theorem agh:aD Tryz.prog 69 Xz.1 Tryz.f69.ntmps:=aO Tryz.func69 Xz.2 Tryz.call69
def uP:List Nat:=[3,0,2,7,16]
def XA:CF Tryz.f48:=⟨_,by conv=>lhs;cbv⟩
theorem agi:aD Tryz.prog 48 XA.1 Tryz.f48.ntmps:=aO Tryz.func48 XA.2 Tryz.call48
def sE:List Nat:=[0,5,4,1,9,13,22]
def ql (l:List Tm):Bool:=decide (l.length<=8) && decide (bj l<=60)
theorem xz (a b:List Tm):bj (a++b)=bj a+bj b:=by
 induction a with
 |nil=>simp [bj]
 |cons x a ih=>rw [List.cons_append,bj,bj,ih];omega
section
variable {w0:World}{ρ:Hd}
theorem Ez (l:List Tm) (hl:l.length<=1099511627776) (hz:bj l<=1099511627776):ah Tryz.prog w0 120 [tl ρ l] (.v (.bool (ql l))):=by
 obtain⟨R,hR⟩:∃ R,R=ql l:=⟨_,rfl⟩
 rw [<-hR]
 unfold ql at hR
 refine adq.aH (by simp [Tryz.ntmps120]) (.v) ?_
 refine gq nV ?_
 repeat' (first
  |(refine bq (fun hb=>?_) (fun hb=>?_)<;>(try simp only [aq] at hb)<;>(first|refine gq nV ?_))
  |(refine az fun m hm=>?_;(try rw [af] at hm);refine gq nV ?_)
  |(refine fq ?_))
 ·rw [hR,decide_eq_false (by omega)];exact aI rfl
 rw [decide_eq_true (by omega),Bool.true_and] at hR
 refine ab.aP (σ:=Int × Int) 0 0 [] (fun p=>[(0,tl ρ l),(3,.v (.int .i64 p.2)),(4,.v (.int .i64 p.1))]) [] (fun _=>[]) (fun p=>∃ k:Nat,p.1=k/\k<=l.length/\p.2=bj (l.take k)/\p.2<=60) (fun p=>l.length - p.1.toNat) (0,0) ⟨0,rfl,by simp,rfl,by simp⟩ rfl cq ?_
 rintro⟨i,c⟩ ⟨k,hi,hk,hp,hc⟩
 simp only at hi hp hc
 refine gq nV ?_
 by_cases au:k < l.length
 ·obtain⟨x,hx,aQ⟩:=aA au
  have ht:bj (l.take (k+1))=bj (l.take k)+cQ x:=by
   rw [List.take_add_one,hx,xz]
   simp [bj]
  have hle:bj (l.take (k+1))<=bj l:=by
   have:=xz (l.take (k+1)) (l.drop (k+1))
   rw [List.take_append_drop] at this
   omega
  have hS:=wz (w0:=w0) (ρ:=ρ) _ x (Nat.le_refl _) (by omega)
  obtain⟨z,Fz⟩:∃ z,z=cQ x:=⟨_,rfl⟩
  rw [<-Fz] at ht hS
  obtain⟨z1,Vi⟩:∃ z:Int,z=(cQ x:Nat):=⟨_,rfl⟩
  clear aQ
  have jb:=bf (ρ:=ρ) x
  obtain⟨xk,xi,xn,xa⟩:=x
  repeat' (first
   |(refine ab.op rfl (ad.ind rfl rfl (fL (l:=l) hi hx) fM) ?_;refine gq nV ?_)
   |(refine ab.int rfl (ad.ag rfl hS ⟨jb,trivial⟩) fun _ _=>?_;refine gq nV ?_)
   |(refine bq (fun hb=>?_) (fun hb=>?_)<;>(try simp only [aq] at hb)<;>(first|refine gq nV ?_))
   |(refine az fun m hm=>?_;(try rw [af] at hm);refine gq nV ?_)
   |(refine aS fun _ _=>?_;refine gq nV ?_)
   |(refine ab.ao ?_;refine gq nV ?_)
   |(refine ab.bK ?_;refine gq nV ?_)
   |(refine fq ?_))
  all_goals first
   |(exfalso;omega)
   |(rw [hR,decide_eq_false (by omega)];exact aI rfl)
   |(refine ab.aK (σ:=Int × Int) (_,_) [] ?_ ?_ cq
     ·exact⟨k+1,by simp only;omega,by omega,by simp only;omega,by simp only;omega⟩
     ·simp only;omega)
 ·have adr:l.take k=l:=List.take_of_length_le (by omega)
  rw [adr] at hp
  repeat' (first
   |(refine bq (fun hb=>?_) (fun hb=>?_)<;>(try simp only [aq] at hb)<;>(first|refine gq nV ?_))
   |(refine az fun m hm=>?_;(try rw [af] at hm);refine gq nV ?_)
   |(refine ab.ao ?_;refine gq nV ?_)
   |(refine fq ?_))
  all_goals first
   |(exfalso;omega)
   |(rw [hR,decide_eq_true (by omega)];exact aI rfl)
end
end
end Go.Proofs.YtgphljokbodciaaGreat
