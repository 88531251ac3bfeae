import Derived.RecoverIn
import Derived.TacticsIn
import Derived.TacticsInMore
import Derived.Test.YtgphljokbodciaaGreatS24
import Derived.Test.YtgphljokbodciaaGreatS26
namespace Go.Proofs.YtgphljokbodciaaGreat
set_option linter.unusedVariables false
set_option linter.unusedSimpArgs false
open Go.RowKit
section
variable {P:Program}{w0:World}{S:ae}{r:AV}
theorem St.start (w:World):St w (fun b=>w.heap.size<=b) ⟨fun _=>0,fun _=>0,fun _=>False,fun b _=>b < w.heap.size,fun _ _=>False⟩ ae.none_ w :=
 have e0:∀ k o,¬ ae.none_.get k=some o:=fun k o h=>by simp [ae.none_] at h
 ⟨Below.refl _ _,fun _ h=>h,fun _ h=>h,fun k hk=>hk.elim,fun k o hk=>absurd hk (e0 k o),fun j k o p hj=>absurd hj (e0 j o),fun b q h=>h,fun b q h=>h,fun k J hk=>absurd hk (e0 k _),fun k J j o hk=>absurd hk (e0 k _),fun j k J J' hj=>absurd hj (e0 j _)⟩
theorem ah.calls {f:FuncId}{args:List AV}{x:Value}{bO:Array Value}{w:World}(h:ah P w f args (.v x)) (hA:jL ⟨fun _=>0,fun _=>0,fun _=>False,fun b _=>b < w.heap.size,fun _ _=>False⟩ w args bO) :
  Calls P f bO w fun e w'=>e=.returned x/\Below w.heap.size w w':=by
 obtain⟨_,S',_,h⟩:=h
 refine (callsIn_wide (n:=0).1 (h Fence.wide 0 _ _ bO w iF.wide (St.start w) hA)).mono ?_
 rintro e w' ⟨v,g',rfl,hr,hS,hE⟩
 obtain rfl:=cd hr
 exact⟨rfl,hS.base⟩
end
section
set_option maxRecDepth 100000
attribute [local irreducible] ah aV ad ab
def Q2:CF Tryz.f301:=⟨_,by conv=>lhs;cbv⟩
theorem aaG:aD Tryz.prog 301 Q2.1 Tryz.f301.ntmps:=aO Tryz.func301 Q2.2 Tryz.call301
def Nr:List Nat:=[1,2,0]
def Q3:CF Tryz.f302:=⟨_,by conv=>lhs;cbv⟩
theorem aaH:aD Tryz.prog 302 Q3.1 Tryz.f302.ntmps:=aO Tryz.func302 Q3.2 Tryz.call302
def Ns:List Nat:=[1,2,0]
def V7:CF Tryz.f79:=⟨_,by conv=>lhs;cbv⟩
theorem afF:aD Tryz.prog 79 V7.1 Tryz.f79.ntmps:=aO Tryz.func79 V7.2 Tryz.call79
def V8:List Nat:=[3,1,2,0]
def Q4:CF Tryz.f402:=⟨_,by conv=>lhs;cbv⟩
theorem aaI:aD Tryz.prog 402 Q4.1 Tryz.f402.ntmps:=aO Tryz.func402 Q4.2 Tryz.call402
def oE:List Nat:=[5,4,3,2,0,1,11]
def Q5:CF Tryz.f303:=⟨_,by conv=>lhs;cbv⟩
theorem aaJ:aD Tryz.prog 303 Q5.1 Tryz.f303.ntmps:=aO Tryz.func303 Q5.2 Tryz.call303
def ib:List Nat:=[5,3,7,1,4,6,2,0,13,28]
section
variable {w0:World}{ρ:Hd}
theorem wI (r:Rl) (h:r.aT.length+r.rem.length<=549755813888):ah Tryz.prog w0 301 [rl ρ r] (eK ρ (r.aT++r.rem)):=by
 obtain⟨n,ke,re,g,b,v⟩:=r
 dsimp only at h ⊢
 obtain⟨R,hR⟩:∃ R,R=ke++re:=⟨_,rfl⟩
 rw [<-hR]
 refine aaG.aH (by simp [Tryz.ntmps301]) ((fQ _)) ?_
 refine gq Nr ?_
 refine ab.QV (f:=atR ρ) (ys:=ke) rfl rfl rfl (fun _=>rfl) (by omega) fun acc len oF hlen=>?_
 refine gq Nr ?_
 refine ab.Ho (f:=atR ρ) (ys:=re) rfl rfl rfl hlen (fun _=>rfl) rfl (fun _=>rfl) (fun _=>rfl) (by rw [hlen,oF];omega) fun dk gy nI lV=>?_
 refine gq Nr ?_
 refine ab.fin (by conv=>lhs;cbv) ?_
 obtain rfl:dk=R:=by rw [nI,oF,hR]
 exact aX.grow rfl lV
theorem Ar (r:Rl) (h:r.guard.length+r.body.length<=549755813888):ah Tryz.prog w0 302 [rl ρ r] (dC ρ (r.guard++r.body)):=by
 obtain⟨n,ke,re,g,b,v⟩:=r
 dsimp only at h ⊢
 obtain⟨R,hR⟩:∃ R,R=g++b:=⟨_,rfl⟩
 rw [<-hR]
 refine aaH.aH (by simp [Tryz.ntmps302]) ((cV _)) ?_
 refine gq Ns ?_
 refine ab.QV (f:=CJ ρ) (ys:=g) rfl rfl rfl (fun _=>rfl) (by omega) fun acc len oF hlen=>?_
 refine gq Ns ?_
 refine ab.Ho (f:=CJ ρ) (ys:=b) rfl rfl rfl hlen (fun _=>rfl) rfl (fun _=>rfl) (fun _=>rfl) (by rw [hlen,oF];omega) fun dk gy nI lV=>?_
 refine gq Ns ?_
 refine ab.fin (by conv=>lhs;cbv) ?_
 obtain rfl:dk=R:=by rw [nI,oF,hR]
 exact aX.grow rfl lV
theorem K4 (r:Rl) (h:r.aT.length+r.rem.length<=549755813888):ah Tryz.prog w0 79 [rl ρ r] (eK ρ (r.aT++r.rem)):=by
 obtain⟨n,ke,re,g,b,v⟩:=r
 dsimp only at h ⊢
 obtain⟨R,hR⟩:∃ R,R=ke++re:=⟨_,rfl⟩
 rw [<-hR]
 refine afF.aH (by simp [Tryz.ntmps79]) ((fQ _)) ?_
 refine gq V8 ?_
 refine ab.aax (f:=atR ρ) (ys:=ke) rfl rfl rfl (fun _=>rfl) (by omega) fun acc len oF hlen=>?_
 refine gq V8 ?_
 refine ab.Hn (f:=atR ρ) (ys:=re) rfl rfl rfl hlen (fun _=>rfl) rfl (fun _=>rfl) (fun _=>rfl) (by rw [hlen,oF];omega) fun dk gy nI lV=>?_
 refine gq V8 ?_
 refine ab.fin (by conv=>lhs;cbv) ?_
 obtain rfl:dk=R:=by rw [nI,oF,hR]
 exact aX.grow rfl lV
end
end
section
set_option maxRecDepth 100000
attribute [local irreducible] ah aV ad ab
def Q6:CF Tryz.f154:=⟨_,by conv=>lhs;cbv⟩
theorem aaK:aD Tryz.prog 154 Q6.1 Tryz.f154.ntmps:=aO Tryz.func154 Q6.2 Tryz.call154
def Hv:List Nat:=[0,5,1]
def Hw (e:Int):Value:=.iface 313 (.agg #[.int .i64 e])
def lW (e:Int):List PanicEntry:=[{ v:=Hw e,recovered:=false }]
section
variable {w0:World}{ρ:Hd}
theorem V9 (b:Bool) (e:Int):Ch Tryz.prog w0 154 [.v (.bool b),iv e] b (.bc []) (lW e):=by
 refine aD.O2 aaK (by simp [Tryz.ntmps154]) (.bc fun a ha=>by cases ha) ?_
 cases b
 ·refine gq Hv ?_
  refine ab.op rfl (ad.z6 rfl (by kernel_rfl)) ?_
  refine gq Hv ?_
  refine ab.uZ rfl (qG.uZ rfl) ?_
  refine gq Hv ?_
  exact ab.UJ rfl ⟨rfl,rfl⟩
 ·refine gq Hv ?_
  exact ab.u4 rfl (by conv=>lhs;cbv) ⟨rfl,aX.of_eq rfl⟩
end
end
section
set_option maxRecDepth 100000
attribute [local irreducible] ah aV ad ab
end
section
set_option maxRecDepth 100000
attribute [local irreducible] ah aV ad ab
def Q7:CF Tryz.f357:=⟨_,by conv=>lhs;cbv⟩
theorem aaL:aD Tryz.prog 357 Q7.1 Tryz.f357.ntmps:=aO Tryz.func357 Q7.2 Tryz.call357
def jg:List Nat:=[11,1,0,5,8,4,10,12,9,19,6,7,28,35]
def Q8:CF Tryz.f241:=⟨_,by conv=>lhs;cbv⟩
theorem aaM:aD Tryz.prog 241 Q8.1 Tryz.f241.ntmps:=aO Tryz.func241 Q8.2 Tryz.call241
def As:List Nat:=[2,3,5,4,0,1,21]
def Q9:CF Tryz.f218:=⟨_,by conv=>lhs;cbv⟩
theorem aaN:aD Tryz.prog 218 Q9.1 Tryz.f218.ntmps:=aO Tryz.func218 Q9.2 Tryz.call218
def jA:List Nat:=[6,2,3,5,4,0,1,13,36]
def Q_:CF Tryz.f240:=⟨_,by conv=>lhs;cbv⟩
theorem aaO:aD Tryz.prog 240 Q_.1 Tryz.f240.ntmps:=aO Tryz.func240 Q_.2 Tryz.call240
def oG:List Nat:=[1,28,4,2,0,24,27,29,26,3,42]
def Ra:CF Tryz.f366:=⟨_,by conv=>lhs;cbv⟩
theorem aaP:aD Tryz.prog 366 Ra.1 Tryz.f366.ntmps:=aO Tryz.func366 Ra.2 Tryz.call366
def mL:List Nat:=[1,3,2,0,23,28,48]
def Rc:CF Tryz.f124:=⟨_,by conv=>lhs;cbv⟩
theorem aaQ:aD Tryz.prog 124 Rc.1 Tryz.f124.ntmps:=aO Tryz.func124 Rc.2 Tryz.call124
def jU:List Nat:=[0,3,9,2,6,8,10,34]
def Rd:CF Tryz.f260:=⟨_,by conv=>lhs;cbv⟩
theorem aaR:aD Tryz.prog 260 Rd.1 Tryz.f260.ntmps:=aO Tryz.func260 Rd.2 Tryz.call260
def iP:List Nat:=[3,0,2,6,10,35]
def ud:List Int->List Int->Int
 |x::a,y::b=>cR (eQ x y) (ud a b)
 |_,_=>0
theorem FV:∀ {a b:List Int},a.length=b.length->kZ a b=ud a b
 |[],[],_=>rfl
 |[],_::_,h=>by simp at h
 |_::_,[],h=>by simp at h
 |x::a,y::b,h=>by rw [kZ,ud,FV (by simpa using h)]
theorem TU {a b:Int}(h:a ≠ b):eQ a b ≠ 0:=fun e=>h (r5 e)
theorem Nt {a b:Int}(h:¬ a=0):cR a b=a:=if_neg h
theorem TV (x y:Fi):mJ x y=cR (cR (eQ x.jM y.jM) (eQ x.ids.length y.ids.length)) (ud x.ids y.ids):=by
 unfold mJ
 by_cases h1:eQ x.jM y.jM=0
 ·by_cases h2:(x.ids.length:Int)=y.ids.length
  ·rw [FV (by omega)]
   simp only [cR,h1,if_true]
  ·simp [cR,h1,TU h2]
 ·simp [cR,h1]
section
variable {w0:World}{ρ:Hd}
theorem TW (a b:List Int) (ha:a.length<=1099511627776) (gj:b.length<=1099511627776):ah Tryz.prog w0 357 [bY ρ bJ false a,bY ρ bJ false b] (iv (kZ a b)):=by
 obtain⟨R,hR⟩:∃ R,R=kZ a b:=⟨_,rfl⟩
 rw [<-hR]
 refine aaL.aH (by simp [Tryz.ntmps357]) (.v) ?_
 refine gq jg ?_
 repeat' (first
  |(refine az fun m hm=>?_;(try rw [af] at hm);refine gq jg ?_)
  )
 refine ab.aP (σ:=Int) 0 0 [] (fun i=>[(0,bY ρ bJ false a),(1,bY ρ bJ false b),(9,bY ρ bJ false a),(10,.v (.int .i64 m)),(11,.v (.int .i64 i))]) [] (fun _=>[]) (fun i=>∃ k:Nat,i=k/\k<=a.length/\k<=b.length/\R=kZ (a.drop k) (b.drop k)) (fun i=>a.length - i.toNat) 0 ⟨0,rfl,by simp,by simpa using hR⟩ rfl cq ?_
 rintro i ⟨k,hi,hk,hp⟩
 clear hR
 refine gq jg ?_
 by_cases au:k < a.length
 ·obtain⟨s5,hp⟩:=hp
  obtain⟨x,hx,aQ⟩:=aA au
  by_cases Nu:k < b.length
  ·obtain⟨y,hy,cT⟩:=aA Nu
   rw [aQ,cT,kZ,cR] at hp
   repeat' (first
    |(refine ab.op rfl (ad.ind rfl rfl (ay (l:=a) hi hx) (aw fun _=>rfl)) ?_;refine gq jg ?_)
    |(refine ab.op rfl (ad.ind rfl rfl (ay (l:=b) hi hy) (aw fun _=>rfl)) ?_;refine gq jg ?_)
    |(refine ab.int rfl (ad.ag rfl (yJ _ _) ⟨.v,.v,trivial⟩) fun _ _=>?_;refine gq jg ?_)
    |(refine bq (fun hb=>?_) (fun hb=>?_)<;>(try simp only [aq] at hb)<;>(first|refine gq jg ?_))
    |(refine az fun m hm=>?_;(try rw [af] at hm);refine gq jg ?_)
    |(refine aS fun _ _=>?_;refine gq jg ?_)
    |(refine ab.ao ?_;refine gq jg ?_)
    |(refine ab.bK ?_;refine gq jg ?_)
    |(refine fq ?_))
   all_goals first
    |(exfalso;omega)
    |(subst_vars;rw [if_neg (by assumption)];exact dK rfl)
    |(subst_vars;rw [if_pos (by assumption)] at *;(refine ab.aK (σ:=Int) _ [] ?_ ?_ cq<;>first|omega|exact⟨k+1,by omega,by omega,by first|exact⟨by omega,rfl⟩ ⟩))
  ·rw [aQ,show b.drop k=[] from List.drop_eq_nil_of_le (by omega),kZ] at hp
   repeat' (first
    |(refine ab.op rfl (ad.ind rfl rfl (ay (l:=a) hi hx) (aw fun _=>rfl)) ?_;refine gq jg ?_)
    |(refine bq (fun hb=>?_) (fun hb=>?_)<;>(try simp only [aq] at hb)<;>(first|refine gq jg ?_))
    |(refine az fun m hm=>?_;(try rw [af] at hm);refine gq jg ?_)
    |(refine ab.ao ?_;refine gq jg ?_)
    |(refine ab.bK ?_;refine gq jg ?_)
    |(refine fq ?_))
   all_goals first
    |(exfalso;omega)
    |(subst_vars;exact dK rfl)
 ·obtain⟨s5,hp⟩:=hp
  rw [List.drop_eq_nil_of_le (by omega)] at hp
  by_cases Nu:k < b.length
  ·obtain⟨y,hy,cT⟩:=aA Nu
   rw [cT,kZ] at hp
   repeat' (first
    |(refine bq (fun hb=>?_) (fun hb=>?_)<;>(try simp only [aq] at hb)<;>(first|refine gq jg ?_))
    |(refine az fun m hm=>?_;(try rw [af] at hm);refine gq jg ?_)
    |(refine ab.ao ?_;refine gq jg ?_)
    |(refine fq ?_))
   all_goals first
    |(exfalso;omega)
    |(rw [hp];exact dK rfl)
  ·rw [List.drop_eq_nil_of_le (by omega),kZ] at hp
   repeat' (first
    |(refine bq (fun hb=>?_) (fun hb=>?_)<;>(try simp only [aq] at hb)<;>(first|refine gq jg ?_))
    |(refine az fun m hm=>?_;(try rw [af] at hm);refine gq jg ?_)
    |(refine ab.ao ?_;refine gq jg ?_)
    |(refine fq ?_))
   all_goals first
    |(exfalso;omega)
    |(rw [hp];exact dK rfl)
theorem K5 (x y:Fi) (hx:x.ids.length<=1099511627776) (hy:y.ids.length<=1099511627776):ah Tryz.prog w0 241 [fi ρ x,fi ρ y] (iv (mJ x y)):=by
 obtain⟨xr,xs⟩:=x
 obtain⟨yr,ys⟩:=y
 dsimp only at hx hy
 have hC:=TW (w0:=w0) (ρ:=ρ) xs ys hx hy
 obtain⟨R,hR⟩:∃ R,R=mJ ⟨xr,xs⟩ ⟨yr,ys⟩:=⟨_,rfl⟩
 rw [<-hR]
 unfold mJ at hR
 dsimp only at hR
 obtain⟨C,K6⟩:∃ C,C=kZ xs ys:=⟨_,rfl⟩
 rw [<-K6] at hC hR
 refine aaM.aH (by simp [Tryz.ntmps241]) (.v) ?_
 refine gq As ?_
 repeat' (first
  |(refine ab.int rfl (ad.ag rfl (yJ _ _) ⟨.v,.v,trivial⟩) fun _ _=>?_;refine gq As ?_)
  |(refine ab.int rfl (ad.nt rfl (Ps _ _) ⟨bR _,trivial⟩ ⟨Wk.sl,trivial⟩) fun _ _=>?_;refine gq As ?_)
  |(refine ab.op rfl (ad.ag rfl hC ⟨bR _,bR _,trivial⟩) ?_;refine gq As ?_)
  |(refine bq (fun hb=>?_) (fun hb=>?_)<;>(try simp only [aq] at hb)<;>(first|refine gq As ?_))
  |(refine az fun m hm=>?_;(try rw [af] at hm);refine gq As ?_)
  |(refine fq ?_))
 all_goals (subst_vars;refine dK ?_;simp only [cR,pJ] at *;(repeat' split)<;>first|rfl|(simp_all;done) )
theorem K7 (x y:Fi) (hx:x.ids.length<=1099511627776) (hy:y.ids.length<=1099511627776):ah Tryz.prog w0 218 [fi ρ x,fi ρ y] (iv (mJ x y)):=by
 have y4:=TV x y
 obtain⟨R,hR⟩:∃ R,R=mJ x y:=⟨_,rfl⟩
 rw [<-hR] at y4 ⊢
 clear hR
 obtain⟨xr,xs⟩:=x
 obtain⟨yr,ys⟩:=y
 dsimp only at hx hy y4
 refine aaN.aH (by simp [Tryz.ntmps218]) (.v) ?_
 refine gq jA ?_
 repeat' (first
  |(refine ab.int rfl (ad.ag rfl (FA _ _) ⟨.v,.v,trivial⟩) fun _ _=>?_;refine gq jA ?_)
  |(refine bq (fun hb=>?_) (fun hb=>?_)<;>(try simp only [aq] at hb)<;>(first|refine gq jA ?_))
  |(refine az fun m hm=>?_;(try rw [af] at hm);refine gq jA ?_)
  )
 all_goals (
  rename_i c0 xb
  have hR:R=cR c0 (ud xs ys):=by
   subst_vars
   first
    |(rw [show eQ xr yr=0 by assumption];rfl)
    |(rw [Nt (a:=eQ xr yr) (by assumption)])
  clear y4 xb
  refine ab.aP (σ:=Int × Int) 2 2 [] (fun p=>[(2,.pt 0 2 0 0),(3,.pt 1 2 0 0),(5,.v (.int .i64 p.2)),(6,.v (.int .i64 p.1))]) [] (fun _=>[(0,.arr 2 [A8 ρ ⟨xr,xs⟩] 0 true),(1,.arr 2 [A8 ρ ⟨yr,ys⟩] 0 true)])
   (fun p=>∃ k:Nat,p.1=k/\k<=xs.length/\k<=ys.length/\R=cR p.2 (ud (xs.drop k) (ys.drop k))) (fun p=>xs.length - p.1.toNat) (0,c0) ⟨0,rfl,by simp,by simp,by simpa using hR⟩ rfl (by exact⟨sq,rfl,⟨.inl ⟨_,rfl,.arr (by exact⟨kq,trivial⟩)⟩,⟨.inl ⟨_,rfl,.arr (by exact⟨kq,trivial⟩)⟩,trivial⟩⟩,rfl,rfl,rfl⟩) ?_
  rintro⟨i,c⟩ ⟨k,hi,hk,dD,hp⟩
  simp only at hi hp
  clear hR
  refine gq jA ?_
  by_cases au:k < xs.length
  ·by_cases iM:k < ys.length
   ·obtain⟨x,fO,aQ⟩:=aA au
    obtain⟨y,eC,cT⟩:=aA iM
    rw [aQ,cT,ud] at hp
    by_cases hc:c=0
    ·subst hc
     simp only [cR,if_true] at hp
     repeat' (first
      |(refine ab.op rfl (ad.ind rfl rfl (ay (l:=xs) hi fO) (aw fun _=>rfl)) ?_;refine gq jA ?_)
      |(refine ab.op rfl (ad.ind rfl rfl (ay (l:=ys) hi eC) (aw fun _=>rfl)) ?_;refine gq jA ?_)
      |(refine ab.int rfl (ad.ag rfl (FA _ _) ⟨.v,.v,trivial⟩) fun _ _=>?_;refine gq jA ?_)
      |(refine bq (fun hb=>?_) (fun hb=>?_)<;>(try simp only [aq] at hb)<;>(first|exact absurd hb (by decide)|refine gq jA ?_))
      |(refine az fun m hm=>?_;(try rw [af] at hm);refine gq jA ?_)
      |(refine aS fun _ _=>?_;refine gq jA ?_)
      |(refine ab.ao ?_;refine gq jA ?_)
      |(refine fq ?_))
     all_goals first
      |(exfalso;omega)
      |(refine ab.aK (σ:=Int × Int) (_,_) [] ?_ ?_ (by exact⟨sq,rfl,⟨.inl ⟨_,rfl,.arr (by exact⟨kq,trivial⟩)⟩,⟨.inl ⟨_,rfl,.arr (by exact⟨kq,trivial⟩)⟩,trivial⟩⟩,rfl,rfl,rfl⟩)
        ·exact⟨k+1,by simp only;omega,by omega,by omega,by subst_vars;rfl⟩
        ·simp only;omega)
    ·have ca:R=c:=by rw [hp,cR,if_neg hc]
     clear hp
     repeat' (first
      |(refine bq (fun hb=>?_) (fun hb=>?_)<;>(try simp only [aq] at hb)<;>(first|refine gq jA ?_))
      |(refine az fun m hm=>?_;(try rw [af] at hm);refine gq jA ?_)
      |(refine ab.ao ?_;refine gq jA ?_)
      |(refine fq ?_))
     all_goals first
      |(exfalso;omega)
      |(rw [ca];exact dK rfl)
   ·have ca:R=c:=by
     rw [hp,show ys.drop k=[] from List.drop_eq_nil_of_le (by omega)]
     rw [show ud (xs.drop k) []=0 by cases xs.drop k<;>rfl,cR]
     split<;>simp_all
    clear hp
    repeat' (first
     |(refine bq (fun hb=>?_) (fun hb=>?_)<;>(try simp only [aq] at hb)<;>(first|refine gq jA ?_))
     |(refine az fun m hm=>?_;(try rw [af] at hm);refine gq jA ?_)
     |(refine ab.ao ?_;refine gq jA ?_)
     |(refine fq ?_))
    all_goals first
     |(exfalso;omega)
     |(rw [ca];exact dK rfl)
  ·have ca:R=c:=by
    rw [hp,show xs.drop k=[] from List.drop_eq_nil_of_le (by omega),ud,cR]
    ·split<;>simp_all
    ·simp
   clear hp
   repeat' (first
    |(refine bq (fun hb=>?_) (fun hb=>?_)<;>(try simp only [aq] at hb)<;>(first|refine gq jA ?_))
    |(refine az fun m hm=>?_;(try rw [af] at hm);refine gq jA ?_)
    |(refine ab.ao ?_;refine gq jA ?_)
    |(refine fq ?_))
   all_goals first
    |(exfalso;omega)
    |(rw [ca];exact dK rfl))
end
end
def Nv (n:Nat) (s:XS) (a b:AV):Option XS:=match a with
 |.pt k sz i j=>match (eI s).get k with
  |some (.arr sz' rows 0 ex)=>match Nat.beq sz sz' && fT cn (a_ b) && Nat.beq n (a_ b).length with
   |true=>match rows[i]? with
    |some row=>match Nat.ble (j+(a_ b).length) row.length with
     |true=>some (l5 s k (some (.arr sz (rows.set i (oy row j (a_ b))) 0 ex)))
     |false=>none
    |none=>none
   |false=>none
  |_=>none
 |_=>none
def Hx (sz by_:Nat) (s:XS) (a b:AV):Option (AV × XS):=match dv (eI s) b with
 |none=>none
 |some more=>match ee s.yk s.nx with
  |true=>none
  |false=>match a with
   |.sl true rows=>match more with
    |[]=>some (.sl true rows,s)
    |x::more=>match jT sz rows && jT sz (x::more) && Nat.ble ((rows.length+(x::more).length)*by_) 35184372088832 with
     |true=>some (.ob s.nx sz 0 (rows.length+(x::more).length) none,kG s (.arr sz (rows++x::more) 0 false))
     |false=>none
   |.ob k sz' off len cx=>match (eI s).get k with
    |some (.arr gn rows fz ex)=>match more with
     |[]=>match off,cx,Nat.beq gn sz' with
      |0,none,true=>some (.ob k sz' 0 len none,s)
      |_,_,_=>none
     |x::more=>match Nat.beq gn sz && Nat.beq sz' sz && jT sz (x::more) && rq cn (x::more) && Nat.ble ((len+(x::more).length)*by_) 35184372088832 && Nat.ble fz len && Nat.ble (off+len) rows.length with
      |true=>match cx with
       |none=>match off with
        |0=>some (.ob s.nx sz 0 (len+(x::more).length) none,kG (l5 s k none) (.arr sz (rows.take len++x::more) fz false))
        |_=>none
       |some c=>match Nat.beq c len with
        |true=>some (.ob s.nx sz 0 (len+(x::more).length) none,kG s (.arr sz ((rows.drop off).take len++x::more) 0 false))
        |false=>none
      |false=>none
    |_=>none
   |_=>none
def y5:List (Value × AV)->Bool
 |[]=>true
 |(.int .i64 _,_)::l=>y5 l
 |_=>false
def ry (dr:Bool) (q:dz) (f:Nat->AV) (s:XS):Option (AV × XS) :=
 match q with
 |.load k x=>match lB k (eI s) (x.ev f) with
  |some a=>some (a,s)
  |none=>none
 |.alloc cs=>match ee s.yk s.nx with
  |false=>some (.pt s.nx cs.length 0 0,kG s (.arr cs.length [cs] 0 true))
  |true=>none
 |.box x=>match ee s.yk s.nx,fT cn (a_ (x.ev f)) with
  |false,true=>some (.pt s.nx (a_ (x.ev f)).length 0 0,kG s (.arr (a_ (x.ev f)).length [a_ (x.ev f)] 0 true))
  |_,_=>none
 |.store n x b=>match Nv n s (x.ev f) (b.ev f) with
  |some s'=>some (.v undef,s')
  |none=>none
 |.append sz by_ a b=>Hx sz by_ s (a.ev f) (b.ev f)
 |.jo z by_ l c=>match l.ev f,c.ev f with
  |.v (.int _ i),.v (.int _ j)=>match decide (0<=i/\i=j/\i*by_<=35184372088832/\i<=9223372036854775807) && !ee s.yk s.nx with
   |true=>some (.ob s.nx z.length 0 i.toNat none,kG s (.arr z.length (List.replicate i.toNat z) 0 true))
   |false=>none
  |_,_=>none
 |.eZ x=>match dr,ee s.yk s.nx,x with
  |false,false,none=>some (.mp s.nx,kG s (.mp []))
  |false,false,some x=>match x.ev f with
   |.v (.int _ _)=>some (.mp s.nx,kG s (.mp []))
   |_=>none
  |_,_,_=>none
 |.look z c x i=>match dr,x.ev f,i.ev f with
  |false,.mp k,.v (.int .i64 m)=>match (eI s).get k with
   |some (.mp es)=>match y5 es with
    |true=>some ((match tJ es m with|some a=>(if c then .bc [a,.v (.bool true)] else a)|none=>(if c then .bc [z,.v (.bool false)] else z)),s)
    |false=>none
   |_=>none
  |_,_,_=>none
 |.j6 x i b=>match x.ev f,i.ev f with
  |.mp k,.v (.int .i64 m)=>match (eI s).get k with
   |some (.mp es)=>match y5 es with
    |true=>some (.v undef,l5 s k (some (.mp (xI es m (b.ev f)))))
    |false=>none
   |_=>none
  |_,_=>none
 |.vw x=>match x.ev f,ee s.yk s.nx with
  |.v (.string z),false=>some (.pt s.nx 0 0 0,kG s (.si z 0))
  |_,_=>none
 |.qg x=>match x.ev f with
  |.pt k _ 0 0=>match (eI s).get k with
   |some (.si z pos)=>match Nat.blt pos z.size with
    |true=>some (.bc [.v (.bool true),.v (.int .i64 pos),.v (.int .i32 (Utf8.decode z pos).1)],l5 s k (some (.si z (pos+(Utf8.decode z pos).2))))
    |false=>some (.bc [.v (.bool false)],s)
   |_=>none
  |_=>none
 |q=>match ru dr q f with
  |some r=>some (r,s)
  |none=>none
section
variable {P:Program}{w0:World}{o:Op}{α:AA}{S S':ae}{r:AV}{dr:Bool}
theorem FW {F:AV->Bool}:∀ {l:List AV},fT F l=true->l.all F=true:=fun h=>List.all_eq_true.2 (dH h)
theorem ad.sto {n:Nat}{x b:QO}{k sz i j:Nat}{ex:Bool}{rows:List (List AV)}{row:List AV}(hx:x.ev α.tm=.pt k sz i j) (hk:S.get k=some (.arr sz rows 0 ex)) (hc:(a_ (b.ev α.tm)).all cn=true) (hn:n=(a_ (b.ev α.tm)).length) (hi:rows[i]?=some row)
  (hj:j+(a_ (b.ev α.tm)).length<=row.length):ad P w0 dr (.store n x b) α S (.v undef) (S.set k (some (.arr sz (rows.set i (oy row j (a_ (b.ev α.tm)))) 0 ex))):=by
 refine ad.of rfl fun o hr=>?_
 cases o<;>simp only [res,ec] at hr<;>(repeat' split at hr)<;>(try cases hr)
 rename_i hs
 rw [aU] at hx hc hn hj ⊢
 simp only [bm,hx]
 refine bp.mk (a:=_) ?_ ⟨rfl,rfl⟩
 simp only [lv,hk,hs,hc,hn,Nat.beq_refl,Bool.and_self,hi,Nat.ble_eq_true_of_le hj]
theorem ad.afG {sz by_ k fz off len c:Nat}{ex:Bool}{a b:QO}{rows more:List (List AV)}{x:List AV}(h1:a.ev α.tm=.ob k sz off len (some c)) (hk:S.get k=some (.arr sz rows fz ex)) (hm:dv S (b.ev α.tm)=some (x::more)) (h0:c=len) (h2:off+len<=rows.length)
  (h3:∀ row ∈ x::more,row.length=sz) (h4:(len+(x::more).length)*by_<=35184372088832) :
  ad P w0 dr (.append sz by_ a b) α S (.ob S.nx sz 0 (len+(x::more).length) none) (S.new (.arr sz ((rows.drop off).take len++x::more) 0 false)):=by
 refine ad.append (dp hm).1 (dp hm).2 fun e z hz hs hb hp=>?_
 rw [h1]
 simp only [jm]
 refine bp.mk (qR hk) ?_
 simp only [hs,hb,hp,Nat.beq_refl,Bool.and_self,Bool.true_and]
 exact⟨h0,h2,h3,h4,rfl,rfl⟩
theorem vx:∀ {es:List (Value × AV)},y5 es=true->qB es:=by
 intro es
 induction es with
 |nil=>intro h;intro p hp;cases hp
 |cons p es ih =>
  intro h
  obtain⟨v,a⟩:=p
  intro p hp
  unfold y5 at h
  split at h
  ·cases ‹_::_=[]›
  ·rename_i e
   injection e with e1 e2
   injection e1 with e3 e4
   subst e2 e3 e4
   rcases List.mem_cons.1 hp with rfl|hp
   ·exact⟨_,rfl⟩
   ·exact ih h p hp
  ·cases h
section
variable {J:FJ}{s:XS}
theorem y6 {k:LK}{a r:AV}(h:lB k (eI s) a=some r):lB k (den J s) a=some r:=by
 unfold lB at h ⊢
 split at h
 ·exact h
 ·split at h
  ·rename_i hk
   rw [(dA (J:=J) hk).1]
   exact h
  ·cases h
 ·cases h
theorem ic {b:AV}{l:List (List AV)}(h:dv (eI s) b=some l):dv (den J s) b=some l:=by
 obtain⟨h1,h2⟩:=dp h
 have key:rowsOf (den J s) b=some l:=by
  unfold rowsOf at h1 ⊢
  split at h1
  ·exact h1
  ·split at h1
   ·rename_i hk
    rw [(dA (J:=J) hk).1]
    exact h1
   ·cases h1
  all_goals first|exact h1|cases h1
 unfold dv
 rw [key,h2]
 simp only [Nat.beq_refl]
end
theorem Hy {n:Nat}{x b:QO}{f:Nat->AV}{df:List DE}{s s':XS}(h:Nv n s (x.ev f) (b.ev f)=some s'):(∀ J,ad P w0 dr (.store n x b) ⟨f,df⟩ (den J s) (.v undef) (den J s'))/\dX s s'/\s'.lg=s.lg:=by
 unfold Nv at h
 split at h
 ·rename_i k sz i j hx
  split at h
  ·rename_i sz' rows ex hk
   split at h
   ·rename_i hc
    simp only [Bool.and_eq_true] at hc
    obtain⟨⟨h1,h2⟩,h3⟩:=hc
    have h1:=Nat.eq_of_beq_eq_true h1
    have h3:=Nat.eq_of_beq_eq_true h3
    subst h1
    split at h
    ·rename_i row hi
     split at h
     ·rename_i hj
      have hj:=Nat.le_of_ble_eq_true hj
      obtain rfl:=Option.some.inj h
      refine⟨fun J=>?_,.wr,rfl⟩
      obtain⟨ez,dD⟩:=dA (J:=J) hk
      rw [kH dD]
      exact ad.sto hx ez (FW h2) h3 hi hj
     ·cases h
    ·cases h
   ·cases h
  ·cases h
 ·cases h
theorem y7 {sz by_:Nat}{a b:QO}{f:Nat->AV}{df:List DE}{s s':XS}(h:Hx sz by_ s (a.ev f) (b.ev f)=some (r,s')):(∀ J,ad P w0 dr (.append sz by_ a b) ⟨f,df⟩ (den J s) r (den J s'))/\dX s s'/\s'.lg=s.lg:=by
 unfold Hx at h
 split at h
 ·cases h
 ·rename_i more hm
  split at h
  ·cases h
  ·rename_i V_
   split at h
   ·rename_i rows ha
    split at h
    ·simp only [Option.some.injEq,Prod.mk.injEq] at h
     obtain⟨rfl,rfl⟩:=h
     exact⟨fun J=>ad.C9 ha (ic hm),.refl _,rfl⟩
    ·rename_i x more
     split at h
     ·rename_i hc
      simp only [Bool.and_eq_true] at hc
      obtain⟨⟨h1,h2⟩,h3⟩:=hc
      simp only [Option.some.injEq,Prod.mk.injEq] at h
      obtain⟨rfl,rfl⟩:=h
      refine⟨fun J=>?_,.nw,rfl⟩
      rw [iO V_]
      exact ad.Ai ha (ic hm) (fk h1) (fk h2) (Nat.le_of_ble_eq_true h3)
     ·cases h
   ·rename_i k sz' off len cx ha
    split at h
    ·rename_i gn rows fz ex hk
     split at h
     ·split at h
      ·rename_i hb
       have hb:=Nat.eq_of_beq_eq_true hb
       subst hb
       simp only [Option.some.injEq,Prod.mk.injEq] at h
       obtain⟨rfl,rfl⟩:=h
       exact⟨fun J=>ad.yO ha (dA (J:=J) hk).1 (ic hm),.refl _,rfl⟩
      ·cases h
     ·rename_i x more
      split at h
      ·rename_i hc
       simp only [Bool.and_eq_true] at hc
       obtain⟨⟨⟨⟨⟨⟨h1,h2⟩,h3⟩,h4⟩,h5⟩,h6⟩,h7⟩:=hc
       have h1:=Nat.eq_of_beq_eq_true h1
       have h2:=Nat.eq_of_beq_eq_true h2
       have h3:=fk h3
       have h4:=ku h4
       have h5:=Nat.le_of_ble_eq_true h5
       have h6:=Nat.le_of_ble_eq_true h6
       have h7:=Nat.le_of_ble_eq_true h7
       subst h1 h2
       split at h
       ·split at h
        ·simp only [Option.some.injEq,Prod.mk.injEq] at h
         obtain⟨rfl,rfl⟩:=h
         refine⟨fun J=>?_,dX.wr.trans .nw,rfl⟩
         obtain⟨ez,dD⟩:=dA (J:=J) hk
         rw [iO (s:=l5 s k none) V_,kH dD]
         exact ad.Hc ha ez (ic hm) h6 (by omega) (fun row hr=>⟨h3 row hr,List.all_eq_true.2 (h4 row hr)⟩) h5
        ·cases h
       ·split at h
        ·rename_i hc
         have hc:=Nat.eq_of_beq_eq_true hc
         simp only [Option.some.injEq,Prod.mk.injEq] at h
         obtain⟨rfl,rfl⟩:=h
         refine⟨fun J=>?_,.nw,rfl⟩
         rw [iO V_]
         exact ad.afG ha (dA (J:=J) hk).1 (ic hm) hc h7 h3 h5
        ·cases h
      ·cases h
    ·cases h
   ·cases h
theorem K8 {q:dz}{f:Nat->AV}{df:List DE}{s s':XS}(h:ry dr q f s=some (r,s')):(∀ J,ad P w0 dr q ⟨f,df⟩ (den J s) r (den J s'))/\dX s s'/\s'.lg=s.lg:=by
 have pure:∀ {q:dz},(match ru dr q f with|some r=>some (r,s)|none=>none)=some (r,s')->(∀ J,ad P w0 dr q ⟨f,df⟩ (den J s) r (den J s'))/\dX s s'/\s'.lg=s.lg:=fun {q} h=>by
  split at h
  ·rename_i r' hq
   simp only [Option.some.injEq,Prod.mk.injEq] at h
   obtain⟨rfl,rfl⟩:=h
   exact⟨fun J=>Bp hq,.refl _,rfl⟩
  ·cases h
 cases q with
 |load k x =>
  simp only [ry] at h
  split at h
  ·rename_i a ha
   simp only [Option.some.injEq,Prod.mk.injEq] at h
   obtain⟨rfl,rfl⟩:=h
   exact⟨fun J=>ad.quiet (by simp only [ix,y6 ha]),.refl _,rfl⟩
  ·cases h
 |alloc cs =>
  simp only [ry] at h
  split at h
  ·rename_i hy
   simp only [Option.some.injEq,Prod.mk.injEq] at h
   obtain⟨rfl,rfl⟩:=h
   refine⟨fun J=>ad.quiet ?_,.nw,rfl⟩
   rw [iO hy]
   simp only [ix,oH]
   rfl
  ·cases h
 |box x =>
  simp only [ry] at h
  split at h
  ·rename_i hy hc
   simp only [Option.some.injEq,Prod.mk.injEq] at h
   obtain⟨rfl,rfl⟩:=h
   refine⟨fun J=>ad.quiet ?_,.nw,rfl⟩
   rw [iO hy]
   simp only [ix,oH,FW hc]
   rfl
  ·cases h
 |store n x b =>
  simp only [ry] at h
  split at h
  ·rename_i s1 hs
   simp only [Option.some.injEq,Prod.mk.injEq] at h
   obtain⟨rfl,rfl⟩:=h
   exact Hy hs
  ·cases h
 |append sz by_ a b=>exact y7 h
 |jo z by_ l c =>
  simp only [ry] at h
  split at h
  ·rename_i k1 i k2 j hl hc
   split at h
   ·rename_i hd
    simp only [Bool.and_eq_true,Bool.not_eq_true'] at hd
    have dT:=of_decide_eq_true hd.1
    simp only [Option.some.injEq,Prod.mk.injEq] at h
    obtain⟨rfl,rfl⟩:=h
    refine⟨fun J=>?_,.nw,rfl⟩
    rw [iO hd.2]
    exact ad.mks hl hc dT.1 dT.2.1 dT.2.2.1 dT.2.2.2
   ·cases h
  ·cases h
 |eZ x =>
  simp only [ry] at h
  split at h
  ·rename_i hy
   simp only [Option.some.injEq,Prod.mk.injEq] at h
   obtain⟨rfl,rfl⟩:=h
   refine⟨fun J=>?_,.nw,rfl⟩
   rw [iO hy]
   exact ad.eZ
  ·rename_i y hy
   split at h
   ·rename_i hx
    simp only [Option.some.injEq,Prod.mk.injEq] at h
    obtain⟨rfl,rfl⟩:=h
    refine⟨fun J=>?_,.nw,rfl⟩
    rw [iO hy]
    exact ad.yD hx
   ·cases h
  ·cases h
 |look z c x i =>
  simp only [ry] at h
  split at h
  ·rename_i k m hx hi
   split at h
   ·rename_i es hk
    split at h
    ·rename_i he
     simp only [Option.some.injEq,Prod.mk.injEq] at h
     obtain⟨rfl,rfl⟩:=h
     exact⟨fun J=>ad.look hx (dA (J:=J) hk).1 (vx he) hi,.refl _,rfl⟩
    ·cases h
   ·cases h
  ·cases h
 |j6 x i b =>
  simp only [ry] at h
  split at h
  ·rename_i k m hx hi
   split at h
   ·rename_i es hk
    split at h
    ·rename_i he
     simp only [Option.some.injEq,Prod.mk.injEq] at h
     obtain⟨rfl,rfl⟩:=h
     refine⟨fun J=>?_,.wr,rfl⟩
     obtain⟨ez,dD⟩:=dA (J:=J) hk
     rw [kH dD]
     cases dr with
     |false=>exact ad.j6 hx ez (vx he) hi rfl
     |true=>exact ad.Cm hx ez (vx he) hi rfl
    ·cases h
   ·cases h
  ·cases h
 |vw x =>
  simp only [ry] at h
  split at h
  ·rename_i z hx hy
   simp only [Option.some.injEq,Prod.mk.injEq] at h
   obtain⟨rfl,rfl⟩:=h
   refine⟨fun J=>?_,.nw,rfl⟩
   rw [iO hy]
   exact ad.U9 hx
  ·cases h
 |qg x =>
  simp only [ry] at h
  split at h
  ·rename_i k sz hx
   split at h
   ·rename_i z pos hk
    split at h
    ·rename_i hp
     simp only [Option.some.injEq,Prod.mk.injEq] at h
     obtain⟨rfl,rfl⟩:=h
     refine⟨fun J=>?_,.wr,rfl⟩
     obtain⟨ez,dD⟩:=dA (J:=J) hk
     rw [kH dD]
     exact ad.G9 hx ez (dZ hp)
    ·rename_i hp
     simp only [Option.some.injEq,Prod.mk.injEq] at h
     obtain⟨rfl,rfl⟩:=h
     refine⟨fun J=>ad.Wa hx (dA (J:=J) hk).1 ?_,.refl _,rfl⟩
     rcases Nat.lt_or_ge pos z.size with h1|h1
     ·have:Nat.blt pos z.size=true:=Nat.ble_eq_true_of_le h1
      rw [this] at hp;cases hp
     ·exact h1
   ·cases h
  ·cases h
 |_=>exact pure h
end
end Go.Proofs.YtgphljokbodciaaGreat
