import Derived.Test.YtgphljokbodciaaGreatS47
import Derived.Test.YtgphljokbodciaaGreatS49
namespace Go.Proofs.YtgphljokbodciaaGreat
set_option linter.unusedVariables false
set_option linter.unusedSimpArgs false
open Go.RowKit
section
set_option maxRecDepth 100000
attribute [local irreducible] ah aV ad ab
def S3:CF Tryz.f127:=⟨_,by conv=>lhs;cbv⟩
theorem aec:aD Tryz.prog 127 S3.1 Tryz.f127.ntmps:=aO Tryz.func127 S3.2 Tryz.call127
def sX:List Nat:=[3,5,0,4,1,8,57]
def S4:CF Tryz.f129:=⟨_,by conv=>lhs;cbv⟩
theorem aed:aD Tryz.prog 129 S4.1 Tryz.f129.ntmps:=aO Tryz.func129 S4.2 Tryz.call129
def AY:List Nat:=[3,0,4,1]
def pj (p:Pg) (c:eD) (x:Im):Bool:=decide (x.id < c.next) && fg (varsOf x.a) c.fresh c.binds && dU p.ds x.n x.a.length
def nh (p:Pg) (c:eD) (m:Int) (x:fX):Bool:=if x.id=0 then x.pS == 0 && (eS x.g && (fg (varsOf x.g.a) c.fresh c.binds && (tA x.g.op || (decide (x.g.op=0) && dU p.ds x.g.n x.g.a.length)))) else decide (0 < x.id) && (decide (x.id < c.next) && (my x.g && (decide (-1<=x.pS) && decide (x.pS<=m))))
section
variable {w0:World}{ρ:Hd}
set_option maxHeartbeats 1000000 in
theorem UA {o0 o1:Ob}(k0:ba 4 o0) (k1:ba 4 o1) (p:Pg) (c:eD) (m:Int) (kv:List (Int × Unit)) (jG:∀ v,jh kv v=gz c.binds v) (hd:p.ds.length<=1099511627776) (x:Im) (hx:x.ok):aV Tryz.prog w0 129 [.pt 3 11 0 0,it ρ x] (aE [(0,o0),(1,o1),(2,sF ρ kv),(3,gF ρ p c m)] 4) (.v (.bool (pj p c x))) (aE [(0,o0),(1,o1),(2,sF ρ kv),(3,gF ρ p c m)] 4):=by
 have k2:=kM (ρ:=ρ) (N:=4) kv
 have k3:=eF (ρ:=ρ) (N:=4) (by decide) p c m
 have hV:=yU (w0:=w0) (ρ:=ρ) ⟨x.n,x.a⟩ hx.1.len hx.1.1 (qu hx.1)
 have hF:=Gv (w0:=w0) (ρ:=ρ) k0 k1 p c m kv jG (varsOf x.a) (oZ hx.1)
 have hD:=tZ (w0:=w0) (ρ:=ρ) p.ds x.n x.a.length hd
 have pa:=hx.1.len
 have kJ:=cX (ρ:=ρ) ⟨x.n,x.a⟩
 obtain⟨R,hR⟩:∃ R,R=pj p c x:=⟨_,rfl⟩
 rw [<-hR]
 unfold pj at hR
 obtain⟨F,sC⟩:∃ F,F=fg (varsOf x.a) c.fresh c.binds:=⟨_,rfl⟩
 obtain⟨D,v3⟩:∃ D,D=dU p.ds x.n x.a.length:=⟨_,rfl⟩
 obtain⟨Z,hZ⟩:∃ Z,Z=decide (x.id < c.next):=⟨_,rfl⟩
 rw [<-sC,<-v3,<-hZ] at hR
 rw [<-sC] at hF
 rw [<-v3] at hD
 obtain⟨vs,jH⟩:∃ vs,vs=varsOf x.a:=⟨_,rfl⟩
 dsimp only at hV
 rw [<-jH] at hV hF
 obtain⟨q,hq⟩:∃ q:Int,q=x.a.length:=⟨_,rfl⟩
 rw [<-hq] at hD
 clear sC v3 jH jG hx
 obtain⟨ds,rs⟩:=p
 obtain⟨stack,store,binds,b9,next,fresh,failed⟩:=c
 obtain⟨xi,xn,xa⟩:=x
 dsimp only at hZ hq hD pa hd hV kJ
 unfold sF gF at *
 refine aD.dw 4 4 _ aed (by simp [Tryz.ntmps129]) rfl rfl ?_
 refine gq AY ?_
 repeat' (first
  |(refine ab.op rfl (ad.ag rfl hV ⟨kJ,trivial⟩) ?_;refine gq AY ?_)
  |(refine ab.bif rfl (ad.gN hF rfl (kO rfl rfl rfl rfl rfl k0 k1 k2 k3) (fun a ha=>by simp only [List.mem_cons,List.not_mem_nil,or_false] at ha;rcases ha with rfl|rfl;exact .pt (by decide);exact Pure.bM (bR _)) .v) (fun _=>?_) (fun _=>?_)<;>refine gq AY ?_)
  |(refine ab.int rfl (ad.len rfl) fun m hm=>?_;rw [af] at hm;obtain rfl:m=q:=(by omega);refine gq AY ?_)
  |(refine ab.bif rfl (ad.ag rfl hD ⟨cg _,.v,.v,trivial⟩) (fun _=>?_) (fun _=>?_)<;>refine gq AY ?_)
  |(refine bq (fun hb=>?_) (fun hb=>?_)<;>(try simp only [aq] at hb)<;>(first|refine gq AY ?_))
  |(refine fq ?_))
 all_goals
  clear hV hF hD
  subst hR
  cases F<;>cases D<;>cases Z<;>first
   |(exfalso;contradiction)
   |(exfalso;simp at hZ;omega)
   |exact⟨[],.aC .v,⟨.inl ⟨_,rfl,.same k0.1⟩,.inl ⟨_,rfl,.same k1.1⟩,.inl ⟨_,rfl,.same k2.1⟩,.inl ⟨_,rfl,.same k3.1⟩,trivial⟩,rfl⟩
set_option maxHeartbeats 2000000 in
theorem OK {o0 o1:Ob}(k0:ba 4 o0) (k1:ba 4 o1) (p:Pg) (c:eD) (m:Int) (kv:List (Int × Unit)) (jG:∀ v,jh kv v=gz c.binds v) (hd:p.ds.length<=1099511627776) (x:fX) (hx:q9 x.g):aV Tryz.prog w0 127 [.pt 3 11 0 0,tD ρ x] (aE [(0,o0),(1,o1),(2,sF ρ kv),(3,gF ρ p c m)] 4) (.v (.bool (nh p c m x))) (aE [(0,o0),(1,o1),(2,sF ρ kv),(3,gF ρ p c m)] 4):=by
 have k2:=kM (ρ:=ρ) (N:=4) kv
 have k3:=eF (ρ:=ρ) (N:=4) (by decide) p c m
 obtain⟨g,Gw,yx⟩:=x
 dsimp only at hx
 have hG:=Ag (w0:=w0) (ρ:=ρ) g ⟨hx.1.len,hx.1.1⟩ hx.2
 have hV:=yT (w0:=w0) (ρ:=ρ) g hx.1.len hx.1.1 (qu hx.1)
 have hF:=Gv (w0:=w0) (ρ:=ρ) k0 k1 p c m kv jG (varsOf g.a) (oZ hx.1)
 have hU:=Oo (w0:=w0) (ρ:=ρ) g
 have hZ:=Uv (w0:=w0) (ρ:=ρ) g hx.1.len
 have hD:=tZ (w0:=w0) (ρ:=ρ) p.ds g.n g.a.length hd
 have pa:=hx.1.len
 have jb:=eE (ρ:=ρ) g
 obtain⟨R,hR⟩:∃ R,R=nh p c m ⟨g,Gw,yx⟩:=⟨_,rfl⟩
 rw [<-hR]
 unfold nh at hR
 dsimp only at hR
 obtain⟨G,X4⟩:∃ G,G=eS g:=⟨_,rfl⟩
 obtain⟨F,sC⟩:∃ F,F=fg (varsOf g.a) c.fresh c.binds:=⟨_,rfl⟩
 obtain⟨U,Gx⟩:∃ U,U=tA g.op:=⟨_,rfl⟩
 obtain⟨D,v3⟩:∃ D,D=dU p.ds g.n g.a.length:=⟨_,rfl⟩
 obtain⟨Y,hY⟩:∃ Y,Y=my g:=⟨_,rfl⟩
 rw [<-X4,<-sC,<-Gx,<-v3,<-hY] at hR
 rw [<-X4] at hG
 rw [<-sC] at hF
 rw [<-Gx] at hU
 rw [<-v3] at hD
 rw [<-hY] at hZ
 obtain⟨vs,jH⟩:∃ vs,vs=varsOf g.a:=⟨_,rfl⟩
 rw [<-jH] at hV hF
 obtain⟨q,hq⟩:∃ q:Int,q=g.a.length:=⟨_,rfl⟩
 rw [<-hq] at hD
 clear X4 sC Gx v3 jH jG hx hY
 obtain⟨ds,rs⟩:=p
 obtain⟨stack,store,binds,b9,next,fresh,failed⟩:=c
 obtain⟨xo,xn,xa⟩:=g
 dsimp only at hR hq hD pa hd
 unfold sF gF at *
 refine aD.dw 4 4 _ aec (by simp [Tryz.ntmps127]) rfl rfl ?_
 refine gq sX ?_
 by_cases hid:Gw=0
 ·rw [if_pos hid] at hR
  repeat' (first
   |(refine ab.bif rfl (ad.ag rfl hG ⟨jb,trivial⟩) (fun _=>?_) (fun _=>?_)<;>refine gq sX ?_)
   |(refine ab.op rfl (ad.ag rfl hV ⟨jb,trivial⟩) ?_;refine gq sX ?_)
   |(refine ab.bif rfl (ad.gN hF rfl (kO rfl rfl rfl rfl rfl k0 k1 k2 k3) (fun a ha=>by simp only [List.mem_cons,List.not_mem_nil,or_false] at ha;rcases ha with rfl|rfl;exact .pt (by decide);exact Pure.bM (bR _)) .v) (fun _=>?_) (fun _=>?_)<;>refine gq sX ?_)
   |(refine ab.bif rfl (ad.ag rfl hU ⟨jb,trivial⟩) (fun _=>?_) (fun _=>?_)<;>refine gq sX ?_)
   |(refine ab.int rfl (ad.len rfl) fun m hm=>?_;rw [af] at hm;obtain rfl:m=q:=(by omega);refine gq sX ?_)
   |(refine ab.bif rfl (ad.ag rfl hD ⟨cg _,.v,.v,trivial⟩) (fun _=>?_) (fun _=>?_)<;>refine gq sX ?_)
   |(refine bq (fun hb=>?_) (fun hb=>?_)<;>(try simp only [aq] at hb)<;>(first|refine gq sX ?_))
   |(refine fq ?_))
  all_goals first
   |(exfalso;omega)
   |(clear hG hV hF hU hD hZ
     rw [show R=false by rw [hR,show (yx == 0)=false by simp;omega];rfl];exact⟨[],.aC .v,⟨.inl ⟨_,rfl,.same k0.1⟩,.inl ⟨_,rfl,.same k1.1⟩,.inl ⟨_,rfl,.same k2.1⟩,.inl ⟨_,rfl,.same k3.1⟩,trivial⟩,rfl⟩)
   |(clear hG hV hF hU hD hZ
     rw [show (yx == 0)=true by simp;omega] at hR
     first
      |rw [decide_eq_true (show xo=0 by omega)] at hR
      |rw [decide_eq_false (show ¬ xo=0 by omega)] at hR
      |skip
     subst hR
     cases G<;>cases F<;>cases U<;>cases D<;>first
      |(exfalso;contradiction)
      |exact⟨[],.aC .v,⟨.inl ⟨_,rfl,.same k0.1⟩,.inl ⟨_,rfl,.same k1.1⟩,.inl ⟨_,rfl,.same k2.1⟩,.inl ⟨_,rfl,.same k3.1⟩,trivial⟩,rfl⟩)
 ·rw [if_neg hid] at hR
  repeat' (first
   |(refine ab.bif rfl (ad.ag rfl hZ ⟨jb,trivial⟩) (fun _=>?_) (fun _=>?_)<;>refine gq sX ?_)
   |(refine bq (fun hb=>?_) (fun hb=>?_)<;>(try simp only [aq] at hb)<;>(first|refine gq sX ?_))
   |(refine fq ?_))
  all_goals first
   |(exfalso;omega)
   |(clear hG hV hF hU hD hZ
     rw [show R=false by rw [hR];first|(rw [decide_eq_false (show ¬ 0 < Gw by omega)];rfl)|(rw [decide_eq_false (show ¬ Gw < next by omega)];simp;done)|(rw [show Y=false by assumption];simp;done)|(rw [decide_eq_false (show ¬ -1<=yx by omega)];simp;done)|(rw [decide_eq_false (show ¬ yx<=m by omega)];simp;done)];exact⟨[],.aC .v,⟨.inl ⟨_,rfl,.same k0.1⟩,.inl ⟨_,rfl,.same k1.1⟩,.inl ⟨_,rfl,.same k2.1⟩,.inl ⟨_,rfl,.same k3.1⟩,trivial⟩,rfl⟩)
   |(clear hG hV hF hU hD hZ
     rw [show R=true by rw [hR,decide_eq_true (show 0 < Gw by omega),decide_eq_true (show Gw < next by omega),show Y=true by assumption,decide_eq_true (show -1<=yx by omega),decide_eq_true (show yx<=m by omega)];rfl];exact⟨[],.aC .v,⟨.inl ⟨_,rfl,.same k0.1⟩,.inl ⟨_,rfl,.same k1.1⟩,.inl ⟨_,rfl,.same k2.1⟩,.inl ⟨_,rfl,.same k3.1⟩,trivial⟩,rfl⟩)
end
end
section
set_option maxRecDepth 100000
attribute [local irreducible] ah aV ad ab
def X5:CF Tryz.f52:=⟨_,by conv=>lhs;cbv⟩
theorem agp:aD Tryz.prog 52 X5.1 Tryz.f52.ntmps:=aO Tryz.func52 X5.2 Tryz.call52
def nW:List Nat:=[3,9,2,8,4,0,1,6,22,35,43,53,73,7,100]
def tF (p:Pg) (c:eD) (m:Nat) (x:fX):Bool:=if x.id=0 then x.pS == 0 && (q_ p.ds x.g && fg (varsOf x.g.a) c.fresh c.binds) else decide (1<=x.id) && (decide (x.id < c.next) && (my x.g && (decide (-1<=x.pS) && decide (x.pS<=m))))
def tG (p:Pg) (c:eD):Bool:=decide ((nR p).2=0) && (decide (c.stack.length<=1000) && (qw p c.store c.binds c.b9 c.next c.fresh && c.stack.all (tF p c (ep p.rs 0).length)))
section
variable {w0:World}{ρ:Hd}
set_option maxHeartbeats 4000000 in
theorem L5 (p:Pg) (c:eD) (lI:zE p) (hs:xy c) (fD:∀ r ∈ p.rs,BU r) (hn:(ep p.rs 0).length<=1099511627776):ah Tryz.prog w0 52 [pg ρ p,rL ρ c] (.v (.bool (tG p c))):=by
 have hC:=Oh (w0:=w0) (ρ:=ρ) p lI fD
 have cZ:=Oj (w0:=w0) (ρ:=ρ) p c.store c.binds c.b9 c.next c.fresh lI.ds lI.rs (fun r hr=>(fD r hr).h) hs.st hs.bl hs.fl hs.sx hs.bx hs.fx
 have hO:=XI (w0:=w0) (ρ:=ρ) p.ds p.rs lI.rs (fun r hr=>(fD r hr).h) hn
 have lq:=mW (ρ:=ρ) p
 have m8:=uC (ρ:=ρ) c
 have X6:∀ x ∈ c.stack,_:=fun x hx=>TT (w0:=w0) (ρ:=ρ) p x.g lI.ds (hs.gx x hx)
 have X7:∀ x ∈ c.stack,_:=fun x hx=>TS (w0:=w0) (ρ:=ρ) x.g c.fresh c.binds hs.bl (hs.gx x hx)
 have X8:∀ x ∈ c.stack,_:=fun x hx=>Uw (w0:=w0) (ρ:=ρ) x.g (hs.gx x hx).1.len
 have zK:=hs.gl
 obtain⟨R,hR⟩:∃ R,R=tG p c:=⟨_,rfl⟩
 rw [<-hR]
 unfold tG at hR
 obtain⟨⟨c1,c2⟩,hc⟩:∃ c,c=nR p:=⟨_,rfl⟩
 rw [<-hc] at hC hR
 dsimp only at hC hR
 generalize qw p c.store c.binds c.b9 c.next c.fresh=A at cZ hR
 generalize ep p.rs 0=oc at hO hR hn
 obtain⟨fG,X9⟩:∃ f,f=tF p c oc.length:=⟨_,rfl⟩
 rw [<-X9] at hR
 have Eo:∀ x,fG x=tF p c oc.length x:=fun x=>by rw [X9]
 simp only [tF] at Eo
 clear hc hs lI fD X9
 obtain⟨ds,rs⟩:=p
 obtain⟨goals,store,binds,b9,next,fresh,failed⟩:=c
 dsimp only at cZ X6 X7 zK Eo hR hO X8
 refine agp.aH (by simp [Tryz.ntmps52]) (.v) ?_
 refine gq nW ?_
 repeat' (first
  |(refine ab.op rfl (ad.ag rfl hC ⟨lq,trivial⟩) ?_;refine gq nW ?_)
  |(refine ab.bif rfl (ad.ag rfl cZ ⟨lq,ct _,b8 _,cN _,.v,.v,trivial⟩) (fun _=>?_) (fun _=>?_)<;>refine gq nW ?_)
  |(refine ab.op rfl (ad.ag rfl hO ⟨lq,trivial⟩) ?_;refine gq nW ?_)
  |(refine bq (fun hb=>?_) (fun hb=>?_)<;>(try simp only [aq] at hb)<;>(first|refine gq nW ?_))
  |(refine az fun m hm=>?_;(try rw [af] at hm);refine gq nW ?_)
  |(refine fq ?_))
 all_goals first
  |(refine aI ?_;rw [hR,decide_eq_false (show ¬ c2=0 by omega)];rfl)
  |(refine aI ?_;rw [hR,decide_eq_false (show ¬ goals.length<=1000 by omega)];simp;done)
  |(refine aI ?_;rw [hR,show A=false by assumption];simp;done)
  |skip
 rw [decide_eq_true (show c2=0 by omega),decide_eq_true (show goals.length<=1000 by omega),show A=true by assumption] at hR
 simp only [Bool.true_and] at hR
 clear hC cZ hO
 rename_i mo hmo
 have hO:∀ (B:Nat),jF B (.arr 7 [zM ρ ⟨goals,store,binds,b9,next,fresh,failed⟩] 0 true):=fun B row hr a ha=>by
  obtain rfl:=List.mem_singleton.1 hr
  exact (m8 a ha).bM
 refine ab.aP (σ:=Int) 2 2 [] (fun i=>[(2,.pt 0 2 0 0),(3,.pt 1 7 0 0),(7,.v (.int .i64 m)),(8,.v (.int .i64 i))]) [] (fun _=>[(0,.arr 2 [iY ρ ⟨ds,rs⟩] 0 true),(1,.arr 7 [zM ρ ⟨goals,store,binds,b9,next,fresh,failed⟩] 0 true)]) (fun i=>∃ k:Nat,i=k/\k<=goals.length/\R=(goals.drop k).all fG) (fun i=>goals.length - i.toNat) 0 ⟨0,rfl,by simp,by simpa using hR⟩ rfl (by exact⟨sq,rfl,⟨.inl ⟨_,rfl,.arr (by exact⟨kq,trivial⟩)⟩,⟨.inl ⟨_,rfl,.same (hO _)⟩,trivial⟩⟩,rfl,rfl,rfl⟩) ?_
 rintro i ⟨k,hi,hk,hp⟩
 clear hR
 refine gq nW ?_
 by_cases au:k < goals.length
 ·obtain⟨x,hx,aQ⟩:=aA au
  rw [aQ,List.all_cons] at hp
  have h1:=X6 x (aZ hx)
  have h2:=X7 x (aZ hx)
  have h3:=X8 x (aZ hx)
  obtain⟨F,mq⟩:∃ F,F=fG x:=⟨_,rfl⟩
  rw [<-mq] at hp
  rw [Eo] at mq
  generalize q_ ds x.g=b1 at h1 mq
  generalize fg (varsOf x.g.a) fresh binds=b2 at h2 mq
  generalize my x.g=b3 at h3 mq
  obtain⟨⟨op,n,a⟩,id,pS⟩:=x
  dsimp only at mq h1 h2 h3
  clear X6 X7 X8 Eo
  have BY:=eE (ρ:=ρ) ⟨op,n,a⟩
  repeat' (first
   |(refine ab.op rfl (ad.ind rfl rfl (ay (l:=goals) hi hx) (aw fun _=>rfl)) ?_;refine gq nW ?_)
   |(refine ab.bif rfl (ad.ag rfl h1 ⟨lq,BY,trivial⟩) (fun _=>?_) (fun _=>?_)<;>refine gq nW ?_)
   |(refine ab.bif rfl (ad.ag rfl h2 ⟨BY,.v,b8 _,trivial⟩) (fun _=>?_) (fun _=>?_)<;>refine gq nW ?_)
   |(refine ab.bif rfl (ad.ag rfl h3 ⟨BY,trivial⟩) (fun _=>?_) (fun _=>?_)<;>refine gq nW ?_)
   |(refine bq (fun hb=>?_) (fun hb=>?_)<;>(try simp only [aq] at hb)<;>(first|refine gq nW ?_))
   |(refine az fun m hm=>?_;(try rw [af] at hm);refine gq nW ?_)
   |(refine aS fun _ _=>?_;refine gq nW ?_)
   |(refine ab.ao ?_;refine gq nW ?_)
   |(refine ab.bK ?_;refine gq nW ?_)
   |(refine fq ?_))
  all_goals try dsimp only at *
  all_goals first
   |(exfalso;omega)
   |(rw [show F=false by rw [mq];first|(rw [if_pos (by omega)];first|(rw [show (pS == 0)=false by simp;omega];rfl)|(simp only [*,Bool.and_false,Bool.false_and];done))|(rw [if_neg (by omega)];first|(rw [decide_eq_false (show ¬ 1<=id by omega)];rfl)|(rw [decide_eq_false (show ¬ id < next by omega)];simp;done)|(rw [decide_eq_false (show ¬ -1<=pS by omega)];simp;done)|(rw [decide_eq_false (show ¬ pS<=oc.length by omega)];simp;done)|(simp only [*,Bool.and_false,Bool.false_and];done)),Bool.false_and] at hp
     rw [hp];exact aI rfl)
   |(rw [show F=true by rw [mq];first|(rw [if_pos (by omega)];rw [show (pS == 0)=true by simp;omega];simp [*];done)|(rw [if_neg (by omega),decide_eq_true (show 1<=id by omega),decide_eq_true (show id < next by omega),decide_eq_true (show -1<=pS by omega),decide_eq_true (show pS<=oc.length by omega)];simp [*];done),Bool.true_and] at hp
     (refine ab.aK (σ:=Int) _ [] ?_ ?_ (by exact⟨sq,rfl,⟨.inl ⟨_,rfl,.arr (by exact⟨kq,trivial⟩)⟩,⟨.inl ⟨_,rfl,.same (hO _)⟩,trivial⟩⟩,rfl,rfl,rfl⟩)<;>first|omega|exact⟨k+1,by omega,by omega,hp⟩))
 ·rw [List.drop_eq_nil_of_le (by omega),List.all_nil] at hp
  repeat' (first
   |(refine bq (fun hb=>?_) (fun hb=>?_)<;>(try simp only [aq] at hb)<;>(first|refine gq nW ?_))
   |(refine az fun m hm=>?_;(try rw [af] at hm);refine gq nW ?_)
   |(refine ab.ao ?_;refine gq nW ?_)
   |(refine fq ?_))
  all_goals first
   |(exfalso;omega)
   |(rw [hp];exact aI rfl)
end
end
end Go.Proofs.YtgphljokbodciaaGreat
