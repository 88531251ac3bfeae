import Derived.RecoverIn
import Derived.TacticsIn
import Derived.TacticsInMore
import Derived.Test.YtbofilglphfceaaGreatD38
namespace Go.Proofs.YtbofilglphfceaaGreat
set_option linter.unusedVariables false
set_option linter.unusedSimpArgs false
open Go.RowKit
section
set_option maxRecDepth 100000
attribute [local irreducible] ag aR aa ab
def GQ:CF Tryz.f181:=⟨_,by conv=>lhs;cbv⟩
theorem N8:bN Tryz.prog 181 GQ.1 Tryz.f181.ntmps:=cd Tryz.func181 GQ.2 Tryz.call181
def J8:List Nat:=[0,1,4,5,9]
section
variable {w0:World}{ρ:Hd}
theorem xU (a b:Int):ag Tryz.prog w0 181 [iv a,iv b] (iv (cL a b)):=by
 refine N8.bc (by simp [Tryz.ntmps181]) (.v) ?_
 refine gq J8 ?_
 repeat' (first
  |(refine bq (fun hb=>?_) (fun hb=>?_)<;>(try simp only [aJ] at hb)<;>(first|refine gq J8 ?_))
  |(refine fq ?_))
 all_goals (refine bG.of_eq ?_;simp only [cL,iv];(repeat' split)<;>first|rfl|omega)
end
end
section
set_option maxRecDepth 100000
attribute [local irreducible] ag aR aa ab
end
def Dd (P:Program) (w0:World) (F:AV) (xs:List AV) (b:Bool):Prop:=∃ gid args,fh F xs=some (gid,args)/\cF args/\ag P w0 gid args (.v (.bool b))
theorem aa.GR {P:Program}{w0:World}{α:AA}{S:U}{dr:Bool}{f:QO}{qs:List QO}{F:AV}{l:List AV}{b:Bool}(hf:f.ev α.tm=F) (ha:qs.map (·.ev α.tm)=l) (h:Dd P w0 F l b):aa P w0 dr (.call f qs) α S (.v (.bool b)) S:=by
 obtain⟨gid,args,h1,h2,h3⟩:=h
 subst hf ha
 exact aa.aB h1 h3 h2
def dc (x:Dc):AV:=.agg (I1 x)
def v3 {T:Type}(p:T->Bool):List T->Nat->Int
 |[],_=>-1
 |x::l,k=>if p x then k else v3 p l (k+1)
def bP {T:Type}(p:T->T->Bool):List T->List T->Bool
 |[],[]=>true
 |x::a,y::b=>p x y && bP p a b
 |_,_=>false
theorem jr {T:Type}{p:T->T->Bool}:∀ {a b:List T},a.length ≠ b.length->bP p a b=false
 |[],[],h=>absurd rfl h
 |[],_::_,_=>rfl
 |_::_,[],_=>rfl
 |x::a,y::b,h=>by rw [bP,jr (by simpa using h)];simp
section
set_option maxRecDepth 100000
attribute [local irreducible] ag aR aa ab
def GU:CF Tryz.f203:=⟨_,by conv=>lhs;cbv⟩
theorem N9:bN Tryz.prog 203 GU.1 Tryz.f203.ntmps:=cd Tryz.func203 GU.2 Tryz.call203
def lP:List Nat:=[8,0,5,4,7,9,1,16]
end
section
set_option maxRecDepth 100000
attribute [local irreducible] ag aR aa ab
end
section
set_option maxRecDepth 100000
attribute [local irreducible] ag aR aa ab
def e7:List Int->List Int->Int
 |[],[]=>0
 |[],_::_=>-1
 |_::_,[]=>1
 |x::a,y::b=>bL (cL x y) (e7 a b)
def jS (x y:Fi):Int:=bL (cL x.qG y.qG) (bL (cL x.ids.length y.ids.length) (e7 x.ids y.ids))
def Im.ok (x:Im):Prop:=rR x.a/\x.n.size<=1099511627776
end
section
set_option maxRecDepth 100000
attribute [local irreducible] ag aR aa ab
mutual
def N_:Tm->List Int
 |⟨k,i,n,a⟩=>if k=1 then [i] else if k=2 then v5 a else []
def v5:List Tm->List Int
 |[]=>[]
 |x::l=>N_ x++v5 l
end
def BG (s:List Int):List Int->List Int
 |[]=>[]
 |x::l=>if s.contains x then BG s l else x::BG (s++[x]) l
end
section
set_option maxRecDepth 100000
attribute [local irreducible] ag aR aa ab
end
section
set_option maxRecDepth 100000
def qR {α:Type}(F:Nat->α->Prop):Tr α->(Nat->Nat)->Prop
 |.nil,_=>True
 |.nd l v r,p=>(∀ a,v=some a->F (p 0) a)/\qR F l (fun k=>p (2*k+1))/\qR F r (fun k=>p (2*k+2))
theorem qR.get {α:Type}{F:Nat->α->Prop}:∀ {t:Tr α}{p:Nat->Nat}{k:Nat}{a:α},qR F t p->dm t k=some a->F (p k) a
 |.nil,_,_,_,_,h=>by cases h
 |.nd l v r,p,k,a,h,hk=>by
  rw [xG] at hk
  split at hk
  ·rename_i e
   subst e
   exact h.1 a hk
  ·split at hk
   ·have:F (p (2*(k / 2)+1)) a:=qR.get (p:=fun k=>p (2*k+1)) h.2.1 hk
    rwa [show 2*(k / 2)+1=k by omega] at this
   ·have:F (p (2*(k / 2 - 1)+2)) a:=qR.get (p:=fun k=>p (2*k+2)) h.2.2 hk
    rwa [show 2*(k / 2 - 1)+2=k by omega] at this
noncomputable def xt:Tr ((QC × List QR) × Nat):=(.nd (.nd (.nd (.nd (.nd (.nd (.nd (.nd .nil none (.nd .nil (some (AO.1,Tryz.f383.ntmps)) .nil)) (some (EV.1,Tryz.f63.ntmps)) (.nd .nil (some (AB.1,Tryz.f191.ntmps)) .nil)) none (.nd (.nd .nil (some (z_.1,Tryz.f159.ntmps)) .nil) none (.nd .nil (some (Bq.1,Tryz.f223.ntmps)) .nil))) none (.nd (.nd (.nd (.nd .nil (some (zB.1,Tryz.f271.ntmps)) .nil) (some (z8.1,Tryz.f143.ntmps)) .nil) (some (ER.1,Tryz.f79.ntmps)) .nil) (some (EB.1,Tryz.f47.ntmps)) (.nd .nil (some (zl.1,Tryz.f111.ntmps)) (.nd (.nd .nil (some (zG.1,Tryz.f367.ntmps)) .nil) (some (AG.1,Tryz.f239.ntmps)) .nil)))) none (.nd (.nd (.nd .nil (some (ED.1,Tryz.f71.ntmps)) .nil) none (.nd (.nd .nil (some (zN.1,Tryz.f167.ntmps)) .nil) (some (Ar.1,Tryz.f103.ntmps)) (.nd .nil (some (AF.1,Tryz.f231.ntmps)) .nil))) (some (E4.1,Tryz.f23.ntmps)) (.nd (.nd (.nd .nil (some (zL.1,Tryz.f151.ntmps)) .nil) (some (E3.1,Tryz.f87.ntmps)) .nil) none (.nd (.nd .nil (some (zr.1,Tryz.f183.ntmps)) .nil) none (.nd .nil (some (AH.1,Tryz.f247.ntmps)) .nil))))) none (.nd (.nd (.nd (.nd .nil (some (EI.1,Tryz.f67.ntmps)) (.nd (.nd .nil (some (Bx.1,Tryz.f323.ntmps)) .nil) (some (zu.1,Tryz.f195.ntmps)) .nil)) none (.nd (.nd (.nd .nil (some (A8.1,Tryz.f291.ntmps)) .nil) none .nil) none .nil)) none (.nd (.nd (.nd (.nd .nil (some (A7.1,Tryz.f275.ntmps)) .nil) none .nil) none .nil) none (.nd (.nd (.nd .nil (some (AL.1,Tryz.f307.ntmps)) .nil) none .nil) (some (Bg.1,Tryz.f115.ntmps)) (.nd .nil (some (zU.1,Tryz.f243.ntmps)) .nil)))) none (.nd (.nd (.nd (.nd (.nd .nil (some (A6.1,Tryz.f267.ntmps)) .nil) (some (zK.1,Tryz.f139.ntmps)) (.nd .nil (some (Bb.1,Tryz.f395.ntmps)) .nil)) (some (E8.1,Tryz.f75.ntmps)) (.nd (.nd .nil (some (By.1,Tryz.f331.ntmps)) .nil) (some (zw.1,Tryz.f203.ntmps)) .nil)) (some (ET.1,Tryz.f43.ntmps)) (.nd (.nd .nil (some (AX.1,Tryz.f171.ntmps)) .nil) none (.nd .nil (some (zT.1,Tryz.f235.ntmps)) .nil))) (some (EF.1,Tryz.f27.ntmps)) (.nd (.nd (.nd .nil (some (AU.1,Tryz.f155.ntmps)) .nil) none .nil) none (.nd (.nd .nil (some (Bn.1,Tryz.f187.ntmps)) .nil) none (.nd .nil (some (zA.1,Tryz.f251.ntmps)) .nil)))))) none (.nd (.nd (.nd (.nd (.nd .nil (some (E7.1,Tryz.f65.ntmps)) (.nd .nil (some (Bo.1,Tryz.f193.ntmps)) .nil)) none (.nd (.nd (.nd .nil (some (Al.1,Tryz.f289.ntmps)) .nil) none .nil) none .nil)) none (.nd (.nd (.nd (.nd .nil (some (Ak.1,Tryz.f273.ntmps)) .nil) none .nil) none .nil) (some (EU.1,Tryz.f49.ntmps)) (.nd .nil (some (As.1,Tryz.f113.ntmps)) (.nd .nil (some (A4.1,Tryz.f241.ntmps)) .nil)))) none (.nd (.nd (.nd (.nd .nil (some (AS.1,Tryz.f137.ntmps)) .nil) (some (EW.1,Tryz.f73.ntmps)) (.nd (.nd .nil (some (AM.1,Tryz.f329.ntmps)) .nil) (some (Bp.1,Tryz.f201.ntmps)) .nil)) none (.nd (.nd (.nd .nil (some (zY.1,Tryz.f297.ntmps)) .nil) (some (Aa.1,Tryz.f169.ntmps)) (.nd .nil (some (Aq.1,Tryz.f425.ntmps)) .nil)) (some (Be.1,Tryz.f105.ntmps)) (.nd .nil (some (Br.1,Tryz.f233.ntmps)) .nil))) none (.nd (.nd (.nd .nil (some (z9.1,Tryz.f153.ntmps)) .nil) (some (EK.1,Tryz.f89.ntmps)) (.nd (.nd .nil (some (AN.1,Tryz.f345.ntmps)) .nil) (some (Af.1,Tryz.f217.ntmps)) .nil)) none (.nd (.nd .nil (some (Az.1,Tryz.f185.ntmps)) (.nd .nil (some (AP.1,Tryz.f441.ntmps)) .nil)) none (.nd .nil (some (Bt.1,Tryz.f249.ntmps)) .nil))))) none (.nd (.nd (.nd (.nd .nil none (.nd .nil (some (AD.1,Tryz.f197.ntmps)) .nil)) none (.nd .nil (some (zk.1,Tryz.f101.ntmps)) (.nd .nil (some (zx.1,Tryz.f229.ntmps)) .nil))) (some (EY.1,Tryz.f21.ntmps)) (.nd (.nd (.nd (.nd .nil (some (zX.1,Tryz.f277.ntmps)) .nil) (some (AT.1,Tryz.f149.ntmps)) .nil) none (.nd (.nd .nil (some (zF.1,Tryz.f341.ntmps)) .nil) none .nil)) none (.nd .nil (some (zm.1,Tryz.f117.ntmps)) .nil))) none (.nd (.nd (.nd .nil (some (EE.1,Tryz.f77.ntmps)) .nil) (some (E5.1,Tryz.f45.ntmps)) (.nd .nil none (.nd (.nd .nil (some (Bz.1,Tryz.f365.ntmps)) .nil) (some (Ah.1,Tryz.f237.ntmps)) .nil))) none (.nd (.nd (.nd .nil (some (zM.1,Tryz.f157.ntmps)) .nil) none (.nd .nil (some (A1.1,Tryz.f221.ntmps)) .nil)) (some (EC.1,Tryz.f61.ntmps)) (.nd (.nd .nil (some (zt.1,Tryz.f189.ntmps)) .nil) none (.nd .nil (some (AI.1,Tryz.f253.ntmps)) .nil))))))) none (.nd (.nd (.nd (.nd (.nd (.nd .nil (some (E1.1,Tryz.f64.ntmps)) (.nd .nil (some (AZ.1,Tryz.f192.ntmps)) .nil)) none (.nd (.nd (.nd .nil (some (zC.1,Tryz.f288.ntmps)) .nil) (some (Ax.1,Tryz.f160.ntmps)) .nil) none .nil)) none (.nd (.nd .nil none (.nd .nil none (.nd .nil (some (BB.1,Tryz.f464.ntmps)) .nil))) (some (EN.1,Tryz.f48.ntmps)) (.nd .nil (some (z6.1,Tryz.f112.ntmps)) .nil))) none (.nd (.nd (.nd (.nd .nil (some (Au.1,Tryz.f136.ntmps)) .nil) (some (EP.1,Tryz.f72.ntmps)) (.nd (.nd .nil (some (An.1,Tryz.f328.ntmps)) .nil) (some (A0.1,Tryz.f200.ntmps)) .nil)) none (.nd (.nd (.nd .nil (some (Bw.1,Tryz.f296.ntmps)) .nil) (some (zq.1,Tryz.f168.ntmps)) (.nd .nil (some (zH.1,Tryz.f424.ntmps)) .nil)) (some (AQ.1,Tryz.f104.ntmps)) (.nd .nil (some (A3.1,Tryz.f232.ntmps)) .nil))) none (.nd (.nd (.nd .nil (some (zo.1,Tryz.f152.ntmps)) .nil) (some (E9.1,Tryz.f88.ntmps)) .nil) none (.nd (.nd .nil (some (Ac.1,Tryz.f184.ntmps)) .nil) none (.nd (.nd .nil (some (Ap.1,Tryz.f376.ntmps)) .nil) (some (A5.1,Tryz.f248.ntmps)) .nil))))) none (.nd (.nd (.nd (.nd .nil none (.nd (.nd .nil (some (zZ.1,Tryz.f324.ntmps)) .nil) (some (Ae.1,Tryz.f196.ntmps)) .nil)) none (.nd (.nd .nil (some (Bl.1,Tryz.f164.ntmps)) .nil) none (.nd .nil (some (zS.1,Tryz.f228.ntmps)) .nil))) (some (ES.1,Tryz.f20.ntmps)) (.nd (.nd (.nd (.nd .nil (some (Bv.1,Tryz.f276.ntmps)) .nil) (some (Av.1,Tryz.f148.ntmps)) (.nd .nil (some (z4.1,Tryz.f404.ntmps)) .nil)) none .nil) (some (E6.1,Tryz.f52.ntmps)) (.nd (.nd (.nd .nil (some (A9.1,Tryz.f308.ntmps)) .nil) none .nil) (some (zJ.1,Tryz.f116.ntmps)) (.nd .nil (some (zz.1,Tryz.f244.ntmps)) .nil)))) (some (Ez.1,Tryz.f12.ntmps)) (.nd (.nd (.nd (.nd (.nd .nil (some (Bu.1,Tryz.f268.ntmps)) .nil) (some (zn.1,Tryz.f140.ntmps)) (.nd .nil (some (BA.1,Tryz.f396.ntmps)) .nil)) (some (EJ.1,Tryz.f76.ntmps)) .nil) (some (EZ.1,Tryz.f44.ntmps)) (.nd (.nd .nil (some (Bm.1,Tryz.f172.ntmps)) .nil) none (.nd .nil (some (zy.1,Tryz.f236.ntmps)) .nil))) (some (EA.1,Tryz.f28.ntmps)) (.nd (.nd (.nd .nil (some (Bj.1,Tryz.f156.ntmps)) .nil) none .nil) none (.nd (.nd .nil (some (zP.1,Tryz.f188.ntmps)) .nil) none (.nd .nil (some (Aj.1,Tryz.f252.ntmps)) .nil)))))) none (.nd (.nd (.nd (.nd (.nd .nil none (.nd .nil (some (zQ.1,Tryz.f194.ntmps)) .nil)) none (.nd (.nd (.nd .nil (some (AK.1,Tryz.f290.ntmps)) .nil) (some (AW.1,Tryz.f162.ntmps)) .nil) none .nil)) none (.nd (.nd (.nd (.nd .nil (some (AJ.1,Tryz.f274.ntmps)) .nil) none .nil) none (.nd (.nd .nil (some (z0.1,Tryz.f338.ntmps)) .nil) none .nil)) (some (E0.1,Tryz.f50.ntmps)) (.nd .nil (some (AR.1,Tryz.f114.ntmps)) (.nd .nil (some (Bs.1,Tryz.f242.ntmps)) .nil)))) none (.nd (.nd (.nd (.nd .nil (some (Bh.1,Tryz.f138.ntmps)) .nil) (some (E2.1,Tryz.f74.ntmps)) (.nd (.nd .nil (some (A_.1,Tryz.f330.ntmps)) .nil) (some (zR.1,Tryz.f202.ntmps)) .nil)) (some (EM.1,Tryz.f42.ntmps)) (.nd (.nd (.nd .nil (some (zD.1,Tryz.f298.ntmps)) .nil) (some (Ay.1,Tryz.f170.ntmps)) .nil) none .nil)) none (.nd (.nd (.nd .nil (some (Aw.1,Tryz.f154.ntmps)) .nil) none (.nd (.nd .nil (some (Ba.1,Tryz.f346.ntmps)) .nil) (some (AE.1,Tryz.f218.ntmps)) .nil)) none (.nd (.nd .nil (some (AY.1,Tryz.f186.ntmps)) (.nd .nil (some (Bc.1,Tryz.f442.ntmps)) .nil)) none (.nd .nil (some (zV.1,Tryz.f250.ntmps)) .nil))))) none (.nd (.nd (.nd (.nd .nil none (.nd (.nd .nil (some (zE.1,Tryz.f326.ntmps)) .nil) none .nil)) none (.nd .nil (some (z5.1,Tryz.f102.ntmps)) (.nd .nil (some (Ag.1,Tryz.f230.ntmps)) .nil))) none (.nd (.nd (.nd .nil (some (Bi.1,Tryz.f150.ntmps)) .nil) (some (EX.1,Tryz.f86.ntmps)) (.nd (.nd .nil (some (Ao.1,Tryz.f342.ntmps)) .nil) none .nil)) (some (EH.1,Tryz.f54.ntmps)) (.nd .nil (some (z7.1,Tryz.f118.ntmps)) (.nd .nil (some (Ai.1,Tryz.f246.ntmps)) .nil)))) (some (EL.1,Tryz.f14.ntmps)) (.nd (.nd (.nd (.nd (.nd .nil (some (zW.1,Tryz.f270.ntmps)) .nil) none .nil) none .nil) (some (EG.1,Tryz.f46.ntmps)) (.nd (.nd (.nd .nil (some (Am.1,Tryz.f302.ntmps)) .nil) (some (zO.1,Tryz.f174.ntmps)) .nil) (some (zI.1,Tryz.f110.ntmps)) (.nd (.nd .nil (some (z3.1,Tryz.f366.ntmps)) .nil) none .nil))) none (.nd (.nd (.nd .nil (some (zp.1,Tryz.f158.ntmps)) .nil) none .nil) (some (EO.1,Tryz.f62.ntmps)) (.nd (.nd .nil (some (Ad.1,Tryz.f190.ntmps)) .nil) none .nil)))))))
theorem N7:qR (fun g (c:(QC × List QR) × Nat)=>ad Tryz.prog g c.1 c.2) xt id:=⟨(fun _ e=>nomatch e),⟨(fun _ e=>nomatch e),⟨(fun _ e=>nomatch e),⟨(fun _ e=>nomatch e),⟨(fun _ e=>nomatch e),⟨(fun _ e=>nomatch e),⟨(fun _ e=>Option.some.inj e ▸ Rc),⟨(fun _ e=>nomatch e),trivial,⟨(fun _ e=>Option.some.inj e ▸ Nl),trivial,trivial⟩⟩,⟨(fun _ e=>Option.some.inj e ▸ M9),trivial,trivial⟩⟩,⟨(fun _ e=>nomatch e),⟨(fun _ e=>Option.some.inj e ▸ MJ),trivial,trivial⟩,⟨(fun _ e=>Option.some.inj e ▸ NU),trivial,trivial⟩⟩⟩,⟨(fun _ e=>Option.some.inj e ▸ QT),⟨(fun _ e=>Option.some.inj e ▸ Q8),⟨(fun _ e=>Option.some.inj e ▸ MH),⟨(fun _ e=>Option.some.inj e ▸ Mc),trivial,trivial⟩,trivial⟩,trivial⟩,⟨(fun _ e=>Option.some.inj e ▸ LW),trivial,⟨(fun _ e=>Option.some.inj e ▸ Nc),⟨(fun _ e=>Option.some.inj e ▸ Mh),trivial,trivial⟩,trivial⟩⟩⟩⟩,⟨(fun _ e=>Option.some.inj e ▸ Rm),⟨(fun _ e=>nomatch e),⟨(fun _ e=>Option.some.inj e ▸ QV),trivial,trivial⟩,⟨(fun _ e=>Option.some.inj e ▸ M0),⟨(fun _ e=>Option.some.inj e ▸ Mo),trivial,trivial⟩,⟨(fun _ e=>Option.some.inj e ▸ Nb),trivial,trivial⟩⟩⟩,⟨(fun _ e=>nomatch e),⟨(fun _ e=>Option.some.inj e ▸ Rk),⟨(fun _ e=>Option.some.inj e ▸ Mm),trivial,trivial⟩,trivial⟩,⟨(fun _ e=>nomatch e),⟨(fun _ e=>Option.some.inj e ▸ L5),trivial,trivial⟩,⟨(fun _ e=>Option.some.inj e ▸ Nd),trivial,trivial⟩⟩⟩⟩⟩,⟨(fun _ e=>nomatch e),⟨(fun _ e=>nomatch e),⟨(fun _ e=>nomatch e),⟨(fun _ e=>Option.some.inj e ▸ Q0),trivial,⟨(fun _ e=>Option.some.inj e ▸ L7),⟨(fun _ e=>Option.some.inj e ▸ N2),trivial,trivial⟩,trivial⟩⟩,⟨(fun _ e=>nomatch e),⟨(fun _ e=>nomatch e),⟨(fun _ e=>Option.some.inj e ▸ ND),trivial,trivial⟩,trivial⟩,trivial⟩⟩,⟨(fun _ e=>nomatch e),⟨(fun _ e=>nomatch e),⟨(fun _ e=>nomatch e),⟨(fun _ e=>Option.some.inj e ▸ NC),trivial,trivial⟩,trivial⟩,trivial⟩,⟨(fun _ e=>Option.some.inj e ▸ NL),⟨(fun _ e=>nomatch e),⟨(fun _ e=>Option.some.inj e ▸ Ni),trivial,trivial⟩,trivial⟩,⟨(fun _ e=>Option.some.inj e ▸ Mv),trivial,trivial⟩⟩⟩⟩,⟨(fun _ e=>Option.some.inj e ▸ QX),⟨(fun _ e=>Option.some.inj e ▸ Q_),⟨(fun _ e=>Option.some.inj e ▸ Rr),⟨(fun _ e=>Option.some.inj e ▸ Ml),⟨(fun _ e=>Option.some.inj e ▸ NB),trivial,trivial⟩,⟨(fun _ e=>Option.some.inj e ▸ NI),trivial,trivial⟩⟩,⟨(fun _ e=>Option.some.inj e ▸ L8),⟨(fun _ e=>Option.some.inj e ▸ N3),trivial,trivial⟩,trivial⟩⟩,⟨(fun _ e=>nomatch e),⟨(fun _ e=>Option.some.inj e ▸ Nt),trivial,trivial⟩,⟨(fun _ e=>Option.some.inj e ▸ Mu),trivial,trivial⟩⟩⟩,⟨(fun _ e=>nomatch e),⟨(fun _ e=>nomatch e),⟨(fun _ e=>Option.some.inj e ▸ Nr),trivial,trivial⟩,trivial⟩,⟨(fun _ e=>nomatch e),⟨(fun _ e=>Option.some.inj e ▸ NR),trivial,trivial⟩,⟨(fun _ e=>Option.some.inj e ▸ Mb),trivial,trivial⟩⟩⟩⟩⟩⟩,⟨(fun _ e=>nomatch e),⟨(fun _ e=>nomatch e),⟨(fun _ e=>nomatch e),⟨(fun _ e=>nomatch e),⟨(fun _ e=>Option.some.inj e ▸ Rq),trivial,⟨(fun _ e=>Option.some.inj e ▸ NS),trivial,trivial⟩⟩,⟨(fun _ e=>nomatch e),⟨(fun _ e=>nomatch e),⟨(fun _ e=>Option.some.inj e ▸ MU),trivial,trivial⟩,trivial⟩,trivial⟩⟩,⟨(fun _ e=>Option.some.inj e ▸ Ra),⟨(fun _ e=>nomatch e),⟨(fun _ e=>nomatch e),⟨(fun _ e=>Option.some.inj e ▸ MT),trivial,trivial⟩,trivial⟩,trivial⟩,⟨(fun _ e=>Option.some.inj e ▸ M1),trivial,⟨(fun _ e=>Option.some.inj e ▸ Nz),trivial,trivial⟩⟩⟩⟩,⟨(fun _ e=>nomatch e),⟨(fun _ e=>nomatch e),⟨(fun _ e=>Option.some.inj e ▸ Rd),⟨(fun _ e=>Option.some.inj e ▸ Np),trivial,trivial⟩,⟨(fun _ e=>Option.some.inj e ▸ NT),⟨(fun _ e=>Option.some.inj e ▸ Nj),trivial,trivial⟩,trivial⟩⟩,⟨(fun _ e=>Option.some.inj e ▸ NK),⟨(fun _ e=>Option.some.inj e ▸ MK),⟨(fun _ e=>Option.some.inj e ▸ Mz),trivial,trivial⟩,⟨(fun _ e=>Option.some.inj e ▸ MZ),trivial,trivial⟩⟩,⟨(fun _ e=>Option.some.inj e ▸ NV),trivial,trivial⟩⟩⟩,⟨(fun _ e=>nomatch e),⟨(fun _ e=>Option.some.inj e ▸ Q2),⟨(fun _ e=>Option.some.inj e ▸ MI),trivial,trivial⟩,⟨(fun _ e=>Option.some.inj e ▸ MO),⟨(fun _ e=>Option.some.inj e ▸ Nk),trivial,trivial⟩,trivial⟩⟩,⟨(fun _ e=>nomatch e),⟨(fun _ e=>Option.some.inj e ▸ M8),trivial,⟨(fun _ e=>Option.some.inj e ▸ Nm),trivial,trivial⟩⟩,⟨(fun _ e=>Option.some.inj e ▸ NY),trivial,trivial⟩⟩⟩⟩⟩,⟨(fun _ e=>nomatch e),⟨(fun _ e=>Option.some.inj e ▸ Rf),⟨(fun _ e=>nomatch e),⟨(fun _ e=>nomatch e),trivial,⟨(fun _ e=>Option.some.inj e ▸ M_),trivial,trivial⟩⟩,⟨(fun _ e=>Option.some.inj e ▸ LV),trivial,⟨(fun _ e=>Option.some.inj e ▸ L9),trivial,trivial⟩⟩⟩,⟨(fun _ e=>nomatch e),⟨(fun _ e=>nomatch e),⟨(fun _ e=>Option.some.inj e ▸ Nq),⟨(fun _ e=>Option.some.inj e ▸ My),trivial,trivial⟩,trivial⟩,⟨(fun _ e=>nomatch e),⟨(fun _ e=>Option.some.inj e ▸ Mg),trivial,trivial⟩,trivial⟩⟩,⟨(fun _ e=>Option.some.inj e ▸ LX),trivial,trivial⟩⟩⟩,⟨(fun _ e=>nomatch e),⟨(fun _ e=>Option.some.inj e ▸ Ro),⟨(fun _ e=>Option.some.inj e ▸ QW),trivial,trivial⟩,⟨(fun _ e=>nomatch e),trivial,⟨(fun _ e=>Option.some.inj e ▸ MQ),⟨(fun _ e=>Option.some.inj e ▸ N4),trivial,trivial⟩,trivial⟩⟩⟩,⟨(fun _ e=>Option.some.inj e ▸ QU),⟨(fun _ e=>nomatch e),⟨(fun _ e=>Option.some.inj e ▸ Mn),trivial,trivial⟩,⟨(fun _ e=>Option.some.inj e ▸ Nx),trivial,trivial⟩⟩,⟨(fun _ e=>nomatch e),⟨(fun _ e=>Option.some.inj e ▸ L6),trivial,trivial⟩,⟨(fun _ e=>Option.some.inj e ▸ Nf),trivial,trivial⟩⟩⟩⟩⟩⟩⟩,⟨(fun _ e=>nomatch e),⟨(fun _ e=>nomatch e),⟨(fun _ e=>nomatch e),⟨(fun _ e=>nomatch e),⟨(fun _ e=>nomatch e),⟨(fun _ e=>Option.some.inj e ▸ Ri),trivial,⟨(fun _ e=>Option.some.inj e ▸ Nv),trivial,trivial⟩⟩,⟨(fun _ e=>nomatch e),⟨(fun _ e=>Option.some.inj e ▸ M6),⟨(fun _ e=>Option.some.inj e ▸ Md),trivial,trivial⟩,trivial⟩,trivial⟩⟩,⟨(fun _ e=>Option.some.inj e ▸ Q5),⟨(fun _ e=>nomatch e),trivial,⟨(fun _ e=>nomatch e),trivial,⟨(fun _ e=>Option.some.inj e ▸ N6),trivial,trivial⟩⟩⟩,⟨(fun _ e=>Option.some.inj e ▸ MF),trivial,trivial⟩⟩⟩,⟨(fun _ e=>nomatch e),⟨(fun _ e=>nomatch e),⟨(fun _ e=>Option.some.inj e ▸ Q7),⟨(fun _ e=>Option.some.inj e ▸ M3),trivial,trivial⟩,⟨(fun _ e=>Option.some.inj e ▸ Nw),⟨(fun _ e=>Option.some.inj e ▸ MW),trivial,trivial⟩,trivial⟩⟩,⟨(fun _ e=>Option.some.inj e ▸ Nn),⟨(fun _ e=>Option.some.inj e ▸ L4),⟨(fun _ e=>Option.some.inj e ▸ N1),trivial,trivial⟩,⟨(fun _ e=>Option.some.inj e ▸ Mi),trivial,trivial⟩⟩,⟨(fun _ e=>Option.some.inj e ▸ Ny),trivial,trivial⟩⟩⟩,⟨(fun _ e=>nomatch e),⟨(fun _ e=>Option.some.inj e ▸ Rs),⟨(fun _ e=>Option.some.inj e ▸ LZ),trivial,trivial⟩,trivial⟩,⟨(fun _ e=>nomatch e),⟨(fun _ e=>Option.some.inj e ▸ ML),trivial,trivial⟩,⟨(fun _ e=>Option.some.inj e ▸ NA),⟨(fun _ e=>Option.some.inj e ▸ MY),trivial,trivial⟩,trivial⟩⟩⟩⟩⟩,⟨(fun _ e=>Option.some.inj e ▸ QQ),⟨(fun _ e=>Option.some.inj e ▸ Q9),⟨(fun _ e=>nomatch e),⟨(fun _ e=>nomatch e),trivial,⟨(fun _ e=>Option.some.inj e ▸ MN),⟨(fun _ e=>Option.some.inj e ▸ MA),trivial,trivial⟩,trivial⟩⟩,⟨(fun _ e=>nomatch e),⟨(fun _ e=>Option.some.inj e ▸ NP),trivial,trivial⟩,⟨(fun _ e=>Option.some.inj e ▸ Mt),trivial,trivial⟩⟩⟩,⟨(fun _ e=>Option.some.inj e ▸ Rp),⟨(fun _ e=>nomatch e),⟨(fun _ e=>Option.some.inj e ▸ M4),⟨(fun _ e=>Option.some.inj e ▸ N0),trivial,trivial⟩,⟨(fun _ e=>Option.some.inj e ▸ MD),trivial,trivial⟩⟩,trivial⟩,⟨(fun _ e=>Option.some.inj e ▸ Mk),⟨(fun _ e=>nomatch e),⟨(fun _ e=>Option.some.inj e ▸ NF),trivial,trivial⟩,trivial⟩,⟨(fun _ e=>Option.some.inj e ▸ Ma),trivial,trivial⟩⟩⟩⟩,⟨(fun _ e=>Option.some.inj e ▸ QS),⟨(fun _ e=>Option.some.inj e ▸ Rg),⟨(fun _ e=>Option.some.inj e ▸ Q1),⟨(fun _ e=>Option.some.inj e ▸ LY),⟨(fun _ e=>Option.some.inj e ▸ NZ),trivial,trivial⟩,⟨(fun _ e=>Option.some.inj e ▸ N5),trivial,trivial⟩⟩,trivial⟩,⟨(fun _ e=>nomatch e),⟨(fun _ e=>Option.some.inj e ▸ NQ),trivial,trivial⟩,⟨(fun _ e=>Option.some.inj e ▸ L_),trivial,trivial⟩⟩⟩,⟨(fun _ e=>nomatch e),⟨(fun _ e=>nomatch e),⟨(fun _ e=>Option.some.inj e ▸ NO),trivial,trivial⟩,trivial⟩,⟨(fun _ e=>nomatch e),⟨(fun _ e=>Option.some.inj e ▸ Mq),trivial,trivial⟩,⟨(fun _ e=>Option.some.inj e ▸ MS),trivial,trivial⟩⟩⟩⟩⟩⟩,⟨(fun _ e=>nomatch e),⟨(fun _ e=>nomatch e),⟨(fun _ e=>nomatch e),⟨(fun _ e=>nomatch e),⟨(fun _ e=>nomatch e),trivial,⟨(fun _ e=>Option.some.inj e ▸ Mr),trivial,trivial⟩⟩,⟨(fun _ e=>nomatch e),⟨(fun _ e=>Option.some.inj e ▸ Ns),⟨(fun _ e=>Option.some.inj e ▸ Nh),trivial,trivial⟩,trivial⟩,trivial⟩⟩,⟨(fun _ e=>Option.some.inj e ▸ Rh),⟨(fun _ e=>nomatch e),⟨(fun _ e=>nomatch e),⟨(fun _ e=>Option.some.inj e ▸ Ng),trivial,trivial⟩,trivial⟩,⟨(fun _ e=>nomatch e),⟨(fun _ e=>Option.some.inj e ▸ MB),trivial,trivial⟩,trivial⟩⟩,⟨(fun _ e=>Option.some.inj e ▸ No),trivial,⟨(fun _ e=>Option.some.inj e ▸ NW),trivial,trivial⟩⟩⟩⟩,⟨(fun _ e=>nomatch e),⟨(fun _ e=>Option.some.inj e ▸ Q4),⟨(fun _ e=>Option.some.inj e ▸ Rj),⟨(fun _ e=>Option.some.inj e ▸ NM),trivial,trivial⟩,⟨(fun _ e=>Option.some.inj e ▸ Ms),⟨(fun _ e=>Option.some.inj e ▸ NG),trivial,trivial⟩,trivial⟩⟩,⟨(fun _ e=>nomatch e),⟨(fun _ e=>Option.some.inj e ▸ M7),⟨(fun _ e=>Option.some.inj e ▸ Me),trivial,trivial⟩,trivial⟩,trivial⟩⟩,⟨(fun _ e=>nomatch e),⟨(fun _ e=>nomatch e),⟨(fun _ e=>Option.some.inj e ▸ M5),trivial,trivial⟩,⟨(fun _ e=>Option.some.inj e ▸ Na),⟨(fun _ e=>Option.some.inj e ▸ NH),trivial,trivial⟩,trivial⟩⟩,⟨(fun _ e=>nomatch e),⟨(fun _ e=>Option.some.inj e ▸ Nu),trivial,⟨(fun _ e=>Option.some.inj e ▸ NJ),trivial,trivial⟩⟩,⟨(fun _ e=>Option.some.inj e ▸ Mw),trivial,trivial⟩⟩⟩⟩⟩,⟨(fun _ e=>Option.some.inj e ▸ Q3),⟨(fun _ e=>nomatch e),⟨(fun _ e=>nomatch e),⟨(fun _ e=>nomatch e),trivial,⟨(fun _ e=>nomatch e),⟨(fun _ e=>Option.some.inj e ▸ Mf),trivial,trivial⟩,trivial⟩⟩,⟨(fun _ e=>Option.some.inj e ▸ ME),trivial,⟨(fun _ e=>Option.some.inj e ▸ MP),trivial,trivial⟩⟩⟩,⟨(fun _ e=>Option.some.inj e ▸ QZ),⟨(fun _ e=>Option.some.inj e ▸ Re),⟨(fun _ e=>Option.some.inj e ▸ NN),trivial,trivial⟩,⟨(fun _ e=>nomatch e),⟨(fun _ e=>Option.some.inj e ▸ MX),trivial,trivial⟩,trivial⟩⟩,⟨(fun _ e=>Option.some.inj e ▸ MG),trivial,⟨(fun _ e=>Option.some.inj e ▸ MR),trivial,trivial⟩⟩⟩⟩,⟨(fun _ e=>nomatch e),⟨(fun _ e=>Option.some.inj e ▸ QY),⟨(fun _ e=>nomatch e),⟨(fun _ e=>nomatch e),⟨(fun _ e=>Option.some.inj e ▸ Mx),trivial,trivial⟩,trivial⟩,trivial⟩,⟨(fun _ e=>Option.some.inj e ▸ Mj),⟨(fun _ e=>Option.some.inj e ▸ Mp),⟨(fun _ e=>Option.some.inj e ▸ MV),trivial,trivial⟩,trivial⟩,⟨(fun _ e=>nomatch e),⟨(fun _ e=>Option.some.inj e ▸ MC),trivial,trivial⟩,trivial⟩⟩⟩,⟨(fun _ e=>Option.some.inj e ▸ Q6),⟨(fun _ e=>nomatch e),⟨(fun _ e=>Option.some.inj e ▸ L0),trivial,trivial⟩,trivial⟩,⟨(fun _ e=>nomatch e),⟨(fun _ e=>Option.some.inj e ▸ MM),trivial,trivial⟩,trivial⟩⟩⟩⟩⟩⟩⟩
theorem C8 {g:Nat}{c:QC × List QR}{n:Nat}(h:dm xt g=some (c,n)):ad Tryz.prog g c n:=N7.get h
end
section
set_option maxRecDepth 100000
section
variable {w0:World}
theorem H4:∀ g,fF g [42,330,366]=true->∀ A c,ag Tryz.prog w0 g [.v (.slice A 0 c)] (.sl true []):=by
 have h0:dv Tryz.prog w0 (J6 xt [] []):=C7 (fun _ _ _=>C8) fun g h=>by cases h
 intro g hg A c
 have hg:=qO hg
 simp only [List.mem_cons,List.not_mem_nil,or_false] at hg
 rcases hg with rfl|rfl|rfl<;>cases A<;>exact Env.bc h0 8 (by kernel_rfl)
noncomputable def xE:Env:=J6 xt [42,330,366] [42,330,366,223,425]
theorem ct:dv Tryz.prog w0 xE:=C7 (fun _ _ _=>C8) H4
end
end
end Go.Proofs.YtbofilglphfceaaGreat
