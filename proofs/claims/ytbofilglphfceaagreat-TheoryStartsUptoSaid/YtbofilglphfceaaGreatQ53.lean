import Derived.Test.YtbofilglphfceaaGreatQ52
namespace Go.Proofs.YtbofilglphfceaaGreat
set_option linter.unusedVariables false
set_option linter.unusedSimpArgs false
open Go.RowKit
section
set_option maxRecDepth 100000
def xA {α:Type}(F:Nat->α->Prop):Tr α->(Nat->Nat)->Prop
 |.nil,_=>True
 |.nd l v r,p=>(∀ a,v=some a->F (p 0) a)/\xA F l (fun k=>p (2*k+1))/\xA F r (fun k=>p (2*k+2))
theorem xA.get {α:Type}{F:Nat->α->Prop}:∀ {t:Tr α}{p:Nat->Nat}{k:Nat}{a:α},xA F t p->eY t k=some a->F (p k) a
 |.nil,_,_,_,_,h=>by cases h
 |.nd l v r,p,k,a,h,hk=>by
  rw [E4] at hk
  split at hk
  ·rename_i e
   subst e
   exact h.1 a hk
  ·split at hk
   ·have:F (p (2*(k / 2)+1)) a:=xA.get (p:=fun k=>p (2*k+1)) h.2.1 hk
    rwa [show 2*(k / 2)+1=k by omega] at this
   ·have:F (p (2*(k / 2 - 1)+2)) a:=xA.get (p:=fun k=>p (2*k+2)) h.2.2 hk
    rwa [show 2*(k / 2 - 1)+2=k by omega] at this
noncomputable def xt:Tr ((QC × List QR) × Nat):=(.nd (.nd (.nd (.nd (.nd (.nd (.nd .nil none (.nd .nil (some (HM.1,Tryz.f191.ntmps)) .nil)) none (.nd .nil none (.nd .nil (some (H8.1,Tryz.f223.ntmps)) .nil))) (some (MH.1,Tryz.f15.ntmps)) (.nd (.nd (.nd (.nd .nil (some (Hz.1,Tryz.f271.ntmps)) .nil) none .nil) none .nil) (some (MW.1,Tryz.f47.ntmps)) (.nd .nil (some (HZ.1,Tryz.f111.ntmps)) (.nd (.nd .nil (some (Ie.1,Tryz.f367.ntmps)) .nil) none .nil)))) none (.nd (.nd .nil none (.nd .nil (some (HY.1,Tryz.f103.ntmps)) .nil)) none (.nd .nil none (.nd (.nd .nil (some (H3.1,Tryz.f183.ntmps)) .nil) none (.nd (.nd .nil (some (IE.1,Tryz.f375.ntmps)) .nil) none .nil))))) none (.nd (.nd (.nd (.nd .nil (some (MO.1,Tryz.f67.ntmps)) (.nd (.nd .nil (some (HT.1,Tryz.f323.ntmps)) .nil) (some (HN.1,Tryz.f195.ntmps)) .nil)) none (.nd (.nd (.nd .nil (some (HS.1,Tryz.f291.ntmps)) .nil) none .nil) none .nil)) none (.nd .nil none (.nd .nil (some (H0.1,Tryz.f115.ntmps)) .nil))) none (.nd (.nd (.nd (.nd (.nd .nil (some (HQ.1,Tryz.f267.ntmps)) .nil) none (.nd .nil (some (HE.1,Tryz.f395.ntmps)) .nil)) none (.nd (.nd .nil (some (Ic.1,Tryz.f331.ntmps)) .nil) (some (HO.1,Tryz.f203.ntmps)) .nil)) (some (MV.1,Tryz.f43.ntmps)) .nil) none (.nd (.nd .nil none (.nd .nil (some (H7.1,Tryz.f219.ntmps)) .nil)) none (.nd (.nd .nil (some (H4.1,Tryz.f187.ntmps)) .nil) none .nil))))) none (.nd (.nd (.nd (.nd (.nd .nil none (.nd .nil (some (Iv.1,Tryz.f193.ntmps)) .nil)) none .nil) none (.nd (.nd (.nd (.nd .nil (some (HR.1,Tryz.f273.ntmps)) .nil) (some (HJ.1,Tryz.f145.ntmps)) .nil) none .nil) (some (MJ.1,Tryz.f49.ntmps)) (.nd .nil (some (Hq.1,Tryz.f113.ntmps)) .nil))) none (.nd (.nd (.nd .nil none (.nd (.nd .nil (some (HC.1,Tryz.f329.ntmps)) .nil) (some (Iw.1,Tryz.f201.ntmps)) .nil)) none (.nd (.nd .nil none (.nd .nil (some (HF.1,Tryz.f425.ntmps)) .nil)) (some (Hp.1,Tryz.f105.ntmps)) .nil)) none (.nd .nil none (.nd (.nd .nil (some (Ht.1,Tryz.f185.ntmps)) (.nd .nil (some (HX.1,Tryz.f441.ntmps)) .nil)) none .nil)))) none (.nd (.nd (.nd .nil none (.nd .nil (some (Ho.1,Tryz.f101.ntmps)) (.nd .nil (some (Hy.1,Tryz.f229.ntmps)) .nil))) none .nil) none (.nd (.nd .nil (some (MI.1,Tryz.f45.ntmps)) (.nd (.nd (.nd .nil (some (IB.1,Tryz.f301.ntmps)) .nil) none .nil) none (.nd (.nd .nil (some (HD.1,Tryz.f365.ntmps)) .nil) none .nil))) none (.nd (.nd .nil none (.nd (.nd .nil (some (ID.1,Tryz.f349.ntmps)) .nil) (some (Hx.1,Tryz.f221.ntmps)) .nil)) none (.nd (.nd .nil (some (Hu.1,Tryz.f189.ntmps)) .nil) none .nil)))))) none (.nd (.nd (.nd (.nd (.nd (.nd .nil none (.nd .nil (some (H5.1,Tryz.f192.ntmps)) .nil)) none .nil) none (.nd (.nd .nil none (.nd .nil none (.nd .nil (some (Ih.1,Tryz.f464.ntmps)) .nil))) (some (MF.1,Tryz.f48.ntmps)) (.nd (.nd (.nd .nil (some (HB.1,Tryz.f304.ntmps)) .nil) none .nil) (some (Ip.1,Tryz.f112.ntmps)) .nil))) none (.nd (.nd (.nd .nil none (.nd .nil (some (H6.1,Tryz.f200.ntmps)) .nil)) none (.nd (.nd (.nd .nil (some (Ia.1,Tryz.f296.ntmps)) .nil) none (.nd .nil (some (IF.1,Tryz.f424.ntmps)) .nil)) (some (Io.1,Tryz.f104.ntmps)) .nil)) none (.nd .nil none (.nd (.nd .nil (some (Is.1,Tryz.f184.ntmps)) .nil) none .nil)))) none (.nd (.nd (.nd (.nd .nil (some (MY.1,Tryz.f68.ntmps)) (.nd (.nd .nil (some (Ib.1,Tryz.f324.ntmps)) .nil) none .nil)) none (.nd .nil none (.nd .nil (some (Iy.1,Tryz.f228.ntmps)) .nil))) none (.nd (.nd (.nd (.nd .nil (some (IA.1,Tryz.f276.ntmps)) .nil) (some (Ir.1,Tryz.f148.ntmps)) (.nd .nil (some (Ig.1,Tryz.f404.ntmps)) .nil)) none .nil) (some (MX.1,Tryz.f52.ntmps)) (.nd .nil (some (Iq.1,Tryz.f116.ntmps)) .nil))) (some (MC.1,Tryz.f12.ntmps)) (.nd (.nd (.nd (.nd (.nd .nil (some (H9.1,Tryz.f268.ntmps)) .nil) none (.nd .nil (some (HW.1,Tryz.f396.ntmps)) .nil)) none .nil) (some (MD.1,Tryz.f44.ntmps)) .nil) none (.nd (.nd .nil none (.nd .nil (some (Ix.1,Tryz.f220.ntmps)) .nil)) none (.nd (.nd .nil (some (Iu.1,Tryz.f188.ntmps)) .nil) none .nil))))) none (.nd (.nd (.nd (.nd (.nd .nil (some (MK.1,Tryz.f66.ntmps)) (.nd .nil (some (Hv.1,Tryz.f194.ntmps)) .nil)) none (.nd (.nd (.nd .nil (some (HA.1,Tryz.f290.ntmps)) .nil) none .nil) none .nil)) none (.nd (.nd (.nd (.nd .nil (some (H_.1,Tryz.f274.ntmps)) .nil) (some (H2.1,Tryz.f146.ntmps)) .nil) none .nil) (some (MN.1,Tryz.f50.ntmps)) (.nd .nil (some (HI.1,Tryz.f114.ntmps)) .nil))) (some (MU.1,Tryz.f10.ntmps)) (.nd (.nd (.nd .nil none (.nd (.nd .nil (some (HU.1,Tryz.f330.ntmps)) .nil) (some (Hw.1,Tryz.f202.ntmps)) .nil)) (some (ML.1,Tryz.f42.ntmps)) .nil) none (.nd .nil none (.nd (.nd .nil (some (HL.1,Tryz.f186.ntmps)) .nil) none .nil)))) none (.nd (.nd (.nd (.nd .nil none (.nd (.nd .nil (some (IC.1,Tryz.f326.ntmps)) .nil) none .nil)) none (.nd .nil (some (HG.1,Tryz.f102.ntmps)) .nil)) none (.nd .nil (some (MG.1,Tryz.f54.ntmps)) (.nd .nil (some (Hr.1,Tryz.f118.ntmps)) .nil))) none (.nd (.nd (.nd (.nd (.nd .nil (some (Iz.1,Tryz.f270.ntmps)) .nil) none .nil) none .nil) (some (MM.1,Tryz.f46.ntmps)) (.nd (.nd .nil (some (HK.1,Tryz.f174.ntmps)) .nil) (some (HH.1,Tryz.f110.ntmps)) (.nd (.nd .nil (some (HV.1,Tryz.f366.ntmps)) .nil) none .nil))) none (.nd (.nd (.nd .nil (some (Hs.1,Tryz.f158.ntmps)) .nil) none (.nd .nil (some (HP.1,Tryz.f222.ntmps)) .nil)) none .nil))))))
theorem ZY:xA (fun g (c:(QC × List QR) × Nat)=>aN Tryz.prog g c.1 c.2) xt id:=⟨(fun _ e=>nomatch e),⟨(fun _ e=>nomatch e),⟨(fun _ e=>nomatch e),⟨(fun _ e=>nomatch e),⟨(fun _ e=>Option.some.inj e ▸ acD),⟨(fun _ e=>nomatch e),⟨(fun _ e=>nomatch e),trivial,⟨(fun _ e=>Option.some.inj e ▸ Zb),trivial,trivial⟩⟩,⟨(fun _ e=>nomatch e),trivial,⟨(fun _ e=>Option.some.inj e ▸ Zw),trivial,trivial⟩⟩⟩,⟨(fun _ e=>Option.some.inj e ▸ acS),⟨(fun _ e=>nomatch e),⟨(fun _ e=>nomatch e),⟨(fun _ e=>Option.some.inj e ▸ YZ),trivial,trivial⟩,trivial⟩,trivial⟩,⟨(fun _ e=>Option.some.inj e ▸ Zo),trivial,⟨(fun _ e=>nomatch e),⟨(fun _ e=>Option.some.inj e ▸ ZC),trivial,trivial⟩,trivial⟩⟩⟩⟩,⟨(fun _ e=>nomatch e),⟨(fun _ e=>nomatch e),trivial,⟨(fun _ e=>Option.some.inj e ▸ Zn),trivial,trivial⟩⟩,⟨(fun _ e=>nomatch e),trivial,⟨(fun _ e=>nomatch e),⟨(fun _ e=>Option.some.inj e ▸ Zr),trivial,trivial⟩,⟨(fun _ e=>nomatch e),⟨(fun _ e=>Option.some.inj e ▸ ZW),trivial,trivial⟩,trivial⟩⟩⟩⟩⟩,⟨(fun _ e=>nomatch e),⟨(fun _ e=>nomatch e),⟨(fun _ e=>nomatch e),⟨(fun _ e=>Option.some.inj e ▸ acK),trivial,⟨(fun _ e=>Option.some.inj e ▸ Zc),⟨(fun _ e=>Option.some.inj e ▸ Zi),trivial,trivial⟩,trivial⟩⟩,⟨(fun _ e=>nomatch e),⟨(fun _ e=>nomatch e),⟨(fun _ e=>Option.some.inj e ▸ Zh),trivial,trivial⟩,trivial⟩,trivial⟩⟩,⟨(fun _ e=>nomatch e),trivial,⟨(fun _ e=>Option.some.inj e ▸ Zp),trivial,trivial⟩⟩⟩,⟨(fun _ e=>nomatch e),⟨(fun _ e=>Option.some.inj e ▸ acR),⟨(fun _ e=>nomatch e),⟨(fun _ e=>nomatch e),⟨(fun _ e=>Option.some.inj e ▸ Zf),trivial,trivial⟩,⟨(fun _ e=>Option.some.inj e ▸ Y4),trivial,trivial⟩⟩,⟨(fun _ e=>Option.some.inj e ▸ Zd),⟨(fun _ e=>Option.some.inj e ▸ ZB),trivial,trivial⟩,trivial⟩⟩,trivial⟩,⟨(fun _ e=>nomatch e),⟨(fun _ e=>nomatch e),trivial,⟨(fun _ e=>Option.some.inj e ▸ Zv),trivial,trivial⟩⟩,⟨(fun _ e=>nomatch e),⟨(fun _ e=>Option.some.inj e ▸ Zs),trivial,trivial⟩,trivial⟩⟩⟩⟩⟩,⟨(fun _ e=>nomatch e),⟨(fun _ e=>nomatch e),⟨(fun _ e=>nomatch e),⟨(fun _ e=>nomatch e),⟨(fun _ e=>nomatch e),trivial,⟨(fun _ e=>Option.some.inj e ▸ ZN),trivial,trivial⟩⟩,trivial⟩,⟨(fun _ e=>Option.some.inj e ▸ acF),⟨(fun _ e=>nomatch e),⟨(fun _ e=>Option.some.inj e ▸ Y9),⟨(fun _ e=>Option.some.inj e ▸ Zg),trivial,trivial⟩,trivial⟩,trivial⟩,⟨(fun _ e=>Option.some.inj e ▸ YQ),trivial,trivial⟩⟩⟩,⟨(fun _ e=>nomatch e),⟨(fun _ e=>nomatch e),⟨(fun _ e=>nomatch e),trivial,⟨(fun _ e=>Option.some.inj e ▸ ZO),⟨(fun _ e=>Option.some.inj e ▸ Y2),trivial,trivial⟩,trivial⟩⟩,⟨(fun _ e=>Option.some.inj e ▸ YP),⟨(fun _ e=>nomatch e),trivial,⟨(fun _ e=>Option.some.inj e ▸ Y5),trivial,trivial⟩⟩,trivial⟩⟩,⟨(fun _ e=>nomatch e),trivial,⟨(fun _ e=>nomatch e),⟨(fun _ e=>Option.some.inj e ▸ YT),trivial,⟨(fun _ e=>Option.some.inj e ▸ Zm),trivial,trivial⟩⟩,trivial⟩⟩⟩⟩,⟨(fun _ e=>nomatch e),⟨(fun _ e=>nomatch e),⟨(fun _ e=>nomatch e),trivial,⟨(fun _ e=>Option.some.inj e ▸ YO),trivial,⟨(fun _ e=>Option.some.inj e ▸ YY),trivial,trivial⟩⟩⟩,trivial⟩,⟨(fun _ e=>nomatch e),⟨(fun _ e=>Option.some.inj e ▸ acE),trivial,⟨(fun _ e=>nomatch e),⟨(fun _ e=>nomatch e),⟨(fun _ e=>Option.some.inj e ▸ ZT),trivial,trivial⟩,trivial⟩,⟨(fun _ e=>nomatch e),⟨(fun _ e=>Option.some.inj e ▸ Y3),trivial,trivial⟩,trivial⟩⟩⟩,⟨(fun _ e=>nomatch e),⟨(fun _ e=>nomatch e),trivial,⟨(fun _ e=>Option.some.inj e ▸ YX),⟨(fun _ e=>Option.some.inj e ▸ ZV),trivial,trivial⟩,trivial⟩⟩,⟨(fun _ e=>nomatch e),⟨(fun _ e=>Option.some.inj e ▸ YU),trivial,trivial⟩,trivial⟩⟩⟩⟩⟩⟩,⟨(fun _ e=>nomatch e),⟨(fun _ e=>nomatch e),⟨(fun _ e=>nomatch e),⟨(fun _ e=>nomatch e),⟨(fun _ e=>nomatch e),⟨(fun _ e=>nomatch e),trivial,⟨(fun _ e=>Option.some.inj e ▸ Zt),trivial,trivial⟩⟩,trivial⟩,⟨(fun _ e=>Option.some.inj e ▸ acB),⟨(fun _ e=>nomatch e),trivial,⟨(fun _ e=>nomatch e),trivial,⟨(fun _ e=>Option.some.inj e ▸ ZE),trivial,trivial⟩⟩⟩,⟨(fun _ e=>Option.some.inj e ▸ ZI),⟨(fun _ e=>nomatch e),⟨(fun _ e=>Option.some.inj e ▸ Y1),trivial,trivial⟩,trivial⟩,trivial⟩⟩⟩,⟨(fun _ e=>nomatch e),⟨(fun _ e=>nomatch e),⟨(fun _ e=>nomatch e),trivial,⟨(fun _ e=>Option.some.inj e ▸ Zu),trivial,trivial⟩⟩,⟨(fun _ e=>Option.some.inj e ▸ ZH),⟨(fun _ e=>nomatch e),⟨(fun _ e=>Option.some.inj e ▸ Zz),trivial,trivial⟩,⟨(fun _ e=>Option.some.inj e ▸ ZX),trivial,trivial⟩⟩,trivial⟩⟩,⟨(fun _ e=>nomatch e),trivial,⟨(fun _ e=>nomatch e),⟨(fun _ e=>Option.some.inj e ▸ ZL),trivial,trivial⟩,trivial⟩⟩⟩⟩,⟨(fun _ e=>Option.some.inj e ▸ acz),⟨(fun _ e=>nomatch e),⟨(fun _ e=>nomatch e),⟨(fun _ e=>Option.some.inj e ▸ acU),trivial,⟨(fun _ e=>nomatch e),⟨(fun _ e=>Option.some.inj e ▸ ZA),trivial,trivial⟩,trivial⟩⟩,⟨(fun _ e=>nomatch e),trivial,⟨(fun _ e=>Option.some.inj e ▸ ZQ),trivial,trivial⟩⟩⟩,⟨(fun _ e=>Option.some.inj e ▸ acT),⟨(fun _ e=>nomatch e),⟨(fun _ e=>Option.some.inj e ▸ ZK),⟨(fun _ e=>Option.some.inj e ▸ ZS),trivial,trivial⟩,⟨(fun _ e=>Option.some.inj e ▸ ZD),trivial,trivial⟩⟩,trivial⟩,⟨(fun _ e=>Option.some.inj e ▸ ZJ),trivial,trivial⟩⟩⟩,⟨(fun _ e=>nomatch e),⟨(fun _ e=>Option.some.inj e ▸ acA),⟨(fun _ e=>nomatch e),⟨(fun _ e=>nomatch e),⟨(fun _ e=>Option.some.inj e ▸ Zx),trivial,trivial⟩,⟨(fun _ e=>Option.some.inj e ▸ Zl),trivial,trivial⟩⟩,trivial⟩,trivial⟩,⟨(fun _ e=>nomatch e),⟨(fun _ e=>nomatch e),trivial,⟨(fun _ e=>Option.some.inj e ▸ ZP),trivial,trivial⟩⟩,⟨(fun _ e=>nomatch e),⟨(fun _ e=>Option.some.inj e ▸ ZM),trivial,trivial⟩,trivial⟩⟩⟩⟩⟩,⟨(fun _ e=>nomatch e),⟨(fun _ e=>Option.some.inj e ▸ acQ),⟨(fun _ e=>nomatch e),⟨(fun _ e=>nomatch e),⟨(fun _ e=>Option.some.inj e ▸ acG),trivial,⟨(fun _ e=>Option.some.inj e ▸ YV),trivial,trivial⟩⟩,⟨(fun _ e=>nomatch e),⟨(fun _ e=>nomatch e),⟨(fun _ e=>Option.some.inj e ▸ Y0),trivial,trivial⟩,trivial⟩,trivial⟩⟩,⟨(fun _ e=>Option.some.inj e ▸ acJ),⟨(fun _ e=>nomatch e),⟨(fun _ e=>Option.some.inj e ▸ Zq),⟨(fun _ e=>Option.some.inj e ▸ Zy),trivial,trivial⟩,trivial⟩,trivial⟩,⟨(fun _ e=>Option.some.inj e ▸ Y8),trivial,trivial⟩⟩⟩,⟨(fun _ e=>nomatch e),⟨(fun _ e=>Option.some.inj e ▸ acH),⟨(fun _ e=>nomatch e),trivial,⟨(fun _ e=>Option.some.inj e ▸ YW),⟨(fun _ e=>Option.some.inj e ▸ Zj),trivial,trivial⟩,trivial⟩⟩,trivial⟩,⟨(fun _ e=>nomatch e),trivial,⟨(fun _ e=>nomatch e),⟨(fun _ e=>Option.some.inj e ▸ Za),trivial,trivial⟩,trivial⟩⟩⟩⟩,⟨(fun _ e=>nomatch e),⟨(fun _ e=>nomatch e),⟨(fun _ e=>nomatch e),⟨(fun _ e=>nomatch e),trivial,⟨(fun _ e=>nomatch e),⟨(fun _ e=>Option.some.inj e ▸ ZU),trivial,trivial⟩,trivial⟩⟩,⟨(fun _ e=>Option.some.inj e ▸ Y6),trivial,trivial⟩⟩,⟨(fun _ e=>Option.some.inj e ▸ acC),trivial,⟨(fun _ e=>Option.some.inj e ▸ YR),trivial,trivial⟩⟩⟩,⟨(fun _ e=>nomatch e),⟨(fun _ e=>Option.some.inj e ▸ acI),⟨(fun _ e=>nomatch e),⟨(fun _ e=>nomatch e),⟨(fun _ e=>Option.some.inj e ▸ ZR),trivial,trivial⟩,trivial⟩,trivial⟩,⟨(fun _ e=>Option.some.inj e ▸ Y7),⟨(fun _ e=>Option.some.inj e ▸ Y_),trivial,trivial⟩,⟨(fun _ e=>nomatch e),⟨(fun _ e=>Option.some.inj e ▸ Zk),trivial,trivial⟩,trivial⟩⟩⟩,⟨(fun _ e=>nomatch e),⟨(fun _ e=>nomatch e),⟨(fun _ e=>Option.some.inj e ▸ YS),trivial,trivial⟩,⟨(fun _ e=>Option.some.inj e ▸ Ze),trivial,trivial⟩⟩,trivial⟩⟩⟩⟩⟩⟩
theorem IS {g:Nat}{c:QC × List QR}{n:Nat}(h:eY xt g=some (c,n)):aN Tryz.prog g c n:=ZY.get h
end
section
set_option maxRecDepth 100000
attribute [local irreducible] ah bc ad ab
def qp8:CF Tryz.f8:=⟨_,by conv=>lhs;cbv⟩
theorem qf8:aH Tryz.prog 8 qp8.1 Tryz.f8.ntmps:=aQ Tryz.func8 qp8.2 Tryz.call8
def g8:List Nat:=[3,4,0,1,2]
def sN (l:List Gl):Bool:=decide ((l.length:Int)<=6) && l.all ou
def Bz (r:Rl):Bool:=decide (r.aV.length<=3) && (decide (r.rem.length<=3) && (decide (r.aV.length+r.rem.length<=3) && (decide (r.guard.length<=6) && (decide (r.body.length<=6) && (r.aV.all rE && (r.rem.all rE && (sN r.guard && sN r.body)))))))
def y_ (p:Pg):Bool:=decide (p.ds.length<=12) && (decide (p.rs.length<=8) && p.rs.all Bz)
section
variable {w0:World}{ρ:Hd}
set_option maxHeartbeats 2000000 in
theorem IG (p:Pg) (lx:xK p):ah Tryz.prog w0 36 [pg ρ p] (.v (.bool (y_ p))):=by
 obtain⟨hd,ji,_,AM⟩:=lx
 obtain⟨R,hR⟩:∃ R,R=y_ p:=⟨_,rfl⟩
 rw [<-hR]
 unfold y_ at hR
 obtain⟨ds,rs⟩:=p
 dsimp only at hR hd ji AM
 refine acw.aG (by simp [Tryz.ntmps36]) (.v) ?_
 refine gq nC ?_
 repeat' (first
  |(refine bq (fun hb=>?_) (fun hb=>?_)<;>(try simp only [aq] at hb)<;>(first|refine gq nC ?_))
  |(refine aB fun m hm=>?_;(try rw [af] at hm);refine gq nC ?_)
  |(refine fq ?_))
 all_goals first
  |(rw [hR,decide_eq_false (show ¬ ds.length<=12 by omega)];exact aC rfl)
  |(refine aC ?_;rw [hR,decide_eq_false (show ¬ rs.length<=8 by omega)];simp;done)
  |skip
 rw [decide_eq_true (show ds.length<=12 by omega),decide_eq_true (show rs.length<=8 by omega),Bool.true_and,Bool.true_and] at hR
 refine ab.aP (σ:=Int) 1 1 [] (fun q=>[(1,.pt 0 2 0 0),(3,.v (.int .i64 q))]) [] (fun _=>[(0,.arr 2 [lO ρ ⟨ds,rs⟩] 0 true)]) (fun q=>∃ k:Nat,q=k/\k<=rs.length/\R=(rs.drop k).all Bz) (fun q=>rs.length - q.toNat) 0 ⟨0,rfl,by simp,by simpa using hR⟩ rfl (by exact⟨sq,rfl,⟨.inl ⟨_,rfl,.arr (by exact⟨kq,trivial⟩)⟩,trivial⟩,rfl,rfl,rfl⟩) ?_
 rintro q ⟨k,hi,hk,hp⟩
 clear hR
 refine gq nC ?_
 by_cases au:k < rs.length
 ·obtain⟨x,hx,aO⟩:=az au
  have dV:=AM x (aY hx)
  have h1:=Fx (w0:=w0) (ρ:=ρ) x.aV dV.ke fun y hy=>(dV.kx y hy).1
  have h2:=Fx (w0:=w0) (ρ:=ρ) x.rem dV.re fun y hy=>(dV.rx y hy).1
  have h3:=tA (w0:=w0) (ρ:=ρ) x.guard 6 dV.g fun y hy=>(dV.gx y hy).1
  have h4:=tA (w0:=w0) (ρ:=ρ) x.body 6 dV.b fun y hy=>(dV.bx y hy).1
  have e1:=dV.ke
  have e2:=dV.re
  have e3:=dV.g
  have e4:=dV.b
  rw [aO,List.all_cons,Bz] at hp
  obtain⟨x1,gT⟩:∃ b,b=x.aV.all rE:=⟨_,rfl⟩
  obtain⟨x2,MZ⟩:∃ b,b=x.rem.all rE:=⟨_,rfl⟩
  obtain⟨x3,jG⟩:∃ b,b=sN x.guard:=⟨_,rfl⟩
  obtain⟨x4,oz⟩:∃ b,b=sN x.body:=⟨_,rfl⟩
  rw [<-gT,<-MZ,<-jG,<-oz] at hp
  rw [<-gT] at h1
  rw [<-MZ] at h2
  rw [show (decide ((x.guard.length:Int)<=6) && x.guard.all ou)=x3 from jG.symm] at h3
  rw [show (decide ((x.body.length:Int)<=6) && x.body.all ou)=x4 from oz.symm] at h4
  obtain⟨T,hT⟩:∃ T,T=(rs.drop (k+1)).all Bz:=⟨_,rfl⟩
  rw [<-hT] at hp
  clear gT MZ jG oz dV
  obtain⟨n,ke,re,g,b,v⟩:=x
  dsimp only at hp h1 h2 h3 h4 e1 e2 e3 e4
  refine ab.int rfl (ad.len rfl) fun m0 kO=>?_;rw [af] at kO
  refine gq nC ?_
  repeat' (first
   |(refine ab.op rfl (ad.ind rfl rfl (ay (l:=rs) hi hx) (aw fun _=>rfl)) ?_;refine gq nC ?_)
   |(refine ab.a_ rfl (ad.ag rfl h1 ⟨gy _,trivial⟩) (fun _=>?_) (fun _=>?_)<;>refine gq nC ?_)
   |(refine ab.a_ rfl (ad.ag rfl h2 ⟨gy _,trivial⟩) (fun _=>?_) (fun _=>?_)<;>refine gq nC ?_)
   |(refine ab.a_ rfl (ad.ag rfl h3 ⟨bw _,.v,trivial⟩) (fun _=>?_) (fun _=>?_)<;>refine gq nC ?_)
   |(refine ab.a_ rfl (ad.ag rfl h4 ⟨bw _,.v,trivial⟩) (fun _=>?_) (fun _=>?_)<;>refine gq nC ?_)
   |(refine bq (fun hb=>?_) (fun hb=>?_)<;>(try simp only [aq] at hb)<;>(first|refine gq nC ?_))
   |(refine aB fun m hm=>?_;(try rw [af] at hm);refine gq nC ?_)
   |(refine aS fun _ _=>?_;refine gq nC ?_)
   |(refine ab.ao ?_;refine gq nC ?_)
   |(refine ab.bJ ?_;refine gq nC ?_)
   |(refine fq ?_))
  all_goals first
   |(exfalso;omega)
   |(refine aC ?_;rw [hp,decide_eq_false (show ¬ ke.length<=3 by omega)];simp;done)
   |(refine aC ?_;rw [hp,decide_eq_false (show ¬ re.length<=3 by omega)];simp;done)
   |(refine aC ?_;rw [hp,decide_eq_false (show ¬ ke.length+re.length<=3 by omega)];simp;done)
   |(refine aC ?_;rw [hp,decide_eq_false (show ¬ g.length<=6 by omega)];simp;done)
   |(refine aC ?_;rw [hp,decide_eq_false (show ¬ b.length<=6 by omega)];simp;done)
   |(refine aC ?_;rw [hp,show x1=false by assumption];simp;done)
   |(refine aC ?_;rw [hp,show x2=false by assumption];simp;done)
   |(refine aC ?_;rw [hp,show x3=false by assumption];simp;done)
   |(refine aC ?_;rw [hp,show x4=false by assumption];simp;done)
   |(rw [decide_eq_true (show ke.length<=3 by omega),decide_eq_true (show re.length<=3 by omega),decide_eq_true (show ke.length+re.length<=3 by omega),decide_eq_true (show g.length<=6 by omega),decide_eq_true (show b.length<=6 by omega),show x1=true by assumption,show x2=true by assumption,show x3=true by assumption,show x4=true by assumption] at hp
     simp only [Bool.true_and] at hp
     rw [hT] at hp
     refine ab.aL (σ:=Int) _ [] ?_ ?_ (by exact⟨sq,rfl,⟨.inl ⟨_,rfl,.arr (by exact⟨kq,trivial⟩)⟩,trivial⟩,rfl,rfl,rfl⟩)<;>first|omega|exact⟨k+1,by omega,by omega,hp⟩)
 rw [List.drop_eq_nil_of_le (by omega),List.all_nil] at hp
 repeat' (first
  |(refine bq (fun hb=>?_) (fun hb=>?_)<;>(try simp only [aq] at hb)<;>(first|refine gq nC ?_))
  |(refine aB fun m hm=>?_;(try rw [af] at hm);refine gq nC ?_)
  |(refine ab.ao ?_;refine gq nC ?_)
  |(refine fq ?_))
 all_goals first
  |(exfalso;omega)
  |(rw [hp];exact aC rfl)
end
end
section
set_option maxRecDepth 100000
attribute [local irreducible] ah bc ad ab
def BA (x:Bd):Bool:=decide (cM x.t<=60)
def za (x:Fi):Bool:=decide (x.ids.length<=8)
def vp (st:List Im) (b:List Bd) (f:List Fi):Bool:=decide (st.length<=9) && (decide (b.length<=20) && (decide (f.length<=30) && (st.all Hg && (b.all BA && f.all za))))
section
variable {w0:World}{ρ:Hd}
set_option maxHeartbeats 2000000 in
theorem RJ (st:List Im) (b:List Bd) (f:List Fi) (jf:st.length<=1099511627776) (sJ:b.length<=1099511627776) (hfl:f.length<=1099511627776) (Qf:∀ x ∈ st,x.ok) (lU:∀ x ∈ b,x.ok) (Fe:∀ x ∈ f,x.ok):ah Tryz.prog w0 37 [fJ ρ st,eJ ρ b,gO ρ f] (.v (.bool (vp st b f))):=by
 obtain⟨R,hR⟩:∃ R,R=vp st b f:=⟨_,rfl⟩
 rw [<-hR]
 unfold vp at hR
 refine acv.aG (by simp [Tryz.ntmps37]) (.v) ?_
 refine gq fY ?_
 repeat' (first
  |(refine bq (fun hb=>?_) (fun hb=>?_)<;>(try simp only [aq] at hb)<;>(first|refine gq fY ?_))
  |(refine aB fun m hm=>?_;(try rw [af] at hm);refine gq fY ?_)
  |(refine fq ?_))
 all_goals first
  |(rw [hR,decide_eq_false (show ¬ st.length<=9 by omega)];exact aC rfl)
  |(refine aC ?_;rw [hR,decide_eq_false (show ¬ b.length<=20 by omega)];simp;done)
  |(refine aC ?_;rw [hR,decide_eq_false (show ¬ f.length<=30 by omega)];simp;done)
  |skip
 rw [decide_eq_true (show st.length<=9 by omega),decide_eq_true (show b.length<=20 by omega),decide_eq_true (show f.length<=30 by omega)] at hR
 simp only [Bool.true_and] at hR
 obtain⟨T2,nc⟩:∃ T,T=(b.all BA && f.all za):=⟨_,rfl⟩
 rw [<-nc] at hR
 refine ab.aP (σ:=Int) 0 0 [] (fun q=>[(0,fJ ρ st),(1,eJ ρ b),(2,gO ρ f),(7,.v (.int .i64 q))]) [] (fun _=>[]) (fun q=>∃ k:Nat,q=k/\k<=st.length/\R=((st.drop k).all Hg && T2)) (fun q=>st.length - q.toNat) 0 ⟨0,rfl,by simp,by simpa using hR⟩ rfl cq ?_
 rintro q ⟨k,hi,hk,hp⟩
 clear hR
 refine gq fY ?_
 by_cases au:k < st.length
 ·obtain⟨x,hx,aO⟩:=az au
  have dV:=Qf x (aY hx)
  have hT:=Ds (w0:=w0) (ρ:=ρ) x.a dV.1.len dV.1.2
  rw [aO,List.all_cons,Hg,Bool.and_assoc] at hp
  obtain⟨B,hB⟩:∃ B,B=pA x.a:=⟨_,rfl⟩
  rw [<-hB] at hp hT
  obtain⟨xi,xn,xa⟩:=x
  repeat' (first
   |(refine ab.op rfl (ad.ind rfl rfl (ay (l:=st) hi hx) (aw fun _=>rfl)) ?_;refine gq fY ?_)
   |(refine ab.a_ rfl (ad.ag rfl hT ⟨bC _,trivial⟩) (fun _=>?_) (fun _=>?_)<;>refine gq fY ?_)
   |(refine bq (fun hb=>?_) (fun hb=>?_)<;>(try simp only [aq] at hb)<;>(first|refine gq fY ?_))
   |(refine aB fun m hm=>?_;(try rw [af] at hm);refine gq fY ?_)
   |(refine aS fun _ _=>?_;refine gq fY ?_)
   |(refine ab.ao ?_;refine gq fY ?_)
   |(refine ab.bJ ?_;refine gq fY ?_)
   |(refine fq ?_))
  all_goals first
   |(exfalso;omega)
   |(rw [hp,show B=false by assumption];exact aC rfl)
   |(rw [show B=true by assumption,Bool.true_and] at hp
     refine ab.aL (σ:=Int) _ [] ?_ ?_ cq<;>first|omega|exact⟨k+1,by omega,by omega,hp⟩)
 rw [List.drop_eq_nil_of_le (by omega),List.all_nil,Bool.true_and,nc] at hp
 clear nc
 repeat' (first
  |(refine bq (fun hb=>?_) (fun hb=>?_)<;>(try simp only [aq] at hb)<;>(first|refine gq fY ?_))
  |(refine aB fun m hm=>?_;(try rw [af] at hm);refine gq fY ?_)
  |(refine ab.ao ?_;refine gq fY ?_)
  )
 all_goals first
  |(exfalso;omega)
  |skip
 obtain⟨T3,qK⟩:∃ T,T=f.all za:=⟨_,rfl⟩
 rw [<-qK] at hp
 refine ab.aP (σ:=Int) 0 0 [] (fun q=>[(1,eJ ρ b),(2,gO ρ f),(8,.v (.int .i64 q))]) [] (fun _=>[]) (fun q=>∃ k:Nat,q=k/\k<=b.length/\R=((b.drop k).all BA && T3)) (fun q=>b.length - q.toNat) 0 ⟨0,rfl,by simp,by simpa using hp⟩ rfl cq ?_
 clear hp
 rintro q2 ⟨k2,mi,dS,hp⟩
 refine gq fY ?_
 by_cases gu:k2 < b.length
 ·obtain⟨x,hx,aO⟩:=az gu
  have dV:=lU x (aY hx)
  have hS:=vG (w0:=w0) (ρ:=ρ) _ x.t (Nat.le_refl _) dV.2
  rw [aO,List.all_cons,BA,Bool.and_assoc] at hp
  obtain⟨z,EN⟩:∃ z,z=cM x.t:=⟨_,rfl⟩
  rw [<-EN] at hp hS
  have gn:=ba (ρ:=ρ) x.t
  clear EN
  obtain⟨xv,xk,xi,xn,xa⟩:=x
  repeat' (first
   |(refine ab.op rfl (ad.ind rfl rfl (ay (l:=b) mi hx) (aw fun _=>rfl)) ?_;refine gq fY ?_)
   |(refine ab.int rfl (ad.ag rfl hS ⟨gn,trivial⟩) fun _ _=>?_;refine gq fY ?_)
   |(refine bq (fun hb=>?_) (fun hb=>?_)<;>(try simp only [aq] at hb)<;>(first|refine gq fY ?_))
   |(refine aB fun m hm=>?_;(try rw [af] at hm);refine gq fY ?_)
   |(refine aS fun _ _=>?_;refine gq fY ?_)
   |(refine ab.ao ?_;refine gq fY ?_)
   |(refine ab.bJ ?_;refine gq fY ?_)
   |(refine fq ?_))
  all_goals first
   |(exfalso;omega)
   |(rw [hp,decide_eq_false (show ¬ z<=60 by omega)];exact aC rfl)
   |(rw [decide_eq_true (show z<=60 by omega),Bool.true_and] at hp
     refine ab.aL (σ:=Int) _ [] ?_ ?_ cq<;>first|omega|exact⟨k2+1,by omega,by omega,hp⟩)
 rw [List.drop_eq_nil_of_le (by omega),List.all_nil,Bool.true_and,qK] at hp
 clear qK
 repeat' (first
  |(refine bq (fun hb=>?_) (fun hb=>?_)<;>(try simp only [aq] at hb)<;>(first|refine gq fY ?_))
  |(refine aB fun m hm=>?_;(try rw [af] at hm);refine gq fY ?_)
  |(refine ab.ao ?_;refine gq fY ?_)
  )
 all_goals first
  |(exfalso;omega)
  |skip
 refine ab.aP (σ:=Int) 0 0 [] (fun q=>[(2,gO ρ f),(9,.v (.int .i64 q))]) [] (fun _=>[]) (fun q=>∃ k:Nat,q=k/\k<=f.length/\R=(f.drop k).all za) (fun q=>f.length - q.toNat) 0 ⟨0,rfl,by simp,by simpa using hp⟩ rfl cq ?_
 clear hp
 rintro q3 ⟨k3,tT,yz,hp⟩
 refine gq fY ?_
 by_cases kf:k3 < f.length
 ·obtain⟨x,hx,aO⟩:=az kf
  have dV:=Fe x (aY hx)
  unfold Fi.ok at dV
  rw [aO,List.all_cons,za] at hp
  obtain⟨xr,ids⟩:=x
  dsimp only at hp dV
  repeat' (first
   |(refine ab.op rfl (ad.ind rfl rfl (ay (l:=f) tT hx) (aw fun _=>rfl)) ?_;refine gq fY ?_)
   |(refine bq (fun hb=>?_) (fun hb=>?_)<;>(try simp only [aq] at hb)<;>(first|refine gq fY ?_))
   |(refine aB fun m hm=>?_;(try rw [af] at hm);refine gq fY ?_)
   |(refine aS fun _ _=>?_;refine gq fY ?_)
   |(refine ab.ao ?_;refine gq fY ?_)
   |(refine ab.bJ ?_;refine gq fY ?_)
   |(refine fq ?_))
  all_goals first
   |(exfalso;omega)
   |(rw [hp,decide_eq_false (show ¬ ids.length<=8 by omega)];exact aC rfl)
   |(rw [decide_eq_true (show ids.length<=8 by omega),Bool.true_and] at hp
     refine ab.aL (σ:=Int) _ [] ?_ ?_ cq<;>first|omega|exact⟨k3+1,by omega,by omega,hp⟩)
 rw [List.drop_eq_nil_of_le (by omega),List.all_nil] at hp
 repeat' (first
  |(refine bq (fun hb=>?_) (fun hb=>?_)<;>(try simp only [aq] at hb)<;>(first|refine gq fY ?_))
  |(refine aB fun m hm=>?_;(try rw [af] at hm);refine gq fY ?_)
  |(refine ab.ao ?_;refine gq fY ?_)
  |(refine fq ?_))
 all_goals first
  |(exfalso;omega)
  |(rw [hp];exact aC rfl)
def tX (p:Pg) (s:dP):Bool:=y_ p && ((decide ((s.goals.length:Int)<=10) && s.goals.all ou) && (sN s.known && vp s.store s.binds s.cg))
theorem Qx (p:Pg) (s:dP) (lx:xK p) (hs:v8 s):ah Tryz.prog w0 8 [pg ρ p,r5 ρ s] (.v (.bool (tX p s))):=by
 have h1:=IG (w0:=w0) (ρ:=ρ) p lx
 have h2:=tA (w0:=w0) (ρ:=ρ) s.goals 10 hs.gl fun y hy=>(hs.gx y hy).1
 have h3:=tA (w0:=w0) (ρ:=ρ) s.known 6 hs.kl fun y hy=>(hs.kx y hy).1
 have h4:=RJ (w0:=w0) (ρ:=ρ) s.store s.binds s.cg hs.st hs.bl hs.fl hs.sx hs.bx hs.fx
 have nq:=nF (ρ:=ρ) p
 obtain⟨R,hR⟩:∃ R,R=tX p s:=⟨_,rfl⟩
 rw [<-hR]
 unfold tX sN at hR
 obtain⟨x1,gT⟩:∃ b,b=y_ p:=⟨_,rfl⟩
 obtain⟨x2,aO⟩:∃ b,b=(decide ((s.goals.length:Int)<=10) && s.goals.all ou):=⟨_,rfl⟩
 obtain⟨x3,jG⟩:∃ b,b=(decide ((s.known.length:Int)<=6) && s.known.all ou):=⟨_,rfl⟩
 obtain⟨x4,oz⟩:∃ b,b=vp s.store s.binds s.cg:=⟨_,rfl⟩
 rw [<-gT,<-aO,<-jG,<-oz] at hR
 rw [<-gT] at h1
 rw [<-aO] at h2
 rw [<-jG] at h3
 rw [<-oz] at h4
 clear gT aO jG oz hs lx
 obtain⟨ds,rs⟩:=p
 obtain⟨goals,store,binds,cg,known,next,fresh,failed⟩:=s
 dsimp only at h2 h3 h4
 refine qf8.aG (by simp [Tryz.ntmps8]) (.v) ?_
 refine gq g8 ?_
 repeat' (first
  |(refine ab.a_ rfl (ad.ag rfl h1 ⟨nq,trivial⟩) (fun _=>?_) (fun _=>?_)<;>refine gq g8 ?_)
  |(refine ab.a_ rfl (ad.ag rfl h2 ⟨bw _,.v,trivial⟩) (fun _=>?_) (fun _=>?_)<;>refine gq g8 ?_)
  |(refine ab.a_ rfl (ad.ag rfl h3 ⟨bw _,.v,trivial⟩) (fun _=>?_) (fun _=>?_)<;>refine gq g8 ?_)
  |(refine ab.a_ rfl (ad.ag rfl h4 ⟨cb _,bT _,cJ _,trivial⟩) (fun _=>?_) (fun _=>?_)<;>refine gq g8 ?_)
  |(refine fq ?_))
 all_goals first
  |(refine aC ?_;rw [hR,show x1=false by assumption];rfl)
  |(refine aC ?_;rw [hR,show x2=false by assumption];simp;done)
  |(refine aC ?_;rw [hR,show x3=false by assumption];simp;done)
  |(refine aC ?_;rw [hR,show x4=false by assumption];simp;done)
  |(refine aC ?_;rw [hR,show x1=true by assumption,show x2=true by assumption,show x3=true by assumption,show x4=true by assumption];rfl)
end
end
end Go.Proofs.YtbofilglphfceaaGreat
