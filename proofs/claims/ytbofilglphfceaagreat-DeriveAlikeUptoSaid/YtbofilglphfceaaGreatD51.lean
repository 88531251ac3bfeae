import Derived.Test.YtbofilglphfceaaGreatD48
namespace Go.Proofs.YtbofilglphfceaaGreat
set_option linter.unusedVariables false
set_option linter.unusedSimpArgs false
open Go.RowKit
section
set_option maxRecDepth 100000
attribute [local irreducible] ag aR aa ab
def PS:CF Tryz.f8:=⟨_,by conv=>lhs;cbv⟩
theorem TR:bN Tryz.prog 8 PS.1 Tryz.f8.ntmps:=cd Tryz.func8 PS.2 Tryz.call8
def g8:List Nat:=[3,4,0,1,2]
def m4 (l:List Gl):Bool:=decide ((l.length:Int)<=6) && l.all j5
def uA (r:Rl):Bool:=decide (r.bR.length<=3) && (decide (r.rem.length<=3) && (decide (r.bR.length+r.rem.length<=3) && (decide (r.guard.length<=6) && (decide (r.body.length<=6) && (r.bR.all mn && (r.rem.all mn && (m4 r.guard && m4 r.body)))))))
def sh (p:Pg):Bool:=decide (p.ds.length<=12) && (decide (p.rs.length<=8) && p.rs.all uA)
section
variable {w0:World}{ρ:Hd}
set_option maxHeartbeats 2000000 in
theorem BV (p:Pg) (Hy:Kd p):ag Tryz.prog w0 36 [pg ρ p] (.v (.bool (sh p))):=by
 obtain⟨hd,eC,_,PT⟩:=Hy
 obtain⟨R,hR⟩:∃ R,R=sh p:=⟨_,rfl⟩
 rw [<-hR]
 unfold sh at hR
 obtain⟨ds,rs⟩:=p
 dsimp only at hR hd eC PT
 refine RW.bc (by simp [Tryz.ntmps36]) (.v) ?_
 refine gq jH ?_
 repeat' (first
  |(refine bq (fun hb=>?_) (fun hb=>?_)<;>(try simp only [aJ] at hb)<;>(first|refine gq jH ?_))
  |(refine aS fun m hm=>?_;(try rw [aq] at hm);refine gq jH ?_)
  |(refine fq ?_))
 all_goals first
  |(rw [hR,decide_eq_false (show ¬ ds.length<=12 by omega)];exact aT rfl)
  |(refine aT ?_;rw [hR,decide_eq_false (show ¬ rs.length<=8 by omega)];simp;done)
  |skip
 rw [decide_eq_true (show ds.length<=12 by omega),decide_eq_true (show rs.length<=8 by omega),Bool.true_and,Bool.true_and] at hR
 refine ab.cO (σ:=Int) 1 1 [] (fun q=>[(1,.pt 0 2 0 0),(3,.v (.int .i64 q))]) [] (fun _=>[(0,.arr 2 [I2 ρ ⟨ds,rs⟩] 0 true)]) (fun q=>∃ k:Nat,q=k/\k<=rs.length/\R=(rs.drop k).all uA) (fun q=>rs.length - q.toNat) 0 ⟨0,rfl,by simp,by simpa using hR⟩ rfl (by exact⟨sq,rfl,⟨.inl ⟨_,rfl,.arr (by exact⟨kq,trivial⟩)⟩,trivial⟩,rfl,rfl,rfl⟩) ?_
 rintro q ⟨k,hi,hk,hp⟩
 clear hR
 refine gq jH ?_
 by_cases au:k < rs.length
 ·obtain⟨x,hx,bI⟩:=aU au
  have cC:=PT x (bO hx)
  have h1:=x_ (w0:=w0) (ρ:=ρ) x.bR cC.ke fun y hy=>(cC.kx y hy).1
  have h2:=x_ (w0:=w0) (ρ:=ρ) x.rem cC.re fun y hy=>(cC.rx y hy).1
  have h3:=nN (w0:=w0) (ρ:=ρ) x.guard 6 cC.g fun y hy=>(cC.gx y hy).1
  have h4:=nN (w0:=w0) (ρ:=ρ) x.body 6 cC.b fun y hy=>(cC.bx y hy).1
  have e1:=cC.ke
  have e2:=cC.re
  have e3:=cC.g
  have e4:=cC.b
  rw [bI,List.all_cons,uA] at hp
  obtain⟨x1,dR⟩:∃ b,b=x.bR.all mn:=⟨_,rfl⟩
  obtain⟨x2,Ft⟩:∃ b,b=x.rem.all mn:=⟨_,rfl⟩
  obtain⟨x3,wo⟩:∃ b,b=m4 x.guard:=⟨_,rfl⟩
  obtain⟨x4,wq⟩:∃ b,b=m4 x.body:=⟨_,rfl⟩
  rw [<-dR,<-Ft,<-wo,<-wq] at hp
  rw [<-dR] at h1
  rw [<-Ft] at h2
  rw [show (decide ((x.guard.length:Int)<=6) && x.guard.all j5)=x3 from wo.symm] at h3
  rw [show (decide ((x.body.length:Int)<=6) && x.body.all j5)=x4 from wq.symm] at h4
  obtain⟨T,hT⟩:∃ T,T=(rs.drop (k+1)).all uA:=⟨_,rfl⟩
  rw [<-hT] at hp
  clear dR Ft wo wq cC
  obtain⟨n,ke,re,g,b,v⟩:=x
  dsimp only at hp h1 h2 h3 h4 e1 e2 e3 e4
  refine ab.int rfl (aa.len rfl) fun m0 CU=>?_;rw [aq] at CU
  refine gq jH ?_
  repeat' (first
   |(refine ab.op rfl (aa.ind rfl rfl (bg (l:=rs) hi hx) (ba fun _=>rfl)) ?_;refine gq jH ?_)
   |(refine ab.bif rfl (aa.aB rfl h1 ⟨jP _,trivial⟩) (fun _=>?_) (fun _=>?_)<;>refine gq jH ?_)
   |(refine ab.bif rfl (aa.aB rfl h2 ⟨jP _,trivial⟩) (fun _=>?_) (fun _=>?_)<;>refine gq jH ?_)
   |(refine ab.bif rfl (aa.aB rfl h3 ⟨bW _,.v,trivial⟩) (fun _=>?_) (fun _=>?_)<;>refine gq jH ?_)
   |(refine ab.bif rfl (aa.aB rfl h4 ⟨bW _,.v,trivial⟩) (fun _=>?_) (fun _=>?_)<;>refine gq jH ?_)
   |(refine bq (fun hb=>?_) (fun hb=>?_)<;>(try simp only [aJ] at hb)<;>(first|refine gq jH ?_))
   |(refine aS fun m hm=>?_;(try rw [aq] at hm);refine gq jH ?_)
   |(refine cQ fun _ _=>?_;refine gq jH ?_)
   |(refine ab.aK ?_;refine gq jH ?_)
   |(refine ab.de ?_;refine gq jH ?_)
   |(refine fq ?_))
  all_goals first
   |(exfalso;omega)
   |(refine aT ?_;rw [hp,decide_eq_false (show ¬ ke.length<=3 by omega)];simp;done)
   |(refine aT ?_;rw [hp,decide_eq_false (show ¬ re.length<=3 by omega)];simp;done)
   |(refine aT ?_;rw [hp,decide_eq_false (show ¬ ke.length+re.length<=3 by omega)];simp;done)
   |(refine aT ?_;rw [hp,decide_eq_false (show ¬ g.length<=6 by omega)];simp;done)
   |(refine aT ?_;rw [hp,decide_eq_false (show ¬ b.length<=6 by omega)];simp;done)
   |(refine aT ?_;rw [hp,show x1=false by assumption];simp;done)
   |(refine aT ?_;rw [hp,show x2=false by assumption];simp;done)
   |(refine aT ?_;rw [hp,show x3=false by assumption];simp;done)
   |(refine aT ?_;rw [hp,show x4=false by assumption];simp;done)
   |(rw [decide_eq_true (show ke.length<=3 by omega),decide_eq_true (show re.length<=3 by omega),decide_eq_true (show ke.length+re.length<=3 by omega),decide_eq_true (show g.length<=6 by omega),decide_eq_true (show b.length<=6 by omega),show x1=true by assumption,show x2=true by assumption,show x3=true by assumption,show x4=true by assumption] at hp
     simp only [Bool.true_and] at hp
     rw [hT] at hp
     refine ab.cK (σ:=Int) _ [] ?_ ?_ (by exact⟨sq,rfl,⟨.inl ⟨_,rfl,.arr (by exact⟨kq,trivial⟩)⟩,trivial⟩,rfl,rfl,rfl⟩)<;>first|omega|exact⟨k+1,by omega,by omega,hp⟩)
 rw [List.drop_eq_nil_of_le (by omega),List.all_nil] at hp
 repeat' (first
  |(refine bq (fun hb=>?_) (fun hb=>?_)<;>(try simp only [aJ] at hb)<;>(first|refine gq jH ?_))
  |(refine aS fun m hm=>?_;(try rw [aq] at hm);refine gq jH ?_)
  |(refine ab.aK ?_;refine gq jH ?_)
  |(refine fq ?_))
 all_goals first
  |(exfalso;omega)
  |(rw [hp];exact aT rfl)
end
end
end Go.Proofs.YtbofilglphfceaaGreat
