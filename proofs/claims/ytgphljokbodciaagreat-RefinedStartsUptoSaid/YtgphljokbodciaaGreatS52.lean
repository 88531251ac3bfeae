import Derived.Test.YtgphljokbodciaaGreatS51
namespace Go.Proofs.YtgphljokbodciaaGreat
set_option linter.unusedVariables false
set_option linter.unusedSimpArgs false
open Go.RowKit
section
set_option maxRecDepth 100000
attribute [local irreducible] ah aV ad ab
def Ym:CF Tryz.f55:=⟨_,by conv=>lhs;cbv⟩
theorem agu:aD Tryz.prog 55 Ym.1 Tryz.f55.ntmps:=aO Tryz.func55 Ym.2 Tryz.call55
def GF:List Nat:=[2,3,4,0,1,5]
def Yn:CF Tryz.f38:=⟨_,by conv=>lhs;cbv⟩
theorem agv:aD Tryz.prog 38 Yn.1 Tryz.f38.ntmps:=aO Tryz.func38 Yn.2 Tryz.call38
def GH:List Nat:=[2,3,4,0,1]
theorem Kk (s:eD):qk s s=true:=by
 unfold qk
 rw [rK (fun x=>by unfold pF r6;rw [qj];simp),rK (fun x=>by unfold oM sM;rw [qj,BV,nf];simp [cR]),rK (fun x=>by unfold oN;rw [BW];simp),
  rK (fun x=>by unfold oO mJ;rw [zL,nf,nf];simp [cR])]
 simp
section
variable {w0:World}{ρ:Hd}
set_option maxHeartbeats 2000000 in
theorem GI (s t:eD) (hs:xy s) (ht:xy t):ah Tryz.prog w0 55 [rL ρ s,rL ρ t] (.v (.bool (qk s t))):=by
 have hG:=ady (w0:=w0) (ρ:=ρ) pF s.stack t.stack 140 [] [] hs.gl ht.gl (nc _) fun x hx y hy=>⟨_,_,rfl,⟨wR x,wR y,trivial⟩,Xx x y (hs.gx x hx) (ht.gx y hy)⟩
 have hM:=Ff (w0:=w0) (ρ:=ρ) s.store t.store hs.st ht.st hs.sx ht.sx
 have hB:=Fg (w0:=w0) (ρ:=ρ) s.binds t.binds hs.bl ht.bl hs.bx ht.bx
 have hF:=Kb (w0:=w0) (ρ:=ρ) s.b9 t.b9 hs.fl ht.fl hs.fx ht.fx
 have BE:=dR (ρ:=ρ) s.stack
 have ca:=dR (ρ:=ρ) t.stack
 obtain⟨R,hR⟩:∃ R,R=qk s t:=⟨_,rfl⟩
 rw [<-hR]
 unfold qk at hR
 generalize de pF s.stack t.stack=x1 at hG hR
 generalize de oM s.store t.store=x2 at hM hR
 generalize de oN s.binds t.binds=x3 at hB hR
 generalize de oO s.b9 t.b9=x4 at hF hR
 clear hs ht
 obtain⟨goals,store,binds,b9,next,fresh,failed⟩:=s
 obtain⟨Yo,Yp,Yq,Yr,next',v8,AZ⟩:=t
 dsimp only at hR hG hM hB hF BE ca
 refine agu.aH (by simp [Tryz.ntmps55]) (.v) ?_
 refine gq GF ?_
 repeat' (first
  |(refine ab.bif rfl (ad.nt rfl hG ⟨BE,ca,nc _,trivial⟩ ⟨sD,sD,Cs,trivial⟩) (fun _=>?_) (fun _=>?_)<;>refine gq GF ?_)
  |(refine ab.bif rfl (ad.ag rfl hM ⟨ct _,ct _,trivial⟩) (fun _=>?_) (fun _=>?_)<;>refine gq GF ?_)
  |(refine ab.bif rfl (ad.ag rfl hB ⟨b8 _,b8 _,trivial⟩) (fun _=>?_) (fun _=>?_)<;>refine gq GF ?_)
  |(refine ab.bif rfl (ad.ag rfl hF ⟨cN _,cN _,trivial⟩) (fun _=>?_) (fun _=>?_)<;>refine gq GF ?_)
  |(refine bq (fun hb=>?_) (fun hb=>?_)<;>(try simp only [aq] at hb)<;>(first|refine gq GF ?_))
  |(refine fq ?_))
 all_goals first
  |(refine aI ?_;rw [hR,show x1=false by assumption];rfl)
  |(refine aI ?_;rw [hR,show x2=false by assumption];simp;done)
  |(refine aI ?_;rw [hR,show x3=false by assumption];simp;done)
  |(refine aI ?_;rw [hR,show x4=false by assumption];simp;done)
  |(refine aI ?_;rw [hR,show (next == next')=false from beq_eq_false_iff_ne.2 (by omega)];simp;done)
  |(refine aI ?_;rw [hR,show (fresh == v8)=false from beq_eq_false_iff_ne.2 (by omega)];simp;done)
  |(rw [show x1=true by assumption,show x2=true by assumption,show x3=true by assumption,show x4=true by assumption,show (next == next')=true from beq_iff_eq.2 (by omega),show (fresh == v8)=true from beq_iff_eq.2 (by omega)] at hR
    refine aI ?_;rw [hR];cases failed<;>cases AZ<;>simp_all;done)
set_option maxHeartbeats 2000000 in
theorem GJ (s t:eD) (hs:xy s) (ht:xy t):ah Tryz.prog w0 38 [rL ρ s,rL ρ t] (.v (.bool (qk s t))):=by
 have hG:=Ev (w0:=w0) (ρ:=ρ) s.stack t.stack hs.gl ht.gl hs.gx ht.gx
 have hM:=Fh (w0:=w0) (ρ:=ρ) s.store t.store hs.st ht.st hs.sx ht.sx
 have hB:=Fj (w0:=w0) (ρ:=ρ) s.binds t.binds hs.bl ht.bl hs.bx ht.bx
 have hF:=Kc (w0:=w0) (ρ:=ρ) s.b9 t.b9 hs.fl ht.fl hs.fx ht.fx
 have BE:=dR (ρ:=ρ) s.stack
 have ca:=dR (ρ:=ρ) t.stack
 obtain⟨R,hR⟩:∃ R,R=qk s t:=⟨_,rfl⟩
 rw [<-hR]
 unfold qk at hR
 generalize de pF s.stack t.stack=x1 at hG hR
 generalize de oM s.store t.store=x2 at hM hR
 generalize de oN s.binds t.binds=x3 at hB hR
 generalize de oO s.b9 t.b9=x4 at hF hR
 clear hs ht
 obtain⟨goals,store,binds,b9,next,fresh,failed⟩:=s
 obtain⟨Yo,Yp,Yq,Yr,next',v8,AZ⟩:=t
 dsimp only at hR hG hM hB hF BE ca
 refine agv.aH (by simp [Tryz.ntmps38]) (.v) ?_
 refine gq GH ?_
 repeat' (first
  |(refine ab.bif rfl (ad.ag rfl hG ⟨BE,ca,trivial⟩) (fun _=>?_) (fun _=>?_)<;>refine gq GH ?_)
  |(refine ab.bif rfl (ad.ag rfl hM ⟨ct _,ct _,trivial⟩) (fun _=>?_) (fun _=>?_)<;>refine gq GH ?_)
  |(refine ab.bif rfl (ad.ag rfl hB ⟨b8 _,b8 _,trivial⟩) (fun _=>?_) (fun _=>?_)<;>refine gq GH ?_)
  |(refine ab.bif rfl (ad.ag rfl hF ⟨cN _,cN _,trivial⟩) (fun _=>?_) (fun _=>?_)<;>refine gq GH ?_)
  |(refine bq (fun hb=>?_) (fun hb=>?_)<;>(try simp only [aq] at hb)<;>(first|refine gq GH ?_))
  |(refine fq ?_))
 all_goals first
  |(refine aI ?_;rw [hR,show x1=false by assumption];rfl)
  |(refine aI ?_;rw [hR,show x2=false by assumption];simp;done)
  |(refine aI ?_;rw [hR,show x3=false by assumption];simp;done)
  |(refine aI ?_;rw [hR,show x4=false by assumption];simp;done)
  |(refine aI ?_;rw [hR,show (next == next')=false from beq_eq_false_iff_ne.2 (by omega)];simp;done)
  |(refine aI ?_;rw [hR,show (fresh == v8)=false from beq_eq_false_iff_ne.2 (by omega)];simp;done)
  |(rw [show x1=true by assumption,show x2=true by assumption,show x3=true by assumption,show x4=true by assumption,show (next == next')=true from beq_iff_eq.2 (by omega),show (fresh == v8)=true from beq_iff_eq.2 (by omega)] at hR
    refine aI ?_;rw [hR];cases failed<;>cases AZ<;>simp_all;done)
end
end
section
set_option maxRecDepth 100000
attribute [local irreducible] ah aV ad ab
def zT (l:List Gl):Bool:=decide ((l.length:Int)<=6) && l.all mF
def Cu (r:Rl):Bool:=decide (r.aT.length<=3) && (decide (r.rem.length<=3) && (decide (r.aT.length+r.rem.length<=3) && (decide (r.guard.length<=6) && (decide (r.body.length<=6) && (r.aT.all sH && (r.rem.all sH && (zT r.guard && zT r.body)))))))
def zU (p:Pg):Bool:=decide (p.ds.length<=12) && (decide (p.rs.length<=8) && p.rs.all Cu)
section
variable {w0:World}{ρ:Hd}
set_option maxHeartbeats 2000000 in
theorem Kl (p:Pg) (lI:zE p):ah Tryz.prog w0 15 [pg ρ p] (.v (.bool (zU p))):=by
 obtain⟨hd,gZ,_,BN⟩:=lI
 obtain⟨R,hR⟩:∃ R,R=zU p:=⟨_,rfl⟩
 rw [<-hR]
 unfold zU at hR
 obtain⟨ds,rs⟩:=p
 dsimp only at hR hd gZ BN
 refine ags.aH (by simp [Tryz.ntmps15]) (.v) ?_
 refine gq ot ?_
 repeat' (first
  |(refine bq (fun hb=>?_) (fun hb=>?_)<;>(try simp only [aq] at hb)<;>(first|refine gq ot ?_))
  |(refine az fun m hm=>?_;(try rw [af] at hm);refine gq ot ?_)
  |(refine fq ?_))
 all_goals first
  |(rw [hR,decide_eq_false (show ¬ ds.length<=12 by omega)];exact aI rfl)
  |(refine aI ?_;rw [hR,decide_eq_false (show ¬ rs.length<=8 by omega)];simp;done)
  |skip
 rw [decide_eq_true (show ds.length<=12 by omega),decide_eq_true (show rs.length<=8 by omega),Bool.true_and,Bool.true_and] at hR
 refine ab.aP (σ:=Int) 1 1 [] (fun q=>[(1,.pt 0 2 0 0),(3,.v (.int .i64 q))]) [] (fun _=>[(0,.arr 2 [iY ρ ⟨ds,rs⟩] 0 true)]) (fun q=>∃ k:Nat,q=k/\k<=rs.length/\R=(rs.drop k).all Cu) (fun q=>rs.length - q.toNat) 0 ⟨0,rfl,by simp,by simpa using hR⟩ rfl (by exact⟨sq,rfl,⟨.inl ⟨_,rfl,.arr (by exact⟨kq,trivial⟩)⟩,trivial⟩,rfl,rfl,rfl⟩) ?_
 rintro q ⟨k,hi,hk,hp⟩
 clear hR
 refine gq ot ?_
 by_cases au:k < rs.length
 ·obtain⟨x,hx,aQ⟩:=aA au
  have dY:=BN x (aZ hx)
  have h1:=GC (w0:=w0) (ρ:=ρ) x.aT dY.ke fun y hy=>(dY.kx y hy).1
  have h2:=GC (w0:=w0) (ρ:=ρ) x.rem dY.re fun y hy=>(dY.rx y hy).1
  have h3:=uF (w0:=w0) (ρ:=ρ) x.guard 6 dY.g fun y hy=>(dY.gx y hy).1
  have h4:=uF (w0:=w0) (ρ:=ρ) x.body 6 dY.b fun y hy=>(dY.bx y hy).1
  have e1:=dY.ke
  have e2:=dY.re
  have e3:=dY.g
  have e4:=dY.b
  rw [aQ,List.all_cons,Cu] at hp
  obtain⟨x1,fO⟩:∃ b,b=x.aT.all sH:=⟨_,rfl⟩
  obtain⟨x2,ON⟩:∃ b,b=x.rem.all sH:=⟨_,rfl⟩
  obtain⟨x3,l0⟩:∃ b,b=zT x.guard:=⟨_,rfl⟩
  obtain⟨x4,tc⟩:∃ b,b=zT x.body:=⟨_,rfl⟩
  rw [<-fO,<-ON,<-l0,<-tc] at hp
  rw [<-fO] at h1
  rw [<-ON] at h2
  rw [show (decide ((x.guard.length:Int)<=6) && x.guard.all mF)=x3 from l0.symm] at h3
  rw [show (decide ((x.body.length:Int)<=6) && x.body.all mF)=x4 from tc.symm] at h4
  obtain⟨T,hT⟩:∃ T,T=(rs.drop (k+1)).all Cu:=⟨_,rfl⟩
  rw [<-hT] at hp
  clear fO ON l0 tc dY
  obtain⟨n,ke,re,g,b,v⟩:=x
  dsimp only at hp h1 h2 h3 h4 e1 e2 e3 e4
  refine ab.int rfl (ad.len rfl) fun m0 o7=>?_;rw [af] at o7
  refine gq ot ?_
  repeat' (first
   |(refine ab.op rfl (ad.ind rfl rfl (ay (l:=rs) hi hx) (aw fun _=>rfl)) ?_;refine gq ot ?_)
   |(refine ab.bif rfl (ad.ag rfl h1 ⟨fQ _,trivial⟩) (fun _=>?_) (fun _=>?_)<;>refine gq ot ?_)
   |(refine ab.bif rfl (ad.ag rfl h2 ⟨fQ _,trivial⟩) (fun _=>?_) (fun _=>?_)<;>refine gq ot ?_)
   |(refine ab.bif rfl (ad.ag rfl h3 ⟨cV _,.v,trivial⟩) (fun _=>?_) (fun _=>?_)<;>refine gq ot ?_)
   |(refine ab.bif rfl (ad.ag rfl h4 ⟨cV _,.v,trivial⟩) (fun _=>?_) (fun _=>?_)<;>refine gq ot ?_)
   |(refine bq (fun hb=>?_) (fun hb=>?_)<;>(try simp only [aq] at hb)<;>(first|refine gq ot ?_))
   |(refine az fun m hm=>?_;(try rw [af] at hm);refine gq ot ?_)
   |(refine aS fun _ _=>?_;refine gq ot ?_)
   |(refine ab.ao ?_;refine gq ot ?_)
   |(refine ab.bK ?_;refine gq ot ?_)
   |(refine fq ?_))
  all_goals first
   |(exfalso;omega)
   |(refine aI ?_;rw [hp,decide_eq_false (show ¬ ke.length<=3 by omega)];simp;done)
   |(refine aI ?_;rw [hp,decide_eq_false (show ¬ re.length<=3 by omega)];simp;done)
   |(refine aI ?_;rw [hp,decide_eq_false (show ¬ ke.length+re.length<=3 by omega)];simp;done)
   |(refine aI ?_;rw [hp,decide_eq_false (show ¬ g.length<=6 by omega)];simp;done)
   |(refine aI ?_;rw [hp,decide_eq_false (show ¬ b.length<=6 by omega)];simp;done)
   |(refine aI ?_;rw [hp,show x1=false by assumption];simp;done)
   |(refine aI ?_;rw [hp,show x2=false by assumption];simp;done)
   |(refine aI ?_;rw [hp,show x3=false by assumption];simp;done)
   |(refine aI ?_;rw [hp,show x4=false by assumption];simp;done)
   |(rw [decide_eq_true (show ke.length<=3 by omega),decide_eq_true (show re.length<=3 by omega),decide_eq_true (show ke.length+re.length<=3 by omega),decide_eq_true (show g.length<=6 by omega),decide_eq_true (show b.length<=6 by omega),show x1=true by assumption,show x2=true by assumption,show x3=true by assumption,show x4=true by assumption] at hp
     simp only [Bool.true_and] at hp
     rw [hT] at hp
     refine ab.aK (σ:=Int) _ [] ?_ ?_ (by exact⟨sq,rfl,⟨.inl ⟨_,rfl,.arr (by exact⟨kq,trivial⟩)⟩,trivial⟩,rfl,rfl,rfl⟩)<;>first|omega|exact⟨k+1,by omega,by omega,hp⟩)
 rw [List.drop_eq_nil_of_le (by omega),List.all_nil] at hp
 repeat' (first
  |(refine bq (fun hb=>?_) (fun hb=>?_)<;>(try simp only [aq] at hb)<;>(first|refine gq ot ?_))
  |(refine az fun m hm=>?_;(try rw [af] at hm);refine gq ot ?_)
  |(refine ab.ao ?_;refine gq ot ?_)
  |(refine fq ?_))
 all_goals first
  |(exfalso;omega)
  |(rw [hp];exact aI rfl)
end
end
end Go.Proofs.YtgphljokbodciaaGreat
