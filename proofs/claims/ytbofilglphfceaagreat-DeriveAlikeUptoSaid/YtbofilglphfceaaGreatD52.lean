import Derived.Test.YtbofilglphfceaaGreatD51
namespace Go.Proofs.YtbofilglphfceaaGreat
set_option linter.unusedVariables false
set_option linter.unusedSimpArgs false
open Go.RowKit
section
set_option maxRecDepth 100000
attribute [local irreducible] ag aR aa ab
def uB (x:Bd):Bool:=decide (fS x.t<=60)
def sj (x:Fi):Bool:=decide (x.ids.length<=8)
def pe (st:List Im) (b:List Bd) (f:List Fi):Bool:=decide (st.length<=9) && (decide (b.length<=20) && (decide (f.length<=30) && (st.all BT && (b.all uB && f.all sj))))
section
variable {w0:World}{ρ:Hd}
set_option maxHeartbeats 2000000 in
theorem Ih (st:List Im) (b:List Bd) (f:List Fi) (j9:st.length<=1099511627776) (Gr:b.length<=1099511627776) (UB:f.length<=1099511627776) (TS:∀ x ∈ st,x.ok) (jF:∀ x ∈ b,x.ok) (TT:∀ x ∈ f,x.ok):ag Tryz.prog w0 37 [ko ρ st,kp ρ b,jC ρ f] (.v (.bool (pe st b f))):=by
 obtain⟨R,hR⟩:∃ R,R=pe st b f:=⟨_,rfl⟩
 rw [<-hR]
 unfold pe at hR
 refine RV.bc (by simp [Tryz.ntmps37]) (.v) ?_
 refine gq dO ?_
 repeat' (first
  |(refine bq (fun hb=>?_) (fun hb=>?_)<;>(try simp only [aJ] at hb)<;>(first|refine gq dO ?_))
  |(refine aS fun m hm=>?_;(try rw [aq] at hm);refine gq dO ?_)
  |(refine fq ?_))
 all_goals first
  |(rw [hR,decide_eq_false (show ¬ st.length<=9 by omega)];exact aT rfl)
  |(refine aT ?_;rw [hR,decide_eq_false (show ¬ b.length<=20 by omega)];simp;done)
  |(refine aT ?_;rw [hR,decide_eq_false (show ¬ f.length<=30 by omega)];simp;done)
  |skip
 rw [decide_eq_true (show st.length<=9 by omega),decide_eq_true (show b.length<=20 by omega),decide_eq_true (show f.length<=30 by omega)] at hR
 simp only [Bool.true_and] at hR
 obtain⟨T2,KV⟩:∃ T,T=(b.all uB && f.all sj):=⟨_,rfl⟩
 rw [<-KV] at hR
 refine ab.cO (σ:=Int) 0 0 [] (fun q=>[(0,ko ρ st),(1,kp ρ b),(2,jC ρ f),(7,.v (.int .i64 q))]) [] (fun _=>[]) (fun q=>∃ k:Nat,q=k/\k<=st.length/\R=((st.drop k).all BT && T2)) (fun q=>st.length - q.toNat) 0 ⟨0,rfl,by simp,by simpa using hR⟩ rfl cq ?_
 rintro q ⟨k,hi,hk,hp⟩
 clear hR
 refine gq dO ?_
 by_cases au:k < st.length
 ·obtain⟨x,hx,bI⟩:=aU au
  have cC:=TS x (bO hx)
  have hT:=wa (w0:=w0) (ρ:=ρ) x.a cC.1.len cC.1.2
  rw [bI,List.all_cons,BT,Bool.and_assoc] at hp
  obtain⟨B,hB⟩:∃ B,B=la x.a:=⟨_,rfl⟩
  rw [<-hB] at hp hT
  obtain⟨xi,xn,xa⟩:=x
  repeat' (first
   |(refine ab.op rfl (aa.ind rfl rfl (bg (l:=st) hi hx) (ba fun _=>rfl)) ?_;refine gq dO ?_)
   |(refine ab.bif rfl (aa.aB rfl hT ⟨b8 _,trivial⟩) (fun _=>?_) (fun _=>?_)<;>refine gq dO ?_)
   |(refine bq (fun hb=>?_) (fun hb=>?_)<;>(try simp only [aJ] at hb)<;>(first|refine gq dO ?_))
   |(refine aS fun m hm=>?_;(try rw [aq] at hm);refine gq dO ?_)
   |(refine cQ fun _ _=>?_;refine gq dO ?_)
   |(refine ab.aK ?_;refine gq dO ?_)
   |(refine ab.de ?_;refine gq dO ?_)
   |(refine fq ?_))
  all_goals first
   |(exfalso;omega)
   |(rw [hp,show B=false by assumption];exact aT rfl)
   |(rw [show B=true by assumption,Bool.true_and] at hp
     refine ab.cK (σ:=Int) _ [] ?_ ?_ cq<;>first|omega|exact⟨k+1,by omega,by omega,hp⟩)
 rw [List.drop_eq_nil_of_le (by omega),List.all_nil,Bool.true_and,KV] at hp
 clear KV
 repeat' (first
  |(refine bq (fun hb=>?_) (fun hb=>?_)<;>(try simp only [aJ] at hb)<;>(first|refine gq dO ?_))
  |(refine aS fun m hm=>?_;(try rw [aq] at hm);refine gq dO ?_)
  |(refine ab.aK ?_;refine gq dO ?_)
  )
 all_goals first
  |(exfalso;omega)
  |skip
 obtain⟨T3,KW⟩:∃ T,T=f.all sj:=⟨_,rfl⟩
 rw [<-KW] at hp
 refine ab.cO (σ:=Int) 0 0 [] (fun q=>[(1,kp ρ b),(2,jC ρ f),(8,.v (.int .i64 q))]) [] (fun _=>[]) (fun q=>∃ k:Nat,q=k/\k<=b.length/\R=((b.drop k).all uB && T3)) (fun q=>b.length - q.toNat) 0 ⟨0,rfl,by simp,by simpa using hp⟩ rfl cq ?_
 clear hp
 rintro q2 ⟨k2,q8,gS,hp⟩
 refine gq dO ?_
 by_cases qE:k2 < b.length
 ·obtain⟨x,hx,bI⟩:=aU qE
  have cC:=jF x (bO hx)
  have hS:=xB (w0:=w0) (ρ:=ρ) _ x.t (Nat.le_refl _) cC.2
  rw [bI,List.all_cons,uB,Bool.and_assoc] at hp
  obtain⟨z,G8⟩:∃ z,z=fS x.t:=⟨_,rfl⟩
  rw [<-G8] at hp hS
  have iA:=bT (ρ:=ρ) x.t
  clear G8
  obtain⟨xv,xk,xi,xn,xa⟩:=x
  repeat' (first
   |(refine ab.op rfl (aa.ind rfl rfl (bg (l:=b) q8 hx) (ba fun _=>rfl)) ?_;refine gq dO ?_)
   |(refine ab.int rfl (aa.aB rfl hS ⟨iA,trivial⟩) fun _ _=>?_;refine gq dO ?_)
   |(refine bq (fun hb=>?_) (fun hb=>?_)<;>(try simp only [aJ] at hb)<;>(first|refine gq dO ?_))
   |(refine aS fun m hm=>?_;(try rw [aq] at hm);refine gq dO ?_)
   |(refine cQ fun _ _=>?_;refine gq dO ?_)
   |(refine ab.aK ?_;refine gq dO ?_)
   |(refine ab.de ?_;refine gq dO ?_)
   |(refine fq ?_))
  all_goals first
   |(exfalso;omega)
   |(rw [hp,decide_eq_false (show ¬ z<=60 by omega)];exact aT rfl)
   |(rw [decide_eq_true (show z<=60 by omega),Bool.true_and] at hp
     refine ab.cK (σ:=Int) _ [] ?_ ?_ cq<;>first|omega|exact⟨k2+1,by omega,by omega,hp⟩)
 rw [List.drop_eq_nil_of_le (by omega),List.all_nil,Bool.true_and,KW] at hp
 clear KW
 repeat' (first
  |(refine bq (fun hb=>?_) (fun hb=>?_)<;>(try simp only [aJ] at hb)<;>(first|refine gq dO ?_))
  |(refine aS fun m hm=>?_;(try rw [aq] at hm);refine gq dO ?_)
  |(refine ab.aK ?_;refine gq dO ?_)
  )
 all_goals first
  |(exfalso;omega)
  |skip
 refine ab.cO (σ:=Int) 0 0 [] (fun q=>[(2,jC ρ f),(9,.v (.int .i64 q))]) [] (fun _=>[]) (fun q=>∃ k:Nat,q=k/\k<=f.length/\R=(f.drop k).all sj) (fun q=>f.length - q.toNat) 0 ⟨0,rfl,by simp,by simpa using hp⟩ rfl cq ?_
 clear hp
 rintro q3 ⟨k3,TU,UC,hp⟩
 refine gq dO ?_
 by_cases nt:k3 < f.length
 ·obtain⟨x,hx,bI⟩:=aU nt
  have cC:=TT x (bO hx)
  unfold Fi.ok at cC
  rw [bI,List.all_cons,sj] at hp
  obtain⟨xr,ids⟩:=x
  dsimp only at hp cC
  repeat' (first
   |(refine ab.op rfl (aa.ind rfl rfl (bg (l:=f) TU hx) (ba fun _=>rfl)) ?_;refine gq dO ?_)
   |(refine bq (fun hb=>?_) (fun hb=>?_)<;>(try simp only [aJ] at hb)<;>(first|refine gq dO ?_))
   |(refine aS fun m hm=>?_;(try rw [aq] at hm);refine gq dO ?_)
   |(refine cQ fun _ _=>?_;refine gq dO ?_)
   |(refine ab.aK ?_;refine gq dO ?_)
   |(refine ab.de ?_;refine gq dO ?_)
   |(refine fq ?_))
  all_goals first
   |(exfalso;omega)
   |(rw [hp,decide_eq_false (show ¬ ids.length<=8 by omega)];exact aT rfl)
   |(rw [decide_eq_true (show ids.length<=8 by omega),Bool.true_and] at hp
     refine ab.cK (σ:=Int) _ [] ?_ ?_ cq<;>first|omega|exact⟨k3+1,by omega,by omega,hp⟩)
 rw [List.drop_eq_nil_of_le (by omega),List.all_nil] at hp
 repeat' (first
  |(refine bq (fun hb=>?_) (fun hb=>?_)<;>(try simp only [aJ] at hb)<;>(first|refine gq dO ?_))
  |(refine aS fun m hm=>?_;(try rw [aq] at hm);refine gq dO ?_)
  |(refine ab.aK ?_;refine gq dO ?_)
  |(refine fq ?_))
 all_goals first
  |(exfalso;omega)
  |(rw [hp];exact aT rfl)
def lV (p:Pg) (s:eN):Bool:=sh p && ((decide ((s.goals.length:Int)<=10) && s.goals.all j5) && (m4 s.known && pe s.store s.binds s.cn))
theorem yc (p:Pg) (s:eN) (Hy:Kd p) (hs:jE s):ag Tryz.prog w0 8 [pg ρ p,l8 ρ s] (.v (.bool (lV p s))):=by
 have h1:=BV (w0:=w0) (ρ:=ρ) p Hy
 have h2:=nN (w0:=w0) (ρ:=ρ) s.goals 10 hs.gl fun y hy=>(hs.gx y hy).1
 have h3:=nN (w0:=w0) (ρ:=ρ) s.known 6 hs.kl fun y hy=>(hs.kx y hy).1
 have h4:=Ih (w0:=w0) (ρ:=ρ) s.store s.binds s.cn hs.st hs.bl hs.fl hs.sx hs.bx hs.fx
 have wu:=mN (ρ:=ρ) p
 obtain⟨R,hR⟩:∃ R,R=lV p s:=⟨_,rfl⟩
 rw [<-hR]
 unfold lV m4 at hR
 obtain⟨x1,dR⟩:∃ b,b=sh p:=⟨_,rfl⟩
 obtain⟨x2,bI⟩:∃ b,b=(decide ((s.goals.length:Int)<=10) && s.goals.all j5):=⟨_,rfl⟩
 obtain⟨x3,wo⟩:∃ b,b=(decide ((s.known.length:Int)<=6) && s.known.all j5):=⟨_,rfl⟩
 obtain⟨x4,wq⟩:∃ b,b=pe s.store s.binds s.cn:=⟨_,rfl⟩
 rw [<-dR,<-bI,<-wo,<-wq] at hR
 rw [<-dR] at h1
 rw [<-bI] at h2
 rw [<-wo] at h3
 rw [<-wq] at h4
 clear dR bI wo wq hs Hy
 obtain⟨ds,rs⟩:=p
 obtain⟨goals,store,binds,cn,known,next,fresh,failed⟩:=s
 dsimp only at h2 h3 h4
 refine TR.bc (by simp [Tryz.ntmps8]) (.v) ?_
 refine gq g8 ?_
 repeat' (first
  |(refine ab.bif rfl (aa.aB rfl h1 ⟨wu,trivial⟩) (fun _=>?_) (fun _=>?_)<;>refine gq g8 ?_)
  |(refine ab.bif rfl (aa.aB rfl h2 ⟨bW _,.v,trivial⟩) (fun _=>?_) (fun _=>?_)<;>refine gq g8 ?_)
  |(refine ab.bif rfl (aa.aB rfl h3 ⟨bW _,.v,trivial⟩) (fun _=>?_) (fun _=>?_)<;>refine gq g8 ?_)
  |(refine ab.bif rfl (aa.aB rfl h4 ⟨cX _,cY _,cZ _,trivial⟩) (fun _=>?_) (fun _=>?_)<;>refine gq g8 ?_)
  |(refine fq ?_))
 all_goals first
  |(refine aT ?_;rw [hR,show x1=false by assumption];rfl)
  |(refine aT ?_;rw [hR,show x2=false by assumption];simp;done)
  |(refine aT ?_;rw [hR,show x3=false by assumption];simp;done)
  |(refine aT ?_;rw [hR,show x4=false by assumption];simp;done)
  |(refine aT ?_;rw [hR,show x1=true by assumption,show x2=true by assumption,show x3=true by assumption,show x4=true by assumption];rfl)
end
end
end Go.Proofs.YtbofilglphfceaaGreat
