import Derived.Test.YtgphljokbodciaaGreatProg
import Derived.Test.YtgphljokbodciaaGreatS38
namespace Go.Proofs.YtgphljokbodciaaGreat
set_option linter.unusedVariables false
set_option linter.unusedSimpArgs false
open Go.RowKit
section
set_option maxRecDepth 100000
mutual
def mT:Tm->Nat
 |⟨k,i,n,a⟩=>n.size+mu a+5
def mu:List Tm->Nat
 |[]=>0
 |x::l=>mT x+mu l
end
theorem iC:∀ l,cJ mT l=mu l
 |[]=>by rw [mu];rfl
 |x::l=>by rw [mu,cJ,iC l]
theorem Ee {α:Type}:∀ l:List α,cJ (fun _=>1) l=l.length
 |[]=>rfl
 |x::l=>by rw [cJ,Ee l,List.length_cons];omega
def kL (x:At):Nat:=x.n.size+mu x.a+3
def lK (x:Gl):Nat:=x.n.size+mu x.a+4
def BO (x:Im):Nat:=x.n.size+mu x.a+5
def BP (x:Bd):Nat:=mT x.t+2
def BQ (x:Fi):Nat:=x.ids.length+3
def BR (x:Dc):Nat:=x.n.size+3
def sy (x:Rl):Nat:=x.n.size+cJ kL x.aT+cJ kL x.rem+cJ lK x.guard+cJ lK x.body+7
def Ef (x:Pg):Nat:=cJ BR x.ds+cJ sy x.rs+3
theorem RQ:∀ n,bE Tryz.prog n 106 4 mf mT:=by
 intro n
 induction n with
 |zero=>intro H enc w sp held m hm;omega
 |succ n ih =>
  intro H enc w sp held m hm cs d hl h
  obtain⟨k,xs,rfl,hx,hd,hf⟩:=bE.fields Tryz.underlying106 h
  have hb:=eT (xs:=xs)
  rw [hx] at hb
  obtain⟨x0,b0,_,h0⟩:=bE.part (i:=0) (n:=k+1) (bE.int Tryz.underlying3) (by omega) (by kernel_rfl) (by omega) (hf 0 3 0 rfl)
  obtain⟨x1,b1,_,h1⟩:=bE.part (i:=1) (n:=k+1) (bE.int Tryz.underlying3) (by omega) (by kernel_rfl) (by omega) (hf 1 3 1 rfl)
  obtain⟨x2,b2,_,h2⟩:=bE.part (i:=2) (n:=k+1) (bE.str Tryz.underlying9) (by omega) (by kernel_rfl) (by omega) (hf 2 9 2 rfl)
  obtain⟨x3,b3,_,h3⟩:=bE.part (i:=3) (bE.slice Tryz.underlying104 (by kernel_rfl) (by decide) ih) (by omega) (by kernel_rfl) (by omega) (hf 3 104 3 rfl)
  refine⟨⟨x0,x1,x2,x3⟩,?_,by rw [rY (ρ:=.plain)];rfl,fun j a v ha hv=>?_⟩
  ·rw [hd,<-hb,mT]
   rw [iC] at b3
   simp only [List.size_toArray,List.length_cons,List.length_nil,ij,Nat.reduceAdd] at *
   omega
  ·rw [rY (ρ:=.plain)] at ha
   match j with
   |0=>exact h0 0 a v ha hv
   |1=>exact h1 0 a v ha hv
   |2=>exact h2 0 a v ha hv
   |3=>exact h3 0 a v ha hv
   |j+4=>cases ha
theorem RR (n:Nat):bE Tryz.prog n 104 1 (fun l=>[tl .plain l]) (fun l=>mu l+1):=by
 have h:=(bE.slice Tryz.underlying104 (by kernel_rfl) (by decide) (RQ n)).less (Nat.le_succ n)
 simp only [iC] at h
 exact h
theorem Un (n:Nat):bE Tryz.prog n 41 1 (fun l=>[bY .plain bJ false l]) (fun l=>l.length+1):=by
 have h:=(bE.slice Tryz.underlying41 (by kernel_rfl) (by decide) (bE.int (n:=n) Tryz.underlying3)).less (Nat.le_succ n)
 simp only [Ee] at h
 exact h
theorem RS (n:Nat):bE Tryz.prog n 110 2 (atR .plain) kL:=by
 intro H enc w sp held m hm cs d hl h
 obtain⟨k,xs,rfl,hx,hd,hf⟩:=bE.fields Tryz.underlying110 h
 have hb:=eT (xs:=xs)
 rw [hx] at hb
 obtain⟨x0,b0,_,h0⟩:=bE.part (i:=0) (n:=k+1) (bE.str Tryz.underlying9) (by omega) (by kernel_rfl) (by omega) (hf 0 9 0 rfl)
 obtain⟨x1,b1,_,h1⟩:=bE.part (i:=1) (n:=k+1) (RR (k+1)) (by omega) (by kernel_rfl) (by omega) (hf 1 104 1 rfl)
 refine⟨⟨x0,x1⟩,?_,rfl,fun j a v ha hv=>?_⟩
 ·rw [hd,<-hb]
  simp only [List.size_toArray,List.length_cons,List.length_nil,ij,Nat.reduceAdd,kL,kL] at *
  omega
 ·match j with
  |0=>exact h0 0 a v ha hv
  |1=>exact h1 0 a v ha hv
  |j+2=>cases ha
theorem LM (n:Nat):bE Tryz.prog n 96 1 (fun l=>[eK .plain l]) (fun l=>cJ kL l+1):=(bE.slice Tryz.underlying96 (by kernel_rfl) (by decide) (RS n)).less (Nat.le_succ n)
theorem RT (n:Nat):bE Tryz.prog n 112 3 (CJ .plain) lK:=by
 intro H enc w sp held m hm cs d hl h
 obtain⟨k,xs,rfl,hx,hd,hf⟩:=bE.fields Tryz.underlying112 h
 have hb:=eT (xs:=xs)
 rw [hx] at hb
 obtain⟨x0,b0,_,h0⟩:=bE.part (i:=0) (n:=k+1) (bE.int Tryz.underlying3) (by omega) (by kernel_rfl) (by omega) (hf 0 3 0 rfl)
 obtain⟨x1,b1,_,h1⟩:=bE.part (i:=1) (n:=k+1) (bE.str Tryz.underlying9) (by omega) (by kernel_rfl) (by omega) (hf 1 9 1 rfl)
 obtain⟨x2,b2,_,h2⟩:=bE.part (i:=2) (n:=k+1) (RR (k+1)) (by omega) (by kernel_rfl) (by omega) (hf 2 104 2 rfl)
 refine⟨⟨x0,x1,x2⟩,?_,rfl,fun j a v ha hv=>?_⟩
 ·rw [hd,<-hb]
  simp only [List.size_toArray,List.length_cons,List.length_nil,ij,Nat.reduceAdd,lK,kL] at *
  omega
 ·match j with
  |0=>exact h0 0 a v ha hv
  |1=>exact h1 0 a v ha hv
  |2=>exact h2 0 a v ha hv
  |j+3=>cases ha
theorem Eg (n:Nat):bE Tryz.prog n 34 1 (fun l=>[dC .plain l]) (fun l=>cJ lK l+1):=(bE.slice Tryz.underlying34 (by kernel_rfl) (by decide) (RT n)).less (Nat.le_succ n)
theorem acW (n:Nat):bE Tryz.prog n 115 3 (O4 .plain) BO:=by
 intro H enc w sp held m hm cs d hl h
 obtain⟨k,xs,rfl,hx,hd,hf⟩:=bE.fields Tryz.underlying115 h
 have hb:=eT (xs:=xs)
 rw [hx] at hb
 obtain⟨x0,b0,_,h0⟩:=bE.part (i:=0) (n:=k+1) (bE.int Tryz.underlying3) (by omega) (by kernel_rfl) (by omega) (hf 0 3 0 rfl)
 obtain⟨x1,b1,_,h1⟩:=bE.part (i:=1) (n:=k+1) (RS (k+1)) (by omega) (by kernel_rfl) (by omega) (hf 1 110 1 rfl)
 refine⟨⟨x0,x1.n,x1.a⟩,?_,rfl,fun j a v ha hv=>?_⟩
 ·rw [hd,<-hb]
  simp only [List.size_toArray,List.length_cons,List.length_nil,ij,Nat.reduceAdd,BO,kL] at *
  omega
 ·match j with
  |0=>exact h0 0 a v ha hv
  |1=>exact h1 0 a v ha hv
  |2=>exact h1 1 a v ha hv
  |j+3=>cases ha
theorem W_ (n:Nat):bE Tryz.prog n 35 1 (fun l=>[fN .plain l]) (fun l=>cJ BO l+1):=(bE.slice Tryz.underlying35 (by kernel_rfl) (by decide) (acW n)).less (Nat.le_succ n)
theorem acX (n:Nat):bE Tryz.prog n 193 5 (Kw .plain) BP:=by
 intro H enc w sp held m hm cs d hl h
 obtain⟨k,xs,rfl,hx,hd,hf⟩:=bE.fields Tryz.underlying193 h
 have hb:=eT (xs:=xs)
 rw [hx] at hb
 obtain⟨x0,b0,_,h0⟩:=bE.part (i:=0) (n:=k+1) (bE.int Tryz.underlying3) (by omega) (by kernel_rfl) (by omega) (hf 0 3 0 rfl)
 obtain⟨x1,b1,_,h1⟩:=bE.part (i:=1) (n:=k+1) (RQ (k+1)) (by omega) (by kernel_rfl) (by omega) (hf 1 106 1 rfl)
 refine⟨⟨x0,x1⟩,?_,rfl,fun j a v ha hv=>?_⟩
 ·rw [hd,<-hb]
  simp only [List.size_toArray,List.length_cons,List.length_nil,ij,Nat.reduceAdd,BP,kL] at *
  omega
 ·have e:mf x1=w5 .plain x1:=rY x1
  rw [e] at h1
  match j with
  |0=>exact h0 0 a v ha hv
  |1=>exact h1 0 a v ha hv
  |2=>exact h1 1 a v ha hv
  |3=>exact h1 2 a v ha hv
  |4=>exact h1 3 a v ha hv
  |j+5=>cases ha
theorem Xa (n:Nat):bE Tryz.prog n 37 1 (fun l=>[eL .plain l]) (fun l=>cJ BP l+1):=(bE.slice Tryz.underlying37 (by kernel_rfl) (by decide) (acX n)).less (Nat.le_succ n)
theorem acY (n:Nat):bE Tryz.prog n 203 2 (A8 .plain) BQ:=by
 intro H enc w sp held m hm cs d hl h
 obtain⟨k,xs,rfl,hx,hd,hf⟩:=bE.fields Tryz.underlying203 h
 have hb:=eT (xs:=xs)
 rw [hx] at hb
 obtain⟨x0,b0,_,h0⟩:=bE.part (i:=0) (n:=k+1) (bE.int Tryz.underlying3) (by omega) (by kernel_rfl) (by omega) (hf 0 3 0 rfl)
 obtain⟨x1,b1,_,h1⟩:=bE.part (i:=1) (n:=k+1) (Un (k+1)) (by omega) (by kernel_rfl) (by omega) (hf 1 41 1 rfl)
 refine⟨⟨x0,x1⟩,?_,rfl,fun j a v ha hv=>?_⟩
 ·rw [hd,<-hb]
  simp only [List.size_toArray,List.length_cons,List.length_nil,ij,Nat.reduceAdd,BQ,kL] at *
  omega
 ·match j with
  |0=>exact h0 0 a v ha hv
  |1=>exact h1 0 a v ha hv
  |j+2=>cases ha
theorem Xb (n:Nat):bE Tryz.prog n 38 1 (fun l=>[gW .plain l]) (fun l=>cJ BQ l+1):=(bE.slice Tryz.underlying38 (by kernel_rfl) (by decide) (acY n)).less (Nat.le_succ n)
theorem acZ (n:Nat):bE Tryz.prog n 108 2 (Kx) BR:=by
 intro H enc w sp held m hm cs d hl h
 obtain⟨k,xs,rfl,hx,hd,hf⟩:=bE.fields Tryz.underlying108 h
 have hb:=eT (xs:=xs)
 rw [hx] at hb
 obtain⟨x0,b0,_,h0⟩:=bE.part (i:=0) (n:=k+1) (bE.str Tryz.underlying9) (by omega) (by kernel_rfl) (by omega) (hf 0 9 0 rfl)
 obtain⟨x1,b1,_,h1⟩:=bE.part (i:=1) (n:=k+1) (bE.int Tryz.underlying3) (by omega) (by kernel_rfl) (by omega) (hf 1 3 1 rfl)
 refine⟨⟨x0,x1⟩,?_,rfl,fun j a v ha hv=>?_⟩
 ·rw [hd,<-hb]
  simp only [List.size_toArray,List.length_cons,List.length_nil,ij,Nat.reduceAdd,BR,kL] at *
  omega
 ·match j with
  |0=>exact h0 0 a v ha hv
  |1=>exact h1 0 a v ha hv
  |j+2=>cases ha
theorem Xc (n:Nat):bE Tryz.prog n 22 1 (fun l=>[dP .plain l]) (fun l=>cJ BR l+1):=(bE.slice Tryz.underlying22 (by kernel_rfl) (by decide) (acZ n)).less (Nat.le_succ n)
theorem ac0 (n:Nat):bE Tryz.prog n 98 6 (fW .plain) sy:=by
 intro H enc w sp held m hm cs d hl h
 obtain⟨k,xs,rfl,hx,hd,hf⟩:=bE.fields Tryz.underlying98 h
 have hb:=eT (xs:=xs)
 rw [hx] at hb
 obtain⟨x0,b0,_,h0⟩:=bE.part (i:=0) (n:=k+1) (bE.str Tryz.underlying9) (by omega) (by kernel_rfl) (by omega) (hf 0 9 0 rfl)
 obtain⟨x1,b1,_,h1⟩:=bE.part (i:=1) (n:=k+1) (LM (k+1)) (by omega) (by kernel_rfl) (by omega) (hf 1 96 1 rfl)
 obtain⟨x2,b2,_,h2⟩:=bE.part (i:=2) (n:=k+1) (LM (k+1)) (by omega) (by kernel_rfl) (by omega) (hf 2 96 2 rfl)
 obtain⟨x3,b3,_,h3⟩:=bE.part (i:=3) (n:=k+1) (Eg (k+1)) (by omega) (by kernel_rfl) (by omega) (hf 3 34 3 rfl)
 obtain⟨x4,b4,_,h4⟩:=bE.part (i:=4) (n:=k+1) (Eg (k+1)) (by omega) (by kernel_rfl) (by omega) (hf 4 34 4 rfl)
 obtain⟨x5,b5,_,h5⟩:=bE.part (i:=5) (n:=k+1) (bE.int Tryz.underlying3) (by omega) (by kernel_rfl) (by omega) (hf 5 3 5 rfl)
 refine⟨⟨x0,x1,x2,x3,x4,x5⟩,?_,rfl,fun j a v ha hv=>?_⟩
 ·rw [hd,<-hb]
  simp only [List.size_toArray,List.length_cons,List.length_nil,ij,Nat.reduceAdd,sy,kL] at *
  omega
 ·match j with
  |0=>exact h0 0 a v ha hv
  |1=>exact h1 0 a v ha hv
  |2=>exact h2 0 a v ha hv
  |3=>exact h3 0 a v ha hv
  |4=>exact h4 0 a v ha hv
  |5=>exact h5 0 a v ha hv
  |j+6=>cases ha
theorem Xd (n:Nat):bE Tryz.prog n 23 1 (fun l=>[Fs .plain l]) (fun l=>cJ sy l+1):=(bE.slice Tryz.underlying23 (by kernel_rfl) (by decide) (ac0 n)).less (Nat.le_succ n)
theorem ac1 (n:Nat):bE Tryz.prog n 25 2 (iY .plain) Ef:=by
 intro H enc w sp held m hm cs d hl h
 obtain⟨k,xs,rfl,hx,hd,hf⟩:=bE.fields Tryz.underlying25 h
 have hb:=eT (xs:=xs)
 rw [hx] at hb
 obtain⟨x0,b0,_,h0⟩:=bE.part (i:=0) (n:=k+1) (Xc (k+1)) (by omega) (by kernel_rfl) (by omega) (hf 0 22 0 rfl)
 obtain⟨x1,b1,_,h1⟩:=bE.part (i:=1) (n:=k+1) (Xd (k+1)) (by omega) (by kernel_rfl) (by omega) (hf 1 23 1 rfl)
 refine⟨⟨x0,x1⟩,?_,rfl,fun j a v ha hv=>?_⟩
 ·rw [hd,<-hb]
  simp only [List.size_toArray,List.length_cons,List.length_nil,ij,Nat.reduceAdd,Ef,kL] at *
  omega
 ·match j with
  |0=>exact h0 0 a v ha hv
  |1=>exact h1 0 a v ha hv
  |j+2=>cases ha
theorem ur {P:Program}{w:World}{r:Reach}{b0:Nat}{t:TypeId}{v:Value}{fs:Array Field}(ht:P.underlying t=some (.struct fs)) (h:Value.okWide P w r b0 t v):∃ cs,v=.agg cs/\cs.size=P.cellsOf t:=by
 unfold Value.okWide at h
 rw [ht] at h
 obtain⟨cs,e,hs,_⟩:=h
 exact⟨cs,e,hs⟩
section
variable {w:World}{r:Reach}{b0:Nat}{v:Value}{H:Type}{enc:TypeId × Value->H}{sp:Nat->Bool}{held:Bool}{d:DataW H}{ps:List MemPlace}
theorem Xe (pE:Value.okWide Tryz.prog w r b0 25 v) (h:DataW.Trod enc Tryz.prog w 0 sp held 25 v d ps):∃ x:Pg,Ef x<=Rows.uptoBulk d/\aL (g0 w) w (pg .plain x) v:=by
 obtain⟨fuel,hf⟩:=h
 obtain⟨cs,rfl,bI⟩:=ur Tryz.underlying25 pE
 have hs:cs.size=2:=bI.trans (by kernel_rfl)
 obtain⟨x,h1,_,h2⟩:=ac1 (fuel+1) H enc w sp held fuel (by omega) _ _ (by rw [Array.length_toList];exact hs) hf
 refine⟨x,h1,.agg (by rw [hs];rfl) fun i a y ha hy=>h2 i a y ha ?_⟩
 rw [<-hy]
 exact Array.getElem?_toList
end
end
section
set_option maxRecDepth 100000
attribute [local irreducible] ah aV ad ab
def RU:CF Tryz.f304:=⟨_,by conv=>lhs;cbv⟩
theorem ac2:aD Tryz.prog 304 RU.1 Tryz.f304.ntmps:=aO Tryz.func304 RU.2 Tryz.call304
def cB:List Nat:=[3,6,9,5,10,12,14,0,7,8,13,4,1,20,37,44,50,69,74,83,90,102,11,111]
theorem Oa (ds:List Dc) (n:ByteArray) (a:Int):lf ds n a=if dU ds n a=true then 0 else if ds.any (named n)=true then 9 else 7:=by
 unfold lf
 by_cases h:dU ds n a=true
 ·have h2:ds.any (named n)=true:=by
   unfold dU at h
   rw [List.any_eq_true] at h ⊢
   obtain⟨d,hd,h⟩:=h
   rw [Bool.and_eq_true] at h
   exact⟨d,hd,h.1⟩
  rw [if_pos h2,if_pos h,if_pos h]
 ·rw [if_neg h,if_neg h]
section
variable {w0:World}{ρ:Hd}
theorem BS (ds:List Dc) (n:ByteArray) (a:Int) (hd:ds.length<=1099511627776):ah Tryz.prog w0 399 [dP ρ ds,.v (.string n),iv a] (iv (lf ds n a)):=by
 have h2:=pY (w0:=w0) (ρ:=ρ) ds n a hd
 rw [Oa]
 obtain⟨b2,e2⟩:∃ b,b=dU ds n a:=⟨_,rfl⟩
 rw [<-e2] at h2 ⊢
 clear e2
 obtain⟨b1,e1⟩:∃ b,b=ds.any (named n):=⟨_,rfl⟩
 rw [<-e1]
 refine acQ.aH (by simp [Tryz.ntmps399]) (.v) ?_
 refine gq mN ?_
 refine ab.aP (σ:=Int × Int) 0 0 [] (fun p=>[(0,dP ρ ds),(1,.v (.string n)),(2,.v (.int .i64 a)),(7,.v (.int .i64 p.2)),(8,.v (.int .i64 p.1))]) [] (fun _=>[])
  (fun p=>∃ k:Nat,p.1=k/\k<=ds.length/\p.2=if (ds.take k).any (named n)=true then 9 else 7) (fun p=>ds.length - p.1.toNat) (0,7) ⟨0,rfl,by simp,rfl⟩ rfl cq ?_
 rintro⟨i,c⟩ ⟨k,hi,hk,hp⟩
 simp only at hi hp
 refine gq mN ?_
 by_cases au:k < ds.length
 ·obtain⟨x,hx,aQ⟩:=aA au
  have ht:(ds.take (k+1)).any (named n)=((ds.take k).any (named n) || named n x):=by rw [List.take_add_one,hx];simp
  obtain⟨xn,xa⟩:=x
  obtain⟨P,hP⟩:∃ P,P=(ds.take k).any (named n):=⟨_,rfl⟩
  rw [<-hP] at hp ht
  repeat' (first
   |(refine ab.op rfl (ad.ind rfl rfl (ay (l:=ds) hi hx) (aw fun _=>rfl)) ?_;refine gq mN ?_)
   |(refine ab.bif rfl (ad.bit rfl) (fun hs=>?_) (fun hs=>?_)<;>refine gq mN ?_)
   |(refine az fun m hm=>?_;(try rw [af] at hm);refine gq mN ?_)
   |(refine aS fun _ _=>?_;refine gq mN ?_)
   |(refine ab.ao ?_;refine gq mN ?_)
   )
  all_goals first
   |(exfalso;simp only [decide_eq_true_eq,decide_eq_false_iff_not] at *;omega)
   |(refine ab.aK (σ:=Int × Int) (_,_) [] ?_ ?_ cq
     ·refine⟨k+1,by simp only;omega,by omega,?_⟩
      simp only
      rw [ht]
      first
       |(rw [show named n ⟨xn,xa⟩=true from hs,Bool.or_true];rfl)
       |(rw [show named n ⟨xn,xa⟩=false from hs,Bool.or_false];exact hp)
     ·simp only;omega)
 rw [List.take_of_length_le (by omega),<-e1] at hp
 cases b2
 ·skip
  repeat' (first
   |(refine ab.op rfl (ad.ag rfl h2 ⟨cg _,.v,.v,trivial⟩) ?_;refine gq mN ?_)
   |(refine bq (fun hb=>?_) (fun hb=>?_)<;>(try simp only [aq] at hb)<;>(first|refine gq mN ?_))
   |(refine az fun m hm=>?_;(try rw [af] at hm);refine gq mN ?_)
   |(refine ab.ao ?_;refine gq mN ?_)
   |(refine fq ?_))
  all_goals first
   |(exfalso;omega)
   |(rw [hp];exact aX.of_eq rfl)
 ·skip
  repeat' (first
   |(refine ab.op rfl (ad.ag rfl h2 ⟨cg _,.v,.v,trivial⟩) ?_;refine gq mN ?_)
   |(refine bq (fun hb=>?_) (fun hb=>?_)<;>(try simp only [aq] at hb)<;>(first|refine gq mN ?_))
   |(refine az fun m hm=>?_;(try rw [af] at hm);refine gq mN ?_)
   |(refine ab.ao ?_;refine gq mN ?_)
   |(refine fq ?_))
  all_goals first
   |(exfalso;omega)
   |exact aX.of_eq rfl
theorem Uo (ds:List Dc) (l:List Gl) (hd:ds.length<=1099511627776) (hl:l.length<=1099511627776) (hz:∀ g ∈ l,g.a.length<=1099511627776):ah Tryz.prog w0 400 [dP ρ ds,dC ρ l] (iv (gE ds l)):=by
 obtain⟨R,hR⟩:∃ R,R=gE ds l:=⟨_,rfl⟩
 rw [<-hR]
 refine acR.aH (by simp [Tryz.ntmps400]) (.v) ?_
 refine gq oL ?_
 refine ab.aP (σ:=Int) 0 0 [] (fun i=>[(0,dP ρ ds),(1,dC ρ l),(5,.v (.int .i64 i))]) [] (fun _=>[]) (fun i=>∃ k:Nat,i=k/\k<=l.length/\R=gE ds (l.drop k)) (fun i=>l.length - i.toNat) 0 ⟨0,rfl,by simp,by simpa using hR⟩ rfl cq ?_
 rintro i ⟨k,hi,hk,hp⟩
 clear hR
 refine gq oL ?_
 by_cases au:k < l.length
 ·obtain⟨x,hx,aQ⟩:=aA au
  rw [aQ,gE] at hp
  have l0:=hz x (List.mem_of_getElem? hx)
  obtain⟨o,n,a⟩:=x
  dsimp only at l0
  have hD:=BS (w0:=w0) (ρ:=ρ) ds n a.length hd
  have hC:mD ds ⟨o,n,a⟩=if o=0 then lf ds n a.length else 0:=rfl
  obtain⟨D,Lm⟩:∃ D,D=lf ds n a.length:=⟨_,rfl⟩
  rw [<-Lm] at hC hD
  obtain⟨C,xl⟩:∃ C,C=mD ds ⟨o,n,a⟩:=⟨_,rfl⟩
  rw [<-xl] at hC hp
  obtain⟨q,hq⟩:∃ q:Int,q=a.length:=⟨_,rfl⟩
  rw [<-hq] at hD
  clear Lm xl
  refine ab.int rfl (ad.len rfl) fun m0 o7=>?_;rw [af] at o7
  refine gq oL ?_
  repeat' (first
   |(refine ab.op rfl (ad.ind rfl rfl (ay (l:=l) hi hx) (aw fun _=>rfl)) ?_;refine gq oL ?_)
   |(refine ab.int rfl (ad.len rfl) fun m hm=>?_;rw [af] at hm;obtain rfl:m=q:=(by omega);refine gq oL ?_)
   |((refine ab.int rfl (ad.ag rfl hD ⟨cg _,.v,.v,trivial⟩) fun d ey=>?_;refine gq oL ?_))
   |(refine bq (fun hb=>?_) (fun hb=>?_)<;>(try simp only [aq] at hb)<;>(first|refine gq oL ?_))
   |(refine aS fun _ _=>?_;refine gq oL ?_)
   |(refine ab.ao ?_;refine gq oL ?_)
   |(refine ab.bK ?_;refine gq oL ?_)
   |(refine fq ?_))
  all_goals first
   |(exfalso;omega)
   |(have e:C=0:=by (rw [hC];split<;>omega)
     rw [bw e] at hp;(refine ab.aK (σ:=Int) _ [] ?_ ?_ cq<;>first|omega|exact⟨k+1,by omega,by omega,hp⟩))
   |(have e:C=D:=by (rw [hC];split<;>omega)
     rw [cI (by omega)] at hp;refine dK ?_;omega)
 ·skip
  repeat' (first
   |(refine bq (fun hb=>?_) (fun hb=>?_)<;>(try simp only [aq] at hb)<;>(first|refine gq oL ?_))
   |(refine az fun m hm=>?_;(try rw [af] at hm);refine gq oL ?_)
   |(refine ab.ao ?_;refine gq oL ?_)
   |(refine fq ?_))
  all_goals first
   |(exfalso;omega)
   |(rw [hp,List.drop_eq_nil_of_le (by omega)];exact dK rfl)
end
end
section
set_option maxRecDepth 100000
attribute [local irreducible] ah aV ad ab
def RV:CF Tryz.f267:=⟨_,by conv=>lhs;cbv⟩
theorem ac3:aD Tryz.prog 267 RV.1 Tryz.f267.ntmps:=aO Tryz.func267 RV.2 Tryz.call267
def Od:List Nat:=[2,3,4,0,1]
def RW:CF Tryz.f270:=⟨_,by conv=>lhs;cbv⟩
theorem ac4:aD Tryz.prog 270 RW.1 Tryz.f270.ntmps:=aO Tryz.func270 RW.2 Tryz.call270
def Oe:List Nat:=[2,3,4,0,1]
def RX:CF Tryz.f273:=⟨_,by conv=>lhs;cbv⟩
theorem ac5:aD Tryz.prog 273 RX.1 Tryz.f273.ntmps:=aO Tryz.func273 RX.2 Tryz.call273
def Of:List Nat:=[4,0,1,2,3]
def RY:CF Tryz.f142:=⟨_,by conv=>lhs;cbv⟩
theorem ac6:aD Tryz.prog 142 RY.1 Tryz.f142.ntmps:=aO Tryz.func142 RY.2 Tryz.call142
def Xf:List Nat:=[4,0,1]
def RZ:CF Tryz.f143:=⟨_,by conv=>lhs;cbv⟩
theorem ac7:aD Tryz.prog 143 RZ.1 Tryz.f143.ntmps:=aO Tryz.func143 RZ.2 Tryz.call143
def Xg:List Nat:=[4,0,1]
def R0:CF Tryz.f144:=⟨_,by conv=>lhs;cbv⟩
theorem ac8:aD Tryz.prog 144 R0.1 Tryz.f144.ntmps:=aO Tryz.func144 R0.2 Tryz.call144
def Xh:List Nat:=[4,0,1]
def oM (x y:Im):Bool:=x.id == y.id && sM ⟨x.n,x.a⟩ ⟨y.n,y.a⟩ == 0
def oN (x y:Bd):Bool:=x.v == y.v && fR x.t y.t == 0
def oO (x y:Fi):Bool:=mJ x y == 0
theorem Cs {g:FuncId}:Wk (.v (.func (.func g) #[] #[])) (.fn (.func g) [] []):=fun gg w x h=>by
 have e:=cd h
 subst e
 exact .fn rfl rfl (fun i a y h=>by simp at h) (fun i a y h=>by simp at h)
section
variable {w0:World}{ρ:Hd}
theorem Xi (x y:Im) (hx:x.ok) (hy:y.ok):ah Tryz.prog w0 267 [it ρ x,it ρ y] (.v (.bool (oM x y))):=by
 have hA:=Ts (w0:=w0) (ρ:=ρ) ⟨x.n,x.a⟩ ⟨y.n,y.a⟩ ⟨hx.1.len,hx.1.1⟩ ⟨hy.1.len,hy.1.1⟩
 have jb:=cX (ρ:=ρ) ⟨x.n,x.a⟩
 have hyp:=cX (ρ:=ρ) ⟨y.n,y.a⟩
 unfold oM
 obtain⟨B,hB⟩:∃ b,b=(sM ⟨x.n,x.a⟩ ⟨y.n,y.a⟩ == 0):=⟨_,rfl⟩
 rw [<-hB] at hA ⊢
 clear hB
 obtain⟨xi,xn,xa⟩:=x
 obtain⟨yi,yn,ya⟩:=y
 refine ac3.aH (by simp [Tryz.ntmps267]) (.v) ?_
 refine gq Od ?_
 repeat' (first
  |(refine ab.bif rfl (ad.ag rfl hA ⟨jb,hyp,trivial⟩) (fun _=>?_) (fun _=>?_)<;>refine gq Od ?_)
  |(refine bq (fun hb=>?_) (fun hb=>?_)<;>(try simp only [aq] at hb)<;>(first|refine gq Od ?_))
  |(refine fq ?_))
 all_goals first
  |(refine aI ?_;rw [show B=true by assumption,show (xi == yi)=true from beq_iff_eq.2 (by omega)];rfl)
  |(refine aI ?_;rw [show B=false by assumption];simp;done)
  |(refine aI ?_;rw [show (xi == yi)=false from beq_eq_false_iff_ne.2 (by omega)];rfl)
theorem Xj (x y:Bd) (hx:x.ok) (hy:y.ok):ah Tryz.prog w0 270 [bd ρ x,bd ρ y] (.v (.bool (oN x y))):=by
 have hA:=U0 (w0:=w0) (ρ:=ρ) x.t y.t hx.1 hy.1
 unfold oN
 obtain⟨B,hB⟩:∃ b,b=(fR x.t y.t == 0):=⟨_,rfl⟩
 rw [<-hB] at hA ⊢
 clear hB
 obtain⟨xv,xk,xi,xn,xa⟩:=x
 obtain⟨yv,yk,yi,yn,ya⟩:=y
 refine ac4.aH (by simp [Tryz.ntmps270]) (.v) ?_
 refine gq Oe ?_
 repeat' (first
  |(refine ab.bif rfl (ad.ag rfl hA ⟨bf (ρ:=ρ) ⟨xk,xi,xn,xa⟩,bf (ρ:=ρ) ⟨yk,yi,yn,ya⟩,trivial⟩) (fun _=>?_) (fun _=>?_)<;>refine gq Oe ?_)
  |(refine bq (fun hb=>?_) (fun hb=>?_)<;>(try simp only [aq] at hb)<;>(first|refine gq Oe ?_))
  |(refine fq ?_))
 all_goals first
  |(refine aI ?_;rw [show B=true by assumption,show (xv == yv)=true from beq_iff_eq.2 (by omega)];rfl)
  |(refine aI ?_;rw [show B=false by assumption];simp;done)
  |(refine aI ?_;rw [show (xv == yv)=false from beq_eq_false_iff_ne.2 (by omega)];rfl)
theorem Xk (x y:Fi) (hx:x.ok) (hy:y.ok):ah Tryz.prog w0 273 [fi ρ x,fi ρ y] (.v (.bool (oO x y))):=by
 have hA:=K5 (w0:=w0) (ρ:=ρ) x y hx hy
 unfold oO
 obtain⟨C,hC⟩:∃ b,b=mJ x y:=⟨_,rfl⟩
 rw [<-hC] at hA ⊢
 clear hC
 have jb:=eh (ρ:=ρ) x
 have hyp:=eh (ρ:=ρ) y
 obtain⟨xr,xs⟩:=x
 obtain⟨yr,ys⟩:=y
 refine ac5.aH (by simp [Tryz.ntmps273]) (.v) ?_
 refine gq Of ?_
 repeat' (first
  |((refine ab.int rfl (ad.ag rfl hA ⟨jb,hyp,trivial⟩) fun d hd=>?_;refine gq Of ?_))
  |(refine bq (fun hb=>?_) (fun hb=>?_)<;>(try simp only [aq] at hb)<;>(first|refine gq Of ?_))
  |(refine fq ?_))
 all_goals first
  |(refine aI ?_;rw [show (C == 0)=true from beq_iff_eq.2 (by omega)];done)
  |(refine aI ?_;rw [show (C == 0)=false from beq_eq_false_iff_ne.2 (by omega)];done)
end
end
end Go.Proofs.YtgphljokbodciaaGreat
