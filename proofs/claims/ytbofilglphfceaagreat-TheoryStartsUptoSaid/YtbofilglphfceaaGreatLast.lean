/- TheoryStarts holds (its Upto form): for every input whose bulk is at most 1048576 the call returns true, and the input reads afterwards as before. -/
import Derived.Carry
import Derived.Deep.DeepHandedRow
import Derived.Lib.LaidTab
import Derived.OpenShut
import Derived.ProofKit
import Derived.Test.YtbofilglphfceaaGreatProg
import Derived.Test.YtbofilglphfceaaGreatRows
import Derived.Test.YtbofilglphfceaaGreatQ53
namespace Go.Proofs.YtbofilglphfceaaGreat
set_option linter.unusedVariables false
set_option linter.unusedSimpArgs false
open Go.RowKit
section
set_option maxRecDepth 100000
mutual
def mT:Tm->Nat
 |⟨k,i,n,a⟩=>n.size+mh a+5
def mh:List Tm->Nat
 |[]=>0
 |x::l=>mT x+mh l
end
theorem gV:∀ l,cT mT l=mh l
 |[]=>by rw [mh];rfl
 |x::l=>by rw [mh,cT,gV l]
theorem BD {α:Type}:∀ l:List α,cT (fun _=>1) l=l.length
 |[]=>rfl
 |x::l=>by rw [cT,BD l,List.length_cons];omega
def kr (x:At):Nat:=x.n.size+mh x.a+3
def mH (x:Gl):Nat:=x.n.size+mh x.a+4
def Ac (x:Im):Nat:=x.n.size+mh x.a+5
def Ad (x:Bd):Nat:=mT x.t+2
def Ae (x:Fi):Nat:=x.ids.length+3
def Af (x:Dc):Nat:=x.n.size+3
def tJ (x:Rl):Nat:=x.n.size+cT kr x.aV+cT kr x.rem+cT mH x.guard+cT mH x.body+7
def IJ (x:Pg):Nat:=cT Af x.ds+cT tJ x.rs+3
def BE (x:dP):Nat:=cT mH x.goals+cT Ac x.store+cT Ad x.binds+cT Ae x.cg+cT mH x.known+9
theorem M6:∀ n,bM Tryz.prog n 81 4 lN mT:=by
 intro n
 induction n with
 |zero=>intro H enc w sp held m hm;omega
 |succ n ih =>
  intro H enc w sp held m hm cs d hl h
  obtain⟨k,xs,rfl,hx,hd,hf⟩:=bM.fields Tryz.underlying81 h
  have hb:=fI (xs:=xs)
  rw [hx] at hb
  obtain⟨x0,b0,_,h0⟩:=bM.part (i:=0) (n:=k+1) (bM.int Tryz.underlying3) (by omega) (by kernel_rfl) (by omega) (hf 0 3 0 rfl)
  obtain⟨x1,b1,_,h1⟩:=bM.part (i:=1) (n:=k+1) (bM.int Tryz.underlying3) (by omega) (by kernel_rfl) (by omega) (hf 1 3 1 rfl)
  obtain⟨x2,b2,_,h2⟩:=bM.part (i:=2) (n:=k+1) (bM.str Tryz.underlying9) (by omega) (by kernel_rfl) (by omega) (hf 2 9 2 rfl)
  obtain⟨x3,b3,_,h3⟩:=bM.part (i:=3) (bM.slice Tryz.underlying69 (by kernel_rfl) (by decide) ih) (by omega) (by kernel_rfl) (by omega) (hf 3 69 3 rfl)
  refine⟨⟨x0,x1,x2,x3⟩,?_,by rw [qP (ρ:=.plain)];rfl,fun j a v ha hv=>?_⟩
  ·rw [hd,<-hb,mT]
   rw [gV] at b3
   simp only [List.size_toArray,List.length_cons,List.length_nil,iP,Nat.reduceAdd] at *
   omega
  ·rw [qP (ρ:=.plain)] at ha
   match j with
   |0=>exact h0 0 a v ha hv
   |1=>exact h1 0 a v ha hv
   |2=>exact h2 0 a v ha hv
   |3=>exact h3 0 a v ha hv
   |j+4=>cases ha
theorem M7 (n:Nat):bM Tryz.prog n 69 1 (fun l=>[tl .plain l]) (fun l=>mh l+1):=by
 have h:=(bM.slice Tryz.underlying69 (by kernel_rfl) (by decide) (M6 n)).less (Nat.le_succ n)
 simp only [gV] at h
 exact h
theorem Qr (n:Nat):bM Tryz.prog n 50 1 (fun l=>[b8 .plain bF false l]) (fun l=>l.length+1):=by
 have h:=(bM.slice Tryz.underlying50 (by kernel_rfl) (by decide) (bM.int (n:=n) Tryz.underlying3)).less (Nat.le_succ n)
 simp only [BD] at h
 exact h
theorem M8 (n:Nat):bM Tryz.prog n 88 2 (atR .plain) kr:=by
 intro H enc w sp held m hm cs d hl h
 obtain⟨k,xs,rfl,hx,hd,hf⟩:=bM.fields Tryz.underlying88 h
 have hb:=fI (xs:=xs)
 rw [hx] at hb
 obtain⟨x0,b0,_,h0⟩:=bM.part (i:=0) (n:=k+1) (bM.str Tryz.underlying9) (by omega) (by kernel_rfl) (by omega) (hf 0 9 0 rfl)
 obtain⟨x1,b1,_,h1⟩:=bM.part (i:=1) (n:=k+1) (M7 (k+1)) (by omega) (by kernel_rfl) (by omega) (hf 1 69 1 rfl)
 refine⟨⟨x0,x1⟩,?_,rfl,fun j a v ha hv=>?_⟩
 ·rw [hd,<-hb]
  simp only [List.size_toArray,List.length_cons,List.length_nil,iP,Nat.reduceAdd,kr,kr] at *
  omega
 ·match j with
  |0=>exact h0 0 a v ha hv
  |1=>exact h1 0 a v ha hv
  |j+2=>cases ha
theorem IK (n:Nat):bM Tryz.prog n 54 1 (fun l=>[eO .plain l]) (fun l=>cT kr l+1):=(bM.slice Tryz.underlying54 (by kernel_rfl) (by decide) (M8 n)).less (Nat.le_succ n)
theorem Wc (n:Nat):bM Tryz.prog n 71 3 (BF .plain) mH:=by
 intro H enc w sp held m hm cs d hl h
 obtain⟨k,xs,rfl,hx,hd,hf⟩:=bM.fields Tryz.underlying71 h
 have hb:=fI (xs:=xs)
 rw [hx] at hb
 obtain⟨x0,b0,_,h0⟩:=bM.part (i:=0) (n:=k+1) (bM.int Tryz.underlying3) (by omega) (by kernel_rfl) (by omega) (hf 0 3 0 rfl)
 obtain⟨x1,b1,_,h1⟩:=bM.part (i:=1) (n:=k+1) (bM.str Tryz.underlying9) (by omega) (by kernel_rfl) (by omega) (hf 1 9 1 rfl)
 obtain⟨x2,b2,_,h2⟩:=bM.part (i:=2) (n:=k+1) (M7 (k+1)) (by omega) (by kernel_rfl) (by omega) (hf 2 69 2 rfl)
 refine⟨⟨x0,x1,x2⟩,?_,rfl,fun j a v ha hv=>?_⟩
 ·rw [hd,<-hb]
  simp only [List.size_toArray,List.length_cons,List.length_nil,iP,Nat.reduceAdd,mH,kr] at *
  omega
 ·match j with
  |0=>exact h0 0 a v ha hv
  |1=>exact h1 0 a v ha hv
  |2=>exact h2 0 a v ha hv
  |j+3=>cases ha
theorem xF (n:Nat):bM Tryz.prog n 26 1 (fun l=>[cO .plain l]) (fun l=>cT mH l+1):=(bM.slice Tryz.underlying26 (by kernel_rfl) (by decide) (Wc n)).less (Nat.le_succ n)
theorem Wd (n:Nat):bM Tryz.prog n 90 3 (M9 .plain) Ac:=by
 intro H enc w sp held m hm cs d hl h
 obtain⟨k,xs,rfl,hx,hd,hf⟩:=bM.fields Tryz.underlying90 h
 have hb:=fI (xs:=xs)
 rw [hx] at hb
 obtain⟨x0,b0,_,h0⟩:=bM.part (i:=0) (n:=k+1) (bM.int Tryz.underlying3) (by omega) (by kernel_rfl) (by omega) (hf 0 3 0 rfl)
 obtain⟨x1,b1,_,h1⟩:=bM.part (i:=1) (n:=k+1) (M8 (k+1)) (by omega) (by kernel_rfl) (by omega) (hf 1 88 1 rfl)
 refine⟨⟨x0,x1.n,x1.a⟩,?_,rfl,fun j a v ha hv=>?_⟩
 ·rw [hd,<-hb]
  simp only [List.size_toArray,List.length_cons,List.length_nil,iP,Nat.reduceAdd,Ac,kr] at *
  omega
 ·match j with
  |0=>exact h0 0 a v ha hv
  |1=>exact h1 0 a v ha hv
  |2=>exact h1 1 a v ha hv
  |j+3=>cases ha
theorem RM (n:Nat):bM Tryz.prog n 27 1 (fun l=>[fJ .plain l]) (fun l=>cT Ac l+1):=(bM.slice Tryz.underlying27 (by kernel_rfl) (by decide) (Wd n)).less (Nat.le_succ n)
theorem We (n:Nat):bM Tryz.prog n 83 5 (IL .plain) Ad:=by
 intro H enc w sp held m hm cs d hl h
 obtain⟨k,xs,rfl,hx,hd,hf⟩:=bM.fields Tryz.underlying83 h
 have hb:=fI (xs:=xs)
 rw [hx] at hb
 obtain⟨x0,b0,_,h0⟩:=bM.part (i:=0) (n:=k+1) (bM.int Tryz.underlying3) (by omega) (by kernel_rfl) (by omega) (hf 0 3 0 rfl)
 obtain⟨x1,b1,_,h1⟩:=bM.part (i:=1) (n:=k+1) (M6 (k+1)) (by omega) (by kernel_rfl) (by omega) (hf 1 81 1 rfl)
 refine⟨⟨x0,x1⟩,?_,rfl,fun j a v ha hv=>?_⟩
 ·rw [hd,<-hb]
  simp only [List.size_toArray,List.length_cons,List.length_nil,iP,Nat.reduceAdd,Ad,kr] at *
  omega
 ·have e:lN x1=v7 .plain x1:=qP x1
  rw [e] at h1
  match j with
  |0=>exact h0 0 a v ha hv
  |1=>exact h1 0 a v ha hv
  |2=>exact h1 1 a v ha hv
  |3=>exact h1 2 a v ha hv
  |4=>exact h1 3 a v ha hv
  |j+5=>cases ha
theorem RN (n:Nat):bM Tryz.prog n 29 1 (fun l=>[eJ .plain l]) (fun l=>cT Ad l+1):=(bM.slice Tryz.underlying29 (by kernel_rfl) (by decide) (We n)).less (Nat.le_succ n)
theorem Wf (n:Nat):bM Tryz.prog n 94 2 (Ag .plain) Ae:=by
 intro H enc w sp held m hm cs d hl h
 obtain⟨k,xs,rfl,hx,hd,hf⟩:=bM.fields Tryz.underlying94 h
 have hb:=fI (xs:=xs)
 rw [hx] at hb
 obtain⟨x0,b0,_,h0⟩:=bM.part (i:=0) (n:=k+1) (bM.int Tryz.underlying3) (by omega) (by kernel_rfl) (by omega) (hf 0 3 0 rfl)
 obtain⟨x1,b1,_,h1⟩:=bM.part (i:=1) (n:=k+1) (Qr (k+1)) (by omega) (by kernel_rfl) (by omega) (hf 1 50 1 rfl)
 refine⟨⟨x0,x1⟩,?_,rfl,fun j a v ha hv=>?_⟩
 ·rw [hd,<-hb]
  simp only [List.size_toArray,List.length_cons,List.length_nil,iP,Nat.reduceAdd,Ae,kr] at *
  omega
 ·match j with
  |0=>exact h0 0 a v ha hv
  |1=>exact h1 0 a v ha hv
  |j+2=>cases ha
theorem RO (n:Nat):bM Tryz.prog n 30 1 (fun l=>[gO .plain l]) (fun l=>cT Ae l+1):=(bM.slice Tryz.underlying30 (by kernel_rfl) (by decide) (Wf n)).less (Nat.le_succ n)
theorem Wg (n:Nat):bM Tryz.prog n 104 2 (IM) Af:=by
 intro H enc w sp held m hm cs d hl h
 obtain⟨k,xs,rfl,hx,hd,hf⟩:=bM.fields Tryz.underlying104 h
 have hb:=fI (xs:=xs)
 rw [hx] at hb
 obtain⟨x0,b0,_,h0⟩:=bM.part (i:=0) (n:=k+1) (bM.str Tryz.underlying9) (by omega) (by kernel_rfl) (by omega) (hf 0 9 0 rfl)
 obtain⟨x1,b1,_,h1⟩:=bM.part (i:=1) (n:=k+1) (bM.int Tryz.underlying3) (by omega) (by kernel_rfl) (by omega) (hf 1 3 1 rfl)
 refine⟨⟨x0,x1⟩,?_,rfl,fun j a v ha hv=>?_⟩
 ·rw [hd,<-hb]
  simp only [List.size_toArray,List.length_cons,List.length_nil,iP,Nat.reduceAdd,Af,kr] at *
  omega
 ·match j with
  |0=>exact h0 0 a v ha hv
  |1=>exact h1 0 a v ha hv
  |j+2=>cases ha
theorem RP (n:Nat):bM Tryz.prog n 22 1 (fun l=>[dG .plain l]) (fun l=>cT Af l+1):=(bM.slice Tryz.underlying22 (by kernel_rfl) (by decide) (Wg n)).less (Nat.le_succ n)
theorem Wh (n:Nat):bM Tryz.prog n 56 6 (fZ .plain) tJ:=by
 intro H enc w sp held m hm cs d hl h
 obtain⟨k,xs,rfl,hx,hd,hf⟩:=bM.fields Tryz.underlying56 h
 have hb:=fI (xs:=xs)
 rw [hx] at hb
 obtain⟨x0,b0,_,h0⟩:=bM.part (i:=0) (n:=k+1) (bM.str Tryz.underlying9) (by omega) (by kernel_rfl) (by omega) (hf 0 9 0 rfl)
 obtain⟨x1,b1,_,h1⟩:=bM.part (i:=1) (n:=k+1) (IK (k+1)) (by omega) (by kernel_rfl) (by omega) (hf 1 54 1 rfl)
 obtain⟨x2,b2,_,h2⟩:=bM.part (i:=2) (n:=k+1) (IK (k+1)) (by omega) (by kernel_rfl) (by omega) (hf 2 54 2 rfl)
 obtain⟨x3,b3,_,h3⟩:=bM.part (i:=3) (n:=k+1) (xF (k+1)) (by omega) (by kernel_rfl) (by omega) (hf 3 26 3 rfl)
 obtain⟨x4,b4,_,h4⟩:=bM.part (i:=4) (n:=k+1) (xF (k+1)) (by omega) (by kernel_rfl) (by omega) (hf 4 26 4 rfl)
 obtain⟨x5,b5,_,h5⟩:=bM.part (i:=5) (n:=k+1) (bM.int Tryz.underlying3) (by omega) (by kernel_rfl) (by omega) (hf 5 3 5 rfl)
 refine⟨⟨x0,x1,x2,x3,x4,x5⟩,?_,rfl,fun j a v ha hv=>?_⟩
 ·rw [hd,<-hb]
  simp only [List.size_toArray,List.length_cons,List.length_nil,iP,Nat.reduceAdd,tJ,kr] at *
  omega
 ·match j with
  |0=>exact h0 0 a v ha hv
  |1=>exact h1 0 a v ha hv
  |2=>exact h2 0 a v ha hv
  |3=>exact h3 0 a v ha hv
  |4=>exact h4 0 a v ha hv
  |5=>exact h5 0 a v ha hv
  |j+6=>cases ha
theorem RQ (n:Nat):bM Tryz.prog n 23 1 (fun l=>[Ep .plain l]) (fun l=>cT tJ l+1):=(bM.slice Tryz.underlying23 (by kernel_rfl) (by decide) (Wh n)).less (Nat.le_succ n)
theorem Wi (n:Nat):bM Tryz.prog n 25 2 (lO .plain) IJ:=by
 intro H enc w sp held m hm cs d hl h
 obtain⟨k,xs,rfl,hx,hd,hf⟩:=bM.fields Tryz.underlying25 h
 have hb:=fI (xs:=xs)
 rw [hx] at hb
 obtain⟨x0,b0,_,h0⟩:=bM.part (i:=0) (n:=k+1) (RP (k+1)) (by omega) (by kernel_rfl) (by omega) (hf 0 22 0 rfl)
 obtain⟨x1,b1,_,h1⟩:=bM.part (i:=1) (n:=k+1) (RQ (k+1)) (by omega) (by kernel_rfl) (by omega) (hf 1 23 1 rfl)
 refine⟨⟨x0,x1⟩,?_,rfl,fun j a v ha hv=>?_⟩
 ·rw [hd,<-hb]
  simp only [List.size_toArray,List.length_cons,List.length_nil,iP,Nat.reduceAdd,IJ,kr] at *
  omega
 ·match j with
  |0=>exact h0 0 a v ha hv
  |1=>exact h1 0 a v ha hv
  |j+2=>cases ha
theorem RR (n:Nat):bM Tryz.prog n 32 8 (BG .plain) BE:=by
 intro H enc w sp held m hm cs d hl h
 obtain⟨k,xs,rfl,hx,hd,hf⟩:=bM.fields Tryz.underlying32 h
 have hb:=fI (xs:=xs)
 rw [hx] at hb
 obtain⟨x0,b0,_,h0⟩:=bM.part (i:=0) (n:=k+1) (xF (k+1)) (by omega) (by kernel_rfl) (by omega) (hf 0 26 0 rfl)
 obtain⟨x1,b1,_,h1⟩:=bM.part (i:=1) (n:=k+1) (RM (k+1)) (by omega) (by kernel_rfl) (by omega) (hf 1 27 1 rfl)
 obtain⟨x2,b2,_,h2⟩:=bM.part (i:=2) (n:=k+1) (RN (k+1)) (by omega) (by kernel_rfl) (by omega) (hf 2 29 2 rfl)
 obtain⟨x3,b3,_,h3⟩:=bM.part (i:=3) (n:=k+1) (RO (k+1)) (by omega) (by kernel_rfl) (by omega) (hf 3 30 3 rfl)
 obtain⟨x4,b4,_,h4⟩:=bM.part (i:=4) (n:=k+1) (xF (k+1)) (by omega) (by kernel_rfl) (by omega) (hf 4 26 4 rfl)
 obtain⟨x5,b5,_,h5⟩:=bM.part (i:=5) (n:=k+1) (bM.int Tryz.underlying3) (by omega) (by kernel_rfl) (by omega) (hf 5 3 5 rfl)
 obtain⟨x6,b6,_,h6⟩:=bM.part (i:=6) (n:=k+1) (bM.int Tryz.underlying3) (by omega) (by kernel_rfl) (by omega) (hf 6 3 6 rfl)
 obtain⟨x7,b7,_,h7⟩:=bM.part (i:=7) (n:=k+1) (bM.bool Tryz.underlying4) (by omega) (by kernel_rfl) (by omega) (hf 7 4 7 rfl)
 refine⟨⟨x0,x1,x2,x3,x4,x5,x6,x7⟩,?_,rfl,fun j a v ha hv=>?_⟩
 ·rw [hd,<-hb]
  simp only [List.size_toArray,List.length_cons,List.length_nil,iP,Nat.reduceAdd,BE,kr] at *
  omega
 ·match j with
  |0=>exact h0 0 a v ha hv
  |1=>exact h1 0 a v ha hv
  |2=>exact h2 0 a v ha hv
  |3=>exact h3 0 a v ha hv
  |4=>exact h4 0 a v ha hv
  |5=>exact h5 0 a v ha hv
  |6=>exact h6 0 a v ha hv
  |7=>exact h7 0 a v ha hv
  |j+8=>cases ha
theorem xG {P:Program}{w:World}{r:Reach}{b0:Nat}{t:TypeId}{v:Value}{fs:Array Field}(ht:P.underlying t=some (.struct fs)) (h:Value.okWide P w r b0 t v):∃ cs,v=.agg cs/\cs.size=P.cellsOf t:=by
 unfold Value.okWide at h
 rw [ht] at h
 obtain⟨cs,e,hs,_⟩:=h
 exact⟨cs,e,hs⟩
section
variable {w:World}{r:Reach}{b0:Nat}{v:Value}{H:Type}{enc:TypeId × Value->H}{sp:Nat->Bool}{held:Bool}{d:DataW H}{ps:List MemPlace}
theorem RS (l3:Value.okWide Tryz.prog w r b0 25 v) (h:DataW.Trod enc Tryz.prog w 0 sp held 25 v d ps):∃ x:Pg,IJ x<=Rows.uptoBulk d/\aJ (g0 w) w (pg .plain x) v:=by
 obtain⟨fuel,hf⟩:=h
 obtain⟨cs,rfl,bH⟩:=xG Tryz.underlying25 l3
 have hs:cs.size=2:=bH.trans (by kernel_rfl)
 obtain⟨x,h1,_,h2⟩:=Wi (fuel+1) H enc w sp held fuel (by omega) _ _ (by rw [Array.length_toList];exact hs) hf
 refine⟨x,h1,.agg (by rw [hs];rfl) fun i a y ha hy=>h2 i a y ha ?_⟩
 rw [<-hy]
 exact Array.getElem?_toList
theorem Qs (l3:Value.okWide Tryz.prog w r b0 32 v) (h:DataW.Trod enc Tryz.prog w 0 sp held 32 v d ps):∃ x:dP,BE x<=Rows.uptoBulk d/\aJ (g0 w) w (r5 .plain x) v:=by
 obtain⟨fuel,hf⟩:=h
 obtain⟨cs,rfl,bH⟩:=xG Tryz.underlying32 l3
 have hs:cs.size=8:=bH.trans (by kernel_rfl)
 obtain⟨x,h1,_,h2⟩:=RR (fuel+1) H enc w sp held fuel (by omega) _ _ (by rw [Array.length_toList];exact hs) hf
 refine⟨x,h1,.agg (by rw [hs];rfl) fun i a y ha hy=>h2 i a y ha ?_⟩
 rw [<-hy]
 exact Array.getElem?_toList
theorem Qt (h:DataW.Trod enc Tryz.prog w 0 sp held 3 v d ps) (l3:Value.okWide Tryz.prog w r b0 3 v):∃ x:Int,aJ (g0 w) w (iv x) v:=by
 unfold Value.okWide at l3
 rw [Tryz.underlying3] at l3
 cases v with
 |int k z=>obtain⟨rfl,_⟩:=l3;exact⟨z,.v⟩
 |_=>cases l3
end
end
section
open Go.ChangeShapes Go.WideShapes Go.ChangeAt Go.RowKit
section
variable {H:Type}{enc:TypeId × Value->H}{P:Program}
theorem tK (hl:laidOutB P=true) {W W':World}(hb:Below W.heap.size W W'):∀ {ts:List TypeId}{vs:List Value}{ds:List (DataW H)}{ps:List MemPlace},
  (∀ t ∈ ts,P.readableRec t=true/\t < P.types.size)->DataW.TrodAll enc P W 0 (fun _=>true) true ts vs ds ps->(∀ x ∈ ps,x.block < W.heap.size) ->
  DataW.TrodAll enc P W' 0 (fun b=>decide (b < W.heap.size)) true ts vs ds ps
 |[],vs,ds,ps,_,h,_=>by
  obtain⟨rfl,rfl,rfl⟩:=trodAll_nil h
  exact trodAll_mk0
 |t::ts,vs,ds,ps,ht,h,au=>by
  obtain⟨v,vs',d,ds',p,q,rfl,rfl,rfl,h1,h2⟩:=trodAll_cons h
  obtain⟨hr,hs⟩:=ht t (by simp)
  exact trodAll_cons_mk (Below.trod hl hr hs h1 hb fun x hx=>au x (by simp [hx])) (tK hl hb (fun t ht'=>ht t (by simp [ht'])) h2 fun x hx=>au x (by simp [hx]))
theorem KL {f:Func}{s:ChangeSpec}{W W':World}{args:Array Value}{ds:List (DataW H)}{before:List MemPlace}{tb:TypeId}
  (hl:laidOutB P=true) (hts:∀ t ∈ f.params.toList,P.readableRec t=true/\t < P.types.size) (M_:s.vars=[]) (dz:f.resultTypes=#[tb]) (htb:P.underlying tb=some .bool)
  (BH:s.fn H (ds++[])={ results:=[.lit (.bool true)],args:=ds }) (hW:DataW.Whole enc P f.params.toList s.vars false W args.toList ds [] before) (hb:Below W.heap.size W W') :
  s.post enc P f false true false false W args (.bool true) W':=by
 have Z4:=hW
 obtain⟨p,q,hA,hV,rfl,oX,hnd⟩:=hW
 rw [M_] at hV
 obtain⟨_,rfl⟩:=trodVars_none hV
 have au:∀ x ∈ p,x.block < W.heap.size:=fun x hx=>Z4.lt x (by simp [hx])
 refine⟨ds,[],p++[],[],p,[],Z4,?_,?_,?_,World.keptBut_mono (fun x hx=>⟨hx,.inr (.inl (by simpa using hx))⟩) (hb.frame (· ∈ p++[])),fun h=>by cases h⟩
 ·rw [BH,dz]
  exact trodAll_mk1 (shut_bool htb true)
 ·rw [BH]
  exact tK hl hb hts hA au
 ·rw [BH,M_]
  rfl
end
theorem own:ownKnob Tryz.prog.godebug=none:=by kernel_rfl
noncomputable def tU (os:Os):World:=World.holding Tryz.prog os ⟨#[],#[],[]⟩
theorem Wj {g:Gh}{w:World}{a b c:AV}{x y z:Value}(h:aJ g w a x) (k:aJ g w b y) (l:aJ g w c z):jm g w [a,b,c] #[x,y,z]:=⟨rfl,fun i c z hc hz=>by
 match i with
 |0=>simp at hc hz;subst hc hz;exact h
 |1=>simp at hc hz;subst hc hz;exact k
 |2=>simp at hc hz;subst hc hz;exact l
 |i+3=>simp at hc⟩
end
section
namespace pN
set_option maxRecDepth 100000
open Go.ChangeShapes Go.WideShapes Go.ChangeAt Go.RowKit
theorem k0:(Rows.theoryStartsUptoRow.wf (OpenSpec.ofChange (Rows.OpenSpec.upto Rows.theoryStartsSpec).bare))=true:=by kernel_rfl
theorem k3:(Tryz.f3.params.all (Tryz.prog.readableRec ·))=true:=by kernel_rfl
theorem k4:(namedTie Tryz.prog Rows.theoryStartsUptoRow.named (Rows.OpenSpec.upto Rows.theoryStartsSpec).bare.vars)=true:=by kernel_rfl
theorem k5:((Rows.theoryStartsUptoRow.stops == []))=true:=by kernel_rfl
theorem k6:((Tryz.prog.stops == []))=true:=by kernel_rfl
theorem k7:((Rows.theoryStartsUptoRow.knobs == []))=true:=by kernel_rfl
theorem k8:((Tryz.prog.stopKnobs == []))=true:=by kernel_rfl
theorem k9:((Rows.theoryStartsUptoRow.inPlace == Tryz.prog.inPlace 3))=true:=by kernel_rfl
theorem k10:((Rows.theoryStartsUptoRow.unfollowed == Tryz.prog.unfollowed 3))=true:=by kernel_rfl
theorem k11:((Rows.theoryStartsUptoRow.recurses == Tryz.prog.recurses 3))=true:=by kernel_rfl
theorem k12:((Rows.theoryStartsUptoRow.named == Tryz.prog.varsNamed 3))=true:=by kernel_rfl
theorem k13:((Rows.theoryStartsUptoRow.maps == (Tryz.f3.params.toList++(Rows.OpenSpec.upto Rows.theoryStartsSpec).bare.plain.varTypes Tryz.prog).any (Tryz.prog.mapsRec ·)))=true:=by kernel_rfl
theorem k14:((Rows.theoryStartsUptoRow.ifaces == (Tryz.f3.params.toList++(Rows.OpenSpec.upto Rows.theoryStartsSpec).bare.plain.varTypes Tryz.prog).any (Tryz.prog.ifacesRec ·)))=true:=by kernel_rfl
theorem k15:((Rows.theoryStartsUptoRow.mapsOut == Tryz.prog.mapsAmong Tryz.f3.resultTypes.toList))=true:=by kernel_rfl
theorem k16:((Rows.theoryStartsUptoRow.loops == (Tryz.f3.params.toList++(Rows.OpenSpec.upto Rows.theoryStartsSpec).bare.plain.varTypes Tryz.prog).any (Tryz.prog.loopsFrom ·)))=true:=by kernel_rfl
theorem k17:((Rows.theoryStartsUptoRow.wideKeys == (Tryz.f3.params.toList++(Rows.OpenSpec.upto Rows.theoryStartsSpec).bare.plain.varTypes Tryz.prog++Tryz.f3.resultTypes.toList).any (Tryz.prog.wideKeysFrom ·)))=true:=by kernel_rfl
theorem k18:((Rows.OpenSpec.upto Rows.theoryStartsSpec).bare.vars.all (Tryz.prog.varReadable ·))=true:=by kernel_rfl
theorem k19:(Tryz.f3.resultTypes.all (fun t=>Tryz.prog.readableRec t && decide (t < Tryz.prog.types.size)))=true:=by kernel_rfl
theorem k20:((Rows.theoryStartsUptoRow.ifacesOut == Tryz.f3.resultTypes.toList.any (Tryz.prog.ifacesRec ·)))=true:=by kernel_rfl
theorem k21:((Rows.theoryStartsUptoRow.loopsOut == Tryz.f3.resultTypes.toList.any (Tryz.prog.loopsFrom ·)))=true:=by kernel_rfl
theorem k22:((Rows.theoryStartsUptoRow.plainKeys == Tryz.prog.plainKeys))=true:=by kernel_rfl
theorem k23:(Rows.theoryStartsUptoRow.shortTexts.isNone)=true:=by kernel_rfl
theorem k26:((Rows.theoryStartsUptoRow.lifted == Tryz.prog.liftsFinal))=true:=by kernel_rfl
theorem k27:((Tryz.prog.make == some Rows.theoryStartsUptoRow.make))=true:=by kernel_rfl
theorem k28:((Rows.theoryStartsUptoRow.kinds == (if Rows.theoryStartsUptoRow.domain.isEmpty then [] else Tryz.f3.params.toList.map fun t=>match Tryz.prog.underlying t with|some (.int k)=>some k|_=>none)))=true:=by kernel_rfl
theorem k29:((Rows.theoryStartsUptoRow.pinned == Rows.theoryStartsUptoRow.pinnedBy))=true:=by kernel_rfl
theorem k30:((Rows.theoryStartsUptoRow.veiled == (Tryz.f3.params.toList++(Rows.OpenSpec.upto Rows.theoryStartsSpec).bare.plain.varTypes Tryz.prog++Tryz.f3.resultTypes.toList).any (Tryz.prog.veiledRec ·)))=true:=by kernel_rfl
theorem k31:(Rows.theoryStartsUptoRow.veiledFits Tryz.prog Tryz.f3.params.toList (Tryz.f3.params.toList++(Rows.OpenSpec.upto Rows.theoryStartsSpec).bare.plain.varTypes Tryz.prog++Tryz.f3.resultTypes.toList))=true:=by kernel_rfl
end pN
end
theorem gp {α:Type}{μ:α->Nat}:∀ {l:List α}{x:α},x ∈ l->μ x<=cT μ l
 |y::l,x,h=>by
  rw [cT]
  rcases List.mem_cons.1 h with rfl|h
  ·omega
  ·have:=gp (μ:=μ) h
   omega
theorem dW {α:Type}{μ:α->Nat}(h:∀ x,1<=μ x):∀ l:List α,l.length<=cT μ l
 |[]=>Nat.le_refl _
 |x::l=>by
  have h1:=h x
  have h2:=dW h l
  rw [cT,List.length_cons]
  omega
theorem pO {α:Type}{μ:α->Nat}:∀ a b:List α,cT μ (a++b)=cT μ a+cT μ b
 |[],b=>by rw [List.nil_append,cT];omega
 |x::a,b=>by rw [List.cons_append,cT,cT,pO a b];omega
theorem RT (x:Tm):5<=mT x:=by obtain⟨k,i,n,a⟩:=x;rw [mT];omega
theorem Er (l:List Tm):l.length<=mh l:=by rw [<-gV];exact dW (fun x=>by have:=RT x;omega) l
mutual
theorem Na:∀ (N:Nat) (x:Tm),N<=1099511627776->mT x<=N->x.ok
 |N,⟨k,i,n,a⟩,hN,h=>by
  rw [mT] at h
  have:=Er a
  rw [Tm.ok,BI]
  exact⟨by omega,by omega,xH N a hN (by omega)⟩
theorem xH:∀ (N:Nat) (l:List Tm),N<=1099511627776->mh l<=N->eg l
 |N,[],_,_=>by rw [eg];trivial
 |N,x::l,hN,h=>by
  rw [mh] at h
  rw [eg]
  exact⟨Na N x hN (by omega),xH N l hN (by omega)⟩
end
mutual
theorem Es:∀ x:Tm,cM x<=mT x
 |⟨k,i,n,a⟩=>by
  have:=nE a
  rw [cM,mT]
  split<;>omega
theorem nE:∀ l:List Tm,bj l<=mh l
 |[]=>by rw [bj,mh];exact Nat.le_refl _
 |x::l=>by
  have:=Es x
  have:=nE l
  rw [bj,mh]
  omega
end
theorem BJ {l:List Tm}(h:mh l<=1099511627776):mI l:=⟨xH _ l (Nat.le_refl _) h,Nat.le_trans (nE l) h⟩
theorem xI {x:Gl}(h:mH x<=1099511627776):r6 x:=by
 unfold mH at h
 exact⟨BJ (by omega),by omega⟩
theorem vy (x:At):1<=kr x:=by unfold kr;omega
theorem pF (x:Gl):1<=mH x:=by unfold mH;omega
theorem IN:∀ l:List At,mh (dA l)<=cT kr l
 |[]=>Nat.le_refl _
 |x::l=>by
  have h:=IN l
  rw [show dA (x::l)=x.a++dA l from rfl,<-gV,pO,gV,gV,cT,kr]
  omega
theorem IP:∀ l:List Gl,mh (iG l)<=cT mH l
 |[]=>Nat.le_refl _
 |x::l=>by
  have h:=IP l
  rw [show iG (x::l)=x.a++iG l from rfl,<-gV,pO,gV,gV,cT,mH]
  omega
theorem FF:∀ l:List At,(tL l).length<=cT kr l
 |[]=>Nat.le_refl _
 |x::l=>by
  have h:=FF l
  have h1:=mJ x.a
  have h2:=nE x.a
  rw [show tL (x::l)=varsOf x.a++tL l from rfl,List.length_append,cT,kr]
  omega
theorem FG:∀ l:List Gl,(r7 l).length<=cT mH l
 |[]=>Nat.le_refl _
 |x::l=>by
  have h:=FG l
  have h1:=mJ x.a
  have h2:=nE x.a
  rw [show r7 (x::l)=varsOf x.a++r7 l from rfl,List.length_append,cT,mH]
  omega
theorem RU {r:Rl}(h:tJ r<=1048576):tV r:=by
 have a1:=dW vy r.aV
 have a2:=dW vy r.rem
 have a3:=dW pF r.guard
 have a4:=dW pF r.body
 have b1:=FF r.aV
 have b2:=FF r.rem
 have b3:=FG r.guard
 have b4:=FG r.body
 unfold tJ at h
 have at_:∀ x:At,kr x<=1048576->mI x.a/\x.n.size<=1099511627776:=fun x hx=>by
  unfold kr at hx
  exact⟨BJ (by omega),by omega⟩
 refine⟨by omega,by omega,by omega,by omega,by omega,fun x hx=>at_ x ?_,fun x hx=>at_ x ?_,fun x hx=>xI ?_,fun x hx=>xI ?_,?_,?_⟩
 ·have:=gp (μ:=kr) hx;omega
 ·have:=gp (μ:=kr) hx;omega
 ·have:=gp (μ:=mH) hx;omega
 ·have:=gp (μ:=mH) hx;omega
 ·rw [oY,show xJ [r.aV,r.rem]=tL r.aV++(tL r.rem++[]) from rfl,List.append_nil,List.length_append];omega
 ·rw [r8,show nn [r.guard,r.body]=r7 r.guard++(r7 r.body++[]) from rfl,List.append_nil,List.length_append];omega
theorem RV {r:Rl}(h:tJ r<=1048576):Ah r:=by
 have a1:=dW vy r.aV
 have a2:=dW vy r.rem
 have a3:=dW pF r.guard
 have a4:=dW pF r.body
 unfold tJ at h
 have k1:=IN (r.aV++r.rem)
 have k2:=IP (r.guard++r.body)
 rw [pO] at k1 k2
 have k3:mh (dA (r.aV++r.rem)++iG (r.guard++r.body))<=1048576:=by
  rw [<-gV,pO,gV,gV]
  omega
 have k4:=Er (dA (r.aV++r.rem)++iG (r.guard++r.body))
 have k5:=og (dA (r.aV++r.rem)++iG (r.guard++r.body))
 have k6:=nE (dA (r.aV++r.rem)++iG (r.guard++r.body))
 exact⟨by omega,by omega,by omega,xH _ _ (Nat.le_refl _) (by omega),by omega⟩
theorem RW {p:Pg}(h:IJ p<=1048576):xK p/\∀ r ∈ p.rs,Ah r:=by
 have a1:=dW (μ:=Af) (fun x=>by unfold Af;omega) p.ds
 have a2:=dW (μ:=tJ) (fun x=>by unfold tJ;omega) p.rs
 unfold IJ at h
 have hr:∀ r ∈ p.rs,tJ r<=1048576:=fun r hr=>by
  have:=gp (μ:=tJ) hr
  omega
 refine⟨⟨by omega,by omega,fun d hd=>?_,fun r h=>RU (hr r h)⟩,fun r h=>RV (hr r h)⟩
 have:=gp (μ:=Af) hd
 unfold Af at this a1 h
 omega
theorem RX {s:dP}(h:BE s<=1048576):v8 s:=by
 have a1:=dW pF s.goals
 have a2:=dW (μ:=Ac) (fun x=>by unfold Ac;omega) s.store
 have a3:=dW (μ:=Ad) (fun x=>by unfold Ad;omega) s.binds
 have a4:=dW (μ:=Ae) (fun x=>by unfold Ae;omega) s.cg
 have a5:=dW pF s.known
 unfold BE at h
 refine⟨by omega,by omega,by omega,by omega,by omega,fun x hx=>xI ?_,fun x hx=>?_,fun x hx=>?_,fun x hx=>?_,fun x hx=>xI ?_⟩
 ·have:=gp (μ:=mH) hx;omega
 ·have h1:=gp (μ:=Ac) hx
  have h2:Ac x=x.n.size+mh x.a+5:=rfl
  exact⟨BJ (by omega),by omega⟩
 ·have h1:=gp (μ:=Ad) hx
  have h2:Ad x=mT x.t+2:=rfl
  have h3:=Es x.t
  exact⟨Na _ _ (Nat.le_refl _) (by omega),by omega⟩
 ·have h1:=gp (μ:=Ae) hx
  have h2:Ae x=x.ids.length+3:=rfl
  show x.ids.length<=1099511627776
  omega
 ·have:=gp (μ:=mH) hx;omega
section
set_option maxRecDepth 100000
section
variable {w0:World}
theorem Et:∀ g,jn g [42,301,304,330,349,366,375]=true->∀ A c,ah Tryz.prog w0 g [.v (.slice A 0 c)] (.sl true []):=by
 have h0:iw Tryz.prog w0 (RY xt [] []):=IQ (fun _ _ _=>IS) fun g h=>by cases h
 intro g hg A c
 have hg:=wL hg
 simp only [List.mem_cons,List.not_mem_nil,or_false] at hg
 rcases hg with rfl|rfl|rfl|rfl|rfl|rfl|rfl<;>cases A<;>exact Env.aG h0 8 (by kernel_rfl)
noncomputable def xE:Env:=RY xt [42,301,304,330,349,366,375] [42,301,304,330,349,366,375,223,410,425]
theorem Wl:iw Tryz.prog w0 xE:=IQ (fun _ _ _=>IS) Et
theorem Qu:BL xE (FH xE 60) 15 []=some (.v (.bool true)):=by kernel_rfl
theorem Qv:ah Tryz.prog w0 15 [] (.v (.bool true)):=Env.aG Wl 60 Qu
end
end
section
set_option maxRecDepth 100000
attribute [local irreducible] ah bc ad ab
def RZ:CF Tryz.f42:=⟨_,by conv=>lhs;cbv⟩
theorem aa9:aH Tryz.prog 42 RZ.1 Tryz.f42.ntmps:=aQ Tryz.func42 RZ.2 Tryz.call42
def R0:List Nat:=[0,2,4]
def R1:CF Tryz.f10:=⟨_,by conv=>lhs;cbv⟩
theorem aa_:aH Tryz.prog 10 R1.1 Tryz.f10.ntmps:=aQ Tryz.func10 R1.2 Tryz.call10
def R2:List Nat:=[4,0,1]
section
variable {w0:World}{ρ:Hd}
theorem KM (l:List Gl) (hl:l.length<=1073741824):ah Tryz.prog w0 42 [cO ρ l] (cO ρ l):=by
 cases l with
 |nil =>
  have h:ah Tryz.prog w0 42 [cO ρ []] (.sl true []):=by
   rw [cO,dx]
   exact ah.emp (Et _ rfl)
  exact h.Eu (fun S=>by rw [cO,dx];exact aU.wk) (bw _)
 |cons x l =>
  obtain⟨R,hR⟩:∃ R,R=x::l:=⟨_,rfl⟩
  have FI:zh (cO ρ R)=some false:=by rw [hR,cO,dx];rfl
  rw [<-hR] at hl ⊢
  refine aa9.aG (by simp [Tryz.ntmps42]) ((bw _)) ?_
  refine gq R0 ?_
  refine ab.op rfl (ad.nil FI rfl) ?_
  refine gq R0 ?_
  refine ab.Nb (f:=BF ρ) (ys:=R) rfl rfl rfl (fun _=>rfl) (by omega) fun acc len rM hlen=>?_
  refine gq R0 ?_
  refine ab.fin (by conv=>lhs;cbv) ?_
  obtain rfl:acc=R:=rM
  exact aU.grow rfl hlen
theorem Qw (l:List Gl) (v:Int) (hl:l.length<=1073741824):ah Tryz.prog w0 10 [cO ρ l,iv v] (r5 ρ (fm l v)):=by
 have hp:=l4 (ρ:=ρ) (fm l v)
 have hC:=KM (w0:=w0) (ρ:=ρ) l hl
 unfold fm at hp ⊢
 refine aa_.aG (by simp [Tryz.ntmps10]) (hp) ?_
 refine gq R2 ?_
 repeat' (first
  |(refine ab.op rfl (ad.ag rfl hC (by exact⟨bw _,trivial⟩)) ?_;refine gq R2 ?_)
  )
 refine ab.int rfl (ad.max (k:=.i64) (a:=v) (b:=0) rfl rfl) fun m hm=>?_
 refine gq R2 ?_
 refine ab.fin (by conv=>lhs;cbv) ?_
 refine tW ?_
 rw [hm,Int.max_def]
 split<;>split<;>omega
end
end
section
set_option maxRecDepth 100000
attribute [local irreducible] ah bc ad ab
def Z5:CF Tryz.f3:=⟨_,by conv=>lhs;cbv⟩
theorem Z6:aH Tryz.prog 3 Z5.1 Tryz.f3.ntmps:=aQ Tryz.func3 Z5.2 Tryz.call3
def g3:List Nat:=[4,2,3,6,0,1,10]
theorem IT {l:List Gl}{v:Int}(h1:l.length<=1099511627776) (h2:∀ x ∈ l,r6 x):v8 (fm l v):=⟨h1,by simp [fm],by simp [fm],by simp [fm],by simp [fm],h2,by simp [fm],by simp [fm],by simp [fm],by simp [fm]⟩
section
variable {w0:World}{ρ:Hd}
theorem KN (p:Pg) (s:dP) (v:Int) (lx:xK p) (hs:v8 s) (fp:∀ r ∈ p.rs,Ah r):ah Tryz.prog w0 3 [pg ρ p,r5 ρ s,iv v] (.v (.bool true)):=by
 have nq:=nF (ρ:=ρ) p
 have Ai:=l4 (ρ:=ρ) s
 have hS:=Qx (w0:=w0) (ρ:=ρ) p s lx hs
 cases hb:tX p s with
 |false =>
  rw [hb] at hS
  obtain⟨ds,rs⟩:=p
  obtain⟨g,st,b,f,k,nx,fr,fa⟩:=s
  refine Z6.aG (by simp [Tryz.ntmps3]) (.v) ?_
  refine gq g3 ?_
  repeat' (first
   |(refine ab.op rfl (ad.ag rfl hS (by exact⟨nq,Ai,trivial⟩)) ?_;refine gq g3 ?_)
   |(refine fq ?_))
  all_goals exact aC rfl
 |true =>
  rw [hb] at hS
  have hl:s.goals.length<=1073741824:=by
   unfold tX at hb
   simp only [Bool.and_eq_true,decide_eq_true_eq] at hb
   omega
  have jf:=IT (v:=v) hs.gl hs.gx
  have h1:=Qw (w0:=w0) (ρ:=ρ) s.goals v hl
  have h2:=Qy (w0:=w0) (ρ:=ρ) s.goals v
  have h3:=IU (w0:=w0) (ρ:=ρ) _ _ jf jf
  have h4:=KO (w0:=w0) (ρ:=ρ) p s lx hs
  have h5:=IV (w0:=w0) (ρ:=ρ) p s lx hs fp
  have h6:=Ev (w0:=w0) (ρ:=ρ) s s hs hs
  have h7:=Ev (w0:=w0) (ρ:=ρ) s _ hs jf
  have h8:=IU (w0:=w0) (ρ:=ρ) s _ hs jf
  have h9:=Qv (w0:=w0)
  have IW:=l4 (ρ:=ρ) (fm s.goals v)
  rw [FK] at h3 h6
  rw [<-IX] at h5
  generalize r9 p s=R at h4 h5
  generalize pb s (fm s.goals v)=Q at h7 h8
  generalize fm s.goals v=sv at h1 h2 h3 h7 h8 IW
  clear jf hl hb lx hs fp
  obtain⟨ds,rs⟩:=p
  obtain⟨g,st,b,f,k,nx,fr,fa⟩:=s
  have Z7:=bw (ρ:=ρ) g
  dsimp only at h1 h2
  cases R<;>cases Q
  all_goals
   refine Z6.aG (by simp [Tryz.ntmps3]) (.v) ?_
   refine gq g3 ?_
   repeat' (first
    |(refine ab.op rfl (ad.ag rfl hS (by exact⟨nq,Ai,trivial⟩)) ?_;refine gq g3 ?_)
    |(refine ab.op rfl (ad.ag rfl h1 (by exact⟨Z7,.v,trivial⟩)) ?_;refine gq g3 ?_)
    |(refine ab.op rfl (ad.ag rfl h2 (by exact⟨Z7,.v,trivial⟩)) ?_;refine gq g3 ?_)
    |(refine ab.op rfl (ad.ag rfl h3 (by exact⟨IW,IW,trivial⟩)) ?_;refine gq g3 ?_)
    |(refine ab.op rfl (ad.ag rfl h4 (by exact⟨nq,Ai,trivial⟩)) ?_;refine gq g3 ?_)
    |(refine ab.op rfl (ad.ag rfl h5 (by exact⟨nq,Ai,trivial⟩)) ?_;refine gq g3 ?_)
    |(refine ab.op rfl (ad.ag rfl h6 (by exact⟨Ai,Ai,trivial⟩)) ?_;refine gq g3 ?_)
    |(refine ab.op rfl (ad.ag rfl h7 (by exact⟨Ai,IW,trivial⟩)) ?_;refine gq g3 ?_)
    |(refine ab.op rfl (ad.ag rfl h8 (by exact⟨Ai,IW,trivial⟩)) ?_;refine gq g3 ?_)
    |(refine ab.op rfl (ad.ag rfl h9 trivial) ?_;refine gq g3 ?_)
    |(refine bq (fun hb=>?_) (fun hb=>?_)<;>(try simp only [aq] at hb)<;>(first|exact absurd hb (by decide)|refine gq g3 ?_))
    |(refine fq ?_))
   all_goals exact aC rfl
end
end
section
namespace pN
open Go.ChangeShapes Go.WideShapes Go.ChangeAt Go.RowKit
open Go.ChangeMaps (open_string shut_string)
set_option maxRecDepth 100000 in
theorem KP (H:Type) (enc:TypeId × Value->H) (W:World) (base:Nat) (args:Array Value) (ds gs:List (DataW H)) (before:List MemPlace)
  (l3:∀ (j:Nat) t v,Tryz.f3.params[j]?=some t->args[j]?=some v->Value.okWide Tryz.prog W .any base t v)
  (hW:DataW.Whole enc Tryz.prog Tryz.f3.params.toList Rows.theoryStartsSpec.vars false W args.toList ds gs before) (hB:Rows.uptoBulkAll (ds++gs)<=1048576) :
  Calls Tryz.prog 3 args W fun e W'=>∃ v,e=.returned v/\Rows.theoryStartsSpec.post enc Tryz.prog Tryz.f3 false true false false W args v W':=by
 have hW0:=hW
 obtain⟨p,q,hA,hV,rfl,oX,hnd⟩:=hW
 obtain⟨rfl,rfl⟩:=trodVars_none hV
 have Aj:=hA
 rw [Tryz.params3] at hA l3
 obtain⟨v0,vs0,d0,ds0,p0,q0,bA,rfl,rfl,h0,r0⟩:=trodAll_cons hA
 obtain⟨v1,vs1,d1,ds1,p1,q1,rfl,rfl,rfl,h1,r1⟩:=trodAll_cons r0
 obtain⟨v2,vs2,d2,ds2,p2,q2,rfl,rfl,rfl,h2,r2⟩:=trodAll_cons r1
 obtain⟨rfl,rfl,rfl⟩:=trodAll_nil r2
 obtain rfl:args=#[v0,v1,v2]:=by cases args;simp_all
 simp only [List.cons_append,List.nil_append,Rows.uptoBulkAll] at hB
 obtain⟨x0,w0,e0⟩:=RS (l3 0 25 v0 rfl rfl) h0
 obtain⟨x1,w1,e1⟩:=Qs (l3 1 32 v1 rfl rfl) h1
 obtain⟨x2,e2⟩:=Qt h2 (l3 2 3 v2 rfl rfl)
 obtain⟨k0,k1⟩:=RW (p:=x0) (by omega)
 have k2:=RX (s:=x1) (by omega)
 refine ((KN (w0:=W) x0 x1 x2 k0 k2 k1).calls (Wj e0 e1 e2)).mono fun e W' ⟨he,hb⟩=>?_
 subst he
 exact⟨_,rfl,KL laidOut (by rw [Tryz.params3];simp only [List.mem_cons,List.not_mem_nil,or_false];intro t ht;rcases ht with rfl|rfl|rfl<;>exact⟨by kernel_rfl,by decide +kernel⟩) rfl rfl Tryz.underlying4 rfl hW0 hb⟩
theorem KQ (os:Os):laidMet Tryz.prog Rows.theoryStartsUptoRow.laid ((tU os).forCall (fun _ _=>0) ⟨#[],#[.agg #[.slice none 0 0,.slice none 0 0],.agg #[.slice none 0 0,.slice none 0 0,.slice none 0 0,.slice none 0 0,.slice none 0 0,.int .i64 0,.int .i64 0,.bool false],.int .i64 0],[]⟩).memory :=
 laidMet_of_run' 8 (by kernel_rfl) (by kernel_rfl)
theorem reads (os:Os) {H:Type}(enc:TypeId × Value->H):∃ IY,DataW.whole enc Tryz.prog ((tU os).forCall (fun _ _=>0) ⟨#[],#[.agg #[.slice none 0 0,.slice none 0 0],.agg #[.slice none 0 0,.slice none 0 0,.slice none 0 0,.slice none 0 0,.slice none 0 0,.int .i64 0,.int .i64 0,.bool false],.int .i64 0],[]⟩).memory Tryz.f3.params.toList Rows.theoryStartsSpec.vars false ((#[.agg #[.slice none 0 0,.slice none 0 0],.agg #[.slice none 0 0,.slice none 0 0,.slice none 0 0,.slice none 0 0,.slice none 0 0,.int .i64 0,.int .i64 0,.bool false],.int .i64 0]:Array Value)).toList 8=some ([.agg [.nil,.nil],.agg [.nil,.nil,.nil,.nil,.nil,.lit (.int .i64 0),.lit (.int .i64 0),.lit (.bool false)],.lit (.int .i64 0)],[],IY) :=
 ⟨[],by kernel_rfl⟩
set_option maxRecDepth 100000 in
theorem lifted (os:Os) (started:os.Started) (H:Type) (enc:TypeId × Value->H) (F:Stop.Interp) :
  ReturnsInHanded {} Tryz.checked os 3 .any ((Rows.OpenSpec.upto Rows.theoryStartsSpec).preRow enc Tryz.prog Tryz.f3 Rows.theoryStartsUptoRow.domain false Rows.theoryStartsUptoRow.laid) (((Rows.OpenSpec.upto Rows.theoryStartsSpec).at F).post enc Tryz.prog Tryz.f3 false true false false):=by
 obtain⟨IY,hx⟩:=reads os enc
 refine returnsInHanded_of_row (C:=Tryz.checked) (s:=Rows.OpenSpec.upto Rows.theoryStartsSpec) own started (by kernel_rfl) Tryz.func3
  (witness_row_at (enc:=enc) (C:=Tryz.checked) false (tU os) #[.agg #[.slice none 0 0,.slice none 0 0],.agg #[.slice none 0 0,.slice none 0 0,.slice none 0 0,.slice none 0 0,.slice none 0 0,.int .i64 0,.int .i64 0,.bool false],.int .i64 0] rfl (by kernel_rfl) (by kernel_rfl) (by kernel_rfl)
   (OpenSpec.preRow_of_cond 8 hx (by kernel_rfl) (fun k hk=>by obtain rfl:=Option.some.inj hk;kernel_rfl) (by kernel_rfl) (KQ os))) ?_
 intro W base args ds gs before l3 hW _ hk _ _ _ _
 exact KP H enc W base args ds gs before l3 hW (of_decide_eq_true (hk _ rfl))
set_option maxRecDepth 100000 in
theorem closed:joinedFacts Tryz.prog 3 Tryz.f3 (Rows.OpenSpec.upto Rows.theoryStartsSpec).bare Rows.theoryStartsUptoRow=true:=by
 unfold joinedFacts
 exact dB (dB (dB (dB (dB (dB (dB (dB (dB (dB (dB (dB (dB (dB (dB (dB (dB (dB (dB (dB (dB (dB (dB (dB (dB (dB (dB (dB (dB (dB (dB k0 laidOut) DY) k3) k4) k5) k6) k7) k8) k9) k10) k11) k12) k13) k14) k15) k16) k17) k18) k19) k20) k21) k22) k23) Qz) QA) k26) k27) k28) k29) k30) k31
theorem said:Rows.TheoryStartsUptoSaid :=
 OpenClaim.holds_of_cond 3 Tryz.f3 rfl rfl rfl rfl rfl rfl rfl ⟨rfl,rfl,rfl,rfl,rfl⟩ rfl rfl rfl rfl rfl (by kernel_rfl) Tryz.func3 closed
  (of_decide_eq_true (by kernel_rfl)) (by unfold Func.isWrapper;first|(rw [if_pos (by decide +kernel)];kernel_rfl)|(rw [if_neg (by decide +kernel)];exact⟨rfl,rfl⟩))
  (fun os started H enc _ F=>by rw [OpenClaim.pre_eq_preRow];exact lifted os started H enc F)
end pN
end
end Go.Proofs.YtbofilglphfceaaGreat
