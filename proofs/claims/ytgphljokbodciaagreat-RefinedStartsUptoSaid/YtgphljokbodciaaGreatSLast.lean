/-
  Start returns the state of a query, Right reports its validity, and Done and Same are as promised, for every program, state and query whose bulk is at most 1048576.
-/
import Derived.Test.YtgphljokbodciaaGreatS53
namespace Go.Proofs.YtgphljokbodciaaGreat
set_option linter.unusedVariables false
set_option linter.unusedSimpArgs false
open Go.RowKit
section
set_option maxRecDepth 100000
def agJ (ρ:Hd) (x:List Gl × Int):List AV:=[dC ρ x.1,iv x.2]
def Cd (x:fX):Nat:=lK x.g+3
def EP (x:eD):Nat:=cJ Cd x.stack+cJ BO x.store+cJ BP x.binds+cJ BQ x.b9+8
def ER (x:List Gl × Int):Nat:=cJ lK x.1+3
theorem aem (n:Nat):bE Tryz.prog n 162 5 (tC .plain) Cd:=by
 intro H enc w sp held m hm cs d hl h
 obtain⟨k,xs,rfl,hx,hd,hf⟩:=bE.fields Tryz.underlying162 h
 have hb:=eT (xs:=xs)
 rw [hx] at hb
 obtain⟨x0,b0,_,h0⟩:=bE.part (i:=0) (n:=k+1) (RT (k+1)) (by omega) (by kernel_rfl) (by omega) (hf 0 112 0 rfl)
 obtain⟨x1,b1,_,h1⟩:=bE.part (i:=1) (n:=k+1) (bE.int Tryz.underlying3) (by omega) (by kernel_rfl) (by omega) (hf 1 3 3 rfl)
 obtain⟨x2,b2,_,h2⟩:=bE.part (i:=2) (n:=k+1) (bE.int Tryz.underlying3) (by omega) (by kernel_rfl) (by omega) (hf 2 3 4 rfl)
 refine⟨⟨x0,x1,x2⟩,?_,rfl,fun j a v ha hv=>?_⟩
 ·rw [hd,<-hb]
  simp only [List.size_toArray,List.length_cons,List.length_nil,ij,Nat.reduceAdd,Cd] at *
  omega
 ·match j with
  |0=>exact h0 0 a v ha hv
  |1=>exact h0 1 a v ha hv
  |2=>exact h0 2 a v ha hv
  |3=>exact h1 0 a v ha hv
  |4=>exact h2 0 a v ha hv
  |j+5=>cases ha
theorem YW (n:Nat):bE Tryz.prog n 63 1 (fun l=>[oo .plain l]) (fun l=>cJ Cd l+1):=(bE.slice Tryz.underlying63 (by kernel_rfl) (by decide) (aem n)).less (Nat.le_succ n)
theorem YX (n:Nat):bE Tryz.prog n 65 7 (zM .plain) EP:=by
 intro H enc w sp held m hm cs d hl h
 obtain⟨k,xs,rfl,hx,hd,hf⟩:=bE.fields Tryz.underlying65 h
 have hb:=eT (xs:=xs)
 rw [hx] at hb
 obtain⟨x0,b0,_,h0⟩:=bE.part (i:=0) (n:=k+1) (YW (k+1)) (by omega) (by kernel_rfl) (by omega) (hf 0 63 0 rfl)
 obtain⟨x1,b1,_,h1⟩:=bE.part (i:=1) (n:=k+1) (W_ (k+1)) (by omega) (by kernel_rfl) (by omega) (hf 1 35 1 rfl)
 obtain⟨x2,b2,_,h2⟩:=bE.part (i:=2) (n:=k+1) (Xa (k+1)) (by omega) (by kernel_rfl) (by omega) (hf 2 37 2 rfl)
 obtain⟨x3,b3,_,h3⟩:=bE.part (i:=3) (n:=k+1) (Xb (k+1)) (by omega) (by kernel_rfl) (by omega) (hf 3 38 3 rfl)
 obtain⟨x4,b4,_,h4⟩:=bE.part (i:=4) (n:=k+1) (bE.int Tryz.underlying3) (by omega) (by kernel_rfl) (by omega) (hf 4 3 4 rfl)
 obtain⟨x5,b5,_,h5⟩:=bE.part (i:=5) (n:=k+1) (bE.int Tryz.underlying3) (by omega) (by kernel_rfl) (by omega) (hf 5 3 5 rfl)
 obtain⟨x6,b6,_,h6⟩:=bE.part (i:=6) (n:=k+1) (bE.bool Tryz.underlying4) (by omega) (by kernel_rfl) (by omega) (hf 6 4 6 rfl)
 refine⟨⟨x0,x1,x2,x3,x4,x5,x6⟩,?_,rfl,fun j a v ha hv=>?_⟩
 ·rw [hd,<-hb]
  simp only [List.size_toArray,List.length_cons,List.length_nil,ij,Nat.reduceAdd,EP] at *
  omega
 ·match j with
  |0=>exact h0 0 a v ha hv
  |1=>exact h1 0 a v ha hv
  |2=>exact h2 0 a v ha hv
  |3=>exact h3 0 a v ha hv
  |4=>exact h4 0 a v ha hv
  |5=>exact h5 0 a v ha hv
  |6=>exact h6 0 a v ha hv
  |j+7=>cases ha
theorem OZ (n:Nat):bE Tryz.prog n 85 2 (agJ .plain) ER:=by
 intro H enc w sp held m hm cs d hl h
 obtain⟨k,xs,rfl,hx,hd,hf⟩:=bE.fields Tryz.underlying85 h
 have hb:=eT (xs:=xs)
 rw [hx] at hb
 obtain⟨x0,b0,_,h0⟩:=bE.part (i:=0) (n:=k+1) (Eg (k+1)) (by omega) (by kernel_rfl) (by omega) (hf 0 34 0 rfl)
 obtain⟨x1,b1,_,h1⟩:=bE.part (i:=1) (n:=k+1) (bE.int Tryz.underlying3) (by omega) (by kernel_rfl) (by omega) (hf 1 3 1 rfl)
 refine⟨(x0,x1),?_,rfl,fun j a v ha hv=>?_⟩
 ·rw [hd,<-hb]
  simp only [List.size_toArray,List.length_cons,List.length_nil,ij,Nat.reduceAdd,ER] at *
  omega
 ·match j with
  |0=>exact h0 0 a v ha hv
  |1=>exact h1 0 a v ha hv
  |j+2=>cases ha
section
variable {w:World}{r:Reach}{b0:Nat}{v:Value}{H:Type}{enc:TypeId × Value->H}{sp:Nat->Bool}{held:Bool}{d:DataW H}{ps:List MemPlace}
theorem UF (pE:Value.okWide Tryz.prog w r b0 65 v) (h:DataW.Trod enc Tryz.prog w 0 sp held 65 v d ps):∃ x:eD,EP x<=Rows.uptoBulk d/\aL (g0 w) w (rL .plain x) v:=by
 obtain⟨fuel,hf⟩:=h
 obtain⟨cs,rfl,bI⟩:=ur Tryz.underlying65 pE
 have hs:cs.size=7:=bI.trans (by kernel_rfl)
 obtain⟨x,h1,_,h2⟩:=YX (fuel+1) H enc w sp held fuel (by omega) _ _ (by rw [Array.length_toList];exact hs) hf
 refine⟨x,h1,.agg (by rw [hs];rfl) fun i a y ha hy=>h2 i a y ha ?_⟩
 rw [<-hy]
 exact Array.getElem?_toList
theorem Mo (pE:Value.okWide Tryz.prog w r b0 85 v) (h:DataW.Trod enc Tryz.prog w 0 sp held 85 v d ps):∃ x:List Gl × Int,ER x<=Rows.uptoBulk d/\aL (g0 w) w (qry .plain x.1 x.2) v:=by
 obtain⟨fuel,hf⟩:=h
 obtain⟨cs,rfl,bI⟩:=ur Tryz.underlying85 pE
 have hs:cs.size=2:=bI.trans (by kernel_rfl)
 obtain⟨x,h1,_,h2⟩:=OZ (fuel+1) H enc w sp held fuel (by omega) _ _ (by rw [Array.length_toList];exact hs) hf
 refine⟨x,h1,.agg (by rw [hs];rfl) fun i a y ha hy=>h2 i a y ha ?_⟩
 rw [<-hy]
 exact Array.getElem?_toList
end
end
theorem YY {c:eD}(h:EP c<=1048576):xy c:=by
 have a1:=dS (μ:=Cd) (fun x=>by unfold Cd;omega) c.stack
 have a2:=dS (μ:=BO) (fun x=>by unfold BO;omega) c.store
 have a3:=dS (μ:=BP) (fun x=>by unfold BP;omega) c.binds
 have a4:=dS (μ:=BQ) (fun x=>by unfold BQ;omega) c.b9
 unfold EP at h
 refine⟨by omega,by omega,by omega,by omega,fun x hx=>zQ ?_,fun x hx=>?_,fun x hx=>?_,fun x hx=>?_⟩
 ·have h1:=gT (μ:=Cd) hx
  have h2:Cd x=lK x.g+3:=rfl
  omega
 ·have h1:=gT (μ:=BO) hx
  have h2:BO x=x.n.size+mu x.a+5:=rfl
  exact⟨EC (by omega),by omega⟩
 ·have h1:=gT (μ:=BP) hx
  have h2:BP x=mT x.t+2:=rfl
  have h3:=Gz x.t
  exact⟨S5 _ _ (Nat.le_refl _) (by omega),by omega⟩
 ·have h1:=gT (μ:=BQ) hx
  have h2:BQ x=x.ids.length+3:=rfl
  show x.ids.length<=1099511627776
  omega
theorem ES:∀ l:List Gl,4*l.length<=cJ lK l
 |[]=>Nat.zero_le _
 |x::l=>by
  have:=ES l
  have h2:lK x=x.n.size+mu x.a+4:=rfl
  rw [cJ,List.length_cons]
  omega
theorem YZ {x:List Gl × Int}(h:ER x<=1048576):x.1.length<=1000000/\∀ g ∈ x.1,q9 g:=by
 have a1:=ES x.1
 unfold ER at h
 refine⟨by omega,fun g hg=>zQ ?_⟩
 have:=gT (μ:=lK) hg
 omega
theorem Ce:∀ (l:List Rl) (i:Int),(ep l i).length<=cJ sy l
 |[],_=>Nat.zero_le _
 |r::l,i=>by
  have:=Ce l (i+1)
  have a1:=dS qx r.aT
  have a2:=dS qx r.rem
  rw [ep,List.length_append,Ex,cJ]
  have h2:sy r=r.n.size+cJ kL r.aT+cJ kL r.rem+cJ lK r.guard+cJ lK r.body+7:=rfl
  omega
theorem UG {p:Pg}(h:Ef p<=1048576):(ep p.rs 0).length<=1048576:=by
 have:=Ce p.rs 0
 unfold Ef at h
 omega
section
namespace RefinedStarts
open Go.ChangeShapes Go.WideShapes Go.ChangeAt Go.RowKit
open Go.ChangeMaps (open_string shut_string)
set_option maxRecDepth 100000 in
theorem O0 (H:Type) (enc:TypeId × Value->H) (W:World) (base:Nat) (args:Array Value) (ds gs:List (DataW H)) (before:List MemPlace)
  (pE:∀ (j:Nat) t v,Tryz.f11.params[j]?=some t->args[j]?=some v->Value.okWide Tryz.prog W .any base t v)
  (hW:DataW.Whole enc Tryz.prog Tryz.f11.params.toList Rows.refinedStartsSpec.vars false W args.toList ds gs before) (hB:Rows.uptoBulkAll (ds++gs)<=1048576) :
  Calls Tryz.prog 11 args W fun e W'=>∃ v,e=.returned v/\Rows.refinedStartsSpec.post enc Tryz.prog Tryz.f11 false true false false W args v W':=by
 have hW0:=hW
 obtain⟨p,q,hA,hV,rfl,pL,hnd⟩:=hW
 obtain⟨rfl,rfl⟩:=trodVars_none hV
 have Cb:=hA
 rw [Tryz.params11] at hA pE
 obtain⟨v0,vs0,d0,ds0,p0,q0,bD,rfl,rfl,h0,r0⟩:=trodAll_cons hA
 obtain⟨v1,vs1,d1,ds1,p1,q1,rfl,rfl,rfl,h1,r1⟩:=trodAll_cons r0
 obtain⟨v2,vs2,d2,ds2,p2,q2,rfl,rfl,rfl,h2,r2⟩:=trodAll_cons r1
 obtain⟨rfl,rfl,rfl⟩:=trodAll_nil r2
 obtain rfl:args=#[v0,v1,v2]:=by cases args;simp_all
 simp only [List.cons_append,List.nil_append,Rows.uptoBulkAll] at hB
 obtain⟨x0,w0,e0⟩:=Xe (pE 0 25 v0 rfl rfl) h0
 obtain⟨x1,w1,e1⟩:=UF (pE 1 65 v1 rfl rfl) h1
 obtain⟨x2,w2,e2⟩:=Mo (pE 2 85 v2 rfl rfl) h2
 have k0:=Yc (p:=x0) (by omega)
 have k1:=YY (c:=x1) (by omega)
 have k2:=YZ (x:=x2) (by omega)
 have k3:=UG (p:=x0) (by omega)
 refine ((Km (w0:=W) x0 x1 x2.1 x2.2 k0.1 k1 k0.2 (by omega) k2.1 k2.2 (Oz x0 k0.1.rs (fun r hr=>(k0.2 r hr).h) (by omega)) af_).calls (ada e0 e1 e2)).mono fun e W' ⟨he,hb⟩=>?_
 subst he
 exact⟨_,rfl,Ok laidOut (by rw [Tryz.params11];simp only [List.mem_cons,List.not_mem_nil,or_false];intro t ht;rcases ht with rfl|rfl|rfl<;>exact⟨by kernel_rfl,by decide +kernel⟩) rfl rfl Tryz.underlying4 rfl hW0 hb⟩
theorem O1 (os:Os):laidMet Tryz.prog Rows.refinedStartsUptoRow.laid ((v5 os).forCall (fun _ _=>0) ⟨#[],#[.agg #[.slice none 0 0,.slice none 0 0],.agg #[.slice none 0 0,.slice none 0 0,.slice none 0 0,.slice none 0 0,.int .i64 0,.int .i64 0,.bool false],.agg #[.slice none 0 0,.int .i64 0]],[]⟩).memory :=
 laidMet_of_run' 8 (by kernel_rfl) (by kernel_rfl)
theorem reads (os:Os) {H:Type}(enc:TypeId × Value->H):∃ Mp,DataW.whole enc Tryz.prog ((v5 os).forCall (fun _ _=>0) ⟨#[],#[.agg #[.slice none 0 0,.slice none 0 0],.agg #[.slice none 0 0,.slice none 0 0,.slice none 0 0,.slice none 0 0,.int .i64 0,.int .i64 0,.bool false],.agg #[.slice none 0 0,.int .i64 0]],[]⟩).memory Tryz.f11.params.toList Rows.refinedStartsSpec.vars false ((#[.agg #[.slice none 0 0,.slice none 0 0],.agg #[.slice none 0 0,.slice none 0 0,.slice none 0 0,.slice none 0 0,.int .i64 0,.int .i64 0,.bool false],.agg #[.slice none 0 0,.int .i64 0]]:Array Value)).toList 8=some ([.agg [.nil,.nil],.agg [.nil,.nil,.nil,.nil,.lit (.int .i64 0),.lit (.int .i64 0),.lit (.bool false)],.agg [.nil,.lit (.int .i64 0)]],[],Mp) :=
 ⟨[],by kernel_rfl⟩
set_option maxRecDepth 100000 in
theorem lifted (os:Os) (started:os.Started) (H:Type) (enc:TypeId × Value->H) (F:Stop.Interp) :
  ReturnsInHanded {} Tryz.checked os 11 .any ((Rows.OpenSpec.upto Rows.refinedStartsSpec).preRow enc Tryz.prog Tryz.f11 Rows.refinedStartsUptoRow.domain false Rows.refinedStartsUptoRow.laid) (((Rows.OpenSpec.upto Rows.refinedStartsSpec).at F).post enc Tryz.prog Tryz.f11 false true false false):=by
 obtain⟨Mp,hx⟩:=reads os enc
 refine returnsInHanded_of_row (C:=Tryz.checked) (s:=Rows.OpenSpec.upto Rows.refinedStartsSpec) own started (by kernel_rfl) Tryz.func11
  (witness_row_at (enc:=enc) (C:=Tryz.checked) false (v5 os) #[.agg #[.slice none 0 0,.slice none 0 0],.agg #[.slice none 0 0,.slice none 0 0,.slice none 0 0,.slice none 0 0,.int .i64 0,.int .i64 0,.bool false],.agg #[.slice none 0 0,.int .i64 0]] rfl (by kernel_rfl) (by kernel_rfl) (by kernel_rfl)
   (OpenSpec.preRow_of_cond 8 hx (by kernel_rfl) (fun k hk=>by obtain rfl:=Option.some.inj hk;kernel_rfl) (by kernel_rfl) (O1 os))) ?_
 intro W base args ds gs before pE hW _ hk _ _ _ _
 exact O0 H enc W base args ds gs before pE hW (of_decide_eq_true (hk _ rfl))
set_option maxRecDepth 100000 in
theorem closed:joinedFacts Tryz.prog 11 Tryz.f11 (Rows.OpenSpec.upto Rows.refinedStartsSpec).bare Rows.refinedStartsUptoRow=true:=by
 unfold joinedFacts
 exact dI (dI (dI (dI (dI (dI (dI (dI (dI (dI (dI (dI (dI (dI (dI (dI (dI (dI (dI (dI (dI (dI (dI (dI (dI (dI (dI (dI (dI (dI (dI k0 laidOut) E_) k3) k4) k5) k6) k7) k8) k9) k10) k11) k12) k13) k14) k15) k16) k17) k18) k19) k20) k21) k22) k23) Uk) Ul) k26) k27) k28) k29) k30) k31
theorem said:Rows.RefinedStartsUptoSaid :=
 OpenClaim.holds_of_cond 11 Tryz.f11 rfl rfl rfl rfl rfl rfl rfl ⟨rfl,rfl,rfl,rfl,rfl⟩ rfl rfl rfl rfl rfl (by kernel_rfl) Tryz.func11 closed
  (of_decide_eq_true (by kernel_rfl)) (by unfold Func.isWrapper;first|(rw [if_pos (by decide +kernel)];kernel_rfl)|(rw [if_neg (by decide +kernel)];exact⟨rfl,rfl⟩))
  (fun os started H enc _ F=>by rw [OpenClaim.pre_eq_preRow];exact lifted os started H enc F)
end RefinedStarts
end
end Go.Proofs.YtgphljokbodciaaGreat
