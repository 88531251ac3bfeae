import Derived.JoinedCond
import Derived.Laws.StructEq
import Derived.Lib.Bytealg
import Derived.ProofKit
import Derived.Test.YtgjfgekaclobaaaGreatRows
import Derived.Test.YtgjfgekaclobaaaGreatCa21
namespace Go.Proofs.YtgjfgekaclobaaaGreat
set_option linter.unusedVariables false
set_option linter.unusedSimpArgs false
open Go.RowKit
section
set_option maxRecDepth 100000
open Go.ChangeShapes Go.WideShapes Go.ChangeAt Go.RowKit
theorem laidOut:laidOutB Tryz.prog=true:=by kernel_rfl
theorem HS:mapsRowed Tryz.prog=true:=by kernel_rfl
theorem X4:Tryz.prog.stopsHeard=true:=by kernel_rfl
theorem X5:Tryz.prog.mayEnter=true:=by kernel_rfl
theorem dU {a b:Bool}(h:a=true) (k:b=true):(a && b)=true:=by rw [h,k];rfl
end
section
set_option maxRecDepth 100000
attribute [local irreducible] ah aK ae aa
def Uh:CF Tryz.f420:=⟨_,by conv=>lhs;cbv⟩
theorem adp:aT Tryz.prog 420 Uh.1 Tryz.f420.ntmps:=bX Tryz.func420 Uh.2 Tryz.call420
def Z2:List Nat:=[4,0,1]
def Ui:CF Tryz.f398:=⟨_,by conv=>lhs;cbv⟩
theorem adq:aT Tryz.prog 398 Ui.1 Tryz.f398.ntmps:=bX Tryz.func398 Ui.2 Tryz.call398
def FW:List Nat:=[8,0,1,5,9,10,6,11,12,13,4,16,24,31,36,59,64,73,7,93,107,114,132,139]
def Uj:CF Tryz.f359:=⟨_,by conv=>lhs;cbv⟩
theorem adr:aT Tryz.prog 359 Uj.1 Tryz.f359.ntmps:=bX Tryz.func359 Uj.2 Tryz.call359
def Z3:List Nat:=[4,0,1]
def Uk:CF Tryz.f329:=⟨_,by conv=>lhs;cbv⟩
theorem ads:aT Tryz.prog 329 Uk.1 Tryz.f329.ntmps:=bX Tryz.func329 Uk.2 Tryz.call329
def Q2:List Nat:=[4,0,1]
def Ul:CF Tryz.f280:=⟨_,by conv=>lhs;cbv⟩
theorem Um:aT Tryz.prog 280 Ul.1 Tryz.f280.ntmps:=bX Tryz.func280 Ul.2 Tryz.call280
def An:List Nat:=[0,2]
def qi:ByteArray:=⟨#[43,45,42,47,37]⟩
section
variable {w0:World}{ρ:Hd}
theorem ibs (s:ByteArray) (c:Int) (w:World):(callFunc 431 #[.string s,.int .u8 c]).run Tryz.prog w=.ok (.value (.int .i64 (Lib.indexByte s.data.toList c.toNat.toUInt8))) w:=by
 rw [run_callFunc_extern Tryz.func431 (by kernel_rfl) (by kernel_rfl) (by kernel_rfl) (e:=Extern.BytealgIndexByte.indexByte) (by kernel_rfl),Lib.run_indexByteString]
 rfl
theorem HT (s:ByteArray) (c:Int):ah Tryz.prog w0 420 [.v (.string s),.v (.int .u8 c)] (iv (Lib.indexByte s.data.toList c.toNat.toUInt8)):=by
 refine adp.bu (by simp [Tryz.ntmps420]) (.v) ?_
 refine gq Z2 ?_
 repeat' (first
  |(refine aa.int rfl (ae.ext (xs:=[.string s,.int .u8 c]) rfl rfl (ibs s c)) fun _ _=>?_;refine gq Z2 ?_)
  |(refine fq ?_))
 all_goals (subst_vars;exact oU rfl)
theorem Q3 (n:ByteArray) (c:UInt8) (h:n.data.toList=[c]):ah Tryz.prog w0 398 [.v (.string qi),.v (.string n)] (iv (Lib.indexByte qi.data.toList c)):=by
 have bh:=nJ n
 rw [h] at bh
 have tX:=toL_eq n
 rw [h] at tX
 have hi:idx n.data.toList 0=some c:=FN h
 refine adq.bu (by simp [Tryz.ntmps398]) (.v) ?_
 refine gq FW ?_
 repeat' (first
  |(refine aa.int rfl (ae.Qr rfl rfl hi) fun _ _=>?_;refine gq FW ?_)
  |(refine aa.int rfl (ae.aL rfl (HT _ _) ⟨.v,.v,trivial⟩) fun _ _=>?_;refine gq FW ?_)
  |(refine bq (fun hb=>?_) (fun hb=>?_)<;>(try simp only [aM] at hb)<;>(first|refine gq FW ?_))
  |(refine bL fun m hm=>?_;(try rw [aF] at hm);refine gq FW ?_)
  |(refine fq ?_))
 all_goals first
  |(exfalso;simp only [List.length_cons,List.length_nil] at bh;omega)
  |(exfalso;rename_i hb;rw [tX,toL_eq] at hb;simp at hb;done)
  |(subst_vars;exact oU (by simp [qi]))
theorem X6 (n:ByteArray) (c:UInt8) (h:n.data.toList=[c]):ah Tryz.prog w0 359 [.v (.string qi),.v (.string n)] (iv (Lib.indexByte qi.data.toList c)):=by
 have hi:=Q3 (w0:=w0) n c h
 obtain⟨r,hr⟩:∃ r,r=Lib.indexByte qi.data.toList c:=⟨_,rfl⟩
 rw [<-hr] at hi ⊢
 refine adr.bu (by simp [Tryz.ntmps359]) (.v) ?_
 refine gq Z3 ?_
 repeat' (first
  |(refine aa.op rfl (ae.aL rfl hi ⟨.v,.v,trivial⟩) ?_;refine gq Z3 ?_)
  |(refine fq ?_))
 all_goals exact oU rfl
theorem J5 (n:ByteArray) (c:UInt8) (h:n.data.toList=[c]):ah Tryz.prog w0 329 [.v (.string qi),.v (.string n)] (.v (.bool (decide (Lib.indexByte qi.data.toList c>=0)))):=by
 have hi:=X6 (w0:=w0) n c h
 obtain⟨r,hr⟩:∃ r,r=Lib.indexByte qi.data.toList c:=⟨_,rfl⟩
 rw [<-hr] at hi ⊢
 refine ads.bu (by simp [Tryz.ntmps329]) (.v) ?_
 refine gq Q2 ?_
 repeat' (first
  |(refine aa.op rfl (ae.aL rfl hi ⟨.v,.v,trivial⟩) ?_;refine gq Q2 ?_)
  |(refine bq (fun hb=>?_) (fun hb=>?_)<;>(try simp only [aM] at hb)<;>(first|refine gq Q2 ?_))
  |(refine fq ?_))
 all_goals (refine eQ ?_;simp_all)
theorem Z4 (n:ByteArray) (c:UInt8) (h:n.data.toList=[c]):ju n=decide (Lib.indexByte qi.data.toList c>=0):=by
 have e:qi.data.toList=[43,45,42,47,37]:=rfl
 rw [ju,toL_eq n,h,e]
 simp only [toL_eq]
 have b:∀ d:UInt8,([c] == [d])=(d == c):=fun d=>by
  rw [Bool.eq_iff_iff];simp;exact eq_comm
 rw [b,b,b,b,b]
 unfold Lib.indexByte Lib.indexByte Lib.indexByte Lib.indexByte Lib.indexByte Lib.indexByte
 cases (43:UInt8) == c<;>cases (45:UInt8) == c<;>cases (42:UInt8) == c<;>cases (47:UInt8) == c<;>cases (37:UInt8) == c<;>rfl
theorem Q4 (n:ByteArray) (h:n.size ≠ 1):ju n=false:=by
 rw [nJ] at h
 rw [ju]
 simp only [toL_eq]
 have b:∀ d:UInt8,(n.data.toList == [d])=false:=fun d=>by
  rw [beq_eq_false_iff_ne];intro e;rw [e] at h;exact h rfl
 rw [b,b,b,b,b];rfl
theorem FX (n:ByteArray):ah Tryz.prog w0 280 [.v (.string n)] (.v (.bool (ju n))):=by
 have bh:=nJ n
 by_cases h1:n.size=1
 ·obtain⟨c,h⟩:∃ c,n.data.toList=[c]:=by
   rw [h1] at bh
   match hl:n.data.toList,bh with
   |[c],_=>exact⟨c,rfl⟩
   |[],h=>simp at h
   |_::_::_,h=>simp at h
  rw [Z4 n c h]
  have hi:=J5 (w0:=w0) n c h
  obtain⟨r,hr⟩:∃ r,r=decide (Lib.indexByte qi.data.toList c>=0):=⟨_,rfl⟩
  rw [<-hr] at hi ⊢
  refine Um.bu (by simp [Tryz.ntmps280]) (.v) ?_
  refine gq An ?_
  repeat' (first
   |(refine aa.bif rfl (ae.aL rfl hi ⟨.v,.v,trivial⟩) (fun _=>?_) (fun _=>?_)<;>refine gq An ?_)
   |(refine bq (fun hb=>?_) (fun hb=>?_)<;>(try simp only [aM] at hb)<;>(first|refine gq An ?_))
   |(refine bL fun m hm=>?_;(try rw [aF] at hm);refine gq An ?_)
   |(refine fq ?_))
  all_goals first
   |(exfalso;omega)
   |(refine eQ ?_;rename_i hx;rw [hx])
 ·rw [Q4 n h1]
  refine Um.bu (by simp [Tryz.ntmps280]) (.v) ?_
  refine gq An ?_
  repeat' (first
   |(refine bq (fun hb=>?_) (fun hb=>?_)<;>(try simp only [aM] at hb)<;>(first|refine gq An ?_))
   |(refine bL fun m hm=>?_;(try rw [aF] at hm);refine gq An ?_)
   |(refine fq ?_))
  all_goals first
   |exact eQ rfl
   |(exfalso;omega)
end
end
section
set_option maxRecDepth 100000
attribute [local irreducible] ah aK ae aa
def Z5:CF Tryz.f93:=⟨_,by conv=>lhs;cbv⟩
theorem ajR:aT Tryz.prog 93 Z5.1 Tryz.f93.ntmps:=bX Tryz.func93 Z5.2 Tryz.call93
def OA:List Nat:=[1,6,15,18,2,0,7,3,4]
section
variable {w0:World}{ρ:Hd}
theorem X7 (x:Tm) (hx:x.ok):ah Tryz.prog w0 136 [tm ρ x] (.v (.bool (eY x))):=Q0 FX x hx
theorem CK (x:At) (hx:x.ok) (hn:x.n.size<=1099511627776):ah Tryz.prog w0 89 [at_ ρ x] (.v (.bool (pO x))):=Q1 FX x hx hn
theorem IP (x:Gl) (hx:x.ok) (hn:x.n.size<=1099511627776):ah Tryz.prog w0 93 [gl ρ x] (.v (.bool (ua x))):=by
 obtain⟨o,n,a⟩:=x
 obtain⟨hl,hk⟩:=hx
 dsimp only at hl hk hn
 have hA:=CK (w0:=w0) (ρ:=ρ) ⟨n,a⟩ ⟨hl,hk⟩ hn
 have bC:=ud (w0:=w0) (ρ:=ρ) (a:=a) 20 (fun y hy c' h0 h1=>⟨(fY y _ _ h0).1,(fY y _ _ h0).2,CJ (ρ:=ρ) FX y 20 c' (hk.mem y hy) h0 h1 (by omega) (by omega)⟩) hl 200 (by omega) (by omega)
 have hr:=DV a
 obtain⟨⟨b,c1⟩,mU⟩:∃ p,p=cw a 20 200:=⟨_,rfl⟩
 rw [<-mU] at bC hr
 simp only at bC hr
 obtain⟨ra,Z6⟩:∃ ra,ra=pO ⟨n,a⟩:=⟨_,rfl⟩
 rw [<-Z6] at hA
 obtain⟨R,hR⟩:∃ R,R=ua ⟨o,n,a⟩:=⟨_,rfl⟩
 rw [<-hR]
 rw [ua] at hR
 simp only at hR
 rw [<-Z6,<-hr] at hR
 clear hr mU Z6 hk
 refine ajR.bu (by simp [Tryz.ntmps93]) (.v) ?_
 refine gq OA ?_
 repeat' (first
  |(refine aa.bif rfl (ae.aL rfl hA ⟨mI (ρ:=ρ) ⟨n,a⟩,trivial⟩) (fun _=>?_) (fun _=>?_)<;>refine gq OA ?_)
  |((refine aa.bif rfl (ae.ou (m:=[(0,1)]) (to:=[(1,some (fF c1))]) bC rfl ⟨Rn.pt rfl rfl,Rn.pure (bl _),Rn.pure .v,trivial⟩ (Rb.pure .v) rfl rfl ⟨⟨_,rfl,jY.pure (iE _)⟩,trivial⟩ ⟨⟨0,_,rfl,rfl,kE.pure (iE _)⟩,trivial⟩ rfl (by repeat (first|exact (fun _ _ h=>by cases h)|refine ph ?_ rfl)) (.inr rfl)) (fun hb=>?_) (fun hb=>?_)<;>refine gq OA ?_))
  |(refine bq (fun hb=>?_) (fun hb=>?_)<;>(try simp only [aM] at hb)<;>(first|refine gq OA ?_))
  |(refine bL fun m hm=>?_;(try rw [aF] at hm);refine gq OA ?_)
  |(refine fq ?_))
 all_goals (clear hA bC;refine eQ ?_;rw [hR];clear hR)
 all_goals first
  |(rw [if_pos (by omega)];simp_all;done)
  |(rw [if_neg (by omega)]
    obtain⟨ar,DW⟩:∃ ar,ar=arity o:=⟨_,rfl⟩
    rw [<-DW]
    unfold arity at DW
    (repeat' split at DW)<;>first|(exfalso;omega)|(simp_all<;>(intros;omega)))
  |(rw [if_neg (by omega),decide_eq_false (show ¬ arity o=(a.length:Int) by unfold arity;(repeat' split)<;>omega)];simp;done)
end
end
section
set_option maxRecDepth 100000
attribute [local irreducible] ah aK ae aa
end
section
set_option maxRecDepth 100000
attribute [local irreducible] ah aK ae aa
def vm (l:List Dc) (n:ByteArray) (ar:Int):Bool:=l.any fun d=>d.n.toList == n.toList && d.ar == ar
end
def IQ (P:Program) (w0:World) (F:AV) (xs:List AV) (b:Bool):Prop:=∃ gid args,dM F xs=some (gid,args)/\dm args/\ah P w0 gid args (.v (.bool b))
theorem ae.fnB {P:Program}{w0:World}{α:AA}{S:ad}{dr:Bool}{f:QO}{qs:List QO}{F:AV}{l:List AV}{b:Bool}(hf:f.ev α.tm=F) (ha:qs.map (·.ev α.tm)=l) (h:IQ P w0 F l b):ae P w0 dr (.call f qs) α S (.v (.bool b)) S:=by
 obtain⟨gid,args,h1,h2,h3⟩:=h
 subst hf ha
 exact ae.aL h1 h3 h2
def dc (x:Dc):AV:=.agg (Og x)
theorem CL (x:Dc):Pure (dc x):=.agg (FB x)
def gD {T:Type}(p:T->Bool):List T->Nat->Int
 |[],_=>-1
 |x::l,k=>if p x then k else gD p l (k+1)
theorem rS {T:Type}(p:T->Bool):∀ (l:List T) (k:Nat),decide (0<=gD p l k)=l.any p
 |[],_=>rfl
 |x::l,k=>by
  rw [gD,List.any_cons]
  split
  ·simp_all
  ·rw [rS p l];simp_all
section
variable {P:Program}{w0:World}{n:Nat}{α:AA}{S:ad}{Q:Exit->AA->ad->Prop}{K:List fc}
theorem aa.Q5 {σ T:Type}{B N:Nat}{st0:List (Nat × AV)}{ds:List DE}{so:σ->List (Nat × Ob)}{I:List T->σ->Prop}{rest:List T}(s':σ) (m:List (Nat × Nat)) (hI:I rest s') (hC:Canon B N m α S [] [] (so s')):aa P w0 true n (Zl P w0 n B N st0 ds so I Q K rest) (.out .normal []) α S:=⟨s',m,hI,hC⟩
end
section
variable {P:Program}{w0:World}{α:AA}{S:ad}
theorem IS {o:Op}{t:Nat}{x y:QO}(h:res P.toTables o=some (.eqs t x y)):∃ u v s,o=.binOp .eql t u v s/\x=qo u/\y=qo v:=by
 cases o with
 |binOp YX t' u v s =>
  simp only [res] at h
  split at h
  ·cases h
  ·cases h
  ·cases h
  ·cases h
  ·split at h
   ·simp only [oI_,dp.eqs.injEq] at h
    obtain⟨rfl,rfl,rfl⟩:=h
    exact⟨_,_,_,rfl,rfl,rfl⟩
   ·cases h
  ·cases h
 |_ =>
  simp only [res] at h
  repeat' split at h
  all_goals cases h
def OB (P:Program) (t:Nat) (a b:Value) (e:Bool):Prop:=(∃ xs ys,a=.agg xs/\b=.agg ys)/\P.eqGuardType P.depth t=false/\∀ w,(binOp .eql t a b).run P w=.ok (.bool e) w
theorem IT {t:Nat}{x y:QO}{a b:Value}{e:Bool}(h:OB P t a b e) {n:Nat}{o:Oper}(hr:res P.toTables o.op=some (.eqs t x y)) (β:AA) (hx:toV (x.ev β.tm)=some a) (hy:toV (y.ev β.tm)=some b):ef P w0 n o β S (.v (.bool e)) S:=by
 obtain⟨u,v,s,ho,rfl,rfl⟩:=IS hr
 rw [aJ] at hx hy
 refine aS.ops (aS.quiet fun A g c w hS hA=>⟨.bool e,?_,.v⟩) fun c e=>by rw [ho] at e;cases e
 have e1:=uc (hA.ev u) hx
 have e2:=uc (hA.ev v) hy
 obtain⟨⟨xs,ys,rfl,rfl⟩,h1,h2⟩:=h
 have hg:(eqGuard .eql t u v (.agg xs) (.agg ys)).run P w=.ok () w:=by
  simp [eqGuard,h1]
 simp only [execOp,ho,e1,e2,Sem.run_bind,hg,Result.andThen_ok,h2 w,Sem.run_pure]
theorem ae.eqs {dr:Bool}{t:Nat}{x y:QO}{a b:Value}{e:Bool}(hx:toV (x.ev α.tm)=some a) (hy:toV (y.ev α.tm)=some b) (h:OB P t a b e):ae P w0 dr (.eqs t x y) α S (.v (.bool e)) S:=by
 cases dr with
 |false=>exact fun n o hr=>IT h hr α hx hy
 |true =>
  intro n o hr
  obtain⟨u,v,s,ho,hu,hv⟩:=IS hr
  have key:∀ z ∈ o.op.operands,(α.only (cB o)).ev z=α.ev z:=fun z hz=>ew fun t e=>ee (by rw [<-e];exact hz)
  have h1:(α.only (cB o)).ev u=α.ev u:=key u (by rw [ho];simp [Op.operands])
  have h2:(α.only (cB o)).ev v=α.ev v:=key v (by rw [ho];simp [Op.operands])
  have h3:∀ T,ef P w0 n o (α.only (cB o)) T (.v (.bool e)) T:=fun T=>IT h hr _ (by rw [hu,aJ,h1,<-aJ,<-hu];exact hx) (by rw [hv,aJ,h2,<-aJ,<-hv];exact hy)
  exact⟨h3 S,fun _=>⟨rfl,h3⟩,fun _=>rfl⟩
end
end Go.Proofs.YtgjfgekaclobaaaGreat
