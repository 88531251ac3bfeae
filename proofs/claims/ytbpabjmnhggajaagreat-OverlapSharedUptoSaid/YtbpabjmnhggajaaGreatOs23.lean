import Derived.JoinedCond
import Derived.Laws.StructEq
import Derived.ProofKit
import Derived.Test.YtbpabjmnhggajaaGreatRows
import Derived.Test.YtbpabjmnhggajaaGreatOs22
namespace Go.Proofs.YtbpabjmnhggajaaGreat
set_option linter.unusedVariables false
set_option linter.unusedSimpArgs false
open Go.RowKit
section
set_option maxRecDepth 100000
open Go.ChangeShapes Go.WideShapes Go.ChangeAt Go.RowKit
theorem laidOut:laidOutB Tryz.prog=true:=by kernel_rfl
theorem KD:mapsRowed Tryz.prog=true:=by kernel_rfl
theorem WR:Tryz.prog.stopsHeard=true:=by kernel_rfl
theorem WS:Tryz.prog.mayEnter=true:=by kernel_rfl
theorem ep {a b:Bool}(h:a=true) (k:b=true):(a && b)=true:=by rw[h,k];rfl
end
section
namespace OverlapShared
set_option maxRecDepth 100000
open Go.ChangeShapes Go.WideShapes Go.ChangeAt Go.RowKit
theorem k0:(Rows.overlapSharedUptoRow.wf (OpenSpec.ofChange (Rows.OpenSpec.upto Rows.overlapSharedSpec).bare))=true:=by kernel_rfl
theorem k3:(Tryz.f4.params.all (Tryz.prog.readableRec ·))=true:=by kernel_rfl
theorem k4:(namedTie Tryz.prog Rows.overlapSharedUptoRow.named (Rows.OpenSpec.upto Rows.overlapSharedSpec).bare.vars)=true:=by kernel_rfl
theorem k5:((Rows.overlapSharedUptoRow.stops == []))=true:=by kernel_rfl
theorem k6:((Tryz.prog.stops == []))=true:=by kernel_rfl
theorem k7:((Rows.overlapSharedUptoRow.knobs == []))=true:=by kernel_rfl
theorem k8:((Tryz.prog.stopKnobs == []))=true:=by kernel_rfl
theorem k9:((Rows.overlapSharedUptoRow.inPlace == Tryz.prog.inPlace 4))=true:=by kernel_rfl
theorem k10:((Rows.overlapSharedUptoRow.unfollowed == Tryz.prog.unfollowed 4))=true:=by kernel_rfl
theorem k11:((Rows.overlapSharedUptoRow.recurses == Tryz.prog.recurses 4))=true:=by kernel_rfl
theorem k12:((Rows.overlapSharedUptoRow.named == Tryz.prog.varsNamed 4))=true:=by kernel_rfl
theorem k13:((Rows.overlapSharedUptoRow.maps == (Tryz.f4.params.toList++(Rows.OpenSpec.upto Rows.overlapSharedSpec).bare.plain.varTypes Tryz.prog).any (Tryz.prog.mapsRec ·)))=true:=by kernel_rfl
theorem k14:((Rows.overlapSharedUptoRow.ifaces == (Tryz.f4.params.toList++(Rows.OpenSpec.upto Rows.overlapSharedSpec).bare.plain.varTypes Tryz.prog).any (Tryz.prog.ifacesRec ·)))=true:=by kernel_rfl
theorem k15:((Rows.overlapSharedUptoRow.mapsOut == Tryz.prog.mapsAmong Tryz.f4.resultTypes.toList))=true:=by kernel_rfl
theorem k16:((Rows.overlapSharedUptoRow.loops == (Tryz.f4.params.toList++(Rows.OpenSpec.upto Rows.overlapSharedSpec).bare.plain.varTypes Tryz.prog).any (Tryz.prog.loopsFrom ·)))=true:=by kernel_rfl
theorem k17:((Rows.overlapSharedUptoRow.wideKeys == (Tryz.f4.params.toList++(Rows.OpenSpec.upto Rows.overlapSharedSpec).bare.plain.varTypes Tryz.prog++Tryz.f4.resultTypes.toList).any (Tryz.prog.wideKeysFrom ·)))=true:=by kernel_rfl
theorem k18:((Rows.OpenSpec.upto Rows.overlapSharedSpec).bare.vars.all (Tryz.prog.varReadable ·))=true:=by kernel_rfl
theorem k19:(Tryz.f4.resultTypes.all (fun t=>Tryz.prog.readableRec t && decide (t < Tryz.prog.types.size)))=true:=by kernel_rfl
theorem k20:((Rows.overlapSharedUptoRow.ifacesOut == Tryz.f4.resultTypes.toList.any (Tryz.prog.ifacesRec ·)))=true:=by kernel_rfl
theorem k21:((Rows.overlapSharedUptoRow.loopsOut == Tryz.f4.resultTypes.toList.any (Tryz.prog.loopsFrom ·)))=true:=by kernel_rfl
theorem k22:((Rows.overlapSharedUptoRow.plainKeys == Tryz.prog.plainKeys))=true:=by kernel_rfl
theorem k23:(Rows.overlapSharedUptoRow.shortTexts.isNone)=true:=by kernel_rfl
theorem k26:((Rows.overlapSharedUptoRow.lifted == Tryz.prog.liftsFinal))=true:=by kernel_rfl
theorem k27:((Tryz.prog.make == some Rows.overlapSharedUptoRow.make))=true:=by kernel_rfl
theorem k28:((Rows.overlapSharedUptoRow.kinds == (if Rows.overlapSharedUptoRow.domain.isEmpty then [] else Tryz.f4.params.toList.map fun t=>match Tryz.prog.underlying t with|some (.int k)=>some k|_=>none)))=true:=by kernel_rfl
theorem k29:((Rows.overlapSharedUptoRow.pinned == Rows.overlapSharedUptoRow.pinnedBy))=true:=by kernel_rfl
theorem k30:((Rows.overlapSharedUptoRow.veiled == (Tryz.f4.params.toList++(Rows.OpenSpec.upto Rows.overlapSharedSpec).bare.plain.varTypes Tryz.prog++Tryz.f4.resultTypes.toList).any (Tryz.prog.veiledRec ·)))=true:=by kernel_rfl
theorem k31:(Rows.overlapSharedUptoRow.veiledFits Tryz.prog Tryz.f4.params.toList (Tryz.f4.params.toList++(Rows.OpenSpec.upto Rows.overlapSharedSpec).bare.plain.varTypes Tryz.prog++Tryz.f4.resultTypes.toList))=true:=by kernel_rfl
end OverlapShared
end
section
set_option maxRecDepth 100000
attribute [local irreducible] ah aC af ad
def ag9:FQ 69 Tryz.f69:=a_ Tryz.func69 Tryz.call69
def Ps:List Nat:=[1,6,15,18,2,0,7,3,4]
section
variable {w0:World}{ρ:Hd}
theorem WT (x:Tm) (hx:x.ok):ah Tryz.prog w0 173 [tm ρ x] (.v (.bool (dO x))):=Sq Db x hx
theorem AQ (x:At) (hx:x.ok) (hn:x.n.size<=1099511627776):ah Tryz.prog w0 68 [at_ ρ x] (.v (.bool (jI x))):=Sr Db x hx hn
theorem vX (x:Gl) (hx:x.ok) (hn:x.n.size<=1099511627776):ah Tryz.prog w0 69 [gl ρ x] (.v (.bool (ft x))):=by
 obtain⟨o,n,a⟩:=x;obtain⟨hl,hk⟩:=hx;dsimp only at hl hk hn;have hA:=AQ (w0:=w0) (ρ:=ρ) ⟨n,a⟩ ⟨hl,hk⟩ hn;have bH:=vW (w0:=w0) (ρ:=ρ) (a:=a) 20 (fun y hy c' h0 h1=>⟨(gI y _ _ h0).1,(gI y _ _ h0).2,EL (ρ:=ρ) Db y 20 c' (hk.mem y hy) h0 h1 (by omega) (by omega)⟩) hl 200 (by omega) (by omega);have hr:=FO a;obtain⟨⟨b,c1⟩,nK⟩:∃ p,p=cD a 20 200:=⟨_,rfl⟩;rw[<-nK] at bH hr;simp only at bH hr;obtain⟨ra,Pt⟩:∃ ra,ra=jI ⟨n,a⟩:=⟨_,rfl⟩;rw[<-Pt] at hA;obtain⟨R,hR⟩:∃ R,R=ft ⟨o,n,a⟩:=⟨_,rfl⟩;rw[<-hR];rw[ft] at hR;simp only at hR;rw[<-Pt,<-hr] at hR;clear hr nK Pt hk;refine st ag9 Ps .v ?_
 repeat' (first
  |refine bg Ps (af.aw rfl hA ⟨gF (ρ:=ρ) ⟨n,a⟩,trivial⟩) (fun _=>?_) fun _=>?_
  |(refine bg Ps (af.po (m:=[(0,1)]) (to:=[(1,some (fT c1))]) bH rfl ⟨Rn.pt rfl rfl,Rn.pure (aS _),Rn.pure .v,trivial⟩ (Rb.pure .v) rfl rfl ⟨⟨_,rfl,kP.pure (iS _)⟩,trivial⟩ ⟨⟨0,_,rfl,rfl,lK.pure (iS _)⟩,trivial⟩ rfl (by repeat (first|exact (fun _ _ h=>by grind)|refine qw ?_ rfl)) (.inr rfl)) (fun hb=>?_) fun hb=>?_)
  |refine cg Ps (fun hb=>?_) fun hb=>?_
  |refine lg Ps fun m hm=>?_
  |(refine fq ?_))
 all_goals (clear hA bH;refine eA ?_;rw[hR];clear hR)
 all_goals first
  |rw[if_pos (by omega)];simp_all;done
  |(rw[if_neg (by omega)]
    obtain⟨ar,FP⟩:∃ ar,ar=arity o:=⟨_,rfl⟩;rw[<-FP];unfold arity at FP
    (repeat' split at FP)<;>first|(exfalso;omega)|(simp_all<;>(intros;omega)))
  |rw[if_neg (by omega),decide_eq_false (show ¬ arity o=(a.length:Int) by unfold arity;(repeat' split)<;>omega)];simp;done
end
end
section
set_option maxRecDepth 100000
attribute [local irreducible] ah aC af ad
end
section
set_option maxRecDepth 100000
attribute [local irreducible] ah aC af ad
def w_ (l:List Dc) (n:ByteArray) (ar:Int):Bool:=l.any fun d=>d.n.toList == n.toList && d.ar == ar
end
def FR (P:Program) (w0:World) (F:AV) (xs:List AV) (b:Bool):Prop:=∃ gid args,dW F xs=some (gid,args)/\dK args/\ah P w0 gid args (.v (.bool b))
theorem af.Ze {P:Program}{w0:World}{α:AA}{S:ae}{dr:Bool}{f:QO}{qs:List QO}{F:AV}{l:List AV}{b:Bool}(hf:f.ev α.tm=F) (ha:qs.map (·.ev α.tm)=l) (h:FR P w0 F l b):af P w0 dr (.call f qs) α S (.v (.bool b)) S:=by
 obtain⟨gid,args,h1,h2,h3⟩:=h;subst hf ha;exact af.aw h1 h3 h2
def dc (x:Dc):AV:=.agg (O6 x)
theorem EM (x:Dc):Pure (dc x):=.agg (HQ x)
def du {T:Type}(p:T->Bool):List T->Nat->Int
 |[],_=>-1
 |x::l,k=>if p x then k else du p l (k+1)
theorem tB {T:Type}(p:T->Bool):∀ (l:List T) (k:Nat),decide (0<=du p l k)=l.any p
 |[],_=>rfl
 |x::l,k=>by
  rw[du,List.any_cons];split
  ·grind
  ·rw[tB p l];simp_all
section
variable {P:Program}{w0:World}{n:Nat}{α:AA}{S:ae}{Q:Exit->AA->ae->Prop}{K:List ff}
theorem ad.H_ {σ T:Type}{B N:Nat}{st0:List (Nat × AV)}{ds:List DE}{so:σ->List (Nat × Ob)}{I:List T->σ->Prop}{rest:List T}(s':σ) (m:List (Nat × Nat)) (hI:I rest s') (hC:Canon B N m α S [] [] (so s')):ad P w0 true n (ML P w0 n B N st0 ds so I Q K rest) (.out .normal []) α S:=⟨s',m,hI,hC⟩
theorem ad.ag_ {σ T:Type}{B N:Nat}{st0:List (Nat × AV)}{ds:List DE}{so:σ->List (Nat × Ob)}{I:List T->σ->Prop}{rest:List T}(so':List (Nat × Ob)) (m:List (Nat × Nat)) (hC:Canon B N m α S [] [] so') (h:ad P w0 false n Q (.out .ret K) (eJ st0 ds) (aq so' N)):ad P w0 true n (ML P w0 n B N st0 ds so I Q K rest) (.out .ret []) α S:=⟨so',m,hC,h⟩
end
section
set_option maxRecDepth 100000
attribute [local irreducible] ah aC af ad
def acI:FQ 226 Tryz.f226:=a_ Tryz.func226 Tryz.call226
def iT:List Nat:=[8,0,5,4,7,9,1,16]
def acJ:FQ 263 Tryz.f263:=a_ Tryz.func263 Tryz.call263
def tC:List Nat:=[8,0,5,4,7,9,1,16]
def acK:FQ 191 Tryz.f191:=a_ Tryz.func191 Tryz.call191
def tD:List Nat:=[8,0,5,4,7,9,1,16]
def acL:FQ 131 Tryz.f131:=a_ Tryz.func131 Tryz.call131
def Sw:List Nat:=[4,0,1]
section
variable {w0:World}{ρ:Hd}
theorem Zf (p:Bd->Bool) (l:List Bd) (gid:FuncId) (fs cs:List AV) (hl:l.length<=1099511627776) (hF:Pure (.fn (.func gid) fs cs)) (h:∀ x ∈ l,FR Tryz.prog w0 (.fn (.func gid) fs cs) [bd ρ x] (p x)):ah Tryz.prog w0 263 [kQ ρ l,.fn (.func gid) fs cs] (iv (du p l 0)):=by
 obtain⟨R,hR⟩:∃ R,R=du p l 0:=⟨_,rfl⟩;rw[<-hR];refine st acJ tC .v ?_
 repeat' (first
  |refine lg tC fun m hm=>?_
  )
 refine ad.bu (σ:=Int) 0 0 [] (fun i=>[(0,kQ ρ l),(1,.fn (.func gid) fs cs),(7,.v (.int .i64 m)),(8,.v (.int .i64 i))]) [] (fun _=>[])
  (fun i=>∃ k:Nat,i=k/\k<=l.length/\R=du p (l.drop k) k) (fun i=>l.length - i.toNat) 0 ⟨0,rfl,by simp,by grind⟩ rfl ⟨⟨.ao rfl (Pure.aV (cJ _)),.ao rfl (Pure.aV hF),.ao rfl .v,.ao rfl .v,trivial⟩,rfl,trivial,rfl,rfl,rfl⟩ ?_
 rintro i ⟨k,hi,hk,hp⟩;clear hR;refine gq tC ?_;by_cases aA:k < l.length
 ·obtain⟨x,hx,bK⟩:=bf aA;rw[bK,du] at hp;have hf:=h x (eU hx)
  repeat' (first
   |refine og tC (af.ind rfl rfl (aY (l:=l) hi hx) (aZ fun _=>rfl)) ?_
   |refine bg tC (af.Ze rfl rfl hf) (fun _=>?_) fun _=>?_
   |refine cg tC (fun hb=>?_) fun hb=>?_
   |refine ag tC fun _ _=>?_
   |refine ad.aH ?_;refine gq tC ?_
   |refine ad.cP ?_;refine gq tC ?_
   |(refine fq ?_))
  all_goals first
   |rw[if_pos (by grind)] at hp;refine jD ?_;omega
   |(rw[if_neg (by grind)] at hp
     refine ad.aO (σ:=Int) _ [] ?_ ?_ ⟨⟨.ao rfl (Pure.aV (cJ _)),.ao rfl (Pure.aV hF),.ao rfl .v,.ao rfl .v,trivial⟩,rfl,trivial,rfl,rfl,rfl⟩
     ·grind
     ·omega)
   |exfalso;omega
 ·skip
  repeat' (first
   |refine cg tC (fun hb=>?_) fun hb=>?_
   |refine ad.aH ?_;refine gq tC ?_
   |(refine fq ?_))
  all_goals first
   |exfalso;omega
   |rw[hp,List.drop_eq_nil_of_le (by omega)];exact jD rfl
theorem Zg (p:Dc->Bool) (l:List Dc) (gid:FuncId) (fs cs:List AV) (hl:l.length<=1099511627776) (hF:Pure (.fn (.func gid) fs cs)) (h:∀ x ∈ l,FR Tryz.prog w0 (.fn (.func gid) fs cs) [dc x] (p x)):ah Tryz.prog w0 191 [gk ρ l,.fn (.func gid) fs cs] (iv (du p l 0)):=by
 obtain⟨R,hR⟩:∃ R,R=du p l 0:=⟨_,rfl⟩;rw[<-hR];refine st acK tD .v ?_
 repeat' (first
  |refine lg tD fun m hm=>?_
  )
 refine ad.bu (σ:=Int) 0 0 [] (fun i=>[(0,gk ρ l),(1,.fn (.func gid) fs cs),(7,.v (.int .i64 m)),(8,.v (.int .i64 i))]) [] (fun _=>[])
  (fun i=>∃ k:Nat,i=k/\k<=l.length/\R=du p (l.drop k) k) (fun i=>l.length - i.toNat) 0 ⟨0,rfl,by simp,by grind⟩ rfl ⟨⟨.ao rfl (Pure.aV (dU _)),.ao rfl (Pure.aV hF),.ao rfl .v,.ao rfl .v,trivial⟩,rfl,trivial,rfl,rfl,rfl⟩ ?_
 rintro i ⟨k,hi,hk,hp⟩;clear hR;refine gq tD ?_;by_cases aA:k < l.length
 ·obtain⟨x,hx,bK⟩:=bf aA;rw[bK,du] at hp;have hf:=h x (eU hx)
  repeat' (first
   |refine og tD (af.ind rfl rfl (aY (l:=l) hi hx) (aZ fun _=>rfl)) ?_
   |refine bg tD (af.Ze rfl rfl hf) (fun _=>?_) fun _=>?_
   |refine cg tD (fun hb=>?_) fun hb=>?_
   |refine ag tD fun _ _=>?_
   |refine ad.aH ?_;refine gq tD ?_
   |refine ad.cP ?_;refine gq tD ?_
   |(refine fq ?_))
  all_goals first
   |rw[if_pos (by grind)] at hp;refine jD ?_;omega
   |(rw[if_neg (by grind)] at hp
     refine ad.aO (σ:=Int) _ [] ?_ ?_ ⟨⟨.ao rfl (Pure.aV (dU _)),.ao rfl (Pure.aV hF),.ao rfl .v,.ao rfl .v,trivial⟩,rfl,trivial,rfl,rfl,rfl⟩
     ·grind
     ·omega)
   |exfalso;omega
 ·skip
  repeat' (first
   |refine cg tD (fun hb=>?_) fun hb=>?_
   |refine ad.aH ?_;refine gq tD ?_
   |(refine fq ?_))
  all_goals first
   |exfalso;omega
   |rw[hp,List.drop_eq_nil_of_le (by omega)];exact jD rfl
theorem Zh (p:Dc->Bool) (l:List Dc) (gid:FuncId) (fs cs:List AV) (hl:l.length<=1099511627776) (hF:Pure (.fn (.func gid) fs cs)) (h:∀ x ∈ l,FR Tryz.prog w0 (.fn (.func gid) fs cs) [dc x] (p x)):ah Tryz.prog w0 131 [gk ρ l,.fn (.func gid) fs cs] (.v (.bool (l.any p))):=by
 have hI:=Zg (w0:=w0) (ρ:=ρ) p l gid fs cs hl hF h;have qx:=tB p l 0;obtain⟨j,hj⟩:∃ j,j=du p l 0:=⟨_,rfl⟩;rw[<-hj] at hI qx;refine st acL Sw .v ?_
 repeat' (first
  |refine ig Sw (af.aw rfl hI ⟨dU _,hF,trivial⟩) fun _ _=>?_
  |refine cg Sw (fun hb=>?_) fun hb=>?_
  |(refine fq ?_))
 all_goals (subst_vars;refine eA ?_;rw[<-qx];simp_all)
end
end
section
variable {P:Program}{w0:World}{α:AA}{S:ae}
theorem Lp {o:Op}{t:Nat}{x y:QO}(h:res P.toTables o=some (.eqs t x y)):∃ u v s,o=.binOp .eql t u v s/\x=qo u/\y=qo v:=by
 cases o with
 |binOp UN t' u v s =>
  simp only[res] at h;split at h
  ·grind
  ·grind
  ·grind
  ·grind
  ·split at h
   ·simp only[oI_,ee.eqs.injEq] at h;obtain⟨rfl,rfl,rfl⟩:=h;exact⟨_,_,_,rfl,rfl,rfl⟩
   ·grind
  ·grind
 |_ =>
  simp only[res] at h
  repeat' split at h
  all_goals cases h
def Pu (P:Program) (t:Nat) (a b:Value) (e:Bool):Prop:=(∃ xs ys,a=.agg xs/\b=.agg ys)/\P.eqGuardType P.depth t=false/\∀ w,(binOp .eql t a b).run P w=.ok (.bool e) w
theorem Lq {t:Nat}{x y:QO}{a b:Value}{e:Bool}(h:Pu P t a b e) {n:Nat}{o:Oper}(hr:res P.toTables o.op=some (.eqs t x y)) (β:AA) (hx:toV (x.ev β.tm)=some a) (hy:toV (y.ev β.tm)=some b):ez P w0 n o β S (.v (.bool e)) S:=by
 obtain⟨u,v,s,ho,rfl,rfl⟩:=Lp hr;rw[aI] at hx hy;refine aQ.ops (aQ.quiet fun A g c w hS hA=>⟨.bool e,?_,.v⟩) fun c e=>by grind
 have e1:=vV (hA.ev u) hx;have e2:=vV (hA.ev v) hy;obtain⟨⟨xs,ys,rfl,rfl⟩,h1,h2⟩:=h;have hg:(eqGuard .eql t u v (.agg xs) (.agg ys)).run P w=.ok () w:=by
  simp[eqGuard,h1]
 simp only[execOp,ho,e1,e2,Sem.run_bind,hg,Result.andThen_ok,h2 w,Sem.run_pure]
theorem af.eqs {dr:Bool}{t:Nat}{x y:QO}{a b:Value}{e:Bool}(hx:toV (x.ev α.tm)=some a) (hy:toV (y.ev α.tm)=some b) (h:Pu P t a b e):af P w0 dr (.eqs t x y) α S (.v (.bool e)) S:=by
 cases dr with
 |false=>exact fun n o hr=>Lq h hr α hx hy
 |true =>
  intro n o hr;obtain⟨u,v,s,ho,hu,hv⟩:=Lp hr;have key:∀ z ∈ o.op.operands,(α.only (cG o)).ev z=α.ev z:=fun z hz=>eH fun t e=>en (by grind);have h1:(α.only (cG o)).ev u=α.ev u:=key u (by rw[ho];simp[Op.operands]);have h2:(α.only (cG o)).ev v=α.ev v:=key v (by rw[ho];simp[Op.operands]);have h3:∀ T,ez P w0 n o (α.only (cG o)) T (.v (.bool e)) T:=fun T=>Lq h hr _ (by grind[aI]) (by grind[aI]);exact⟨h3 S,fun _=>⟨rfl,h3⟩,fun _=>rfl⟩
end
structure PS where
 N:bB
 vs:List (Int × Int)
 js:JS
def gy (s:PS) (t:Tm) (l:List Nat):PS :=
 ⟨s.N++[(t,l)],if t.k=1 then fl s.vs t.i s.N.length else s.vs,
  ⟨s.js.up++[s.N.length],if t.k=1 then s.js.sh else fl s.js.sh s.N.length s.N.length,if t.k=1 then fl s.js.ls s.N.length t.i else s.js.ls⟩⟩
mutual
def bM:PS->Tm->PS × Nat
 |s,⟨k,i,n,a⟩=>match (if k=1 then aB s.vs i else none) with
  |some j=>(s,j.toNat)
  |none=>(gy (cO s a).1 ⟨k,i,n,a⟩ (cO s a).2,(cO s a).1.N.length)
def cO:PS->List Tm->PS × List Nat
 |s,[]=>(s,[])
 |s,x::l=>((cO (bM s x).1 l).1,(bM s x).2::(cO (bM s x).1 l).2)
end
structure nW (s:PS):Prop where
 vs:∀ v,aB s.vs v=(mC s.N v).map Int.ofNat
 up:s.js.up.length=s.N.length
 nd:(s.vs.map (·.1)).Nodup
theorem qZ {T:Type}:∀ {l:List (Int × T)}{i:Int},i ∈ l.map (·.1) ↔ ∃ v,aB l i=some v
 |[],i=>by simp[aB]
 |p::l,i=>by
  rw[List.map_cons,List.mem_cons,aB];by_cases e:p.1=i
  ·rw[if_pos e];simp[e]
  ·rw[if_neg e,<-qZ];simp[Ne.symm e]
theorem uN {T:Type}:∀ {l:List (Int × T)}{i:Int}{v:T},aB l i=none->fl l i v=l++[(i,v)]
 |[],_,_,_=>rfl
 |p::l,i,v,h=>by
  rw[aB] at h;rw[fl];by_cases e:p.1=i
  ·rw[if_pos e] at h;cases h
  ·rw[if_neg e] at h;rw[if_neg e,uN h];rfl
structure Grown (s s':PS):Prop where
 le:s.N.length<=s'.N.length
 Zi:s'.js.up.length=s.js.up.length+(s'.N.length - s.N.length)
 gJ:∀ i,i < s.js.up.length->ix s'.js.up i=ix s.js.up i
 m9:∀ i,s.js.up.length<=i->ix s'.js.up i=i
 ky:∀ C:Nat,C < s.N.length->aB s'.js.sh C=aB s.js.sh C
 q8:∀ C:Nat,s.N.length<=C->C < s'.N.length->aB s'.js.sh C=if (tn s'.N C).k=1 then aB s.js.sh C else some (C:Int)
 vQ:(∀ C i,aB s.js.sh C=some i->0<=i)->∀ C i,aB s'.js.sh C=some i->0<=i
 jW:∀ C:Nat,C < s.N.length->aB s'.js.ls C=aB s.js.ls C
 q9:∀ C:Nat,s.N.length<=C->C < s'.N.length->aB s'.js.ls C=if (tn s'.N C).k=1 then some (tn s'.N C).i else aB s.js.ls C
 Dd:∀ C:Nat,s'.N.length<=C->aB s'.js.sh C=aB s.js.sh C
 zc:∀ C:Nat,s'.N.length<=C->aB s'.js.ls C=aB s.js.ls C
 pre:∀ i,i < s.N.length->s'.N[i]?=s.N[i]?
theorem Lr {up:List Nat}{i:Nat}(h:up.length<=i):ix up i=i:=by unfold ix;rw[List.getElem?_eq_none h];rfl
theorem Grown.refl (s:PS):Grown s s:=⟨Nat.le_refl _,by omega,fun _ _=>rfl,fun i h=>Lr h,fun _ _=>rfl,fun C h1 h2=>by omega,fun h=>h,fun _ _=>rfl,fun C h1 h2=>by omega,fun _ _=>rfl,fun _ _=>rfl,fun _ _=>rfl⟩
theorem Grown.trans {s t u:PS}(h:Grown s t) (k:Grown t u):Grown s u:=by
 have h0:=h.le;have k0:=k.le;have hl:=h.Zi;have kl:=k.Zi;refine⟨by omega,by omega,fun i hi=>(k.gJ i (by omega)).trans (h.gJ i hi),fun i hi=>?_,fun C hC=>(k.ky C (by omega)).trans (h.ky C hC),fun C h1 h2=>?_,fun hp=>k.vQ (h.vQ hp),fun C hC=>(k.jW C (by omega)).trans (h.jW C hC),fun C h1 h2=>?_,fun C hC=>(k.Dd C hC).trans (h.Dd C (by omega)),fun C hC=>(k.zc C hC).trans (h.zc C (by omega)),fun i hi=>(k.pre i (by omega)).trans (h.pre i hi)⟩
 ·by_cases e:i < t.js.up.length
  ·rw[k.gJ i e,h.m9 i hi]
  ·exact k.m9 i (by omega)
 ·by_cases e:C < t.N.length
  ·rw[k.ky C e,h.q8 C h1 e,(eg k.pre e).1]
  ·rw[k.q8 C (by omega) h2,h.Dd C (by omega)]
 ·by_cases e:C < t.N.length
  ·rw[k.jW C e,h.q9 C h1 e,(eg k.pre e).1]
  ·rw[k.q9 C (by omega) h2,h.zc C (by omega)]
theorem De {s:PS}(hV:nW s) (t:Tm) (l:List Nat):Grown s (gy s t l):=by
 have hl:=hV.up;have aha:∀ i,i < s.N.length->(s.N++[(t,l)])[i]?=s.N[i]?:=fun i hi=>List.getElem?_append_left hi;refine⟨by simp[gy],by simp[gy],fun i hi=>?_,fun i hi=>?_,fun C hC=>?_,fun C h1 h2=>?_,fun hp C i=>?_,fun C hC=>?_,fun C h1 h2=>?_,fun C hC=>?_,fun C hC=>?_,aha⟩
 ·simp only[gy,ix];rw[List.getElem?_append_left hi]
 ·simp only[gy];by_cases e:i=s.js.up.length
  ·subst e;unfold ix;rw[List.getElem?_append_right (Nat.le_refl _)];simp[hl]
  ·exact Lr (by simp;omega)
 ·simp only[gy];split
  ·rfl
  ·rw[cd,if_neg (by omega)]
 ·have e:C=s.N.length:=by simp[gy] at h2;omega
  subst e;simp only[gy,kc.1];split
  ·rfl
  ·rw[cd,if_pos rfl]
 ·simp only[gy];split
  ·exact hp C i
  ·rw[cd];split
   ·intro h;obtain rfl:=oJ_ h;omega
   ·exact hp C i
 ·simp only[gy];split
  ·rw[cd,if_neg (by omega)]
  ·rfl
 ·have e:C=s.N.length:=by simp[gy] at h2;omega
  subst e;simp only[gy,kc.1];split
  ·rw[cd,if_pos rfl]
  ·rfl
 ·simp only[gy] at hC ⊢;rw[List.length_append,List.length_singleton] at hC;split
  ·rfl
  ·rw[cd,if_neg (by omega)]
 ·simp only[gy] at hC ⊢;rw[List.length_append,List.length_singleton] at hC;split
  ·rw[cd,if_neg (by omega)]
  ·rfl
theorem Pv {N:bB}{t:Tm}{l:List Nat}{v:Int}(h:t.k=1->mC N t.i=none):mC (N++[(t,l)]) v=if t.k=1/\t.i=v then some N.length else mC N v:=by
 unfold mC;rw[List.findIdx?_append];cases hv:List.findIdx? (fun x=>x.1.k == 1 && x.1.i == v) N with
 |some j =>
  rw[if_neg]
  ·rfl
  ·rintro⟨h1,rfl⟩;have:=h h1;unfold mC at this;rw[this] at hv;cases hv
 |none =>
  by_cases e:t.k=1/\t.i=v
  ·rw[if_pos e];simp[e.1,e.2]
  ·rw[if_neg e];have:(t.k == 1 && t.i == v)=false:=by
    rw[Bool.and_eq_false_iff];by_cases e1:t.k=1
    ·exact .inr (by simpa using fun e2=>e ⟨e1,e2⟩)
    ·exact .inl (by simpa using e1)
   simp[this]
theorem FT {s:PS}(hV:nW s) {t:Tm}{l:List Nat}(h:t.k=1->mC s.N t.i=none):nW (gy s t l):=by
 refine⟨fun v=>?_,by simp[gy,hV.up],?_⟩;rotate_left
 ·simp only[gy];split
  ·rename_i e;have h1:aB s.vs t.i=none:=by rw[hV.vs,h e];rfl
   rw[uN h1,List.map_append,List.nodup_append];refine⟨hV.nd,by simp,fun a ha b hb e2=>?_⟩;simp only[List.map_cons,List.map_nil,List.mem_singleton] at hb;rw[e2,hb,qZ] at ha;obtain⟨x,hx⟩:=ha;rw[h1] at hx;cases hx
  ·exact hV.nd
 simp only[gy];rw[Pv h];by_cases e:t.k=1
 ·rw[if_pos e,cd];by_cases e2:t.i=v
  ·rw[if_pos e2,if_pos ⟨e,e2⟩];rfl
  ·rw[if_neg e2,if_neg (fun h=>e2 h.2)];exact hV.vs v
 ·rw[if_neg e,if_neg (fun h=>e h.1)];exact hV.vs v
mutual
theorem oZ:∀ (s:PS) (t:Tm),nW s->eE t->(bM s t).1.N=(mD s.N t).1/\(bM s t).2=(mD s.N t).2/\nW (bM s t).1/\Grown s (bM s t).1
 |s,⟨k,i,n,a⟩,hV,hw=>by
  rw[bM,mD];by_cases hk:k=1
  ·subst hk;rw[eE,if_pos rfl] at hw;obtain⟨rfl,rfl⟩:=hw;simp only[if_true,hV.vs];cases hv:mC s.N i with
   |some j=>exact⟨rfl,by simp,hV,.refl s⟩
   |none =>
    simp only[Option.map_none,cO,fh];exact⟨by simp[gy],by simp,FT hV fun _=>hv,De hV _ _⟩
  ·simp only[if_neg hk];rw[eE,if_neg hk] at hw;obtain⟨h1,h2,h3,h4⟩:=Ce s a hV hw.1;refine⟨by simp only[gy,h1,h2],by rw[h1],FT h3 fun e=>absurd e hk,h4.trans (De h3 _ _)⟩
theorem Ce:∀ (s:PS) (l:List Tm),nW s->fE l->(cO s l).1.N=(fh s.N l).1/\(cO s l).2=(fh s.N l).2/\nW (cO s l).1/\Grown s (cO s l).1
 |s,[],hV,_=>by rw[cO,fh];exact⟨rfl,rfl,hV,.refl s⟩
 |s,x::l,hV,hw=>by
  rw[fE] at hw;obtain⟨h1,h2,h3,h4⟩:=oZ s x hV hw.1;obtain⟨k1,k2,k3,k4⟩:=Ce (bM s x).1 l h3 hw.2;rw[cO,fh];simp only[k1,k2,h1,h2];exact⟨trivial,trivial,k3,h4.trans k4⟩
end
section
variable {E:List (Tm × Tm)}{D:List (Nat × Nat)}{c:Nat->Nat}
theorem nV.grow {s s':PS}(h:nV E s.N D c [] s.js) (hD:∀ p ∈ D,p.1 < s.N.length/\p.2 < s.N.length) (hx:tr s.N s'.N) (hg:Grown s s') {x y:Nat}(Bi:x < s'.N.length) (Pw:y < s'.N.length) (he:(tn s'.N x,tn s'.N y) ∈ E) :
  nV E s'.N ((x,y)::D) (fun i=>if i < s.N.length then c i else i) [(x,y)] s'.js:=by
 obtain⟨hh,hU⟩:=h.uf;have hl:=h.len;have jX:=hg.Zi;have hle:=hg.le;have cl:∀ i,i < s.N.length->c i < s.N.length:=fun i hi=>by have:=(hU.rt i (by omega)).2;omega
 have Sx:∀ j C,C < s.N.length->(if j < s.N.length then c j else j)=C->j < s.N.length/\c j=C:=fun j C hC e=>by
  split at e
  ·exact⟨by assumption,e⟩
  ·omega
 have Sy:∀ j C,s.N.length<=C->(if j < s.N.length then c j else j)=C->j=C:=fun j C hC e=>by
  split at e
  ·rename_i hj;have:=cl j hj;omega
  ·exact e
 refine⟨h.gi.grow hD hx.g hx.le hx.pre (fun i hi=>⟨if_pos hi,cl i hi⟩) (fun i hi=>if_neg (by omega)) Bi Pw he,⟨hh,?_⟩,by omega,hg.vQ h.pos,fun C hC e=>?_,fun C hC e=>?_,fun C hC=>by rw[hg.Dd C hC];exact h.Ph C (by omega),fun C hC=>by rw[hg.zc C hC];exact h.U7 C (by omega)⟩
 ·refine⟨fun i hi=>?_,fun i hi=>?_,fun i hi=>?_,fun i hi e=>?_,fun i hi e=>?_⟩
  ·by_cases e:i < s.N.length
   ·rw[hg.gJ i (by omega)];have:=hU.lt i (by omega);omega
   ·rw[hg.m9 i (by omega)];exact hi
  ·by_cases e:i < s.N.length
   ·simp only[if_pos e];rw[hg.gJ _ (by have:=cl i e;omega)];have:=hU.rt i (by omega);exact⟨this.1,by omega⟩
   ·simp only[if_neg e];exact⟨hg.m9 i (by omega),hi⟩
  ·by_cases e:i < s.N.length
   ·rw[hg.gJ i (by omega)];have:=hU.lt i (by omega);simp only[if_pos e];rw[if_pos (by omega)];exact hU.st i (by omega)
   ·rw[hg.m9 i (by omega)]
  ·by_cases e':i < s.N.length
   ·rw[hg.gJ i (by omega)] at e;simp only[if_pos e'];exact hU.fx i (by omega) e
   ·simp only[if_neg e']
  ·by_cases e':i < s.N.length
   ·rw[hg.gJ i (by omega)] at e ⊢;exact hU.ht i (by omega) e
   ·exact absurd (hg.m9 i (by omega)) e
 ·by_cases e':C < s.N.length
  ·simp only[if_pos e'] at e;have h1:=h.vQ C e' e;show g8 _ _ _ (b9 s'.js.sh C);have h2:b9 s'.js.sh C=b9 s.js.sh C:=by unfold b9;rw[hg.ky C e']
   rw[h2];cases hs:b9 s.js.sh C with
   |some i =>
    rw[hs] at h1;obtain⟨a1,a2,a3⟩:=h1;exact⟨by omega,by simp only[if_pos a1];exact a2,by rw[(eg hx.pre a1).1];exact a3⟩
   |none =>
    rw[hs] at h1;intro i hi kM;obtain⟨b1,b2⟩:=Sx i C e' kM;rw[(eg hx.pre b1).1];exact h1 i b1 b2
  ·show g8 _ _ _ (b9 s'.js.sh C);unfold b9;rw[hg.q8 C (by omega) hC];by_cases hk:(tn s'.N C).k=1
   ·rw[if_pos hk];rw[h.Ph C (by omega)];intro i hi kM;rw[Sy i C (by omega) kM];exact hk
   ·rw[if_neg hk];exact⟨by simpa using hC,by simp only[Int.toNat_natCast];exact if_neg e',by simpa using hk⟩
 ·by_cases e':C < s.N.length
  ·simp only[if_pos e'] at e;have h1:=h.aX C e' e;show pz _ _ _ (aB s'.js.ls (C:Int));rw[hg.jW C e'];cases hs:aB s.js.ls (C:Int) with
   |some v =>
    rw[hs] at h1;obtain⟨⟨j,a1,a2,a3,a4⟩,a5⟩:=h1;refine⟨⟨j,by omega,by simp only[if_pos a1];exact a2,by rw[(eg hx.pre a1).1];exact a3,by rw[(eg hx.pre a1).1];exact a4⟩,fun i hi kM hk=>?_⟩;obtain⟨b1,b2⟩:=Sx i C e' kM;rw[(eg hx.pre b1).1] at hk ⊢;exact a5 i b1 b2 hk
   |none =>
    rw[hs] at h1;intro i hi kM;obtain⟨b1,b2⟩:=Sx i C e' kM;rw[(eg hx.pre b1).1];exact h1 i b1 b2
  ·show pz _ _ _ (aB s'.js.ls (C:Int));rw[hg.q9 C (by omega) hC];by_cases hk:(tn s'.N C).k=1
   ·rw[if_pos hk];refine⟨⟨C,hC,if_neg e',hk,rfl⟩,fun i hi kM _=>?_⟩;rw[Sy i C (by omega) kM];exact Int.le_refl _
   ·rw[if_neg hk,h.U7 C (by omega)];intro i hi kM;rw[Sy i C (by omega) kM];exact hk
end
end Go.Proofs.YtbpabjmnhggajaaGreat
