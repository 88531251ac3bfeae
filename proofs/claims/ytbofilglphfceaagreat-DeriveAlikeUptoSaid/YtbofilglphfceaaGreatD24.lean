import Derived.JoinedCond
import Derived.Laws.RangeString
import Derived.Laws.Strings
import Derived.Laws.StructEq
import Derived.ProofKit
import Derived.Test.YtbofilglphfceaaGreatRows
import Derived.Test.YtbofilglphfceaaGreatD23
namespace Go.Proofs.YtbofilglphfceaaGreat
set_option linter.unusedVariables false
set_option linter.unusedSimpArgs false
open Go.RowKit
section
set_option maxRecDepth 100000
open Go.ChangeShapes Go.WideShapes Go.ChangeAt Go.RowKit
theorem laidOut:laidOutB Tryz.prog=true:=by kernel_rfl
theorem wB:mapsRowed Tryz.prog=true:=by kernel_rfl
theorem HH:Tryz.prog.stopsHeard=true:=by kernel_rfl
theorem HI:Tryz.prog.mayEnter=true:=by kernel_rfl
theorem ck {a b:Bool}(h:a=true) (k:b=true):(a && b)=true:=by rw [h,k];rfl
end
section
namespace DeriveAlike
set_option maxRecDepth 100000
open Go.ChangeShapes Go.WideShapes Go.ChangeAt Go.RowKit
theorem k0:(Rows.deriveAlikeUptoRow.wf (OpenSpec.ofChange (Rows.OpenSpec.upto Rows.deriveAlikeSpec).bare))=true:=by kernel_rfl
theorem k3:(Tryz.f5.params.all (Tryz.prog.readableRec ·))=true:=by kernel_rfl
theorem k4:(namedTie Tryz.prog Rows.deriveAlikeUptoRow.named (Rows.OpenSpec.upto Rows.deriveAlikeSpec).bare.vars)=true:=by kernel_rfl
theorem k5:((Rows.deriveAlikeUptoRow.stops == []))=true:=by kernel_rfl
theorem k6:((Tryz.prog.stops == []))=true:=by kernel_rfl
theorem k7:((Rows.deriveAlikeUptoRow.knobs == []))=true:=by kernel_rfl
theorem k8:((Tryz.prog.stopKnobs == []))=true:=by kernel_rfl
theorem k9:((Rows.deriveAlikeUptoRow.inPlace == Tryz.prog.inPlace 5))=true:=by kernel_rfl
theorem Tc:((Rows.deriveAlikeUptoRow.unfollowed == Tryz.prog.unfollowed 5))=true:=by kernel_rfl
theorem Td:((Rows.deriveAlikeUptoRow.recurses == Tryz.prog.recurses 5))=true:=by kernel_rfl
theorem Te:((Rows.deriveAlikeUptoRow.named == Tryz.prog.varsNamed 5))=true:=by kernel_rfl
theorem Tg:((Rows.deriveAlikeUptoRow.maps == (Tryz.f5.params.toList++(Rows.OpenSpec.upto Rows.deriveAlikeSpec).bare.plain.varTypes Tryz.prog).any (Tryz.prog.mapsRec ·)))=true:=by kernel_rfl
theorem Th:((Rows.deriveAlikeUptoRow.ifaces == (Tryz.f5.params.toList++(Rows.OpenSpec.upto Rows.deriveAlikeSpec).bare.plain.varTypes Tryz.prog).any (Tryz.prog.ifacesRec ·)))=true:=by kernel_rfl
theorem Ti:((Rows.deriveAlikeUptoRow.mapsOut == Tryz.prog.mapsAmong Tryz.f5.resultTypes.toList))=true:=by kernel_rfl
theorem Tk:((Rows.deriveAlikeUptoRow.loops == (Tryz.f5.params.toList++(Rows.OpenSpec.upto Rows.deriveAlikeSpec).bare.plain.varTypes Tryz.prog).any (Tryz.prog.loopsFrom ·)))=true:=by kernel_rfl
theorem Tl:((Rows.deriveAlikeUptoRow.wideKeys == (Tryz.f5.params.toList++(Rows.OpenSpec.upto Rows.deriveAlikeSpec).bare.plain.varTypes Tryz.prog++Tryz.f5.resultTypes.toList).any (Tryz.prog.wideKeysFrom ·)))=true:=by kernel_rfl
theorem To:((Rows.OpenSpec.upto Rows.deriveAlikeSpec).bare.vars.all (Tryz.prog.varReadable ·))=true:=by kernel_rfl
theorem Tp:(Tryz.f5.resultTypes.all (fun t=>Tryz.prog.readableRec t && decide (t < Tryz.prog.types.size)))=true:=by kernel_rfl
theorem Tq:((Rows.deriveAlikeUptoRow.ifacesOut == Tryz.f5.resultTypes.toList.any (Tryz.prog.ifacesRec ·)))=true:=by kernel_rfl
theorem Ts:((Rows.deriveAlikeUptoRow.loopsOut == Tryz.f5.resultTypes.toList.any (Tryz.prog.loopsFrom ·)))=true:=by kernel_rfl
theorem Tt:((Rows.deriveAlikeUptoRow.plainKeys == Tryz.prog.plainKeys))=true:=by kernel_rfl
theorem Tu:(Rows.deriveAlikeUptoRow.shortTexts.isNone)=true:=by kernel_rfl
theorem Tv:((Rows.deriveAlikeUptoRow.lifted == Tryz.prog.liftsFinal))=true:=by kernel_rfl
theorem Tw:((Tryz.prog.make == some Rows.deriveAlikeUptoRow.make))=true:=by kernel_rfl
theorem Tx:((Rows.deriveAlikeUptoRow.kinds == (if Rows.deriveAlikeUptoRow.domain.isEmpty then [] else Tryz.f5.params.toList.map fun t=>match Tryz.prog.underlying t with|some (.int k)=>some k|_=>none)))=true:=by kernel_rfl
theorem Ty:((Rows.deriveAlikeUptoRow.pinned == Rows.deriveAlikeUptoRow.pinnedBy))=true:=by kernel_rfl
theorem Tz:((Rows.deriveAlikeUptoRow.veiled == (Tryz.f5.params.toList++(Rows.OpenSpec.upto Rows.deriveAlikeSpec).bare.plain.varTypes Tryz.prog++Tryz.f5.resultTypes.toList).any (Tryz.prog.veiledRec ·)))=true:=by kernel_rfl
theorem TA:(Rows.deriveAlikeUptoRow.veiledFits Tryz.prog Tryz.f5.params.toList (Tryz.f5.params.toList++(Rows.OpenSpec.upto Rows.deriveAlikeSpec).bare.plain.varTypes Tryz.prog++Tryz.f5.resultTypes.toList))=true:=by kernel_rfl
end DeriveAlike
end
section
set_option maxRecDepth 100000
attribute [local irreducible] ag aR aa ab
end
section
variable {P:Program}{w0:World}{n:Nat}{S S':U}{f:FuncId}{args:List AV}{r r':AV}{B N:Nat}{m:List (Nat × Nat)}{so:List (Nat × Ob)}
theorem aR.canon (h:aR P w0 f args S r S') (hn:Nat.ble S.nx B=true) (hr:eg B m N r r') (ho:l3 B m N S' so) (hd:jk B m (so.map (·.1))=true) (hb:Nat.ble B N=true):aR P w0 f args S r' (bu so N):=by
 refine⟨h.1,fun F mm A g bz w hF hS hA=>(h.2 F mm A g bz w hF hS hA).mono ?_⟩
 rintro e w' ⟨v,g',rfl,h3,h4,h5⟩
 have hC:Canon B N m ⟨fun _=>.u,[]⟩ S' [] [] so:=⟨trivial,rfl,ho,hd,hb,rfl⟩
 have hN:=Nat.le_of_ble_eq_true hb
 exact⟨v,g'.dw B N (bh m),rfl,eg.rep hN hr h3,hC.st h4,h5.dw hN fun k hk=>Nat.lt_of_lt_of_le (hS.al k hk) (Nat.le_of_ble_eq_true hn)⟩
theorem bN.Qd {q:QC × List QR}(B N:Nat) (so:List (Nat × Ob)) (F:bN P f q n) (aH:args.length<=n) (hn:Nat.ble S.nx B=true) (hb:Nat.ble B N=true)
  (h:ab P w0 false n (lA q.2 fun r S'=>∃ m,eg B m N r r'/\l3 B m N S' so/\jk B m (so.map (·.1))=true) (.run q.1 []) ⟨iH args,[]⟩ S):aR P w0 f args S r' (bu so N):=by
 obtain⟨r,S',h1,m,h2,h3,h4⟩:=bN.tj F aH h
 exact h1.canon hn h2 h3 h4 hb
end
section
variable {P:Program}{w0:World}{α:AA}{S:U}
theorem aa.ext {f:QO}{aZ9:List QO}{g:FuncId}{xs:List Value}{v:Value}(h:f.ev α.tm=.v (.func (.func g) #[] #[])) (ha:aZ9.map (·.ev α.tm)=xs.map .v) (hx:∀ w:World,(callFunc g xs.toArray).run P w=.ok (.value v) w):aa P w0 false (.call f aZ9) α S (.v v) S:=by
 refine aa.run fun n o hr=>?_
 obtain⟨c,u,ho,hu,rfl,rfl⟩:=lz hr
 rw [ld] at ha
 rw [ay] at h
 refine aC.quiet fun A g' q w hS hA=>?_
 have e1:=hA.ev u
 rw [h] at e1
 have e2:=a_ e1
 have key:∀ (l:List Operand) (xs:List Value),l.map α.ev=xs.map AV.v->l.map q.eval=xs:=by
  intro l
  induction l with
  |nil =>
   intro xs h
   cases xs with
   |nil=>rfl
   |cons x xs=>cases h
  |cons y l ih =>
   intro xs h
   cases xs with
   |nil=>cases h
   |cons x xs =>
    rw [List.map_cons,List.map_cons] at h
    injection h with h1 h2
    have e5:=hA.ev y
    rw [h1] at e5
    rw [List.map_cons,a_ e5,ih xs h2]
 have e3:c.args.map q.eval=xs.toArray:=by
  apply Array.toList_inj.1
  rw [Array.toList_map,key _ _ ha]
 refine⟨v,?_,.v⟩
 have IZ:=hx w
 simp [execOp,ho,hu,e2,e3,IZ,resolve,invoke,Deferred.ofValue]
end
def CalP (P:Program) (w0:World) (f:FuncId) (args:List AV) (S:U) (ch:List PanicEntry) (S':U):Prop :=
 (∀ (xs:Array Value) (w:World),(callFunc f xs).run P w=.ok (.enter f xs) w) /\
 ∀ (F:Fence) (m:Nat) (A:Nat->Prop) (g:Gh) (bz:Array Value) (w:World),fM F->St w0 A g S w->ia g w args bz ->
  CallsIn F m P f bz w fun e w'=>∃ g',e=.panicked ch/\St w0 A g' S' w'/\Ext A g w g' w'
section
variable {P:Program}{w0:World}{rd:Bool}{n:Nat}{α af:AA}{S S':U}{Q:Exit->AA->U->Prop}{ex:Exit}{r:AV}{i:QI}{l:List QI}{K:List ji}{ch:List PanicEntry}
theorem ops_calP {o:Oper}{c:Call}{f:Operand}{gf:FuncId}{args:List AV}(ho:o.op=.call c) (hc:c.callee=.value f)
  (hf:∀ (A:Nat->Prop) (g:Gh) (a:Act) (w:World),St w0 A g S w->aX g w n α a->∃ first cap,a.eval f=.func (.func gf) first cap/\ia g w args (first++c.args.map a.eval++cap)) (h:CalP P w0 gf args S ch S'):OpP P w0 n o α S ch S':=by
 intro F m A g a w next Q hF hS hA me
 rw [Oper.semAt_eq _ _ _ (fun c' e=>by rw [ho] at e;cases e)]
 obtain⟨first,cap,he,hr⟩:=hf A g a w hS hA
 have bm:(execOp a.eval o).run P w=.ok (.enter gf (first++c.args.map a.eval++cap)) w:=by
  simp only [execOp,ho,resolve,hc,he,Deferred.ofValue,Sem.run_bind,Sem.run_pure,Result.andThen_ok,invoke]
  exact h.1 _ w
 rw [bm,Oper.uponIn_enter]
 refine⟨fun hd=>(by rw [hF.2.1] at hd;cases hd),(h.2 F (m - 1) A g _ w hF hS hr).mono ?_⟩
 rintro e w' ⟨g',rfl,h2,h3⟩
 exact me w' g' h2 h3
theorem OweP.call {f:QO}{aZ9:List QO}{g:FuncId}{args:List AV}(h:fh (f.ev α.tm) (aZ9.map (·.ev α.tm))=some (g,args)) (hc:CalP P w0 g args S ch S'):OweP P w0 (.call f aZ9) α S ch S':=by
 intro n o hr
 obtain⟨c,u,ho,hu,rfl,rfl⟩:=lz hr
 rw [ld,ay] at h
 unfold fh at h
 refine ops_calP ho hu (fun A g' a w hS hA=>?_) hc
 have h1:=hA.ev u
 split at h
 ·rename_i g2 x y he
  split at h
  ·rename_i e1 e2
   injection h with h;injection h with h3 h4
   subst h3 h4
   rw [he] at h1
   have e3:x=#[]:=by cases x;simp at e1;rw [e1]
   have e4:y=#[]:=by cases y;simp at e2;rw [e2]
   subst e3 e4
   refine⟨#[],#[],a_ h1,?_⟩
   rw [Array.empty_append,Array.append_empty]
   exact lO hA c.args
  ·cases h
 ·rename_i g2 x y he
  injection h with h;injection h with h3 h4
  subst h3 h4
  rw [he] at h1
  obtain⟨cs,ds,h5,h6,h7⟩:=Cq h1
  exact⟨cs,ds,h5,iu (iu h6 (lO hA c.args)) h7⟩
 ·cases h
def toV:AV->Option Value
 |.v x=>some x
 |.agg l=>match toVs l with|some cs=>some (.agg cs.toArray)|none=>none
 |_=>none
where toVs:List AV->Option (List Value)
 |[]=>some []
 |a::l=>match toV a,toVs l with|some x,some cs=>some (x::cs)|_,_=>none
theorem toVs_at:∀ {l:List AV}{cs:List Value},toV.toVs l=some cs->cs.length=l.length/\∀ (i:Nat) (a:AV),l[i]?=some a->∃ x,cs[i]?=some x/\toV a=some x
 |[],cs,h=>by
  simp only [toV.toVs,Option.some.injEq] at h
  subst h
  exact⟨rfl,fun i a h=>by simp at h⟩
 |a::l,cs,h=>by
  simp only [toV.toVs] at h
  split at h
  ·rename_i x cs' h1 h2
   obtain rfl:=Option.some.inj h
   obtain⟨k1,k2⟩:=toVs_at h2
   refine⟨by simp [k1],fun i b hb=>?_⟩
   cases i with
   |zero=>simp at hb;subst hb;exact⟨x,rfl,h1⟩
   |succ i=>simp at hb;simpa using k2 i b hb
  ·cases h
theorem py {g:Gh}{w:World}{a:AV}{y:Value}(hr:ao g w a y):∀ {x:Value},toV a=some x->y=x:=by
 induction hr with
 |v=>intro x h;simp only [toV,Option.some.injEq] at h;exact h
 |@agg l cs hs h ih =>
  intro x hx
  simp only [toV] at hx
  split at hx
  ·rename_i cs' hc
   obtain rfl:=Option.some.inj hx
   obtain⟨k1,k2⟩:=toVs_at hc
   congr 1
   apply Array.ext
   ·simp [hs,k1]
   ·intro i h1 h2
    have hi:i < l.length:=by rw [<-hs];exact h1
    obtain⟨x,e1,e2⟩:=k2 i _ (List.getElem?_eq_getElem hi)
    have e3:=ih i _ _ (List.getElem?_eq_getElem hi) (Array.getElem?_eq_getElem h1) e2
    rw [e3]
    have:=(List.getElem?_eq_some_iff.1 e1)
    simp [<-this.2]
  ·cases hx
 |_=>intro x h;simp [toV] at h
end
section
variable {P:Program}{w0:World}{α:AA}{S:U}
theorem xm {o:Op}{t:Nat}{x y:QO}(h:res P.toTables o=some (.eqs t x y)):∃ u v s,o=.binOp .eql t u v s/\x=qo u/\y=qo v:=by
 cases o with
 |binOp O7 t' u v s =>
  simp only [res] at h
  split at h
  ·cases h
  ·cases h
  ·split at h
   ·simp only [Option.some.injEq,cj.eqs.injEq] at h
    obtain⟨rfl,rfl,rfl⟩:=h
    exact⟨_,_,_,rfl,rfl,rfl⟩
   ·cases h
  ·cases h
 |_ =>
  simp only [res] at h
  repeat' split at h
  all_goals cases h
def FY (P:Program) (t:Nat) (a b:Value) (e:Bool):Prop:=(∃ xs ys,a=.agg xs/\b=.agg ys)/\P.eqGuardType P.depth t=false/\∀ w,(binOp .eql t a b).run P w=.ok (.bool e) w
theorem xp {t:Nat}{x y:QO}{a b:Value}{e:Bool}(h:FY P t a b e) {n:Nat}{o:Oper}(hr:res P.toTables o.op=some (.eqs t x y)) (β:AA) (hx:toV (x.ev β.tm)=some a) (hy:toV (y.ev β.tm)=some b):cP P w0 n o β S (.v (.bool e)) S:=by
 obtain⟨u,v,s,ho,rfl,rfl⟩:=xm hr
 rw [ay] at hx hy
 refine aC.ops (aC.quiet fun A g c w hS hA=>⟨.bool e,?_,.v⟩) fun c e=>by rw [ho] at e;cases e
 have e1:=py (hA.ev u) hx
 have e2:=py (hA.ev v) hy
 obtain⟨⟨xs,ys,rfl,rfl⟩,h1,h2⟩:=h
 have hg:(eqGuard .eql t u v (.agg xs) (.agg ys)).run P w=.ok () w:=by
  simp [eqGuard,h1]
 simp only [execOp,ho,e1,e2,Sem.run_bind,hg,Result.andThen_ok,h2 w,Sem.run_pure]
theorem aa.eqs {dr:Bool}{t:Nat}{x y:QO}{a b:Value}{e:Bool}(hx:toV (x.ev α.tm)=some a) (hy:toV (y.ev α.tm)=some b) (h:FY P t a b e):aa P w0 dr (.eqs t x y) α S (.v (.bool e)) S:=by
 cases dr with
 |false=>exact fun n o hr=>xp h hr α hx hy
 |true =>
  intro n o hr
  obtain⟨u,v,s,ho,hu,hv⟩:=xm hr
  have key:∀ z ∈ o.op.operands,(α.only (cb o)).ev z=α.ev z:=fun z hz=>fm fun t e=>eU (by rw [<-e];exact hz)
  have h1:(α.only (cb o)).ev u=α.ev u:=key u (by rw [ho];simp [Op.operands])
  have h2:(α.only (cb o)).ev v=α.ev v:=key v (by rw [ho];simp [Op.operands])
  have h3:∀ T,cP P w0 n o (α.only (cb o)) T (.v (.bool e)) T:=fun T=>xp h hr _ (by rw [hu,ay,h1,<-ay,<-hu];exact hx) (by rw [hv,ay,h2,<-ay,<-hv];exact hy)
  exact⟨h3 S,fun _=>⟨rfl,h3⟩,fun _=>rfl⟩
end
section
variable {P:Program}{w0:World}{rd dr:Bool}{n B:Nat}{α af:AA}{S S':U}{Q:Exit->AA->U->Prop}{r:AV}{l:List QI}{K:List ji}{o:Oper}
theorem Cx {t k sz by_ len:Nat}{ex:Bool}{b:QO}{rows:List (List AV)}{o:Oper}(ho:res P.toTables o.op=some (.append sz by_ (.t t) b)) (h1:α.tm t=.gr k sz len) (hk:S.get k=some (.arr sz rows 0 ex)) (hn:len=rows.length)
  (hb:∀ c,b.ev (a6 α.tm t c)=b.ev α.tm) (hm:cu S (b.ev α.tm)=some []):cP P w0 n o α S (.gr k sz len) S:=by
 intro F mm A g a w nx R hF hS hA kL
 have au:t < n:=by
  rcases Nat.lt_or_ge t n with h|h
  ·exact h
  ·have:=hA.out t h;rw [h1] at this;cases this
 have hr:=hA.tm t au
 rw [h1] at hr
 obtain⟨v,hv⟩:∃ v,a.tmps.getD t undef=v:=⟨_,rfl⟩
 have aM:α.tm t ≠ .u:=by rw [h1];intro h;cases h
 rw [hv] at hr
 rcases oI hr with ⟨h,A',rfl⟩|⟨kK,c,rfl,hx,hle⟩
 ·have uZ:aX g w n ⟨a6 α.tm t (.sl true []),α.df⟩ a:=hA.slot aM (by rw [hv];exact .nil fun _=>rfl)
  have h5:=aa.yA (P:=P) (w0:=w0) (dr:=false) (α:=⟨a6 α.tm t (.sl true []),α.df⟩) (S:=S) (sz:=sz) (by_:=by_) (a:=.t t) (b:=b) (rows:=[]) (ah _ _ _) (by rw [hb];exact hm) n o ho
  refine h5 F mm A g a w nx R hF hS uZ fun v w' g' k1 k2 k3=>kL v w' g' ?_ k2 k3
  subst h
  cases k1 with
  |nil hz=>obtain rfl:=hz rfl;exact .im
  |sl hz=>exact absurd rfl hz
 ·have uZ:aX g w n ⟨a6 α.tm t (.ob k sz 0 len none),α.df⟩ a:=hA.slot aM (by
   rw [hv]
   have:=ao.ob (g:=g) (w:=w) (k:=k) (sz:=sz) (off:=0) (len:=len) (c:=c) (cx:=none) kK (fun m h=>by cases h) (by omega) (fun _=>by omega) hle
   rwa [Nat.zero_mul] at this)
  have h5:=aa.uu (P:=P) (w0:=w0) (dr:=false) (α:=⟨a6 α.tm t (.ob k sz 0 len none),α.df⟩) (S:=S) (sz:=sz) (by_:=by_) (a:=.t t) (b:=b) (k:=k) (fz:=0) (ex:=ex) (rows:=rows) (sz':=sz) (ah _ _ _) hk (by rw [hb];exact hm) n o ho
  refine h5 F mm A g a w nx R hF hS uZ fun v w' g' k1 k2 k3=>kL v w' g' ?_ k2 k3
  cases k1 with
  |ob q1 q2 q3 q4 q5=>rw [Nat.zero_mul];exact .gr q1 (by have:=q4 rfl;omega) q5
theorem l9 {S:U}{ex:Bool}{l:List (List AV)}:cu S (.sl ex l)=some l:=by
 simp [cu,rowsOf,ig]
theorem lf {sz by_:Nat}{a b:QO}{o:Op}(h:res P.toTables o=some (.append sz by_ a b)):fk o=false:=by
 obtain⟨c,t,t2,u,v,e,e2,z,rfl,h1,_⟩:=gw h
 simp only [fk,h1]
theorem bC.append {sz by_:Nat}{a b:QO}{d:Dt}{ex:Bool}{more:List (List AV)}(hb:b.ev α.tm=.sl ex more) (hd:gJ S d.F)
  (h:∀ T,gJ T d.F->(d.m=true->T.nx=S.nx)->∀ e z,bY P e=some z->bV P e=some sz->dk P e=some by_->Nat.blt 0 by_=true->eV P e (nS r (cD T d.W d.m)) T more (a.ev α.tm)):bC P w0 B (.append sz by_ a b) α S r d:=by
 refine bC.tt (fun o ho hp=>by rw [lf ho] at hp;cases hp) hd fun T hT hm o hr=>?_
 obtain⟨c,t,t2,u,v,e,e2,z,rfl,h1,h2,h3,rfl,rfl,h4,h5,h6,h7,h8,h9,FL⟩:=gw hr
 rw [ay] at hb
 have h:=h T hT hm e z h6 h7 h8 FL
 rw [ay] at h
 simp only [aE,h1,gO,h2,h3,List.map_cons,List.map_nil,h4,h5,h6,h7,h9]
 rw [hb]
 exact aD.mk (a:=more) rfl ⟨rfl,h⟩
theorem bC.yA {sz by_:Nat}{a b:QO}{ex:Bool}{rows:List (List AV)}(ha:a.ev α.tm=.sl true rows) (hb:b.ev α.tm=.sl ex []):bC P w0 B (.append sz by_ a b) α S (.sl true rows) ⟨[],[],false⟩ :=
 bC.append hb (fun p hp=>by cases hp) fun T _ _ e z _ _ _ _=>by
  rw [ha]
  exact⟨rfl,by rw [bH]⟩
theorem bC.uP {sz by_:Nat}{a b:QO}{ex:Bool}{x:List AV}{more:List (List AV)}(ha:a.ev α.tm=.sl true []) (hb:b.ev α.tm=.sl ex (x::more)) (h3:∀ row ∈ x::more,row.length=sz) (h4:(x::more).length*by_<=35184372088832) :
  bC P w0 B (.append sz by_ a b) α S (.ob S.nx sz 0 (x::more).length none) ⟨[],[(S.nx,some (.arr sz (x::more) 0 false))],true⟩ :=
 bC.append hb (fun p hp=>by cases hp) fun T _ hm e z hz hs hy hp=>by
  rw [ha]
  simp only [eV,hs,hy,hp]
  refine⟨(fun _ h=>by cases h),h3,(by simpa using h4),?_,?_⟩
  ·rw [hm rfl];simp
  ·rw [cJ]
   simp only [dU,<-hm rfl]
   rfl
theorem bC.uu {sz by_ k fz len sz':Nat}{ex ex':Bool}{a b:QO}{rows:List (List AV)}(ha:a.ev α.tm=.ob k sz' 0 len none) (hk:S.get k=some (.arr sz' rows fz ex)) (hb:b.ev α.tm=.sl ex' []):bC P w0 B (.append sz by_ a b) α S (.ob k sz' 0 len none) ⟨[(k,.arr sz' rows fz ex)],[],false⟩ :=
 bC.append hb (fun p hp=>by simp only [List.mem_singleton] at hp;subst hp;exact hk) fun T hT _ e z _ _ _ _=>by
  rw [ha]
  simp only [eV]
  exact aD.mk (a:=(sz',rows,fz,ex)) (lD (hT (k,.arr sz' rows fz ex) (by simp))) ⟨rfl,by rw [bH]⟩
theorem bC.yB {sz by_ k fz len:Nat}{ex ex':Bool}{a b:QO}{rows more:List (List AV)}{x:List AV}(ha:a.ev α.tm=.ob k sz 0 len none) (hk:S.get k=some (.arr sz rows fz ex)) (hb:b.ev α.tm=.sl ex' (x::more)) (h0:fz<=len) (h2:len<=rows.length)
  (h3:∀ row ∈ x::more,row.length=sz/\row.all bp=true) (h4:(len+(x::more).length)*by_<=35184372088832) :
  bC P w0 B (.append sz by_ a b) α S (.ob S.nx sz 0 (len+(x::more).length) none) ⟨[(k,.arr sz rows fz ex)],[(S.nx,some (.arr sz (rows.take len++x::more) fz false)),(k,none)],true⟩ :=
 bC.append hb (fun p hp=>by simp only [List.mem_singleton] at hp;subst hp;exact hk) fun T hT hm e z hz hs hy hp=>by
  rw [ha]
  simp only [eV]
  refine aD.mk (a:=(sz,rows,fz,ex)) (lD (hT (k,.arr sz rows fz ex) (by simp))) ?_
  simp only [hs,hy,hp,Nat.beq_refl,Bool.and_self,Bool.true_and]
  refine⟨h0,h2,h3,h4,(by rw [hm rfl]),?_⟩
  rw [cJ]
  simp only [dU,<-hm rfl]
  rfl
theorem bC.Qe {sz by_ t k len:Nat}{ex ex':Bool}{b:QO}{rows more:List (List AV)}{x:List AV}(ha:α.tm t=.gr k sz len) (hk:S.get k=some (.arr sz rows 0 ex)) (hn:len=rows.length) (eG:∀ c,b.ev (a6 α.tm t c)=b.ev α.tm) (hb:b.ev α.tm=.sl ex' (x::more))
  (h3:∀ row ∈ x::more,row.length=sz/\row.all bp=true) (h4:(len+(x::more).length)*by_<=35184372088832) :
  bC P w0 B (.append sz by_ (.t t) b) α S (.gr S.nx sz (len+(x::more).length)) ⟨[(k,.arr sz rows 0 ex)],[(S.nx,some (.arr sz (rows++x::more) 0 false)),(k,none)],true⟩:=by
 intro n o hr
 refine⟨fun hp=>(by rw [lf hr] at hp;cases hp),(show gJ S _ from fun p hp=>by simp only [List.mem_singleton] at hp;subst hp;exact hk),fun T _ hT hm=>?_⟩
 have e:∀ y:QO,(y=.t t\/y=b)->y.ev (α.only (cb o)).tm=y.ev α.tm:=by
  obtain⟨c,t1,t2,u,v,e,e2,z,ho,h1,h2,h3,h4,h5,_⟩:=gw hr
  intro y hy
  have:∃ q ∈ [u,v],y=qo q:=by
   rcases hy with rfl|rfl
   ·exact⟨u,by simp,h4⟩
   ·exact⟨v,by simp,h5⟩
  obtain⟨q,hq,rfl⟩:=this
  rw [ay,ay]
  refine fm fun t ht=>eU ?_
  rw [ho,<-ht]
  have:q ∈ c.args:=Array.mem_toList_iff.1 (by rw [h3];exact hq)
  show q ∈ c.operands
  simp [Call.operands,this,h1]
 have et:(α.only (cb o)).tm t=.gr k sz len:=(e (.t t) (.inl rfl)).trans ha
 have eb:=e b (.inr rfl)
 have key:∀ c,b.ev (a6 (α.only (cb o)).tm t c)=b.ev (α.only (cb o)).tm:=by
  intro c
  cases b with
  |t s =>
   by_cases hs:s=t
   ·exfalso;subst hs;rw [show (QO.t s).ev α.tm=α.tm s from rfl,ha] at hb;cases hb
   ·exact aw _ _ hs
  |_=>rfl
 have h:=DS (P:=P) (w0:=w0) (n:=n) (α:=α.only (cb o)) (S:=T) (k:=k) (sz:=sz) (by_:=by_) (len:=len) (ex:=ex) (b:=b) (rows:=rows) (more:=more) (x:=x) hr et (hT (k,.arr sz rows 0 ex) (by simp)) hn key (by rw [eb,hb];exact l9) (by rw [eb,hb];exact l9) h3 h4
 rw [cJ,<-hm rfl]
 exact h
theorem bC.Lg {sz by_ t k len:Nat}{ex ex':Bool}{b:QO}{rows:List (List AV)}(ha:α.tm t=.gr k sz len) (hk:S.get k=some (.arr sz rows 0 ex)) (hn:len=rows.length) (eG:∀ c,b.ev (a6 α.tm t c)=b.ev α.tm) (hb:b.ev α.tm=.sl ex' []) :
  bC P w0 B (.append sz by_ (.t t) b) α S (.gr k sz len) ⟨[(k,.arr sz rows 0 ex)],[],false⟩:=by
 intro n o hr
 refine⟨fun hp=>(by rw [lf hr] at hp;cases hp),(show gJ S _ from fun p hp=>by simp only [List.mem_singleton] at hp;subst hp;exact hk),fun T _ hT hm=>?_⟩
 have e:∀ y:QO,(y=.t t\/y=b)->y.ev (α.only (cb o)).tm=y.ev α.tm:=by
  obtain⟨c,t1,t2,u,v,e,e2,z,ho,h1,h2,h3,h4,h5,_⟩:=gw hr
  intro y hy
  have:∃ q ∈ [u,v],y=qo q:=by
   rcases hy with rfl|rfl
   ·exact⟨u,by simp,h4⟩
   ·exact⟨v,by simp,h5⟩
  obtain⟨q,hq,rfl⟩:=this
  rw [ay,ay]
  refine fm fun t ht=>eU ?_
  rw [ho,<-ht]
  have:q ∈ c.args:=Array.mem_toList_iff.1 (by rw [h3];exact hq)
  show q ∈ c.operands
  simp [Call.operands,this,h1]
 have et:(α.only (cb o)).tm t=.gr k sz len:=(e (.t t) (.inl rfl)).trans ha
 have eb:=e b (.inr rfl)
 have key:∀ c,b.ev (a6 (α.only (cb o)).tm t c)=b.ev (α.only (cb o)).tm:=by
  intro c
  cases b with
  |t s =>
   by_cases hs:s=t
   ·exfalso;subst hs;rw [show (QO.t s).ev α.tm=α.tm s from rfl,ha] at hb;cases hb
   ·exact aw _ _ hs
  |_=>rfl
 rw [show cD T [] false=T from bH]
 exact Cx hr et (hT (k,.arr sz rows 0 ex) (by simp)) hn key (by rw [eb,hb];exact l9)
theorem bC.Lh {f:QO}{aZ9:List QO}{g:FuncId}{args fA:List AV}{oD:AV}{so':List (Nat × Ob)}{ob:Ob}(dg:aR P w0 g args (bu [] 0) r (bu so' 1)) (h:fh (f.ev α.tm) (aZ9.map (·.ev α.tm))=some (g,fA)) (ha:xg (bh []) 0 fA args)
  (hr:Rb (fy (bh []) 0 S.nx) r oD) (hT:kU (fy (bh []) 0 S.nx) so' [(S.nx,some ob)]) (hf:sD so'=true):bC P w0 B (.call f aZ9) α S oD ⟨[],[(S.nx,some ob)],true⟩:=by
 intro n o hY
 obtain⟨c,u,ho,hu,SC,has⟩:=lz hY
 refine⟨fun hp=>(by rw [ho] at hp;simp only [fk,hu] at hp;cases hp),(show gJ S [] from fun p hp=>by cases hp),fun T _ _ hm=>?_⟩
 have e:T.nx=S.nx:=hm rfl
 have eo:∀ q ∈ (.call c:Op).operands,(α.only (cb o)).ev q=α.ev q:=fun q hq=>fm fun t ht=>eU (by rw [ho,<-ht];exact hq)
 have h':fh (f.ev (α.only (cb o)).tm) (aZ9.map (·.ev (α.only (cb o)).tm))=some (g,fA):=by
  rw [<-h,SC,has,ay,ay,ld,ld,eo u (show u ∈ c.operands by simp [Call.operands,hu])]
  congr 1
  exact List.map_congr_left fun q hq=>eo q (show q ∈ c.operands by simp [Call.operands,hu];exact .inr (by simpa using hq))
 rw [<-e] at hr hT ⊢
 intro F mm A gg a w nx R hF hS hA kL
 let T':U:=⟨fun k=>if k < T.nx then T.get k else none,T.nx⟩
 have ew:St w0 A gg T' w:=hS.forget (Nat.le_refl _) fun j p hj _=>by
  have hj:(if j < T.nx then T.get j else none)=some p:=hj
  split at hj
  ·exact hj
  ·cases hj
 have hc:=aa.Lf (P:=P) (w0:=w0) (α:=α.only (cb o)) (T:=T') (m:=[]) (N:=0) (N':=1) (so:=[]) (so':=so') (to:=[(T.nx,some ob)]) (f:=f) (aZ9:=aZ9) dg h' ha hr rfl rfl trivial hT rfl (fun k p hk=>by
  have hk:(if k < T.nx then T.get k else none)=some p:=hk
  split at hk
  ·assumption
  ·cases hk) (.inr hf) n o hY
 refine hc F mm A gg a w nx R hF ew hA fun v w' g' k1 k2 k3=>kL v w' g' k1 ?_ k3
 rw [cJ]
 refine k2.forget (Nat.le_refl _) fun j p hj aY=>?_
 have sC:j < T.nx+1:=k2.al j aY
 have hj:a6 T.get T.nx (some ob) j=some p:=hj
 show a6 T'.get T.nx (some ob) j=some p
 by_cases ej:j=T.nx
 ·subst ej;rw [ah] at hj ⊢;exact hj
 ·rw [aw _ _ ej] at hj ⊢
  show (if j < T.nx then T.get j else none)=some p
  rw [if_pos (by omega)]
  exact hj
end
def kC (c:Value->Bool):List (Value × AV)->Option Nat
 |[]=>none
 |p::es=>if c p.1 then some 0 else (kC c es).map (·+1)
section
variable {P:Program}{w0:World}{n:Nat}{o:Oper}{α:AA}{S S':U}{r:AV}
structure qH (P:Program) (kt:Nat) (v:Value) (es:List (Value × AV)) (c:Value->Bool):Prop where
 I4:∀ b w,(Instr.checkKey b 10000 kt v).run P w=.ok () w
 str:∃ fs,P.underlying kt=some (.struct fs)
 eq:∀ p ∈ es,∀ w,(Op.equal kt v p.1).run P w=.ok (c p.1) w
theorem xx {c:Value->Bool}:∀ {es:List (Value × AV)}{j:Nat},kC c es=some j->∃ k a,es[j]?=some (k,a)/\c k=true
 |[],j,h=>by cases h
 |p::es,j,h=>by
  rw [kC] at h
  split at h
  ·obtain rfl:=Option.some.inj h
   exact⟨p.1,p.2,rfl,by assumption⟩
  ·cases hx:kC c es with
   |none=>rw [hx] at h;cases h
   |some j' =>
    rw [hx] at h
    obtain rfl:=Option.some.inj h
    obtain⟨k,a,h1,h2⟩:=xx hx
    exact⟨k,a,by simpa using h1,h2⟩
theorem tJ {kt:Nat}{v:Value}{c:Value->Bool}{w:World}:∀ {es:List (Value × AV)}{L:List MapEntry}{o:Nat},(∀ p ∈ es,∀ w,(Op.equal kt v p.1).run P w=.ok (c p.1) w)->L.length=es.length ->
  (∀ (j:Nat) (k:Value) (a:AV) (e:MapEntry),es[j]?=some (k,a)->L[j]?=some e->e.key=k) ->
  (Instr.findAsking kt v L o).run P w=.ok (match kC c es with|some j=>(L[j]?).map fun e=>(j+o,e.val)|none=>none) w
 |[],[],o,_,_,_=>rfl
 |p::es,e::L,o,hq,hl,h=>by
  have Ik:e.key=p.1:=h 0 p.1 p.2 e rfl rfl
  have ih:=tJ (w:=w) (es:=es) (L:=L) (o:=o+1) (fun q FT=>hq q (by simp [FT])) (by simpa using hl) (fun j k a e' h1 h2=>h (j+1) k a e' (by simpa using h1) (by simpa using h2))
  simp only [Instr.findAsking,Sem.run_bind,Ik,hq p (by simp) w,Result.andThen_ok,kC]
  cases hc:c p.1 with
  |true=>simp [Sem.run_pure]
  |false =>
   simp only [if_false,Bool.false_eq_true,ih]
   congr 1
   cases kC c es with
   |none=>rfl
   |some j=>simp only [Option.map_some,List.getElem?_cons_succ];congr 1;funext x;congr 1;omega
 |[],_::_,_,_,hl,_=>by simp at hl
 |_::_,[],_,_,hl,_=>by simp at hl
theorem qH.find {kt:Nat}{v:Value}{es:List (Value × AV)}{c:Value->Bool}(h:qH P kt v es c) {g:Gh}{w:World}{entries:Array MapEntry}(a7:entries.size=es.length) (he:∀ (i:Nat) (k:Value) (a:AV),es[i]?=some (k,a)->∃ e:MapEntry,entries[i]?=some e/\e.key=k/\ao g w a e.val) :
  (Instr.findKey kt v entries.toList).run P w=.ok (match kC c es with|some j=>(entries[j]?).map fun e=>(j,e.val)|none=>none) w:=by
 obtain⟨fs,SD⟩:=h.str
 have hq:=tJ (P:=P) (w:=w) (es:=es) (L:=entries.toList) (o:=0) h.eq (by simpa using a7) (fun j k a e h1 h2=>by
  obtain⟨e',h3,h4,_⟩:=he j k a h1
  rw [Array.getElem?_toList,h3] at h2
  rw [<-Option.some.inj h2];exact h4)
 simp only [Array.getElem?_toList,Nat.add_zero] at hq
 simp only [Instr.findKey,Sem.run_bind,run_underlying SD,Result.andThen_ok]
 cases hL:entries.toList with
 |nil =>
  rw [hL] at hq
  simp only [Instr.findNow,Sem.run_pure]
  simp only [Instr.findAsking,Sem.run_pure] at hq
  exact hq
 |cons e L =>
  rw [<-hL]
  have:Instr.findNow (.struct fs) v entries.toList 0=none:=by rw [hL];simp [Instr.findNow,Instr.sameNow]
  rw [this]
  exact hq
def fg (c:Value->Bool) (es:List (Value × AV)):Option AV:=match kC c es with|some j=>(es[j]?).map (·.2)|none=>none
theorem Cy {o:Op}{kt:Nat}{z:AV}{c:Bool}{x i:QO}(h:res P.toTables o=some (.fg kt z c x i)):∃ t u v et zv,o=.lookup t u v c/\x=qo u/\i=qo v/\P.underlying t=some (.map kt et)/\bY P et=some zv/\z=lift zv:=by
 cases o with
 |lookup t u v c' =>
  simp only [res,aZ,dX] at h
  split at h
  ·rename_i SE et hu
   split at h
   ·cases h
   ·rename_i _ _ zv hk hz
    simp only [Option.some.injEq,cj.fg.injEq] at h
    obtain⟨rfl,rfl,rfl,rfl,rfl⟩:=h
    exact⟨_,_,_,_,_,rfl,rfl,rfl,hu,hz,rfl⟩
   ·rename_i _ zv hk hz
    simp only [Option.some.injEq,cj.fg.injEq] at h
    obtain⟨rfl,rfl,rfl,rfl,rfl⟩:=h
    exact⟨_,_,_,_,_,rfl,rfl,rfl,hu,hz,rfl⟩
   all_goals cases h
  ·cases h
 |_ =>
  simp only [res] at h
  repeat' split at h
  all_goals cases h
theorem Cz {o:Op}{kt:Nat}{x i b:QO}(h:res P.toTables o=some (.jf kt x i b)):∃ t u v y et,o=.mapUpdate t u v y/\x=qo u/\i=qo v/\b=qo y/\P.underlying t=some (.map kt et):=by
 cases o with
 |mapUpdate t u v y =>
  simp only [res,aZ] at h
  split at h
  ·rename_i SE et hu
   split at h
   ·cases h
   ·simp only [Option.some.injEq,cj.jf.injEq] at h
    obtain⟨rfl,rfl,rfl,rfl⟩:=h
    exact⟨_,_,_,_,_,rfl,rfl,rfl,rfl,hu⟩
   ·simp only [Option.some.injEq,cj.jf.injEq] at h
    obtain⟨rfl,rfl,rfl,rfl⟩:=h
    exact⟨_,_,_,_,_,rfl,rfl,rfl,rfl,hu⟩
   all_goals cases h
  ·cases h
 |_ =>
  simp only [res] at h
  repeat' split at h
  all_goals cases h
theorem CA {t kt et:TypeId}{x i:Operand}{k:Nat}{es:List (Value × AV)}{z v:Value}{m:AV}{cm:Bool}{c:Value->Bool}(ho:o.op=.lookup t x i cm) (ht:P.underlying t=some (.map kt et)) (hz:bY P et=some z)
  (hx:α.ev x=.mp k) (hS:S.get k=some (.mp es)) (hi:toV (α.ev i)=some v) (hk:qH P kt v es c):aC P w0 n o α S (match fg c es with|some a=>(if cm then .aL [a,.v (.bool true)] else a)|none=>(if cm then .aL [lift z,.v (.bool false)] else lift z)) S:=by
 refine aC.quiet fun A g q w cz hA=>?_
 have h1:=hA.ev x
 rw [hx] at h1
 have e2:=py (hA.ev i) hi
 obtain⟨e1,aY⟩:=rh h1
 obtain⟨_,_,entries,clock,p1,p2,p3⟩:=cz.bE k _ hS aY
 have hf:=hk.find p2 p3
 have fin:∀ (v:Value) (b:Bool) (a:AV),ao g w a v->ao g w (if cm then .aL [a,.v (.bool b)] else a) (if cm then .tuple #[v,.bool b] else v):=by
  intro v b a hr
  cases cm with
  |false=>exact hr
  |true =>
   refine .aL rfl fun i y x hy hx=>?_
   match i with
   |0=>simp at hy hx;subst hy hx;exact hr
   |1=>simp at hy hx;subst hy hx;exact .v
   |i+2=>simp at hy
 unfold fg
 cases hj:kC c es with
 |none =>
  rw [hj] at hf
  refine⟨_,?_,fin z false (lift z) (qu z)⟩
  simp only [execOp,ho,e1,e2,Instr.lookup,Sem.run_bind,run_underlying ht,Result.andThen_ok,fL p1,Sem.run_pure,hk.I4,hf,iT hz]
 |some j =>
  obtain⟨k',a,ha,_⟩:=xx hj
  obtain⟨e,q1,q2,q3⟩:=p3 j _ a ha
  rw [hj] at hf
  simp only [q1,Option.map_some] at hf
  simp only [ha,Option.map_some]
  refine⟨_,?_,fin e.val true a q3⟩
  simp only [execOp,ho,e1,e2,Instr.lookup,Sem.run_bind,run_underlying ht,Result.andThen_ok,fL p1,Sem.run_pure,hk.I4,hf]
theorem aa.fg {kt:Nat}{z:AV}{cm:Bool}{x i:QO}{k:Nat}{es:List (Value × AV)}{v:Value}{c:Value->Bool}(hx:x.ev α.tm=.mp k) (hS:S.get k=some (.mp es)) (hi:toV (i.ev α.tm)=some v) (hk:qH P kt v es c) :
  aa P w0 false (.fg kt z cm x i) α S (match fg c es with|some a=>(if cm then .aL [a,.v (.bool true)] else a)|none=>(if cm then .aL [z,.v (.bool false)] else z)) S:=aa.run fun n o hr=>by
 obtain⟨t,u,y,et,zv,ho,rfl,rfl,h1,h2,rfl⟩:=Cy hr
 rw [ay] at hx hi
 exact CA (m:=.u) ho h1 h2 hx hS hi hk
theorem aa.jf {kt:Nat}{x i b:QO}{k:Nat}{es:List (Value × AV)}{v:Value}{a:AV}{c:Value->Bool}(hx:x.ev α.tm=.mp k) (hS:S.get k=some (.mp es)) (hi:toV (i.ev α.tm)=some v) (hk:qH P kt v es c) (hn:kC c es=none) (hb:b.ev α.tm=a) :
  aa P w0 false (.jf kt x i b) α S (.v undef) (S.set k (some (.mp (es++[(v,a)])))):=aa.run fun n o hr=>by
 obtain⟨t,u,y,b',et,ho,rfl,rfl,rfl,ht⟩:=Cz hr
 rw [ay] at hx hi hb
 intro A g q w cz hA
 have h1:=hA.ev u
 have h3:=hA.ev b'
 rw [hx] at h1
 rw [hb] at h3
 have e2:=py (hA.ev y) hi
 obtain⟨e1,aY⟩:=rh h1
 obtain⟨x,hv⟩:∃ x,q.eval b'=x:=⟨_,rfl⟩
 rw [hv] at h3
 obtain⟨_,_,entries,clock,p1,p2,p3⟩:=cz.bE k _ hS aY
 have hf:=hk.find p2 p3
 rw [hn] at hf
 obtain⟨w',q1,q2,q3⟩:=cz.uF (P:=P) hS aY p1 (entries':=entries.push { key:=v,val:=x,born:=clock }) (clock':=clock+1) (es':=es++[(v,a)]) (by simp [p2]) (fun i key a' hi=>by
  by_cases c:i < es.length
  ·rw [List.getElem?_append_left c] at hi
   obtain⟨e,r1,r2,r3⟩:=p3 i key a' hi
   exact⟨e,by rw [Array.getElem?_push_lt (by omega)];rw [Array.getElem?_eq_getElem (by omega)] at r1;exact r1,r2,r3⟩
  ·rw [List.getElem?_append_right (by omega)] at hi
   have FC:i=es.length:=by
    have:=(List.getElem?_eq_some_iff.1 hi).1
    simp at this;omega
   subst FC
   simp at hi
   obtain⟨rfl,rfl⟩:=hi
   exact⟨{ key:=v,val:=x,born:=clock },by rw [<-p2];simp,rfl,h3⟩)
 refine⟨undef,w',g,.inr ⟨?_,rfl⟩,.v,q2,q3⟩
 simp only [execOp,ho,e1,e2,hv,Instr.mapUpdate,Sem.run_bind,run_underlying ht,Result.andThen_ok,fL p1,hk.I4,hf,q1,Sem.run_pure]
end
end Go.Proofs.YtbofilglphfceaaGreat
