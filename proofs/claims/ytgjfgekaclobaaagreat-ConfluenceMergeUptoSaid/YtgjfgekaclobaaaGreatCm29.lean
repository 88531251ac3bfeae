import Derived.Laws.StructEq
import Derived.RecoverIn
import Derived.TacticsIn
import Derived.TacticsInMore
import Derived.Test.YtgjfgekaclobaaaGreatCm28
namespace Go.Proofs.YtgjfgekaclobaaaGreat
set_option linter.unusedVariables false
set_option linter.unusedSimpArgs false
open Go.RowKit
section
set_option maxRecDepth 100000
attribute [local irreducible] av aE ad ab
section
variable {w0:World}{ρ:Hd}
theorem QW (x:Tm) (hx:x.ok):av Tryz.prog w0 136 [tm ρ x] (.v (.bool (eM x))):=Lo SB x hx
end
end
section
set_option maxRecDepth 100000
attribute [local irreducible] av aE ad ab
end
section
set_option maxRecDepth 100000
attribute [local irreducible] av aE ad ab
end
def Od (P:Program) (w0:World) (F:AV) (xs:List AV) (b:Bool):Prop:=∃ gid args,dZ F xs=some (gid,args)/\du args/\av P w0 gid args (.v (.bool b))
theorem ad.fnB {P:Program}{w0:World}{α:AA}{S:aa}{dr:Bool}{f:QO}{qs:List QO}{F:AV}{l:List AV}{b:Bool}(hf:f.ev α.tm=F) (ha:qs.map (·.ev α.tm)=l) (h:Od P w0 F l b):ad P w0 dr (.call f qs) α S (.v (.bool b)) S:=by
 obtain⟨gid,args,h1,h2,h3⟩:=h
 subst hf ha
 exact ad.b9 h1 h3 h2
def dc (x:Dc):AV:=.agg (Sh x)
def nN {T:Type}(p:T->Bool):List T->Nat->Int
 |[],_=>-1
 |x::l,k=>if p x then k else nN p l (k+1)
theorem BS {T:Type}(p:T->Bool):∀ (l:List T) (k:Nat),decide (0<=nN p l k)=l.any p
 |[],_=>rfl
 |x::l,k=>by
  rw [nN,List.any_cons]
  split
  ·simp_all
  ·rw [BS p l];simp_all
section
set_option maxRecDepth 100000
attribute [local irreducible] av aE ad ab
def Oe:CF Tryz.f218:=⟨_,by conv=>lhs;cbv⟩
theorem UW:bQ Tryz.prog 218 Oe.1 Tryz.f218.ntmps:=fh Tryz.func218 Oe.2 Tryz.call218
def fO:List Nat:=[8,0,5,4,7,9,1,16]
end
section
variable {P:Program}{w0:World}{α:AA}{S:aa}
theorem Ee {o:Op}{t:Nat}{x y:QO}(h:res P.toTables o=some (.eqs t x y)):∃ u v s,o=.binOp .eql t u v s/\x=qo u/\y=qo v:=by
 cases o with
 |binOp RN t' u v s =>
  simp only [res] at h
  split at h
  ·cases h
  ·cases h
  ·cases h
  ·cases h
  ·split at h
   ·simp only [Option.some.injEq,cB.eqs.injEq] at h
    obtain⟨rfl,rfl,rfl⟩:=h
    exact⟨_,_,_,rfl,rfl,rfl⟩
   ·cases h
  ·cases h
 |_ =>
  simp only [res] at h
  repeat' split at h
  all_goals cases h
def Of (P:Program) (t:Nat) (a b:Value) (e:Bool):Prop:=(∃ xs ys,a=.agg xs/\b=.agg ys)/\P.eqGuardType P.depth t=false/\∀ w,(binOp .eql t a b).run P w=.ok (.bool e) w
theorem Ef {t:Nat}{x y:QO}{a b:Value}{e:Bool}(h:Of P t a b e) {n:Nat}{o:Oper}(hr:res P.toTables o.op=some (.eqs t x y)) (β:AA) (hx:toV (x.ev β.tm)=some a) (hy:toV (y.ev β.tm)=some b):de P w0 n o β S (.v (.bool e)) S:=by
 obtain⟨u,v,s,ho,rfl,rfl⟩:=Ee hr
 rw [aD] at hx hy
 refine aI.ops (aI.quiet fun A g c w hS hA=>⟨.bool e,?_,.v⟩) fun c e=>by rw [ho] at e;cases e
 have e1:=uP (hA.ev u) hx
 have e2:=uP (hA.ev v) hy
 obtain⟨⟨xs,ys,rfl,rfl⟩,h1,h2⟩:=h
 have hg:(eqGuard .eql t u v (.agg xs) (.agg ys)).run P w=.ok () w:=by
  simp [eqGuard,h1]
 simp only [execOp,ho,e1,e2,Sem.run_bind,hg,Result.andThen_ok,h2 w,Sem.run_pure]
theorem ad.eqs {dr:Bool}{t:Nat}{x y:QO}{a b:Value}{e:Bool}(hx:toV (x.ev α.tm)=some a) (hy:toV (y.ev α.tm)=some b) (h:Of P t a b e):ad P w0 dr (.eqs t x y) α S (.v (.bool e)) S:=by
 cases dr with
 |false=>exact fun n o hr=>Ef h hr α hx hy
 |true =>
  intro n o hr
  obtain⟨u,v,s,ho,hu,hv⟩:=Ee hr
  have key:∀ z ∈ o.op.operands,(α.only (bU o)).ev z=α.ev z:=fun z hz=>dM fun t e=>dA (by rw [<-e];exact hz)
  have h1:(α.only (bU o)).ev u=α.ev u:=key u (by rw [ho];simp [Op.operands])
  have h2:(α.only (bU o)).ev v=α.ev v:=key v (by rw [ho];simp [Op.operands])
  have h3:∀ T,de P w0 n o (α.only (bU o)) T (.v (.bool e)) T:=fun T=>Ef h hr _ (by rw [hu,aD,h1,<-aD,<-hu];exact hx) (by rw [hv,aD,h2,<-aD,<-hv];exact hy)
  exact⟨h3 S,fun _=>⟨rfl,h3⟩,fun _=>rfl⟩
end
section
set_option maxRecDepth 100000
attribute [local irreducible] av aE ad ab
end
section
set_option maxRecDepth 100000
attribute [local irreducible] av aE ad ab
end
section
variable {P:Program}{w0:World}{rd dr:Bool}{n B:Nat}{α ag:AA}{S S':aa}{Q:Exit->AA->aa->Prop}{r:AV}{l:List QI}{K:List ig}{o:Oper}
theorem zS {t k sz by_ len:Nat}{ex:Bool}{b:QO}{rows:List (List AV)}{o:Oper}(ho:res P.toTables o.op=some (.append sz by_ (.t t) b)) (h1:α.tm t=.gr k sz len) (hk:S.get k=some (.arr sz rows 0 ex)) (hn:len=rows.length)
  (hb:∀ c,b.ev (aX α.tm t c)=b.ev α.tm) (hm:cI S (b.ev α.tm)=some []):de P w0 n o α S (.gr k sz len) S:=by
 intro F mm A g a w nx R hF hS hA kL
 have aB:t < n:=by
  rcases Nat.lt_or_ge t n with h|h
  ·exact h
  ·have:=hA.out t h;rw [h1] at this;cases this
 have hr:=hA.tm t aB
 rw [h1] at hr
 obtain⟨v,hv⟩:∃ v,a.tmps.getD t undef=v:=⟨_,rfl⟩
 have aP:α.tm t ≠ .u:=by rw [h1];intro h;cases h
 rw [hv] at hr
 rcases me hr with ⟨h,A',rfl⟩|⟨eY,c,rfl,hx,hle⟩
 ·have Bo:bf g w n ⟨aX α.tm t (.sl true []),α.df⟩ a:=hA.slot aP (by rw [hv];exact .nil fun _=>rfl)
  have h5:=ad.KR (P:=P) (w0:=w0) (dr:=false) (α:=⟨aX α.tm t (.sl true []),α.df⟩) (S:=S) (sz:=sz) (by_:=by_) (a:=.t t) (b:=b) (rows:=[]) (ah _ _ _) (by rw [hb];exact hm) n o ho
  refine h5 F mm A g a w nx R hF hS Bo fun v w' g' k1 k2 k3=>kL v w' g' ?_ k2 k3
  subst h
  cases k1 with
  |nil hz=>obtain rfl:=hz rfl;exact .ia
  |sl hz=>exact absurd rfl hz
 ·have Bo:bf g w n ⟨aX α.tm t (.ob k sz 0 len none),α.df⟩ a:=hA.slot aP (by
   rw [hv]
   have:=aA.ob (g:=g) (w:=w) (k:=k) (sz:=sz) (off:=0) (len:=len) (c:=c) (cx:=none) eY (fun m h=>by cases h) (by omega) (fun _=>by omega) hle
   rwa [Nat.zero_mul] at this)
  have h5:=ad.AH (P:=P) (w0:=w0) (dr:=false) (α:=⟨aX α.tm t (.ob k sz 0 len none),α.df⟩) (S:=S) (sz:=sz) (by_:=by_) (a:=.t t) (b:=b) (k:=k) (fz:=0) (ex:=ex) (rows:=rows) (sz':=sz) (ah _ _ _) hk (by rw [hb];exact hm) n o ho
  refine h5 F mm A g a w nx R hF hS Bo fun v w' g' k1 k2 k3=>kL v w' g' ?_ k2 k3
  cases k1 with
  |ob q1 q2 q3 q4 q5=>rw [Nat.zero_mul];exact .gr q1 (by have:=q4 rfl;omega) q5
theorem iw {S:aa}{ex:Bool}{l:List (List AV)}:cI S (.sl ex l)=some l:=by
 simp [cI,rowsOf,kQ]
section
variable {ρ:Hd}{T:Type}{f:T->List AV}{acc ys:List T}
theorem ab.aas {dd:Option Nat}{gg:Option (Nat × Bool)}{t:Nat}{b:QO}{sz by_ k len:Nat}{ex ex':Bool}(hw:bB α.tm gg=some true) (h1:α.tm t=.gr k sz len) (hk:S.get k=some (.arr sz (ρ.h (List.map f) acc) 0 ex)) (hn:len=acc.length) (mK:∀ c,b.ev (aX α.tm t c)=b.ev α.tm)
  (hb:b.ev α.tm=dw ρ f ex' ys) (hl:∀ x,(f x).length=sz) (hc:∀ x,(f x).all bl=true) (hy:(len+ys.length)*by_<=35184372088832)
  (k0:ys=[]->ab P w0 rd n Q (.aR false l K) (bJ dd α (.gr k sz len)) S)
  (kk:∀ dk gR,ys ≠ []->dk=acc++ys->gR=dk.length->ab P w0 rd n Q (.aR false l K) (bJ dd α (.gr S.nx sz gR)) ((S.set k none).new (.arr sz (ρ.h (List.map f) dk) 0 false))):ab P w0 rd n Q (.aR false (⟨dd,gg,.append sz by_ (.t t) b⟩::l) K) α S:=by
 have hlen:(ρ.h (List.map f) acc).length=acc.length:=aF
 rw [ij] at hb
 cases ys with
 |nil =>
  exact ab.op (i:=⟨dd,gg,.append sz by_ (.t t) b⟩) hw (fun n o ho=>zS ho h1 hk (by omega) mK (by rw [hb];exact iw)) (k0 rfl)
 |cons y ys =>
  have h:=kk _ _ (by simp) rfl rfl
  have e:ρ.h (List.map f) acc++List.map f (y::ys)=ρ.h (List.map f) (acc++y::ys):=by rw [ρ.eq,ρ.eq,List.map_append]
  rw [<-e,show (acc++y::ys).length=len+(f y::List.map f ys).length by simp;omega] at h
  refine ab.op (i:=⟨dd,gg,.append sz by_ (.t t) b⟩) hw (ad.Bp h1 hk (by omega) mK (by rw [hb];exact iw) (by rw [hb];exact iw) (fun row hr=>?_) (by simpa using hy)) h
  obtain⟨x,_,rfl⟩:=List.mem_map.1 (show row ∈ List.map f (y::ys) from hr)
  exact⟨hl x,hc x⟩
end
theorem uQ {sz by_:Nat}{a b:QO}{o:Op}(h:res P.toTables o=some (.append sz by_ a b)):kE o=false:=by
 obtain⟨c,t,t2,u,v,e,e2,z,rfl,h1,_⟩:=kA h
 simp only [kE,h1]
theorem a_.append {sz by_:Nat}{a b:QO}{d:Dt}{ex:Bool}{more:List (List AV)}(hb:b.ev α.tm=.sl ex more) (hd:fu S d.F)
  (h:∀ T,fu T d.F->(d.m=true->T.nx=S.nx)->∀ e z,b8 P e=some z->bZ P e=some sz->fe P e=some by_->Nat.blt 0 by_=true->g8 P e (nT r (cJ T d.W d.m)) T more (a.ev α.tm)):a_ P w0 B (.append sz by_ a b) α S r d:=by
 refine a_.zr (fun o ho hp=>by rw [yy (uQ ho)] at hp;cases hp) hd fun T hT hm o hr=>?_
 obtain⟨c,t,t2,u,v,e,e2,z,rfl,h1,h2,h3,rfl,rfl,h4,h5,h6,h7,h8,h9,DL⟩:=kA hr
 rw [aD] at hb
 have h:=h T hT hm e z h6 h7 h8 DL
 rw [aD] at h
 simp only [aK,h1,j6,h2,h3,List.map_cons,List.map_nil,h4,h5,h6,h7,h9]
 rw [hb]
 exact aL.mk (a:=more) rfl ⟨rfl,h⟩
theorem a_.A9 {sz by_:Nat}{a b:QO}{ex:Bool}{x:List AV}{more:List (List AV)}(ha:a.ev α.tm=.sl true []) (hb:b.ev α.tm=.sl ex (x::more)) (h3:∀ row ∈ x::more,row.length=sz) (h4:(x::more).length*by_<=35184372088832) :
  a_ P w0 B (.append sz by_ a b) α S (.ob S.nx sz 0 (x::more).length none) ⟨[],[(S.nx,some (.arr sz (x::more) 0 false))],true⟩ :=
 a_.append hb (fun p hp=>by cases hp) fun T _ hm e z hz hs hy hp=>by
  rw [ha]
  simp only [g8,hs,hy,hp]
  refine⟨(fun _ h=>by cases h),h3,(by simpa using h4),?_,?_⟩
  ·rw [hm rfl];simp
  ·rw [dp]
   simp only [cR,<-hm rfl]
   rfl
theorem a_.AH {sz by_ k fz len sz':Nat}{ex ex':Bool}{a b:QO}{rows:List (List AV)}(ha:a.ev α.tm=.ob k sz' 0 len none) (hk:S.get k=some (.arr sz' rows fz ex)) (hb:b.ev α.tm=.sl ex' []):a_ P w0 B (.append sz by_ a b) α S (.ob k sz' 0 len none) ⟨[(k,.arr sz' rows fz ex)],[],false⟩ :=
 a_.append hb (fun p hp=>by simp only [List.mem_singleton] at hp;subst hp;exact hk) fun T hT _ e z _ _ _ _=>by
  rw [ha]
  simp only [g8]
  exact aL.mk (a:=(sz',rows,fz,ex)) (oP (hT (k,.arr sz' rows fz ex) (by simp))) ⟨rfl,by rw [cE]⟩
theorem a_.E7 {sz by_ k fz len:Nat}{ex ex':Bool}{a b:QO}{rows more:List (List AV)}{x:List AV}(ha:a.ev α.tm=.ob k sz 0 len none) (hk:S.get k=some (.arr sz rows fz ex)) (hb:b.ev α.tm=.sl ex' (x::more)) (h0:fz<=len) (h2:len<=rows.length)
  (h3:∀ row ∈ x::more,row.length=sz/\row.all bl=true) (h4:(len+(x::more).length)*by_<=35184372088832) :
  a_ P w0 B (.append sz by_ a b) α S (.ob S.nx sz 0 (len+(x::more).length) none) ⟨[(k,.arr sz rows fz ex)],[(S.nx,some (.arr sz (rows.take len++x::more) fz false)),(k,none)],true⟩ :=
 a_.append hb (fun p hp=>by simp only [List.mem_singleton] at hp;subst hp;exact hk) fun T hT hm e z hz hs hy hp=>by
  rw [ha]
  simp only [g8]
  refine aL.mk (a:=(sz,rows,fz,ex)) (oP (hT (k,.arr sz rows fz ex) (by simp))) ?_
  simp only [hs,hy,hp,Nat.beq_refl,Bool.and_self,Bool.true_and]
  refine⟨h0,h2,h3,h4,(by rw [hm rfl]),?_⟩
  rw [dp]
  simp only [cR,<-hm rfl]
  rfl
theorem a_.Bp {sz by_ t k len:Nat}{ex ex':Bool}{b:QO}{rows more:List (List AV)}{x:List AV}(ha:α.tm t=.gr k sz len) (hk:S.get k=some (.arr sz rows 0 ex)) (hn:len=rows.length) (mK:∀ c,b.ev (aX α.tm t c)=b.ev α.tm) (hb:b.ev α.tm=.sl ex' (x::more))
  (h3:∀ row ∈ x::more,row.length=sz/\row.all bl=true) (h4:(len+(x::more).length)*by_<=35184372088832) :
  a_ P w0 B (.append sz by_ (.t t) b) α S (.gr S.nx sz (len+(x::more).length)) ⟨[(k,.arr sz rows 0 ex)],[(S.nx,some (.arr sz (rows++x::more) 0 false)),(k,none)],true⟩:=by
 intro n o hr
 refine⟨fun hp=>(by rw [yy (uQ hr)] at hp;cases hp),(show fu S _ from fun p hp=>by simp only [List.mem_singleton] at hp;subst hp;exact hk),fun T _ hT hm=>?_⟩
 have e:∀ y:QO,(y=.t t\/y=b)->y.ev (α.only (bU o)).tm=y.ev α.tm:=by
  obtain⟨c,t1,t2,u,v,e,e2,z,ho,h1,h2,h3,h4,h5,_⟩:=kA hr
  intro y hy
  have:∃ q ∈ [u,v],y=qo q:=by
   rcases hy with rfl|rfl
   ·exact⟨u,by simp,h4⟩
   ·exact⟨v,by simp,h5⟩
  obtain⟨q,hq,rfl⟩:=this
  rw [aD,aD]
  refine dM fun t ht=>dA ?_
  rw [ho,<-ht]
  have:q ∈ c.args:=Array.mem_toList_iff.1 (by rw [h3];exact hq)
  show q ∈ c.operands
  simp [Call.operands,this,h1]
 have et:(α.only (bU o)).tm t=.gr k sz len:=(e (.t t) (.inl rfl)).trans ha
 have eb:=e b (.inr rfl)
 have key:∀ c,b.ev (aX (α.only (bU o)).tm t c)=b.ev (α.only (bU o)).tm:=by
  intro c
  cases b with
  |t s =>
   by_cases hs:s=t
   ·exfalso;subst hs;rw [show (QO.t s).ev α.tm=α.tm s from rfl,ha] at hb;cases hb
   ·exact aq _ _ hs
  |_=>rfl
 have h:=Bn (P:=P) (w0:=w0) (n:=n) (α:=α.only (bU o)) (S:=T) (k:=k) (sz:=sz) (by_:=by_) (len:=len) (ex:=ex) (b:=b) (rows:=rows) (more:=more) (x:=x) hr et (hT (k,.arr sz rows 0 ex) (by simp)) hn key (by rw [eb,hb];exact iw) (by rw [eb,hb];exact iw) h3 h4
 rw [dp,<-hm rfl]
 exact h
theorem a_.UX {f:QO}{aZ9:List QO}{g:FuncId}{args dB:List AV}{lE:AV}{so':List (Nat × Ob)}{ob:Ob}(cA:aE P w0 g args (au [] 0) r (au so' 1)) (h:dZ (f.ev α.tm) (aZ9.map (·.ev α.tm))=some (g,dB)) (ha:vu (aN []) 0 dB args)
  (hr:Rb (da (aN []) 0 S.nx) r lE) (hT:iL (da (aN []) 0 S.nx) so' [(S.nx,some ob)]) (hf:rE so'=true):a_ P w0 B (.call f aZ9) α S lE ⟨[],[(S.nx,some ob)],true⟩:=by
 intro n o fg
 obtain⟨c,u,ho,hu,Jv,has⟩:=jZ fg
 refine⟨fun hp=>(by rw [ho] at hp;simp only [l8,kE,hu] at hp;cases hp),(show fu S [] from fun p hp=>by cases hp),fun T _ _ hm=>?_⟩
 have e:T.nx=S.nx:=hm rfl
 have eo:∀ q ∈ (.call c:Op).operands,(α.only (bU o)).ev q=α.ev q:=fun q hq=>dM fun t ht=>dA (by rw [ho,<-ht];exact hq)
 have h':dZ (f.ev (α.only (bU o)).tm) (aZ9.map (·.ev (α.only (bU o)).tm))=some (g,dB):=by
  rw [<-h,Jv,has,aD,aD,iO,iO,eo u (show u ∈ c.operands by simp [Call.operands,hu])]
  congr 1
  exact List.map_congr_left fun q hq=>eo q (show q ∈ c.operands by simp [Call.operands,hu];exact .inr (by simpa using hq))
 rw [<-e] at hr hT ⊢
 intro F mm A gg a w nx R hF hS hA kL
 let T':aa:=⟨fun k=>if k < T.nx then T.get k else none,T.nx⟩
 have dO:St w0 A gg T' w:=hS.forget (Nat.le_refl _) fun j p hj _=>by
  have hj:(if j < T.nx then T.get j else none)=some p:=hj
  split at hj
  ·exact hj
  ·cases hj
 have hc:=ad.rF (P:=P) (w0:=w0) (α:=α.only (bU o)) (T:=T') (m:=[]) (N:=0) (N':=1) (so:=[]) (so':=so') (to:=[(T.nx,some ob)]) (f:=f) (aZ9:=aZ9) cA h' ha hr rfl rfl trivial hT rfl (fun k p hk=>by
  have hk:(if k < T.nx then T.get k else none)=some p:=hk
  split at hk
  ·assumption
  ·cases hk) (.inr hf) n o fg
 refine hc F mm A gg a w nx R hF dO hA fun v w' g' k1 k2 k3=>kL v w' g' k1 ?_ k3
 rw [dp]
 refine k2.forget (Nat.le_refl _) fun j p hj aH=>?_
 have p_:j < T.nx+1:=k2.al j aH
 have hj:aX T.get T.nx (some ob) j=some p:=hj
 show aX T'.get T.nx (some ob) j=some p
 by_cases ej:j=T.nx
 ·subst ej;rw [ah] at hj ⊢;exact hj
 ·rw [aq _ _ ej] at hj ⊢
  show (if j < T.nx then T.get j else none)=some p
  rw [if_pos (by omega)]
  exact hj
end
def nO (c:Value->Bool):List (Value × AV)->Option Nat
 |[]=>none
 |p::es=>if c p.1 then some 0 else (nO c es).map (·+1)
section
variable {P:Program}{w0:World}{n:Nat}{o:Oper}{α:AA}{S S':aa}{r:AV}
structure wH (P:Program) (kt:Nat) (v:Value) (es:List (Value × AV)) (c:Value->Bool):Prop where
 SC:∀ b w,(Instr.checkKey b 10000 kt v).run P w=.ok () w
 str:∃ fs,P.underlying kt=some (.struct fs)
 eq:∀ p ∈ es,∀ w,(Op.equal kt v p.1).run P w=.ok (c p.1) w
theorem Eg {c:Value->Bool}:∀ {es:List (Value × AV)}{j:Nat},nO c es=some j->∃ k a,es[j]?=some (k,a)/\c k=true
 |[],j,h=>by cases h
 |p::es,j,h=>by
  rw [nO] at h
  split at h
  ·obtain rfl:=Option.some.inj h
   exact⟨p.1,p.2,rfl,by assumption⟩
  ·cases hx:nO c es with
   |none=>rw [hx] at h;cases h
   |some j' =>
    rw [hx] at h
    obtain rfl:=Option.some.inj h
    obtain⟨k,a,h1,h2⟩:=Eg hx
    exact⟨k,a,by simpa using h1,h2⟩
theorem zT {kt:Nat}{v:Value}{c:Value->Bool}{w:World}:∀ {es:List (Value × AV)}{L:List MapEntry}{o:Nat},(∀ p ∈ es,∀ w,(Op.equal kt v p.1).run P w=.ok (c p.1) w)->L.length=es.length ->
  (∀ (j:Nat) (k:Value) (a:AV) (e:MapEntry),es[j]?=some (k,a)->L[j]?=some e->e.key=k) ->
  (Instr.findAsking kt v L o).run P w=.ok (match nO c es with|some j=>(L[j]?).map fun e=>(j+o,e.val)|none=>none) w
 |[],[],o,_,_,_=>rfl
 |p::es,e::L,o,hq,hl,h=>by
  have RD:e.key=p.1:=h 0 p.1 p.2 e rfl rfl
  have ih:=zT (w:=w) (es:=es) (L:=L) (o:=o+1) (fun q po=>hq q (by simp [po])) (by simpa using hl) (fun j k a e' h1 h2=>h (j+1) k a e' (by simpa using h1) (by simpa using h2))
  simp only [Instr.findAsking,Sem.run_bind,RD,hq p (by simp) w,Result.andThen_ok,nO]
  cases hc:c p.1 with
  |true=>simp [Sem.run_pure]
  |false =>
   simp only [if_false,Bool.false_eq_true,ih]
   congr 1
   cases nO c es with
   |none=>rfl
   |some j=>simp only [Option.map_some,List.getElem?_cons_succ];congr 1;funext x;congr 1;omega
 |[],_::_,_,_,hl,_=>by simp at hl
 |_::_,[],_,_,hl,_=>by simp at hl
theorem wH.find {kt:Nat}{v:Value}{es:List (Value × AV)}{c:Value->Bool}(h:wH P kt v es c) {g:Gh}{w:World}{entries:Array MapEntry}(aZ:entries.size=es.length) (he:∀ (i:Nat) (k:Value) (a:AV),es[i]?=some (k,a)->∃ e:MapEntry,entries[i]?=some e/\e.key=k/\aA g w a e.val) :
  (Instr.findKey kt v entries.toList).run P w=.ok (match nO c es with|some j=>(entries[j]?).map fun e=>(j,e.val)|none=>none) w:=by
 obtain⟨fs,hfs⟩:=h.str
 have hq:=zT (P:=P) (w:=w) (es:=es) (L:=entries.toList) (o:=0) h.eq (by simpa using aZ) (fun j k a e h1 h2=>by
  obtain⟨e',h3,h4,_⟩:=he j k a h1
  rw [Array.getElem?_toList,h3] at h2
  rw [<-Option.some.inj h2];exact h4)
 simp only [Array.getElem?_toList,Nat.add_zero] at hq
 simp only [Instr.findKey,Sem.run_bind,run_underlying hfs,Result.andThen_ok]
 cases hL:entries.toList with
 |nil =>
  rw [hL] at hq
  simp only [Instr.findNow,Sem.run_pure]
  simp only [Instr.findAsking,Sem.run_pure] at hq
  exact hq
 |cons e L =>
  rw [<-hL]
  have:Instr.findNow (.struct fs) v entries.toList 0=none:=by rw [hL];simp [Instr.findNow,Instr.sameNow]
  rw [this]
  exact hq
def iI (c:Value->Bool) (es:List (Value × AV)):Option AV:=match nO c es with|some j=>(es[j]?).map (·.2)|none=>none
theorem Jw {o:Op}{kt:Nat}{z:AV}{c:Bool}{x i:QO}(h:res P.toTables o=some (.iI kt z c x i)):∃ t u v et zv,o=.lookup t u v c/\x=qo u/\i=qo v/\P.underlying t=some (.map kt et)/\b8 P et=some zv/\z=lift zv:=by
 cases o with
 |lookup t u v c' =>
  simp only [res,a7,eK] at h
  split at h
  ·rename_i kt' et hu
   split at h
   ·cases h
   ·rename_i _ _ zv hk hz
    simp only [Option.some.injEq,cB.iI.injEq] at h
    obtain⟨rfl,rfl,rfl,rfl,rfl⟩:=h
    exact⟨_,_,_,_,_,rfl,rfl,rfl,hu,hz,rfl⟩
   ·rename_i _ zv hk hz
    simp only [Option.some.injEq,cB.iI.injEq] at h
    obtain⟨rfl,rfl,rfl,rfl,rfl⟩:=h
    exact⟨_,_,_,_,_,rfl,rfl,rfl,hu,hz,rfl⟩
   all_goals cases h
  ·cases h
 |_ =>
  simp only [res] at h
  repeat' split at h
  all_goals cases h
theorem Jx {o:Op}{kt:Nat}{x i b:QO}(h:res P.toTables o=some (.l5 kt x i b)):∃ t u v y et,o=.mapUpdate t u v y/\x=qo u/\i=qo v/\b=qo y/\P.underlying t=some (.map kt et):=by
 cases o with
 |mapUpdate t u v y =>
  simp only [res,a7] at h
  split at h
  ·rename_i kt' et hu
   split at h
   ·cases h
   ·simp only [Option.some.injEq,cB.l5.injEq] at h
    obtain⟨rfl,rfl,rfl,rfl⟩:=h
    exact⟨_,_,_,_,_,rfl,rfl,rfl,rfl,hu⟩
   ·simp only [Option.some.injEq,cB.l5.injEq] at h
    obtain⟨rfl,rfl,rfl,rfl⟩:=h
    exact⟨_,_,_,_,_,rfl,rfl,rfl,rfl,hu⟩
   all_goals cases h
  ·cases h
 |_ =>
  simp only [res] at h
  repeat' split at h
  all_goals cases h
theorem Jy {t kt et:TypeId}{x i:Operand}{k:Nat}{es:List (Value × AV)}{z v:Value}{m:AV}{cm:Bool}{c:Value->Bool}(ho:o.op=.lookup t x i cm) (ht:P.underlying t=some (.map kt et)) (hz:b8 P et=some z)
  (hx:α.ev x=.mp k) (hS:S.get k=some (.mp es)) (hi:toV (α.ev i)=some v) (hk:wH P kt v es c):aI P w0 n o α S (match iI c es with|some a=>(if cm then .aC [a,.v (.bool true)] else a)|none=>(if cm then .aC [lift z,.v (.bool false)] else lift z)) S:=by
 refine aI.quiet fun A g q w b_ hA=>?_
 have h1:=hA.ev x
 rw [hx] at h1
 have e2:=uP (hA.ev i) hi
 obtain⟨e1,aH⟩:=kX h1
 obtain⟨_,_,entries,clock,p1,p2,p3⟩:=b_.bj k _ hS aH
 have hf:=hk.find p2 p3
 have fin:∀ (v:Value) (b:Bool) (a:AV),aA g w a v->aA g w (if cm then .aC [a,.v (.bool b)] else a) (if cm then .tuple #[v,.bool b] else v):=by
  intro v b a hr
  cases cm with
  |false=>exact hr
  |true =>
   refine .aC rfl fun i y x hy hx=>?_
   match i with
   |0=>simp at hy hx;subst hy hx;exact hr
   |1=>simp at hy hx;subst hy hx;exact .v
   |i+2=>simp at hy
 unfold iI
 cases hj:nO c es with
 |none =>
  rw [hj] at hf
  refine⟨_,?_,fin z false (lift z) (oG z)⟩
  simp only [execOp,ho,e1,e2,Instr.lookup,Sem.run_bind,run_underlying ht,Result.andThen_ok,dg p1,Sem.run_pure,hk.SC,hf,iX hz]
 |some j =>
  obtain⟨k',a,ha,_⟩:=Eg hj
  obtain⟨e,q1,q2,q3⟩:=p3 j _ a ha
  rw [hj] at hf
  simp only [q1,Option.map_some] at hf
  simp only [ha,Option.map_some]
  refine⟨_,?_,fin e.val true a q3⟩
  simp only [execOp,ho,e1,e2,Instr.lookup,Sem.run_bind,run_underlying ht,Result.andThen_ok,dg p1,Sem.run_pure,hk.SC,hf]
theorem ad.iI {kt:Nat}{z:AV}{cm:Bool}{x i:QO}{k:Nat}{es:List (Value × AV)}{v:Value}{c:Value->Bool}(hx:x.ev α.tm=.mp k) (hS:S.get k=some (.mp es)) (hi:toV (i.ev α.tm)=some v) (hk:wH P kt v es c) :
  ad P w0 false (.iI kt z cm x i) α S (match iI c es with|some a=>(if cm then .aC [a,.v (.bool true)] else a)|none=>(if cm then .aC [z,.v (.bool false)] else z)) S:=ad.run fun n o hr=>by
 obtain⟨t,u,y,et,zv,ho,rfl,rfl,h1,h2,rfl⟩:=Jw hr
 rw [aD] at hx hi
 exact Jy (m:=.u) ho h1 h2 hx hS hi hk
theorem ad.l5 {kt:Nat}{x i b:QO}{k:Nat}{es:List (Value × AV)}{v:Value}{a:AV}{c:Value->Bool}(hx:x.ev α.tm=.mp k) (hS:S.get k=some (.mp es)) (hi:toV (i.ev α.tm)=some v) (hk:wH P kt v es c) (hn:nO c es=none) (hb:b.ev α.tm=a) :
  ad P w0 false (.l5 kt x i b) α S (.v undef) (S.set k (some (.mp (es++[(v,a)])))):=ad.run fun n o hr=>by
 obtain⟨t,u,y,b',et,ho,rfl,rfl,rfl,ht⟩:=Jx hr
 rw [aD] at hx hi hb
 intro A g q w b_ hA
 have h1:=hA.ev u
 have h3:=hA.ev b'
 rw [hx] at h1
 rw [hb] at h3
 have e2:=uP (hA.ev y) hi
 obtain⟨e1,aH⟩:=kX h1
 obtain⟨x,hv⟩:∃ x,q.eval b'=x:=⟨_,rfl⟩
 rw [hv] at h3
 obtain⟨_,_,entries,clock,p1,p2,p3⟩:=b_.bj k _ hS aH
 have hf:=hk.find p2 p3
 rw [hn] at hf
 obtain⟨w',q1,q2,q3⟩:=b_.qq (P:=P) hS aH p1 (entries':=entries.push { key:=v,val:=x,born:=clock }) (clock':=clock+1) (es':=es++[(v,a)]) (by simp [p2]) (fun i key a' hi=>by
  by_cases c:i < es.length
  ·rw [List.getElem?_append_left c] at hi
   obtain⟨e,r1,r2,r3⟩:=p3 i key a' hi
   exact⟨e,by rw [Array.getElem?_push_lt (by omega)];rw [Array.getElem?_eq_getElem (by omega)] at r1;exact r1,r2,r3⟩
  ·rw [List.getElem?_append_right (by omega)] at hi
   have AZ:i=es.length:=by
    have:=(List.getElem?_eq_some_iff.1 hi).1
    simp at this;omega
   subst AZ
   simp at hi
   obtain⟨rfl,rfl⟩:=hi
   exact⟨{ key:=v,val:=x,born:=clock },by rw [<-p2];simp,rfl,h3⟩)
 refine⟨undef,w',g,.inr ⟨?_,rfl⟩,.v,q2,q3⟩
 simp only [execOp,ho,e1,e2,hv,Instr.mapUpdate,Sem.run_bind,run_underlying ht,Result.andThen_ok,dg p1,hk.SC,hf,q1,Sem.run_pure]
end
section
variable {P:Program}{w0:World}{r r':AV}{S':aa}
theorem av.Jz {f:FuncId}{args:List AV}(h1:aE P w0 f args aa.none_ r' S') (h2:bX S' r' r) (hp:Pure r):av P w0 f args r:=by
 refine⟨hp,aa.none_,h1.1,fun F m A g aV w hF hS hA=>(h1.2 F m A g aV w hF hS hA).mono ?_⟩
 rintro e w' ⟨v,g',rfl,h3,h4,h5⟩
 have hk:∀ b q,(g'.still S').fz b q->g.fz b q\/A b:=by
  rintro b q (hq|⟨k,sz,rows,fz,ex,hk,aH,rfl,hq⟩)
  ·exact h5.eW b q hq
  ·exact .inr (h4.bj k _ hk aH).1
 have hr:=h2.rep h4 h3
 obtain⟨g2,tF⟩:∃ g2:Gh,g2=⟨g.ob,g.cp,fun _=>False,(g'.still S').fz,g.fo⟩:=⟨_,rfl⟩
 have sD:∀ k,¬ g.al k:=fun k hk=>absurd (hS.al k hk) (Nat.not_lt_zero k)
 have hL:Later g w g2 w':=by
  rw [tF]
  exact⟨fun k hk=>sD k hk,fun _ _=>rfl,fun _ _=>rfl,fun b q hq=>.inl (h5.fz b q hq),h5.cell⟩
 refine⟨v,g2,rfl,?_,?_,{ hL with size:=h5.size,cD:=h5.cD,eW:=by rw [tF];exact hk }⟩
 ·rw [tF]
  exact aA.pure (g:=g'.still S') (g':=⟨g.ob,g.cp,fun _=>False,(g'.still S').fz,g.fo⟩) (fun _ _ h=>h) (fun _ _ _=>rfl) hr hp
 ·have e0:∀ k o,¬ aa.none_.get k=some o:=fun k o h=>by simp [aa.none_] at h
  refine⟨h4.base,h4.up,h4.lo,fun k hk=>?_,fun k o hk=>absurd hk (e0 k o),fun j k o p hj=>absurd hj (e0 j o),?_,fun b q hb=>hL.fz b q (hS.lM b q hb),fun k J hk=>absurd hk (e0 k _),fun k J j o hk=>absurd hk (e0 k _),fun j k J J' hj=>absurd hj (e0 j _)⟩
  ·rw [tF] at hk
   exact hk.elim
  ·rw [tF]
   rintro b q (hq|⟨k,sz,rows,fz,ex,hk,aH,rfl,hq⟩)
   ·exact h4.bM b q hq
   ·exact (h4.bj k _ hk aH).2.1
end
section
variable {P:Program}{w0:World}{rd:Bool}{n B:Nat}{α:AA}{S S' S1:aa}{Q:Exit->AA->aa->Prop}{r r':AV}{l:List QI}{K:List ig}{o:Oper}{V:List (Nat × Nat)}{lg:List (List Nat × List Nat × Bool)}{rs:List Nat}
theorem de.rv (h:de P w0 n o α S r S') (k:Rv w0 r S' r' S1):de P w0 n o α S r' S1:=by
 intro F m A g a w nx R hF hS hA hn
 refine h F m A g a w nx R hF hS hA fun v w' g' h1 h2 h3=>?_
 obtain⟨g2,k1,k2,k3⟩:=k A g g' w w' v h2 h1
 exact hn v w' g2 k2 k1 (h3.trans k3)
theorem Rv.move {k sz len:Nat}{rows:List (List AV)}{ex:Bool}(hk:S.get k=some (.arr sz rows 0 ex)):Rv w0 (.gr k sz len) S (.gr S.nx sz len) ((S.set k none).new (.arr sz rows 0 false)):=by
 intro A g0 g ND w v hS hr
 obtain⟨T,hT⟩:∃ T,T=(S.set k none).new (.arr sz rows 0 false):=⟨_,rfl⟩
 obtain⟨g',kK⟩:∃ g':Gh,g'=⟨aX g.ob S.nx (g.ob k),aX g.cp S.nx (g.cp k),fun j=>g.al j\/(j=S.nx/\g.al k),g.fz,g.fo⟩:=⟨_,rfl⟩
 have kL:¬ g.al S.nx:=fun h=>Nat.lt_irrefl _ (hS.al _ h)
 have xL:∀ j,j ≠ S.nx->g'.ob j=g.ob j:=fun j e=>by rw [kK];exact aq _ _ e
 have Zq:∀ j,j ≠ S.nx->g'.cp j=g.cp j:=fun j e=>by rw [kK];exact aq _ _ e
 have JA:g'.ob S.nx=g.ob k:=by rw [kK];exact ah _ _ _
 have Zr:g'.cp S.nx=g.cp k:=by rw [kK];exact ah _ _ _
 have oa:∀ j,g'.al j->j ≠ S.nx->g.al j:=fun j h e=>by
  rw [kK] at h
  rcases h with h|⟨h,_⟩
  ·exact h
  ·exact absurd h e
 have Og:g'.al S.nx->g.al k:=fun h=>by
  rw [kK] at h
  rcases h with h|⟨_,h⟩
  ·exact absurd h kL
  ·exact h
 have ne:∀ j,g.al j->j ≠ S.nx:=fun j h e=>kL (e ▸ h)
 have hL:Later g w g' w:=⟨fun j h=>by rw [kK];exact .inl h,fun j h=>xL j (ne j h),fun j h=>Zq j (ne j h),fun b o h=>by rw [kK];exact h,fun _ _ _=>rfl⟩
 have nY:g'.fz=g.fz:=by rw [kK]
 have vh:g'.fo=g.fo:=by rw [kK]
 have Tn:T.get S.nx=some (.arr sz rows 0 false):=by rw [hT];exact ah _ _ _
 have Tj:∀ j p,j ≠ S.nx->T.get j=some p->j ≠ k/\S.get j=some p:=by
  intro j p e h
  rw [hT] at h
  have h:aX (S.set k none).get S.nx (some (.arr sz rows 0 false)) j=some p:=h
  rw [aq _ _ e] at h
  have h:aX S.get k none j=some p:=h
  by_cases ek:j=k
  ·subst ek;rw [ah] at h;cases h
  ·rw [aq _ _ ek] at h;exact⟨ek,h⟩
 have Tf:∀ j J,T.get j=some (.fo J)->j ≠ S.nx:=fun j J h e=>by rw [e,Tn] at h;cases h
 have hE:Ext A g w g' w:={ hL with size:=Nat.le_refl _,cD:=fun _ _ _=>rfl,eW:=fun b o h=>by rw [nY] at h;exact .inl h }
 have SD:∀ {b cp:Nat}{o:Ob},cH g w b cp o->cH g' w b cp o:=fun h=>h.later hL rfl (fun q h=>by rw [nY] at h;exact h) fun J _=>⟨by rw [vh],Nat.le_refl _,fun _ _=>rfl,fun c q _ h=>by rw [nY] at h;exact h⟩
 rw [<-hT]
 refine⟨g',⟨hS.base,hS.up,hS.lo,fun j h=>?_,fun j p hj h=>?_,fun i j p q hi hj ai aj e=>?_,fun b q h=>hS.bM b q (by rw [<-nY];exact h),fun b q h=>by rw [nY];exact hS.lM b q h,fun j J hj h=>?_,fun j J i p hj h hi ai e=>?_,fun i j J J' hi hj ai aj=>?_⟩,?_,hE⟩
 ·have e:T.nx=S.nx+1:=by rw [hT];rfl
  rw [e]
  by_cases ej:j=S.nx
  ·omega
  ·have:=hS.al j (oa j h ej);omega
 ·by_cases ej:j=S.nx
  ·subst ej
   rw [Tn] at hj
   obtain rfl:=Option.some.inj hj
   obtain⟨q1,q2,q3⟩:=hS.bj k _ hk (Og h)
   rw [JA,Zr]
   refine⟨q1,q2,?_⟩
   obtain⟨cs,ty,h1,h2,h3,h4,h5,h6,h7⟩:=SD q3
   exact⟨cs,ty,h1,h2,h3,(fun h=>by cases h),h5,h6,h7⟩
  ·obtain⟨_,dK⟩:=Tj j p ej hj
   obtain⟨q1,q2,q3⟩:=hS.bj j p dK (oa j h ej)
   rw [xL j ej,Zq j ej]
   exact⟨q1,q2,SD q3⟩
 ·by_cases ei:i=S.nx
  ·by_cases ej:j=S.nx
   ·rw [ei,ej]
   ·exfalso
    subst ei
    obtain⟨ek,dK⟩:=Tj j q ej hj
    rw [JA,xL j ej] at e
    exact ek (hS.inj k j _ q hk dK (Og ai) (oa j aj ej) e).symm
  ·by_cases ej:j=S.nx
   ·exfalso
    subst ej
    obtain⟨ek,jq⟩:=Tj i p ei hi
    rw [JA,xL i ei] at e
    exact ek (hS.inj i k p _ jq hk (oa i ai ei) (Og aj) e)
   ·rw [xL i ei,xL j ej] at e
    exact hS.inj i j p q (Tj i p ei hi).2 (Tj j q ej hj).2 (oa i ai ei) (oa j aj ej) e
 ·have ej:=Tf j J hj
  rw [xL j ej,vh]
  exact hS.fp j J (Tj j _ ej hj).2 (oa j h ej)
 ·have ej:=Tf j J hj
  rw [xL j ej,vh]
  by_cases ei:i=S.nx
  ·subst ei
   rw [JA]
   exact hS.iF j J k _ (Tj j _ ej hj).2 (oa j h ej) hk (Og ai) (Tj j _ ej hj).1.symm
  ·rw [xL i ei]
   exact hS.iF j J i p (Tj j _ ej hj).2 (oa j h ej) (Tj i p ei hi).2 (oa i ai ei) e
 ·have ei:=Tf i J hi
  have ej:=Tf j J' hj
  exact hS.kD i j J J' (Tj i _ ei hi).2 (Tj j _ ej hj).2 (oa i ai ei) (oa j aj ej)
 ·rcases me hr with ⟨h,A',rfl⟩|⟨eY,c,rfl,hx,hle⟩
  ·subst h;exact .ia
  ·rw [<-JA]
   refine .gr (by rw [kK];exact .inr ⟨rfl,eY⟩) (by rw [Zr];exact hx) hle
theorem Rv.nil {sz:Nat}:Rv w0 (.sl true []) S (.gr S.nx sz 0) (S.new (.arr sz [] 0 false)):=by
 intro A g0 g ND w v hS hr
 obtain⟨g',h1,h2,h3⟩:=(show ∃ g',St w0 A g' (S.new (.arr sz [] 0 false)) w/\aA g' w (.gr S.nx sz 0) v/\Ext A g w g' w from by
  have key:∀ k p,(S.new (.arr sz [] 0 false)).get k=some p->g.al k->S.get k=some p:=fun k p hk ha=>by
   have aB:=hS.al k ha
   have hk:aX S.get S.nx (some (.arr sz [] 0 false)) k=some p:=hk
   rwa [aq _ _ (by omega)] at hk
  refine⟨g,⟨hS.base,hS.up,hS.lo,fun k hk=>Nat.lt_succ_of_lt (hS.al k hk),fun k p hk ha=>hS.bj k p (key k p hk ha) ha,fun i j p q hi hj ai aj e=>hS.inj i j p q (key i p hi ai) (key j q hj aj) ai aj e,hS.bM,hS.lM,
   fun k J hk ha=>hS.fp k J (key k _ hk ha) ha,fun k J j p hk ha hj aj=>hS.iF k J j p (key k _ hk ha) ha (key j p hj aj) aj,fun j k J J' hj hk aj ak=>hS.kD j k J J' (key j _ hj aj) (key k _ hk ak) aj ak⟩,?_,Ext.refl ..⟩
  cases hr with
  |nil hz=>obtain rfl:=hz rfl;exact .ia
  |sl hz=>exact absurd rfl hz)
 exact⟨g',h1,h2,h3⟩
theorem Rv.aat {k sz len:Nat}:Rv w0 (.ob k sz 0 len none) S (.gr k sz len) S:=by
 intro A g0 g ND w v hS hr
 refine⟨g,hS,?_,Ext.refl ..⟩
 cases hr with
 |ob q1 q2 q3 q4 q5=>rw [Nat.zero_mul];exact .gr q1 (by have:=q4 rfl;omega) q5
section
variable {ρ:Hd}{T:Type}{f:T->List AV}{acc ys:List T}
theorem ab.SE {dd:Option Nat}{gg:Option (Nat × Bool)}{t:Nat}{b:QO}{sz by_ k len:Nat}{ex ex':Bool}(hw:bB α.tm gg=some true) (h1:α.tm t=.gr k sz len) (hk:S.get k=some (.arr sz (ρ.h (List.map f) acc) 0 ex)) (hn:len=acc.length) (mK:∀ c,b.ev (aX α.tm t c)=b.ev α.tm)
  (hb:b.ev α.tm=dw ρ f ex' ys) (hl:∀ x,(f x).length=sz) (hc:∀ x,(f x).all bl=true) (hy:(len+ys.length)*by_<=35184372088832)
  (kk:∀ dk gR,dk=acc++ys->gR=dk.length->ab P w0 rd n Q (.aR false l K) (bJ dd α (.gr S.nx sz gR)) ((S.set k none).new (.arr sz (ρ.h (List.map f) dk) 0 false))):ab P w0 rd n Q (.aR false (⟨dd,gg,.append sz by_ (.t t) b⟩::l) K) α S:=by
 have hlen:(ρ.h (List.map f) acc).length=acc.length:=aF
 by_cases h0:ys=[]
 ·subst h0
  rw [ij] at hb
  have h:=kk acc len (by simp) hn
  exact ab.op (i:=⟨dd,gg,.append sz by_ (.t t) b⟩) hw (fun n o ho=>(zS ho h1 hk (by omega) mK (by rw [hb];exact iw)).rv (Rv.move hk)) h
 ·exact ab.aas hw h1 hk hn mK hb hl hc hy (fun h=>absurd h h0) fun dk gR _ e1 e2=>kk dk gR e1 e2
theorem ab.Oh {dd:Option Nat}{gg:Option (Nat × Bool)}{a b:QO}{sz by_:Nat}{ex':Bool}(hw:bB α.tm gg=some true) (h1:a.ev α.tm=.sl true [])
  (hb:b.ev α.tm=dw ρ f ex' ys) (hl:∀ x,(f x).length=sz) (hy:ys.length*by_<=35184372088832)
  (kk:∀ dk gR,dk=ys->gR=dk.length->ab P w0 rd n Q (.aR false l K) (bJ dd α (.gr S.nx sz gR)) (S.new (.arr sz (ρ.h (List.map f) dk) 0 false))):ab P w0 rd n Q (.aR false (⟨dd,gg,.append sz by_ a b⟩::l) K) α S:=by
 rw [ij] at hb
 have h:=kk _ _ rfl rfl
 rw [ρ.eq] at h
 cases ys with
 |nil=>exact ab.op (i:=⟨dd,gg,.append sz by_ a b⟩) hw ((ad.KR h1 (by rw [hb];exact iw)).rv Rv.nil) h
 |cons y ys =>
  refine ab.op (i:=⟨dd,gg,.append sz by_ a b⟩) hw ((ad.A9 (rows:=[]) (x:=f y) (more:=List.map f ys) h1 (by rw [hb];exact iw) (fun _ h=>by cases h) (fun row hr=>by
   obtain⟨x,_,rfl⟩:=List.mem_map.1 (show row ∈ List.map f (y::ys) from hr)
   exact hl x) (by simpa using hy)).rv Rv.aat) ?_
  simpa using h
end
theorem ad.q_ {len m:Nat}{k:LK}{x i:QO}{l:List AV}{a:AV}{ik:IntKind}{j:Int}{dr:Bool}(h1:x.ev α.tm=.agg l) (h2:i.ev α.tm=.v (.int ik j)) (h3:l7 k l (j.toNat*m)=some a) (h4:0<=j) (h5:j < len):ad P w0 dr (.q_ len m k x i) α S a S:=by
 refine ad.of rfl fun o hr=>?_
 cases o<;>simp only [res,a7,cL] at hr<;>(repeat' split at hr)<;>(try cases hr)
 rw [aD] at h1 h2
 rename_i hs hk
 rw [<-sT hk] at h3
 simp only [aK, *]
 exact aL.mk rfl ⟨trivial,trivial,rfl,rfl⟩
theorem Eh {x:QO}{o:Op}(h:res P.toTables o=some (.len false x)):∃ c t u e,o=.call c/\c.callee=.builtin .len/\c.argTypes=#[t]/\c.args=#[u]/\x=qo u/\P.underlying t=some (.slice e):=by
 cases o<;>simp only [res,a7] at h<;>(repeat' split at h)<;>(try cases h)
 rename_i c hc t y h1 h2 e hu
 exact⟨_,_,_,_,rfl,by assumption,toList_one (by assumption),toList_one (by assumption),rfl,by assumption⟩
theorem BT {o:Oper}{x:QO}{k sz len:Nat}(hr:res P.toTables o.op=some (.len false x)) (β:AA) (h:x.ev β.tm=.gr k sz len):de P w0 n o β S (.v (.int .i64 len)) S:=by
 obtain⟨c,t,u,e,ho,hc,ht,hu,rfl,hs⟩:=Eh hr
 rw [aD] at h
 refine aI.ops (aI.quiet fun A g q w hS hA=>?_) fun c' e=>by
  rw [ho] at e
  cases e
 have h1:=hA.ev u
 rw [h] at h1
 refine⟨_,?_,.v⟩
 rcases me h1 with ⟨rfl,A',hv⟩|⟨_,c',hv,_,_⟩
 ·simp [execOp,ho,resolve,hc,hu,ht,hv,invoke,builtin,Builtin.len_,run_underlying hs,goInt]
 ·simp [execOp,ho,resolve,hc,hu,ht,hv,invoke,builtin,Builtin.len_,run_underlying hs,goInt]
theorem ad.wI {dr:Bool}{x:QO}{k sz len:Nat}(h:x.ev α.tm=.gr k sz len):ad P w0 dr (.len false x) α S (.v (.int .i64 len)) S:=by
 cases dr with
 |false=>exact fun n o hr=>BT hr α h
 |true =>
  intro n o hr
  obtain⟨c,t,u,e,ho,hc,ht,hu,hx,hs⟩:=Eh hr
  have h2:x.ev (α.only (bU o)).tm=.gr k sz len:=by
   rw [<-h,hx,aD,aD]
   exact dM fun t e=>dA (by rw [ho,<-e];show u ∈ c.operands;simp [Call.operands,hu])
  have h3:∀ T,de P w0 n o (α.only (bU o)) T (.v (.int .i64 len)) T:=fun T=>BT hr _ h2
  exact⟨h3 S,fun _=>⟨rfl,h3⟩,fun _=>rfl⟩
end
section
set_option maxRecDepth 100000
attribute [local irreducible] av aE ad ab
end
section
set_option maxRecDepth 100000
end
mutual
def vA:Tm->Prop
 |⟨k,i,n,a⟩=>(k=1->0<=i/\i<=1099511627776)/\rQ a
def rQ:List Tm->Prop
 |[]=>True
 |x::l=>vA x/\rQ l
end
end Go.Proofs.YtgjfgekaclobaaaGreat
