import Derived.Test.YtgjfgekaclobaaaGreatCa22
namespace Go.Proofs.YtgjfgekaclobaaaGreat
set_option linter.unusedVariables false
set_option linter.unusedSimpArgs false
open Go.RowKit
section
variable {P:Program}{w0:World}{rd dr:Bool}{n B:Nat}{α aw:AA}{S S':ad}{Q:Exit->AA->ad->Prop}{r:AV}{l:List QI}{K:List fc}{o:Oper}
theorem DX {t k sz by_ len:Nat}{ex:Bool}{b:QO}{rows:List (List AV)}{o:Oper}(ho:res P.toTables o.op=some (.append sz by_ (.t t) b)) (h1:α.tm t=.gr k sz len) (hk:S.get k=some (.arr sz rows 0 ex)) (hn:len=rows.length)
  (hb:∀ c,b.ev (a8 α.tm t c)=b.ev α.tm) (hm:dD S (b.ev α.tm)=some []):ef P w0 n o α S (.gr k sz len) S:=by
 intro F mm A g a w nx R hF hS hA mQ
 have aA:t < n:=by
  rcases Nat.lt_or_ge t n with h|h
  ·exact h
  ·have:=hA.out t h;rw [h1] at this;cases this
 have hr:=hA.tm t aA
 rw [h1] at hr
 obtain⟨v,hv⟩:∃ v,a.tmps.getD t undef=v:=⟨_,rfl⟩
 have a_:α.tm t ≠ .u:=by rw [h1];intro h;cases h
 rw [hv] at hr
 rcases ot hr with ⟨h,A',rfl⟩|⟨fy,c,rfl,hx,hle⟩
 ·have Bg:bN g w n ⟨a8 α.tm t (.sl true []),α.df⟩ a:=hA.slot a_ (by rw [hv];exact .nil fun _=>rfl)
  have h5:=ae.Fk (P:=P) (w0:=w0) (dr:=false) (α:=⟨a8 α.tm t (.sl true []),α.df⟩) (S:=S) (sz:=sz) (by_:=by_) (a:=.t t) (b:=b) (rows:=[]) (aq _ _ _) (by rw [hb];exact hm) n o ho
  refine h5 F mm A g a w nx R hF hS Bg fun v w' g' k1 k2 k3=>mQ v w' g' ?_ k2 k3
  subst h
  cases k1 with
  |nil hz=>obtain rfl:=hz rfl;exact .ja
  |sl hz=>exact absurd rfl hz
 ·have Bg:bN g w n ⟨a8 α.tm t (.ob k sz 0 len none),α.df⟩ a:=hA.slot a_ (by
   rw [hv]
   have:=aH.ob (g:=g) (w:=w) (k:=k) (sz:=sz) (off:=0) (len:=len) (c:=c) (cx:=none) fy (fun m h=>by cases h) (by omega) (fun _=>by omega) hle
   rwa [Nat.zero_mul] at this)
  have h5:=ae.A8 (P:=P) (w0:=w0) (dr:=false) (α:=⟨a8 α.tm t (.ob k sz 0 len none),α.df⟩) (S:=S) (sz:=sz) (by_:=by_) (a:=.t t) (b:=b) (k:=k) (fz:=0) (ex:=ex) (rows:=rows) (sz':=sz) (aq _ _ _) hk (by rw [hb];exact hm) n o ho
  refine h5 F mm A g a w nx R hF hS Bg fun v w' g' k1 k2 k3=>mQ v w' g' ?_ k2 k3
  cases k1 with
  |ob q1 q2 q3 q4 q5=>rw [Nat.zero_mul];exact .gr q1 (by have:=q4 rfl;omega) q5
theorem g9 {S:ad}{ex:Bool}{l:List (List AV)}:dD S (.sl ex l)=some l:=by
 simp [dD,rowsOf,m7]
section
variable {ρ:Hd}{T:Type}{f:T->List AV}{acc ys:List T}
theorem aa.Z7 {dd:Option Nat}{gg:Option (Nat × Bool)}{t:Nat}{b:QO}{sz by_ k len:Nat}{ex ex':Bool}(hw:bD α.tm gg=some true) (h1:α.tm t=.gr k sz len) (hk:S.get k=some (.arr sz (ρ.h (List.map f) acc) 0 ex)) (hn:len=acc.length) (ku:∀ c,b.ev (a8 α.tm t c)=b.ev α.tm)
  (hb:b.ev α.tm=cE ρ f ex' ys) (hl:∀ x,(f x).length=sz) (hc:∀ x,(f x).all bQ=true) (hy:(len+ys.length)*by_<=35184372088832)
  (k0:ys=[]->aa P w0 rd n Q (.aU false l K) (bS dd α (.gr k sz len)) S)
  (kk:∀ dE eU,ys ≠ []->dE=acc++ys->eU=dE.length->aa P w0 rd n Q (.aU false l K) (bS dd α (.gr S.nx sz eU)) ((S.set k none).new (.arr sz (ρ.h (List.map f) dE) 0 false))):aa P w0 rd n Q (.aU false (⟨dd,gg,.append sz by_ (.t t) b⟩::l) K) α S:=by
 have hlen:(ρ.h (List.map f) acc).length=acc.length:=aF
 rw [cO] at hb
 cases ys with
 |nil =>
  exact aa.op (i:=⟨dd,gg,.append sz by_ (.t t) b⟩) hw (fun n o ho=>DX ho h1 hk (by omega) ku (by rw [hb];exact g9)) (k0 rfl)
 |cons y ys =>
  have h:=kk _ _ (by simp) rfl rfl
  have e:ρ.h (List.map f) acc++List.map f (y::ys)=ρ.h (List.map f) (acc++y::ys):=by rw [ρ.eq,ρ.eq,List.map_append]
  rw [<-e,show (acc++y::ys).length=len+(f y::List.map f ys).length by simp;omega] at h
  refine aa.op (i:=⟨dd,gg,.append sz by_ (.t t) b⟩) hw (ae.Cw h1 hk (by omega) ku (by rw [hb];exact g9) (by rw [hb];exact g9) (fun row hr=>?_) (by simpa using hy)) h
  obtain⟨x,_,rfl⟩:=List.mem_map.1 (show row ∈ List.map f (y::ys) from hr)
  exact⟨hl x,hc x⟩
end
theorem pj {sz by_:Nat}{a b:QO}{o:Op}(h:res P.toTables o=some (.append sz by_ a b)):lX o=false:=by
 obtain⟨c,t,t2,u,v,e,e2,z,rfl,h1,_⟩:=lC h
 simp only [lX,h1]
theorem bc.append {sz by_:Nat}{a b:QO}{d:Dt}{ex:Bool}{more:List (List AV)}(hb:b.ev α.tm=.sl ex more) (hd:fu S d.F)
  (h:∀ T,fu T d.F->(d.m=true->T.nx=S.nx)->∀ e z,cU P e=some z->cP P e=some sz->gV P e=some by_->Nat.blt 0 by_=true->jA P e (rB r (cY T d.W d.m)) T more (a.ev α.tm)):bc P w0 B (.append sz by_ a b) α S r d:=by
 refine bc.Dx (fun o ho hp=>by rw [rh (pj ho)] at hp;cases hp) hd fun T hT hm o hr=>?_
 obtain⟨c,t,t2,u,v,e,e2,z,rfl,h1,h2,h3,rfl,rfl,h4,h5,h6,h7,h8,h9,Io⟩:=lC hr
 rw [aJ] at hb
 have h:=h T hT hm e z h6 h7 h8 Io
 rw [aJ] at h
 simp only [aX,h1,lZ,h2,h3,List.map_cons,List.map_nil,h4,h5,h6,h7,h9]
 rw [hb]
 exact aZ.mk (a:=more) rfl ⟨rfl,h⟩
theorem bc.Fk {sz by_:Nat}{a b:QO}{ex:Bool}{rows:List (List AV)}(ha:a.ev α.tm=.sl true rows) (hb:b.ev α.tm=.sl ex []):bc P w0 B (.append sz by_ a b) α S (.sl true rows) ⟨[],[],false⟩ :=
 bc.append hb (fun p hp=>by cases hp) fun T _ _ e z _ _ _ _=>by
  rw [ha]
  exact⟨rfl,by rw [cG]⟩
theorem bc.Cq {sz by_:Nat}{a b:QO}{ex:Bool}{x:List AV}{more:List (List AV)}(ha:a.ev α.tm=.sl true []) (hb:b.ev α.tm=.sl ex (x::more)) (h3:∀ row ∈ x::more,row.length=sz) (h4:(x::more).length*by_<=35184372088832) :
  bc P w0 B (.append sz by_ a b) α S (.ob S.nx sz 0 (x::more).length none) ⟨[],[(S.nx,some (.arr sz (x::more) 0 false))],true⟩ :=
 bc.append hb (fun p hp=>by cases hp) fun T _ hm e z hz hs hy hp=>by
  rw [ha]
  simp only [jA,hs,hy,hp]
  refine⟨(fun _ h=>by cases h),h3,(by simpa using h4),?_,?_⟩
  ·rw [hm rfl];simp
  ·rw [dI]
   simp only [dw,<-hm rfl]
   rfl
theorem bc.A8 {sz by_ k fz len sz':Nat}{ex ex':Bool}{a b:QO}{rows:List (List AV)}(ha:a.ev α.tm=.ob k sz' 0 len none) (hk:S.get k=some (.arr sz' rows fz ex)) (hb:b.ev α.tm=.sl ex' []):bc P w0 B (.append sz by_ a b) α S (.ob k sz' 0 len none) ⟨[(k,.arr sz' rows fz ex)],[],false⟩ :=
 bc.append hb (fun p hp=>by simp only [List.mem_singleton] at hp;subst hp;exact hk) fun T hT _ e z _ _ _ _=>by
  rw [ha]
  simp only [jA]
  exact aZ.mk (a:=(sz',rows,fz,ex)) (rK (hT (k,.arr sz' rows fz ex) (by simp))) ⟨rfl,by rw [cG]⟩
theorem bc.JN {sz by_ k fz len:Nat}{ex ex':Bool}{a b:QO}{rows more:List (List AV)}{x:List AV}(ha:a.ev α.tm=.ob k sz 0 len none) (hk:S.get k=some (.arr sz rows fz ex)) (hb:b.ev α.tm=.sl ex' (x::more)) (h0:fz<=len) (h2:len<=rows.length)
  (h3:∀ row ∈ x::more,row.length=sz/\row.all bQ=true) (h4:(len+(x::more).length)*by_<=35184372088832) :
  bc P w0 B (.append sz by_ a b) α S (.ob S.nx sz 0 (len+(x::more).length) none) ⟨[(k,.arr sz rows fz ex)],[(S.nx,some (.arr sz (rows.take len++x::more) fz false)),(k,none)],true⟩ :=
 bc.append hb (fun p hp=>by simp only [List.mem_singleton] at hp;subst hp;exact hk) fun T hT hm e z hz hs hy hp=>by
  rw [ha]
  simp only [jA]
  refine aZ.mk (a:=(sz,rows,fz,ex)) (rK (hT (k,.arr sz rows fz ex) (by simp))) ?_
  simp only [hs,hy,hp,Nat.beq_refl,Bool.and_self,Bool.true_and]
  refine⟨h0,h2,h3,h4,(by rw [hm rfl]),?_⟩
  rw [dI]
  simp only [dw,<-hm rfl]
  rfl
theorem bc.Cw {sz by_ t k len:Nat}{ex ex':Bool}{b:QO}{rows more:List (List AV)}{x:List AV}(ha:α.tm t=.gr k sz len) (hk:S.get k=some (.arr sz rows 0 ex)) (hn:len=rows.length) (ku:∀ c,b.ev (a8 α.tm t c)=b.ev α.tm) (hb:b.ev α.tm=.sl ex' (x::more))
  (h3:∀ row ∈ x::more,row.length=sz/\row.all bQ=true) (h4:(len+(x::more).length)*by_<=35184372088832) :
  bc P w0 B (.append sz by_ (.t t) b) α S (.gr S.nx sz (len+(x::more).length)) ⟨[(k,.arr sz rows 0 ex)],[(S.nx,some (.arr sz (rows++x::more) 0 false)),(k,none)],true⟩:=by
 intro n o hr
 refine⟨fun hp=>(by rw [rh (pj hr)] at hp;cases hp),(show fu S _ from fun p hp=>by simp only [List.mem_singleton] at hp;subst hp;exact hk),fun T _ hT hm=>?_⟩
 have e:∀ y:QO,(y=.t t\/y=b)->y.ev (α.only (cB o)).tm=y.ev α.tm:=by
  obtain⟨c,t1,t2,u,v,e,e2,z,ho,h1,h2,h3,h4,h5,_⟩:=lC hr
  intro y hy
  have:∃ q ∈ [u,v],y=qo q:=by
   rcases hy with rfl|rfl
   ·exact⟨u,by simp,h4⟩
   ·exact⟨v,by simp,h5⟩
  obtain⟨q,hq,rfl⟩:=this
  rw [aJ,aJ]
  refine ew fun t ht=>ee ?_
  rw [ho,<-ht]
  have:q ∈ c.args:=Array.mem_toList_iff.1 (by rw [h3];exact hq)
  show q ∈ c.operands
  simp [Call.operands,this,h1]
 have et:(α.only (cB o)).tm t=.gr k sz len:=(e (.t t) (.inl rfl)).trans ha
 have eb:=e b (.inr rfl)
 have key:∀ c,b.ev (a8 (α.only (cB o)).tm t c)=b.ev (α.only (cB o)).tm:=by
  intro c
  cases b with
  |t s =>
   by_cases hs:s=t
   ·exfalso;subst hs;rw [show (QO.t s).ev α.tm=α.tm s from rfl,ha] at hb;cases hb
   ·exact aC _ _ hs
  |_=>rfl
 have h:=Fw (P:=P) (w0:=w0) (n:=n) (α:=α.only (cB o)) (S:=T) (k:=k) (sz:=sz) (by_:=by_) (len:=len) (ex:=ex) (b:=b) (rows:=rows) (more:=more) (x:=x) hr et (hT (k,.arr sz rows 0 ex) (by simp)) hn key (by rw [eb,hb];exact g9) (by rw [eb,hb];exact g9) h3 h4
 rw [dI,<-hm rfl]
 exact h
theorem bc.adz {sz by_ t k len:Nat}{ex ex':Bool}{b:QO}{rows:List (List AV)}(ha:α.tm t=.gr k sz len) (hk:S.get k=some (.arr sz rows 0 ex)) (hn:len=rows.length) (ku:∀ c,b.ev (a8 α.tm t c)=b.ev α.tm) (hb:b.ev α.tm=.sl ex' []) :
  bc P w0 B (.append sz by_ (.t t) b) α S (.gr k sz len) ⟨[(k,.arr sz rows 0 ex)],[],false⟩:=by
 intro n o hr
 refine⟨fun hp=>(by rw [rh (pj hr)] at hp;cases hp),(show fu S _ from fun p hp=>by simp only [List.mem_singleton] at hp;subst hp;exact hk),fun T _ hT hm=>?_⟩
 have e:∀ y:QO,(y=.t t\/y=b)->y.ev (α.only (cB o)).tm=y.ev α.tm:=by
  obtain⟨c,t1,t2,u,v,e,e2,z,ho,h1,h2,h3,h4,h5,_⟩:=lC hr
  intro y hy
  have:∃ q ∈ [u,v],y=qo q:=by
   rcases hy with rfl|rfl
   ·exact⟨u,by simp,h4⟩
   ·exact⟨v,by simp,h5⟩
  obtain⟨q,hq,rfl⟩:=this
  rw [aJ,aJ]
  refine ew fun t ht=>ee ?_
  rw [ho,<-ht]
  have:q ∈ c.args:=Array.mem_toList_iff.1 (by rw [h3];exact hq)
  show q ∈ c.operands
  simp [Call.operands,this,h1]
 have et:(α.only (cB o)).tm t=.gr k sz len:=(e (.t t) (.inl rfl)).trans ha
 have eb:=e b (.inr rfl)
 have key:∀ c,b.ev (a8 (α.only (cB o)).tm t c)=b.ev (α.only (cB o)).tm:=by
  intro c
  cases b with
  |t s =>
   by_cases hs:s=t
   ·exfalso;subst hs;rw [show (QO.t s).ev α.tm=α.tm s from rfl,ha] at hb;cases hb
   ·exact aC _ _ hs
  |_=>rfl
 rw [show cY T [] false=T from cG]
 exact DX hr et (hT (k,.arr sz rows 0 ex) (by simp)) hn key (by rw [eb,hb];exact g9)
theorem bc.Ut {f:QO}{aZ9:List QO}{g:FuncId}{args bG:List AV}{gw:AV}{so':List (Nat × Ob)}{ob:Ob}(bC:aK P w0 g args (au [] 0) r (au so' 1)) (h:dM (f.ev α.tm) (aZ9.map (·.ev α.tm))=some (g,bG)) (ha:qA (aN []) 0 bG args)
  (hr:Rb (cV (aN []) 0 S.nx) r gw) (hT:gk (cV (aN []) 0 S.nx) so' [(S.nx,some ob)]) (hf:tz so'=true):bc P w0 B (.call f aZ9) α S gw ⟨[],[(S.nx,some ob)],true⟩:=by
 intro n o eK
 obtain⟨c,u,ho,hu,FY,has⟩:=jP eK
 refine⟨fun hp=>(by rw [ho] at hp;simp only [nO,lX,hu] at hp;cases hp),(show fu S [] from fun p hp=>by cases hp),fun T _ _ hm=>?_⟩
 have e:T.nx=S.nx:=hm rfl
 have eo:∀ q ∈ (.call c:Op).operands,(α.only (cB o)).ev q=α.ev q:=fun q hq=>ew fun t ht=>ee (by rw [ho,<-ht];exact hq)
 have h':dM (f.ev (α.only (cB o)).tm) (aZ9.map (·.ev (α.only (cB o)).tm))=some (g,bG):=by
  rw [<-h,FY,has,aJ,aJ,ij,ij,eo u (show u ∈ c.operands by simp [Call.operands,hu])]
  congr 1
  exact List.map_congr_left fun q hq=>eo q (show q ∈ c.operands by simp [Call.operands,hu];exact .inr (by simpa using hq))
 rw [<-e] at hr hT ⊢
 intro F mm A gg a w nx R hF hS hA mQ
 let T':ad:=⟨fun k=>if k < T.nx then T.get k else none,T.nx⟩
 have eR:St w0 A gg T' w:=hS.forget (Nat.le_refl _) fun j p hj _=>by
  have hj:(if j < T.nx then T.get j else none)=some p:=hj
  split at hj
  ·exact hj
  ·cases hj
 have hc:=ae.ou (P:=P) (w0:=w0) (α:=α.only (cB o)) (T:=T') (m:=[]) (N:=0) (N':=1) (so:=[]) (so':=so') (to:=[(T.nx,some ob)]) (f:=f) (aZ9:=aZ9) bC h' ha hr rfl rfl trivial hT rfl (fun k p hk=>by
  have hk:(if k < T.nx then T.get k else none)=some p:=hk
  split at hk
  ·assumption
  ·cases hk) (.inr hf) n o eK
 refine hc F mm A gg a w nx R hF eR hA fun v w' g' k1 k2 k3=>mQ v w' g' k1 ?_ k3
 rw [dI]
 refine k2.forget (Nat.le_refl _) fun j p hj aO=>?_
 have tv:j < T.nx+1:=k2.al j aO
 have hj:a8 T.get T.nx (some ob) j=some p:=hj
 show a8 T'.get T.nx (some ob) j=some p
 by_cases ej:j=T.nx
 ·subst ej;rw [aq] at hj ⊢;exact hj
 ·rw [aC _ _ ej] at hj ⊢
  show (if j < T.nx then T.get j else none)=some p
  rw [if_pos (by omega)]
  exact hj
end
def lK (c:Value->Bool):List (Value × AV)->Option Nat
 |[]=>none
 |p::es=>if c p.1 then some 0 else (lK c es).map (·+1)
section
variable {P:Program}{w0:World}{n:Nat}{o:Oper}{α:AA}{S S':ad}{r:AV}
structure xl (P:Program) (kt:Nat) (v:Value) (es:List (Value × AV)) (c:Value->Bool):Prop where
 Z8:∀ b w,(Instr.checkKey b 10000 kt v).run P w=.ok () w
 str:∃ fs,P.underlying kt=some (.struct fs)
 eq:∀ p ∈ es,∀ w,(Op.equal kt v p.1).run P w=.ok (c p.1) w
theorem IU {c:Value->Bool}:∀ {es:List (Value × AV)}{j:Nat},lK c es=some j->∃ k a,es[j]?=some (k,a)/\c k=true
 |[],j,h=>by cases h
 |p::es,j,h=>by
  rw [lK] at h
  split at h
  ·obtain rfl:=oJ_ h
   exact⟨p.1,p.2,rfl,by assumption⟩
  ·cases hx:lK c es with
   |none=>rw [hx] at h;cases h
   |some j' =>
    rw [hx] at h
    obtain rfl:=oJ_ h
    obtain⟨k,a,h1,h2⟩:=IU hx
    exact⟨k,a,by simpa using h1,h2⟩
theorem DY {kt:Nat}{v:Value}{c:Value->Bool}{w:World}:∀ {es:List (Value × AV)}{L:List MapEntry}{o:Nat},(∀ p ∈ es,∀ w,(Op.equal kt v p.1).run P w=.ok (c p.1) w)->L.length=es.length ->
  (∀ (j:Nat) (k:Value) (a:AV) (e:MapEntry),es[j]?=some (k,a)->L[j]?=some e->e.key=k) ->
  (Instr.findAsking kt v L o).run P w=.ok (match lK c es with|some j=>(L[j]?).map fun e=>(j+o,e.val)|none=>none) w
 |[],[],o,_,_,_=>rfl
 |p::es,e::L,o,hq,hl,h=>by
  have Z9:e.key=p.1:=h 0 p.1 p.2 e rfl rfl
  have ih:=DY (w:=w) (es:=es) (L:=L) (o:=o+1) (fun q sG=>hq q (by simp [sG])) (by simpa using hl) (fun j k a e' h1 h2=>h (j+1) k a e' (by simpa using h1) (by simpa using h2))
  simp only [Instr.findAsking,Sem.run_bind,Z9,hq p (by simp) w,Result.andThen_ok,lK]
  cases hc:c p.1 with
  |true=>simp [Sem.run_pure]
  |false =>
   simp only [if_false,Bool.false_eq_true,ih]
   congr 1
   cases lK c es with
   |none=>rfl
   |some j=>simp only [Option.map_some,List.getElem?_cons_succ];congr 1;funext x;congr 1;omega
 |[],_::_,_,_,hl,_=>by simp at hl
 |_::_,[],_,_,hl,_=>by simp at hl
theorem xl.find {kt:Nat}{v:Value}{es:List (Value × AV)}{c:Value->Bool}(h:xl P kt v es c) {g:Gh}{w:World}{entries:Array MapEntry}(bh:entries.size=es.length) (he:∀ (i:Nat) (k:Value) (a:AV),es[i]?=some (k,a)->∃ e:MapEntry,entries[i]?=some e/\e.key=k/\aH g w a e.val) :
  (Instr.findKey kt v entries.toList).run P w=.ok (match lK c es with|some j=>(entries[j]?).map fun e=>(j,e.val)|none=>none) w:=by
 obtain⟨fs,hfs⟩:=h.str
 have hq:=DY (P:=P) (w:=w) (es:=es) (L:=entries.toList) (o:=0) h.eq (by simpa using bh) (fun j k a e h1 h2=>by
  obtain⟨e',h3,h4,_⟩:=he j k a h1
  rw [Array.getElem?_toList,h3] at h2
  rw [<-oJ_ h2];exact h4)
 simp only [Array.getElem?_toList,Nat.add_zero] at hq
 simp only [Instr.findKey,Sem.run_bind,run_underlying hfs,Result.andThen_ok]
 cases hL:entries.toList with
 |nil =>
  rw [hL] at hq
  simp only [Instr.findNow,Sem.run_pure]
  simp only [Instr.findAsking,Sem.run_pure] at hq
  exact hq
 |cons e L =>
  rw [<-hL]
  have:Instr.findNow (.struct fs) v entries.toList 0=none:=by rw [hL];simp [Instr.findNow,Instr.sameNow]
  rw [this]
  exact hq
def fm (c:Value->Bool) (es:List (Value × AV)):Option AV:=match lK c es with|some j=>(es[j]?).map (·.2)|none=>none
theorem OG {o:Op}{kt:Nat}{z:AV}{c:Bool}{x i:QO}(h:res P.toTables o=some (.fm kt z c x i)):∃ t u v et zv,o=.lookup t u v c/\x=qo u/\i=qo v/\P.underlying t=some (.map kt et)/\cU P et=some zv/\z=lift zv:=by
 cases o with
 |lookup t u v c' =>
  simp only [res,bF,gn] at h
  split at h
  ·rename_i kt' et hu
   split at h
   ·cases h
   ·rename_i _ _ zv hk hz
    simp only [oI_,dp.fm.injEq] at h
    obtain⟨rfl,rfl,rfl,rfl,rfl⟩:=h
    exact⟨_,_,_,_,_,rfl,rfl,rfl,hu,hz,rfl⟩
   ·rename_i _ zv hk hz
    simp only [oI_,dp.fm.injEq] at h
    obtain⟨rfl,rfl,rfl,rfl,rfl⟩:=h
    exact⟨_,_,_,_,_,rfl,rfl,rfl,hu,hz,rfl⟩
   all_goals cases h
  ·cases h
 |_ =>
  simp only [res] at h
  repeat' split at h
  all_goals cases h
theorem OH {o:Op}{kt:Nat}{x i b:QO}(h:res P.toTables o=some (.lS kt x i b)):∃ t u v y et,o=.mapUpdate t u v y/\x=qo u/\i=qo v/\b=qo y/\P.underlying t=some (.map kt et):=by
 cases o with
 |mapUpdate t u v y =>
  simp only [res,bF] at h
  split at h
  ·rename_i kt' et hu
   split at h
   ·cases h
   ·simp only [oI_,dp.lS.injEq] at h
    obtain⟨rfl,rfl,rfl,rfl⟩:=h
    exact⟨_,_,_,_,_,rfl,rfl,rfl,rfl,hu⟩
   ·simp only [oI_,dp.lS.injEq] at h
    obtain⟨rfl,rfl,rfl,rfl⟩:=h
    exact⟨_,_,_,_,_,rfl,rfl,rfl,rfl,hu⟩
   all_goals cases h
  ·cases h
 |_ =>
  simp only [res] at h
  repeat' split at h
  all_goals cases h
theorem OI {t kt et:TypeId}{x i:Operand}{k:Nat}{es:List (Value × AV)}{z v:Value}{m:AV}{cm:Bool}{c:Value->Bool}(ho:o.op=.lookup t x i cm) (ht:P.underlying t=some (.map kt et)) (hz:cU P et=some z)
  (hx:α.ev x=.mp k) (hS:S.get k=some (.mp es)) (hi:toV (α.ev i)=some v) (hk:xl P kt v es c):aS P w0 n o α S (match fm c es with|some a=>(if cm then .aE [a,.v (.bool true)] else a)|none=>(if cm then .aE [lift z,.v (.bool false)] else lift z)) S:=by
 refine aS.quiet fun A g q w cQ hA=>?_
 have h1:=hA.ev x
 rw [hx] at h1
 have e2:=uc (hA.ev i) hi
 obtain⟨e1,aO⟩:=ng h1
 obtain⟨_,_,entries,clock,p1,p2,p3⟩:=cQ.bR k _ hS aO
 have hf:=hk.find p2 p3
 have fin:∀ (v:Value) (b:Bool) (a:AV),aH g w a v->aH g w (if cm then .aE [a,.v (.bool b)] else a) (if cm then .tuple #[v,.bool b] else v):=by
  intro v b a hr
  cases cm with
  |false=>exact hr
  |true =>
   refine .aE rfl fun i y x hy hx=>?_
   match i with
   |0=>simp at hy hx;subst hy hx;exact hr
   |1=>simp at hy hx;subst hy hx;exact .v
   |i+2=>simp at hy
 unfold fm
 cases hj:lK c es with
 |none =>
  rw [hj] at hf
  refine⟨_,?_,fin z false (lift z) (rO z)⟩
  simp only [execOp,ho,e1,e2,Instr.lookup,Sem.run_bind,run_underlying ht,Result.andThen_ok,en p1,Sem.run_pure,hk.Z8,hf,kG hz]
 |some j =>
  obtain⟨k',a,ha,_⟩:=IU hj
  obtain⟨e,q1,q2,q3⟩:=p3 j _ a ha
  rw [hj] at hf
  simp only [q1,Option.map_some] at hf
  simp only [ha,Option.map_some]
  refine⟨_,?_,fin e.val true a q3⟩
  simp only [execOp,ho,e1,e2,Instr.lookup,Sem.run_bind,run_underlying ht,Result.andThen_ok,en p1,Sem.run_pure,hk.Z8,hf]
theorem ae.fm {kt:Nat}{z:AV}{cm:Bool}{x i:QO}{k:Nat}{es:List (Value × AV)}{v:Value}{c:Value->Bool}(hx:x.ev α.tm=.mp k) (hS:S.get k=some (.mp es)) (hi:toV (i.ev α.tm)=some v) (hk:xl P kt v es c) :
  ae P w0 false (.fm kt z cm x i) α S (match fm c es with|some a=>(if cm then .aE [a,.v (.bool true)] else a)|none=>(if cm then .aE [z,.v (.bool false)] else z)) S:=ae.run fun n o hr=>by
 obtain⟨t,u,y,et,zv,ho,rfl,rfl,h1,h2,rfl⟩:=OG hr
 rw [aJ] at hx hi
 exact OI (m:=.u) ho h1 h2 hx hS hi hk
theorem ae.lS {kt:Nat}{x i b:QO}{k:Nat}{es:List (Value × AV)}{v:Value}{a:AV}{c:Value->Bool}(hx:x.ev α.tm=.mp k) (hS:S.get k=some (.mp es)) (hi:toV (i.ev α.tm)=some v) (hk:xl P kt v es c) (hn:lK c es=none) (hb:b.ev α.tm=a) :
  ae P w0 false (.lS kt x i b) α S (.v undef) (S.set k (some (.mp (es++[(v,a)])))):=ae.run fun n o hr=>by
 obtain⟨t,u,y,b',et,ho,rfl,rfl,rfl,ht⟩:=OH hr
 rw [aJ] at hx hi hb
 intro A g q w cQ hA
 have h1:=hA.ev u
 have h3:=hA.ev b'
 rw [hx] at h1
 rw [hb] at h3
 have e2:=uc (hA.ev y) hi
 obtain⟨e1,aO⟩:=ng h1
 obtain⟨x,hv⟩:∃ x,q.eval b'=x:=⟨_,rfl⟩
 rw [hv] at h3
 obtain⟨_,_,entries,clock,p1,p2,p3⟩:=cQ.bR k _ hS aO
 have hf:=hk.find p2 p3
 rw [hn] at hf
 obtain⟨w',q1,q2,q3⟩:=cQ.ue (P:=P) hS aO p1 (entries':=entries.push { key:=v,val:=x,born:=clock }) (clock':=clock+1) (es':=es++[(v,a)]) (by simp [p2]) (fun i key a' hi=>by
  by_cases c:i < es.length
  ·rw [List.getElem?_append_left c] at hi
   obtain⟨e,r1,r2,r3⟩:=p3 i key a' hi
   exact⟨e,by rw [Array.getElem?_push_lt (by omega)];rw [Array.getElem?_eq_getElem (by omega)] at r1;exact r1,r2,r3⟩
  ·rw [List.getElem?_append_right (by omega)] at hi
   have Br:i=es.length:=by
    have:=(List.getElem?_eq_some_iff.1 hi).1
    simp at this;omega
   subst Br
   simp at hi
   obtain⟨rfl,rfl⟩:=hi
   exact⟨{ key:=v,val:=x,born:=clock },by rw [<-p2];simp,rfl,h3⟩)
 refine⟨undef,w',g,.inr ⟨?_,rfl⟩,.v,q2,q3⟩
 simp only [execOp,ho,e1,e2,hv,Instr.mapUpdate,Sem.run_bind,run_underlying ht,Result.andThen_ok,en p1,hk.Z8,hf,q1,Sem.run_pure]
end
section
variable {P:Program}{w0:World}{rd:Bool}{n B N:Nat}{α:AA}{S:ad}{Q:Exit->AA->ad->Prop}{K:List fc}{ds:List DE}{ch:List PanicEntry}
theorem aa.qj {σ:Type}{st:σ->List (Nat × AV)}{so:σ->List (Nat × Ob)}{I:σ->Prop}{μ:σ->Nat}{k:Nat}(h:aa P w0 rd n Q (.out (.panic ch) K) α S):aa P w0 rd n (Il P w0 rd n B N st ds so I μ Q K k) (.out (.panic ch) []) α S:=h
end
section
variable {P:Program}{w0:World}{r r':AV}{S':ad}
theorem ah.xm {f:FuncId}{args:List AV}(h1:aK P w0 f args ad.none_ r' S') (h2:bp S' r' r) (hp:Pure r):ah P w0 f args r:=by
 refine⟨hp,ad.none_,h1.1,fun F m A g aQ w hF hS hA=>(h1.2 F m A g aQ w hF hS hA).mono ?_⟩
 rintro e w' ⟨v,g',rfl,h3,h4,h5⟩
 have hk:∀ b q,(g'.still S').fz b q->g.fz b q\/A b:=by
  rintro b q (hq|⟨k,sz,rows,fz,ex,hk,aO,rfl,hq⟩)
  ·exact h5.gF b q hq
  ·exact .inr (h4.bR k _ hk aO).1
 have hr:=h2.rep h4 h3
 obtain⟨g2,ug⟩:∃ g2:Gh,g2=⟨g.ob,g.cp,fun _=>False,(g'.still S').fz,g.fo⟩:=⟨_,rfl⟩
 have wi:∀ k,¬ g.al k:=fun k hk=>absurd (hS.al k hk) (Nat.not_lt_zero k)
 have hL:Later g w g2 w':=by
  rw [ug]
  exact⟨fun k hk=>wi k hk,fun _ _=>rfl,fun _ _=>rfl,fun b q hq=>.inl (h5.fz b q hq),h5.cell⟩
 refine⟨v,g2,rfl,?_,?_,{ hL with size:=h5.size,a7:=h5.a7,gF:=by rw [ug];exact hk }⟩
 ·rw [ug]
  exact aH.pure (g:=g'.still S') (g':=⟨g.ob,g.cp,fun _=>False,(g'.still S').fz,g.fo⟩) (fun _ _ h=>h) (fun _ _ _=>rfl) hr hp
 ·have e0:∀ k o,¬ ad.none_.get k=some o:=fun k o h=>by simp [ad.none_] at h
  refine⟨h4.base,h4.up,h4.lo,fun k hk=>?_,fun k o hk=>absurd hk (e0 k o),fun j k o p hj=>absurd hj (e0 j o),?_,fun b q hb=>hL.fz b q (hS.nS b q hb),fun k J hk=>absurd hk (e0 k _),fun k J j o hk=>absurd hk (e0 k _),fun j k J J' hj=>absurd hj (e0 j _)⟩
  ·rw [ug] at hk
   exact hk.elim
  ·rw [ug]
   rintro b q (hq|⟨k,sz,rows,fz,ex,hk,aO,rfl,hq⟩)
   ·exact h4.cC b q hq
   ·exact (h4.bR k _ hk aO).2.1
end
end Go.Proofs.YtgjfgekaclobaaaGreat
