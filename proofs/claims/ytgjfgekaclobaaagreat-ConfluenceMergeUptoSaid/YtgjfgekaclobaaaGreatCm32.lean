import Derived.Test.YtgjfgekaclobaaaGreatCm31
namespace Go.Proofs.YtgjfgekaclobaaaGreat
set_option linter.unusedVariables false
set_option linter.unusedSimpArgs false
open Go.RowKit
section
variable {P:Program}{w0:World}{dr:Bool}{N:Nat}{so:List (Nat × Ob)}{S T:aa}{α:AA}{f:FuncId}{args:List AV}{r:AV}
theorem Rn.bT {a:AV}(h:cC N a):Rn id N a a:=fun g w x hr=>aA.bT (B:=N) (g:=g) (g':=g.pre id N) (fun k hk ha=>⟨hk,ha⟩) (fun _ _=>rfl) (fun _ _=>rfl) (fun _ _ h=>h) hr h
theorem cH.bT {g g':Gh}{w:World}{B b cp:Nat}{o:Ob}(aH:∀ k,k < B->g.al k->g'.al k) (gK:∀ k,k < B->g.al k->g'.ob k=g.ob k) (mI:∀ k,k < B->g.al k->g'.cp k=g.cp k) (hf:g'.fz=g.fz) (hk:kH B o) (hn:∀ J,o ≠ .fo J)
  (hr:∀ {a:AV}{x:Value},cC B a->aA g w a x->aA g' w a x) (h:cH g w b cp o):cH g' w b cp o:=by
 cases o with
 |arr sz rows fz ex =>
  obtain⟨cs,ty,h1,h2,h3,h4,h5,h6,h7⟩:=h
  refine⟨cs,ty,h1,h2,h3,h4,fun i row fg=>⟨(h5 i row fg).1,fun j a ha=>?_⟩,h6,by rw [hf];exact h7⟩
  obtain⟨x,hx,cK⟩:=(h5 i row fg).2 j a ha
  exact⟨x,hx,hr (hk _ (List.mem_of_getElem? fg) _ (List.mem_of_getElem? ha)) cK⟩
 |mp es =>
  obtain⟨entries,clock,h1,h2,h3⟩:=h
  refine⟨entries,clock,h1,h2,fun i k a ha=>?_⟩
  obtain⟨e,he,eY,SJ⟩:=h3 i k a ha
  exact⟨e,he,eY,hr (hk _ (List.mem_of_getElem? ha)) SJ⟩
 |mb es =>
  obtain⟨entries,h1,h2,h3,h4⟩:=h
  refine⟨entries,h1,h2,fun i k a ha=>?_,h4⟩
  obtain⟨e,he,eY,SJ⟩:=h3 i k a ha
  exact⟨e,he,eY,hr (hk _ (List.mem_of_getElem? ha)) SJ⟩
 |lp st jO tm ps assign body =>
  obtain⟨L,h1,h2,h3,h4,h5,h6,h7,h8⟩:=h
  exact⟨L,h1,h2,h3,h4,h5,h6,fun t ht=>hr (hk t) (h7 t ht),h8⟩
 |df=>exact h
 |si s pos=>exact h
 |fo J=>exact absurd rfl (hn J)
 |un=>exact h.elim
theorem kJ.bT {o:Ob}(hk:kH N o) (hn:∀ J,o ≠ .fo J):kJ id N o o:=by
 refine⟨fun g w b cp h=>?_,fun J h=>h⟩
 exact cH.bT (B:=N) (g:=g) (g':=g.pre id N) (fun k hk ha=>⟨hk,ha⟩) (fun _ _ _=>rfl) (fun _ _ _=>rfl) rfl hk hn (fun hk h=>Rn.bT hk g w _ h) h
theorem aA.back {gc g:Gh}{w:World}{o:Nat->Nat}(ho:∀ k,k < N->o k=k) (hB:Bk o gc g):∀ {a:AV}{x:Value},cC N a->aA gc w a x->aA g w a x:=by
 have aH:∀ k,k < N->gc.al k->g.al k:=fun k hk ha=>by have:=hB.al k ha;rwa [ho k hk] at this
 have gK:∀ k,k < N->gc.al k->g.ob k=gc.ob k:=fun k hk ha=>by have:=hB.ob k ha;rwa [ho k hk] at this
 have mI:∀ k,k < N->gc.al k->g.cp k=gc.cp k:=fun k hk ha=>by have:=hB.cp k ha;rwa [ho k hk] at this
 have nY:=hB.fz
 intro a x hp h
 induction h with
 |u=>exact .u
 |v=>exact .v
 |agg hs h ih=>cases hp with|agg hp=>exact .agg hs fun i a x h1 h2=>ih i a x h1 h2 (hp _ (List.mem_of_getElem? h1))
 |aC hs h ih=>cases hp with|aC hp=>exact .aC hs fun i a x h1 h2=>ih i a x h1 h2 (hp _ (List.mem_of_getElem? h1))
 |nil hc=>exact .nil hc
 |sl hn lX hle hl h hr ih =>
  cases hp with
  |sl hp=>exact .sl hn lX hle hl (fun i j row a h1 h2=>⟨by rw [nY];exact (h i j row a h1 h2).1,(h i j row a h1 h2).2⟩) (fun i j row a h1 h2=>ih i j row a h1 h2 (hp _ (List.mem_of_getElem? h1) _ (List.mem_of_getElem? h2)))
 |ip h hr ih =>
  cases hp with
  |ip hp=>exact .ip (fun i a h1=>⟨by rw [nY];exact (h i a h1).1,(h i a h1).2⟩) (fun i a h1=>ih i a h1 (hp _ (List.mem_of_getElem? h1)))
 |ob hk hc Jb hx hle =>
  cases hp with
  |ob aB =>
   rw [<-gK _ aB hk]
   exact .ob (aH _ aB hk) hc (by rw [mI _ aB hk];exact Jb) (by rw [mI _ aB hk];exact hx) hle
 |pt hk =>
  cases hp with
  |pt aB=>rw [<-gK _ aB hk];exact .pt (aH _ aB hk)
 |mp hk =>
  cases hp with
  |mp aB=>rw [<-gK _ aB hk];exact .mp (aH _ aB hk)
 |yl hk =>
  cases hp with
  |yl aB=>rw [<-gK _ aB hk];exact .yl (aH _ aB hk)
 |ia=>exact .ia
 |gr hk hx hle =>
  cases hp with
  |gr aB=>rw [<-gK _ aB hk];exact .gr (aH _ aB hk) (by rw [mI _ aB hk];exact hx) hle
 |fn h1 h2 h3 h4 I5 I6 =>
  cases hp with
  |fn p1 p2=>exact .fn h1 h2 (fun i a x e1 e2=>I5 i a x e1 e2 (p1 _ (List.mem_of_getElem? e1))) (fun i a x e1 e2=>I6 i a x e1 e2 (p2 _ (List.mem_of_getElem? e1)))
structure xP (so:List (Nat × Ob)) (N:Nat) (T:aa):Prop where
 le:N<=T.nx
 get:∀ j o,cM so j=some o->j < N/\T.get j=some o/\kH N o/\∀ J,o ≠ .fo J
 all:∀ j,j < N->∃ o,cM so j=some o
theorem aE.same (h:aE P w0 f args (au so N) r (au so N)) (hT:xP so N T) (ha:∀ a ∈ args,cC N a) (hr:cC N r):aE P w0 f args T r T:=by
 obtain⟨T',tL⟩:∃ T':aa,T'=⟨fun k=>if k < T.nx then T.get k else none,T.nx⟩:=⟨_,rfl⟩
 have get':∀ k o,T'.get k=some o->k < T.nx/\T.get k=some o:=fun k o hk=>by
  rw [tL] at hk
  have hk:(if k < T.nx then T.get k else none)=some o:=hk
  split at hk
  ·exact⟨by assumption,hk⟩
  ·cases hk
 have oZ:T'.nx=T.nx:=by rw [tL]
 have tM:∀ k o,k < T.nx->T.get k=some o->T'.get k=some o:=fun k o hk h=>by
  rw [tL]
  show (if k < T.nx then T.get k else none)=some o
  rw [if_pos hk];exact h
 have hle:=hT.le
 have ho:∀ k,k < N->da id N T'.nx k=k:=fun k hk=>kB hk
 have hf:Fits id (au so N) (au so N) T' T':=by
  refine⟨fun i j _ _ e=>e,fun j hj=>by rw [oZ];exact Nat.lt_of_lt_of_le hj hle,fun j o hj=>?_,fun k o hk=>?_,.inr ⟨Nat.le_refl _,rfl⟩,.inr fun j J hj=>?_⟩
  ·obtain⟨h1,h2,h3,h4⟩:=hT.get j o hj
   exact⟨o,tM j o (Nat.lt_of_lt_of_le h1 hle) h2,kJ.bT h3 h4⟩
  ·obtain⟨h1,h2⟩:=get' k o hk
   by_cases eY:k < N
   ·obtain⟨o',Om⟩:=hT.all k eY
    obtain⟨q1,q2,q3,q4⟩:=hT.get k o' Om
    obtain rfl:o'=o:=by rw [h2] at q2;exact (Option.some.inj q2).symm
    refine .inl ⟨k,o',ho k eY,Om,fun gc g w b cp hB _ lJ=>?_,fun J e=>e⟩
    have l9:∀ k,k < N->da id (au so N).nx T'.nx k=k:=ho
    exact cH.bT (B:=N) (fun k hk ha=>by have:=hB.al k ha;rwa [l9 k hk] at this) (fun k hk ha=>by have:=hB.ob k ha;rwa [l9 k hk] at this) (fun k hk ha=>by have:=hB.cp k ha;rwa [l9 k hk] at this) hB.fz q3 q4 (fun hk h=>aA.back l9 hB hk h) lJ
   ·exact .inr ⟨by rw [oZ];exact h1,fun j hj e=>eY (by rw [<-e];exact hj),hk⟩
  ·obtain⟨_,_,_,h4⟩:=hT.get j _ hj
   exact absurd rfl (h4 J)
 have hc:=h.frame hf rfl (fun i a b h1 h2=>by
  rw [h1] at h2
  obtain rfl:=Option.some.inj h2
  exact Rn.bT (ha _ (List.mem_of_getElem? h1))) (fun gc g w x hB lJ=>aA.back (N:=N) (o:=da id (au so N).nx T'.nx) ho hB hr lJ)
 refine⟨hc.1,fun F m A g aV w hF hS hA=>(hc.2 F m A g aV w hF (hS.forget (by rw [oZ];exact Nat.le_refl _) fun j p hj _=>(get' j p hj).2) hA).mono ?_⟩
 rintro e w' ⟨v,g',rfl,h1,h2,h3⟩
 refine⟨v,g',rfl,h1,h2.forget (by rw [oZ];exact Nat.le_refl _) fun j p hj aH=>?_,h3⟩
 have:=h2.al j aH
 exact tM j p (by rw [<-oZ];exact this) hj
theorem ad.UY {f:QO}{jz:List QO}{g:FuncId}{args:List AV}(hc:aE P w0 g args (au so N) r (au so N)) (h:dZ (f.ev α.tm) (jz.map (·.ev α.tm))=some (g,args)) (hT:xP so N T) (ha:∀ a ∈ args,cC N a) (hr:cC N r):ad P w0 dr (.call f jz) α T r T :=
 ad.call h (hc.same hT ha hr) fun _=>rfl
end
section
variable {P:Program}{w0:World}{α:AA}{S:aa}
theorem ad.xQ {x i b:QO}{k:Nat}{es:List (Value × AV)}{m:Int}{a:AV}(hx:x.ev α.tm=.mp k) (hS:S.get k=some (.mp es)) (hk:ji es) (hi:i.ev α.tm=.v (.int .i64 m)) (hb:b.ev α.tm=a) :
  ad P w0 true (.gQ x i b) α S (.v undef) (S.set k (some (.mp (pX es m a)))):=by
 intro n o hr
 obtain⟨t,u,v,y,kt,et,kk,ho,rfl,rfl,rfl,h1,h2⟩:=we hr
 rw [aD] at hx hi hb
 have e:∀ z ∈ [u,v,y],(α.only (bU o)).ev z=α.ev z:=fun z hz=>dM fun t ht=>dA (by rw [ho];simp [Op.operands,<-ht];simpa using hz)
 exact⟨(AY ho h1 h2 (by rw [e u (by simp)];exact hx) hS hk (by rw [e v (by simp)];exact hi) (by rw [e y (by simp)];exact hb)).ops (fun c e=>by rw [ho] at e;cases e),
  fun hp=>(by rw [ho] at hp;cases hp),fun hw=>(by rw [ho] at hw;cases hw)⟩
theorem ab.xQ {rd:Bool}{n:Nat}{Q:Exit->AA->aa->Prop}{l:List QI}{K:List ig}{ρ:Hd}{T:Type}{f:T->AV}{kv:List (Int × T)}{d:Option Nat}{g:Option (Nat × Bool)}{x i b:QO}{k:Nat}{m:Int}{v:T}(hw:bB α.tm g=some true) (hx:x.ev α.tm=.mp k) (hS:S.get k=some (.mp (ρ.h (cu f) kv))) (hi:i.ev α.tm=.v (.int .i64 m)) (hb:b.ev α.tm=f v)
  (k1:∀ pA,pA=ee kv m v->ab P w0 rd n Q (.aR true l K) (bJ d α (.v undef)) (S.set k (some (.mp (ρ.h (cu f) pA))))):ab P w0 rd n Q (.aR true (⟨d,g,.gQ x i b⟩::l) K) α S:=by
 have h:=ad.xQ (P:=P) (w0:=w0) hx hS (by rw [ρ.eq];exact lS) hi hb
 rw [ρ.eq,wb,<-ρ.eq (cu f)] at h
 exact ab.op (i:=⟨d,g,.gQ x i b⟩) hw h (k1 _ rfl)
end
section
variable {P:Program}{w0:World}{n:Nat}{α:AA}{S S':aa}{r:AV}
def Fl (P:Program) (t:Target):Prop:=∃ (qC:Array TypeId) (ty:TypeId) (cs:Array Bool) (mt kt et:TypeId) (kk:IntKind),t=.builtin .delete qC ty cs/\qC[0]?=some mt/\P.underlying mt=some (.map kt et)/\P.underlying kt=some (.int kk)
theorem JF {A:Nat->Prop}{g:Gh}{w:World}{t:Target}{k:Nat}{es:List (Value × AV)}{m:Int}(hS:St w0 A g S w) (ht:Fl P t) (hk:S.get k=some (.mp es)) (hi:ji es) (ha:g.al k) :
  ∃ w',(invoke t #[.map (some (g.ob k)),.int .i64 m]).run P w=.ok (.value (.tuple #[])) w'/\St w0 A g (S.set k (some (.mp (yv es m)))) w'/\Ext A g w g w':=by
 obtain⟨qC,ty,cs,mt,kt,et,kk,rfl,h0,h1,h2⟩:=ht
 obtain⟨_,_,entries,clock,p1,p2,p3⟩:=hS.bj k _ hk ha
 have hf:=sP p2 p3 hi (kk:=kk) m
 have Zw:∀ b,(Instr.checkKey b 10000 kt (.int .i64 m)).run P w=.ok () w:=fun b=>run_checkKey h2 b m
 unfold yv
 cases hj:fJ es m with
 |none =>
  rw [hj] at hf
  obtain⟨w',q1,q2,q3⟩:=hS.qq (P:=P) hk ha p1 (entries':=entries) (clock':=clock) (es':=es) p2 p3
  refine⟨w',?_,q2,q3⟩
  have tN:(Instr.findKey kt (.int .i64 m) entries.toList).run P w=.ok none w:=run_findKey h2 hf
  simp [invoke,builtin,Builtin.delete_,h0,Sem.run_bind,run_underlying h1,dg p1,Zw,tN,q1]
 |some j =>
  obtain⟨a,RH⟩:=oz hi hj
  obtain⟨e,r1,r2,r3⟩:=p3 j _ a RH
  rw [hj] at hf
  simp only [r1,Option.map_some] at hf
  have eJ:j < entries.size:=(Array.getElem?_eq_some_iff.1 r1).1
  have Zx:entries.eraseIdxIfInBounds j=entries.eraseIdx j eJ:=by simp [Array.eraseIdxIfInBounds,eJ]
  obtain⟨w',q1,q2,q3⟩:=hS.qq (P:=P) hk ha p1 (entries':=entries.eraseIdxIfInBounds j) (clock':=clock) (es':=es.eraseIdx j) (by
   rw [Zx,Array.size_eraseIdx,List.length_eraseIdx,if_pos (by omega),p2]) (fun i key a' eL=>by
   rw [List.getElem?_eraseIdx] at eL
   rw [Zx,Array.getElem?_eraseIdx]
   split at eL
   ·rename_i c
    rw [if_pos c]
    exact p3 i key a' eL
   ·rename_i c
    rw [if_neg c]
    exact p3 (i+1) key a' eL)
  refine⟨w',?_,q2,q3⟩
  have tN:(Instr.findKey kt (.int .i64 m) entries.toList).run P w=.ok (some (j,e.val)) w:=run_findKey h2 hf
  simp [invoke,builtin,Builtin.delete_,h0,Sem.run_bind,run_underlying h1,dg p1,Zw,tN,q1]
theorem Dm {fr:Frame}{cs:List Frame}{w w':World}{d:Deferred}{ds:List Deferred}{b:Builtin}{qC:Array TypeId}{ty:TypeId}{consts:Array Bool}{v:Value}(hm:fr.mode ≠ .run) (hd:fr.defers=d::ds) (ht:d.target=.builtin b qC ty consts)
  (hi:(invoke d.target d.args).run P w=.ok (.value v) w'):step P (lone fr cs w)=.next (lone { fr with defers:=ds } cs w'):=by
 obtain⟨t,a⟩:=d
 simp only at ht hi
 subst ht
 refine step_lone_go ?_
 cases Fm:fr.mode with
 |run=>exact absurd Fm hm
 |returning=>simp [stepG,unwind,callDeferred,Fm,hd,Sem.runT_eq,hi,GStep.bare_after]
 |panicking chain=>simp [stepG,unwind,callDeferred,Fm,hd,Sem.runT_eq,hi,GStep.bare_after]
def qJ (F:Fence) (n:Nat) (P:Program) (fn:Func) (tmps:Array Value) (R:Ending->World->Prop):List Deferred->World->Prop
 |[],w=>LeavesIn F n P fn tmps R [] .returning w
 |d::ds,w=>∃ w',((∃ r,d.target=.collected r/\(Instr.takeDeferred r).run P w=.ok [] w')\/(∃ b qC ty cs v,d.target=.builtin b qC ty cs/\(invoke d.target d.args).run P w=.ok (.value v) w'))/\qJ F n P fn tmps R ds w'
theorem sv {F:Fence}{n:Nat}{fn:Func}{tmps:Array Value}{R:Ending->World->Prop}:∀ (ds:List Deferred) (w:World) (fr:Frame) (cs:List Frame),fr.mode=.returning->fr.defers=ds->fr.tmps=tmps->P.funcs[fr.fn]?=some fn->fr.kind=.normal->F.fn fr.fn->F.room (cs.length+1+n) ->
  qJ F n P fn tmps R ds w->∃ e w' tO,R e w'/\ComesIn (Machine.fenced P F) P (lone fr cs w) (lone tO cs w') e/\tO.fn=fr.fn/\tO.leaving P w' e:=by
 intro ds
 induction ds with
 |nil=>exact fun w fr cs hu hd ht hf hk hb iM h=>leaves_stepsIn [] .returning w fr cs hu hd ht hf hk hb iM h
 |cons d ds ih =>
  intro w fr cs hu hd ht hf hk hb iM h
  obtain⟨w',h,uS⟩:=h
  have bw:fr.mode ≠ .run:=by rw [hu];simp
  rcases h with ⟨r,BU,UZ⟩|⟨b,qC,ty,consts,v,BU,hinv⟩
  ·have h1:=step_collected (cs:=cs) bw hd BU UZ
   have i1:(lone fr cs w).fenced P F:=fenced_out hb iM bw hd (fun g hg=>by rw [BU] at hg;simp [Target.leads] at hg)
   obtain⟨e',iY,tO,DO,eg,Lw,jT⟩:=ih w' { fr with defers:=[]++ds } cs hu rfl ht hf hk hb iM uS
   exact⟨e',iY,tO,DO,ComesIn.of_steps (.one i1 h1) eg,Lw,jT⟩
  ·have h1:=Dm (cs:=cs) bw hd BU hinv
   have i1:(lone fr cs w).fenced P F:=fenced_out hb iM bw hd (fun g hg=>by rw [BU] at hg;simp [Target.leads] at hg)
   obtain⟨e',iY,tO,DO,eg,Lw,jT⟩:=ih w' { fr with defers:=ds } cs hu rfl ht hf hk hb iM uS
   exact⟨e',iY,tO,DO,ComesIn.of_steps (.one i1 h1) eg,Lw,jT⟩
def JG (F:Fence) (n:Nat) (P:Program) (fn:Func) (R:Ending->World->Prop):Exit->Act->World->Prop
 |.normal,a,w|.ret,a,w=>qJ F n P fn a.tmps R a.defers w
 |_,_,_=>False
theorem yO {F:Fence}{n:Nat}{f:FuncId}{fn:Func}{c:Code}{args:Array Value}{w:World}{R:Ending->World->Prop}
  (hf:P.funcs[f]?=some fn) (hb:fn.body=some c) (hF:F.fn f)
  (h:c.wpIn F n P (JG F n P fn R) { tmps:=args++Array.replicate (fn.ntmps - args.size) undef,defers:=[] } w) (jv:F.round=none:=by rfl):CallsIn F n P f args w R:=by
 refine⟨hF,fun cs hr=>?_⟩
 let b:Frame:={ (default:Frame) with fn:=f,kind:=.normal,roundOf:=none }
 have td:Frame.enter P f args .normal =
   b.atR { tmps:=args++Array.replicate (fn.ntmps - args.size) undef,defers:=[] } [.code c]:=by
  simp [Frame.enter,Frame.atR,hf,hb,b]
 obtain⟨e,a',w',hq,iR⟩:=h b [] cs jv.symm hF hr
 rw [<-td] at iR
 cases e with
 |normal =>
  obtain⟨e',iY,tO,hR,hs,tf,hl⟩:=sv a'.defers w' { b.atR a' [] with mode:=.returning } cs rfl rfl rfl hf rfl hF hr hq
  exact⟨e',iY,tO,hR,ComesIn.of_steps (StepsIn.trans iR (.one (fenced_calm (fr:=b.atR a' []) hF hr rfl) (stepR_end rfl))) hs,tf,hl⟩
 |ret =>
  obtain⟨todo,U0⟩:=iR.1 rfl
  obtain⟨e',iY,tO,hR,hs,tf,hl⟩:=sv a'.defers w' { b.atR a' todo with mode:=.returning } cs rfl rfl rfl hf rfl hF hr hq
  exact⟨e',iY,tO,hR,ComesIn.of_steps U0 hs,tf,hl⟩
 |panic chain=>exact hq.elim
 |exit id=>exact hq.elim
 |goto l=>exact hq.elim
 |outgrown=>exact hq.elim
inductive qK (P:Program):aa->List DE->aa->Prop
 |nil {S:aa}:qK P S [] S
 |ob {S S':aa}{k:Nat}{ks:List DE}(hk:S.get k=some .df) (h:qK P (S.set k none) ks S'):qK P S (.ob k::ks) S'
 |del {S S':aa}{t:Target}{k:Nat}{i:Int}{ks:List DE}{es:List (Value × AV)}(ht:Fl P t) (hk:S.get k=some (.mp es)) (he:ji es) (h:qK P (S.set k (some (.mp (yv es i)))) ks S'):qK P S (.del t k i::ks) S'
theorem JH {F:Fence}{m:Nat}{A:Nat->Prop}{fn:Func}{tmps:Array Value}{R:Ending->World->Prop}{ks:List DE}{S S':aa}(hL:qK P S ks S'):∀ {g:Gh}{w:World},St w0 A g S w->(∀ d ∈ ks,g.al d.k) ->
  (∀ w',St w0 A g S' w'->Ext A g w g w'->∃ v,(results fn tmps).run P w'=.ok v w'/\R (.returned v) w')->qJ F m P fn tmps R (ks.map (Bq g.ob)) w:=by
 induction hL with
 |nil=>exact fun hS _ h=>h _ hS (Ext.refl ..)
 |ob hk _ ih =>
  intro g w hS ha h
  obtain⟨w',h1,h2,h3⟩:=hS.take (P:=P) hk (ha _ (.head _))
  exact⟨w',.inl ⟨_,rfl,h1⟩,ih h3 (fun d hd=>ha d (.tail _ hd)) fun iY h4 h5=>h iY h4 (h2.trans h5)⟩
 |@del S S' t k i ks es ht hk he _ ih =>
  intro g w hS ha h
  obtain⟨w',h1,h2,h3⟩:=JF (m:=i) hS ht hk he (ha _ (.head _))
  obtain⟨qC,ty,cs,mt,kt,et,kk,rfl,_⟩:=ht
  exact⟨w',.inr ⟨_,_,_,_,_,rfl,h1⟩,ih h2 (fun d hd=>ha d (.tail _ hd)) fun iY h4 h5=>h iY h4 (h3.trans h5)⟩
def Lx (P:Program) (qs:List QR) (R:AV->aa->Prop) (ex:Exit) (α:AA) (S:aa):Prop :=
 EX ex=true/\∃ S' r,qK P S α.df S'/\(match jJ α.tm S' qs with|some [a]=>some a|some l=>some (.aC l)|none=>none)=some r/\R r S'
theorem bQ.aaC {f:FuncId}{q:QC × List QR}{args:List AV}{R:AV->aa->Prop}(F:bQ P f q n) (aT:args.length<=n) (h:ab P w0 false n (Lx P q.2 R) (.run q.1 []) ⟨j7 args,[]⟩ S):∃ r S',aE P w0 f args S r S'/\R r S':=by
 obtain⟨fn,c,hf,hb,hn,hr,hq,hd,hc⟩:=F.out
 obtain⟨ex,ag,S1,yP,he,S',r,hL,ga,hR⟩:=h c hq hd
 have U1:rz P fn.results ag S'=some r:=by
  unfold rz
  split at ga
  ·rename_i a po
   obtain rfl:=Option.some.inj ga
   rw [vY hr po]
  ·rename_i l aP po
   obtain rfl:=Option.some.inj ga
   rw [vY hr po]
   split
   ·rename_i e;injection e with e;subst e;exact (aP _ rfl).elim
   ·rename_i e;injection e with e;subst e;rfl
   ·rename_i e;cases e
  ·cases ga
 refine⟨r,S',⟨hc,fun F m A g aV w hF hS hA=>?_⟩,hR⟩
 have key:CallsIn F.plain m P f aV w fun e w'=>∃ v g',e=.returned v/\aA g' w' r v/\St w0 A g' S' w'/\Ext A g w g' w':=by
  refine yO hf hb (hF.1 f) ?_ rfl
  rw [hn]
  refine wpIn_mono (yP F.plain m A g _ w hF.plain rfl hS (xR hA aT)) ?_
  rintro ex' a' w' ⟨rfl,g',h1,h2,h3⟩
  have hl:qJ F.plain m P fn a'.tmps (fun e w'=>∃ v g',e=.returned v/\aA g' w' r v/\St w0 A g' S' w'/\Ext A g w g' w') a'.defers w':=by
   rw [h2.df]
   refine JH hL h1 h2.oN fun iY h4 h5=>?_
   obtain⟨v,h6,h7⟩:=xS h4 (h2.later h5.toLater) U1
   exact⟨v,h6,v,g',rfl,h7,h4,h3.trans h5⟩
  cases ex' with
  |normal=>exact hl
  |ret=>exact hl
  |_=>cases he
 exact key
theorem bQ.U2 {f:FuncId}{args:List AV}{r':AV}{q:QC × List QR}(B N:Nat) (so:List (Nat × Ob)) (F:bQ P f q n) (aT:args.length<=n) (hn:Nat.ble S.nx B=true) (hb:Nat.ble B N=true)
  (h:ab P w0 false n (Lx P q.2 fun r S'=>∃ m,fy B m N r r'/\eI B m N S' so/\ly B m (so.map (·.1))=true) (.run q.1 []) ⟨j7 args,[]⟩ S):aE P w0 f args S r' (au so N):=by
 obtain⟨r,S',h1,m,h2,h3,h4⟩:=bQ.aaC F aT h
 exact h1.canon hn h2 h3 h4 hb
end
end Go.Proofs.YtgjfgekaclobaaaGreat
