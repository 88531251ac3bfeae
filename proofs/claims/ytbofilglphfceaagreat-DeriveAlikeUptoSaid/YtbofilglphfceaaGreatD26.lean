import Derived.Laws.Cover3
import Derived.Test.YtbofilglphfceaaGreatD25
namespace Go.Proofs.YtbofilglphfceaaGreat
set_option linter.unusedVariables false
set_option linter.unusedSimpArgs false
open Go.RowKit
section
set_option maxRecDepth 100000
attribute [local irreducible] ag aR aa ab
def Gs:CF Tryz.f177:=⟨_,by conv=>lhs;cbv⟩
theorem LC:bN Tryz.prog 177 Gs.1 Tryz.f177.ntmps:=cd Tryz.func177 Gs.2 Tryz.call177
def Jo:List Nat:=[1,2,0,5]
def Jp:CF Tryz.f95:=⟨_,by conv=>lhs;cbv⟩
theorem Qn:bN Tryz.prog 95 Jp.1 Tryz.f95.ntmps:=cd Tryz.func95 Jp.2 Tryz.call95
def nX:List Nat:=[5,4,3,2,0,1,11]
def qK (x:Tm):List Tm:=if x.k=2 then x.a else []
mutual
def fS:Tm->Nat
 |⟨k,i,n,a⟩=>if k=2 then 1+b_ a else 1
def b_:List Tm->Nat
 |[]=>0
 |x::l=>fS x+b_ l
end
theorem vk (x:Tm):fS x=1+b_ (qK x):=by
 obtain⟨k,i,n,a⟩:=x
 rw [fS,qK]
 split<;>rfl
theorem oN (x:Tm):1<=fS x:=by rw [vk];omega
theorem pZ:∀ (l:List Tm) (k:Nat),b_ (l.drop k)<=b_ l
 |[],k=>by simp
 |x::l,0=>by simp
 |x::l,k+1=>by
  rw [List.drop_succ_cons,b_]
  have:=pZ l k
  omega
theorem nA:∀ l:List Tm,l.length<=b_ l
 |[]=>Nat.le_refl 0
 |x::l=>by
  have:=nA l
  have:=oN x
  rw [b_,List.length_cons]
  omega
section
variable {w0:World}{ρ:Hd}
theorem HM (x:Tm):ag Tryz.prog w0 177 [tm ρ x] (tl ρ (qK x)):=by
 obtain⟨k,i,n,a⟩:=x
 refine LC.bc (by simp [Tryz.ntmps177]) ((b8 _)) ?_
 refine gq Jo ?_
 repeat' (first
  |(refine bq (fun hb=>?_) (fun hb=>?_)<;>(try simp only [aJ] at hb)<;>(first|refine gq Jo ?_))
  |(refine fq ?_))
 ·rw [qK,if_pos hb];exact bG.of_eq rfl
 ·rw [qK,if_neg hb,tl,jj];exact bG.wk
theorem xB (n:Nat):∀ x:Tm,fS x<=n->n<=1099511627776->ag Tryz.prog w0 95 [tm ρ x] (iv (fS x)):=by
 induction n with
 |zero=>intro x h;have:=oN x;omega
 |succ n ih =>
  intro x hx hn
  have hs:=vk x
  have hl:=nA (qK x)
  obtain⟨A,hA⟩:∃ A,A=qK x:=⟨_,rfl⟩
  rw [<-hA] at hs hl
  have ha:ag Tryz.prog w0 177 [tm ρ x] (tl ρ A):=by rw [hA];exact HM x
  refine Qn.bc (by simp [Tryz.ntmps95]) (.v) ?_
  refine gq nX ?_
  repeat' (first
   |((refine ab.op rfl (aa.aB rfl ha ⟨bT _,trivial⟩) ?_;refine gq nX ?_))
   )
  refine ab.cO (σ:=Int × Int) 1 1 [] (fun p=>[(3,.v (.int .i64 p.2)),(4,tl ρ A),(5,.v (.int .i64 p.1))]) [] (fun _=>[])
   (fun p=>∃ k:Nat,p.1=k/\k<=A.length/\0<=p.2/\p.2+b_ (A.drop k)=fS x) (fun p=>A.length - p.1.toNat) (0,1) ⟨0,rfl,by simp,by simp,by simp;omega⟩ rfl cq ?_
  rintro⟨i,c⟩ ⟨k,hi,hk,h0,hp⟩
  simp only at hi h0 hp
  refine gq nX ?_
  by_cases au:k < A.length
  ·obtain⟨y,hy,dL⟩:=aU au
   have hd:=pZ A k
   rw [dL,b_] at hp hd
   have Jq:=oN y
   repeat' (first
    |(refine ab.op rfl (aa.ind rfl rfl (mJ (l:=A) hi hy) mK) ?_;refine gq nX ?_)
    |(refine ab.int rfl (aa.aB rfl (ih y (by omega) (by omega)) ⟨bT _,trivial⟩) fun _ _=>?_;refine gq nX ?_)
    |(refine bq (fun hb=>?_) (fun hb=>?_)<;>(try simp only [aJ] at hb)<;>(first|refine gq nX ?_))
    |(refine aS fun m hm=>?_;(try rw [aq] at hm);refine gq nX ?_)
    |(refine cQ fun _ _=>?_;refine gq nX ?_)
    |(refine ab.aK ?_;refine gq nX ?_)
    |(refine fq ?_))
   all_goals first
    |(exfalso;omega)
    |(refine ab.cK (σ:=Int × Int) (_,_) [] ?_ ?_ cq
      ·exact⟨k+1,by simp only;omega,by omega,by simp only;omega,by simp only;omega⟩
      ·simp only;omega)
  ·skip
   repeat' (first
    |(refine bq (fun hb=>?_) (fun hb=>?_)<;>(try simp only [aJ] at hb)<;>(first|refine gq nX ?_))
    |(refine aS fun m hm=>?_;(try rw [aq] at hm);refine gq nX ?_)
    |(refine ab.aK ?_;refine gq nX ?_)
    |(refine fq ?_))
   all_goals first
    |(exfalso;omega)
    |(rw [List.drop_eq_nil_of_le (by omega),b_] at hp;exact gR (by omega))
end
end
section
variable {P:Program}{w0:World}{dr:Bool}{N:Nat}{so:List (Nat × Ob)}{S T:U}{α:AA}{f:FuncId}{args:List AV}{r:AV}
theorem Rn.d_ {a:AV}(h:da N a):Rn id N a a:=fun g w x hr=>ao.d_ (B:=N) (g:=g) (g':=g.pre id N) (fun k hk ha=>⟨hk,ha⟩) (fun _ _=>rfl) (fun _ _=>rfl) (fun _ _ h=>h) hr h
theorem cN.d_ {g g':Gh}{w:World}{B b cp:Nat}{o:Ob}(aY:∀ k,k < B->g.al k->g'.al k) (gE:∀ k,k < B->g.al k->g'.ob k=g.ob k) (lB:∀ k,k < B->g.al k->g'.cp k=g.cp k) (hf:g'.fz=g.fz) (hk:rA B o) (hn:∀ J,o ≠ .fo J)
  (hr:∀ {a:AV}{x:Value},da B a->ao g w a x->ao g' w a x) (h:cN g w b cp o):cN g' w b cp o:=by
 cases o with
 |arr sz rows fz ex =>
  obtain⟨cs,ty,h1,h2,h3,h4,h5,h6,h7⟩:=h
  refine⟨cs,ty,h1,h2,h3,h4,fun i row hY=>⟨(h5 i row hY).1,fun j a ha=>?_⟩,h6,by rw [hf];exact h7⟩
  obtain⟨x,hx,dC⟩:=(h5 i row hY).2 j a ha
  exact⟨x,hx,hr (hk _ (List.mem_of_getElem? hY) _ (List.mem_of_getElem? ha)) dC⟩
 |mp es =>
  obtain⟨entries,clock,h1,h2,h3⟩:=h
  refine⟨entries,clock,h1,h2,fun i k a ha=>?_⟩
  obtain⟨e,he,kK,hre⟩:=h3 i k a ha
  exact⟨e,he,kK,hr (hk _ (List.mem_of_getElem? ha)) hre⟩
 |lp st n0 tm ps assign body =>
  obtain⟨L,h1,h2,h3,h4,h5,h6,h7,h8⟩:=h
  exact⟨L,h1,h2,h3,h4,h5,h6,fun t ht=>hr (hk t) (h7 t ht),h8⟩
 |df=>exact h
 |si s pos=>exact h
 |fo J=>exact absurd rfl (hn J)
 |un=>exact h.elim
theorem IC.d_ {o:Ob}(hk:rA N o) (hn:∀ J,o ≠ .fo J):IC id N o o:=by
 refine⟨fun g w b cp h=>?_,fun J h=>h⟩
 exact cN.d_ (B:=N) (g:=g) (g':=g.pre id N) (fun k hk ha=>⟨hk,ha⟩) (fun _ _ _=>rfl) (fun _ _ _=>rfl) rfl hk hn (fun hk h=>Rn.d_ hk g w _ h) h
theorem ao.back {gc g:Gh}{w:World}{o:Nat->Nat}(ho:∀ k,k < N->o k=k) (hB:Bk o gc g):∀ {a:AV}{x:Value},da N a->ao gc w a x->ao g w a x:=by
 have aY:∀ k,k < N->gc.al k->g.al k:=fun k hk ha=>by have:=hB.al k ha;rwa [ho k hk] at this
 have gE:∀ k,k < N->gc.al k->g.ob k=gc.ob k:=fun k hk ha=>by have:=hB.ob k ha;rwa [ho k hk] at this
 have lB:∀ k,k < N->gc.al k->g.cp k=gc.cp k:=fun k hk ha=>by have:=hB.cp k ha;rwa [ho k hk] at this
 have oM:=hB.fz
 intro a x hp h
 induction h with
 |u=>exact .u
 |v=>exact .v
 |agg hs h ih=>cases hp with|agg hp=>exact .agg hs fun i a x h1 h2=>ih i a x h1 h2 (hp _ (List.mem_of_getElem? h1))
 |aL hs h ih=>cases hp with|aL hp=>exact .aL hs fun i a x h1 h2=>ih i a x h1 h2 (hp _ (List.mem_of_getElem? h1))
 |nil hc=>exact .nil hc
 |sl hn j6 hle hl h hr ih =>
  cases hp with
  |sl hp=>exact .sl hn j6 hle hl (fun i j row a h1 h2=>⟨by rw [oM];exact (h i j row a h1 h2).1,(h i j row a h1 h2).2⟩) (fun i j row a h1 h2=>ih i j row a h1 h2 (hp _ (List.mem_of_getElem? h1) _ (List.mem_of_getElem? h2)))
 |ip h hr ih =>
  cases hp with
  |ip hp=>exact .ip (fun i a h1=>⟨by rw [oM];exact (h i a h1).1,(h i a h1).2⟩) (fun i a h1=>ih i a h1 (hp _ (List.mem_of_getElem? h1)))
 |ob hk hc II hx hle =>
  cases hp with
  |ob au =>
   rw [<-gE _ au hk]
   exact .ob (aY _ au hk) hc (by rw [lB _ au hk];exact II) (by rw [lB _ au hk];exact hx) hle
 |pt hk =>
  cases hp with
  |pt au=>rw [<-gE _ au hk];exact .pt (aY _ au hk)
 |mp hk =>
  cases hp with
  |mp au=>rw [<-gE _ au hk];exact .mp (aY _ au hk)
 |yl hk =>
  cases hp with
  |yl au=>rw [<-gE _ au hk];exact .yl (aY _ au hk)
 |im=>exact .im
 |gr hk hx hle =>
  cases hp with
  |gr au=>rw [<-gE _ au hk];exact .gr (aY _ au hk) (by rw [lB _ au hk];exact hx) hle
 |fn h1 h2 h3 h4 Iy Iz =>
  cases hp with
  |fn p1 p2=>exact .fn h1 h2 (fun i a x e1 e2=>Iy i a x e1 e2 (p1 _ (List.mem_of_getElem? e1))) (fun i a x e1 e2=>Iz i a x e1 e2 (p2 _ (List.mem_of_getElem? e1)))
structure vl (so:List (Nat × Ob)) (N:Nat) (T:U):Prop where
 le:N<=T.nx
 get:∀ j o,fj so j=some o->j < N/\T.get j=some o/\rA N o/\∀ J,o ≠ .fo J
 all:∀ j,j < N->∃ o,fj so j=some o
theorem aR.same (h:aR P w0 f args (bu so N) r (bu so N)) (hT:vl so N T) (ha:∀ a ∈ args,da N a) (hr:da N r):aR P w0 f args T r T:=by
 obtain⟨T',hT'⟩:∃ T':U,T'=⟨fun k=>if k < T.nx then T.get k else none,T.nx⟩:=⟨_,rfl⟩
 have get':∀ k o,T'.get k=some o->k < T.nx/\T.get k=some o:=fun k o hk=>by
  rw [hT'] at hk
  have hk:(if k < T.nx then T.get k else none)=some o:=hk
  split at hk
  ·exact⟨by assumption,hk⟩
  ·cases hk
 have nx':T'.nx=T.nx:=by rw [hT']
 have put':∀ k o,k < T.nx->T.get k=some o->T'.get k=some o:=fun k o hk h=>by
  rw [hT']
  show (if k < T.nx then T.get k else none)=some o
  rw [if_pos hk];exact h
 have hle:=hT.le
 have ho:∀ k,k < N->fy id N T'.nx k=k:=fun k hk=>jN hk
 have hf:Fits id (bu so N) (bu so N) T' T':=by
  refine⟨fun i j _ _ e=>e,fun j hj=>by rw [nx'];exact Nat.lt_of_lt_of_le hj hle,fun j o hj=>?_,fun k o hk=>?_,.inr ⟨Nat.le_refl _,rfl⟩,.inr fun j J hj=>?_⟩
  ·obtain⟨h1,h2,h3,h4⟩:=hT.get j o hj
   exact⟨o,put' j o (Nat.lt_of_lt_of_le h1 hle) h2,IC.d_ h3 h4⟩
  ·obtain⟨h1,h2⟩:=get' k o hk
   by_cases kK:k < N
   ·obtain⟨o',SP⟩:=hT.all k kK
    obtain⟨q1,q2,q3,q4⟩:=hT.get k o' SP
    obtain rfl:o'=o:=by rw [h2] at q2;exact (Option.some.inj q2).symm
    refine .inl ⟨k,o',ho k kK,SP,fun gc g w b cp hB _ Ef=>?_,fun J e=>e⟩
    have rk:∀ k,k < N->fy id (bu so N).nx T'.nx k=k:=ho
    exact cN.d_ (B:=N) (fun k hk ha=>by have:=hB.al k ha;rwa [rk k hk] at this) (fun k hk ha=>by have:=hB.ob k ha;rwa [rk k hk] at this) (fun k hk ha=>by have:=hB.cp k ha;rwa [rk k hk] at this) hB.fz q3 q4 (fun hk h=>ao.back rk hB hk h) Ef
   ·exact .inr ⟨by rw [nx'];exact h1,fun j hj e=>kK (by rw [<-e];exact hj),hk⟩
  ·obtain⟨_,_,_,h4⟩:=hT.get j _ hj
   exact absurd rfl (h4 J)
 have hc:=h.frame hf rfl (fun i a b h1 h2=>by
  rw [h1] at h2
  obtain rfl:=Option.some.inj h2
  exact Rn.d_ (ha _ (List.mem_of_getElem? h1))) (fun gc g w x hB Ef=>ao.back (N:=N) (o:=fy id (bu so N).nx T'.nx) ho hB hr Ef)
 refine⟨hc.1,fun F m A g bz w hF hS hA=>(hc.2 F m A g bz w hF (hS.forget (by rw [nx'];exact Nat.le_refl _) fun j p hj _=>(get' j p hj).2) hA).mono ?_⟩
 rintro e w' ⟨v,g',rfl,h1,h2,h3⟩
 refine⟨v,g',rfl,h1,h2.forget (by rw [nx'];exact Nat.le_refl _) fun j p hj aY=>?_,h3⟩
 have:=h2.al j aY
 exact put' j p (by rw [<-nx'];exact this) hj
theorem aa.LD {f:QO}{oO:List QO}{g:FuncId}{args:List AV}(hc:aR P w0 g args (bu so N) r (bu so N)) (h:fh (f.ev α.tm) (oO.map (·.ev α.tm))=some (g,args)) (hT:vl so N T) (ha:∀ a ∈ args,da N a) (hr:da N r):aa P w0 dr (.call f oO) α T r T :=
 aa.call h (hc.same hT ha hr) fun _=>rfl
end
section
variable {P:Program}{w0:World}{α:AA}{S:U}
theorem aa.LF {x i b:QO}{k:Nat}{es:List (Value × AV)}{m:Int}{a:AV}(hx:x.ev α.tm=.mp k) (hS:S.get k=some (.mp es)) (hk:m9 es) (hi:i.ev α.tm=.v (.int .i64 m)) (hb:b.ev α.tm=a) :
  aa P w0 true (.mu x i b) α S (.v undef) (S.set k (some (.mp (uE es m a)))):=by
 intro n o hr
 obtain⟨t,u,v,y,kt,et,kk,ho,rfl,rfl,rfl,h1,h2⟩:=u0 hr
 rw [ay] at hx hi hb
 have e:∀ z ∈ [u,v,y],(α.only (cb o)).ev z=α.ev z:=fun z hz=>fm fun t ht=>eU (by rw [ho];simp [Op.operands,<-ht];simpa using hz)
 exact⟨(uG ho h1 h2 (by rw [e u (by simp)];exact hx) hS hk (by rw [e v (by simp)];exact hi) (by rw [e y (by simp)];exact hb)).ops (fun c e=>by rw [ho] at e;cases e),
  fun hp=>(by rw [ho] at hp;cases hp),fun hw=>(by rw [ho] at hw;cases hw)⟩
end
section
variable {P:Program}{w0:World}{α:AA}{S:U}
theorem D7 {v:Value}(h:lift v=.sl true []):v=.slice none 0 0:=by
 have h1:∀ v,aO v=.sl true []->v=.slice none 0 0:=by
  intro v h
  unfold aO at h
  split at h
  ·rfl
  ·cases h
 cases v with
 |agg cs=>cases h
 |_=>exact h1 _ h
theorem Jr {u:Operand}(h:.c (.sl true [])=qo u):u=.const (.slice none 0 0):=by
 cases u with
 |const v =>
  injection h with h
  rw [D7 h.symm]
 |_=>cases h
theorem xC {o:Op}{op:BinOp}{x:QO}(h:res P.toTables o=some (.bin op .s x (.c (.sl true [])))):∃ t u s e,o=.binOp op t u (.const (.slice none 0 0)) s/\x=qo u/\P.underlying t=some (.slice e):=by
 cases o with
 |binOp O7 t u v s =>
  simp only [res,aZ] at h
  split at h
  ·cases h
  ·rename_i e hu
   simp only [Option.some.injEq,cj.bin.injEq] at h
   obtain⟨rfl,_,rfl,h4⟩:=h
   rw [Jr h4.symm]
   exact⟨_,_,_,_,rfl,rfl,hu⟩
  ·split at h<;>cases h
  ·cases h
 |_ =>
  simp only [res] at h
  repeat' split at h
  all_goals cases h
def vm:AV->Option Bool
 |.sl _ (_::_)=>some false
 |.ob ..=>some false
 |.gr _ _ (_+1)=>some false
 |.v (.slice A _ _)=>some A.isNone
 |_=>none
theorem D8 {g:Gh}{w:World}{a:AV}{x:Value}{b:Bool}(h:vm a=some b) (hr:ao g w a x):∃ A l c,x=.slice A l c/\A.isNone=b:=by
 unfold vm at h
 split at h
 ·cases hr with
  |sl=>obtain rfl:=Option.some.inj h;exact⟨_,_,_,rfl,rfl⟩
 ·cases hr with
  |ob=>obtain rfl:=Option.some.inj h;exact⟨_,_,_,rfl,rfl⟩
 ·cases hr with
  |gr=>obtain rfl:=Option.some.inj h;exact⟨_,_,_,rfl,rfl⟩
 ·cases hr with
  |v=>obtain rfl:=Option.some.inj h;exact⟨_,_,_,rfl,rfl⟩
 ·cases h
def D9 (op:BinOp) (b:Bool):Option Bool:=match op with
 |.eql=>some b
 |.neq=>some (!b)
 |_=>none
theorem xD {op:BinOp}{x:QO}{b d:Bool}{n:Nat}{o:Oper}(hr:res P.toTables o.op=some (.bin op .s x (.c (.sl true [])))) (β:AA) (hx:vm (x.ev β.tm)=some b) (hd:D9 op b=some d):cP P w0 n o β S (.v (.bool d)) S:=by
 obtain⟨t,u,s,e,ho,rfl,hu⟩:=xC hr
 rw [ay] at hx
 refine aC.ops (aC.quiet fun A g c w hS hA=>⟨.bool d,?_,.v⟩) fun c e=>by rw [ho] at e;cases e
 obtain⟨B,l,cc,h1,rfl⟩:=D8 hx (hA.ev u)
 have h2:c.eval (.const (.slice none 0 0))=.slice none 0 0:=rfl
 cases op<;>cases hd
 ·simp [execOp,ho,h1,eqGuard,h2,binOp,run_equal_slice_nil w t e B l cc hu]
 ·simp [execOp,ho,h1,eqGuard,h2,binOp,run_equal_slice_nil w t e B l cc hu]
theorem aa.nil {dr:Bool}{op:BinOp}{x:QO}{b d:Bool}(hx:vm (x.ev α.tm)=some b) (hd:D9 op b=some d):aa P w0 dr (.bin op .s x (.c (.sl true []))) α S (.v (.bool d)) S:=by
 cases dr with
 |false=>exact fun n o hr=>xD hr α hx hd
 |true =>
  intro n o hr
  obtain⟨t,u,s,e,ho,hu,_⟩:=xC hr
  have key:∀ z ∈ o.op.operands,(α.only (cb o)).ev z=α.ev z:=fun z hz=>fm fun t e=>eU (by rw [<-e];exact hz)
  have h1:(α.only (cb o)).ev u=α.ev u:=key u (by rw [ho];simp [Op.operands])
  have h3:∀ T,cP P w0 n o (α.only (cb o)) T (.v (.bool d)) T:=fun T=>xD hr _ (by rw [hu,ay,h1,<-ay,<-hu];exact hx) hd
  exact⟨h3 S,fun _=>⟨rfl,h3⟩,fun _=>rfl⟩
end
end Go.Proofs.YtbofilglphfceaaGreat
