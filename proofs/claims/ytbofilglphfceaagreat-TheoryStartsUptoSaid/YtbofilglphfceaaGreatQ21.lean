import Derived.Test.YtbofilglphfceaaGreatQ20
namespace Go.Proofs.YtbofilglphfceaaGreat
set_option linter.unusedVariables false
set_option linter.unusedSimpArgs false
open Go.RowKit
section
set_option maxRecDepth 100000
attribute [local irreducible] ah bc ad ab
def fB (b:Bool):AV:=.v (.bool b)
def eX (s:List Int):List (Int × Bool):=s.map fun i=>(i,true)
theorem uE (s:List Int) (i:Int):jK (eX s) i=if s.contains i then some true else none:=by
 induction s with
 |nil=>rfl
 |cons x s ih =>
  rw [eX,List.map_cons,jK,List.contains_cons]
  rw [eX] at ih
  by_cases h:x=i
  ·simp [h]
  ·have h':¬ i=x:=fun e=>h e.symm
   simp [h,h',ih]
theorem Cy {s:List Int}{i:Int}(h:s.contains i=false):l9 (eX s) i true=eX (s++[i]):=by
 induction s with
 |nil=>rfl
 |cons x s ih =>
  rw [List.contains_cons,Bool.or_eq_false_iff] at h
  have h1:¬ x=i:=fun e=>by simp [e] at h
  have h2:=ih h.2
  rw [eX] at h2
  simp only [eX,List.map_cons,List.cons_append,l9,h1,if_false]
  rw [h2];rfl
def Xo (ρ:Hd) (p:List Int × List (Int × Bool) × Nat):List (Nat × Ob):=[(0,.arr 1 [[.gr 4 1 p.2.2]] 0 true),(1,.mp (ρ.h (ku fB) p.2.1)),(2,.arr 1 [[.mp 1]] 0 true),(3,.df),(4,.arr 1 (ρ.h (List.map bF) p.1) 0 false)]
section
variable {w0:World}{ρ:Hd}
theorem pJ {B:Nat}{kv:List (Int × Bool)}:oy B (.mp (ρ.h (ku fB) kv)):=by
 rw [ρ.eq]
 intro e he
 obtain⟨p,_,rfl⟩:=List.mem_map.1 he
 exact .v
theorem cV {B sz fz:Nat}{s:List Int}{ex:Bool}:oy B (.arr sz (ρ.h (List.map bF) s) fz ex):=ET fun x _ a ha=>by
 obtain rfl:=List.mem_singleton.1 ha
 exact .v
theorem Tx (gid:FuncId) (fs cs:List AV) (xs:List Int) (hl:xs.length<=1099511627776) (hf:∀ a ∈ fs,Pure a) (hc:∀ a ∈ cs,Pure a) (Aq:Iter Tryz.prog w0 gid fs cs (xs.map bF)) :
  ah Tryz.prog w0 194 [.fn (.func gid) fs cs] (b8 ρ bF false (bE [] xs)):=by
 obtain⟨R,hR⟩:∃ R,R=bE [] xs:=⟨_,rfl⟩
 rw [<-hR]
 refine Xi.aG (by simp [Tryz.ntmps194]) ((bQ _)) ?_
 refine gq uz ?_
 refine ab.fH ρ fB rfl fun kv jj=>?_
 subst jj
 refine gq uz ?_
 refine ab.range (σ:=List Int × List (Int × Bool) × Nat) bF xs 4 5 [] [(3,.pt 0 1 0 0),(4,.pt 2 1 0 0)] (Xo ρ) (fun rest p=>R=p.1++bE p.1 rest/\p.1.length+rest.length<=1099511627776/\p.2.1=eX p.1/\p.2.2=p.1.length) ([],[],0) rfl hf hc Aq rfl ⟨by simpa using hR,by simpa using hl,rfl,rfl⟩ rfl
  (by intro p hp;simp only [List.mem_cons,List.not_mem_nil,or_false] at hp;rcases hp with rfl|rfl<;>exact .pt (by decide)) rfl (fun x=>⟨rfl,fun a ha=>by obtain rfl:=List.mem_singleton.1 ha;exact .v⟩)
  ⟨⟨.aD rfl (.pt (by decide)),.aD rfl (.pt (by decide)),trivial⟩,rfl,⟨.inl ⟨_,rfl,.arr ⟨⟨.iQ,trivial⟩,trivial⟩⟩,.inl ⟨_,rfl,.same pJ⟩,.inl ⟨_,rfl,.arr ⟨⟨.aD (.mp (by decide)),trivial⟩,trivial⟩⟩,.inl ⟨_,rfl,.same trivial⟩,.inr rfl,trivial⟩,rfl,rfl,rfl⟩ ?_ ?_
 ·rintro x rest ⟨s,kv,len⟩ ⟨hI,hlen,jj,kL⟩
  simp only at hI hlen jj kL
  rw [bE] at hI
  rw [List.length_cons] at hlen
  refine gq uz ?_
  refine ab.look rfl rfl rfl rfl (fun v hv=>?_) (fun hv=>?_)
  ·rw [jj,uE] at hv
   have hs:s.contains x=true:=by
    cases hc:s.contains x with
    |true=>rfl
    |false=>rw [if_neg (by rw [hc];simp)] at hv;cases hv
   rw [if_pos hs] at hv hI
   obtain rfl:=Option.some.inj hv
   refine gq uz ?_
   refine ab.Ts (s,kv,len) [(4,4)] ⟨hI,by simp only;omega,jj,kL⟩ ⟨trivial,rfl,⟨.inl ⟨_,rfl,.arr ⟨⟨.lI rfl rfl,trivial⟩,trivial⟩⟩,.inl ⟨_,rfl,.same pJ⟩,.inl ⟨_,rfl,.arr ⟨⟨.aD (.mp (by decide)),trivial⟩,trivial⟩⟩,.inl ⟨_,rfl,.same trivial⟩,.inl ⟨_,rfl,.same cV⟩,trivial⟩,rfl,rfl,rfl⟩
  ·rw [jj,uE] at hv
   have hs:s.contains x=false:=by
    cases hc:s.contains x with
    |true=>rw [if_pos hc] at hv;cases hv
    |false=>rfl
   rw [if_neg (by rw [hs];simp)] at hI
   refine gq uz ?_
   refine ab.jL (v:=true) rfl rfl rfl rfl rfl fun sd uF=>?_
   rw [jj,Cy hs] at uF
   refine gq uz ?_
   refine ab.app (x:=x) (f:=bF) rfl rfl rfl kL (fun _=>rfl) rfl rfl rfl rfl (by omega) fun s' cU mV lh=>?_
   refine gq uz ?_
   refine ab.Ts (s',sd,cU) [(4,5)] ⟨by simp only;rw [hI,mV];simp,by simp only;rw [mV];simp;omega,by simp only;rw [uF,mV],lh⟩ ⟨trivial,rfl,⟨.inl ⟨_,rfl,.arr ⟨⟨.lI rfl rfl,trivial⟩,trivial⟩⟩,.inl ⟨_,rfl,.same pJ⟩,.inl ⟨_,rfl,.arr ⟨⟨.aD (.mp (by decide)),trivial⟩,trivial⟩⟩,.inl ⟨_,rfl,.same trivial⟩,.inl ⟨_,rfl,.same cV⟩,trivial⟩,rfl,rfl,rfl⟩
 ·rintro⟨s,kv,len⟩ ⟨hI,_,jj,kL⟩
  simp only at hI jj kL
  rw [bE,List.append_nil] at hI
  refine gq uz ?_
  subst hI
  refine ab.fin (by conv=>lhs;cbv) ?_
  exact aU.grow rfl kL
theorem fQ:∀ (l s:List Int),(bE s l).length<=l.length
 |[],s=>Nat.le_refl _
 |x::l,s=>by
  rw [bE]
  split
  ·have:=fQ l s;simp;omega
  ·have:=fQ l (s++[x]);simp;omega
def varsOf (l:List Tm):List Int:=bE [] (aT l)
theorem uG (l:List Tm) (hl:l.length<=1099511627776) (hk:eg l) (hv:(aT l).length<=1099511627776):ah Tryz.prog w0 194 [.fn (.func 273) [] [.ip [tl ρ l]]] (b8 ρ bF false (varsOf l)) :=
 Tx _ [] _ _ hv (fun a ha=>by cases ha) (fun a ha=>by obtain rfl:=List.mem_singleton.1 ha;exact .ip fun b hb=>by obtain rfl:=List.mem_singleton.1 hb;exact bC _) (Q0 l hl hk)
theorem Ty (x:Tm) {ex:Bool}:Wk (.sl ex [v7 ρ x]) (tl ρ [x]):=by
 rw [tl,dx,List.map_cons,qP (ρ:=ρ),List.map_nil]
 exact Wk.sl
theorem Jp (x:Tm) (hx:x.ok) (hv:(cY x).length<=1099511627776):ah Tryz.prog w0 107 [tm ρ x] (b8 ρ bF false (varsOf [x])):=by
 have h1:=Cx (w0:=w0) (ρ:=ρ) [x]
 have h2:=uG (w0:=w0) (ρ:=ρ) [x] (by simp) ⟨hx,trivial⟩ (by simpa [aT] using hv)
 obtain⟨k,i,n,a⟩:=x
 obtain⟨R,hR⟩:∃ R,R=varsOf [⟨k,i,n,a⟩]:=⟨_,rfl⟩
 rw [<-hR] at h2 ⊢
 clear hv hx hR
 refine Xj.aG (by simp [Tryz.ntmps107]) ((bQ _)) ?_
 refine gq Lt ?_
 repeat' (first
  |((refine ab.op rfl (ad.mP rfl h1 ⟨bC _,trivial⟩ ⟨Ty (ρ:=ρ) ⟨k,i,n,a⟩,trivial⟩) ?_;refine gq Lt ?_))
  |((refine ab.op rfl (ad.ag rfl h2 ⟨.fn (fun a ha=>by cases ha) fun a ha=>by obtain rfl:=List.mem_singleton.1 ha;exact .ip fun b hb=>by obtain rfl:=List.mem_singleton.1 hb;exact bC _,trivial⟩) ?_;refine gq Lt ?_))
  |(refine fq ?_))
 exact aU.of_eq rfl
theorem tc (x:Gl) (hl:x.a.length<=1099511627776) (hk:eg x.a) (hv:(aT x.a).length<=1099511627776):ah Tryz.prog w0 112 [gl ρ x] (b8 ρ bF false (varsOf x.a)):=by
 have h1:=Cx (w0:=w0) (ρ:=ρ) x.a
 have h2:=uG (w0:=w0) (ρ:=ρ) x.a hl hk hv
 obtain⟨o,n,a⟩:=x
 dsimp only at h1 h2 ⊢
 obtain⟨R,hR⟩:∃ R,R=varsOf a:=⟨_,rfl⟩
 rw [<-hR] at h2 ⊢
 clear hv hl hk hR
 refine Xl.aG (by simp [Tryz.ntmps112]) ((bQ _)) ?_
 refine gq Lv ?_
 repeat' (first
  |((refine ab.op rfl (ad.ag rfl h1 ⟨bC _,trivial⟩) ?_;refine gq Lv ?_))
  |((refine ab.op rfl (ad.ag rfl h2 ⟨.fn (fun a ha=>by cases ha) fun a ha=>by obtain rfl:=List.mem_singleton.1 ha;exact .ip fun b hb=>by obtain rfl:=List.mem_singleton.1 hb;exact bC _,trivial⟩) ?_;refine gq Lv ?_))
  |(refine fq ?_))
 exact aU.of_eq rfl
theorem yb (x:At) (hl:x.a.length<=1099511627776) (hk:eg x.a) (hv:(aT x.a).length<=1099511627776):ah Tryz.prog w0 115 [at_ ρ x] (b8 ρ bF false (varsOf x.a)):=by
 have h1:=Cx (w0:=w0) (ρ:=ρ) x.a
 have h2:=uG (w0:=w0) (ρ:=ρ) x.a hl hk hv
 obtain⟨n,a⟩:=x
 dsimp only at h1 h2 ⊢
 obtain⟨R,hR⟩:∃ R,R=varsOf a:=⟨_,rfl⟩
 rw [<-hR] at h2 ⊢
 clear hv hl hk hR
 refine Xk.aG (by simp [Tryz.ntmps115]) ((bQ _)) ?_
 refine gq Lu ?_
 repeat' (first
  |((refine ab.op rfl (ad.ag rfl h1 ⟨bC _,trivial⟩) ?_;refine gq Lu ?_))
  |((refine ab.op rfl (ad.ag rfl h2 ⟨.fn (fun a ha=>by cases ha) fun a ha=>by obtain rfl:=List.mem_singleton.1 ha;exact .ip fun b hb=>by obtain rfl:=List.mem_singleton.1 hb;exact bC _,trivial⟩) ?_;refine gq Lu ?_))
  |(refine fq ?_))
 exact aU.of_eq rfl
end
end
section
variable {P:Program}{w0:World}{rd dr:Bool}{n B:Nat}{α aA:AA}{S S':ae}{Q:Exit->AA->ae->Prop}{r:AV}{l:List QI}{K:List iC}{o:Oper}
theorem uH {t k sz by_ len:Nat}{ex:Bool}{b:QO}{rows:List (List AV)}{o:Oper}(ho:res P.toTables o.op=some (.append sz by_ (.t t) b)) (h1:α.tm t=.gr k sz len) (hk:S.get k=some (.arr sz rows 0 ex)) (hn:len=rows.length)
  (hb:∀ c,b.ev (bO α.tm t c)=b.ev α.tm) (hm:dh S (b.ev α.tm)=some []):ew P w0 n o α S (.gr k sz len) S:=by
 intro F mm A g a w nx R hF hS hA o4
 have au:t < n:=by
  rcases Nat.lt_or_ge t n with h|h
  ·exact h
  ·have:=hA.out t h;rw [h1] at this;cases this
 have hr:=hA.tm t au
 rw [h1] at hr
 obtain⟨v,hv⟩:∃ v,a.tmps.getD t undef=v:=⟨_,rfl⟩
 have bG:α.tm t ≠ .u:=by rw [h1];intro h;cases h
 rw [hv] at hr
 rcases pP hr with ⟨h,A',rfl⟩|⟨jh,c,rfl,hx,hle⟩
 ·have BY:bY g w n ⟨bO α.tm t (.sl true []),α.df⟩ a:=hA.slot bG (by rw [hv];exact .nil fun _=>rfl)
  have h5:=ad.Cz (P:=P) (w0:=w0) (dr:=false) (α:=⟨bO α.tm t (.sl true []),α.df⟩) (S:=S) (sz:=sz) (by_:=by_) (a:=.t t) (b:=b) (rows:=[]) (aE _ _ _) (by rw [hb];exact hm) n o ho
  refine h5 F mm A g a w nx R hF hS BY fun v w' g' k1 k2 k3=>o4 v w' g' ?_ k2 k3
  subst h
  cases k1 with
  |nil hz=>obtain rfl:=hz rfl;exact .iQ
  |sl hz=>exact absurd rfl hz
 ·have BY:bY g w n ⟨bO α.tm t (.ob k sz 0 len none),α.df⟩ a:=hA.slot bG (by
   rw [hv]
   have:=aJ.ob (g:=g) (w:=w) (k:=k) (sz:=sz) (off:=0) (len:=len) (c:=c) (cx:=none) jh (fun m h=>by cases h) (by omega) (fun _=>by omega) hle
   rwa [Nat.zero_mul] at this)
  have h5:=ad.Br (P:=P) (w0:=w0) (dr:=false) (α:=⟨bO α.tm t (.ob k sz 0 len none),α.df⟩) (S:=S) (sz:=sz) (by_:=by_) (a:=.t t) (b:=b) (k:=k) (fz:=0) (ex:=ex) (rows:=rows) (sz':=sz) (aE _ _ _) hk (by rw [hb];exact hm) n o ho
  refine h5 F mm A g a w nx R hF hS BY fun v w' g' k1 k2 k3=>o4 v w' g' ?_ k2 k3
  cases k1 with
  |ob q1 q2 q3 q4 q5=>rw [Nat.zero_mul];exact .gr q1 (by have:=q4 rfl;omega) q5
theorem gQ {S:ae}{ex:Bool}{l:List (List AV)}:dh S (.sl ex l)=some l:=by
 simp [dh,rowsOf,lL]
section
variable {ρ:Hd}{T:Type}{f:T->List AV}{acc ys:List T}
theorem ab.Lw {dd:Option Nat}{gg:Option (Nat × Bool)}{t:Nat}{b:QO}{sz by_ k len:Nat}{ex ex':Bool}(hw:cj α.tm gg=some true) (h1:α.tm t=.gr k sz len) (hk:S.get k=some (.arr sz (ρ.h (List.map f) acc) 0 ex)) (hn:len=acc.length) (fL:∀ c,b.ev (bO α.tm t c)=b.ev α.tm)
  (hb:b.ev α.tm=b8 ρ f ex' ys) (hl:∀ x,(f x).length=sz) (hc:∀ x,(f x).all cn=true) (hy:(len+ys.length)*by_<=35184372088832)
  (k0:ys=[]->ab P w0 rd n Q (.bD false l K) (cD dd α (.gr k sz len)) S)
  (kk:∀ dK cU,ys ≠ []->dK=acc++ys->cU=dK.length->ab P w0 rd n Q (.bD false l K) (cD dd α (.gr S.nx sz cU)) ((S.set k none).new (.arr sz (ρ.h (List.map f) dK) 0 false))):ab P w0 rd n Q (.bD false (⟨dd,gg,.append sz by_ (.t t) b⟩::l) K) α S:=by
 have hlen:(ρ.h (List.map f) acc).length=acc.length:=af
 rw [dx] at hb
 cases ys with
 |nil =>
  exact ab.op (i:=⟨dd,gg,.append sz by_ (.t t) b⟩) hw (fun n o ho=>uH ho h1 hk (by omega) fL (by rw [hb];exact gQ)) (k0 rfl)
 |cons y ys =>
  have h:=kk _ _ (by simp) rfl rfl
  have e:ρ.h (List.map f) acc++List.map f (y::ys)=ρ.h (List.map f) (acc++y::ys):=by rw [ρ.eq,ρ.eq,List.map_append]
  rw [<-e,show (acc++y::ys).length=len+(f y::List.map f ys).length by simp;omega] at h
  refine ab.op (i:=⟨dd,gg,.append sz by_ (.t t) b⟩) hw (ad.FP h1 hk (by omega) fL (by rw [hb];exact gQ) (by rw [hb];exact gQ) (fun row hr=>?_) (by simpa using hy)) h
  obtain⟨x,_,rfl⟩:=List.mem_map.1 (show row ∈ List.map f (y::ys) from hr)
  exact⟨hl x,hc x⟩
end
theorem pK {sz by_:Nat}{a b:QO}{o:Op}(h:res P.toTables o=some (.append sz by_ a b)):jx o=false:=by
 obtain⟨c,t,t2,u,v,e,e2,z,rfl,h1,_⟩:=lj h
 simp only [jx,h1]
theorem cB.append {sz by_:Nat}{a b:QO}{d:Dt}{ex:Bool}{more:List (List AV)}(hb:b.ev α.tm=.sl ex more) (hd:kE S d.F)
  (h:∀ T,kE T d.F->(d.m=true->T.nx=S.nx)->∀ e z,c_ P e=some z->cQ P e=some sz->fN P e=some by_->Nat.blt 0 by_=true->iM P e (tO r (dQ T d.W d.m)) T more (a.ev α.tm)):cB P w0 B (.append sz by_ a b) α S r d:=by
 refine cB.Az (fun o ho hp=>by rw [pK ho] at hp;cases hp) hd fun T hT hm o hr=>?_
 obtain⟨c,t,t2,u,v,e,e2,z,rfl,h1,h2,h3,rfl,rfl,h4,h5,h6,h7,h8,h9,Ox⟩:=lj hr
 rw [aR] at hb
 have h:=h T hT hm e z h6 h7 h8 Ox
 rw [aR] at h
 simp only [bo,h1,kJ,h2,h3,List.map_cons,List.map_nil,h4,h5,h6,h7,h9]
 rw [hb]
 exact bm.mk (a:=more) rfl ⟨rfl,h⟩
theorem cB.Cz {sz by_:Nat}{a b:QO}{ex:Bool}{rows:List (List AV)}(ha:a.ev α.tm=.sl true rows) (hb:b.ev α.tm=.sl ex []):cB P w0 B (.append sz by_ a b) α S (.sl true rows) ⟨[],[],false⟩ :=
 cB.append hb (fun p hp=>by cases hp) fun T _ _ e z _ _ _ _=>by
  rw [ha]
  exact⟨rfl,by rw [cK]⟩
theorem cB.zn {sz by_:Nat}{a b:QO}{ex:Bool}{x:List AV}{more:List (List AV)}(ha:a.ev α.tm=.sl true []) (hb:b.ev α.tm=.sl ex (x::more)) (h3:∀ row ∈ x::more,row.length=sz) (h4:(x::more).length*by_<=35184372088832) :
  cB P w0 B (.append sz by_ a b) α S (.ob S.nx sz 0 (x::more).length none) ⟨[],[(S.nx,some (.arr sz (x::more) 0 false))],true⟩ :=
 cB.append hb (fun p hp=>by cases hp) fun T _ hm e z hz hs hy hp=>by
  rw [ha]
  simp only [iM,hs,hy,hp]
  refine⟨(fun _ h=>by cases h),h3,(by simpa using h4),?_,?_⟩
  ·rw [hm rfl];simp
  ·rw [ec]
   simp only [fM,<-hm rfl]
   rfl
theorem cB.Br {sz by_ k fz len sz':Nat}{ex ex':Bool}{a b:QO}{rows:List (List AV)}(ha:a.ev α.tm=.ob k sz' 0 len none) (hk:S.get k=some (.arr sz' rows fz ex)) (hb:b.ev α.tm=.sl ex' []):cB P w0 B (.append sz by_ a b) α S (.ob k sz' 0 len none) ⟨[(k,.arr sz' rows fz ex)],[],false⟩ :=
 cB.append hb (fun p hp=>by simp only [List.mem_singleton] at hp;subst hp;exact hk) fun T hT _ e z _ _ _ _=>by
  rw [ha]
  simp only [iM]
  exact bm.mk (a:=(sz',rows,fz,ex)) (p_ (hT (k,.arr sz' rows fz ex) (by simp))) ⟨rfl,by rw [cK]⟩
theorem cB.FO {sz by_ k fz len:Nat}{ex ex':Bool}{a b:QO}{rows more:List (List AV)}{x:List AV}(ha:a.ev α.tm=.ob k sz 0 len none) (hk:S.get k=some (.arr sz rows fz ex)) (hb:b.ev α.tm=.sl ex' (x::more)) (h0:fz<=len) (h2:len<=rows.length)
  (h3:∀ row ∈ x::more,row.length=sz/\row.all cn=true) (h4:(len+(x::more).length)*by_<=35184372088832) :
  cB P w0 B (.append sz by_ a b) α S (.ob S.nx sz 0 (len+(x::more).length) none) ⟨[(k,.arr sz rows fz ex)],[(S.nx,some (.arr sz (rows.take len++x::more) fz false)),(k,none)],true⟩ :=
 cB.append hb (fun p hp=>by simp only [List.mem_singleton] at hp;subst hp;exact hk) fun T hT hm e z hz hs hy hp=>by
  rw [ha]
  simp only [iM]
  refine bm.mk (a:=(sz,rows,fz,ex)) (p_ (hT (k,.arr sz rows fz ex) (by simp))) ?_
  simp only [hs,hy,hp,Nat.beq_refl,Bool.and_self,Bool.true_and]
  refine⟨h0,h2,h3,h4,(by rw [hm rfl]),?_⟩
  rw [ec]
  simp only [fM,<-hm rfl]
  rfl
theorem cB.FP {sz by_ t k len:Nat}{ex ex':Bool}{b:QO}{rows more:List (List AV)}{x:List AV}(ha:α.tm t=.gr k sz len) (hk:S.get k=some (.arr sz rows 0 ex)) (hn:len=rows.length) (fL:∀ c,b.ev (bO α.tm t c)=b.ev α.tm) (hb:b.ev α.tm=.sl ex' (x::more))
  (h3:∀ row ∈ x::more,row.length=sz/\row.all cn=true) (h4:(len+(x::more).length)*by_<=35184372088832) :
  cB P w0 B (.append sz by_ (.t t) b) α S (.gr S.nx sz (len+(x::more).length)) ⟨[(k,.arr sz rows 0 ex)],[(S.nx,some (.arr sz (rows++x::more) 0 false)),(k,none)],true⟩:=by
 intro n o hr
 refine⟨fun hp=>(by rw [pK hr] at hp;cases hp),(show kE S _ from fun p hp=>by simp only [List.mem_singleton] at hp;subst hp;exact hk),fun T _ hT hm=>?_⟩
 have e:∀ y:QO,(y=.t t\/y=b)->y.ev (α.only (dp o)).tm=y.ev α.tm:=by
  obtain⟨c,t1,t2,u,v,e,e2,z,ho,h1,h2,h3,h4,h5,_⟩:=lj hr
  intro y hy
  have:∃ q ∈ [u,v],y=qo q:=by
   rcases hy with rfl|rfl
   ·exact⟨u,by simp,h4⟩
   ·exact⟨v,by simp,h5⟩
  obtain⟨q,hq,rfl⟩:=this
  rw [aR,aR]
  refine jw fun t ht=>iN ?_
  rw [ho,<-ht]
  have:q ∈ c.args:=Array.mem_toList_iff.1 (by rw [h3];exact hq)
  show q ∈ c.operands
  simp [Call.operands,this,h1]
 have et:(α.only (dp o)).tm t=.gr k sz len:=(e (.t t) (.inl rfl)).trans ha
 have eb:=e b (.inr rfl)
 have key:∀ c,b.ev (bO (α.only (dp o)).tm t c)=b.ev (α.only (dp o)).tm:=by
  intro c
  cases b with
  |t s =>
   by_cases hs:s=t
   ·exfalso;subst hs;rw [show (QO.t s).ev α.tm=α.tm s from rfl,ha] at hb;cases hb
   ·exact aK _ _ hs
  |_=>rfl
 have h:=BX (P:=P) (w0:=w0) (n:=n) (α:=α.only (dp o)) (S:=T) (k:=k) (sz:=sz) (by_:=by_) (len:=len) (ex:=ex) (b:=b) (rows:=rows) (more:=more) (x:=x) hr et (hT (k,.arr sz rows 0 ex) (by simp)) hn key (by rw [eb,hb];exact gQ) (by rw [eb,hb];exact gQ) h3 h4
 rw [ec,<-hm rfl]
 exact h
theorem cB.Xp {sz by_ t k len:Nat}{ex ex':Bool}{b:QO}{rows:List (List AV)}(ha:α.tm t=.gr k sz len) (hk:S.get k=some (.arr sz rows 0 ex)) (hn:len=rows.length) (fL:∀ c,b.ev (bO α.tm t c)=b.ev α.tm) (hb:b.ev α.tm=.sl ex' []) :
  cB P w0 B (.append sz by_ (.t t) b) α S (.gr k sz len) ⟨[(k,.arr sz rows 0 ex)],[],false⟩:=by
 intro n o hr
 refine⟨fun hp=>(by rw [pK hr] at hp;cases hp),(show kE S _ from fun p hp=>by simp only [List.mem_singleton] at hp;subst hp;exact hk),fun T _ hT hm=>?_⟩
 have e:∀ y:QO,(y=.t t\/y=b)->y.ev (α.only (dp o)).tm=y.ev α.tm:=by
  obtain⟨c,t1,t2,u,v,e,e2,z,ho,h1,h2,h3,h4,h5,_⟩:=lj hr
  intro y hy
  have:∃ q ∈ [u,v],y=qo q:=by
   rcases hy with rfl|rfl
   ·exact⟨u,by simp,h4⟩
   ·exact⟨v,by simp,h5⟩
  obtain⟨q,hq,rfl⟩:=this
  rw [aR,aR]
  refine jw fun t ht=>iN ?_
  rw [ho,<-ht]
  have:q ∈ c.args:=Array.mem_toList_iff.1 (by rw [h3];exact hq)
  show q ∈ c.operands
  simp [Call.operands,this,h1]
 have et:(α.only (dp o)).tm t=.gr k sz len:=(e (.t t) (.inl rfl)).trans ha
 have eb:=e b (.inr rfl)
 have key:∀ c,b.ev (bO (α.only (dp o)).tm t c)=b.ev (α.only (dp o)).tm:=by
  intro c
  cases b with
  |t s =>
   by_cases hs:s=t
   ·exfalso;subst hs;rw [show (QO.t s).ev α.tm=α.tm s from rfl,ha] at hb;cases hb
   ·exact aK _ _ hs
  |_=>rfl
 rw [show dQ T [] false=T from cK]
 exact uH hr et (hT (k,.arr sz rows 0 ex) (by simp)) hn key (by rw [eb,hb];exact gQ)
theorem cB.Oy {f:QO}{aZ9:List QO}{g:FuncId}{args gj:List AV}{pQ:AV}{so':List (Nat × Ob)}{ob:Ob}(bI:bc P w0 g args (aM [] 0) r (aM so' 1)) (h:eL (f.ev α.tm) (aZ9.map (·.ev α.tm))=some (g,gj)) (ha:v_ (bX []) 0 gj args)
  (hr:Rb (gw (bX []) 0 S.nx) r pQ) (hT:oh (gw (bX []) 0 S.nx) so' [(S.nx,some ob)]) (hf:wQ so'=true):cB P w0 B (.call f aZ9) α S pQ ⟨[],[(S.nx,some ob)],true⟩:=by
 intro n o jg
 obtain⟨c,u,ho,hu,hfu,has⟩:=l7 jg
 refine⟨fun hp=>(by rw [ho] at hp;simp only [jx,hu] at hp;cases hp),(show kE S [] from fun p hp=>by cases hp),fun T _ _ hm=>?_⟩
 have e:T.nx=S.nx:=hm rfl
 have eo:∀ q ∈ (.call c:Op).operands,(α.only (dp o)).ev q=α.ev q:=fun q hq=>jw fun t ht=>iN (by rw [ho,<-ht];exact hq)
 have h':eL (f.ev (α.only (dp o)).tm) (aZ9.map (·.ev (α.only (dp o)).tm))=some (g,gj):=by
  rw [<-h,hfu,has,aR,aR,ml,ml,eo u (show u ∈ c.operands by simp [Call.operands,hu])]
  congr 1
  exact List.map_congr_left fun q hq=>eo q (show q ∈ c.operands by simp [Call.operands,hu];exact .inr (by simpa using hq))
 rw [<-e] at hr hT ⊢
 intro F mm A gg a w nx R hF hS hA o4
 let T':ae:=⟨fun k=>if k < T.nx then T.get k else none,T.nx⟩
 have gR:St w0 A gg T' w:=hS.forget (Nat.le_refl _) fun j p hj _=>by
  have hj:(if j < T.nx then T.get j else none)=some p:=hj
  split at hj
  ·exact hj
  ·cases hj
 have hc:=ad.iS (P:=P) (w0:=w0) (α:=α.only (dp o)) (T:=T') (m:=[]) (N:=0) (N':=1) (so:=[]) (so':=so') (to:=[(T.nx,some ob)]) (f:=f) (aZ9:=aZ9) bI h' ha hr rfl rfl trivial hT rfl (fun k p hk=>by
  have hk:(if k < T.nx then T.get k else none)=some p:=hk
  split at hk
  ·assumption
  ·cases hk) (.inr hf) n o jg
 refine hc F mm A gg a w nx R hF gR hA fun v w' g' k1 k2 k3=>o4 v w' g' k1 ?_ k3
 rw [ec]
 refine k2.forget (Nat.le_refl _) fun j p hj bN=>?_
 have zl:j < T.nx+1:=k2.al j bN
 have hj:bO T.get T.nx (some ob) j=some p:=hj
 show bO T'.get T.nx (some ob) j=some p
 by_cases ej:j=T.nx
 ·subst ej;rw [aE] at hj ⊢;exact hj
 ·rw [aK _ _ ej] at hj ⊢
  show (if j < T.nx then T.get j else none)=some p
  rw [if_pos (by omega)]
  exact hj
end
def kh (c:Value->Bool):List (Value × AV)->Option Nat
 |[]=>none
 |p::es=>if c p.1 then some 0 else (kh c es).map (·+1)
section
variable {P:Program}{w0:World}{n:Nat}{o:Oper}{α:AA}{S S':ae}{r:AV}
structure uI (P:Program) (kt:Nat) (v:Value) (es:List (Value × AV)) (c:Value->Bool):Prop where
 Tz:∀ b w,(Instr.checkKey b 10000 kt v).run P w=.ok () w
 str:∃ fs,P.underlying kt=some (.struct fs)
 eq:∀ p ∈ es,∀ w,(Op.equal kt v p.1).run P w=.ok (c p.1) w
theorem EU {c:Value->Bool}:∀ {es:List (Value × AV)}{j:Nat},kh c es=some j->∃ k a,es[j]?=some (k,a)/\c k=true
 |[],j,h=>by cases h
 |p::es,j,h=>by
  rw [kh] at h
  split at h
  ·obtain rfl:=Option.some.inj h
   exact⟨p.1,p.2,rfl,by assumption⟩
  ·cases hx:kh c es with
   |none=>rw [hx] at h;cases h
   |some j' =>
    rw [hx] at h
    obtain rfl:=Option.some.inj h
    obtain⟨k,a,h1,h2⟩:=EU hx
    exact⟨k,a,by simpa using h1,h2⟩
theorem AB {kt:Nat}{v:Value}{c:Value->Bool}{w:World}:∀ {es:List (Value × AV)}{L:List MapEntry}{o:Nat},(∀ p ∈ es,∀ w,(Op.equal kt v p.1).run P w=.ok (c p.1) w)->L.length=es.length ->
  (∀ (j:Nat) (k:Value) (a:AV) (e:MapEntry),es[j]?=some (k,a)->L[j]?=some e->e.key=k) ->
  (Instr.findAsking kt v L o).run P w=.ok (match kh c es with|some j=>(L[j]?).map fun e=>(j+o,e.val)|none=>none) w
 |[],[],o,_,_,_=>rfl
 |p::es,e::L,o,hq,hl,h=>by
  have TA:e.key=p.1:=h 0 p.1 p.2 e rfl rfl
  have ih:=AB (w:=w) (es:=es) (L:=L) (o:=o+1) (fun q Ng=>hq q (by simp [Ng])) (by simpa using hl) (fun j k a e' h1 h2=>h (j+1) k a e' (by simpa using h1) (by simpa using h2))
  simp only [Instr.findAsking,Sem.run_bind,TA,hq p (by simp) w,Result.andThen_ok,kh]
  cases hc:c p.1 with
  |true=>simp [Sem.run_pure]
  |false =>
   simp only [if_false,Bool.false_eq_true,ih]
   congr 1
   cases kh c es with
   |none=>rfl
   |some j=>simp only [Option.map_some,List.getElem?_cons_succ];congr 1;funext x;congr 1;omega
 |[],_::_,_,_,hl,_=>by simp at hl
 |_::_,[],_,_,hl,_=>by simp at hl
theorem uI.find {kt:Nat}{v:Value}{es:List (Value × AV)}{c:Value->Bool}(h:uI P kt v es c) {g:Gh}{w:World}{entries:Array MapEntry}(bH:entries.size=es.length) (he:∀ (i:Nat) (k:Value) (a:AV),es[i]?=some (k,a)->∃ e:MapEntry,entries[i]?=some e/\e.key=k/\aJ g w a e.val) :
  (Instr.findKey kt v entries.toList).run P w=.ok (match kh c es with|some j=>(entries[j]?).map fun e=>(j,e.val)|none=>none) w:=by
 obtain⟨fs,hfs⟩:=h.str
 have hq:=AB (P:=P) (w:=w) (es:=es) (L:=entries.toList) (o:=0) h.eq (by simpa using bH) (fun j k a e h1 h2=>by
  obtain⟨e',h3,h4,_⟩:=he j k a h1
  rw [Array.getElem?_toList,h3] at h2
  rw [<-Option.some.inj h2];exact h4)
 simp only [Array.getElem?_toList,Nat.add_zero] at hq
 simp only [Instr.findKey,Sem.run_bind,run_underlying hfs,Result.andThen_ok]
 cases hL:entries.toList with
 |nil =>
  rw [hL] at hq
  simp only [Instr.findNow,Sem.run_pure]
  simp only [Instr.findAsking,Sem.run_pure] at hq
  exact hq
 |cons e L =>
  rw [<-hL]
  have:Instr.findNow (.struct fs) v entries.toList 0=none:=by rw [hL];simp [Instr.findNow,Instr.sameNow]
  rw [this]
  exact hq
def eM (c:Value->Bool) (es:List (Value × AV)):Option AV:=match kh c es with|some j=>(es[j]?).map (·.2)|none=>none
theorem Jq {o:Op}{kt:Nat}{z:AV}{c:Bool}{x i:QO}(h:res P.toTables o=some (.eM kt z c x i)):∃ t u v et zv,o=.lookup t u v c/\x=qo u/\i=qo v/\P.underlying t=some (.map kt et)/\c_ P et=some zv/\z=lift zv:=by
 cases o with
 |lookup t u v c' =>
  simp only [res,b9,gD] at h
  split at h
  ·rename_i kt' et hu
   split at h
   ·cases h
   ·rename_i _ _ zv hk hz
    simp only [Option.some.injEq,dm.eM.injEq] at h
    obtain⟨rfl,rfl,rfl,rfl,rfl⟩:=h
    exact⟨_,_,_,_,_,rfl,rfl,rfl,hu,hz,rfl⟩
   ·rename_i _ zv hk hz
    simp only [Option.some.injEq,dm.eM.injEq] at h
    obtain⟨rfl,rfl,rfl,rfl,rfl⟩:=h
    exact⟨_,_,_,_,_,rfl,rfl,rfl,hu,hz,rfl⟩
   all_goals cases h
  ·cases h
 |_ =>
  simp only [res] at h
  repeat' split at h
  all_goals cases h
theorem Jr {o:Op}{kt:Nat}{x i b:QO}(h:res P.toTables o=some (.ky kt x i b)):∃ t u v y et,o=.mapUpdate t u v y/\x=qo u/\i=qo v/\b=qo y/\P.underlying t=some (.map kt et):=by
 cases o with
 |mapUpdate t u v y =>
  simp only [res,b9] at h
  split at h
  ·rename_i kt' et hu
   split at h
   ·cases h
   ·simp only [Option.some.injEq,dm.ky.injEq] at h
    obtain⟨rfl,rfl,rfl,rfl⟩:=h
    exact⟨_,_,_,_,_,rfl,rfl,rfl,rfl,hu⟩
   ·simp only [Option.some.injEq,dm.ky.injEq] at h
    obtain⟨rfl,rfl,rfl,rfl⟩:=h
    exact⟨_,_,_,_,_,rfl,rfl,rfl,rfl,hu⟩
   all_goals cases h
  ·cases h
 |_ =>
  simp only [res] at h
  repeat' split at h
  all_goals cases h
theorem Js {t kt et:TypeId}{x i:Operand}{k:Nat}{es:List (Value × AV)}{z v:Value}{m:AV}{cm:Bool}{c:Value->Bool}(ho:o.op=.lookup t x i cm) (ht:P.underlying t=some (.map kt et)) (hz:c_ P et=some z)
  (hx:α.ev x=.mp k) (hS:S.get k=some (.mp es)) (hi:toV (α.ev i)=some v) (hk:uI P kt v es c):bf P w0 n o α S (match eM c es with|some a=>(if cm then .bg [a,.v (.bool true)] else a)|none=>(if cm then .bg [lift z,.v (.bool false)] else lift z)) S:=by
 refine bf.quiet fun A g q w dg hA=>?_
 have h1:=hA.ev x
 rw [hx] at h1
 have e2:=se (hA.ev i) hi
 obtain⟨e1,bN⟩:=yc h1
 obtain⟨_,_,entries,clock,p1,p2,p3⟩:=dg.cC k _ hS bN
 have hf:=hk.find p2 p3
 have fin:∀ (v:Value) (b:Bool) (a:AV),aJ g w a v->aJ g w (if cm then .bg [a,.v (.bool b)] else a) (if cm then .tuple #[v,.bool b] else v):=by
  intro v b a hr
  cases cm with
  |false=>exact hr
  |true =>
   refine .bg rfl fun i y x hy hx=>?_
   match i with
   |0=>simp at hy hx;subst hy hx;exact hr
   |1=>simp at hy hx;subst hy hx;exact .v
   |i+2=>simp at hy
 unfold eM
 cases hj:kh c es with
 |none =>
  rw [hj] at hf
  refine⟨_,?_,fin z false (lift z) (w7 z)⟩
  simp only [execOp,ho,e1,e2,Instr.lookup,Sem.run_bind,run_underlying ht,Result.andThen_ok,jV p1,Sem.run_pure,hk.Tz,hf,mw hz]
 |some j =>
  obtain⟨k',a,ha,_⟩:=EU hj
  obtain⟨e,q1,q2,q3⟩:=p3 j _ a ha
  rw [hj] at hf
  simp only [q1,Option.map_some] at hf
  simp only [ha,Option.map_some]
  refine⟨_,?_,fin e.val true a q3⟩
  simp only [execOp,ho,e1,e2,Instr.lookup,Sem.run_bind,run_underlying ht,Result.andThen_ok,jV p1,Sem.run_pure,hk.Tz,hf]
theorem ad.eM {kt:Nat}{z:AV}{cm:Bool}{x i:QO}{k:Nat}{es:List (Value × AV)}{v:Value}{c:Value->Bool}(hx:x.ev α.tm=.mp k) (hS:S.get k=some (.mp es)) (hi:toV (i.ev α.tm)=some v) (hk:uI P kt v es c) :
  ad P w0 false (.eM kt z cm x i) α S (match eM c es with|some a=>(if cm then .bg [a,.v (.bool true)] else a)|none=>(if cm then .bg [z,.v (.bool false)] else z)) S:=ad.run fun n o hr=>by
 obtain⟨t,u,y,et,zv,ho,rfl,rfl,h1,h2,rfl⟩:=Jq hr
 rw [aR] at hx hi
 exact Js (m:=.u) ho h1 h2 hx hS hi hk
theorem ad.ky {kt:Nat}{x i b:QO}{k:Nat}{es:List (Value × AV)}{v:Value}{a:AV}{c:Value->Bool}(hx:x.ev α.tm=.mp k) (hS:S.get k=some (.mp es)) (hi:toV (i.ev α.tm)=some v) (hk:uI P kt v es c) (hn:kh c es=none) (hb:b.ev α.tm=a) :
  ad P w0 false (.ky kt x i b) α S (.v undef) (S.set k (some (.mp (es++[(v,a)])))):=ad.run fun n o hr=>by
 obtain⟨t,u,y,b',et,ho,rfl,rfl,rfl,ht⟩:=Jr hr
 rw [aR] at hx hi hb
 intro A g q w dg hA
 have h1:=hA.ev u
 have h3:=hA.ev b'
 rw [hx] at h1
 rw [hb] at h3
 have e2:=se (hA.ev y) hi
 obtain⟨e1,bN⟩:=yc h1
 obtain⟨x,hv⟩:∃ x,q.eval b'=x:=⟨_,rfl⟩
 rw [hv] at h3
 obtain⟨_,_,entries,clock,p1,p2,p3⟩:=dg.cC k _ hS bN
 have hf:=hk.find p2 p3
 rw [hn] at hf
 obtain⟨w',q1,q2,q3⟩:=dg.CA (P:=P) hS bN p1 (entries':=entries.push { key:=v,val:=x,born:=clock }) (clock':=clock+1) (es':=es++[(v,a)]) (by simp [p2]) (fun i key a' hi=>by
  by_cases c:i < es.length
  ·rw [List.getElem?_append_left c] at hi
   obtain⟨e,r1,r2,r3⟩:=p3 i key a' hi
   exact⟨e,by rw [Array.getElem?_push_lt (by omega)];rw [Array.getElem?_eq_getElem (by omega)] at r1;exact r1,r2,r3⟩
  ·rw [List.getElem?_append_right (by omega)] at hi
   have TB:i=es.length:=by
    have:=(List.getElem?_eq_some_iff.1 hi).1
    simp at this;omega
   subst TB
   simp at hi
   obtain⟨rfl,rfl⟩:=hi
   exact⟨{ key:=v,val:=x,born:=clock },by rw [<-p2];simp,rfl,h3⟩)
 refine⟨undef,w',g,.inr ⟨?_,rfl⟩,.v,q2,q3⟩
 simp only [execOp,ho,e1,e2,hv,Instr.mapUpdate,Sem.run_bind,run_underlying ht,Result.andThen_ok,jV p1,hk.Tz,hf,q1,Sem.run_pure]
end
section
variable {P:Program}{w0:World}{rd:Bool}{n B N:Nat}{α:AA}{S:ae}{Q:Exit->AA->ae->Prop}{K:List iC}{ds:List Nat}{ch:List PanicEntry}
theorem ab.oR {σ:Type}{st:σ->List (Nat × AV)}{so:σ->List (Nat × Ob)}{I:σ->Prop}{μ:σ->Nat}{k:Nat}(h:ab P w0 rd n Q (.out (.panic ch) K) α S):ab P w0 rd n (EV P w0 rd n B N st ds so I μ Q K k) (.out (.panic ch) []) α S:=h
end
section
variable {P:Program}{w0:World}{r r':AV}{S':ae}
theorem ah.CB {f:FuncId}{args:List AV}(h1:bc P w0 f args ae.none_ r' S') (h2:aU S' r' r) (hp:Pure r):ah P w0 f args r:=by
 refine⟨hp,ae.none_,h1.1,fun F m A g bL w hF hS hA=>(h1.2 F m A g bL w hF hS hA).mono ?_⟩
 rintro e w' ⟨v,g',rfl,h3,h4,h5⟩
 have hk:∀ b q,(g'.still S').fz b q->g.fz b q\/A b:=by
  rintro b q (hq|⟨k,sz,rows,fz,ex,hk,bN,rfl,hq⟩)
  ·exact h5.f_ b q hq
  ·exact .inr (h4.cC k _ hk bN).1
 have hr:=h2.rep h4 h3
 obtain⟨g2,uJ⟩:∃ g2:Gh,g2=⟨g.ob,g.cp,fun _=>False,(g'.still S').fz,g.fo⟩:=⟨_,rfl⟩
 have tY:∀ k,¬ g.al k:=fun k hk=>absurd (hS.al k hk) (Nat.not_lt_zero k)
 have hL:Later g w g2 w':=by
  rw [uJ]
  exact⟨fun k hk=>tY k hk,fun _ _=>rfl,fun _ _=>rfl,fun b q hq=>.inl (h5.fz b q hq),h5.cell⟩
 refine⟨v,g2,rfl,?_,?_,{ hL with size:=h5.size,aV:=h5.aV,f_:=by rw [uJ];exact hk }⟩
 ·rw [uJ]
  exact aJ.pure (g:=g'.still S') (g':=⟨g.ob,g.cp,fun _=>False,(g'.still S').fz,g.fo⟩) (fun _ _ h=>h) (fun _ _ _=>rfl) hr hp
 ·have e0:∀ k o,¬ ae.none_.get k=some o:=fun k o h=>by simp [ae.none_] at h
  refine⟨h4.base,h4.up,h4.lo,fun k hk=>?_,fun k o hk=>absurd hk (e0 k o),fun j k o p hj=>absurd hj (e0 j o),?_,fun b q hb=>hL.fz b q (hS.mL b q hb),fun k J hk=>absurd hk (e0 k _),fun k J j o hk=>absurd hk (e0 k _),fun j k J J' hj=>absurd hj (e0 j _)⟩
  ·rw [uJ] at hk
   exact hk.elim
  ·rw [uJ]
   rintro b q (hq|⟨k,sz,rows,fz,ex,hk,bN,rfl,hq⟩)
   ·exact h4.cG b q hq
   ·exact (h4.cC k _ hk bN).2.1
end
end Go.Proofs.YtbofilglphfceaaGreat
