import Derived.Test.YtbpabjmnhggajaaGreatOs24
namespace Go.Proofs.YtbpabjmnhggajaaGreat
set_option linter.unusedVariables false
set_option linter.unusedSimpArgs false
open Go.RowKit
section
set_option maxRecDepth 100000
attribute [local irreducible] ah aC af ad
def fB (b:Bool):AV:=.v (.bool b)
def FU (s:List Int):List (Int × Bool):=s.map fun i=>(i,true)
theorem FV (s:List Int) (i:Int):aB (FU s) i=if s.contains i then some true else none:=by
 induction s with
 |nil=>rfl
 |cons x s ih =>
  rw[FU,List.map_cons,aB,List.contains_cons];rw[FU] at ih;by_cases h:x=i
  ·grind
  ·grind
theorem SB {s:List Int}{i:Int}(h:s.contains i=false):fl (FU s) i true=FU (s++[i]):=by
 induction s with
 |nil=>rfl
 |cons x s ih =>
  rw[List.contains_cons,Bool.or_eq_false_iff] at h;have h1:¬ x=i:=fun e=>by grind
  have h2:=ih h.2;rw[FU] at h2;simp only[FU,List.map_cons,List.cons_append,fl,h1,if_false];rw[h2];rfl
def acS (ρ:Hd) (p:List Int × List (Int × Bool) × Nat):List (Nat × Ob):=[(0,.arr 1 [[.gr 4 1 p.2.2]] 0 true),(1,.mp (ρ.h (dh fB) p.2.1)),(2,.arr 1 [[.mp 1]] 0 true),(3,.df),(4,.arr 1 (ρ.h (List.map aP) p.1) 0 false)]
section
variable {w0:World}{ρ:Hd}
theorem EN {B:Nat}{kv:List (Int × Bool)}:fR B (.mp (ρ.h (dh fB) kv)):=by
 rw[ρ.eq];intro e he;obtain⟨p,_,rfl⟩:=List.mem_map.1 he;exact .v
theorem er {B sz fz:Nat}{s:List Int}{ex:Bool}:fR B (.arr sz (ρ.h (List.map aP) s) fz ex):=eO fun x _ a ha=>by
 obtain rfl:=List.mem_singleton.1 ha;exact .v
theorem Zj (gid:FuncId) (fs cs:List AV) (xs:List Int) (hl:xs.length<=1099511627776) (hf:∀ a ∈ fs,Pure a) (hc:∀ a ∈ cs,Pure a) (yL:Iter Tryz.prog w0 gid fs cs (xs.map aP)) :
  ah Tryz.prog w0 189 [.fn (.func gid) fs cs] (aX ρ aP false (pC [] xs)):=by
 obtain⟨R,hR⟩:∃ R,R=pC [] xs:=⟨_,rfl⟩;rw[<-hR];refine st acP zd ((bp _)) ?_;refine ad.gj ρ fB rfl fun kv mn=>?_;subst mn;refine gq zd ?_
 refine ad.range (σ:=List Int × List (Int × Bool) × Nat) aP xs 4 5 [] [(3,.pt 0 1 0 0),(4,.pt 2 1 0 0)] (acS ρ) (fun rest p=>R=p.1++pC p.1 rest/\p.1.length+rest.length<=1099511627776/\p.2.1=FU p.1/\p.2.2=p.1.length) ([],[],0) rfl hf hc yL rfl ⟨by grind,by grind,rfl,rfl⟩ rfl
  (by intro p hp;simp only[List.mem_cons,List.not_mem_nil,or_false] at hp;rcases hp with rfl|rfl<;>exact .pt (by decide)) rfl (fun x=>⟨rfl,fun a ha=>by obtain rfl:=List.mem_singleton.1 ha;exact .v⟩)
  ⟨⟨.ao rfl (.pt (by decide)),.ao rfl (.pt (by decide)),trivial⟩,rfl,⟨.inl ⟨_,rfl,.arr ⟨⟨.jw,trivial⟩,trivial⟩⟩,.inl ⟨_,rfl,.same EN⟩,.inl ⟨_,rfl,.arr ⟨⟨.ao (.mp (by decide)),trivial⟩,trivial⟩⟩,.inl ⟨_,rfl,.same trivial⟩,.inr rfl,trivial⟩,rfl,rfl,rfl⟩ ?_ ?_
 ·rintro x rest ⟨s,kv,len⟩ ⟨hI,hlen,mn,o3⟩;simp only at hI hlen mn o3;rw[pC] at hI;rw[List.length_cons] at hlen;refine gq zd ?_;refine ad.look rfl rfl rfl rfl (fun v hv=>?_) (fun hv=>?_)
  ·rw[mn,FV] at hv;have hs:s.contains x=true:=by grind
   rw[if_pos hs] at hv hI;obtain rfl:=oJ_ hv;refine gq zd ?_;refine ad.H_ (s,kv,len) [(4,4)] ⟨hI,by grind,mn,o3⟩ ⟨trivial,rfl,⟨.inl ⟨_,rfl,.arr ⟨⟨.iR rfl rfl,trivial⟩,trivial⟩⟩,.inl ⟨_,rfl,.same EN⟩,.inl ⟨_,rfl,.arr ⟨⟨.ao (.mp (by decide)),trivial⟩,trivial⟩⟩,.inl ⟨_,rfl,.same trivial⟩,.inl ⟨_,rfl,.same er⟩,trivial⟩,rfl,rfl,rfl⟩
  ·rw[mn,FV] at hv;have hs:s.contains x=false:=by grind
   rw[if_neg (by grind)] at hI;refine gq zd ?_;refine ad.j7 (v:=true) rfl rfl rfl rfl rfl fun r5 ahc=>?_;rw[mn,SB hs] at ahc;refine gq zd ?_;refine ad.app (x:=x) (f:=aP) rfl rfl rfl o3 (fun _=>rfl) rfl rfl rfl rfl (by omega) fun s' eK iG xc=>?_;refine gq zd ?_;refine ad.H_ (s',r5,eK) [(4,5)] ⟨by grind,by grind,by grind,xc⟩ ⟨trivial,rfl,⟨.inl ⟨_,rfl,.arr ⟨⟨.iR rfl rfl,trivial⟩,trivial⟩⟩,.inl ⟨_,rfl,.same EN⟩,.inl ⟨_,rfl,.arr ⟨⟨.ao (.mp (by decide)),trivial⟩,trivial⟩⟩,.inl ⟨_,rfl,.same trivial⟩,.inl ⟨_,rfl,.same er⟩,trivial⟩,rfl,rfl,rfl⟩
 ·rintro⟨s,kv,len⟩ ⟨hI,_,mn,o3⟩;simp only at hI mn o3;rw[pC,List.append_nil] at hI;refine gq zd ?_;subst hI;refine fq ?_;exact aR.grow rfl o3
theorem ze:∀ (l s:List Int),(pC s l).length<=l.length
 |[],s=>Nat.le_refl _
 |x::l,s=>by
  rw[pC];split
  ·have:=ze l s;simp;omega
  ·have:=ze l (s++[x]);simp;omega
def varsOf (l:List Tm):List Int:=pC [] (cN l)
theorem FW (l:List Tm) (hl:l.length<=1099511627776) (hk:eV l) (hv:(cN l).length<=1099511627776):ah Tryz.prog w0 189 [.fn (.func 231) [] [.ip [tl ρ l]]] (aX ρ aP false (varsOf l)) :=
 Zj _ [] _ _ hv (fun a ha=>by grind) (fun a ha=>by obtain rfl:=List.mem_singleton.1 ha;exact .ip fun b hb=>by grind[aS]) (Ls l hl hk)
theorem Zk (x:Tm) {ex:Bool}:Wk (.sl ex [iL ρ x]) (tl ρ [x]):=by grind[tl,bQ,pv,Wk.sl]
theorem MY (x:Gl) (hl:x.a.length<=1099511627776) (hk:eV x.a) (hv:(cN x.a).length<=1099511627776):ah Tryz.prog w0 130 [gl ρ x] (aX ρ aP false (varsOf x.a)):=by
 have h1:=Ia (w0:=w0) (ρ:=ρ) x.a;have h2:=FW (w0:=w0) (ρ:=ρ) x.a hl hk hv;obtain⟨o,n,a⟩:=x;dsimp only at h1 h2 ⊢;obtain⟨R,hR⟩:∃ R,R=varsOf a:=⟨_,rfl⟩;rw[<-hR] at h2 ⊢;clear hv hl hk hR;refine st acR SA ((bp _)) ?_
 repeat' (first
  |(refine og SA (af.aw rfl h1 ⟨aS _,trivial⟩) ?_)
  |(refine og SA (af.aw rfl h2 ⟨.fn (fun a ha=>by cases ha) fun a ha=>by obtain rfl:=List.mem_singleton.1 ha;exact .ip fun b hb=>by obtain rfl:=List.mem_singleton.1 hb;exact aS _,trivial⟩) ?_)
  |(refine fq ?_))
 exact aR.of_eq rfl
theorem MZ (x:At) (hl:x.a.length<=1099511627776) (hk:eV x.a) (hv:(cN x.a).length<=1099511627776):ah Tryz.prog w0 129 [at_ ρ x] (aX ρ aP false (varsOf x.a)):=by
 have h1:=Ia (w0:=w0) (ρ:=ρ) x.a;have h2:=FW (w0:=w0) (ρ:=ρ) x.a hl hk hv;obtain⟨n,a⟩:=x;dsimp only at h1 h2 ⊢;obtain⟨R,hR⟩:∃ R,R=varsOf a:=⟨_,rfl⟩;rw[<-hR] at h2 ⊢;clear hv hl hk hR;refine st acQ Sz ((bp _)) ?_
 repeat' (first
  |(refine og Sz (af.aw rfl h1 ⟨aS _,trivial⟩) ?_)
  |(refine og Sz (af.aw rfl h2 ⟨.fn (fun a ha=>by cases ha) fun a ha=>by obtain rfl:=List.mem_singleton.1 ha;exact .ip fun b hb=>by obtain rfl:=List.mem_singleton.1 hb;exact aS _,trivial⟩) ?_)
  |(refine fq ?_))
 exact aR.of_eq rfl
end
end
section
variable {P:Program}{w0:World}{rd dr:Bool}{n B:Nat}{α au:AA}{S S':ae}{Q:Exit->AA->ae->Prop}{r:AV}{l:List QI}{K:List ff}{o:Oper}
theorem zf {t k sz by_ len:Nat}{ex:Bool}{b:QO}{rows:List (List AV)}{o:Oper}(ho:res P.toTables o.op=some (.append sz by_ (.t t) b)) (h1:α.tm t=.gr k sz len) (hk:S.get k=some (.arr sz rows 0 ex)) (hn:len=rows.length)
  (hb:∀ c,b.ev (a7 α.tm t c)=b.ev α.tm) (hm:dF S (b.ev α.tm)=some []):ez P w0 n o α S (.gr k sz len) S:=by
 intro F mm A g a w nx R hF hS hA nY;have aA:t < n:=by
  rcases Nat.lt_or_ge t n with h|h
  ·grind
  ·have:=hA.out t h;rw[h1] at this;cases this
 have hr:=hA.tm t aA;rw[h1] at hr;obtain⟨v,hv⟩:∃ v,a.tmps.getD t undef=v:=⟨_,rfl⟩;have bU:α.tm t ≠ .u:=by grind
 rw[hv] at hr;rcases pj hr with ⟨h,A',rfl⟩|⟨gT,c,rfl,hx,hle⟩
 ·have CZ:bR g w n ⟨a7 α.tm t (.sl true []),α.df⟩ a:=hA.slot bU (by rw[hv];exact .nil fun _=>rfl);have h5:=af.Es (P:=P) (w0:=w0) (dr:=false) (α:=⟨a7 α.tm t (.sl true []),α.df⟩) (S:=S) (sz:=sz) (by_:=by_) (a:=.t t) (b:=b) (rows:=[]) (az _ _ _) (by grind) n o ho;refine h5 F mm A g a w nx R hF hS CZ fun v w' g' k1 k2 k3=>nY v w' g' ?_ k2 k3;subst h;cases k1 with
  |nil hz=>obtain rfl:=hz rfl;exact .jw
  |sl hz=>exact absurd rfl hz
 ·have CZ:bR g w n ⟨a7 α.tm t (.ob k sz 0 len none),α.df⟩ a:=hA.slot bU (by
   rw[hv];have:=aF.ob (g:=g) (w:=w) (k:=k) (sz:=sz) (off:=0) (len:=len) (c:=c) (cx:=none) gT (fun m h=>by grind) (by omega) (fun _=>by omega) hle
   rwa [Nat.zero_mul] at this)
  have h5:=af.CQ (P:=P) (w0:=w0) (dr:=false) (α:=⟨a7 α.tm t (.ob k sz 0 len none),α.df⟩) (S:=S) (sz:=sz) (by_:=by_) (a:=.t t) (b:=b) (k:=k) (fz:=0) (ex:=ex) (rows:=rows) (sz':=sz) (az _ _ _) hk (by grind) n o ho;refine h5 F mm A g a w nx R hF hS CZ fun v w' g' k1 k2 k3=>nY v w' g' ?_ k2 k3;cases k1 with
  |ob q1 q2 q3 q4 q5=>rw[Nat.zero_mul];exact .gr q1 (by grind) q5
theorem fL {S:ae}{ex:Bool}{l:List (List AV)}:dF S (.sl ex l)=some l:=by
 simp[dF,rowsOf,nR]
section
variable {ρ:Hd}{T:Type}{f:T->List AV}{acc ys:List T}
theorem ad.SC {dd:Option Nat}{gg:Option (Nat × Bool)}{t:Nat}{b:QO}{sz by_ k len:Nat}{ex ex':Bool}(hw:bm α.tm gg=some true) (h1:α.tm t=.gr k sz len) (hk:S.get k=some (.arr sz (ρ.h (List.map f) acc) 0 ex)) (hn:len=acc.length) (iK:∀ c,b.ev (a7 α.tm t c)=b.ev α.tm)
  (hb:b.ev α.tm=aX ρ f ex' ys) (hl:∀ x,(f x).length=sz) (hc:∀ x,(f x).all bO=true) (hy:(len+ys.length)*by_<=35184372088832)
  (k0:ys=[]->ad P w0 rd n Q (.aN false l K) (bC dd α (.gr k sz len)) S)
  (kk:∀ dp eK,ys ≠ []->dp=acc++ys->eK=dp.length->ad P w0 rd n Q (.aN false l K) (bC dd α (.gr S.nx sz eK)) ((S.set k none).new (.arr sz (ρ.h (List.map f) dp) 0 false))):ad P w0 rd n Q (.aN false (⟨dd,gg,.append sz by_ (.t t) b⟩::l) K) α S:=by
 have hlen:(ρ.h (List.map f) acc).length=acc.length:=aE;rw[bQ] at hb;cases ys with
 |nil =>
  exact ad.op (i:=⟨dd,gg,.append sz by_ (.t t) b⟩) hw (fun n o ho=>zf ho h1 hk (by omega) iK (by rw[hb];exact fL)) (k0 rfl)
 |cons y ys =>
  have h:=kk _ _ (by simp) rfl rfl;have e:ρ.h (List.map f) acc++List.map f (y::ys)=ρ.h (List.map f) (acc++y::ys):=by rw[ρ.eq,ρ.eq,List.map_append]
  rw[<-e,show (acc++y::ys).length=len+(f y::List.map f ys).length by grind] at h;refine ad.op (i:=⟨dd,gg,.append sz by_ (.t t) b⟩) hw (af.lT h1 hk (by omega) iK (by rw[hb];exact fL) (by rw[hb];exact fL) (fun row hr=>?_) (by grind)) h;obtain⟨x,_,rfl⟩:=List.mem_map.1 (show row ∈ List.map f (y::ys) from hr);exact⟨hl x,hc x⟩
end
theorem qy {sz by_:Nat}{a b:QO}{o:Op}(h:res P.toTables o=some (.append sz by_ a b)):m_ o=false:=by grind[my,m_]
theorem a6.append {sz by_:Nat}{a b:QO}{d:Dt}{ex:Bool}{more:List (List AV)}(hb:b.ev α.tm=.sl ex more) (hd:fC S d.F)
  (h:∀ T,fC T d.F->(d.m=true->T.nx=S.nx)->∀ e z,de P e=some z->cY P e=some sz->iu P e=some by_->Nat.blt 0 by_=true->j_ P e (td r (dm T d.W d.m)) T more (a.ev α.tm)):a6 P w0 B (.append sz by_ a b) α S r d:=by
 refine a6.Fs (fun o ho hp=>by grind[sX,qy]) hd fun T hT hm o hr=>?_;obtain⟨c,t,t2,u,v,e,e2,z,rfl,h1,h2,h3,rfl,rfl,h4,h5,h6,h7,h8,h9,K3⟩:=my hr;rw[aI] at hb;have h:=h T hT hm e z h6 h7 h8 K3;rw[aI] at h;simp only[a8,h1,mR,h2,h3,List.map_cons,List.map_nil,h4,h5,h6,h7,h9];rw[hb];exact bc.mk (a:=more) rfl ⟨rfl,h⟩
theorem a6.Es {sz by_:Nat}{a b:QO}{ex:Bool}{rows:List (List AV)}(ha:a.ev α.tm=.sl true rows) (hb:b.ev α.tm=.sl ex []):a6 P w0 B (.append sz by_ a b) α S (.sl true rows) ⟨[],[],false⟩ :=
 a6.append hb (fun p hp=>by grind) fun T _ _ e z _ _ _ _=>by
  rw[ha];exact⟨rfl,by rw[cQ]⟩
theorem a6.Et {sz by_:Nat}{a b:QO}{ex:Bool}{x:List AV}{more:List (List AV)}(ha:a.ev α.tm=.sl true []) (hb:b.ev α.tm=.sl ex (x::more)) (h3:∀ row ∈ x::more,row.length=sz) (h4:(x::more).length*by_<=35184372088832) :
  a6 P w0 B (.append sz by_ a b) α S (.ob S.nx sz 0 (x::more).length none) ⟨[],[(S.nx,some (.arr sz (x::more) 0 false))],true⟩ :=
 a6.append hb (fun p hp=>by grind) fun T _ hm e z hz hs hy hp=>by
  rw[ha];simp only[j_,hs,hy,hp];refine⟨(fun _ h=>by grind),h3,(by grind),?_,?_⟩
  ·grind
  ·rw[dT];simp only[dC,<-hm rfl]
   rfl
theorem a6.CQ {sz by_ k fz len sz':Nat}{ex ex':Bool}{a b:QO}{rows:List (List AV)}(ha:a.ev α.tm=.ob k sz' 0 len none) (hk:S.get k=some (.arr sz' rows fz ex)) (hb:b.ev α.tm=.sl ex' []):a6 P w0 B (.append sz by_ a b) α S (.ob k sz' 0 len none) ⟨[(k,.arr sz' rows fz ex)],[],false⟩ :=
 a6.append hb (fun p hp=>by grind) fun T hT _ e z _ _ _ _=>by
  rw[ha];simp only[j_];exact bc.mk (a:=(sz',rows,fz,ex)) (te (hT (k,.arr sz' rows fz ex) (by simp))) ⟨rfl,by rw[cQ]⟩
theorem a6.MH {sz by_ k fz len:Nat}{ex ex':Bool}{a b:QO}{rows more:List (List AV)}{x:List AV}(ha:a.ev α.tm=.ob k sz 0 len none) (hk:S.get k=some (.arr sz rows fz ex)) (hb:b.ev α.tm=.sl ex' (x::more)) (h0:fz<=len) (h2:len<=rows.length)
  (h3:∀ row ∈ x::more,row.length=sz/\row.all bO=true) (h4:(len+(x::more).length)*by_<=35184372088832) :
  a6 P w0 B (.append sz by_ a b) α S (.ob S.nx sz 0 (len+(x::more).length) none) ⟨[(k,.arr sz rows fz ex)],[(S.nx,some (.arr sz (rows.take len++x::more) fz false)),(k,none)],true⟩ :=
 a6.append hb (fun p hp=>by grind) fun T hT hm e z hz hs hy hp=>by
  rw[ha];simp only[j_];refine bc.mk (a:=(sz,rows,fz,ex)) (te (hT (k,.arr sz rows fz ex) (by simp))) ?_;simp only[hs,hy,hp,Nat.beq_refl,Bool.and_self,Bool.true_and];refine⟨h0,h2,h3,h4,(by grind),?_⟩;rw[dT];simp only[dC,<-hm rfl]
  rfl
theorem a6.lT {sz by_ t k len:Nat}{ex ex':Bool}{b:QO}{rows more:List (List AV)}{x:List AV}(ha:α.tm t=.gr k sz len) (hk:S.get k=some (.arr sz rows 0 ex)) (hn:len=rows.length) (iK:∀ c,b.ev (a7 α.tm t c)=b.ev α.tm) (hb:b.ev α.tm=.sl ex' (x::more))
  (h3:∀ row ∈ x::more,row.length=sz/\row.all bO=true) (h4:(len+(x::more).length)*by_<=35184372088832) :
  a6 P w0 B (.append sz by_ (.t t) b) α S (.gr S.nx sz (len+(x::more).length)) ⟨[(k,.arr sz rows 0 ex)],[(S.nx,some (.arr sz (rows++x::more) 0 false)),(k,none)],true⟩:=by
 intro n o hr;refine⟨fun hp=>(by grind[sX,qy]),(show fC S _ from fun p hp=>by grind),fun T _ hT hm=>?_⟩;have e:∀ y:QO,(y=.t t\/y=b)->y.ev (α.only (cG o)).tm=y.ev α.tm:=by
  obtain⟨c,t1,t2,u,v,e,e2,z,ho,h1,h2,h3,h4,h5,_⟩:=my hr;intro y hy;have:∃ q ∈ [u,v],y=qo q:=by grind
  obtain⟨q,hq,rfl⟩:=this;rw[aI,aI];refine eH fun t ht=>en ?_;rw[ho,<-ht];have:q ∈ c.args:=Array.mem_toList_iff.1 (by grind);show q ∈ c.operands;simp[Call.operands,this,h1]
 have et:(α.only (cG o)).tm t=.gr k sz len:=(e (.t t) (.inl rfl)).trans ha;have eb:=e b (.inr rfl);have key:∀ c,b.ev (a7 (α.only (cG o)).tm t c)=b.ev (α.only (cG o)).tm:=by
  intro c;cases b with
  |t s =>
   by_cases hs:s=t
   ·exfalso;subst hs;rw[show (QO.t s).ev α.tm=α.tm s from rfl,ha] at hb;cases hb
   ·exact aD _ _ hs
  |_=>rfl
 have h:=HM (P:=P) (w0:=w0) (n:=n) (α:=α.only (cG o)) (S:=T) (k:=k) (sz:=sz) (by_:=by_) (len:=len) (ex:=ex) (b:=b) (rows:=rows) (more:=more) (x:=x) hr et (hT (k,.arr sz rows 0 ex) (by simp)) hn key (by grind[fL]) (by grind[fL]) h3 h4;rw[dT,<-hm rfl];exact h
theorem a6.acT {sz by_ t k len:Nat}{ex ex':Bool}{b:QO}{rows:List (List AV)}(ha:α.tm t=.gr k sz len) (hk:S.get k=some (.arr sz rows 0 ex)) (hn:len=rows.length) (iK:∀ c,b.ev (a7 α.tm t c)=b.ev α.tm) (hb:b.ev α.tm=.sl ex' []) :
  a6 P w0 B (.append sz by_ (.t t) b) α S (.gr k sz len) ⟨[(k,.arr sz rows 0 ex)],[],false⟩:=by
 intro n o hr;refine⟨fun hp=>(by grind[sX,qy]),(show fC S _ from fun p hp=>by grind),fun T _ hT hm=>?_⟩;have e:∀ y:QO,(y=.t t\/y=b)->y.ev (α.only (cG o)).tm=y.ev α.tm:=by
  obtain⟨c,t1,t2,u,v,e,e2,z,ho,h1,h2,h3,h4,h5,_⟩:=my hr;intro y hy;have:∃ q ∈ [u,v],y=qo q:=by grind
  obtain⟨q,hq,rfl⟩:=this;rw[aI,aI];refine eH fun t ht=>en ?_;rw[ho,<-ht];have:q ∈ c.args:=Array.mem_toList_iff.1 (by grind);show q ∈ c.operands;simp[Call.operands,this,h1]
 have et:(α.only (cG o)).tm t=.gr k sz len:=(e (.t t) (.inl rfl)).trans ha;have eb:=e b (.inr rfl);have key:∀ c,b.ev (a7 (α.only (cG o)).tm t c)=b.ev (α.only (cG o)).tm:=by
  intro c;cases b with
  |t s =>
   by_cases hs:s=t
   ·exfalso;subst hs;rw[show (QO.t s).ev α.tm=α.tm s from rfl,ha] at hb;cases hb
   ·exact aD _ _ hs
  |_=>rfl
 rw[show dm T [] false=T from cQ];exact zf hr et (hT (k,.arr sz rows 0 ex) (by simp)) hn key (by grind[fL])
theorem a6.Vb {f:QO}{aZ9:List QO}{g:FuncId}{args args₀:List AV}{r₀:AV}{so':List (Nat × Ob)}{ob:Ob}(bH:aC P w0 g args (aq [] 0) r (aq so' 1)) (h:dW (f.ev α.tm) (aZ9.map (·.ev α.tm))=some (g,args₀)) (ha:r6 (aJ []) 0 args₀ args)
  (hr:Rb (cT (aJ []) 0 S.nx) r r₀) (hT:fu (cT (aJ []) 0 S.nx) so' [(S.nx,some ob)]) (hf:vq so'=true):a6 P w0 B (.call f aZ9) α S r₀ ⟨[],[(S.nx,some ob)],true⟩:=by
 intro n o f_;obtain⟨c,u,ho,hu,Ib,has⟩:=kF f_;refine⟨fun hp=>(by grind[oP,m_]),(show fC S [] from fun p hp=>by grind),fun T _ _ hm=>?_⟩;have e:T.nx=S.nx:=hm rfl;have eo:∀ q ∈ (.call c:Op).operands,(α.only (cG o)).ev q=α.ev q:=fun q hq=>eH fun t ht=>en (by grind);have h':dW (f.ev (α.only (cG o)).tm) (aZ9.map (·.ev (α.only (cG o)).tm))=some (g,args₀):=by
  rw[<-h,Ib,has,aI,aI,iF,iF,eo u (show u ∈ c.operands by simp[Call.operands,hu])];congr 1;exact List.map_congr_left fun q hq=>eo q (show q ∈ c.operands by simp[Call.operands,hu];exact .inr (by grind))
 rw[<-e] at hr hT ⊢;intro F mm A gg a w nx R hF hS hA nY
 let T':ae:=⟨fun k=>if k < T.nx then T.get k else none,T.nx⟩
 have fk:St w0 A gg T' w:=hS.forget (Nat.le_refl _) fun j p hj _=>by grind
 have hc:=af.po (P:=P) (w0:=w0) (α:=α.only (cG o)) (T:=T') (m:=[]) (N:=0) (N':=1) (so:=[]) (so':=so') (to:=[(T.nx,some ob)]) (f:=f) (aZ9:=aZ9) bH h' ha hr rfl rfl trivial hT rfl (fun k p hk=>by grind) (.inr hf) n o f_;refine hc F mm A gg a w nx R hF fk hA fun v w' g' k1 k2 k3=>nY v w' g' k1 ?_ k3;rw[dT];refine k2.forget (Nat.le_refl _) fun j p hj aK=>?_;have vo:j < T.nx+1:=k2.al j aK;have hj:a7 T.get T.nx (some ob) j=some p:=hj;show a7 T'.get T.nx (some ob) j=some p;by_cases ej:j=T.nx
 ·grind[az]
 ·rw[aD _ _ ej] at hj ⊢;show (if j < T.nx then T.get j else none)=some p;rw[if_pos (by omega)];exact hj
end
def mG (c:Value->Bool):List (Value × AV)->Option Nat
 |[]=>none
 |p::es=>if c p.1 then some 0 else (mG c es).map (·+1)
section
variable {P:Program}{w0:World}{n:Nat}{o:Oper}{α:AA}{S S':ae}{r:AV}
structure zg (P:Program) (kt:Nat) (v:Value) (es:List (Value × AV)) (c:Value->Bool):Prop where
 Zl:∀ b w,(Instr.checkKey b 10000 kt v).run P w=.ok () w
 str:∃ fs,P.underlying kt=some (.struct fs)
 eq:∀ p ∈ es,∀ w,(Op.equal kt v p.1).run P w=.ok (c p.1) w
theorem Lt {c:Value->Bool}:∀ {es:List (Value × AV)}{j:Nat},mG c es=some j->∃ k a,es[j]?=some (k,a)/\c k=true
 |[],j,h=>by cases h
 |p::es,j,h=>by
  rw[mG] at h;split at h
  ·grind
  ·cases hx:mG c es with
   |none=>rw[hx] at h;cases h
   |some j' =>
    rw[hx] at h;obtain rfl:=oJ_ h;obtain⟨k,a,h1,h2⟩:=Lt hx;exact⟨k,a,by grind,h2⟩
theorem FX {kt:Nat}{v:Value}{c:Value->Bool}{w:World}:∀ {es:List (Value × AV)}{L:List MapEntry}{o:Nat},(∀ p ∈ es,∀ w,(Op.equal kt v p.1).run P w=.ok (c p.1) w)->L.length=es.length ->
  (∀ (j:Nat) (k:Value) (a:AV) (e:MapEntry),es[j]?=some (k,a)->L[j]?=some e->e.key=k) ->
  (Instr.findAsking kt v L o).run P w=.ok (match mG c es with|some j=>(L[j]?).map fun e=>(j+o,e.val)|none=>none) w
 |[],[],o,_,_,_=>rfl
 |p::es,e::L,o,hq,hl,h=>by
  have Zm:e.key=p.1:=h 0 p.1 p.2 e rfl rfl;have ih:=FX (w:=w) (es:=es) (L:=L) (o:=o+1) (fun q CV=>hq q (by grind)) (by grind) (fun j k a e' h1 h2=>h (j+1) k a e' (by grind) (by grind));simp only[Instr.findAsking,Sem.run_bind,Zm,hq p (by simp) w,Result.andThen_ok,mG];cases hc:c p.1 with
  |true=>simp[Sem.run_pure]
  |false =>
   simp only[if_false,Bool.false_eq_true,ih];congr 1;cases mG c es with
   |none=>rfl
   |some j=>simp only[Option.map_some,List.getElem?_cons_succ];congr 1;funext x;congr 1;omega
 |[],_::_,_,_,hl,_=>by grind
 |_::_,[],_,_,hl,_=>by grind
theorem zg.find {kt:Nat}{v:Value}{es:List (Value × AV)}{c:Value->Bool}(h:zg P kt v es c) {g:Gh}{w:World}{entries:Array MapEntry}(bS:entries.size=es.length) (he:∀ (i:Nat) (k:Value) (a:AV),es[i]?=some (k,a)->∃ e:MapEntry,entries[i]?=some e/\e.key=k/\aF g w a e.val) :
  (Instr.findKey kt v entries.toList).run P w=.ok (match mG c es with|some j=>(entries[j]?).map fun e=>(j,e.val)|none=>none) w:=by
 obtain⟨fs,zh⟩:=h.str;have hq:=FX (P:=P) (w:=w) (es:=es) (L:=entries.toList) (o:=0) h.eq (by grind) (fun j k a e h1 h2=>by grind);simp only[Array.getElem?_toList,Nat.add_zero] at hq;simp only[Instr.findKey,Sem.run_bind,run_underlying zh,Result.andThen_ok];cases hL:entries.toList with
 |nil =>
  rw[hL] at hq;simp only[Instr.findNow,Sem.run_pure];simp only[Instr.findAsking,Sem.run_pure] at hq;exact hq
 |cons e L =>
  rw[<-hL];have:Instr.findNow (.struct fs) v entries.toList 0=none:=by rw[hL];simp[Instr.findNow,Instr.sameNow]
  rw[this];exact hq
def fP (c:Value->Bool) (es:List (Value × AV)):Option AV:=match mG c es with|some j=>(es[j]?).map (·.2)|none=>none
theorem PA {o:Op}{kt:Nat}{z:AV}{c:Bool}{x i:QO}(h:res P.toTables o=some (.fP kt z c x i)):∃ t u v et zv,o=.lookup t u v c/\x=qo u/\i=qo v/\P.underlying t=some (.map kt et)/\de P et=some zv/\z=lift zv:=by
 cases o with
 |lookup t u v c' =>
  simp only[res,bE,gU] at h;split at h
  ·rename_i kt' et hu;split at h
   ·grind
   ·rename_i _ _ zv hk hz;simp only[oI_,ee.fP.injEq] at h;obtain⟨rfl,rfl,rfl,rfl,rfl⟩:=h;exact⟨_,_,_,_,_,rfl,rfl,rfl,hu,hz,rfl⟩
   ·rename_i _ zv hk hz;simp only[oI_,ee.fP.injEq] at h;obtain⟨rfl,rfl,rfl,rfl,rfl⟩:=h;exact⟨_,_,_,_,_,rfl,rfl,rfl,hu,hz,rfl⟩
   all_goals cases h
  ·grind
 |_ =>
  simp only[res] at h
  repeat' split at h
  all_goals cases h
theorem PB {o:Op}{kt:Nat}{x i b:QO}(h:res P.toTables o=some (.oD kt x i b)):∃ t u v y et,o=.mapUpdate t u v y/\x=qo u/\i=qo v/\b=qo y/\P.underlying t=some (.map kt et):=by
 cases o with
 |mapUpdate t u v y =>
  simp only[res,bE] at h;split at h
  ·grind
  ·grind
 |_ =>
  simp only[res] at h
  repeat' split at h
  all_goals cases h
theorem PC {t kt et:TypeId}{x i:Operand}{k:Nat}{es:List (Value × AV)}{z v:Value}{m:AV}{cm:Bool}{c:Value->Bool}(ho:o.op=.lookup t x i cm) (ht:P.underlying t=some (.map kt et)) (hz:de P et=some z)
  (hx:α.ev x=.mp k) (hS:S.get k=some (.mp es)) (hi:toV (α.ev i)=some v) (hk:zg P kt v es c):aQ P w0 n o α S (match fP c es with|some a=>(if cm then .aG [a,.v (.bool true)] else a)|none=>(if cm then .aG [lift z,.v (.bool false)] else lift z)) S:=by
 refine aQ.quiet fun A g q w cZ hA=>?_;have h1:=hA.ev x;rw[hx] at h1;have e2:=vV (hA.ev i) hi;obtain⟨e1,aK⟩:=n0 h1;obtain⟨_,_,entries,clock,p1,p2,p3⟩:=cZ.bT k _ hS aK;have hf:=hk.find p2 p3;have fin:∀ (v:Value) (b:Bool) (a:AV),aF g w a v->aF g w (if cm then .aG [a,.v (.bool b)] else a) (if cm then .tuple #[v,.bool b] else v):=by
  intro v b a hr;cases cm with
  |false=>exact hr
  |true =>
   refine .aG rfl fun i y x hy hx=>?_
   match i with
   |0=>simp at hy hx;subst hy hx;exact hr
   |1=>simp at hy hx;subst hy hx;exact .v
   |i+2=>simp at hy
 unfold fP;cases hj:mG c es with
 |none =>
  rw[hj] at hf;refine⟨_,?_,fin z false (lift z) (tu z)⟩;simp only[execOp,ho,e1,e2,Instr.lookup,Sem.run_bind,run_underlying ht,Result.andThen_ok,eM p1,Sem.run_pure,hk.Zl,hf,lN hz]
 |some j =>
  obtain⟨k',a,ha,_⟩:=Lt hj;obtain⟨e,q1,q2,q3⟩:=p3 j _ a ha;rw[hj] at hf;simp only[q1,Option.map_some] at hf;simp only[ha,Option.map_some];refine⟨_,?_,fin e.val true a q3⟩;simp only[execOp,ho,e1,e2,Instr.lookup,Sem.run_bind,run_underlying ht,Result.andThen_ok,eM p1,Sem.run_pure,hk.Zl,hf]
theorem af.fP {kt:Nat}{z:AV}{cm:Bool}{x i:QO}{k:Nat}{es:List (Value × AV)}{v:Value}{c:Value->Bool}(hx:x.ev α.tm=.mp k) (hS:S.get k=some (.mp es)) (hi:toV (i.ev α.tm)=some v) (hk:zg P kt v es c) :
  af P w0 false (.fP kt z cm x i) α S (match fP c es with|some a=>(if cm then .aG [a,.v (.bool true)] else a)|none=>(if cm then .aG [z,.v (.bool false)] else z)) S:=af.run fun n o hr=>by
 obtain⟨t,u,y,et,zv,ho,rfl,rfl,h1,h2,rfl⟩:=PA hr;rw[aI] at hx hi;exact PC (m:=.u) ho h1 h2 hx hS hi hk
theorem af.oD {kt:Nat}{x i b:QO}{k:Nat}{es:List (Value × AV)}{v:Value}{a:AV}{c:Value->Bool}(hx:x.ev α.tm=.mp k) (hS:S.get k=some (.mp es)) (hi:toV (i.ev α.tm)=some v) (hk:zg P kt v es c) (hn:mG c es=none) (hb:b.ev α.tm=a) :
  af P w0 false (.oD kt x i b) α S (.v undef) (S.set k (some (.mp (es++[(v,a)])))):=af.run fun n o hr=>by
 obtain⟨t,u,y,b',et,ho,rfl,rfl,rfl,ht⟩:=PB hr;rw[aI] at hx hi hb;intro A g q w cZ hA;have h1:=hA.ev u;have h3:=hA.ev b';rw[hx] at h1;rw[hb] at h3;have e2:=vV (hA.ev y) hi;obtain⟨e1,aK⟩:=n0 h1;obtain⟨x,hv⟩:∃ x,q.eval b'=x:=⟨_,rfl⟩;rw[hv] at h3;obtain⟨_,_,entries,clock,p1,p2,p3⟩:=cZ.bT k _ hS aK;have hf:=hk.find p2 p3;rw[hn] at hf;obtain⟨w',q1,q2,q3⟩:=cZ.vY (P:=P) hS aK p1 (entries':=entries.push { key:=v,val:=x,born:=clock }) (clock':=clock+1) (es':=es++[(v,a)]) (by grind) (fun i key a' hi=>by
  by_cases c:i < es.length
  ·grind
  ·rw[List.getElem?_append_right (by omega)] at hi;have Ic:i=es.length:=by grind
   subst Ic;simp at hi;obtain⟨rfl,rfl⟩:=hi;exact⟨{ key:=v,val:=x,born:=clock },by grind,rfl,h3⟩)
 refine⟨undef,w',g,.inr ⟨?_,rfl⟩,.v,q2,q3⟩;simp only[execOp,ho,e1,e2,hv,Instr.mapUpdate,Sem.run_bind,run_underlying ht,Result.andThen_ok,eM p1,hk.Zl,hf,q1,Sem.run_pure]
end
section
variable {P:Program}{w0:World}{rd:Bool}{n B N:Nat}{α:AA}{S:ae}{Q:Exit->AA->ae->Prop}{K:List ff}{ds:List DE}{ch:List PanicEntry}
theorem ad.rM {σ:Type}{st:σ->List (Nat × AV)}{so:σ->List (Nat × Ob)}{I:σ->Prop}{μ:σ->Nat}{k:Nat}(h:ad P w0 rd n Q (.out (.panic ch) K) α S):ad P w0 rd n (K2 P w0 rd n B N st ds so I μ Q K k) (.out (.panic ch) []) α S:=h
end
section
variable {P:Program}{w0:World}{r r':AV}{S':ae}
theorem ah.Df {f:FuncId}{args:List AV}(h1:aC P w0 f args ae.none_ r' S') (h2:aR S' r' r) (hp:Pure r):ah P w0 f args r:=by
 refine⟨hp,ae.none_,h1.1,fun F m A g args' w hF hS hA=>(h1.2 F m A g args' w hF hS hA).mono ?_⟩;rintro e w' ⟨v,g',rfl,h3,h4,h5⟩;have hk:∀ b q,(g'.still S').fz b q->g.fz b q\/A b:=by
  rintro b q (hq|⟨k,sz,rows,fz,ex,hk,aK,rfl,hq⟩)
  ·exact h5.h_ b q hq
  ·exact .inr (h4.bT k _ hk aK).1
 have hr:=h2.rep h4 h3;obtain⟨g2,q_⟩:∃ g2:Gh,g2=⟨g.ob,g.cp,fun _=>False,(g'.still S').fz,g.fo⟩:=⟨_,rfl⟩;have uq:∀ k,¬ g.al k:=fun k hk=>absurd (hS.al k hk) (Nat.not_lt_zero k);have hL:Later g w g2 w':=by
  rw[q_];exact⟨fun k hk=>uq k hk,fun _ _=>rfl,fun _ _=>rfl,fun b q hq=>.inl (h5.fz b q hq),h5.cell⟩
 refine⟨v,g2,rfl,?_,?_,{ hL with size:=h5.size,aU:=h5.aU,h_:=by rw[q_];exact hk }⟩
 ·rw[q_];exact aF.pure (g:=g'.still S') (g':=⟨g.ob,g.cp,fun _=>False,(g'.still S').fz,g.fo⟩) (fun _ _ h=>h) (fun _ _ _=>rfl) hr hp
 ·have e0:∀ k o,¬ ae.none_.get k=some o:=fun k o h=>by simp[ae.none_] at h
  refine⟨h4.base,h4.up,h4.lo,fun k hk=>?_,fun k o hk=>absurd hk (e0 k o),fun j k o p hj=>absurd hj (e0 j o),?_,fun b q hb=>hL.fz b q (hS.oT b q hb),fun k J hk=>absurd hk (e0 k _),fun k J j o hk=>absurd hk (e0 k _),fun j k J J' hj=>absurd hj (e0 j _)⟩
  ·rw[q_] at hk;exact hk.elim
  ·rw[q_];rintro b q (hq|⟨k,sz,rows,fz,ex,hk,aK,rfl,hq⟩)
   ·exact h4.cK b q hq
   ·exact (h4.bT k _ hk aK).2.1
end
end Go.Proofs.YtbpabjmnhggajaaGreat
