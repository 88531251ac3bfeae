import Derived.RecoverIn
import Derived.TacticsIn
import Derived.TacticsInMore
import Derived.Test.YtbpabjmnhggajaaGreatOr24
namespace Go.Proofs.YtbpabjmnhggajaaGreat
set_option linter.all false
set_option maxRecDepth 100000
open Go.RowKit
variable {a:AV}{Q:Exit->AA->af->Prop}{g:Gh}{m:Int}{l:List Nat}{K:List f_}{o:Oper}{x:QO}{w:World}
section
attribute [local irreducible] ah aG ae ad
def El:List Int->List Int->Int
 |[],[]=>0
 |[],_::_=>-1
 |_::_,[]=>1
 |x::a,y::b=>fh (iG x y) (El a b)
def FL (x y:Fi):Int:=fh (iG x.LL y.LL) (fh (iG x.ids.length y.ids.length) (El x.ids y.ids))
def Im.ok (x:Im):Prop:=nC x.a/\x.n.size<=1099511627776
end
section
attribute [local irreducible] ah aG ae ad
def aiH:FQ 209 Tryz.f209:=aF Tryz.func209 Tryz.call209
def xf:List Nat:=[6,4,0,5,10,1,19]
def Bd.ok (x:Bd):Prop:=x.t.ok/\cY x.t<=1099511627776
def Xz:Tm:=⟨0,0,⟨#[]⟩,[]⟩
def g_ (b:List Bd) (v:Int):Tm × Bool:=match b.find? λx=>x.v == v with|some x=>(x.t,true)|none=>(Xz,false)
theorem Mp {S:af}{ρ:Hd}:aP S (.agg [.v (.int .i64 0),.v (.int .i64 0),.v (.string ⟨#[]⟩),.sl true []]) (tm ρ Xz):=by
 refine .agg rfl λi a d b c=>?_
 match i,b,c with
 |0,b,c=>obtain rfl:=oJ_ b;obtain rfl:=oJ_ c;exact .refl _
 |1,b,c=>obtain rfl:=oJ_ b;obtain rfl:=oJ_ c;exact .refl _
 |2,b,c=>obtain rfl:=oJ_ b;obtain rfl:=oJ_ c;exact .refl _
 |3,b,c =>
  obtain rfl:=oJ_ b;obtain rfl:=oJ_ c;rw[Xz,tl,bX];exact aP.wk
theorem Qg {S:af}{a':AV}{b:Bool}(h:aP S a a'):aP S (.aL [a,.v (.bool b)]) (.aL [a',.v (.bool b)]):=by
 refine .aL rfl λi x e c d=>?_
 match i,c,d with
 |0,c,d=>obtain rfl:=oJ_ c;obtain rfl:=oJ_ d;exact h
 |1,c,d=>obtain rfl:=oJ_ c;obtain rfl:=oJ_ d;exact .refl _
section
variable {w0:World}{ρ:Hd}
theorem aex (b:List Bd) (v:Int) (r:b.length<=1099511627776):ah Tryz.prog w0 209 [eg ρ b,iv v] (.aL [tm ρ (g_ b v).1,.v (.bool (g_ b v).2)]):=by
 obtain⟨R,e⟩:∃R,R=g_ b v:=⟨_,rfl⟩;rw[<-e];refine st aiH xf ((.aL λa f=>by simp only[ad_,as_,or_false]at f;rcases f with rfl|rfl;exact bQ _;exact .v)) ?_;refine ad.aK (σ:=Int) 1 1 [] (λi=>[(0,eg ρ b),(1,.v (.int .i64 v)),(4,.pt 0 4 0 0),(6,.v (.int .i64 i))]) [] (λ_=>[(0,.arr 4 [[.v (.int .i64 0),.v (.int .i64 0),.v (.string ⟨#[]⟩),.sl true []]] 0 true)]) (λi=>∃k:Nat,i=k/\k<=b.length/\R=g_ (b.drop k) v) (λi=>b.length - i.toNat) 0 ⟨0,rfl,by simp,by grind⟩ rfl cz ?_;rintro i ⟨k,j,s,c⟩;clear e;refine gq xf ?_;by_cases n:k < b.length
 ·obtain⟨x,o,p⟩:=aD n;rw[p,g_,df_]at c;obtain⟨g,t,u,w,y⟩:=x
  repeat' (first
   |refine og xf (ae.ind rfl rfl (aB (l:=b) j o) (aA λ_=>rfl)) ?_
   |refine cg xf (λd=>?_) λd=>?_
   |refine lg xf λm q=>?_
   |refine ag xf λ_ _=>?_
   |refine ad.ao ?_;refine gq xf ?_
   |refine ad.bh ?_;refine gq xf ?_
   |(refine fq ?_))
  all_goals first
   |exfalso;omega
   |(rw[show (g == v)=true by grind]at c
     subst c;exact aP.of_eq rfl)
   |rw[show (g == v)=false by grind]at c;(refine ad.az (σ:=Int) _ [] ?_ ?_ cz<;>first|omega|exact⟨k+1,by omega,by omega,by rw[c];rfl⟩)
 ·skip
  repeat' (first
   |refine cg xf (λd=>?_) λd=>?_
   |refine lg xf λm q=>?_
   |refine ad.ao ?_;refine gq xf ?_
   |(refine fq ?_))
  all_goals first
   |exfalso;omega
   |skip
  rw[ak_ (by omega),g_]at c;subst c;exact Qg Mp
end
end
section
variable {P:Program}{w0:World}{dr:Bool}{N:Nat}{so:List (Nat × Ob)}{S T:af}{α:AA}{f:FuncId}{args:List AV}{r:AV}
theorem Rn.bm (h:ec N a):Rn id N a a:=λg w x b=>aN.bm (B:=N) (g:=g) (g':=g.pre id N) (λk c d=>⟨c,d⟩) (λ_ _=>rfl) (λ_ _=>rfl) (λ_ _ h=>h) b h
theorem eU.bm {g':Gh}{B b cp:Nat}{o:Ob}(N:∀k,k < B->g.al k->g'.al k) (O:∀k,k < B->g.al k->g'.ob k=g.ob k) (P:∀k,k < B->g.al k->g'.cp k=g.cp k) (C:g'.fz=g.fz) (p:h_ B o) (D:∀J,o ≠ .fo J)
  (q:∀{a:AV}{x:Value},ec B a->aN g w a x->aN g' w a x) (h:eU g w b cp o):eU g' w b cp o:=by
 cases o with
 |arr Q rows fz R =>
  obtain⟨E,F,d,f,l,n,r,u,v⟩:=h;refine⟨E,F,d,f,l,n,λi row y=>⟨(r i row y).1,λj a c=>?_⟩,u,by rw[C];exact v⟩;obtain⟨x,G,H⟩:=(r i row y).2 j a c;exact⟨x,G,q (p _ (aa_ y) _ (aa_ c)) H⟩
 |mp I =>
  obtain⟨entries,clock,d,f,l⟩:=h;refine⟨entries,clock,d,f,λi k a c=>?_⟩;obtain⟨e,z,A,m⟩:=l i k a c;exact⟨e,z,A,q (p _ (aa_ c)) m⟩
 |mb I =>
  obtain⟨entries,d,f,l,n⟩:=h;refine⟨entries,d,f,λi k a c=>?_,n⟩;obtain⟨e,z,A,m⟩:=l i k a c;exact⟨e,z,A,q (p _ (aa_ c)) m⟩
 |lp st S tm T assign body =>
  obtain⟨L,d,f,l,n,r,u,v,K⟩:=h;exact⟨L,d,f,l,n,r,u,λt M=>q (p t) (v t M),K⟩
 |df=>exact h
 |si s pos=>exact h
 |fo J=>exact absurd rfl (D J)
 |un=>exact h.elim
theorem lj.bm {o:Ob}(a:h_ N o) (c:∀J,o ≠ .fo J):lj id N o o:=by
 refine⟨λg w b cp h=>?_,λJ h=>h⟩;exact eU.bm (B:=N) (g:=g) (g':=g.pre id N) (λk a d=>⟨a,d⟩) (λ_ _ _=>rfl) (λ_ _ _=>rfl) rfl a c (λa h=>Rn.bm a g w _ h) h
theorem aN.back {gc:Gh}{o:Nat->Nat}(t:∀k,k < N->o k=k) (s:Bk o gc g):∀{a:AV}{x:Value},ec N a->aN gc w a x->aN g w a x:=by
 have n:∀k,k < N->gc.al k->g.al k:=λk b p=>by have:=s.al k p;rwa [t k b]at this
 have q:∀k,k < N->gc.al k->g.ob k=gc.ob k:=λk b p=>by have:=s.ob k p;rwa [t k b]at this
 have K:∀k,k < N->gc.al k->g.cp k=gc.cp k:=λk b p=>by have:=s.cp k p;rwa [t k b]at this
 have L:=s.fz;intro a x c h
 induction h with
 |u=>exact .u
 |v=>exact .v
 |agg y h m=>cases c with|agg c=>exact .agg y λi a x d l=>m i a x d l (c _ (aa_ d))
 |aL y h m=>cases c with|aL c=>exact .aL y λi a x d l=>m i a x d l (c _ (aa_ d))
 |nil z=>exact .nil z
 |sl B C f D h E m =>
  cases c with
  |sl c=>exact .sl B C f D (λi j row a d l=>⟨by grind,(h i j row a d l).2⟩) (λi j row a d l=>m i j row a d l (c _ (aa_ d) _ (aa_ l)))
 |ip h E m =>
  cases c with
  |ip c=>exact .ip (λi a d=>⟨by grind,(h i a d).2⟩) (λi a d=>m i a d (c _ (aa_ d)))
 |ob b z M F f =>
  cases c with
  |ob e =>
   rw[<-q _ e b];exact .ob (n _ e b) z (by grind) (by grind) f
 |pt b =>
  cases c with
  |pt e=>rw[<-q _ e b];exact .pt (n _ e b)
 |mp b =>
  cases c with
  |mp e=>rw[<-q _ e b];exact .mp (n _ e b)
 |yl b =>
  cases c with
  |yl e=>rw[<-q _ e b];exact .yl (n _ e b)
 |kO=>exact .kO
 |gr b F f =>
  cases c with
  |gr e=>rw[<-q _ e b];exact .gr (n _ e b) (by grind) f
 |fn d l O P G H =>
  cases c with
  |fn I J=>exact .fn d l (λi a x r A=>G i a x r A (I _ (aa_ r))) (λi a x r A=>H i a x r A (J _ (aa_ r)))
structure C3 (so:List (Nat × Ob)) (N:Nat) (T:af):Prop where
 le:N<=T.nx
 get:∀j o,fb so j=some o->j < N/\T.get j=some o/\h_ N o/\∀J,o ≠ .fo J
 all:∀j,j < N->∃o,fb so j=some o
theorem aG.same (h:aG P w0 f args (aq so N) r (aq so N)) (y:C3 so N T) (q:∀a ∈ args,ec N a) (R:ec N r):aG P w0 f args T r T:=by
 obtain⟨l,M⟩:∃l:af,l=⟨λk=>if k < T.nx then T.get k else none,T.nx⟩:=⟨_,rfl⟩;have get':∀k o,l.get k=some o->k < T.nx/\T.get k=some o:=λk o c=>by
  rw[M]at c;have c:(if k < T.nx then T.get k else none)=some o:=c;split at c
  ·grind
  ·grind
 have S:l.nx=T.nx:=by grind
 have O:∀k o,k < T.nx->T.get k=some o->l.get k=some o:=λk o c h=>by
  rw[M];show (if k < T.nx then T.get k else none)=some o;rw[if_pos c];exact h
 have z:=y.le;have E:∀k,k < N->dz id N l.nx k=k:=λk c=>pJ c;have U:Fits id (aq so N) (aq so N) l l:=by
  refine⟨λi j _ _ e=>e,λj d=>by rw[S];exact au_ d z,λj o d=>?_,λk o c=>?_,.inr ⟨ac_ _,rfl⟩,.inr λj J d=>?_⟩
  ·obtain⟨s,n,G,H⟩:=y.get j o d;exact⟨o,O j o (au_ s z) n,lj.bm G H⟩
  ·obtain⟨s,n⟩:=get' k o c;by_cases I:k < N
   ·obtain⟨K,C⟩:=y.all k I;obtain⟨q1,q2,V,W⟩:=y.get k K C;obtain rfl:K=o:=by grind
    refine .inl ⟨k,K,E k I,C,λgc g w b cp t _ L=>?_,λJ e=>e⟩;have D:∀k,k < N->dz id (aq so N).nx l.nx k=k:=E;exact eU.bm (B:=N) (λk c q=>by have:=t.al k q;rwa [D k c]at this) (λk c q=>by have:=t.ob k q;rwa [D k c]at this) (λk c q=>by have:=t.cp k q;rwa [D k c]at this) t.fz V W (λc h=>aN.back D t c h) L
   ·exact .inr ⟨by grind,λj d e=>I (by rw[<-e];exact d),c⟩
  ·obtain⟨_,_,_,H⟩:=y.get j _ d;exact absurd rfl (H J)
 have Q:=h.frame U rfl (λi a b s n=>by
  rw[s]at n;obtain rfl:=oJ_ n;exact Rn.bm (q _ (aa_ s))) (λgc g w x t L=>aN.back (N:=N) (o:=dz id (aq so N).nx l.nx) E t R L)
 refine⟨Q.1,λF m A g u w X Y Z=>(Q.2 F m A g u w X (Y.forget (by grind) λj p d _=>(get' j p d).2) Z).mono ?_⟩;rintro e w' ⟨v,g',rfl,s,n,G⟩;refine⟨v,g',rfl,s,n.forget (by grind) λj p d aT=>?_,G⟩;have:=n.al j aT;exact O j p (by grind) d
theorem ae.Z7 {f:QO}{b:List QO}{g:FuncId}{args:List AV}(c:aG P w0 g args (aq so N) r (aq so N)) (h:eV (f.ev α.tm) (b.map (·.ev α.tm))=some (g,args)) (d:C3 so N T) (e:∀a ∈ args,ec N a) (i:ec N r):ae P w0 dr (.call f b) α T r T :=
 ae.call h (c.same d e i) λ_=>rfl
end
section
variable {P:Program}{w0:World}{α:AA}{S:af}
theorem ae.K0 {i b:QO}{k:Nat}{es:List (Value × AV)}(h:x.ev α.tm=.mp k) (j:S.get k=some (.mp es)) (l:oB es) (hi:i.ev α.tm=.v (.int .i64 m)) (p:b.ev α.tm=a) :
  ae P w0 true (.oD x i b) α S (.v undef) (S.set k (some (.mp (AJ es m a)))):=by
 intro n o q;obtain⟨t,u,v,y,B,C,D,d,rfl,rfl,rfl,r,s⟩:=Fw q;rw[aW]at h hi p;have e:∀z ∈ [u,v,y],(α.only (dH o)).ev z=α.ev z:=λz w=>gm λt A=>gw (by rw[d];simp[Op.operands,<-A];simpa using w)
 exact⟨(LD d r s (by grind) j l (by rw[e v (by simp)];exact hi) (by grind)).ops (λc e=>by grind),
  λf=>(by rw[d]at f;cases f),λg=>(by rw[d]at g;cases g)⟩
theorem ad.K0 {rd:Bool}{n:Nat}{l:List QI}{ρ:Hd}{T:Type}{f:T->AV}{kv:List (Int × T)}{d:Option Nat}{g:Option (Nat × Bool)}{i b:QO}{k:Nat}{v:T}(c:bG α.tm g=some true) (e:x.ev α.tm=.mp k) (j:S.get k=some (.mp (ρ.h (dW f) kv))) (hi:i.ev α.tm=.v (.int .i64 m)) (o:b.ev α.tm=f v)
  (p:∀a,a=iy kv m v->ad P w0 rd n Q (.bc true l K) (bP d α (.v undef)) (S.set k (some (.mp (ρ.h (dW f) a))))):ad P w0 rd n Q (.bc true (⟨d,g,.oD x i b⟩::l) K) α S:=by
 have h:=ae.K0 (P:=P) (w0:=w0) e j (by rw[ρ.eq];exact rq) hi o;rw[ρ.eq,Fu,<-ρ.eq (dW f)]at h;exact ad.op (i:=⟨d,g,.oD x i b⟩) c h (p _ rfl)
end
section
attribute [local irreducible] ah aG ae ad
def amP:FQ 30 Tryz.f30:=aF Tryz.func30 Tryz.call30
def Z8:List Nat:=[0,5,1]
def Sh (e:Int):Value:=.iface 122 (.agg #[.int .i64 e])
def pR (e:Int):List PanicEntry:=[{ v:=Sh e,recovered:=false }]
section
variable {w0:World}{ρ:Hd}
theorem aez (b:Bool) (e:Int):KW Tryz.prog w0 30 [.v (.bool b),iv e] b (.aL []) (pR e):=by
 refine oc.ZO amP.2 (by simp[Tryz.ntmps30]) (.aL λa c=>by grind) ?_;cases b
 ·refine gq Z8 ?_;refine og Z8 (ae.LZ rfl (by kernel_rfl)) ?_;refine ad.EO rfl (wX.EO rfl) ?_;refine gq Z8 ?_;exact ad.ad1 rfl ⟨rfl,rfl⟩
 ·refine gq Z8 ?_;exact ad.ad0 rfl (by conv=>lhs;cbv) ⟨rfl,aP.of_eq rfl⟩
end
end
section
attribute [local irreducible] ah aG ae ad
def aiI:FQ 172 Tryz.f172:=aF Tryz.func172 Tryz.call172
def fg:List Nat:=[6,2,3,5,4,0,1,13,36]
def A8:List Int->List Int->Int
 |x::a,y::b=>fh (iG x y) (A8 a b)
 |_,_=>0
theorem Qh:∀{a b:List Int},a.length=b.length->El a b=A8 a b
 |[],[],_=>rfl
 |[],_::_,h=>by grind
 |_::_,[],h=>by grind
 |x::a,y::b,h=>by rw[El,A8,Qh (by grind)]
theorem abL {a b:Int}(h:a ≠ b):iG a b ≠ 0:=λe=>h (Jo e)
theorem XA {a b:Int}(h:¬ a=0):fh a b=a:=if_neg h
theorem abM (x y:Fi):FL x y=fh (fh (iG x.LL y.LL) (iG x.ids.length y.ids.length)) (A8 x.ids y.ids):=by grind[FL,iG,Qh,fh,abL]
section
variable {w0:World}{ρ:Hd}
theorem aeA (x y:Fi) (s:x.ids.length<=1099511627776) (t:y.ids.length<=1099511627776):ah Tryz.prog w0 172 [fi ρ x,fi ρ y] (iv (FL x y)):=by
 have e:=abM x y;obtain⟨R,n⟩:∃R,R=FL x y:=⟨_,rfl⟩;rw[<-n]at e ⊢;clear n;obtain⟨o,f⟩:=x;obtain⟨q,g⟩:=y;dsimp only at s t e;refine st aiI fg .v ?_
 repeat' (first
  |refine ad.int rfl (ae.ez rfl (P7 _ _) ⟨.v,.v,trivial⟩) λ_ _=>?_;refine gq fg ?_
  |refine bq (λb=>?_) (λb=>?_)<;>(try simp only[bL]at b)<;>(first|exact absurd b (by decide)|refine gq fg ?_)
  |refine bS λm d=>?_;(try rw[au]at d);refine gq fg ?_
  |refine cw λ_ _=>?_;refine gq fg ?_
  |refine ll λ_ _=>?_;refine gq fg ?_
  |refine ad.str rfl (ae.cat rfl rfl (by assumption)) λ_ _=>?_;refine gq fg ?_
  |refine ad.ao ?_;refine gq fg ?_
  |refine ad.bh ?_;refine gq fg ?_
  |(refine fq ?_))
 all_goals (
  rename_i c0 u;have n:R=fh c0 (A8 f g):=by
   subst_vars
   first
    |rw[show iG o q=0 by grind];rfl
    |rw[XA (a:=iG o q) (by grind)]
  clear e u
  refine ad.aK (σ:=Int × Int) 2 2 [] (λp=>[(2,.pt 0 2 0 0),(3,.pt 1 2 0 0),(5,.v (.int .i64 p.2)),(6,.v (.int .i64 p.1))]) [] (λ_=>[(0,.arr 2 [TY ρ ⟨o,f⟩] 0 true),(1,.arr 2 [TY ρ ⟨q,g⟩] 0 true)])
   (λp=>∃k:Nat,p.1=k/\k<=f.length/\k<=g.length/\R=fh p.2 (A8 (f.drop k) (g.drop k))) (λp=>f.length - p.1.toNat) (0,c0) ⟨0,rfl,by simp,by simp,by grind⟩ rfl cz ?_
  rintro⟨i,c⟩ ⟨k,r,F,G,h⟩;simp only at r h;clear n;refine gq fg ?_;by_cases w:k < f.length
  ·by_cases z:k < g.length
   ·obtain⟨x,A,B⟩:=aD w;obtain⟨y,C,D⟩:=aD z;rw[B,D,A8]at h;by_cases E:c=0
    ·subst E;simp only[fh,if_true]at h
     repeat' (first
      |refine ad.op rfl (ae.ind rfl rfl (aB (l:=f) r A) (aA λ_=>rfl)) ?_;refine gq fg ?_
      |refine ad.op rfl (ae.ind rfl rfl (aB (l:=g) r C) (aA λ_=>rfl)) ?_;refine gq fg ?_
      |refine ad.int rfl (ae.ez rfl (P7 _ _) ⟨.v,.v,trivial⟩) λ_ _=>?_;refine gq fg ?_
      |refine bq (λb=>?_) (λb=>?_)<;>(try simp only[bL]at b)<;>(first|exact absurd b (by decide)|refine gq fg ?_)
      |refine bS λm d=>?_;(try rw[au]at d);refine gq fg ?_
      |refine cw λ_ _=>?_;refine gq fg ?_
      |refine ll λ_ _=>?_;refine gq fg ?_
      |refine ad.str rfl (ae.cat rfl rfl (by assumption)) λ_ _=>?_;refine gq fg ?_
      |refine ad.ao ?_;refine gq fg ?_
      |refine ad.bh ?_;refine gq fg ?_
      |(refine fq ?_))
     all_goals first
      |exfalso;omega
      |(refine ad.az (σ:=Int × Int) (_,_) [] ?_ ?_ cz
        ·exact⟨k+1,by grind,by omega,by omega,by subst_vars;rfl⟩
        ·simp only;omega)
    ·have j:R=c:=by grind[fh]
     clear h
     repeat' (first
      |refine bq (λb=>?_) (λb=>?_)<;>(try simp only[bL]at b)<;>(first|exact absurd b (by decide)|refine gq fg ?_)
      |refine bS λm d=>?_;(try rw[au]at d);refine gq fg ?_
      |refine cw λ_ _=>?_;refine gq fg ?_
      |refine ll λ_ _=>?_;refine gq fg ?_
      |refine ad.str rfl (ae.cat rfl rfl (by assumption)) λ_ _=>?_;refine gq fg ?_
      |refine ad.ao ?_;refine gq fg ?_
      |refine ad.bh ?_;refine gq fg ?_
      |(refine fq ?_))
     all_goals first
      |exfalso;omega
      |rw[j];exact dP rfl
   ·have j:R=c:=by grind[A8,fh]
    clear h
    repeat' (first
     |refine bq (λb=>?_) (λb=>?_)<;>(try simp only[bL]at b)<;>(first|exact absurd b (by decide)|refine gq fg ?_)
     |refine bS λm d=>?_;(try rw[au]at d);refine gq fg ?_
     |refine cw λ_ _=>?_;refine gq fg ?_
     |refine ll λ_ _=>?_;refine gq fg ?_
     |refine ad.str rfl (ae.cat rfl rfl (by assumption)) λ_ _=>?_;refine gq fg ?_
     |refine ad.ao ?_;refine gq fg ?_
     |refine ad.bh ?_;refine gq fg ?_
     |(refine fq ?_))
    all_goals first
     |exfalso;omega
     |rw[j];exact dP rfl
  ·have j:R=c:=by grind[A8,fh]
   clear h
   repeat' (first
    |refine bq (λb=>?_) (λb=>?_)<;>(try simp only[bL]at b)<;>(first|exact absurd b (by decide)|refine gq fg ?_)
    |refine bS λm d=>?_;(try rw[au]at d);refine gq fg ?_
    |refine cw λ_ _=>?_;refine gq fg ?_
    |refine ll λ_ _=>?_;refine gq fg ?_
    |refine ad.str rfl (ae.cat rfl rfl (by assumption)) λ_ _=>?_;refine gq fg ?_
    |refine ad.ao ?_;refine gq fg ?_
    |refine ad.bh ?_;refine gq fg ?_
    |(refine fq ?_))
   all_goals first
    |exfalso;omega
    |(rw[j];exact dP rfl))
end
end
structure PS where
 N:aS
 vs:List (Int × Int)
 js:JS
def jm (s:PS) (t:Tm) (l:List Nat):PS :=
 ⟨s.N++[(t,l)],if t.k=1 then iy s.vs t.i s.N.length else s.vs,
  ⟨s.js.up++[s.N.length],if t.k=1 then s.js.sh else iy s.js.sh s.N.length s.N.length,if t.k=1 then iy s.js.ls s.N.length t.i else s.js.ls⟩⟩
mutual
def bU:PS->Tm->PS × Nat
 |s,⟨k,i,n,a⟩=>match (if k=1 then aH s.vs i else none) with
  |some j=>(s,j.toNat)
  |none=>(jm (dA s a).1 ⟨k,i,n,a⟩ (dA s a).2,(dA s a).1.N.length)
def dA:PS->List Tm->PS × List Nat
 |s,[]=>(s,[])
 |s,x::l=>((dA (bU s x).1 l).1,(bU s x).2::(dA (bU s x).1 l).2)
end
structure qn (s:PS):Prop where
 vs:∀v,aH s.vs v=(mM s.N v).map Int.ofNat
 up:s.js.up.length=s.N.length
 nd:(s.vs.map (·.1)).Nodup
theorem uJ {T:Type}:∀{l:List (Int × T)}{i:Int},i ∈ l.map (·.1) ↔ ∃v,aH l i=some v
 |[],i=>by simp[aH]
 |p::l,i=>by
  rw[aC_,ad_,aH];by_cases e:p.1=i
  ·rw[if_pos e];simp[e]
  ·rw[if_neg e,<-uJ];simp[Ne.symm e]
theorem yw {T:Type}:∀{l:List (Int × T)}{i:Int}{v:T},aH l i=none->iy l i v=l++[(i,v)]
 |[],_,_,_=>rfl
 |p::l,i,v,h=>by
  rw[aH]at h;rw[iy];by_cases e:p.1=i
  ·rw[if_pos e]at h;cases h
  ·rw[if_neg e]at h;rw[if_neg e,yw h];rfl
structure Grown (s s':PS):Prop where
 le:s.N.length<=s'.N.length
 upl:s'.js.up.length=s.js.up.length+(s'.N.length - s.N.length)
 jw:∀i,i < s.js.up.length->bT s'.js.up i=bT s.js.up i
 pc:∀i,s.js.up.length<=i->bT s'.js.up i=i
 mF:∀C:Nat,C < s.N.length->aH s'.js.sh C=aH s.js.sh C
 uK:∀C:Nat,s.N.length<=C->C < s'.N.length->aH s'.js.sh C=if (tn s'.N C).k=1 then aH s.js.sh C else some (C:Int)
 zG:(∀C i,aH s.js.sh C=some i->0<=i)->∀C i,aH s'.js.sh C=some i->0<=i
 mf:∀C:Nat,C < s.N.length->aH s'.js.ls C=aH s.js.ls C
 uL:∀C:Nat,s.N.length<=C->C < s'.N.length->aH s'.js.ls C=if (tn s'.N C).k=1 then some (tn s'.N C).i else aH s.js.ls C
 Hh:∀C:Nat,s'.N.length<=C->aH s'.js.sh C=aH s.js.sh C
 C5:∀C:Nat,s'.N.length<=C->aH s'.js.ls C=aH s.js.ls C
 pre:∀i,i < s.N.length->s'.N[i]?=s.N[i]?
theorem Qi {up:List Nat}{i:Nat}(h:up.length<=i):bT up i=i:=by unfold bT;rw[cY_ h];rfl
theorem Grown.refl (s:PS):Grown s s:=⟨ac_ _,by omega,λ_ _=>rfl,λi h=>Qi h,λ_ _=>rfl,λC a b=>by omega,λh=>h,λ_ _=>rfl,λC a b=>by omega,λ_ _=>rfl,λ_ _=>rfl,λ_ _=>rfl⟩
theorem Grown.trans {s t u:PS}(h:Grown s t) (k:Grown t u):Grown s u:=by
 have g:=h.le;have k0:=k.le;have j:=h.upl;have l:=k.upl;refine⟨by omega,by omega,λi b=>(k.jw i (by omega)).trans (h.jw i b),λi b=>?_,λC a=>(k.mF C (by omega)).trans (h.mF C a),λC c d=>?_,λf=>k.zG (h.zG f),λC a=>(k.mf C (by omega)).trans (h.mf C a),λC c d=>?_,λC a=>(k.Hh C a).trans (h.Hh C (by omega)),λC a=>(k.C5 C a).trans (h.C5 C (by omega)),λi b=>(k.pre i (by omega)).trans (h.pre i b)⟩
 ·by_cases e:i < t.js.up.length
  ·rw[k.jw i e,h.pc i b]
  ·exact k.pc i (by omega)
 ·by_cases e:C < t.N.length
  ·rw[k.mF C e,h.uK C c e,(ff k.pre e).1]
  ·rw[k.uK C (by omega) d,h.Hh C (by omega)]
 ·by_cases e:C < t.N.length
  ·rw[k.mf C e,h.uL C c e,(ff k.pre e).1]
  ·rw[k.uL C (by omega) d,h.C5 C (by omega)]
theorem Hi {s:PS}(g:qn s) (t:Tm) (l:List Nat):Grown s (jm s t l):=by
 have j:=g.up;have c:∀i,i < s.N.length->(s.N++[(t,l)])[i]?=s.N[i]?:=λi b=>bb_ b;refine⟨by simp[jm],by simp[jm],λi b=>?_,λi b=>?_,λC a=>?_,λC k d=>?_,λf C i=>?_,λC a=>?_,λC k d=>?_,λC a=>?_,λC a=>?_,c⟩
 ·simp only[jm,bT];rw[bb_ b]
 ·simp only[jm];by_cases e:i=s.js.up.length
  ·subst e;unfold bT;rw[be_ (ac_ _)];simp[j]
  ·exact Qi (by simp;omega)
 ·simp only[jm];split
  ·rfl
  ·rw[cQ,if_neg (by omega)]
 ·have e:C=s.N.length:=by simp[jm]at d;omega
  subst e;simp only[jm,lR.1];split
  ·rfl
  ·rw[cQ,if_pos rfl]
 ·simp only[jm];split
  ·exact f C i
  ·rw[cQ];split
   ·intro h;obtain rfl:=oJ_ h;omega
   ·exact f C i
 ·simp only[jm];split
  ·rw[cQ,if_neg (by omega)]
  ·rfl
 ·have e:C=s.N.length:=by simp[jm]at d;omega
  subst e;simp only[jm,lR.1];split
  ·rw[cQ,if_pos rfl]
  ·rfl
 ·simp only[jm]at a ⊢;rw[af_,bi_]at a;split
  ·rfl
  ·rw[cQ,if_neg (by omega)]
 ·simp only[jm]at a ⊢;rw[af_,bi_]at a;split
  ·rw[cQ,if_neg (by omega)]
  ·rfl
theorem UA {N:aS}{t:Tm}{v:Int}(h:t.k=1->mM N t.i=none):mM (N++[(t,l)]) v=if t.k=1/\t.i=v then some N.length else mM N v:=by
 unfold mM;rw[List.findIdx?_append];cases a:List.findIdx? (λx=>x.1.k == 1 && x.1.i == v) N with
 |some j =>
  rw[if_neg]
  ·rfl
  ·rintro⟨c,rfl⟩;have:=h c;unfold mM at this;rw[this]at a;cases a
 |none =>
  by_cases e:t.k=1/\t.i=v
  ·rw[if_pos e];simp[e.1,e.2]
  ·rw[if_neg e];have:(t.k == 1 && t.i == v)=false:=by
    rw[db_];by_cases b:t.k=1
    ·exact .inr (by simpa using λd=>e ⟨b,d⟩)
    ·exact .inl (by simpa using b)
   simp[this]
theorem JL {s:PS}(c:qn s) {t:Tm}(h:t.k=1->mM s.N t.i=none):qn (jm s t l):=by
 refine⟨λv=>?_,by simp[jm,c.up],?_⟩;rotate_left
 ·simp only[jm];split
  ·rename_i e;have f:aH s.vs t.i=none:=by rw[c.vs,h e];rfl
   rw[yw f,aM_,List.nodup_append];refine⟨c.nd,by simp,λa g b i d=>?_⟩;simp only[aC_,bg_,ae_]at i;rw[d,i,uJ]at g;obtain⟨x,j⟩:=g;rw[f]at j;cases j
  ·exact c.nd
 simp only[jm];rw[UA h];by_cases e:t.k=1
 ·rw[if_pos e,cQ];by_cases d:t.i=v
  ·rw[if_pos d,if_pos ⟨e,d⟩];rfl
  ·rw[if_neg d,if_neg (λh=>d h.2)];exact c.vs v
 ·rw[if_neg e,if_neg (λh=>e h.1)];exact c.vs v
mutual
theorem rG:∀(s:PS) (t:Tm),qn s->eh t->(bU s t).1.N=(bN s.N t).1/\(bU s t).2=(bN s.N t).2/\qn (bU s t).1/\Grown s (bU s t).1
 |s,⟨k,i,n,a⟩,b,c=>by
  rw[bU,bN];by_cases d:k=1
  ·subst d;rw[eh,if_pos rfl]at c;obtain⟨rfl,rfl⟩:=c;simp only[if_true,b.vs];cases o:mM s.N i with
   |some j=>exact⟨rfl,by simp,b,.refl s⟩
   |none =>
    simp only[bj_,dA,bR];exact⟨by simp[jm],by simp,JL b λ_=>o,Hi b _ _⟩
  ·simp only[if_neg d];rw[eh,if_neg d]at c;obtain⟨f,h,g,m⟩:=FM s a b c.1;refine⟨by simp only[jm,f,h],by rw[f],JL g λe=>absurd e d,m.trans (Hi g _ _)⟩
theorem FM:∀(s:PS) (l:List Tm),qn s->gH l->(dA s l).1.N=(bR s.N l).1/\(dA s l).2=(bR s.N l).2/\qn (dA s l).1/\Grown s (dA s l).1
 |s,[],b,_=>by rw[dA,bR];exact⟨rfl,rfl,b,.refl s⟩
 |s,x::l,b,c=>by
  rw[gH]at c;obtain⟨f,h,g,m⟩:=rG s x b c.1;obtain⟨p,q,k3,k4⟩:=FM (bU s x).1 l g c.2;rw[dA,bR];simp only[p,q,f,h];exact⟨trivial,trivial,k3,m.trans k4⟩
end
section
variable {E:List (Tm × Tm)}{D:List (Nat × Nat)}{c:Nat->Nat}
theorem o_.grow {s f:PS}(h:o_ E s.N D c [] s.js) (G:∀p ∈ D,p.1 < s.N.length/\p.2 < s.N.length) (m:vo s.N f.N) (a:Grown s f) {x y:Nat}(H:x < f.N.length) (I:y < f.N.length) (J:(tn f.N x,tn f.N y) ∈ E) :
  o_ E f.N ((x,y)::D) (λi=>if i < s.N.length then c i else i) [(x,y)] f.js:=by
 obtain⟨K,q⟩:=h.uf;have Q:=h.len;have R:=a.upl;have L:=a.le;have w:∀i,i < s.N.length->c i < s.N.length:=λi b=>by have:=(q.rt i (by omega)).2;omega
 have z:∀j C,C < s.N.length->(if j < s.N.length then c j else j)=C->j < s.N.length/\c j=C:=λj C k e=>by
  split at e
  ·exact⟨by assumption,e⟩
  ·omega
 have A:∀j C,s.N.length<=C->(if j < s.N.length then c j else j)=C->j=C:=λj C k e=>by
  split at e
  ·rename_i M;have:=w j M;omega
  ·exact e
 refine⟨h.gi.grow G m.g m.le m.pre (λi b=>⟨if_pos b,w i b⟩) (λi b=>if_neg (by omega)) H I J,⟨K,?_⟩,by omega,a.zG h.pos,λC k e=>?_,λC k e=>?_,λC k=>by rw[a.Hh C k];exact h.Ug C (by omega),λC k=>by rw[a.C5 C k];exact h.ZW C (by omega)⟩
 ·refine⟨λi b=>?_,λi b=>?_,λi b=>?_,λi b e=>?_,λi b e=>?_⟩
  ·by_cases e:i < s.N.length
   ·rw[a.jw i (by omega)];have:=q.lt i (by omega);omega
   ·rw[a.pc i (by omega)];exact b
  ·by_cases e:i < s.N.length
   ·simp only[if_pos e];rw[a.jw _ (by have:=w i e;omega)];have:=q.rt i (by omega);exact⟨this.1,by omega⟩
   ·simp only[if_neg e];exact⟨a.pc i (by omega),b⟩
  ·by_cases e:i < s.N.length
   ·rw[a.jw i (by omega)];have:=q.lt i (by omega);simp only[if_pos e];rw[if_pos (by omega)];exact q.st i (by omega)
   ·rw[a.pc i (by omega)]
  ·by_cases d:i < s.N.length
   ·rw[a.jw i (by omega)]at e;simp only[if_pos d];exact q.fx i (by omega) e
   ·simp only[if_neg d]
  ·by_cases d:i < s.N.length
   ·rw[a.jw i (by omega)]at e ⊢;exact q.ht i (by omega) e
   ·exact absurd (a.pc i (by omega)) e
 ·by_cases d:C < s.N.length
  ·simp only[if_pos d]at e;have n:=h.zG C d e;show ix _ _ _ (cN f.js.sh C);have N:cN f.js.sh C=cN s.js.sh C:=by unfold cN;rw[a.mF C d]
   rw[N];cases t:cN s.js.sh C with
   |some i =>
    rw[t]at n;obtain⟨r,B,F⟩:=n;exact⟨by omega,by simp only[if_pos r];exact B,by rw[(ff m.pre r).1];exact F⟩
   |none =>
    rw[t]at n;intro i b l;obtain⟨o,u⟩:=z i C d l;rw[(ff m.pre o).1];exact n i o u
  ·show ix _ _ _ (cN f.js.sh C);unfold cN;rw[a.uK C (by omega) k];by_cases g:(tn f.N C).k=1
   ·rw[if_pos g];rw[h.Ug C (by omega)];intro i b l;rw[A i C (by omega) l];exact g
   ·rw[if_neg g];exact⟨by simpa using k,by simp only[cW_];exact if_neg d,by simpa using g⟩
 ·by_cases d:C < s.N.length
  ·simp only[if_pos d]at e;have n:=h.aR C d e;show sG _ _ _ (aH f.js.ls (C:Int));rw[a.mf C d];cases t:aH s.js.ls (C:Int) with
   |some v =>
    rw[t]at n;obtain⟨⟨j,r,B,F,O⟩,P⟩:=n;refine⟨⟨j,by omega,by simp only[if_pos r];exact B,by rw[(ff m.pre r).1];exact F,by rw[(ff m.pre r).1];exact O⟩,λi b l g=>?_⟩;obtain⟨o,u⟩:=z i C d l;rw[(ff m.pre o).1]at g ⊢;exact P i o u g
   |none =>
    rw[t]at n;intro i b l;obtain⟨o,u⟩:=z i C d l;rw[(ff m.pre o).1];exact n i o u
  ·show sG _ _ _ (aH f.js.ls (C:Int));rw[a.uL C (by omega) k];by_cases g:(tn f.N C).k=1
   ·rw[if_pos g];refine⟨⟨C,k,if_neg d,g,rfl⟩,λi b l _=>?_⟩;rw[A i C (by omega) l];exact bf_ _
   ·rw[if_neg g,h.ZW C (by omega)];intro i b l;rw[A i C (by omega) l];exact g
end
section
variable {P:Program}{w0:World}{n:Nat}{α:AA}{S:af}
theorem Hj {F:Fence}{m:Nat}{A:Nat->Prop}{a:Act}{ops:Array Oper}{Q:Exit->Act->World->Prop}{i:Nat}{rest:List Nat}{r:AV}{S':af}(b:kW F) (j:St w0 A g S w) (c:cA g w n α a) (hi:ops[i]?=some o) (l:o.guard=none) (p:(match o.dst with|some d=>Nat.blt d n|none=>true)=true) (h:iY P w0 n o α S r S')
  (k:∀(a':Act) (w':World) (g':Gh),St w0 A g' S' w'->cA g' w' n (α.put o.dst r) a'->Ext A g w g' w'->wpOpsIn F m P ops Q rest a' w'):wpOpsIn F m P ops Q (i::rest) a w:=by
 simp only[wpOpsIn,hi];rw[if_pos (by simp[Region.wanted,l])];exact⟨λf _=>b.1 f,h F m A g a w _ Q b j c λv w' g' q s e=>k _ _ _ s (pU (c.later e.toLater) p q) e⟩
theorem UB (a:res P.toTables o.op=some (.mv x)):iY P w0 n o α S (x.ev α.tm) S:=by
 have h:ae P w0 false (.mv x) α S (x.ev α.tm) S:=ae.quiet rfl;exact h n o a
theorem ad.aeD {id:Nat}{j p:Oper}{q1 E:QO}{d1 d2:Nat}{c:Call}{x i:Operand}{k:Nat}{mt s G:TypeId}{kk:IntKind}(N:j.guard=none) (g2:p.guard=none) (O:j.dst=some d1) (R:p.dst=some d2) (b1:Nat.blt d1 n=true) (b2:Nat.blt d2 n=true) (T:res P.toTables j.op=some (.mv q1)) (U:res P.toTables p.op=some (.mv E))
  (V:o.op=.defer c) (W:c.callee=.builtin .delete) (u:c.argTypes[0]?=some mt) (X:P.underlying mt=some (.map s G)) (Y:P.underlying s=some (.int kk))
  (Z:c.args=#[x,i]) (hg:o.guard=none) (r:o.dst=none) {q:AA}(v:q=(α.put (some d1) (q1.ev α.tm)).put (some d2) (E.ev (α.put (some d1) (q1.ev α.tm)).tm)) (H:(qo x).ev q.tm=.mp k) (hi:(qo i).ev q.tm=.v (.int .i64 m))
  (h:∀t,Se P t->ad P w0 false n Q (.out .normal K) ⟨q.tm,.del t k m::q.df⟩ S):ad P w0 false n Q (.run (.raw (.region id #[j,p,o] false)) K) α S:=by
 intro c0 xh _;obtain rfl:=XD xh;rw[aW]at H hi;obtain⟨b,Lw⟩:∃b:Array Bool,(c.args.map λ|.const _=>true|_=>false)=b:=⟨_,rfl⟩;refine⟨.normal,_,S,λF mm A g0 a0 ZI y I UC UD=>?_,h (.builtin .delete c.argTypes o.type b) ⟨_,_,_,mt,s,G,kk,rfl,u,X,Y⟩⟩;have jN:F.round=none:=by
  cases hr:F.round with
  |none=>rfl
  |some l=>rw[hr]at I;cases I
 refine wpIn_region ?_;rw[show (List.range (#[j,p,o]:Array Oper).size)=[0,1,2] from rfl];refine Hj y UC UD (o:=j) rfl N (by grind) (UB T) λa1 w1 gh1 mP J oL=>?_;rw[O]at J;refine Hj y mP J (o:=p) rfl g2 (by grind) (UB U) λa w g hS e zQ=>?_;rw[R,<-v]at e;have hE:=oL.trans zQ;have L:=e.ev x;have M:=e.ev i;rw[H]at L;rw[hi]at M;obtain⟨z,aT⟩:=sI L;have B:=b_ M;have cX:(resolve a.eval c o.type).run P w=.ok { target:=.builtin .delete c.argTypes o.type b,args:=#[.map (some (g.ob k)),.int .i64 m] } w:=by
  rw[<-Lw];simp[resolve,W,Z,z,B];cases x<;>cases i<;>exact⟨rfl,rfl⟩
 have ZF:cA g w n ⟨q.tm,.del (.builtin .delete c.argTypes o.type b) k m::q.df⟩ { a with defers:=({ target:=.builtin .delete c.argTypes o.type b,args:=#[.map (some (g.ob k)),.int .i64 m] }:Deferred)::a.defers }:=by
  refine⟨e.size,e.tm,e.out,?_,λd r=>?_⟩
  ·show _=({ target:=.builtin .delete c.argTypes o.type b,args:=#[.map (some (g.ob k)),.int .i64 m] }:Deferred)::_;rw[<-e.df]
  ·rcases ad_.1 r with rfl|r
   ·exact aT
   ·exact e.wK d r
 have C:(#[j,p,o]:Array Oper)[2]?=some o:=rfl;simp only[wpOpsIn,C];rw[if_pos (by simp[Region.wanted,hg])];refine⟨λf _=>y.1 f,?_⟩;have D:(o.semAt F.round a.eval).run P w=.ok (.defer { target:=.builtin .delete c.argTypes o.type b,args:=#[.map (some (g.ob k)),.int .i64 m] }) w:=by
  rw[jN];simp[Oper.semAt,execOp,V,Sem.run_bind,cX]
 rw[D];simp[Oper.uponIn,r];exact⟨rfl,g,hS,ZF,hE⟩
end
end Go.Proofs.YtbpabjmnhggajaaGreat
