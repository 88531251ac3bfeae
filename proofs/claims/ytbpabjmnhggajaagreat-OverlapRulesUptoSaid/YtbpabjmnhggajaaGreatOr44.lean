import Derived.Test.YtbpabjmnhggajaaGreatOr43
namespace Go.Proofs.YtbpabjmnhggajaaGreat
set_option linter.all false
set_option maxRecDepth 100000
open Go.RowKit
variable {ρ:Hd}{env:List Bd}
section
attribute [local irreducible] ah aG ae ad
def ajJ:FQ 164 Tryz.f164:=aF Tryz.func164 Tryz.call164
def SZ:List Nat:=[3,4,8,0,1,9,6,18,5,20]
def anO:FQ 96 Tryz.f96:=aF Tryz.func96 Tryz.call96
def B8:List Nat:=[6,1,5,4,10,0]
def anP:FQ 56 Tryz.f56:=aF Tryz.func56 Tryz.call56
def g56:List Nat:=[3,4,1,0]
theorem Kg (b:List Bd) (v:Int):(g_ b v).2=(zh b v).isSome/\∀u,zh b v=some u->(g_ b v).1=u:=by grind[g_,zh]
section
variable {w0:World}{ρ:Hd}
theorem DJ {f:Tm->Tm}(a:List Tm) (A:a.length<=100000000000) (n:∀x ∈ a,ah Tryz.prog w0 164 [eg ρ env,tm ρ x] (tm ρ (f x))) :
  ah Tryz.prog w0 96 [eg ρ env,tl ρ a] (tl ρ (a.map f)):=by
 obtain⟨R,e⟩:∃R,R=a.map f:=⟨_,rfl⟩;rw[<-e];refine st anO B8 ((cG _)) ?_
 refine ad.aK (σ:=Int × List Tm × Nat) 0 1 [] (λp=>[(0,eg ρ env),(1,tl ρ a),(5,.gr 0 4 p.2.2),(6,.v (.int .i64 p.1))]) [] (λp=>[(0,.arr 4 (ρ.h (List.map (je ρ)) p.2.1) 0 false)])
  (λp=>∃k:Nat,p.1=k/\k<=a.length/\R=p.2.1++(a.drop k).map f/\p.2.2=p.2.1.length/\p.2.1.length=k) (λp=>a.length - p.1.toNat) (0,[],0) ⟨0,rfl,by simp,by grind,rfl,rfl⟩ rfl cz ?_
 rintro⟨i,q,len⟩ ⟨k,g,B,b,c,r⟩;simp only at g b c r;clear e;refine gq B8 ?_;by_cases s:k < a.length
 ·obtain⟨x,h,t⟩:=aD s;have j:=n x (bM h);rw[t,aC_]at b;obtain⟨X,u⟩:∃X,X=f x:=⟨_,rfl⟩;rw[<-u]at j b
  repeat' (first
   |refine og B8 (ae.ind rfl rfl (cC (l:=a) g h) cD) ?_
   |(apply bK B8 j)
   |(refine ad.app (x:=X) (f:=je ρ) rfl rfl rfl c (λ_=>rfl) rfl rfl rfl rfl (by omega) λv w C D=>?_;refine gq B8 ?_)
   |refine cg B8 (λd=>?_) λd=>?_
   |refine lg B8 λm y=>?_
   |refine ag B8 λ_ _=>?_
   |refine ad.ao ?_;refine gq B8 ?_
   |(refine fq ?_))
  all_goals first
   |exfalso;omega
   |(refine ad.az (σ:=Int × List Tm × Nat) (_,v,w) [(0,1)] ?_ ?_ (by exact⟨sq,rfl,⟨.inl ⟨_,rfl,.same (jS λx _ a z=>wP x a z)⟩,trivial⟩,rfl,rfl,rfl⟩)
     ·grind
     ·simp only;omega)
 ·skip
  repeat' (first
   |refine cg B8 (λd=>?_) λd=>?_
   |refine lg B8 λm y=>?_
   |refine ad.ao ?_;refine gq B8 ?_
   |(refine fq ?_))
  all_goals first
   |exfalso;omega
   |rw[b,ak_ (by omega),bg_,aB_,<-NU];exact aP.grow rfl c
theorem Yu (q:env.length<=1099511627776) (n:Nat):∀x:Tm,cR x<=n->n<=100000000000->ah Tryz.prog w0 164 [eg ρ env,tm ρ x] (tm ρ (dU env x)):=by
 induction n with
 |zero=>intro x h;have:=iO x;omega
 |succ n o =>
  intro x p r;rw[iO]at p;have s:=q_ x.a;have j:=DJ (w0:=w0) (ρ:=ρ) (f:=dU env) (env:=env) x.a (by omega) λy t=>o y (by have:=iw y t;omega) (by omega);have e:=aex (w0:=w0) (ρ:=ρ) env x.i q;obtain⟨d,l⟩:=Kg env x.i;obtain⟨R,c⟩:∃R,R=dU env x:=⟨_,rfl⟩;rw[<-c];obtain⟨k,i,m,a⟩:=x;rw[dU,mG]at c;simp only at j e d l c;clear o p r s;obtain⟨A,v⟩:∃A,A=a.map (dU env):=⟨_,rfl⟩;rw[<-v]at j c;obtain⟨⟨⟨B,C,un,D⟩,b⟩,w⟩:∃L,L=g_ env i:=⟨_,rfl⟩;rw[<-w]at e d l;simp only at e d l;refine st ajJ SZ ((bQ _)) ?_
  repeat' (first
   |(apply bK SZ j)
   |(refine ad.op rfl (pl e) ?_;cases b<;>refine gq SZ ?_)
   |refine cg SZ (λz=>?_) λz=>?_
   |(refine fq ?_))
  all_goals clear j e
  all_goals first
   |(have h:R=⟨k,i,m,A⟩:=by rw[c,if_neg (by omega),if_pos (by omega)]
     rw[h];exact .refl _)
   |(have h:R=⟨k,i,m,a⟩:=by rw[c,if_neg (by omega),if_neg (by omega)]
     rw[h];exact .refl _)
   |(cases g:zh env i with
     |none =>
      have h:R=⟨k,i,m,a⟩:=by rw[c,if_pos (by omega),g]
      first
       |rw[h];exact .refl _
       |rw[g]at d;cases d
     |some u =>
      have h:R=u:=by rw[c,if_pos (by omega),g]
      first
       |rw[h,<-l u g];exact .refl _
       |(rw[g]at d;cases d))
theorem Q6 (a:env.length<=1099511627776) (x:Tm) (b:cR x<=100000000000):ah Tryz.prog w0 164 [eg ρ env,tm ρ x] (tm ρ (dU env x)):=Yu a _ x (ac_ _) b
theorem Yv (c:env.length<=1099511627776) (g:Gl) (e:bp g.a<=100000000000):ah Tryz.prog w0 56 [eg ρ env,gl ρ g] (gl ρ (im env g)):=by
 have b:=DJ (w0:=w0) (ρ:=ρ) (f:=dU env) (env:=env) g.a (by grind[q_]) λy h=>Q6 c y (by have:=iw y h;omega);rw[im];obtain⟨o,n,a⟩:=g;simp only at b ⊢;obtain⟨A,d⟩:∃A,A=a.map (dU env):=⟨_,rfl⟩;rw[<-d]at b ⊢;clear d e c;refine st anP g56 ((lO _)) ?_
 repeat' (first
  |(apply bK g56 b)
  |(refine fq ?_))
 exact .refl _
end
end
def DL (N:aS):Prop:=∀i,i < N.length->(tn N i).k=1->0<=(tn N i).i/\(tn N i).i<=1099511627776
theorem DL.push {N:aS}(h:DL N) {t:Tm}{l:List Nat}(c:t.k=1->0<=t.i/\t.i<=1099511627776):DL (N++[(t,l)]):=by
 intro i b a;by_cases e:i < N.length
 ·have d:∀i,i < N.length->(N++[(t,l)])[i]?=N[i]?:=λi b=>bb_ b;rw[(ff d e).1]at a ⊢;exact h i e a
 ·have:i=N.length:=by grind
  subst this;rw[lR.1]at a ⊢;exact c a
mutual
theorem Am:∀(N:aS) (t:Tm),DL N->BZ t->DL (bN N t).1
 |N,⟨k,i,n,a⟩,h,b=>by
  rw[BZ]at b;rw[bN];split
  ·grind
  ·exact (N_ N a h b.2).push b.1
theorem N_:∀(N:aS) (l:List Tm),DL N->vu l->DL (bR N l).1
 |N,[],h,_=>by rw[bR];exact h
 |N,x::l,h,b=>by
  rw[vu]at b;rw[bR];exact N_ _ l (Am N x h b.1) b.2
end
theorem sL.vb {l:List (Tm × Tm)}{s q:PS}{b:Bool}(h:sL l s b q):GI s->DL s.N->(∀e ∈ l,(eh e.1/\jy e.1/\BZ e.1)/\eh e.2/\jy e.2/\BZ e.2)->GI q/\DL q.N:=by
 induction h with
 |nil=>exactλc g _=>⟨c,g⟩
 |@no a b l s j m h =>
  intro c g t;obtain⟨⟨d,i,v1⟩,f,n,o⟩:=t (a,b) (by simp);simp only at d i v1 f n o;have p:=(c.add d i).1;have u:=(p.add f n).1;have v:=(rG s a c.V d).1;have w:=(rG (bU s a).1 b p.V f).1;refine⟨u.join h,?_⟩;show DL (bU (bU s a).1 b).1.N;rw[w];refine Am _ _ ?_ o;rw[v];exact Am _ _ g v1
 |@go a b l s q j m r h k x =>
  intro c g t;obtain⟨⟨d,i,v1⟩,f,n,o⟩:=t (a,b) (by simp);simp only at d i v1 f n o;have p:=(c.add d i).1;have u:=(p.add f n).1;have v:=(rG s a c.V d).1;have w:=(rG (bU s a).1 b p.V f).1;refine x (u.join h) ?_ λe y=>t e (by grind);show DL (bU (bU s a).1 b).1.N;rw[w];refine Am _ _ ?_ o;rw[v];exact Am _ _ g v1
theorem Oa:∀{l m:List Int},l.Nodup->(∀x ∈ l,x ∈ m)->l.length<=m.length
 |[],m,_,_=>ax_ _
 |x::l,m,a,b=>by
  rw[bu_]at a;have c:=Oa (l:=l) (m:=m.erase x) a.2 λy d=>(List.mem_erase_of_ne (λe=>a.1 (by grind))).2 (b y (by grind));have f:=dr_ (b x (by simp));have g:0 < m.length:=List.length_pos_of_mem (b x (by simp));rw[aw_];omega
noncomputable def gL (l r:List Tm):List Bd × Int:=if (l.any λx=>!(cd x))=true then ([],2) else if (r.any λx=>!(cd x))=true then ([],2) else if l.length=r.length then kX fL (l.zip r) else ([],9)
def xM (ρ:Hd) (p:List Bd × Int):AV:=.aL [eg ρ p.1,iv p.2]
theorem fV (p:List Bd × Int):Pure (xM ρ p):=.aL (vk (fA _) .v)
theorem pW {S:af}{c:Int}:aP S (.aL [.sl true [],iv c]) (xM ρ ([],c)):=by
 refine .aL rfl λi a e b d=>?_
 match i with
 |0 =>
  obtain rfl:=oJ_ b;obtain rfl:=oJ_ d;rw[eg,bX];exact aP.wk
 |1 =>
  obtain rfl:=oJ_ b;obtain rfl:=oJ_ d;exact .refl _
 |i+2=>simp at b
theorem Oc:∀(E:List (Tm × Tm)),(∀e ∈ E,cR e.1<=200/\cR e.2<=200)->xt E<=400*E.length
 |[],_=>by simp[xt]
 |e::E,h=>by
  have a:=h e (by simp);have b:=Oc E λx c=>h x (by grind);rw[xt,aw_];omega
theorem ah.fz {P:Program}{w0:World}{g:Nat}{l:List AV}{r a:AV}(h:ah P w0 g l r) (b:∀S,aP S r a) (c:Pure a):ah P w0 g l a:=by
 obtain⟨_,e,d⟩:=h;exact ah.zM d (b _) c
section
variable {w0:World}{ρ:Hd}
theorem Vs {l r:List Tm}(hl:l.length<=100000000) (hr:r.length<=100000000) (oo:∀x ∈ l,x.ok) (jN:∀x ∈ r,x.ok):ah Tryz.prog w0 79 [tl ρ l,tl ρ r] (xM ρ (gL l r)):=by
 have p:=NZ (w0:=w0) (ρ:=ρ) l (by omega) oo;have t:=NZ (w0:=w0) (ρ:=ρ) r (by omega) jN;unfold gL;by_cases C:(l.any λx=>!(cd x))=true
 ·rw[if_pos C];rw[C]at p;exact ah.fz (uh (gK 2) (Yb p)) (λS=>pW) (fV _)
 rw[if_neg C];rw[cJ_]at C;rw[C]at p;by_cases D:(r.any λx=>!(cd x))=true
 ·rw[if_pos D];rw[D]at t;exact ah.fz (uh (gK 2) (Yc p t)) (λS=>pW) (fV _)
 rw[if_neg D];rw[cJ_]at D;rw[D]at t;by_cases w:l.length=r.length;rotate_left
 ·rw[if_neg w];exact ah.fz (uh (gK 9) (Yd p t w)) (λS=>pW) (fV _)
 rw[if_pos w];have q:∀x ∈ l,eh x/\jy x/\sP x/\BZ x/\cR x<=200:=λx f=>rH (by grind) (oo x f);have s:∀x ∈ r,eh x/\jy x/\sP x/\BZ x/\cR x<=200:=λx f=>rH (by grind) (jN x f);have g:∀e ∈ l.zip r,e.1 ∈ l/\e.2 ∈ r:=λe d=>⟨(bR_ d).1,(bR_ d).2⟩;have K:xt (l.zip r)<=100000000000:=by
  have:=Oc (l.zip r) λe d=>⟨(q _ (g e d).1).2.2.2.2,(s _ (g e d).2).2.2.2.2⟩;rw[cm_]at this;omega
 obtain⟨b,n,O,hf,ht⟩:=abR (l.zip r) (λe d=>⟨⟨(q _ (g e d).1).1,(q _ (g e d).1).2.1⟩,(s _ (g e d).2).1,(s _ (g e d).2).2.1⟩) K;have Q:∀x ∈ l,eh x/\jy x:=λx f=>⟨(q x f).1,(q x f).2.1⟩;have T:∀x ∈ r,eh x/\jy x:=λx f=>⟨(s x f).1,(s x f).2.1⟩;have E:(b=true->aG Tryz.prog w0 138 [.pt 0 6 0 0] (aq (gS ρ n []) 7) (.aL [.sl true [],iv 13]) (aq [] 7))->kX fL (l.zip r)=([],13)->ah Tryz.prog w0 79 [tl ρ l,tl ρ r] (xM ρ (kX fL (l.zip r))):=λz A=>by
  rw[A];exact ah.fz (uh (gK 13) (SW (by omega) p t Q T w K O (.sl λr hr=>by grind) (λ_=>⟨⟨rfl,rfl⟩,rfl⟩) z)) (λS=>pW) (fV _)
 cases b with
 |false=>exact E (λh=>by grind) (hf rfl)
 |true =>
  obtain⟨B,lu,U,V,up,kn,hm,F,G⟩:=ht rfl;obtain⟨W,H⟩:=O.vb .nil (λi hi=>by grind) λe d=>⟨⟨(q _ (g e d).1).1,(q _ (g e d).1).2.1,(q _ (g e d).1).2.2.2.1⟩,(s _ (g e d).2).1,(s _ (g e d).2).2.1,(s _ (g e d).2).2.2.2.1⟩;have Yk:∀x ∈ n.vs.map (·.1),∃i,i < n.N.length/\(tn n.N i).k=1/\(tn n.N i).i=x:=λx f=>by
   obtain⟨k,X⟩:=uJ.1 f;rw[B.vs]at X;cases hv:mM n.N x with
   |none=>rw[hv]at X;cases X
   |some j=>exact⟨j,CD hv⟩
  have I:∀x ∈ n.vs.map (·.1),0<=x/\x<=1099511627776:=λx f=>by
   obtain⟨i,z,A,h3⟩:=Yk x f;have:=H i z A;rw[h3]at this;exact this
  have Ql:n.vs.length<=n.N.length:=by
   have:=Oa (l:=n.vs.map (·.1)) (m:=n.N.map λx=>x.1.i) B.nd λx f=>by grind[tn]
   rwa [aU_,aU_]at this
  obtain⟨N,u,⟨J,sh,ls⟩⟩:=n;simp only at B lu U hm F G W H I Ql;have hu:J.length=N.length:=B.up
  have Y:∀{R:AV},Pure R->(V=false->R=.aL [.sl true [],iv 13])->(V=true->∃L M P,tv L/\(∀v,v ∈ L ↔ v ∈ u.map (·.1))/\L.length<=100000000000/\xq N sh ls u kn M L up []=some P/\R=Yq ρ P) ->
    aG Tryz.prog w0 138 [.pt 0 6 0 0] (aq (gS ρ ⟨N,u,⟨J,sh,ls⟩⟩ []) 7) R (aq [] 7):=λhp z A=>by
   rw[<-jq (nl:=N.length) (ul:=N.length) rfl hu];exact Yr (zW.of W.G W.A) rfl (by grind) (by grind) hu (by grind) B.nd I hm hp z A
  cases V with
  |false=>exact E (λ_=>Y (gK 13) (λ_=>rfl) λh=>by grind) (F rfl)
  |true =>
   have hs:=dA_ (u.map (·.1)) (λx y=>decide (x<=y));obtain⟨L,hL⟩:∃L,L=(u.map (·.1)).mergeSort (λx y=>decide (x<=y)):=⟨_,rfl⟩;have Z:tv L:=by
    rw[hL];refine vD ?_ (hs.nodup_iff.2 B.nd);have:=dB_ (le:=λx y:Int=>decide (x<=y)) (λa b c z A=>by grind) (λa b=>by grind) (u.map (·.1));exact this.imp λh=>by grind
   have iI:∀v,v ∈ L ↔ v ∈ u.map (·.1):=λv=>by grind
   have uO:L.length<=100000000000:=by rw[hL,dC_,aU_];omega
   obtain⟨M,P,ho,d⟩:=G rfl L Z iI;rw[d];cases P with
   |none =>
    exact ah.fz (uh (gK 6) (SW (by omega) p t Q T w K O (.sl λr hr=>by grind) (λh=>by grind) λ_=>Y (gK 6) (λh=>by grind) λ_=>⟨L,M,none,Z,iI,uO,ho,rfl⟩)) (λS=>pW) (fV _)
   |some o =>
    exact uh (fV (o,0)) (SW (by omega) p t Q T w K O (fA o) (λh=>by grind) λ_=>Y (fV (o,0)) (λh=>by grind) λ_=>⟨L,M,some o,Z,iI,uO,ho,rfl⟩)
theorem Yw {a b:Tm}(d:a.ok) (e:b.ok):ah Tryz.prog w0 204 [tm ρ a,tm ρ b] (xM ρ (gL [a] [b])):=by
 have h:=Vs (w0:=w0) (ρ:=ρ) (l:=[a]) (r:=[b]) (by simp) (by simp) (λx c=>by grind) (λx c=>by grind);exact aco (fV _) h
theorem Od {a b:Tm}(c:a.ok) (d:b.ok):ah Tryz.prog w0 145 [tm ρ a,tm ρ b] (.v (.bool (decide ((gL [a] [b]).2=0\/(gL [a] [b]).2=6)))):=Pt (Yw c d)
end
section
attribute [local irreducible] ah aG ae ad
def Yx:FQ 76 Tryz.f76:=aF Tryz.func76 Tryz.call76
def Kh:List Nat:=[0,2,4]
def ajK:FQ 264 Tryz.f264:=aF Tryz.func264 Tryz.call264
def af6:List Nat:=[3,0,2,1]
def ajL:FQ 239 Tryz.f239:=aF Tryz.func239 Tryz.call239
def S0:List Nat:=[4,0,6,5,1,3,11]
def ajM:FQ 202 Tryz.f202:=aF Tryz.func202 Tryz.call202
def S3:List Nat:=[3,4,8,0,1,9,6,18,5,20]
def aaI:FQ 139 Tryz.f139:=aF Tryz.func139 Tryz.call139
def jD:List Nat:=[5,11,6,4,1,10,12,0]
def anQ:FQ 83 Tryz.f83:=aF Tryz.func83 Tryz.call83
def g83:List Nat:=[3,4,1,0]
theorem Ee {B sz:Nat}{ex:Bool}(l:List Tm):h_ B (.arr sz (ρ.h (List.map (je ρ)) l) 0 ex):=jS λx _ a b=>wP x a b
theorem Oe (l:List Tm):∀row ∈ ρ.h (List.map (je ρ)) l,∀a ∈ row,Pure a:=by
 rw[ρ.eq];intro row b a c;obtain⟨x,_,rfl⟩:=av_.1 b;exact wP x a c
section
variable {w0:World}{ρ:Hd}
theorem S4 (A:Option Addr) (c:Nat):ah Tryz.prog w0 76 [.v (.slice A 0 c)] (.sl true []):=by
 cases A with
 |none =>
  refine st Yx Kh ((.sl λr h=>by grind)) ?_;refine ad.op rfl (ae.nil (b:=true) rfl rfl) ?_;refine gq Kh ?_;refine fq ?_;exact .refl _
 |some A =>
  refine st Yx Kh ((.sl λr h=>by grind)) ?_;refine ad.op rfl (ae.nil (b:=false) rfl rfl) ?_;refine gq Kh ?_;refine ad.op rfl (ae.HL rfl rfl) ?_;refine gq Kh ?_;refine fq ?_;exact .refl _
theorem Of:ah Tryz.prog w0 76 [tl ρ []] (tl ρ []):=by
 have h:ah Tryz.prog w0 76 [tl ρ []] (.sl true []):=by
  rw[tl,bX];exact ah.emp S4
 exact ah.fz h (λS=>ack) (cG _)
theorem Og (x:Tm) (l:List Tm) (b:(x::l).length<=100000000000):aG Tryz.prog w0 76 [tl ρ (x::l)] (aq [] 0) (.gr 0 4 (x::l).length) (aq [(0,.arr 4 (ρ.h (List.map (je ρ)) (x::l)) 0 false)] 1):=by
 obtain⟨R,a⟩:∃R,R=x::l:=⟨_,rfl⟩;have c:Df (aR ρ (je ρ) false R)=some false:=by rw[a,bX];rfl
 rw[<-a]at b ⊢;rw[<-NU];refine sc 0 1 Yx ?_;refine gq Kh ?_;refine og Kh (ae.nil c rfl) ?_;refine ad.qF (f:=je ρ) (ys:=R) rfl rfl rfl (λ_=>rfl) (by omega) λd len e hlen=>?_;have hlen:len=R.length:=by grind
 subst e;rw[<-hlen];refine gq Kh ?_;refine fq ?_;exact⟨[(0,0)],.jT rfl rfl,⟨.inl ⟨_,rfl,.same (Ee _)⟩,trivial⟩,rfl⟩
theorem acr (x:Bd) (v:Int):ah Tryz.prog w0 264 [bd ρ x,.ip [iv v]] (.v (.bool (x.v == v))):=by
 obtain⟨i,k,j,n,a⟩:=x;refine st ajK af6 .v ?_
 repeat' (first
  |refine cg af6 (λb=>?_) λb=>?_
  |(refine fq ?_))
 all_goals (refine bY ?_;simp_all)
theorem ajN (x:Bd) (v:Int):JH Tryz.prog w0 (.fn (.func 264) [] [.ip [iv v]]) [bd ρ x] (x.v == v):=⟨_,_,rfl,⟨zw x,.ip λb a=>by obtain rfl:=ae_.1 a;exact .v,trivial⟩,acr x v⟩
theorem acs (b:List Bd) (v:Int) (m:b.length<=1099511627776):ah Tryz.prog w0 239 [eg ρ b,iv v] (.aL [tm ρ (g_ b v).1,.v (.bool (g_ b v).2)]):=by
 have f:Pure (.fn (.func 264) [] [.ip [iv v]]):=.fn (λa c=>by grind) λa c=>by obtain rfl:=ae_.1 c;exact .ip λb e=>by obtain rfl:=ae_.1 e;exact .v
 have g:=aep (w0:=w0) (ρ:=ρ) (λx=>x.v == v) b _ [] _ m f (λx _=>ajN x v);have h:=Mn (λx:Bd=>x.v == v) b 0;have n:=Qe (λx:Bd=>x.v == v) b 0;obtain⟨j,i⟩:∃j,j=ew (λx:Bd=>x.v == v) b 0:=⟨_,rfl⟩;rw[<-i]at g h n;obtain⟨R,d⟩:∃R,R=g_ b v:=⟨_,rfl⟩;rw[<-d];unfold g_ at d;clear i;refine st ajL S0 ((.aL λa c=>by simp only[ad_,as_,or_false]at c;rcases c with rfl|rfl;exact bQ _;exact .v)) ?_
 repeat' (first
  |refine ig S0 (ae.Eg rfl g ⟨fA _,f,trivial⟩ .v ⟨.refl _,aP.fns trivial ⟨aP.box (cs:=[iv v]) (cs':=[iv v]) rfl ⟨.refl _,trivial⟩,trivial⟩,trivial⟩) λ_ _=>?_
  |refine cg S0 (λe=>?_) λe=>?_
  |(refine fq ?_))
 ·grind[Qg,Mp]
 ·obtain⟨q,⟨t,u,w,y,z⟩,A,p,r⟩:=h (by omega);rw[r]at d;subst d;refine og S0 (ae.ind rfl rfl (aB (l:=b) (k:=q) (by omega) p) (aA λ_=>rfl)) ?_;refine fq ?_;exact aP.of_eq rfl
theorem DO {f:Tm->Tm}(a:List Tm) (g:a.length<=100000000000) (q:∀x ∈ a,ah Tryz.prog w0 202 [eg ρ env,tm ρ x] (tm ρ (f x))) :
  ah Tryz.prog w0 139 [eg ρ env,tl ρ a] (tl ρ (a.map f)):=by
 cases a with
 |nil =>
  have c:=Of (w0:=w0) (ρ:=ρ);refine st aaI jD ((cG _)) ?_
  repeat' (first
   |(refine ad.op rfl (pl c) ?_;refine gq jD ?_)
   |refine bq (λb=>?_) (λb=>?_)<;>(try simp only[bL]at b)<;>(first|exact absurd b (by decide)|refine gq jD ?_)
   |refine bS λm d=>?_;(try rw[au]at d);refine gq jD ?_
   |refine cw λ_ _=>?_;refine gq jD ?_
   |refine ll λ_ _=>?_;refine gq jD ?_
   |refine ad.str rfl (ae.cat rfl rfl (by assumption)) λ_ _=>?_;refine gq jD ?_
   |refine ad.ao ?_;refine gq jD ?_
   |refine ad.bh ?_;refine gq jD ?_
   |(refine fq ?_))
  refine ad.aK (σ:=Int) 0 0 [] (λp=>[(5,tl ρ []),(10,.v (.int .i64 m)),(11,.v (.int .i64 p))]) [] (λ_=>[]) (λp=>p=0) (λp=>0) 0 rfl rfl cq ?_;rintro i rfl;refine gq jD ?_
  repeat' (first
   |refine bq (λb=>?_) (λb=>?_)<;>(try simp only[bL]at b)<;>(first|exact absurd b (by decide)|refine gq jD ?_)
   |refine bS λm d=>?_;(try rw[au]at d);refine gq jD ?_
   |refine cw λ_ _=>?_;refine gq jD ?_
   |refine ll λ_ _=>?_;refine gq jD ?_
   |refine ad.str rfl (ae.cat rfl rfl (by assumption)) λ_ _=>?_;refine gq jD ?_
   |refine ad.ao ?_;refine gq jD ?_
   |refine ad.bh ?_;refine gq jD ?_
   |(refine fq ?_))
  all_goals first
   |exfalso;simp only[aN_]at d;omega
   |exact .refl _
 |cons x0 s =>
 have c:=Og (w0:=w0) (ρ:=ρ) x0 s g;obtain⟨a,t⟩:∃a,a=x0::s:=⟨_,rfl⟩;rw[<-t]at c g q ⊢;clear t;obtain⟨R,B⟩:∃R,R=a.map f:=⟨_,rfl⟩;rw[<-B];obtain⟨C,D⟩:∃n,n=a.length:=⟨_,rfl⟩;rw[<-D]at c;refine st aaI jD ((cG _)) ?_;refine ad.op rfl (ae.jK [] [(0,some (.arr 4 (ρ.h (List.map (je ρ)) a) 0 false))] c rfl ⟨.pure (cG _),trivial⟩ (.gr rfl) trivial ⟨⟨0,_,rfl,rfl,.pure (Oe _)⟩,trivial⟩) ?_;refine gq jD ?_;refine ad.int rfl (ae.iz rfl) λm d=>?_;refine gq jD ?_
 refine ad.aK (σ:=Int × List Tm) 1 1 [] (λp=>[(0,eg ρ env),(5,.gr 0 4 C),(10,.v (.int .i64 m)),(11,.v (.int .i64 p.1))]) [] (λp=>[(0,.arr 4 (ρ.h (List.map (je ρ)) p.2) 0 false)])
  (λp=>∃k:Nat,p.1=k/\k<=a.length/\p.2.length=a.length/\p.2=(a.take k).map f++a.drop k) (λp=>a.length - p.1.toNat) (0,a) ⟨0,rfl,by simp,rfl,by simp⟩ rfl cz ?_
 rintro⟨i,e⟩ ⟨k,j,K,E,u⟩;simp only at j E u;refine gq jD ?_;refine bq (λv=>?_) (λv=>?_)<;>(try simp only[bL]at v)
 rotate_left
 ·refine gq jD ?_;refine ad.ao ?_;refine gq jD ?_;refine ad.fin (by conv=>lhs;cbv) ?_;have h:R=e:=by grind
  rw[h,<-NU];exact aP.grow rfl (by omega)
 obtain⟨x,w,F⟩:=aD (l:=a) (k:=k) (by omega);have G:e[k]?=some x:=by grind
 have L:k < a.length:=by omega
 have z:=q x (bM w);obtain⟨X,A⟩:∃X,X=f x:=⟨_,rfl⟩;rw[<-A]at z;obtain⟨M,N,O,P⟩:=x;have o:=bW (ρ:=ρ) (f:=je ρ) G;rw[je]at o;simp only at o;refine gq jD ?_;refine ad.op rfl (ae.dg rfl rfl j (by omega)) ?_;refine ad.op rfl (ae.fk rfl rfl o rfl) ?_;refine gq jD ?_;refine ad.op rfl (pl z) ?_;refine gq jD ?_;refine ad.op rfl (ae.dg rfl rfl j (by omega)) ?_;refine ad.Dj (f:=je ρ) (y:=X) rfl rfl rfl rfl rfl (λ_=>rfl) rfl (by omega) (λH I=>?_);refine gq jD ?_;refine cw (λJ Q=>?_);refine gq jD ?_;refine ad.az (σ:=Int × List Tm) (J,H) [] ⟨k+1,by grind,by omega,by grind,?_⟩ ?_ cz
 ·simp only;have g:((a.take k).map f).length=k:=by grind
  rw[I,u,bC_ _ _ (by omega),g,bk_,F,bW_,bF_,w,aM_,A];simp
 ·grind
theorem Vt (q:env.length<=1099511627776) (n:Nat):∀x:Tm,cR x<=n->n<=100000000000->ah Tryz.prog w0 202 [eg ρ env,tm ρ x] (tm ρ (dU env x)):=by
 induction n with
 |zero=>intro x h;have:=iO x;omega
 |succ n o =>
  intro x p r;rw[iO]at p;have s:=q_ x.a;have j:=DO (w0:=w0) (ρ:=ρ) (f:=dU env) (env:=env) x.a (by omega) λy t=>o y (by have:=iw y t;omega) (by omega);have e:=acs (w0:=w0) (ρ:=ρ) env x.i q;obtain⟨d,l⟩:=Kg env x.i;obtain⟨R,c⟩:∃R,R=dU env x:=⟨_,rfl⟩;rw[<-c];obtain⟨k,i,m,a⟩:=x;rw[dU,mG]at c;simp only at j e d l c;clear o p r s;obtain⟨A,v⟩:∃A,A=a.map (dU env):=⟨_,rfl⟩;rw[<-v]at j c;obtain⟨⟨⟨B,C,un,D⟩,b⟩,w⟩:∃L,L=g_ env i:=⟨_,rfl⟩;rw[<-w]at e d l;simp only at e d l;refine st ajM S3 ((bQ _)) ?_
  repeat' (first
   |(apply bK S3 j)
   |(refine ad.op rfl (pl e) ?_;cases b<;>refine gq S3 ?_)
   |refine cg S3 (λz=>?_) λz=>?_
   |(refine fq ?_))
  all_goals clear j e
  all_goals first
   |(have h:R=⟨k,i,m,A⟩:=by rw[c,if_neg (by omega),if_pos (by omega)]
     rw[h];exact .refl _)
   |(have h:R=⟨k,i,m,a⟩:=by rw[c,if_neg (by omega),if_neg (by omega)]
     rw[h];exact .refl _)
   |(cases g:zh env i with
     |none =>
      have h:R=⟨k,i,m,a⟩:=by rw[c,if_pos (by omega),g]
      first
       |rw[h];exact .refl _
       |rw[g]at d;cases d
     |some u =>
      have h:R=u:=by rw[c,if_pos (by omega),g]
      first
       |rw[h,<-l u g];exact .refl _
       |(rw[g]at d;cases d))
theorem Oh (a:env.length<=1099511627776) (x:Tm) (b:cR x<=100000000000):ah Tryz.prog w0 202 [eg ρ env,tm ρ x] (tm ρ (dU env x)):=Vt a _ x (ac_ _) b
theorem Vu (c:env.length<=1099511627776) (g:Gl) (e:bp g.a<=100000000000):ah Tryz.prog w0 83 [eg ρ env,gl ρ g] (gl ρ (im env g)):=by
 have b:=DO (w0:=w0) (ρ:=ρ) (f:=dU env) (env:=env) g.a (by grind[q_]) λy h=>Oh c y (by have:=iw y h;omega);rw[im];obtain⟨o,n,a⟩:=g;simp only at b ⊢;obtain⟨A,d⟩:∃A,A=a.map (dU env):=⟨_,rfl⟩;rw[<-d]at b ⊢;clear d e c;refine st anQ g83 ((lO _)) ?_
 repeat' (first
  |(apply bK g83 b)
  |(refine fq ?_))
 exact .refl _
end
end
section
attribute [local irreducible] ah aG ae ad
def ajO:FQ 159 Tryz.f159:=aF Tryz.func159 Tryz.call159
def eH:List Nat:=[0,12,13,11,14,7,8,9,10,6,1,2,31,44,55,68,110,115,130]
theorem Yy {f:Nat->Nat}{cl:List Nat}{i z:Nat}(h:cl[i]?=some z):(((cl.take i).map f++cl.drop i).set i (f z)=(cl.take (i+1)).map f++cl.drop (i+1))/\(f z=z->(cl.take i).map f++cl.drop i=(cl.take (i+1)).map f++cl.drop (i+1))/\((cl.take i).map f++cl.drop i)[i]?=some z:=by
 obtain⟨a,b⟩:=ar_.1 h;have c:cl.drop i=z::cl.drop (i+1):=by rw[bq_ a,b]
 have d:cl.take (i+1)=cl.take i++[z]:=Ep h;have g:((cl.take i).map f).length=i:=by grind
 refine⟨?_,λe=>?_,?_⟩
 ·rw[c,bC_ _ _ (by omega),g,bk_,bW_,d,aM_];simp
 ·grind
 ·grind
theorem Yz {a b:List Nat}{j x y:Nat}(c:a[j]?=some x) (d:b[j]?=some y):(a.zip b).drop j=(x,y)::(a.zip b).drop (j+1):=by grind[DC]
theorem HU {f:List Nat->Nat->Nat->Option (Bool × List Nat)}(d:∀{cl a b r c},f cl a b=some (r,c)->c.length=cl.length):∀{l:List (Nat × Nat)}{cl c:List Nat}{r:Bool},pf f l cl=some (r,c)->c.length=cl.length
 |[],cl,c,r,h=>by grind[pf]
 |p::l,cl,c,r,h=>by
  rw[pf]at h;split at h
  ·grind
  ·grind
  ·rename_i g e;rw[HU d h,d e]
theorem wq {N:aS}:∀{m:Nat}{cl c:List Nat}{a b:Nat}{r:Bool},jR N m cl a b=some (r,c)->c.length=cl.length
 |0,_,_,_,_,_,h=>by cases h
 |m+1,cl,c,a,b,r,h=>by
  have d:∀x y,(Bb cl x y).length=cl.length:=λx y=>by grind[Bb]
  rw[jR]at h;split at h
  ·split at h
   ·grind
   ·split at h
    ·split at h
     ·rw[HU wq h,d]
     ·grind
    ·grind
  ·grind
section
variable {w0:World}{ρ:Hd}
theorem af7 {N:aS}{nl:Nat}(hN:zW N) (dB:nl=N.length) (r9:nl<=100000000000):∀(m:Nat) {cl o:List Nat}{a b:Nat}{r:Bool},cl.length=nl->jR N m cl a b=some (r,o) ->
  aG Tryz.prog w0 159 [.pt 0 2 0 0,iv a,iv b] (aq (rX ρ nl nl N cl) 3) (.v (.bool r)) (aq (rX ρ nl nl N o) 3):=by
 intro m
 induction m with
 |zero=>intro cl o a b r _ h;cases h
 |succ m ih =>
  intro cl o a b r S h;have Ft:=wq h;rw[jR]at h;split at h;rotate_left
  ·grind
  rename_i rF;obtain⟨n,Dz⟩:∃z,cl[a]?=some z:=⟨_,ai_ (by omega)⟩;obtain⟨A,E⟩:∃z,cl[b]?=some z:=⟨_,ai_ (by omega)⟩;rw[kV Dz,kV E]at h;have ra:=bW (ρ:=ρ) (f:=c8) Dz;have rb:=bW (ρ:=ρ) (f:=c8) E;have U:=Al (w0:=w0) (ρ:=ρ) (N:=N) (cl:=cl) n dB rfl S (by omega);have V:=Al (w0:=w0) (ρ:=ρ) (N:=N) (cl:=cl) A dB rfl S (by omega);obtain⟨ai,nB⟩:∃ai:Int,ai=a:=⟨_,rfl⟩;obtain⟨bi,QK⟩:∃bi:Int,bi=b:=⟨_,rfl⟩;obtain⟨W,X⟩:∃W:Int,W=n:=⟨_,rfl⟩;obtain⟨Y,Dp⟩:∃Y:Int,Y=A:=⟨_,rfl⟩;have dD:a < nl:=by omega
  have aZ:b < nl:=by omega
  rw[c8,<-X]at ra;rw[c8,<-Dp]at rb;rw[<-X]at U;rw[<-Dp]at V;rw[<-nB,<-QK];refine sc 3 3 ajO ?_;unfold rX;refine gq eH ?_;refine ad.op rfl (ae.dg rfl rfl nB dD) ?_;refine og eH (ae.fk rfl rfl ra rfl) ?_;refine ad.op rfl (ae.dg rfl rfl QK aZ) ?_;refine og eH (ae.fk rfl rfl rb rfl) ?_;refine cn (λbf=>?_) λbf=>?_
  ·rw[if_pos (by omega)]at h;simp only[oI_,pI_]at h;obtain⟨rfl,rfl⟩:=h;refine gq eH ?_;refine fq ?_;exact⟨[],.aC .v,rC,rfl⟩
  rw[if_neg (by omega)]at h;obtain⟨si,B⟩:∃s,s=tG (cM N cl n):=⟨_,rfl⟩;obtain⟨ti,C⟩:∃s,s=tG (cM N cl A):=⟨_,rfl⟩;rw[<-B]at U;rw[<-C]at V;obtain⟨f,hf⟩:∃f:Nat->Nat,f=λz=>if z=A then n else z:=⟨_,rfl⟩
  obtain⟨L,Z⟩:∃L,L=Bb cl n A:=⟨_,rfl⟩;have F:L=cl.map f:=by rw[Z,hf];rfl
  have arJ:L.length=nl:=by grind
  rw[<-Z]at h;refine gq eH ?_;refine og eH (ae.iA U rfl (aq_ rfl) (gz (by decide)) (Ak) (gz (by decide)) (qy (by decide) .v) .v) ?_;refine og eH (ae.iA V rfl (aq_ rfl) (gz (by decide)) (Ak) (gz (by decide)) (qy (by decide) .v) .v) ?_
  refine ad.aK (σ:=Int × List Nat) 3 3 [] (λp=>[(0,.pt 0 2 0 0),(7,iv W),(8,iv Y),(9,iv si),(10,iv ti),(11,iv p.1)]) [] (λp=>[(0,rO nl nl),(1,ij ρ N),(2,cI ρ p.2)])
   (λp=>∃i:Nat,p.1=i/\i<=nl/\p.2.length=nl/\p.2=(cl.take i).map f++cl.drop i) (λp=>nl - p.1.toNat) (0,cl) ⟨0,rfl,by simp,S,by simp⟩ rfl cz ?_
  rintro⟨ii,c1⟩ ⟨i,l5,vB,YA,O⟩;simp only at l5 YA O;refine gq eH ?_;refine ig eH (ae.iz rfl) λe he=>?_;refine cn (λG=>?_) λG=>?_
  ·have P:i < nl:=by omega
   obtain⟨z,hz⟩:∃z,cl[i]?=some z:=⟨_,ai_ (by omega)⟩;obtain⟨q1,q2,q3⟩:=Yy (f:=f) hz;rw[<-O]at q1 q2 q3;have rz:=bW (ρ:=ρ) (f:=c8) q3;obtain⟨zi,uZ⟩:∃zi:Int,zi=z:=⟨_,rfl⟩;rw[c8,<-uZ]at rz;refine gq eH ?_;refine ad.op rfl (ae.dg rfl rfl l5 P) ?_;refine og eH (ae.fk rfl rfl rz rfl) ?_;refine cn (λH=>?_) λH=>?_
   ·have zt:f z=n:=by grind
    rw[zt]at q1;refine gq eH ?_;refine ad.op rfl (ae.dg rfl rfl l5 P) ?_;refine ad.Dj (f:=c8) (y:=n) rfl rfl rfl (by rw[c8,<-X];rfl) rfl (λ_=>rfl) rfl (by omega) (λu hu=>?_);refine gq eH ?_;refine ag eH λI de=>?_;refine ad.az (σ:=Int × List Nat) (I,u) [] ⟨i+1,by grind,by omega,by grind,by grind⟩ ?_ cz;simp only;omega
   ·have zt:f z=z:=by grind
    refine gq eH ?_;refine ag eH λI de=>?_;refine ad.az (σ:=Int × List Nat) (I,c1) [] ⟨i+1,by grind,by omega,YA,by grind⟩ ?_ cz;simp only;omega
  have P:i=cl.length:=by omega
  rw[P,aQ_ (ac_ _),aA_ (ac_ _),aB_,<-F]at O;subst O;clear Z F;refine gq eH ?_;refine ad.ao ?_;refine gq eH ?_;cases P2:cM N cl n with
  |none =>
   rw[P2]at h B;simp only[oI_,pI_]at h;obtain⟨rfl,rfl⟩:=h;rw[tG]at B;refine cn (λG=>?_) λG=>?_;rotate_left
   ·grind
   refine gq eH ?_;refine fq ?_;exact⟨[],.aC .v,rC,rfl⟩
  |some s =>
   rw[P2]at h B;rw[tG]at B;refine cn (λG=>?_) λG=>?_
   ·grind
   refine gq eH ?_;cases q:cM N cl A with
   |none =>
    rw[q]at h C;simp only[oI_,pI_]at h;obtain⟨rfl,rfl⟩:=h;rw[tG]at C;refine cn (λH=>?_) λH=>?_;rotate_left
    ·grind
    refine gq eH ?_;refine fq ?_;exact⟨[],.aC .v,rC,rfl⟩
   |some t =>
    rw[q]at h C;rw[tG]at C;simp only at h;refine cn (λH=>?_) λH=>?_
    ·grind
    have dR:s < nl:=by grind[cM]
    have Jx:t < nl:=by grind[cM]
    obtain⟨⟨J,d⟩,Q⟩:∃x,N[s]?=some x:=⟨_,ai_ (by omega)⟩;obtain⟨⟨K,g⟩,R⟩:∃x,N[t]?=some x:=⟨_,ai_ (by omega)⟩;have g1:=hN _ _ _ Q;have g2:=hN _ _ _ R;have v:=bW (ρ:=ρ) (f:=pw ρ) Q;have r2:=bW (ρ:=ρ) (f:=pw ρ) R;rw[MG,(tc Q).1,(tc Q).2,(tc R).1,(tc R).2]at h;have p1:=F9 (ρ:=ρ) (J,d);have p2:=F9 (ρ:=ρ) (K,g);obtain⟨k1,i1,n1,a1⟩:=J;obtain⟨k2,i2,n2,a2⟩:=K;rw[pw]at v r2 p1 p2;simp only at v r2 p1 p2 h g1 g2;clear P2 q;refine gq eH ?_;refine ad.cP rfl (λT=>ae.dg rfl rfl B dR) ?_;refine ad.eW rfl (a_.fk rfl rfl v rfl) ?_;refine gq eH ?_;refine ad.cP rfl (λT=>ae.dg rfl rfl C Jx) ?_;refine ad.eW rfl (a_.fk rfl rfl r2 rfl) ?_;refine gq eH ?_;refine cn (λhk=>?_) λhk=>?_
    ·have e0:(k1 == k2)=false:=by grind
     rw[e0]at h;simp only[bv_,bn_,if_false,oI_,pI_]at h;obtain⟨rfl,rfl⟩:=h;refine gq eH ?_;refine fq ?_;exact⟨[],.aC .v,rC,rfl⟩
    have e0:(k1 == k2)=true:=by grind
    rw[e0]at h;refine gq eH ?_;refine cn (λfe=>?_) λfe=>?_
    ·have e0:(i1 == i2)=false:=by grind
     rw[e0]at h;simp only[bJ_,bv_,bn_,if_false,oI_,pI_]at h;obtain⟨rfl,rfl⟩:=h;refine gq eH ?_;refine fq ?_;exact⟨[],.aC .v,rC,rfl⟩
    have e1:(i1 == i2)=true:=by grind
    rw[e1]at h;refine gq eH ?_;refine cn (λvM=>?_) λvM=>?_
    ·rw[decide_eq_false vM]at h;simp only[bJ_,bv_,bn_,if_false,oI_,pI_]at h;obtain⟨rfl,rfl⟩:=h;refine gq eH ?_;refine fq ?_;exact⟨[],.aC .v,rC,rfl⟩
    rw[decide_eq_true vM]at h;refine gq eH ?_;refine lg eH λq1 tA=>?_;refine lg eH λq2 uR=>?_;refine cn (λxA=>?_) λxA=>?_
    ·rw[decide_eq_false (show ¬ d.length=g.length by omega)]at h;simp only[bJ_,bn_,if_false,oI_,pI_]at h;obtain⟨rfl,rfl⟩:=h;refine gq eH ?_;refine fq ?_;exact⟨[],.aC .v,rC,rfl⟩
    have hll:d.length=g.length:=by omega
    rw[decide_eq_true hll]at h;simp only[cD_,if_true]at h;have qe:Pure (aR ρ c8 false d):=p1 _ (by simp);have cV:Pure (aR ρ c8 false g):=p2 _ (by simp);refine gq eH ?_
    refine ad.aK (σ:=Int × List Nat) 5 5 [] (λp=>[(0,.pt 0 2 0 0),(12,.pt 3 4 0 0),(13,.pt 4 4 0 0),(14,iv p.1)]) [] (λp=>[(0,rO nl nl),(1,ij ρ N),(2,cI ρ p.2),(3,.arr 4 [pw ρ (⟨k1,i1,n1,a1⟩,d)] 0 true),(4,.arr 4 [pw ρ (⟨k2,i2,n2,a2⟩,g)] 0 true)])
     (λp=>∃j:Nat,p.1=j/\j<=d.length/\p.2.length=nl/\pf (jR N m) ((d.zip g).drop j) p.2=some (r,o)) (λp=>d.length - p.1.toNat) (0,c1) ⟨0,rfl,by simp,YA,by grind⟩ rfl cz ?_
    rintro⟨jj,c3⟩ ⟨j,Q5,Jb,YB,k⟩;simp only at Q5 YB k;clear h;refine gq eH ?_;refine lg eH λq3 B1=>?_;refine cn (λmg=>?_) λmg=>?_
    ·obtain⟨x,hx⟩:∃x,d[j]?=some x:=⟨_,ai_ (by omega)⟩;obtain⟨y,hy⟩:∃y,g[j]?=some y:=⟨_,ai_ (by omega)⟩;rw[Yz hx hy,pf]at k;simp only at k;obtain⟨r1',D,w,oP⟩:∃v D,jR N m c3 x y=some (v,D)/\((v=false/\r=false/\o=D)\/(v=true/\pf (jR N m) ((d.zip g).drop (j+1)) D=some (r,o))):=by grind
     have c:=ih YB w;have anS:D.length=nl:=by rw[wq w,YB]
     clear k w;refine gq eH ?_;refine ad.cP rfl (λT=>ae.ind rfl rfl (aB (l:=d) Q5 hx) (aA λ_=>rfl)) ?_;refine gq eH ?_;refine ad.cP rfl (λT=>ae.ind rfl rfl (aB (l:=g) Q5 hy) (aA λ_=>rfl)) ?_;refine gq eH ?_;refine ad.eW rfl (a_.iA false c rfl (.inl (by decide)) (gz (by decide)) (xL) Q2 (gz (by decide)) (afY (by decide) .v .v) .v) ?_;rcases oP with ⟨rfl,rfl,rfl⟩|⟨rfl,k⟩
     ·refine gq eH ?_;refine ad.bh ?_;refine gq eH ?_;refine fq ?_;exact⟨[],.aC .v,rC,rfl⟩
     ·refine gq eH ?_;refine ag eH λI de=>?_;refine ad.az (σ:=Int × List Nat) (I,D) [] ⟨j+1,by grind,by omega,anS,k⟩ ?_ cz;simp only;omega
    ·have lK:j=d.length:=by omega
     rw[aA_ (by grind),pf]at k;simp only[oI_,pI_]at k;obtain⟨rfl,rfl⟩:=k;refine gq eH ?_;refine ad.ao ?_;refine gq eH ?_;refine fq ?_;exact⟨[],.aC .v,rC,rfl⟩
end
end
section
attribute [local irreducible] ah aG ae ad
def anT:FQ 39 Tryz.f39:=aF Tryz.func39 Tryz.call39
def g39:List Nat:=[1,2,0]
def anU:FQ 16 Tryz.f16:=aF Tryz.func16 Tryz.call16
def Vv:List Nat:=[1,3,2,0]
section
variable {w0:World}{ρ:Hd}
theorem acu (r:Rl) (h:r.aM.length+r.rem.length<=549755813888):ah Tryz.prog w0 39 [rl ρ r] (iv ((r.aM.length+r.rem.length:Nat):Int)):=by
 obtain⟨n,a,c,g,b,v⟩:=r;dsimp only at h ⊢;obtain⟨R,d⟩:∃R:Int,R=((a.length+c.length:Nat):Int):=⟨_,rfl⟩;rw[<-d];refine st anT g39 .v ?_
 repeat' (first
  |refine lg g39 λm e=>?_
  |refine ag g39 λ_ _=>?_
  |(refine fq ?_))
 all_goals (subst_vars;exact dP (by omega))
theorem Ga (r:Rl) (h:r.aM.length+r.rem.length<=549755813888):ah Tryz.prog w0 16 [rl ρ r] (cL ρ (r.aM++r.rem)):=by
 have a:=acu (w0:=w0) (ρ:=ρ) r h;have i:=fQ (ρ:=ρ) r;obtain⟨n,c,d,g,b,v⟩:=r;dsimp only at h a ⊢;obtain⟨R,j⟩:∃R,R=c++d:=⟨_,rfl⟩;rw[<-j];obtain⟨N,k⟩:∃N,N=c.length+d.length:=⟨_,rfl⟩;rw[<-k]at a;obtain⟨M,e⟩:∃M:Int,M=(N:Int):=⟨_,rfl⟩;rw[<-e]at a;refine st anU Vv ((dk _)) ?_
 repeat' (first
  |refine og Vv (ae.ez rfl a ⟨i,trivial⟩) ?_
  )
 refine ad.anb (m:=N) ρ (atR ρ) rfl rfl rfl e rfl (by omega) (by omega) λl t=>?_;refine gq Vv ?_;refine ad.afd (f:=atR ρ) (ys:=c) rfl rfl rfl (by grind) rfl (λ_=>rfl) (λ_=>rfl) (by grind) λu w x p=>?_;refine gq Vv ?_;refine ad.afd (f:=atR ρ) (ys:=d) rfl rfl rfl p rfl (λ_=>rfl) (λ_=>rfl) (by grind) λq y z s=>?_;refine gq Vv ?_;refine fq ?_;obtain rfl:q=R:=by grind
 exact aP.anc rfl s
end
end
end Go.Proofs.YtbpabjmnhggajaaGreat
