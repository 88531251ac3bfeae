import Derived.Test.YtbpabjmnhggajaaGreatOr36
namespace Go.Proofs.YtbpabjmnhggajaaGreat
set_option linter.all false
set_option maxRecDepth 100000
open Go.RowKit
variable {ex:Bool}{j:Int}{ik:IntKind}{rows:List (List AV)}{i m p sz:Nat}{hi lo mx:Option QO}{b x:QO}{T:Type}
theorem fY {a b c:Int}(h:a=0->b=c):bj a b=bj a c:=by grind[bj]
theorem U3 {a b:Int}(h:bj a b=0):a=0/\b=0:=by grind[bj]
theorem s6 (f:T->Int) (a b:List T):aQ f (a++b)=bj (aQ f a) (aQ f b):=by
 induction a with
 |nil=>rw[aK_,aQ,bD rfl]
 |cons x a c=>rw[aR_,aQ,aQ,c,cB]
theorem Pm {U:Type}(f:U->Int) (g:T->List U) (l:List T):aQ f (l.flatMap g)=aQ (λx=>aQ f (g x)) l:=by
 induction l with
 |nil=>rfl
 |cons x l a=>rw[bm_,s6,aQ,a]
theorem kp {T:Type}{f:T->Int}:∀{l:List T},aQ f l=0->∀x ∈ l,f x=0
 |[],_,x,a=>by grind
 |y::l,h,x,a=>by
  rw[aQ]at h;obtain⟨c,b⟩:=U3 h;rcases ad_.1 a with rfl|a
  ·grind
  ·exact kp b x a
theorem wg {b:Bool}{e:Int}(a:e ≠ 0) (h:cH b e=0):b=true:=by
 cases b with
 |true=>rfl
 |false=>exact absurd h a
theorem uS:∀(l s:List Int) (v:Int),v ∈ bH s l ↔ v ∈ l/\v ∉ s
 |[],s,v=>by simp[bH]
 |x::l,s,v=>by
  rw[bH];by_cases h:s.contains x=true
  ·rw[if_pos h,uS l s v];have a:=bE_.1 h;constructor
   ·grind
   ·grind
  ·rw[if_neg h];have a:x ∉ s:=λe=>h (bE_.2 e);rw[ad_,uS l (s++[x]) v,ad_,az_,ae_];constructor
   ·grind
   ·grind
theorem wh:∀(a t s:List Int),(∀x ∈ t,x ∈ s)->bH s (bH t a)=bH s a
 |[],t,s,h=>rfl
 |x::a,t,s,h=>by
  rw[bH];by_cases d:t.contains x=true
  ·have c:s.contains x=true:=bE_.2 (h x (bE_.1 d));rw[if_pos d,bH,if_pos c];exact wh a t s h
  ·rw[if_neg d];by_cases c:s.contains x=true
   ·rw[bH,if_pos c,bH,if_pos c];refine wh a (t++[x]) s λy b=>?_;rcases az_.1 b with b|b
    ·grind
    ·grind
   ·rw[bH,if_neg c,bH,if_neg c];refine congrArg _ (wh a (t++[x]) (s++[x]) λy b=>?_);rcases az_.1 b with b|b
    ·grind
    ·grind
theorem s7 {T:Type}(f:T->List Tm):∀(l:List T) (s rest:List Int),bH s ((l.flatMap λx=>varsOf (f x))++rest)=bH s (aY (l.flatMap f)++rest)
 |[],s,rest=>rfl
 |x::l,s,rest=>by
  rw[bm_,bm_,Bj,bc_,bc_,lL (varsOf (f x)),lL (aY (f x))];rw[show bH s (varsOf (f x))=bH s (aY (f x)) from wh _ [] s λy a=>by grind];rw[s7 f l]
def iota (n:Nat):List Int:=(List.range n).map λk:Nat=>(k:Int)
theorem Ni (n:Nat) (v:Int):v ∈ iota n ↔ 0<=v/\v < n:=by
 unfold iota;rw[av_];constructor
 ·grind
 ·rintro⟨a,b⟩;exact⟨v.toNat,aI_.2 (by omega),(by grind)⟩
theorem U4 (n:Nat):iota (n+1)=iota n++[(n:Int)]:=by
 unfold iota;rw[List.range_succ,aM_]
 rfl
theorem I0 (kk:Int->Int):∀(L:List Int) (n:Nat),(∀v ∈ L,0<=v)->xz L n kk=bj (Bl (bH (iota n) L) n) (kk ((n+(bH (iota n) L).length:Nat):Int))
 |[],n,_=>by rw[xz,bH,Bl,bD rfl];rfl
 |v::L,n,h=>by
  have f:=h v (by simp);have c:∀v ∈ L,0<=v:=λx g=>h x (by grind);rw[xz,bH];by_cases d:v < n
  ·have a:(iota n).contains v=true:=bE_.2 ((Ni n v).2 ⟨f,d⟩);rw[if_pos a,if_pos (by omega),if_neg (by omega)];exact I0 kk L n c
  ·have a:¬ (iota n).contains v=true:=λe=>d ((Ni n v).1 (bE_.1 e)).2;rw[if_neg a,Bl];by_cases b:v=n
   ·rw[if_pos (by omega),if_pos b,decide_eq_true b,show cH true 2=0 from rfl,bD rfl];have:=I0 kk L (n+1) c;rw[show ((n+1:Nat):Int)=(n:Int)+1 by omega]at this;rw[this,U4,b];rw[aw_,show n+1+(bH (iota n++[(n:Int)]) L).length=n+((bH (iota n++[(n:Int)]) L).length+1) by omega]
   ·grind[cH,cB,dx]
theorem U5 (x:Tm):kh x=true->∀v ∈ dO x,0<=v:=by
 refine Tm.ind (p:=λx=>kh x=true->∀v ∈ dO x,0<=v) ?_ x;intro k i n a c h v b;rw[kh]at h;rw[dO]at b;by_cases d:k=1
 ·grind
 ·rw[if_neg d]at b;by_cases e:k=2
  ·subst e;rw[if_neg (by decide),if_neg (by decide),if_pos rfl,al_]at h;rw[if_pos rfl]at b;have key:∀l:List Tm,(∀y ∈ l,kh y=true->∀v ∈ dO y,0<=v)->jI l=true->∀v ∈ aY l,0<=v:=by
    intro l
    induction l with
    |nil=>intro _ _ v b;rw[aY]at b;cases b
    |cons y l f =>
     intro j g v b;rw[jI,al_]at g;rw[aY]at b;rcases az_.1 b with b|b
     ·grind
     ·grind
   exact key a c h.2 v b
  ·grind
theorem Nj:∀{a:List Tm},(∀x ∈ a,cd x=true)->∀v ∈ aY a,0<=v
 |[],_,v,b=>by grind[aY]
 |x::a,h,v,b=>by
  rw[aY]at b;rcases az_.1 b with b|b
  ·have:=h x (by simp);unfold cd at this;rw[al_,al_]at this;exact U5 x this.1.1 v b
  ·exact Nj (λy c=>h y (by grind)) v b
theorem Di {a:List Tm}(h:mw a=true):∀v ∈ aY a,0<=v:=by
 unfold mw at h;rw[al_]at h;exact Nj (aP_.1 h.1)
theorem E8 {x:At}(h:fH x=true):∀v ∈ varsOf x.a,0<=v:=by
 unfold fH at h;rw[al_]at h;exactλv a=>Di h.2 v ((uS _ _ v).1 a).1
theorem Pn {x:Gl}(h:dE x=true):∀v ∈ varsOf x.a,0<=v:=by
 unfold dE at h;split at h
 ·exact E8 (x:=⟨x.n,x.a⟩) h
 ·rw[al_]at h;exactλv a=>Di h.2 v ((uS _ _ v).1 a).1
theorem ab4 (ds:List Dc) (r:Rl):nO ds r=yH ds r:=by
 unfold nO yH;refine fY λ_=>?_;rw[s6,s6,cB,K4];refine fY λf=>fY λg=>?_;rw[wc,cB];refine fY λi=>fY λj=>?_;have k:∀x ∈ r.aM++r.rem,fH x=true:=λx a=>by
  rcases az_.1 a with h|h
  ·exact wg (by decide) (kp f x h)
  ·exact wg (by decide) (kp g x h)
 have m:∀x ∈ r.guard++r.body,dE x=true:=λx a=>by
  rcases az_.1 a with h|h
  ·exact wg (by decide) (kp i x h)
  ·exact wg (by decide) (kp j x h)
 have c:tB r=(r.aM++r.rem).flatMap λx=>varsOf x.a:=by grind[tB,Ht,Db]
 have d:yC r=(r.guard++r.body).flatMap λx=>varsOf x.a:=by grind[yC,sV,B0]
 have o:∀v ∈ tB r++yC r,0<=v:=λv p=>by
  rcases az_.1 p with h|h
  ·rw[c]at h;obtain⟨x,a,h⟩:=cL_.1 h;exact E8 (k x a) v h
  ·rw[d]at h;obtain⟨x,a,h⟩:=cL_.1 h;exact Pn (m x a) v h
 have q:bH (iota 0) (tB r++yC r)=xD r:=by
  show bH [] _=_;unfold xD varsOf;rw[c,d,s7 (λx:At=>x.a),Bj];have:=s7 (λx:Gl=>x.a) (r.guard++r.body) [] [];rw[lL (aY _),lL (aY (fC (r.aM++r.rem)))];refine congrArg _ ?_;have b:=s7 (λx:Gl=>x.a) (r.guard++r.body) ([]++bH [] (aY (fC (r.aM++r.rem)))) [];rw[aB_,aB_]at b;exact b
 have e:=I0 (λn=>bj (cH (decide (r.vars=n)) 2) (Be ds r)) (tB r++yC r) 0 o;rw[q,aD_]at e;rw[wb];refine Eq.trans e (fY λ_=>fY λ_=>?_);rw[Be];refine fY λ_=>?_;unfold t_;rw[s6,cB,Hw,wa];refine fY λ_=>fY λ_=>?_;rw[zl,zl,zl,s6,cB];refine fY λ_=>fY λ_=>?_;rw[K3,SF];refine fY λ_=>fY λ_=>?_;rw[Em,SE];have s:sV [r.guard]=r.guard.flatMap λx=>varsOf x.a:=by grind[sV,B0]
 rw[s,Pm];have t:UU r=QD (varsOf (fC (r.aM++r.rem))):=by
  funext v;unfold UU QD;have:(tB r).contains v=(varsOf (fC (r.aM++r.rem))).contains v:=by
   rw[bI_,bE_,bE_,c];have b:=s7 (λx:At=>x.a) (r.aM++r.rem) [] [];rw[aB_,aB_]at b;have u:∀l:List Int,v ∈ l ↔ v ∈ bH [] l:=λl=>by rw[uS];simp
   rw[u,b]
   rfl
  rw[this]
 rw[t]
 rfl
theorem Nk (ds:List Dc):∀(l:List Dc) (k:Nat),l=ds.drop k->uQ (ds.take k) l=sZ ds l k
 |[],k,_=>rfl
 |d::l,k,h=>by
  have e:ds[k]?=some d:=by
   have:=congrArg (λl=>l[0]?) h;simpa using this.symm
  have a:l=ds.drop (k+1):=by
   have:=congrArg List.tail h;simpa using this
  have b:ds.take (k+1)=ds.take k++[d]:=by grind
  rw[uQ,sZ,<-b,Nk ds l (k+1) a,<-cB,<-cB];congr 1;have c:(ds.take k).any (sW d)=l_ (ds.take k) d.n d.ar:=by grind[l_,sW]
  unfold K5;rw[c];cases mC d.n with
  |false=>rfl
  |true =>
   cases (decide (0<=d.ar) && decide (d.ar<=6)) with
   |false=>rfl
   |true=>cases l_ (ds.take k) d.n d.ar<;>rfl
theorem Nl (ds:List Dc):∀(l:List Rl) (k:Nat),sX ds l k=xE ds l k
 |[],_=>rfl
 |r::l,k=>by rw[sX,xE,ab4,Nl ds l]
theorem X1 (p:Pg):fM p=Af p:=by
 unfold fM Af tW;have a:uQ [] p.ds=sZ p.ds p.ds 0:=Nk p.ds p.ds 0 rfl;rw[a];by_cases h:p.ds.length<=30
 ·grind[cH,bD,sZ,Nl,dx]
 ·grind[cH,dx]
section
attribute [local irreducible] ah aG ae ad
end
section
attribute [local irreducible] ah aG ae ad
end
section
attribute [local irreducible] ah aG ae ad
end

section
variable {P:Program}{w0:World}{o:Op}{α:AA}{S S':af}{r:AV}{dr:Bool}
theorem QJ {k:SK}(h:res P.toTables o=some (.slice k x lo hi mx)):∃t u a h1 b,o=.slice t u a h1 b/\x=qo u/\lo=a.map qo/\hi=h1.map qo/\mx=b.map qo /\
  ((k=.str/\P.underlying t=some .string)\/∃e m,k=.sl m/\P.underlying t=some (.slice e)/\ep P e=some m):=by
 cases o with
 |slice t u a h1 b =>
  simp only[res,cF,fX]at h;split at h
  ·grind
  ·grind
  ·grind
 |_ =>
  simp only[res]at h
  repeat' split at h
  all_goals cases h
theorem ae.afl {k:SK}{r:AV}(h:∀t,((k=.str/\P.underlying t=some .string)\/∃e m,k=.sl m/\P.underlying t=some (.slice e)/\ep P e=some m) ->
  r7 P t (wJ r S) S (x.ev α.tm) (lo.map (·.ev α.tm)) (hi.map (·.ev α.tm)) (mx.map (·.ev α.tm))):ae P w0 dr (.slice k x lo hi mx) α S r S:=by
 refine ae.of rfl λo a=>?_;obtain⟨t,u,c,d,f,rfl,rfl,rfl,rfl,rfl,b⟩:=QJ a;have h:=h t b;have e:∀z:Option Operand,(z.map qo).map (·.ev α.tm)=z.map α.ev:=λz=>by
  cases z with
  |none=>rfl
  |some z=>simp[aW]
 rw[e,e,e,aW]at h;exact h
theorem ae.iu {len n:Nat}{i:QO}{k q:Nat}(h1:x.ev α.tm=.pt k sz p q) (h2:i.ev α.tm=.v (.int ik j)) (h3:0<=j) (h4:j < len):ae P w0 dr (.GM len n x i) α S (.pt k sz p (q+j.toNat*n)) S:=by
 refine ae.of rfl λo a=>?_;cases o<;>simp only[res,cF,fX]at a<;>(repeat' split at a)<;>(try cases a)
 rw[aW]at h1 h2;simp only[bu,h1,h2,‹P.underlying _=_›,‹ep P _=_›];exact⟨h3,h4,rfl,rfl⟩
end
section
variable {P:Program}{w0:World}{n:Nat}{α:AA}{S S' N:af}{r:AV}
theorem St.J3 {A:Nat->Prop}{g:Gh}{w:World}(d:St w0 A g S w) (u:∀k o,N.get k=some o->S.get k=some o) (B:S.nx<=S'.nx) (l:∀k o,S'.get k=some o->S.get k=some o/\N.get k=none) :
  Ext A g w (g.still N) w/\St w0 A (g.still N) S' w:=by
 have v:∀b q,(g.still N).fz b q ↔ (g.fz b q\/∃k sz rows fz ex,N.get k=some (.arr sz rows fz ex)/\g.al k/\b=g.ob k/\q < rows.length*sz):=λb q=>ci_;have z:Later g w (g.still N) w:=⟨λ_ h=>h,λ_ _=>rfl,λ_ _=>rfl,λb q h=>.inl h,λ_ _ _=>rfl⟩;have y:∀k o q,S'.get k=some o->g.al k->(g.still N).fz (g.ob k) q->g.fz (g.ob k) q:=λk o q a n f=>by
  rcases (v _ q).1 f with f|⟨j,sz,rows,fz,ex,m,r,e,_⟩
  ·grind
  ·obtain⟨C,x⟩:=l k o a;have:=d.inj k j _ _ C (u j _ m) n r e;rw[this,m]at x;cases x
 refine⟨{ z with size:=ac_ _,aM:=λ_ _ _=>rfl,kr:=λb q f=>?_ },⟨d.base,d.up,d.lo,λk a=>au_ (d.al k a) B,λk o a n=>?_,λi j o p hi m D s e=>d.inj i j o p (l i o hi).1 (l j p m).1 D s e,λb q f=>?_,λb q E=>.inl (d.rp b q E),
  λk J a n c t=>d.kP k J (l k _ a).1 n c t,λk J j o a n m s F t=>d.nb k J j o (l k _ a).1 n (l j o m).1 s F t,λj k J G m a s H=>d.oW j k J G (l j _ m).1 (l k _ a).1 s H⟩⟩
 ·rcases (v b q).1 f with f|⟨k,sz,rows,fz,ex,a,r,rfl,_⟩
  ·grind
  ·exact .inr (d.cT k _ (u k _ a) r).1
 ·obtain⟨x,k3,k4⟩:=d.cT k o (l k o a).1 n;refine⟨x,k3,k4.later z rfl (λq f=>y k o q a n f) λJ I=>⟨rfl,ac_ _,λ_ _=>rfl,λc q t f=>?_⟩⟩;rcases (v c q).1 f with f|⟨j,sz,rows,fz,ex,m,r,rfl,_⟩
  ·grind
  ·subst I;refine absurd t (d.nb k J j _ (l k _ a).1 n (u j _ m) r λe=>?_);have:=(l k _ a).2;rw[<-e,m]at this;cases this
 ·rcases (v b q).1 f with f|⟨k,sz,rows,fz,ex,a,r,rfl,_⟩
  ·exact d.dw b q f
  ·exact (d.cT k _ (u k _ a) r).2.1
theorem Cv.afm {t:Nat}{a':AV}(b:∀k o,N.get k=some o->S.get k=some o) (i:S.nx<=S'.nx) (l:∀k o,S'.get k=some o->S.get k=some o/\N.get k=none) (c:α.tm t ≠ .u) (m:aP N (α.tm t) a'):Cv w0 n α S ⟨bE α.tm t a',α.df⟩ S':=by
 intro A g q w d a;obtain⟨e,r⟩:=d.J3 b i l;have s:St w0 A g ⟨N.get,S.nx⟩ w:=d.forget (ac_ _) λj p u _=>b j p u;have v:t < n:=by
  rcases bo_ t n with f|f
  ·grind
  ·exact absurd (a.out t f) c
 refine⟨g.still N,r,(a.later e.toLater).slot c ?_,e⟩;exact (m.mono (S:=N) (T:=⟨N.get,S.nx⟩) λ_ _ _ _ _ h=>h).rep s (a.tm t v)
end
section
variable {P:Program}{w0:World}{α:AA}{S:af}{dr rd:Bool}{n:Nat}{Q:Exit->AA->af->Prop}{l:List QI}{K:List f_}{ρ:Hd}{T:Type}{f:T->List AV}{dd:Option Nat}{gg:Option (Nat × Bool)}
theorem bW {a:List T}{x:T}(h:a[i]?=some x):(ρ.h (List.map f) a)[i]?=some (f x):=by rw[ρ.eq,aS_,h];rfl
theorem ad.Zx {by_:Nat}{a:QO}{i:Int}(ρ:Hd) (f:T->List AV) (x0:T) (d:bG α.tm gg=some true) (h1:a.ev α.tm=.v (.int .i64 i)) (h2:b.ev α.tm=.v (.int .i64 i)) (hi:i=m) (e:(f x0).length=sz) (g:m*by_<=35184372088832) (h6:m<=9223372036854775807)
  (kk:∀c,c=List.replicate m x0->ad P w0 rd n Q (.bc dr l K) (bP dd α (.ob S.nx sz 0 m none)) (S.new (.arr sz (ρ.h (List.map f) c) 0 true))):ad P w0 rd n Q (.bc dr (⟨dd,gg,.pI (f x0) by_ a b⟩::l) K) α S:=by
 have h:=kk _ rfl;rw[ρ.eq,List.map_replicate]at h;subst e hi;exact ad.op (i:=⟨dd,gg,.pI (f x0) by_ a b⟩) d (by simpa using ae.Zx (P:=P) (w0:=w0) (dr:=dr) (z:=f x0) (by_:=by_) (S:=S) h1 h2 (by omega) rfl (by omega) (by omega)) h
theorem ae.Nm {i:QO}{k off len:Nat}{cx:Option Nat}(h1:x.ev α.tm=.ob k m off len cx) (h2:i.ev α.tm=.v (.int ik j)) (a:j=p) (h4:p < len):ae P w0 dr (.x8 m x i) α S (.pt k m (off+p) 0) S:=by
 subst a;exact ae.ank h1 h2 (by omega) (by omega)
theorem ae.fk {k:LK}{b j fz:Nat}{row:List AV}{a:AV}(c:x.ev α.tm=.pt b sz i j) (d:S.get b=some (.arr sz rows fz ex)) (hi:rows[i]?=some row) (e:uI k row j=some a):ae P w0 dr (.load k x) α S a S :=
 ae.quiet (by simp only[mS,c,uT,d,bp_,hi,e])
theorem ae.afn {n:Nat}{k j:Nat}{row:List AV}(d:x.ev α.tm=.pt k sz i j) (h:S.get k=some (.arr sz rows 0 ex)) (e:(a7 (b.ev α.tm)).all dh=true) (f:n=(a7 (b.ev α.tm)).length) (hi:rows[i]?=some row)
  (g:j+(a7 (b.ev α.tm)).length<=row.length):ae P w0 dr (.store n x b) α S (.v undef) (S.set k (some (.arr sz (rows.set i (qk row j (a7 (b.ev α.tm)))) 0 ex))):=by
 refine ae.of rfl λo c=>?_;cases o<;>simp only[res,fX]at c<;>(repeat' split at c)<;>(try cases c)
 rename_i l;rw[aW]at d e f g ⊢;simp only[bu,d];refine bC.mk (a:=_) ?_ ⟨rfl,rfl⟩;simp only[sD,h,l,e,f,bp_,cg_,hi,cf_ g]
theorem ad.Dj {k:Nat}{a:List T}{y:T}(g:bG α.tm gg=some true) (j:x.ev α.tm=.pt k sz i 0) (o:S.get k=some (.arr sz (ρ.h (List.map f) a) 0 ex)) (p:a7 (b.ev α.tm)=f y) (r:(f y).all dh=true) (c:∀x,(f x).length=sz) (s:m=sz) (hi:i < a.length)
  (kk:∀d,d=a.set i y->ad P w0 rd n Q (.bc dr l K) (bP dd α (.v undef)) (S.set k (some (.arr sz (ρ.h (List.map f) d) 0 ex)))):ad P w0 rd n Q (.bc dr (⟨dd,gg,.store m x b⟩::l) K) α S:=by
 have h:=kk _ rfl;have q:(ρ.h (List.map f) a)[i]?=some (f a[i]):=bW (ai_ hi);have e:(ρ.h (List.map f) a).set i (qk (f a[i]) 0 (a7 (b.ev α.tm)))=ρ.h (List.map f) (a.set i y):=by
  rw[p,ρ.eq,ρ.eq,List.map_set];congr 1;unfold qk;rw[c,c,bp_]
  rfl
 rw[<-e]at h;exact ad.op (i:=⟨dd,gg,.store m x b⟩) g (ae.afn j o (by grind) (by grind) q (by grind)) h
end
section
variable {P:Program}{w0:World}{n:Nat}{α:AA}{S:af}
theorem J4 {i:QO}{o:Op}(h:res P.toTables o=some (.x8 m x i)):∃t u v e,o=.indexAddr t u v/\x=qo u/\i=qo v/\P.underlying t=some (.slice e)/\ep P e=some m:=by
 cases o<;>simp only[res,cF,fX]at h<;>(repeat' split at h)<;>(try cases h)
 exact⟨_,_,_,_,rfl,rfl,rfl,by assumption,by grind⟩
theorem No {o:Oper}{i:QO}{k len:Nat}(l:res P.toTables o.op=some (.x8 m x i)) (β:AA) (h:x.ev β.tm=.gr k m len) (hi:i.ev β.tm=.v (.int ik j)) (r:j=p) (C:p < len):iY P w0 n o β S (.pt k m p 0) S:=by
 obtain⟨t,u,v,e,s,rfl,rfl,y,a⟩:=J4 l;rw[aW]at h hi;refine a8.ops (a8.quiet λA g q w D b=>?_) λz e=>by grind
 have c:=b.ev u;have d:=b.ev v;rw[h]at c;rw[hi]at d;rcases r_ c with ⟨rfl,E,f⟩|⟨B,z,f,_,_⟩
 ·omega
 ·refine⟨_,?_,aN.pt (g:=g) (w:=w) (k:=k) (sz:=m) (i:=p) (j:=0) B⟩;subst r;simp only[execOp,s,f,b_ d,Instr.indexAt,asIntOf,Sem.run_bind,run_underlying y,c6 a,Result.andThen_ok,Sem.run_pure];rw[if_pos ⟨by omega,by omega⟩];simp[c6 a,jh]
theorem ae.dg {dr:Bool}{i:QO}{k len:Nat}(h:x.ev α.tm=.gr k m len) (hi:i.ev α.tm=.v (.int ik j)) (b:j=p) (c:p < len):ae P w0 dr (.x8 m x i) α S (.pt k m p 0) S:=by
 cases dr with
 |false=>exactλn o a=>No a α h hi b c
 |true =>
  intro n o a;obtain⟨t,u,v,e,g,s,d,w,z⟩:=J4 a;have A:∀y ∈ [u,v],(α.only (dH o)).ev y=α.ev y:=λy d=>gm λt2 l=>gw (by rw[g];simp[Op.operands,<-l];simpa using d);have q:x.ev (α.only (dH o)).tm=.gr k m len:=by grind[aW]
  have r:i.ev (α.only (dH o)).tm=.v (.int ik j):=by grind[aW]
  have f:∀T,iY P w0 n o (α.only (dH o)) T (.pt k m p 0) T:=λT=>No a _ q r b c;exact⟨f S,λ_=>⟨rfl,f⟩,λ_=>rfl⟩
theorem a_.fk {B:Nat}{k:LK}{b j fz:Nat}{row:List AV}{a:AV}(e:x.ev α.tm=.pt b sz i j) (h:S.get b=some (.arr sz rows fz ex)) (hi:rows[i]?=some row) (f:uI k row j=some a) :
  a_ P w0 B (.load k x) α S a ⟨[(b,.arr sz rows fz ex)],[],false⟩:=by
 refineλn o c=>⟨λd=>?_,(show iC S [(b,.arr sz rows fz ex)] from λp d=>by grind),λT _ g _=>?_⟩
 ·exfalso;generalize o.op=op at c d;cases op<;>simp only[res]at c<;>(repeat' split at c)<;>(try cases c)<;>cases d
 ·rw[show eP T [] false=T from kB];exact (ae.fk (P:=P) (w0:=w0) (dr:=true) (S:=T) e (g (b,.arr sz rows fz ex) (by simp)) hi f n o c).1
theorem Cv.Np {kb k sz' fz j:Nat}{row:List AV}{ex':Bool}(B:S.get kb=some (.arr sz [row] fz ex)) (hk:S.get k=some (.arr sz' rows 0 ex')) (I:kb ≠ k) (b:row[j]?=some (.gr k sz' m)) (K:m=rows.length) :
  Cv w0 n α S α ((S.set k none).set kb (some (.arr sz [row.set j (.sl false rows)] fz ex))):=by
 intro A g q w l L;have C:aP (af.none_.set k (some (.arr sz' rows 0 ex'))) (.gr k sz' m) (.sl false rows):=.gr (aJ _ _ _) (by omega) K.symm (λi row D c d=>by grind) λi j row D a a' c d s f=>by
  rw[c]at d;obtain rfl:=oJ_ d;rw[s]at f;obtain rfl:=oJ_ f;exact .refl _
 obtain⟨N,t⟩:∃N:af,N=af.none_.set k (some (.arr sz' rows 0 ex')):=⟨_,rfl⟩;rw[<-t]at C;have M:∀j o,N.get j=some o->j=k/\o=.arr sz' rows 0 ex':=λj o b=>by
  rw[t]at b;have b:bE (λ_=>none) k (some (Ob.arr sz' rows 0 ex')) j=some o:=b;by_cases e:j=k
  ·grind[aJ]
  ·grind[aO]
 have E:∀j o,N.get j=some o->S.get j=some o:=λj o b=>by grind
 obtain⟨F,O⟩:=l.J3 (S':=S.set k none) E (ac_ _) λj o b=>by
  have b:bE S.get k none j=some o:=b;by_cases e:j=k
  ·grind[aJ]
  ·rw[aO _ _ e]at b;refine⟨b,?_⟩;rw[t];show bE (λ_=>none) k _ j=none;rw[aO _ _ e]
 have u:St w0 A g ⟨N.get,S.nx⟩ w:=l.forget (ac_ _) λj p b _=>E j p b;have P:aP ⟨N.get,S.nx⟩ (.gr k sz' m) (.sl false rows):=C.mono (S:=N) (T:=⟨N.get,S.nx⟩) λ_ _ _ _ _ h=>h;refine⟨g.still N,O.WE (ac_ _) λi Q hi R=>?_,L.later F.toLater,F⟩;have hi:bE (S.set k none).get kb (some (.arr sz [row.set j (.sl false rows)] fz ex)) i=some Q:=hi;by_cases e:i=kb
 ·subst e;rw[aJ]at hi;obtain rfl:=oJ_ hi;have U:(S.set k none).get i=some (.arr sz [row] fz ex):=by
   show bE S.get k none i=_;rw[aO _ _ I];exact B
  refine⟨_,U,λh=>?_,λJ h=>by grind⟩;obtain⟨G,H,c,d,s,f,V,W,X⟩:=h;have Y:g.al i:=R;obtain⟨_,_,Hm,Z,v,b2,b3,b4,b5,b6,b7⟩:=l.cT i _ B Y;have e1:w.heap[g.ob i]?=some (.cells G H (0,0)):=c;rw[e1]at v;simp only[oI_,Obj.cells.injEq]at v;obtain⟨rfl,rfl,_⟩:=v;refine⟨G,H,c,d,s,f,λr D y=>?_,W,X⟩;cases r with
  |succ r=>simp at y
  |zero =>
   simp only[cw_,oI_]at y;subst y;obtain⟨q1,q2⟩:=V 0 row rfl;refine⟨by grind,λp a z=>?_⟩;rw[List.getElem?_set]at z;by_cases e2:j=p
   ·subst e2;have aw:=(ar_.1 b).1;rw[if_pos rfl,if_pos aw]at z;obtain rfl:=oJ_ z;obtain⟨x,hx,fm⟩:=(b5 0 row rfl).2 j _ b;exact⟨x,hx,P.rep u fm⟩
   ·grind
 ·grind[aO]
end
def gJ (n:Int):Bool:=decide (-2147483648<=n) && decide (n<=2147483648)
def J5 (n:ByteArray) (a b:Int):Int × Int :=
 if n.toList=[43] then (a+b,0) else if n.toList=[45] then (a - b,0) else if n.toList=[42] then (a*b,0) else
 if b=0 then (0,12) else if n.toList=[47] then (a.fdiv b,0) else (a - a.fdiv b*b,0)
def J6 (n:ByteArray) (a b:Int):Int × Int:=if !(gJ a && gJ b) then (0,5) else
 if (J5 n a b).2=0 then (if gJ (J5 n a b).1 then ((J5 n a b).1,0) else (0,5)) else (0,(J5 n a b).2)
mutual
def nw:Tm->Int × Int
 |⟨k,i,n,a⟩=>if k=1 then (0,17) else if k=0 then (if gJ i then (i,0) else (0,5)) else
  if k=2/\a.length=2/\eB n=true then X2 n a else (0,11)
def X2 (n:ByteArray):List Tm->Int × Int
 |[]=>(0,11)
 |x::l=>match l with
  |[]=>(0,11)
  |y::_=>match nw x with
   |(p,e)=>if e=0 then (match nw y with|(q,f)=>if f=0 then J6 n p q else (0,f)) else (0,e)
end
mutual
def mN:Tm->Bool
 |⟨k,i,n,a⟩=>if k=0\/k=1 then true else decide (k=2) && (eB n && (decide (a.length=2) && K6 a))
def K6:List Tm->Bool
 |[]=>true
 |x::l=>mN x && K6 l
end
def qq (t:Tm):Bool:=(varsOf [t]).isEmpty
def SG (op x y:Int):Bool:=if op=7 then decide (x < y) else if op=8 then decide (x<=y) else if op=9 then decide (x=y) else decide (x ≠ y)
def nR (b:Bool):Int:=if b then 1 else 2
def uz (op:Int) (a b:Tm):Int:=if !mN a || !mN b then 2 else if !qq a || !qq b then 0 else
 if (nw a).2=0/\(nw b).2=0 then nR (SG op (nw a).1 (nw b).1) else 2
def lD (g:Gl):Bool:=nN g.op && dE g
noncomputable def X3 (a b:Tm):Bool:=decide ((kX fL [(a,b)]).2=0\/(kX fL [(a,b)]).2=6)
noncomputable def Nq (op:Int):List Tm->Int
 |[]=>0
 |a::l=>if op=11 then (if a.k=1 then 0 else nR (decide (a.k=0))) else if op=12 then (if qq a then 1 else 0) else match l with
  |[]=>0
  |b::_=>if op=5\/op=6 then (if iH a b=0 then nR (decide (op=5)) else if X3 a b then 0 else nR (decide (op=6))) else uz op a b
noncomputable def kJ (g:Gl):Int:=if lD g then Nq g.op g.a else nR (decide (g.op=1) && dE g)

section
attribute [local irreducible] ah aG ae ad
def aiZ:FQ 195 Tryz.f195:=aF Tryz.func195 Tryz.call195
def vz:List Nat:=[1,0,4,13]
def c8 (k:Nat):List AV:=[iv k]
def vQ (ρ:Hd) (x:Tm × List Nat):List AV:=[iv x.1.k,iv x.1.i,.v (.string x.1.n),tl ρ x.1.a,aR ρ c8 false x.2]
def E9 (q:Int × Int):AV:=.agg [iv q.1,iv q.2]
def gO (nl ul:Nat):Ob:=.arr 6 [[.gr 1 5 nl,.mp 2,.gr 3 1 ul,.mp 4,.mp 5,.mp 6]] 0 true
def fS (ρ:Hd) (N:aS):Ob:=.arr 5 (ρ.h (List.map (vQ ρ)) N) 0 false
def cI (ρ:Hd) (up:List Nat):Ob:=.arr 1 (ρ.h (List.map c8) up) 0 false
def fT (ρ:Hd) (kv:List (Int × Int)):Ob:=.mp (ρ.h (dW iv) kv)
def bZ (ρ:Hd) (kv:List (Int × Int)):Ob:=.mb (ρ.h (dW iv) kv)
def fU (ρ:Hd) (kv:KN):Ob:=.mp (ρ.h (dW E9) kv)
def gS (ρ:Hd) (s:PS) (kn:KN):List (Nat × Ob):=[(0,gO s.N.length s.js.up.length),(1,fS ρ s.N),(2,bZ ρ s.vs),(3,cI ρ s.js.up),(4,fT ρ s.js.sh),(5,bZ ρ s.js.ls),(6,fU ρ kn)]
section
variable {ρ:Hd}{B:Nat}
theorem o6 {nl ul:Nat}(h:6 < B):h_ B (gO nl ul):=λrow c a b=>by
 obtain rfl:=ae_.1 c;simp only[ad_,as_,or_false]at b;rcases b with rfl|rfl|rfl|rfl|rfl|rfl
 ·exact .gr (by omega)
 ·exact .mp (by omega)
 ·exact .gr (by omega)
 ·exact .mp (by omega)
 ·exact .mp (by omega)
 ·exact .mp (by omega)
theorem X4 (x:Tm × List Nat):∀a ∈ vQ ρ x,Pure a:=by
 intro a b;simp only[vQ,ad_,as_,or_false]at b;rcases b with rfl|rfl|rfl|rfl|rfl
 ·exact .v
 ·exact .v
 ·exact .v
 ·exact cG _
 ·exact dT λx _ a b=>by
   obtain rfl:=ae_.1 b;exact .v
theorem ud (N:aS):∀row ∈ ρ.h (List.map (vQ ρ)) N,∀a ∈ row,Pure a:=by
 rw[ρ.eq];intro row b a c;obtain⟨x,_,rfl⟩:=av_.1 b;exact X4 x a c
theorem nS (N:List Nat):∀row ∈ ρ.h (List.map c8) N,∀a ∈ row,Pure a:=by
 rw[ρ.eq];intro row b a c;obtain⟨x,_,rfl⟩:=av_.1 b;obtain rfl:=ae_.1 c;exact .v
theorem mq (N:aS):h_ B (fS ρ N):=λrow b a c=>Pure.bm (ud N row b a c)
theorem fy (N:List Nat):h_ B (cI ρ N):=λrow b a c=>Pure.bm (nS N row b a c)
theorem fw {f:T->AV}(a:∀x,Pure (f x)) (kv:List (Int × T)):∀e ∈ ρ.h (dW f) kv,Pure e.2:=by
 rw[ρ.eq];intro e b;obtain⟨p,_,rfl⟩:=av_.1 b;exact a _
theorem kK (x:Int):Pure (iv x):=.v
theorem xF (q:Int × Int):Pure (E9 q):=.agg (vk .v .v)
theorem lQ (kv:List (Int × Int)):h_ B (fT ρ kv):=λe a=>Pure.bm (fw kK kv e a)
theorem eK (kv:List (Int × Int)):h_ B (bZ ρ kv):=λe a=>Pure.bm (fw kK kv e a)
theorem lP (kv:KN):h_ B (fU ρ kv):=λe a=>Pure.bm (fw xF kv e a)
end
theorem gC {N:Nat}{ρ:Hd}{S:af}{nl ul:Nat}{a:aS}{vs sh ls:List (Int × Int)}{up:List Nat}{kn:KN}(h0:S.get 0=some (gO nl ul):=by rfl) (h1:S.get 1=some (fS ρ a):=by rfl) (h2:S.get 2=some (bZ ρ vs):=by rfl) (h3:S.get 3=some (cI ρ up):=by rfl)
  (h4:S.get 4=some (fT ρ sh):=by rfl) (h5:S.get 5=some (bZ ρ ls):=by rfl) (h6:S.get 6=some (fU ρ kn):=by rfl):fO 7 [] N S [(0,gO nl ul),(1,fS ρ a),(2,bZ ρ vs),(3,cI ρ up),(4,fT ρ sh),(5,bZ ρ ls),(6,fU ρ kn)] :=
 ⟨.inl ⟨_,h0,.same (o6 (by omega))⟩,.inl ⟨_,h1,.same (mq _)⟩,.inl ⟨_,h2,.same (eK _)⟩,.inl ⟨_,h3,.same (fy _)⟩,.inl ⟨_,h4,.same (lQ _)⟩,.inl ⟨_,h5,.same (eK _)⟩,.inl ⟨_,h6,.same (lP _)⟩,trivial⟩
section
variable {w0:World}{ρ:Hd}
theorem Ai {s:PS}{kn:KN}{k r:Nat}{u:List Nat}(l:s.js.up.length<=1099511627776) (h:ko s.js.up k=some (u,r)) :
  aG Tryz.prog w0 195 [.pt 0 6 0 0,iv k] (aq (gS ρ s kn) 7) (iv r) (aq (gS ρ ⟨s.N,s.vs,⟨u,s.js.sh,s.js.ls⟩⟩ kn) 7):=by
 obtain⟨m,a⟩:=A6 h;obtain⟨N,o,up,sh,t⟩:=s;dsimp only at l a ⊢;have v:u.length=up.length:=by
  clear h l;revert up k a
  induction m with
  |zero=>intro k up a;cases a
  |succ m D =>
   intro k up a;rw[jk]at a;split at a
   ·grind
   ·grind
 obtain⟨ul,n⟩:∃ul,ul=up.length:=⟨_,rfl⟩;obtain⟨i,w⟩:∃i,i=N.length:=⟨_,rfl⟩;simp only[gS,<-n,<-w,v];refine sc 7 7 aiZ ?_;refine gq vz ?_
 refine ad.aK (σ:=Nat × List Nat × Nat) 7 7 [] (λp=>[(0,.pt 0 6 0 0),(1,iv p.1),(4,iv 0)]) [] (λp=>[(0,gO i ul),(1,fS ρ N),(2,bZ ρ o),(3,cI ρ p.2.1),(4,fT ρ sh),(5,bZ ρ t),(6,fU ρ kn)])
  (λp=>p.2.1.length=ul/\jk p.2.2 p.2.1 p.1=some (u,r)) (λp=>p.2.2) (k,up,m) ⟨n.symm,a⟩ rfl (by exact⟨sq,rfl,gC,rfl,rfl,rfl⟩) ?_
 rintro⟨k,up,m⟩ ⟨A,a⟩;simp only at A a;cases m with
 |zero=>cases a
 |succ m =>
  rw[jk]at a;cases b:up[k]? with
  |none=>rw[b]at a;cases a
  |some p =>
   rw[b]at a;simp only at a;have B:=(ar_.1 b).1;have d:k < ul:=by omega
   by_cases e:p=k
   ·rw[if_pos e]at a;simp only[oI_,pI_]at a;obtain⟨rfl,rfl⟩:=a;subst e;refine gq vz ?_
    repeat' (first
     |(refine ad.op rfl (ae.dg rfl rfl rfl d) ?_;refine og vz (ae.fk rfl rfl (bW (f:=c8) b) rfl) ?_)
     |exact absurd c (by decide)
     |refine cg vz (λc=>?_) λc=>?_
     |refine ad.ao ?_;refine gq vz ?_
     |(refine fq ?_))
    all_goals first
     |exact⟨[],.aC .v,gC,rfl⟩
   ·rw[if_neg e]at a;cases g:up[p]? with
    |none=>rw[g]at a;cases a
    |some q =>
     rw[g]at a;simp only at a;have E:=(ar_.1 g).1;have C:p < ul:=by omega
     have F:(up.set k q)[k]?=some q:=by grind
     refine gq vz ?_
     repeat' (first
      |(refine ad.op rfl (ae.dg rfl rfl rfl d) ?_;refine og vz (ae.fk rfl rfl (bW (f:=c8) b) rfl) ?_)
      |(refine ad.op rfl (ae.dg rfl rfl rfl C) ?_;refine og vz (ae.fk rfl rfl (bW (f:=c8) g) rfl) ?_)
      |(refine ad.op rfl (ae.dg rfl rfl rfl d) ?_;refine ad.Dj (f:=c8) (y:=q) rfl rfl rfl rfl rfl (λ_=>rfl) rfl B (λj G=>?_);refine gq vz ?_)
      |(refine ad.op rfl (ae.dg rfl rfl rfl d) ?_;refine og vz (ae.fk rfl rfl (bW (f:=c8) (x:=q) (by grind)) rfl) ?_)
      |refine cg vz (λc=>?_) λc=>?_
      |refine ad.ao ?_;refine gq vz ?_
      |(refine fq ?_))
     all_goals first
      |exact absurd (Int.ofNat.inj c) e
      |refine ad.az (σ:=Nat × List Nat × Nat) (q,j,m) [] ⟨by grind,by grind⟩ ?_ (by exact⟨sq,rfl,gC,rfl,rfl,rfl⟩);exact aX_ _
end
end
end Go.Proofs.YtbpabjmnhggajaaGreat
