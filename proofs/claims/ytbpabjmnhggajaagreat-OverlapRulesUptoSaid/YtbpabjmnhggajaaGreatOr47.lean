import Derived.Test.YtbpabjmnhggajaaGreatOr46
namespace Go.Proofs.YtbpabjmnhggajaaGreat
set_option linter.all false
set_option maxRecDepth 100000
open Go.RowKit
variable {bb:Bool}{n:ByteArray}{g:Gl}{ρ:Hd}{a b:Int}{K:List (Nat × Option Ob)}{C:List AV}{T:List At}{e:List Bd}{W l:List Int}{cl:List Nat}{B M q:Nat}{x:QO}{S:af}{J J':fG}
mutual
theorem u5:∀t:Tm,cY t<=cR t
 |⟨k,i,n,a⟩=>by rw[cY,cR];have:=td a;split<;>omega
theorem td:∀l:List Tm,bw l<=bp l
 |[]=>by rw[bw,bp];omega
 |x::l=>by rw[bw,bp];have:=u5 x;have:=td l;omega
end
mutual
theorem yR:∀t:Tm,(dO t).length<=cR t
 |⟨k,i,n,a⟩=>by
  rw[dO,cR];have:=HY a;split
  ·simp
  ·grind
theorem HY:∀l:List Tm,(aY l).length<=bp l
 |[]=>by rw[aY,bp];simp
 |x::l=>by rw[aY,bp,af_];have:=yR x;have:=HY l;omega
end
theorem my:∀l:List Tm,l.length<=bp l
 |[]=>ax_ _
 |x::l=>by rw[bp,aw_];have:=my l;have:=iO x;omega
def nX (M:Nat) (e:List Bd):Prop:=∀b ∈ e,cR b.t<=M
theorem nX.Kc (h:nX M e) {v:Int}{u:Tm}(a:zh e v=some u):cR u<=M:=by
 unfold zh at a;cases c:e.find? λb=>b.v == v with
 |none=>rw[c]at a;cases a
 |some b=>rw[c]at a;obtain rfl:=oJ_ a;exact h b (cl_ c)
theorem Oo {s x y:Nat}(h1:x<=s*M) (h2:1<=M) (h3:y=x+1):y<=(s+1)*M:=by grind
mutual
theorem YL {M:Nat}{e:List Bd}(c:nX M e) (b:1<=M):∀t:Tm,cR (dU e t)<=cR t*M
 |⟨k,i,n,a⟩=>by
  have g:∀t:Tm,t.a=a->cR t<=cR ⟨k,i,n,a⟩*M:=λt d=>by
   rw[iO t,cR,d];exact Oo (cV_ _ b) b (by omega)
  rw[dU];split
  ·split
   ·rename_i u f;have:=c.Kc f;rw[cR];exact ay_ this (by grind)
   ·grind
  ·split
   ·rw[cR,cR];exact Oo (yS c b a) b rfl
   ·grind
theorem yS {M:Nat}{e:List Bd}(c:nX M e) (b:1<=M):∀l:List Tm,bp (sO e l)<=bp l*M
 |[]=>by rw[sO,bp];omega
 |x::l=>by
  rw[sO,bp,bp,aJ_];have:=YL c b x;have:=yS c b l;omega
end
theorem Ta {k i:Int}{a:List Tm}(h1:a.length<=1099511627776) (h2:n.size<=1099511627776) (h3:dG a):(⟨k,i,n,a⟩:Tm).ok:=by rw[Tm.ok];exact⟨h1,h2,h3⟩
mutual
theorem agm {e:List Bd}(b:qW e):∀t:Tm,t.ok->(dU e t).ok
 |⟨k,i,n,a⟩,h=>by
  rw[Tm.ok]at h;rw[dU];split
  ·split
   ·rename_i u c;exact b.Kc c
   ·exact Ta h.1 h.2.1 h.2.2
  ·split
   ·exact Ta (by rw[mG,aU_];exact h.1) h.2.1 (Ap b a h.2.2)
   ·exact Ta h.1 h.2.1 h.2.2
theorem Ap {e:List Bd}(b:qW e):∀l:List Tm,dG l->dG (sO e l)
 |[],h=>by rw[sO];exact h
 |x::l,h=>by
  rw[dG]at h;rw[sO,dG];exact⟨agm b x h.1,Ap b l h.2⟩
end
def mJ (M:Nat) (g:Gl):Prop:=dG g.a/\bp g.a<=M/\g.n.size<=1099511627776
def qf (M:Nat) (x:At):Prop:=dG x.a/\bp x.a<=M/\x.n.size<=1099511627776
theorem qf.ok {x:At}(h:qf M x) (a:M<=1099511627776):x.ok:=⟨ay_ (my _) (ay_ h.2.1 a),h.1⟩
theorem mJ.ok (h:mJ M g) (a:M<=1099511627776):g.ok:=⟨ay_ (my _) (ay_ h.2.1 a),h.1⟩
theorem mJ.nC (h:mJ M g) (a:M<=1099511627776):nC g.a:=⟨h.1,ay_ (td _) (ay_ h.2.1 a)⟩
theorem mJ.mono {N:Nat}(h:mJ M g) (a:M<=N):mJ N g:=⟨h.1,ay_ h.2.1 a,h.2.2⟩
theorem mJ.app {N:Nat}(h:mJ N g) (a:nX M e) (b:qW e) (c:1<=M):mJ (N*M) (im e g) :=
 ⟨by rw[im,<-mG];exact Ap b _ h.1,by rw[im,<-mG];exact ay_ (yS a c _) (aO_ _ h.2.1),h.2.2⟩
theorem HZ {a b:Tm}(c:cd a=true) (d:cd b=true):gL [a] [b]=kX fL [(a,b)]:=by
 unfold gL;simp[c,d]
theorem uA (h:dE g=true):∀x ∈ g.a,cd x=true:=by grind[dE,fH,mw]
theorem H0 (h:dE g=true) (a:g.op ≠ 0):arity g.op=g.a.length:=by grind[dE]
def Bw (a b:At):Bool:=decide (a.n.toList=b.n.toList) && decide (a.a.length=b.a.length)
def nG (f:At) (G:List Int->List (List Int)) (l:List Int):List At->Nat->List (List Int)
 |[],_=>[]
 |h::t,k=>(if Bw f h && !l.contains (k:Int) then G (l++[(k:Int)]) else [])++nG f G l t (k+1)
def eS (T:List At):List At->List Int->List (List Int)
 |[],l=>[l]
 |f::a,l=>eS T a (l++[-1])++nG f (eS T a) l T 0
def yT (T:List At) (l:List Int):Prop:=(∀m ∈ l,m=-1\/∃q:Nat,m=q/\q < T.length)/\(l.filter λm=>m != -1).Nodup
theorem Ra {f:At}{G:List Int->List (List Int)}{l x:List Int}:∀{t:List At}{k:Nat},x ∈ nG f G l t k->∃q:Nat,k<=q/\q < k+t.length/\(q:Int) ∉ l/\x ∈ G (l++[(q:Int)])
 |[],k,h=>by simp[nG]at h
 |b::t,k,h=>by
  rw[nG,az_]at h;rcases h with h|h
  ·grind
  ·obtain⟨q,d,e,a,c⟩:=Ra h;exact⟨q,by omega,by grind,a,c⟩
theorem YM (h:yT T l):yT T (l++[-1]):=by
 refine⟨λm a=>?_,?_⟩
 ·rcases az_.1 a with a|a
  ·exact h.1 m a
  ·grind
 ·rw[List.filter_append];simpa using h.2
theorem acv (h:yT T l) (d:q < T.length) (f:(q:Int) ∉ l):yT T (l++[(q:Int)]):=by
 refine⟨λm c=>?_,?_⟩
 ·rcases az_.1 c with c|c
  ·exact h.1 m c
  ·grind
 ·rw[List.filter_append,List.nodup_append];refine⟨h.2,?_,λa g b i e=>?_⟩
  ·grind
  ·grind
theorem Eu {T:List At}:∀(fs:List At) (l x:List Int),yT T l->x ∈ eS T fs l->yT T x/\x.length=l.length+fs.length
 |[],l,x,h,a=>by grind[eS]
 |f::fs,l,x,h,a=>by
  rw[eS,az_]at a;rcases a with a|a
  ·have:=Eu fs _ x (YM h) a;exact⟨this.1,by grind⟩
  ·obtain⟨q,_,d,b,c⟩:=Ra a;have:=Eu fs _ x (acv h (by omega) b) c;exact⟨this.1,by grind⟩
def Km (a kb:Nat):List Int->Nat->Bool
 |[],_=>false
 |m::l,k=>(decide (m ≠ -1) && (decide (a<=k) || decide ((kb:Int)<=m))) || Km a kb l (k+1)
def Kn:List Int->Nat->Bool
 |[],_=>true
 |m::l,k=>decide ((k:Int)=m) && Kn l (k+1)
def H2 (i j:Int) (a kb:Nat) (l:List Int):Bool:=Km a kb l 0 && !(decide (i=j) && Kn l 0)
def j9:List At->List Int->List Tm
 |f::F,m::l=>(if m=-1 then [] else f.a)++j9 F l
 |_,_=>[]
def l6 (T:List At):List Int->List Tm
 |[]=>[]
 |m::l=>(if m=-1 then [] else match T[m.toNat]? with|some h=>h.a|none=>[])++l6 T l
def te (u:List Bd) (a:At):At:=⟨a.n,a.a.map (dU u)⟩
def nz (u:List Bd) (s:List Im × Bool) (a:At):List Im × Bool:=(s.1++[⟨((s.1.length:Nat):Int)+1,a.n,a.a.map (dU u)⟩],s.2 && fH (te u a))
def jX (u:List Bd):List At->List Im × Bool->List Im × Bool
 |[],s=>s
 |f::F,s=>jX u F (nz u s f)
def jE (u:List Bd) (l:List Int):List At->Nat->List Im × Bool->List Int->(List Im × Bool) × List Int
 |[],_,s,H=>(s,H)
 |b::T,m,s,H=>if 0<=ew (λx=>(m:Int) == x) l 0 then jE u l T (m+1) s (H++[ew (λx=>(m:Int) == x) l 0]) else jE u l T (m+1) (nz u s b) (H++[(s.1.length:Int)])
def upto:Nat->List Int
 |0=>[]
 |n+1=>upto n++[(n:Int)]
noncomputable def lE (u:List Bd):List Gl->List Gl->Bool->List Gl × Bool × Int
 |[],a,p=>(a,p,0)
 |g::G,a,p=>if dE (im u g)=true then (if kJ (im u g)=2 then lE u G a false else if kJ (im u g)=0 then lE u G (a++[im u g]) p else lE u G a p) else ([],false,6)
structure Pr where
 i:Int
 j:Int
 st:EJ
 h0:List Int
 h1:List Int
def Rc:Pr:=⟨0,0,⟨[],[],[],[],[],0,0,false⟩,[],[]⟩
structure Oq where
 i:Int
 j:Int
 a:Rl
 b:Rl
 F:List At
 T:List At
noncomputable def Tb (c:Oq) (l:List Int) (u:List Bd):Pr × Bool × Int :=
 if (jE u l c.T 0 (jX u c.F ([],true)) []).1.2=true then
  match lE u (c.a.guard++c.b.guard) [] true with
  |(a,p,e)=>if e ≠ 0\/p=false then (Rc,false,e) else
   (⟨c.i,c.j,⟨[],(jE u l c.T 0 (jX u c.F ([],true)) []).1.1,[],[],a,(((jE u l c.T 0 (jX u c.F ([],true)) []).1.1.length:Nat):Int)+1,c.a.vars+c.b.vars,false⟩,upto c.F.length,(jE u l c.T 0 (jX u c.F ([],true)) []).2⟩,true,0)
 else (Rc,false,6)
noncomputable def nY (c:Oq) (l:List Int):Pr × Bool × Int :=
 if (gL (j9 c.F l) (l6 c.T l)).2=0 then Tb c l (gL (j9 c.F l) (l6 c.T l)).1
 else (Rc,false,if (gL (j9 c.F l) (l6 c.T l)).2=13 then 0 else (gL (j9 c.F l) (l6 c.T l)).2)
noncomputable def l7 (c:Oq):List (List Int)->List Pr->List Pr × Int
 |[],out=>(out,0)
 |l::L,out=>if H2 c.i c.j c.a.aM.length c.b.aM.length l=true then
   (if (nY c l).2.2 ≠ 0 then ([],(nY c l).2.2) else if (nY c l).2.1=true then l7 c L (out++[(nY c l).1]) else l7 c L out)
  else l7 c L out
noncomputable def fE (i j:Int) (a b:Rl):Oq:=⟨i,j,a,nW a.vars b,a.aM++a.rem,(nW a.vars b).aM++(nW a.vars b).rem⟩
noncomputable def pA (p:Pg) (i j:Int):List Pr × Int :=
 if (fM p).2=0/\0<=i/\i<=j then
  match p.rs[i.toNat]?,p.rs[j.toNat]? with
  |some a,some b=>l7 (fE i j a b) (eS (fE i j a b).T (fE i j a b).F []) []
  |_,_=>([],2)
 else ([],2)
theorem pC:∀n,(upto n).length=n
 |0=>rfl
 |n+1=>by rw[upto,af_,pC n];rfl
theorem Bx {u:List Bd}:∀(F:List At) (s:List Im × Bool),(jX u F s).1.length=s.1.length+F.length
 |[],s=>by rw[jX];simp
 |f::F,s=>by rw[jX,Bx F,nz,af_,aw_];simp;omega
theorem By {u:List Bd}{l:List Int}:∀(T:List At) (m:Nat) (s:List Im × Bool) (H:List Int),∃K,(jE u l T m s H).2=H++K/\K.length=T.length/\(jE u l T m s H).1.1.length<=s.1.length+T.length /\
  ∀q,q < T.length->0<=ew (λx=>((m+q:Nat):Int) == x) l 0->K[q]?=some (ew (λx=>((m+q:Nat):Int) == x) l 0)/\(jE u l T m s H).1.1.length < s.1.length+T.length
 |[],m,s,H=>⟨[],by rw[jE];simp,rfl,by rw[jE];simp,λq h=>by grind⟩
 |b::T,m,s,H=>by
  rw[jE];split
  ·rename_i f;obtain⟨K,g,i,j,c⟩:=By (u:=u) (l:=l) T (m+1) s (H++[ew (λx=>(m:Int) == x) l 0]);refine⟨ew (λx=>(m:Int) == x) l 0::K,by grind,by grind,by grind,λq d a=>?_⟩;rw[aw_]at d ⊢
   match q with
   |0=>exact⟨rfl,by omega⟩
   |q+1 =>
    have e:m+(q+1)=m+1+q:=by omega
    rw[e]at a ⊢;have:=c q (by omega) a;exact⟨by grind,by omega⟩
  ·rename_i f;obtain⟨K,g,i,j,c⟩:=By (u:=u) (l:=l) T (m+1) (nz u s b) (H++[(s.1.length:Int)]);have k:(nz u s b).1.length=s.1.length+1:=by rw[nz];simp
   refine⟨(s.1.length:Int)::K,by grind,by grind,by grind,λq d a=>?_⟩;rw[aw_]at d ⊢
   match q with
   |0=>exact absurd a f
   |q+1 =>
    have e:m+(q+1)=m+1+q:=by omega
    rw[e]at a ⊢;have:=c q (by omega) a;exact⟨by grind,by omega⟩
theorem Ot {c:Oq}:∀(L:List (List Int)) (out:List Pr),(l7 c L out).1.length<=out.length+L.length
 |[],out=>by rw[l7];simp
 |l::L,out=>by
  have a:=λout=>Ot (c:=c) L out;rw[l7,aw_];split
  ·grind
  ·grind
section
attribute [local irreducible] ah aG ae ad
def YN:FQ 42 Tryz.f42:=aF Tryz.func42 Tryz.call42
def Ko:List Nat:=[0,2,4]
def an2:FQ 43 Tryz.f43:=aF Tryz.func43 Tryz.call43
def g43:List Nat:=[2,3,4,0,1]
def an3:FQ 17 Tryz.f17:=aF Tryz.func17 Tryz.call17
def g17:List Nat:=[2,0,1]
def an4:FQ 40 Tryz.f40:=aF Tryz.func40 Tryz.call40
def g40:List Nat:=[3,0,1,2]
def YO:FQ 41 Tryz.f41:=aF Tryz.func41 Tryz.call41
def eE:List Nat:=[0,27,1,3,6,5,13,2,23,26,28,25,7,55]
def c7 (ρ:Hd) (p:Pg) (i j:Int) (a b:Rl) (f t:List At):List AV:=[ft ρ p.ds,LM ρ p.rs,iv i,iv j,.v (.string a.n),cL ρ a.aM,cL ρ a.rem,cE ρ a.guard,cE ρ a.body,iv a.vars,.v (.string b.n),cL ρ b.aM,cL ρ b.rem,cE ρ b.guard,cE ρ b.body,iv b.vars,cL ρ f,cL ρ t]
theorem l8 (p:Pg) (i j:Int) (a b:Rl) (f t:List At):∀x ∈ c7 ρ p i j a b f t,Pure x:=by
 simp[c7,fW,tN,dk,dM,Pure.v,iv]
def oU (c:List AV):List AV:=[.fn (.func 41) [] [.ip c,.pt 1 1 0 0,.pt 2 1 0 0]]
def gE (c:List AV) (J:fG):List (Nat × Ob):=[(0,.fo J),(1,.arr 1 [[.yl 0]] 0 true),(2,.arr 1 [oU c] 0 true)]
def so1 (ρ:Hd) (c:List AV) (J:fG) (q:Nat) (W:List Int):List (Nat × Ob):=[(0,.fo J),(1,.arr 1 [[.yl 0]] 0 true),(2,.arr 1 [oU c] 0 true),(q,.arr 1 (ρ.h (List.map aI) W) 0 false)]
def na (ρ:Hd) (L:List (List Int)):List (List AV):=L.map λl=>[aR ρ aI false l]
section
variable {w0:World}{ρ:Hd}
theorem Jd (l:List Int):∀row ∈ ρ.h (List.map aI) l,∀a ∈ row,Pure a:=by
 rw[ρ.eq];intro row b a c;obtain⟨x,_,rfl⟩:=av_.1 b;obtain rfl:=ae_.1 c;exact .v
theorem Tc (A:Option Addr) (c:Nat):ah Tryz.prog w0 42 [.v (.slice A 0 c)] (.sl true []):=by
 cases A with
 |none =>
  refine st YN Ko ((.sl λr h=>by grind)) ?_;refine og Ko (ae.nil (b:=true) rfl rfl) ?_;refine fq ?_;exact .refl _
 |some A =>
  refine st YN Ko ((.sl λr h=>by grind)) ?_;refine og Ko (ae.nil (b:=false) rfl rfl) ?_;refine og Ko (ae.HL rfl rfl) ?_;refine fq ?_;exact .refl _
theorem YP:ah Tryz.prog w0 42 [aR ρ aI false []] (.sl true []):=by
 rw[bX];exact ah.emp Tc
theorem YQ (R:List Int) (h0:R ≠ []) (d:R.length<=100000000000):aG Tryz.prog w0 42 [aR ρ aI false R] (aq [] 0) (.gr 0 1 R.length) (aq [(0,.arr 1 (ρ.h (List.map aI) R) 0 false)] 1):=by
 have a:Df (aR ρ aI false R)=some false:=by
  cases R with
  |nil=>exact absurd rfl h0
  |cons x l=>rw[bX];rfl
 clear h0;refine sc 0 1 YN ?_;refine gq Ko ?_;refine og Ko (ae.nil a rfl) ?_;refine ad.qF (f:=aI) (ys:=R) rfl rfl rfl (λ_=>rfl) (by omega) λb len c hlen=>?_;have hlen:len=R.length:=by grind
 subst c;rw[<-hlen];refine gq Ko ?_;refine fq ?_;exact⟨[(0,0)],.jT rfl rfl,⟨.inl ⟨_,rfl,.same qP⟩,trivial⟩,rfl⟩
theorem VA (a b:At):ah Tryz.prog w0 43 [at_ ρ a,at_ ρ b] (.v (.bool (Bw a b))):=by
 obtain⟨n,l⟩:=a;obtain⟨d,m⟩:=b;refine st an2 g43 .v ?_
 repeat' (first
  |refine cg g43 (λc=>?_) λc=>?_
  |refine lg g43 λm e=>?_
  |(refine fq ?_))
 all_goals (refine aP.of_eq ?_;simp_all[Bw];try omega)
theorem DT {c:List AV}(d:∀a ∈ c,Pure a) (i:3<=B):h_ B (.arr 1 [oU c] 0 true):=λrow e a f=>by
 obtain rfl:=ae_.1 e;obtain rfl:=ae_.1 f;refine .fn (λa h=>by grind) λa h=>?_;simp only[ad_,as_,or_false]at h;rcases h with rfl|rfl|rfl
 ·exact .ip λb g=>(d b g).bm
 ·exact .pt (by omega)
 ·exact .pt (by omega)
theorem ln (d:1<=B):h_ B (.arr 1 [[.yl 0]] 0 true):=λrow b a c=>by
 obtain rfl:=ae_.1 b;obtain rfl:=ae_.1 c;exact .yl (by omega)
theorem Re {T:af}(b:∀a ∈ C,Pure a) (h0:T.get 0=some (.fo J)) (h1:T.get 1=some (.arr 1 [[.yl 0]] 0 true)) (h2:T.get 2=some (.arr 1 [oU C] 0 true)):jF (aU []) 3 T (gE C J) :=
 ⟨⟨_,h0,.fo⟩,⟨_,h1,.row ⟨.yl rfl rfl,trivial⟩⟩,⟨_,h2,.row ⟨.fn trivial ⟨.pure (.ip b),.pt rfl rfl,.pt rfl rfl,trivial⟩,trivial⟩⟩,trivial⟩
theorem rR {T:af}(c:∀a ∈ C,Pure a) (h:q=3\/3 < q) (b:iC T (so1 ρ C J q W)):jF (aU [(3,q)]) 4 T (so1 ρ C J 3 W):=by
 have d:=b (0,.fo J) (by simp[so1]);have e:=b (1,.arr 1 [[.yl 0]] 0 true) (by simp[so1]);have f:=b (2,.arr 1 [oU C] 0 true) (by simp[so1]);have g:=b (q,.arr 1 (ρ.h (List.map aI) W) 0 false) (by simp[so1]);exact⟨⟨_,d,.fo⟩,⟨_,e,.row ⟨.yl rfl rfl,trivial⟩⟩,⟨_,f,.row ⟨.fn trivial ⟨.pure (.ip c),.pt rfl rfl,.pt rfl rfl,trivial⟩,trivial⟩⟩,⟨_,g,.pure (Jd W)⟩,trivial⟩
theorem u6 {T:af}{a0 b c:AV}(a:iC T (so1 ρ C J q W)):Hy w0 T [a0,b,.pt 1 1 0 0,c] 4 [(3,q)] :=
 Hy.cell (i:=2) (q:=0) (j0:=0) rfl (a (1,.arr 1 [[.yl 0]] 0 true) (by simp[so1])) rfl (a (0,.fo J) (by simp[so1])) (by decide) rfl
theorem u7 {b:Nat}(c:∀a ∈ C,Pure a) (d:gT (dz (aU [(3,q)]) 4 b) (gE C J) K):gT (dz (aU [(3,q)]) 4 b) (gE C J) ((0,some (.fo J))::(1,some (.arr 1 [[.yl 0]] 0 true))::(2,some (.arr 1 [oU C] 0 true))::K) :=
 ⟨⟨0,_,rfl,rfl,.fo⟩,⟨1,_,rfl,rfl,.row ⟨.yl rfl,trivial⟩⟩,⟨2,_,rfl,rfl,.row ⟨.fn trivial ⟨.pure (.ip c),.pt rfl,.pt rfl,trivial⟩,trivial⟩⟩,d⟩
theorem acw {b:Nat}(c:∀a ∈ C,Pure a) (d:gT (dz (aU []) 3 b) (gE C J) K):gT (dz (aU []) 3 b) (gE C J) ((0,some (.fo J))::(1,some (.arr 1 [[.yl 0]] 0 true))::(2,some (.arr 1 [oU C] 0 true))::K) :=
 ⟨⟨0,_,rfl,rfl,.fo⟩,⟨1,_,rfl,rfl,.row ⟨.yl rfl,trivial⟩⟩,⟨2,_,rfl,rfl,.row ⟨.fn trivial ⟨.pure (.ip c),.pt rfl,.pt rfl,trivial⟩,trivial⟩⟩,d⟩
theorem DU (h0:S.get 0=some (.fo J)) (h1:S.get 1=some (.arr 1 [[.yl 0]] 0 true)) (h2:S.get 2=some (.arr 1 [oU C] 0 true)) (h3:S.get q=some (.arr 1 (ρ.h (List.map aI) W) 0 false)):iC S (so1 ρ C J q W):=by
 intro p a;simp only[so1,ad_,as_,or_false]at a;rcases a with rfl|rfl|rfl|rfl<;>assumption
theorem VB {P:Program}{f:FuncId}{d:AV}(g:∀a ∈ C,Pure a) (r:Pure d) (h:aG P w0 f [aR ρ aI false W,.ip C,.pt 1 1 0 0,.pt 2 1 0 0] (aq (gE C J) 3) d (aq (gE C J') 3)) :
  aG P w0 f [.gr 3 1 W.length,.ip C,.pt 1 1 0 0,.pt 2 1 0 0] (aq (so1 ρ C J 3 W) 4) d (aq (gE C J') 7):=by
 have l:=aG.SX (m:=[]) (T:=aq (gE C J) 4) (to:=[(0,some (.fo J')),(1,some (.arr 1 [[.yl 0]] 0 true)),(2,some (.arr 1 [oU C] 0 true)),(4,none),(5,none),(6,none)]) (args₀:=[aR ρ aI false W,.ip C,.pt 1 1 0 0,.pt 2 1 0 0]) (r₀:=d) (e:=3) h ⟨.pure (bt _),.pure (.ip g),.pt rfl rfl,.pt rfl rfl,trivial⟩ (.pure r) rfl rfl (Re g rfl rfl rfl) rfl (acw g trivial) rfl rfl (Hy.cell (i:=2) (q:=0) (j0:=0) rfl (by rfl) rfl (by rfl) (by decide) rfl) (ac_ _);have e:(⟨er (aq (gE C J) 4).get [(0,some (.fo J')),(1,some (.arr 1 [[.yl 0]] 0 true)),(2,some (.arr 1 [oU C] 0 true)),(4,none),(5,none),(6,none)],(aq (gE C J) 4).nx+3⟩:af)=aq (gE C J') 7:=by
  have p:er (aq (gE C J) 4).get [(0,some (.fo J')),(1,some (.arr 1 [[.yl 0]] 0 true)),(2,some (.arr 1 [oU C] 0 true)),(4,none),(5,none),(6,none)]=fb (gE C J'):=by
   funext k
   match k with
   |0=>rfl
   |1=>rfl
   |2=>rfl
   |3=>rfl
   |4=>rfl
   |5=>rfl
   |6=>rfl
   |k+7=>rfl
  unfold aq at p ⊢;rw[p]
 rw[e]at l;refine aG.J3 (args':=[aR ρ aI false W,.ip C,.pt 1 1 0 0,.pt 2 1 0 0]) (N:=af.none_.set 3 (some (.arr 1 (ρ.h (List.map aI) W) 0 false))) (S':=aq (gE C J) 4) (λk o b=>?_) (ac_ _) (λk o b=>?_) ⟨?_,.refl _,.refl _,.refl _,trivial⟩ l
 ·have b:bE af.none_.get 3 (some (.arr 1 (ρ.h (List.map aI) W) 0 false)) k=some o:=b;by_cases e:k=3
  ·subst e;rw[aJ]at b;exact b
  ·rw[aO _ _ e]at b;cases b
 ·match k,b with
  |0,b=>exact⟨b,rfl⟩
  |1,b=>exact⟨b,rfl⟩
  |2,b=>exact⟨b,rfl⟩
  |k+3,b=>cases b
 ·exact aP.grow rfl rfl
theorem ajU (p:Pg) (i j:Int) (a b:Rl) (f t:List At) (l:List Int) (q:l.length=f.length) (h:Ys Tryz.prog w0 J (na ρ [l]) bb J') :
  aG Tryz.prog w0 41 [aR ρ aI false l,.ip (c7 ρ p i j a b f t),.pt 1 1 0 0,.pt 2 1 0 0] (aq (gE (c7 ρ p i j a b f t) J) 3) (.v (.bool bb)) (aq (gE (c7 ρ p i j a b f t) J') 3):=by
 have d:=Ys.one h;have c:=l8 (ρ:=ρ) p i j a b f t;have e:=DT c (B:=3) (by decide);clear c;unfold gE oU c7 at *;obtain⟨r,s⟩:=p;obtain⟨u,v,w,ag,x,y⟩:=a;obtain⟨z,A,br,bg,C,D⟩:=b;refine sc 3 3 YO ?_;refine gq eE ?_;refine bS λn g=>?_;rw[au]at g;refine gq eE ?_;refine bS λm k=>?_;rw[au]at k;refine gq eE ?_;refine cn (λo=>?_) λo=>?_;rotate_left
 ·grind
 refine gq eE ?_;refine og eE (ae.yl rfl rfl (d _ _ rfl)) ?_;refine fq ?_;exact⟨[],.aC .v,⟨.inl ⟨_,rfl,.same trivial⟩,.inl ⟨_,rfl,.same (ln (by decide))⟩,.inl ⟨_,rfl,.same e⟩,trivial⟩,rfl⟩
set_option maxHeartbeats 2000000 in
theorem ext_nil (p:Pg) (i j:Int) (a b:Rl) (f t:List At) (l:List Int) (h0:l=[]) (hl:l.length < f.length) (B9:f.length<=1000000) (vL:t.length<=1000000) (f0:At) (BQ:f[l.length]?=some f0) (G:List Int->List (List Int))
  (Y:∀(x:Int) (J J':fG) (bb:Bool),Ys Tryz.prog w0 J (na ρ (G (l++[x]))) bb J'->aG Tryz.prog w0 41 [aR ρ aI false (l++[x]),.ip (c7 ρ p i j a b f t),.pt 1 1 0 0,.pt 2 1 0 0] (aq (gE (c7 ρ p i j a b f t) J) 3) (.v (.bool bb)) (aq (gE (c7 ρ p i j a b f t) J') 3))
  (h:Ys Tryz.prog w0 J (na ρ (G (l++[-1])++nG f0 G l t 0)) bb J') :
  aG Tryz.prog w0 41 [aR ρ aI false l,.ip (c7 ρ p i j a b f t),.pt 1 1 0 0,.pt 2 1 0 0] (aq (gE (c7 ρ p i j a b f t) J) 3) (.v (.bool bb)) (aq (gE (c7 ρ p i j a b f t) J') 3):=by
 have S:=YP (w0:=w0) (ρ:=ρ);rw[<-h0]at S;have Z:=λi=>Mo (w0:=w0) (ρ:=ρ) l i (by omega);have VC:=λx=>VA (w0:=w0) (ρ:=ρ) f0 x;have d:=l8 (ρ:=ρ) p i j a b f t;have O:=DT d (B:=3) (by decide);have L:=DT d (B:=30) (by decide);have M:=λ(x:Int) (J J':fG) (bb:Bool) h=>VB (ρ:=ρ) d .v (Y x J J' bb h);have U:∀x:Int,(l++[x]).length=l.length+1:=λx=>by simp
 simp only[U]at M;clear Y;obtain⟨C,V⟩:∃C,C=c7 ρ p i j a b f t:=⟨_,rfl⟩;rw[<-V]at d O L M ⊢;rw[na,aM_]at h;unfold gE;unfold oU at O L ⊢;unfold c7 at V;obtain⟨o,q⟩:=p;obtain⟨r,s,u,ag,v,w⟩:=a;obtain⟨A,D,br,bg,E,F⟩:=b;obtain⟨fn,fa⟩:=f0;subst V;refine sc 3 3 YO ?_;refine gq eE ?_;refine bS λm0 xy=>?_;rw[au]at xy;refine gq eE ?_;refine bS λm hm=>?_;rw[au]at hm;refine gq eE ?_;refine bq (λH=>?_) (λH=>?_)<;>(try simp only[bL]at H)
 ·grind
 refine gq eE ?_;refine ad.cP rfl (λT=>pl S) ?_;refine gq eE ?_;refine ad.KZ (ρ:=ρ) (f:=aI) (ys:=[-1]) rfl rfl (by rw[bX];rfl) (λ_=>rfl) (by decide) λe len iJ hlen=>?_;refine gq eE ?_;rcases h.split with ⟨rfl,K⟩|⟨J1,K,Q⟩
 ·have n:=M (-1) _ _ _ K;rw[show l++[-1]=e by grind,show l.length+1=len by grind]at n;refine ad.eW rfl (a_.s9 [(3,3)] (so1 ρ (c7 ρ ⟨o,q⟩ i j ⟨r,s,u,ag,v,w⟩ ⟨A,D,br,bg,E,F⟩ f t) J 3 e) ((0,some (.fo J'))::(1,some (.arr 1 [[.yl 0]] 0 true))::(2,some (.arr 1 [oU (c7 ρ ⟨o,q⟩ i j ⟨r,s,u,ag,v,w⟩ ⟨A,D,br,bg,E,F⟩ f t)] 0 true))::[(3,none),(4,none),(5,none),(6,none),(7,none),(8,none),(9,none),(10,none)]) n rfl ⟨.gr rfl rfl,.pure (.ip d),.pt rfl rfl,.pt rfl rfl,trivial⟩ (.pure .v) (DU rfl rfl rfl rfl) (λT g=>rR d (by decide) g) (u7 d trivial) (λT g=>u6 g)) ?_;refine gq eE ?_;refine fq ?_;exact⟨[],.aC .v,⟨.inl ⟨_,rfl,.same trivial⟩,.inl ⟨_,rfl,.same (ln (by decide))⟩,.inl ⟨_,rfl,.same O⟩,trivial⟩,rfl⟩
 have n:=M (-1) _ _ _ K;rw[show l++[-1]=e by grind,show l.length+1=len by grind]at n;refine ad.eW rfl (a_.s9 [(3,3)] (so1 ρ (c7 ρ ⟨o,q⟩ i j ⟨r,s,u,ag,v,w⟩ ⟨A,D,br,bg,E,F⟩ f t) J 3 e) ((0,some (.fo J1))::(1,some (.arr 1 [[.yl 0]] 0 true))::(2,some (.arr 1 [oU (c7 ρ ⟨o,q⟩ i j ⟨r,s,u,ag,v,w⟩ ⟨A,D,br,bg,E,F⟩ f t)] 0 true))::[(3,none),(4,none),(5,none),(6,none),(7,none),(8,none),(9,none),(10,none)]) n rfl ⟨.gr rfl rfl,.pure (.ip d),.pt rfl rfl,.pt rfl rfl,trivial⟩ (.pure .v) (DU rfl rfl rfl rfl) (λT g=>rR d (by decide) g) (u7 d trivial) (λT g=>u6 g)) ?_;clear n K h;refine gq eE ?_;refine bS λm2 eI=>?_;rw[au]at eI;refine gq eE ?_
 refine ad.aK (σ:=Int × fG) 30 30 [] (λp=>[(0,aR ρ aI false l),(1,.ip (c7 ρ ⟨o,q⟩ i j ⟨r,s,u,ag,v,w⟩ ⟨A,D,br,bg,E,F⟩ f t)),(3,.pt 2 1 0 0),(25,cL ρ t),(26,.v (.int .i64 m2)),(27,.v (.int .i64 p.1))]) [] (λp=>gE (c7 ρ ⟨o,q⟩ i j ⟨r,s,u,ag,v,w⟩ ⟨A,D,br,bg,E,F⟩ f t) p.2)
  (λp=>∃z:Nat,p.1=z/\z<=t.length/\Ys Tryz.prog w0 p.2 (na ρ (nG ⟨fn,fa⟩ G l (t.drop z) z)) bb J') (λp=>t.length - p.1.toNat) (0,J1) ⟨0,rfl,by omega,Q⟩ rfl
  ⟨⟨.aC rfl (Pure.bm (bt _)),.aC rfl (.ip λb H=>(d b H).bm),.aC rfl (.pt (by decide)),.aC rfl (Pure.bm (dk _)),.aC rfl .v,.aC rfl .v,trivial⟩,rfl,⟨.inl ⟨_,rfl,.same trivial⟩,.inl ⟨_,rfl,.same (ln (by decide))⟩,.inl ⟨_,rfl,.same L⟩,trivial⟩,rfl,rfl,rfl⟩ ?_
 rintro⟨N,R⟩ ⟨z,X,tD,I⟩;simp only at X I;clear Q;unfold gE oU c7;refine gq eE ?_;refine bq (λaZ=>?_) (λaZ=>?_)<;>(try simp only[bL]at aZ)
 rotate_left
 ·rw[aA_ (by omega),nG,na,bg_]at I;obtain⟨rfl,rfl⟩:=I.RO;refine gq eE ?_;refine ad.ao ?_;refine gq eE ?_;refine fq ?_;exact⟨[],.aC .v,⟨.inl ⟨_,rfl,.same trivial⟩,.inl ⟨_,rfl,.same (ln (by decide))⟩,.inl ⟨_,rfl,.same O⟩,trivial⟩,rfl⟩
 obtain⟨x,hx,aV⟩:=aD (l:=t) (k:=z) (by omega);have MX:=VC x;have kH:=Z N;have VD:=M N;rw[aV,nG,na,aM_,<-X]at I;obtain⟨c1,jO⟩:∃c,c=Bw ⟨fn,fa⟩ x:=⟨_,rfl⟩;obtain⟨c2,dI⟩:∃c,c=l.contains N:=⟨_,rfl⟩;rw[<-jO]at MX I;rw[<-dI]at kH I;clear VC Z M jO dI;obtain⟨xn,xa⟩:=x;refine gq eE ?_;refine ad.op rfl (ae.ind rfl rfl (aB (l:=t) X hx) (aA λ_=>rfl)) ?_;refine gq eE ?_;refine ad.WN rfl (λT=>ae.len rfl) λy hy=>?_;rw[au]at hy;refine gq eE ?_;refine ad.cP rfl (λT=>ae.ind rfl rfl (aB (l:=f) hy BQ) (aA λ_=>rfl)) ?_;refine gq eE ?_;refine ad.cP rfl (λT=>pl MX) ?_;cases c1 with
 |false =>
  refine gq eE ?_;refine cw (λP de=>?_);refine gq eE ?_;refine ad.az (σ:=Int × fG) (P,R) [] ⟨z+1,by grind,by omega,I⟩ ?_ ⟨⟨.aC rfl (Pure.bm (bt _)),.aC rfl (.ip λb H=>(d b H).bm),.aC rfl (.pt (by decide)),.aC rfl (Pure.bm (dk _)),.aC rfl .v,.aC rfl .v,trivial⟩,rfl,⟨.inl ⟨_,rfl,.same trivial⟩,.inl ⟨_,rfl,.same (ln (by decide))⟩,.inl ⟨_,rfl,.same L⟩,trivial⟩,rfl,rfl,rfl⟩;simp only;omega
 |true =>
 refine gq eE ?_;refine ad.cP rfl (λT=>pl kH) ?_;cases c2 with
 |true =>
  refine gq eE ?_;refine cw (λP de=>?_);refine gq eE ?_;refine ad.az (σ:=Int × fG) (P,R) [] ⟨z+1,by grind,by omega,I⟩ ?_ ⟨⟨.aC rfl (Pure.bm (bt _)),.aC rfl (.ip λb H=>(d b H).bm),.aC rfl (.pt (by decide)),.aC rfl (Pure.bm (dk _)),.aC rfl .v,.aC rfl .v,trivial⟩,rfl,⟨.inl ⟨_,rfl,.same trivial⟩,.inl ⟨_,rfl,.same (ln (by decide))⟩,.inl ⟨_,rfl,.same L⟩,trivial⟩,rfl,rfl,rfl⟩;simp only;omega
 |false =>
 refine gq eE ?_;refine ad.cP rfl (λT=>pl S) ?_;refine gq eE ?_;refine ad.KZ (ρ:=ρ) (f:=aI) (ys:=[N]) rfl rfl (by rw[bX];rfl) (λ_=>rfl) (by simp) λe len iJ hlen=>?_;refine gq eE ?_;simp only[Bool.not_false,cg_,if_true]at I;rcases Ys.split I with ⟨rfl,K⟩|⟨J2,K,Q⟩
 ·have n:=VD _ _ _ K;rw[show l++[N]=e by grind,show l.length+1=len by grind]at n;refine ad.eW rfl (a_.s9 [(3,31)] (so1 ρ (c7 ρ ⟨o,q⟩ i j ⟨r,s,u,ag,v,w⟩ ⟨A,D,br,bg,E,F⟩ f t) R 31 e) ((0,some (.fo J'))::(1,some (.arr 1 [[.yl 0]] 0 true))::(2,some (.arr 1 [oU (c7 ρ ⟨o,q⟩ i j ⟨r,s,u,ag,v,w⟩ ⟨A,D,br,bg,E,F⟩ f t)] 0 true))::[(31,none),(32,none),(33,none),(34,none),(35,none),(36,none),(37,none),(38,none)]) n rfl ⟨.gr rfl rfl,.pure (.ip d),.pt rfl rfl,.pt rfl rfl,trivial⟩ (.pure .v) (DU rfl rfl rfl rfl) (λT g=>rR d (by decide) g) (u7 d trivial) (λT g=>u6 g)) ?_;refine gq eE ?_;refine ad.bh ?_;refine gq eE ?_;refine fq ?_;exact⟨[],.aC .v,⟨.inl ⟨_,rfl,.same trivial⟩,.inl ⟨_,rfl,.same (ln (by decide))⟩,.inl ⟨_,rfl,.same O⟩,trivial⟩,rfl⟩
 have n:=VD _ _ _ K;rw[show l++[N]=e by grind,show l.length+1=len by grind]at n;refine ad.eW rfl (a_.s9 [(3,31)] (so1 ρ (c7 ρ ⟨o,q⟩ i j ⟨r,s,u,ag,v,w⟩ ⟨A,D,br,bg,E,F⟩ f t) R 31 e) ((0,some (.fo J2))::(1,some (.arr 1 [[.yl 0]] 0 true))::(2,some (.arr 1 [oU (c7 ρ ⟨o,q⟩ i j ⟨r,s,u,ag,v,w⟩ ⟨A,D,br,bg,E,F⟩ f t)] 0 true))::[(31,none),(32,none),(33,none),(34,none),(35,none),(36,none),(37,none),(38,none)]) n rfl ⟨.gr rfl rfl,.pure (.ip d),.pt rfl rfl,.pt rfl rfl,trivial⟩ (.pure .v) (DU rfl rfl rfl rfl) (λT g=>rR d (by decide) g) (u7 d trivial) (λT g=>u6 g)) ?_;refine gq eE ?_;refine cw (λP de=>?_);refine gq eE ?_;refine ad.az (σ:=Int × fG) (P,J2) [] ⟨z+1,by grind,by omega,Q⟩ ?_ ⟨⟨.aC rfl (Pure.bm (bt _)),.aC rfl (.ip λb H=>(d b H).bm),.aC rfl (.pt (by decide)),.aC rfl (Pure.bm (dk _)),.aC rfl .v,.aC rfl .v,trivial⟩,rfl,⟨.inl ⟨_,rfl,.same trivial⟩,.inl ⟨_,rfl,.same (ln (by decide))⟩,.inl ⟨_,rfl,.same L⟩,trivial⟩,rfl,rfl,rfl⟩;simp only;omega
set_option maxHeartbeats 2000000 in
theorem ext_cons (p:Pg) (i j:Int) (a b:Rl) (f t:List At) (l:List Int) (h0:l ≠ []) (hl:l.length < f.length) (B9:f.length<=1000000) (vL:t.length<=1000000) (f0:At) (BQ:f[l.length]?=some f0) (G:List Int->List (List Int))
  (ih:∀(x:Int) (J J':fG) (bb:Bool),Ys Tryz.prog w0 J (na ρ (G (l++[x]))) bb J'->aG Tryz.prog w0 41 [aR ρ aI false (l++[x]),.ip (c7 ρ p i j a b f t),.pt 1 1 0 0,.pt 2 1 0 0] (aq (gE (c7 ρ p i j a b f t) J) 3) (.v (.bool bb)) (aq (gE (c7 ρ p i j a b f t) J') 3))
  (h:Ys Tryz.prog w0 J (na ρ (G (l++[-1])++nG f0 G l t 0)) bb J') :
  aG Tryz.prog w0 41 [aR ρ aI false l,.ip (c7 ρ p i j a b f t),.pt 1 1 0 0,.pt 2 1 0 0] (aq (gE (c7 ρ p i j a b f t) J) 3) (.v (.bool bb)) (aq (gE (c7 ρ p i j a b f t) J') 3):=by
 have V:=YQ (w0:=w0) (ρ:=ρ) l h0 (by omega);obtain⟨LN,L⟩:∃k,k=l.length:=⟨_,rfl⟩;rw[<-L]at V;have JQ:=λi=>Mo (w0:=w0) (ρ:=ρ) l i (by omega);have VC:=λx=>VA (w0:=w0) (ρ:=ρ) f0 x;have d:=l8 (ρ:=ρ) p i j a b f t;have O:=DT d (B:=3) (by decide);have M:=DT d (B:=30) (by decide);have N:=λ(x:Int) (J J':fG) (bb:Bool) h=>VB (ρ:=ρ) d .v (ih x J J' bb h);have W:∀x:Int,(l++[x]).length=l.length+1:=λx=>by simp
 simp only[W]at N;clear ih;obtain⟨C,X⟩:∃C,C=c7 ρ p i j a b f t:=⟨_,rfl⟩;rw[<-X]at d O M N ⊢;rw[na,aM_]at h;unfold gE;unfold oU at O M ⊢;unfold c7 at X;obtain⟨o,q⟩:=p;obtain⟨r,s,u,ag,v,w⟩:=a;obtain⟨A,D,br,bg,E,F⟩:=b;obtain⟨fn,fa⟩:=f0;subst X;refine sc 3 3 YO ?_;refine gq eE ?_;refine bS λm0 xy=>?_;rw[au]at xy;refine gq eE ?_;refine bS λm hm=>?_;rw[au]at hm;refine gq eE ?_;refine bq (λH=>?_) (λH=>?_)<;>(try simp only[bL]at H)
 ·grind
 refine gq eE ?_;refine ad.eW rfl (a_.jK [] [] [(3,some (.arr 1 (ρ.h (List.map aI) l) 0 false))] V rfl ⟨.pure (bt _),trivial⟩ (.gr rfl) (λp hp=>by grind) (λT e=>trivial) ⟨⟨0,_,rfl,rfl,.pure (Jd l)⟩,trivial⟩) ?_;refine gq eE ?_;refine ad.wi (ρ:=ρ) (f:=aI) (acc:=l) (-1) rfl rfl rfl L (λ_=>rfl) rfl rfl rfl (by omega) λg len P hlen=>?_;refine gq eE ?_;rcases h.split with ⟨rfl,K⟩|⟨J1,K,R⟩
 ·have n:=N (-1) _ _ _ K;rw[<-P,show l.length+1=len by grind]at n;refine ad.eW rfl (a_.s9 [(3,4)] (so1 ρ (c7 ρ ⟨o,q⟩ i j ⟨r,s,u,ag,v,w⟩ ⟨A,D,br,bg,E,F⟩ f t) J 4 g) ((0,some (.fo J'))::(1,some (.arr 1 [[.yl 0]] 0 true))::(2,some (.arr 1 [oU (c7 ρ ⟨o,q⟩ i j ⟨r,s,u,ag,v,w⟩ ⟨A,D,br,bg,E,F⟩ f t)] 0 true))::[(4,none),(5,none),(6,none),(7,none),(8,none),(9,none),(10,none),(11,none)]) n rfl ⟨.gr rfl rfl,.pure (.ip d),.pt rfl rfl,.pt rfl rfl,trivial⟩ (.pure .v) (DU rfl rfl rfl rfl) (λT e=>rR d (by decide) e) (u7 d trivial) (λT e=>u6 e)) ?_;refine gq eE ?_;refine fq ?_;exact⟨[],.aC .v,⟨.inl ⟨_,rfl,.same trivial⟩,.inl ⟨_,rfl,.same (ln (by decide))⟩,.inl ⟨_,rfl,.same O⟩,trivial⟩,rfl⟩
 have n:=N (-1) _ _ _ K;rw[<-P,show l.length+1=len by grind]at n;refine ad.eW rfl (a_.s9 [(3,4)] (so1 ρ (c7 ρ ⟨o,q⟩ i j ⟨r,s,u,ag,v,w⟩ ⟨A,D,br,bg,E,F⟩ f t) J 4 g) ((0,some (.fo J1))::(1,some (.arr 1 [[.yl 0]] 0 true))::(2,some (.arr 1 [oU (c7 ρ ⟨o,q⟩ i j ⟨r,s,u,ag,v,w⟩ ⟨A,D,br,bg,E,F⟩ f t)] 0 true))::[(4,none),(5,none),(6,none),(7,none),(8,none),(9,none),(10,none),(11,none)]) n rfl ⟨.gr rfl rfl,.pure (.ip d),.pt rfl rfl,.pt rfl rfl,trivial⟩ (.pure .v) (DU rfl rfl rfl rfl) (λT e=>rR d (by decide) e) (u7 d trivial) (λT e=>u6 e)) ?_;clear n K h;refine gq eE ?_;refine bS λm2 eI=>?_;rw[au]at eI;refine gq eE ?_
 refine ad.aK (σ:=Int × fG) 30 30 [] (λp=>[(0,aR ρ aI false l),(1,.ip (c7 ρ ⟨o,q⟩ i j ⟨r,s,u,ag,v,w⟩ ⟨A,D,br,bg,E,F⟩ f t)),(3,.pt 2 1 0 0),(25,cL ρ t),(26,.v (.int .i64 m2)),(27,.v (.int .i64 p.1))]) [] (λp=>gE (c7 ρ ⟨o,q⟩ i j ⟨r,s,u,ag,v,w⟩ ⟨A,D,br,bg,E,F⟩ f t) p.2)
  (λp=>∃z:Nat,p.1=z/\z<=t.length/\Ys Tryz.prog w0 p.2 (na ρ (nG ⟨fn,fa⟩ G l (t.drop z) z)) bb J') (λp=>t.length - p.1.toNat) (0,J1) ⟨0,rfl,by omega,R⟩ rfl
  ⟨⟨.aC rfl (Pure.bm (bt _)),.aC rfl (.ip λb H=>(d b H).bm),.aC rfl (.pt (by decide)),.aC rfl (Pure.bm (dk _)),.aC rfl .v,.aC rfl .v,trivial⟩,rfl,⟨.inl ⟨_,rfl,.same trivial⟩,.inl ⟨_,rfl,.same (ln (by decide))⟩,.inl ⟨_,rfl,.same M⟩,trivial⟩,rfl,rfl,rfl⟩ ?_
 rintro⟨S,U⟩ ⟨z,Z,tD,I⟩;simp only at Z I;clear R;unfold gE oU c7;refine gq eE ?_;refine bq (λaZ=>?_) (λaZ=>?_)<;>(try simp only[bL]at aZ)
 rotate_left
 ·rw[aA_ (by omega),nG,na,bg_]at I;obtain⟨rfl,rfl⟩:=I.RO;refine gq eE ?_;refine ad.ao ?_;refine gq eE ?_;refine fq ?_;exact⟨[],.aC .v,⟨.inl ⟨_,rfl,.same trivial⟩,.inl ⟨_,rfl,.same (ln (by decide))⟩,.inl ⟨_,rfl,.same O⟩,trivial⟩,rfl⟩
 obtain⟨x,hx,aV⟩:=aD (l:=t) (k:=z) (by omega);have MX:=VC x;have kH:=JQ S;have VD:=N S;rw[aV,nG,na,aM_,<-Z]at I;obtain⟨c1,jO⟩:∃c,c=Bw ⟨fn,fa⟩ x:=⟨_,rfl⟩;obtain⟨c2,dI⟩:∃c,c=l.contains S:=⟨_,rfl⟩;rw[<-jO]at MX I;rw[<-dI]at kH I;clear VC JQ N jO dI;obtain⟨xn,xa⟩:=x;refine gq eE ?_;refine ad.op rfl (ae.ind rfl rfl (aB (l:=t) Z hx) (aA λ_=>rfl)) ?_;refine gq eE ?_;refine ad.WN rfl (λT=>ae.len rfl) λy hy=>?_;rw[au]at hy;refine gq eE ?_;refine ad.cP rfl (λT=>ae.ind rfl rfl (aB (l:=f) hy BQ) (aA λ_=>rfl)) ?_;refine gq eE ?_;refine ad.cP rfl (λT=>pl MX) ?_;cases c1 with
 |false =>
  refine gq eE ?_;refine cw (λQ de=>?_);refine gq eE ?_;refine ad.az (σ:=Int × fG) (Q,U) [] ⟨z+1,by grind,by omega,I⟩ ?_ ⟨⟨.aC rfl (Pure.bm (bt _)),.aC rfl (.ip λb H=>(d b H).bm),.aC rfl (.pt (by decide)),.aC rfl (Pure.bm (dk _)),.aC rfl .v,.aC rfl .v,trivial⟩,rfl,⟨.inl ⟨_,rfl,.same trivial⟩,.inl ⟨_,rfl,.same (ln (by decide))⟩,.inl ⟨_,rfl,.same M⟩,trivial⟩,rfl,rfl,rfl⟩;simp only;omega
 |true =>
 refine gq eE ?_;refine ad.cP rfl (λT=>pl kH) ?_;cases c2 with
 |true =>
  refine gq eE ?_;refine cw (λQ de=>?_);refine gq eE ?_;refine ad.az (σ:=Int × fG) (Q,U) [] ⟨z+1,by grind,by omega,I⟩ ?_ ⟨⟨.aC rfl (Pure.bm (bt _)),.aC rfl (.ip λb H=>(d b H).bm),.aC rfl (.pt (by decide)),.aC rfl (Pure.bm (dk _)),.aC rfl .v,.aC rfl .v,trivial⟩,rfl,⟨.inl ⟨_,rfl,.same trivial⟩,.inl ⟨_,rfl,.same (ln (by decide))⟩,.inl ⟨_,rfl,.same M⟩,trivial⟩,rfl,rfl,rfl⟩;simp only;omega
 |false =>
 refine gq eE ?_;refine ad.eW rfl (a_.jK [] [] [(31,some (.arr 1 (ρ.h (List.map aI) l) 0 false))] V rfl ⟨.pure (bt _),trivial⟩ (.gr rfl) (λp hp=>by grind) (λT e=>trivial) ⟨⟨0,_,rfl,rfl,.pure (Jd l)⟩,trivial⟩) ?_;refine gq eE ?_;refine ad.wi (ρ:=ρ) (f:=aI) (acc:=l) S rfl rfl rfl L (λ_=>rfl) rfl rfl rfl (by omega) λg len P hlen=>?_;refine gq eE ?_;simp only[Bool.not_false,cg_,if_true]at I;rcases Ys.split I with ⟨rfl,K⟩|⟨J2,K,R⟩
 ·have n:=VD _ _ _ K;rw[<-P,show l.length+1=len by grind]at n;refine ad.eW rfl (a_.s9 [(3,32)] (so1 ρ (c7 ρ ⟨o,q⟩ i j ⟨r,s,u,ag,v,w⟩ ⟨A,D,br,bg,E,F⟩ f t) U 32 g) ((0,some (.fo J'))::(1,some (.arr 1 [[.yl 0]] 0 true))::(2,some (.arr 1 [oU (c7 ρ ⟨o,q⟩ i j ⟨r,s,u,ag,v,w⟩ ⟨A,D,br,bg,E,F⟩ f t)] 0 true))::[(32,none),(33,none),(34,none),(35,none),(36,none),(37,none),(38,none),(39,none)]) n rfl ⟨.gr rfl rfl,.pure (.ip d),.pt rfl rfl,.pt rfl rfl,trivial⟩ (.pure .v) (DU rfl rfl rfl rfl) (λT e=>rR d (by decide) e) (u7 d trivial) (λT e=>u6 e)) ?_;refine gq eE ?_;refine ad.bh ?_;refine gq eE ?_;refine fq ?_;exact⟨[],.aC .v,⟨.inl ⟨_,rfl,.same trivial⟩,.inl ⟨_,rfl,.same (ln (by decide))⟩,.inl ⟨_,rfl,.same O⟩,trivial⟩,rfl⟩
 have n:=VD _ _ _ K;rw[<-P,show l.length+1=len by grind]at n;refine ad.eW rfl (a_.s9 [(3,32)] (so1 ρ (c7 ρ ⟨o,q⟩ i j ⟨r,s,u,ag,v,w⟩ ⟨A,D,br,bg,E,F⟩ f t) U 32 g) ((0,some (.fo J2))::(1,some (.arr 1 [[.yl 0]] 0 true))::(2,some (.arr 1 [oU (c7 ρ ⟨o,q⟩ i j ⟨r,s,u,ag,v,w⟩ ⟨A,D,br,bg,E,F⟩ f t)] 0 true))::[(32,none),(33,none),(34,none),(35,none),(36,none),(37,none),(38,none),(39,none)]) n rfl ⟨.gr rfl rfl,.pure (.ip d),.pt rfl rfl,.pt rfl rfl,trivial⟩ (.pure .v) (DU rfl rfl rfl rfl) (λT e=>rR d (by decide) e) (u7 d trivial) (λT e=>u6 e)) ?_;refine gq eE ?_;refine cw (λQ de=>?_);refine gq eE ?_;refine ad.az (σ:=Int × fG) (Q,J2) [] ⟨z+1,by grind,by omega,R⟩ ?_ ⟨⟨.aC rfl (Pure.bm (bt _)),.aC rfl (.ip λb H=>(d b H).bm),.aC rfl (.pt (by decide)),.aC rfl (Pure.bm (dk _)),.aC rfl .v,.aC rfl .v,trivial⟩,rfl,⟨.inl ⟨_,rfl,.same trivial⟩,.inl ⟨_,rfl,.same (ln (by decide))⟩,.inl ⟨_,rfl,.same M⟩,trivial⟩,rfl,rfl,rfl⟩;simp only;omega
theorem Td (p:Pg) (i j:Int) (a b:Rl) (f t:List At) (d:f.length<=1000000) (e:t.length<=1000000):∀(fs:List At) (l:List Int),f.drop l.length=fs->l.length<=f.length->∀{J J':fG}{bb:Bool},Ys Tryz.prog w0 J (na ρ (eS t fs l)) bb J' ->
  aG Tryz.prog w0 41 [aR ρ aI false l,.ip (c7 ρ p i j a b f t),.pt 1 1 0 0,.pt 2 1 0 0] (aq (gE (c7 ρ p i j a b f t) J) 3) (.v (.bool bb)) (aq (gE (c7 ρ p i j a b f t) J') 3)
 |[],l,m,g,J,J',bb,c=>by
  have r:f.length<=l.length:=dD_.1 m;rw[eS]at c;exact ajU p i j a b f t l (by omega) c
 |f0::fs,l,m,g,J,J',bb,c=>by
  have k:f[l.length]?=some f0:=by
   have:(f.drop l.length)[0]?=some f0:=by grind
   rw[bY_,bs_]at this;exact this
  have n:l.length < f.length:=(ar_.1 k).1;have o:∀x:Int,f.drop (l++[x]).length=fs:=λx=>by
   have:(f.drop l.length).drop 1=fs:=by grind
   rw[da_]at this;rw[af_];exact this
  rw[eS]at c;by_cases q:l=[]
  ·exact ext_nil p i j a b f t l q n d e f0 k (eS t fs) (λx J J' bb h=>Td p i j a b f t d e fs (l++[x]) (o x) (by grind) h) c
  ·exact ext_cons p i j a b f t l q n d e f0 k (eS t fs) (λx J J' bb h=>Td p i j a b f t d e fs (l++[x]) (o x) (by grind) h) c
theorem VE:aP S (.sl true []) (aR ρ aI false []):=by rw[bX];exact aP.wk
theorem YR (p:Pg) (i j:Int) (a b:Rl) (f t:List At) (g:f.length<=1000000) (l:t.length<=1000000):Iter Tryz.prog w0 40 [] [.ip (c7 ρ p i j a b f t)] (na ρ (eS t f [])):=by
 intro J bb J' m;refine⟨.aL [],aq [(0,.fo J')] 1,?_,rfl⟩;have e:=l8 (ρ:=ρ) p i j a b f t;have e0:=Td (w0:=w0) (ρ:=ρ) p i j a b f t g l f [] rfl (ax_ _) m;have e0:=aG.J3 (args':=[aR ρ aI false [],.ip (c7 ρ p i j a b f t),.pt 1 1 0 0,.pt 2 1 0 0]) (args:=[.sl true [],.ip (c7 ρ p i j a b f t),.pt 1 1 0 0,.pt 2 1 0 0]) (N:=af.none_) (S:=aq (gE (c7 ρ p i j a b f t) J) 3) (S':=aq (gE (c7 ρ p i j a b f t) J) 3) (λk o d=>by cases d) (ac_ _) (λk o d=>⟨d,rfl⟩) ⟨VE,.refl _,.refl _,.refl _,trivial⟩ e0;obtain⟨s,u⟩:=p;obtain⟨v,w,x,ag,y,z⟩:=a;obtain⟨A,B,br,bg,C,D⟩:=b;refine sc 1 1 an4 ?_;simp only[aK_,aR_,c7];refine gq g40 ?_;refine og g40 (ae.s9 [] [(0,some (.fo J')),(1,none),(2,none),(3,none),(4,none),(5,none)] e0 rfl ⟨.pure (.sl λr h=>by grind),.pure (.ip e),.pt rfl rfl,.pt rfl rfl,trivial⟩ (.pure .v) (Re e rfl rfl rfl) ⟨⟨0,_,rfl,rfl,.fo⟩,trivial⟩ (Hy.cell (i:=2) (q:=0) (j0:=0) rfl (by rfl) rfl (by rfl) (by decide) rfl)) ?_;refine fq ?_;exact⟨[],.aC (.aL λa h=>by grind),⟨.inl ⟨_,rfl,.same trivial⟩,trivial⟩,rfl⟩
theorem YS (p:Pg) (i j:Int) (a b:Rl) (f t:List At):ah Tryz.prog w0 17 [.agg (c7 ρ p i j a b f t)] (.fn (.func 40) [] [.ip (c7 ρ p i j a b f t)]):=by
 have c:=l8 (ρ:=ρ) p i j a b f t;obtain⟨d,e⟩:=p;obtain⟨g,h,k,ag,l,m⟩:=a;obtain⟨n,o,br,bg,q,r⟩:=b;unfold c7 at c ⊢;refine st an3 g17 ((.fn (λa s=>by grind) λa s=>by obtain rfl:=ae_.1 s;exact .ip c)) ?_
 repeat' (first
  |(refine fq ?_))
 refine aP.fns ?_ ?_
 ·exact trivial
 ·exact⟨aP.box (cs:=c7 ρ ⟨d,e⟩ i j ⟨g,h,k,ag,l,m⟩ ⟨n,o,br,bg,q,r⟩ f t) (cs':=c7 ρ ⟨d,e⟩ i j ⟨g,h,k,ag,l,m⟩ ⟨n,o,br,bg,q,r⟩ f t) rfl ⟨.refl _,.refl _,.refl _,.refl _,.refl _,.refl _,.refl _,.refl _,.refl _,.refl _,.refl _,.refl _,.refl _,.refl _,.refl _,.refl _,.refl _,.refl _,trivial⟩,trivial⟩
end
end
theorem fl1 (c:0 < b) (d:0<=a):a.tdiv b=a.fdiv b:=by grind
theorem fl2 (e:0 < b) (i:a < 0):-((b - 1 - a).tdiv b)=a.fdiv b:=by
 rw[Int.tdiv_eq_ediv_of_nonneg (by omega),Int.fdiv_eq_ediv_of_nonneg _ (by omega)];have f:=Int.mul_ediv_add_emod a b;have g:=Int.emod_nonneg a (by omega:b ≠ 0);have h:=Int.emod_lt_of_pos a e;obtain⟨q,c⟩:∃q,q=a / b:=⟨_,rfl⟩;obtain⟨r,d⟩:∃r,r=a % b:=⟨_,rfl⟩;rw[<-c,<-d]at f;rw[<-d]at g h;rw[<-c];have:b - 1 - a=(b - 1 - r)+b*(-q):=by grind
 rw[this,Int.add_mul_ediv_left _ _ (by omega),Int.ediv_eq_zero_of_lt (by omega) (by omega)];omega
theorem aaL (c:b ≠ 0):a.fdiv b=if a.tmod b ≠ 0/\(decide (a < 0) ≠ decide (b < 0)) then a.tdiv b - 1 else a.tdiv b:=by
 rw[Int.fdiv_eq_tdiv];by_cases h:b ∣ a
 ·rw[if_pos h,if_neg (λk=>k.1 (Int.tmod_eq_zero_of_dvd h))];omega
 ·have d:a.tmod b ≠ 0:=λk=>h (Int.dvd_of_tmod_eq_zero k);rw[if_neg h];have f:a ≠ 0:=λe=>h (by rw[e];exact Int.dvd_zero b);by_cases g:a < 0
  ·grind
  ·grind
theorem VF (h1:-2147483650<=a) (h2:a<=2147483650) (h3:-2147483650<=b) (h4:b<=2147483650):-4611686027017322500<=a*b/\a*b<=4611686027017322500:=by
 have h:=Int.natAbs_mul a b;have:a.natAbs*b.natAbs<=2147483650*2147483650:=Nat.mul_le_mul (by omega) (by omega);omega
theorem uq {n:Int}:gJ n=true ↔ -2147483648<=n/\n<=2147483648:=by grind[gJ]
section
variable {P:Program}{w0:World}{α:AA}{S:af}{dr:Bool}
theorem ae.ajV (h1:x.ev α.tm=.v (.int .i64 a)) (b:-9223372036854775807<=a) (c:a<=9223372036854775807):ae P w0 dr (.neg x) α S (.v (.int .i64 (0 - a))) S:=by
 have:=ae.neg (P:=P) (w0:=w0) (S:=S) (dr:=dr) h1;rw[K_ (by omega) (by omega)]at this;exact this
theorem ae.ajW {isB:BK}{y:QO}(h1:x.ev α.tm=.v (.int .i64 a)) (h2:y.ev α.tm=.v (.int .i64 b)) (c:b ≠ 0) (d:-9223372036854775808<=a.tdiv b) (e:a.tdiv b<=9223372036854775807):ae P w0 false (.bin .quo isB x y) α S (.v (.int .i64 (a.tdiv b))) S:=by
 have:=ae.quo (P:=P) (w0:=w0) (S:=S) (isB:=isB) h1 h2 c;rw[K_ (by omega) (by omega)]at this;exact this
theorem ae.agq {isB:BK}{y:QO}(h1:x.ev α.tm=.v (.int .i64 a)) (h2:y.ev α.tm=.v (.int .i64 b)) (c:b ≠ 0) (d:-4294967300<=a) (e:a<=4294967300):ae P w0 false (.bin .quo isB x y) α S (.v (.int .i64 (a.tdiv b))) S:=by
 have h:=dj_ a b;exact ae.ajW h1 h2 c (by omega) (by omega)
theorem ae.an5 {isB:BK}{y:QO}(h1:x.ev α.tm=.v (.int .i64 a)) (h2:y.ev α.tm=.v (.int .i64 b)) (c:b ≠ 0):ae P w0 false (.bin .rem isB x y) α S (.v (.int .i64 (a.tmod b))) S:=ae.rem h1 h2 c
theorem ae.YT {isB:BK}{y:QO}(h1:x.ev α.tm=.v (.int .i64 a)) (h2:y.ev α.tm=.v (.int .i64 b)) (d:-2147483650<=a) (e:a<=2147483650) (f:-2147483650<=b) (c:b<=2147483650):ae P w0 dr (.bin .mul isB x y) α S (.v (.int .i64 (a*b))) S:=by
 have h:=VF d e f c;exact ae.yf h1 h2 rfl (by omega) (by omega)
end
theorem acx (h1:-2147483648<=a) (h2:a<=2147483648):-2147483648<=a.tdiv b/\a.tdiv b<=2147483648:=by
 have h:=dj_ a b;omega
theorem qbd {q:Int}(c:q=a.tdiv b) (d:-4294967300<=a) (e:a<=4294967300):-4294967300<=q/\q<=4294967300:=by
 have h:=dj_ a b;omega
theorem mbd {q:Int}(c:q=a*b) (h1:-2147483650<=a) (h2:a<=2147483650) (h3:-2147483650<=b) (h4:b<=2147483650):-4611686027017322500<=q/\q<=4611686027017322500:=by
 rw[c];exact VF h1 h2 h3 h4
theorem Kp (b:UInt8):(⟨⟨[b]⟩⟩:ByteArray).toList=[b]:=by
 unfold ByteArray.toList;unfold ByteArray.toList.loop;unfold ByteArray.toList.loop;simp[ByteArray.size,ByteArray.get!]
theorem agt (n:ByteArray) (a b:Int):J5 n a b=if n.toList=(⟨⟨[43]⟩⟩:ByteArray).toList then (a+b,0) else if n.toList=(⟨⟨[45]⟩⟩:ByteArray).toList then (a - b,0) else if n.toList=(⟨⟨[42]⟩⟩:ByteArray).toList then (a*b,0) else
 if b=0 then (0,12) else if n.toList=(⟨⟨[47]⟩⟩:ByteArray).toList then (a.fdiv b,0) else (a - a.fdiv b*b,0):=by
 unfold J5;simp only[Kp]
theorem Rf (c:b ≠ 0) (h1:-2147483648<=a) (h2:a<=2147483648):-2147483649<=a.fdiv b/\a.fdiv b<=2147483648:=by
 have h:=acx (b:=b) h1 h2;rw[aaL c];split<;>omega
section
attribute [local irreducible] ah aG ae ad
def ajX:FQ 210 Tryz.f210:=aF Tryz.func210 Tryz.call210
def agu:List Nat:=[0,2]
def ajY:FQ 211 Tryz.f211:=aF Tryz.func211 Tryz.call211
def agv:List Nat:=[0,2]
def ajZ:FQ 247 Tryz.f247:=aF Tryz.func247 Tryz.call247
def Ou:List Nat:=[1,0,4,6,12]
def aaM:FQ 212 Tryz.f212:=aF Tryz.func212 Tryz.call212
def tf:List Nat:=[2,1,0,20,8,6,7,11,19,33,38,43,22,27,50]
def aaN:FQ 167 Tryz.f167:=aF Tryz.func167 Tryz.call167
def tg:List Nat:=[1,9,5,7,2,3,0,10,15,18,34,44,55,4,6]
def lF (p:Int × Int):AV:=.aL [iv p.1,iv p.2]
theorem jA (p:Int × Int):Pure (lF p):=.aL (vk .v .v)
theorem iQ {p:Int × Int}(h:p=(a,b)):aP S (.aL [.v (.int .i64 a),.v (.int .i64 b)]) (lF p):=by
 subst h;exact .refl _
section
variable {w0:World}{ρ:Hd}
theorem La (x:Int):ah Tryz.prog w0 210 [iv x] (.v (.bool (gJ x))):=by
 refine st ajX agu .v ?_
 repeat' (first
  |refine cg agu (λa=>?_) λa=>?_
  |(refine fq ?_))
 all_goals (refine bY ?_;unfold gJ;simp_all;try omega)
theorem aaO (s:ByteArray):ah Tryz.prog w0 211 [.v (.string s)] (.v (.bool (eB s))):=by
 refine st ajY agv .v ?_
 repeat' (first
  |refine cg agv (λa=>?_) λa=>?_
  |(refine fq ?_))
 all_goals (refine aP.of_eq ?_;simp_all[eB])
theorem acy (a b:Int) (g:b ≠ 0) (h1:-2147483648<=a) (h2:a<=2147483648) (h3:-2147483648<=b) (h4:b<=2147483648):ah Tryz.prog w0 247 [iv a,iv b] (iv (a.fdiv b)):=by
 obtain⟨R,d⟩:∃R,R=a.fdiv b:=⟨_,rfl⟩;rw[<-d];have c:(0 - a).fdiv (0 - b)=a.fdiv b:=by rw[cM_,cM_];exact Int.neg_fdiv_neg a b
 refine st ajZ Ou .v ?_
 repeat' (first
  |(refine ad.int rfl (ae.agq rfl rfl (by omega) (by omega) (by omega)) λq e=>?_;have h:=qbd e (by omega) (by omega);refine gq Ou ?_)
  |refine ig Ou (ae.ajV rfl (by omega) (by omega)) λ_ _=>?_
  |refine cg Ou (λf=>?_) λf=>?_
  |refine ag Ou λ_ _=>?_
  |(refine fq ?_))
 all_goals first
  |subst_vars;refine dP ?_;rw[<-c];exact fl1 (by omega) (by omega)
  |subst_vars;refine dP ?_;exact fl1 (by omega) (by omega)
  |subst_vars;refine dP ?_;rw[<-c,cM_ (Int.tdiv _ _)];exact fl2 (by omega) (by omega)
  |subst_vars;refine dP ?_;rw[cM_ (Int.tdiv _ _)];exact fl2 (by omega) (by omega)
theorem YU (n:ByteArray) (a b:Int) (r:eB n=true):ah Tryz.prog w0 212 [.v (.string n),iv a,iv b] (lF (J6 n a b)):=by
 have e:=aaO (w0:=w0) n;rw[r]at e;have f:=La (w0:=w0) a;have g:=La (w0:=w0) b;have j:=uq (n:=a);have k:=uq (n:=b);obtain⟨A,l⟩:∃A,A=gJ a:=⟨_,rfl⟩;obtain⟨B,m⟩:∃B,B=gJ b:=⟨_,rfl⟩;rw[<-l]at f j;rw[<-m]at g k;have s:∀x,ah Tryz.prog w0 210 [iv x] (.v (.bool (gJ x))):=λx=>La x;obtain⟨R,c⟩:∃R,R=J6 n a b:=⟨_,rfl⟩;rw[<-c];unfold J6 at c;rw[<-l,<-m]at c;clear l m;by_cases w:A=true/\B=true;rotate_left
 ·rw[if_pos (by grind)]at c;refine st aaM tf ((jA _)) ?_
  repeat' (first
   |refine bg tf (pl e) (λ_=>?_) λ_=>?_
   |refine bg tf (pl f) (λ_=>?_) λ_=>?_
   |refine bg tf (pl g) (λ_=>?_) λ_=>?_
   |refine cg tf (λo=>?_) λo=>?_
   |(refine fq ?_))
  all_goals first
   |exact iQ c
   |exfalso;simp_all
 obtain⟨rfl,rfl⟩:=w;obtain⟨t,u⟩:=j.1 rfl;obtain⟨y,z⟩:=k.1 rfl;clear j k;rw[if_neg (by decide)]at c;obtain⟨F,i⟩:∃F,F=a.fdiv b:=⟨_,rfl⟩;have v:b ≠ 0->ah Tryz.prog w0 247 [iv a,iv b] (iv F):=λh=>by rw[i];exact acy a b h t u y z
 have p:b ≠ 0->-2147483649<=F/\F<=2147483648:=λh=>by rw[i];exact Rf h t u
 obtain⟨P,d⟩:∃P,P=J5 n a b:=⟨_,rfl⟩;rw[<-d]at c;rw[agt,<-i]at d;clear i;have D:n.toList=[43]\/n.toList=[45]\/n.toList=[42]\/n.toList=[47]\/n.toList=[37]:=by grind[eB,Kp]
 clear r;simp only[Kp]at d;have fin:∀x,P=(x,0)->∀{S:af},(gJ x=true->aP S (.aL [.v (.int .i64 x),.v (.int .i64 0)]) (lF R))/\(gJ x=false->aP S (.aL [.v (.int .i64 0),.v (.int .i64 5)]) (lF R)):=λx E S=>by grind[iQ]
 refine st aaM tf ((jA _)) ?_
 repeat' (first
  |refine bg tf (pl e) (λ_=>?_) λ_=>?_
  |refine bg tf (pl f) (λ_=>?_) λ_=>?_
  |refine bg tf (pl g) (λ_=>?_) λ_=>?_
  |(refine ad.int rfl (ae.YT rfl rfl (by omega) (by omega) (by omega) (by omega)) λq C=>?_;have G:=mbd C (by omega) (by omega) (by omega) (by omega);refine gq tf ?_)
  |(apply bK tf (v (by grind)))
  |refine bg tf (pl (s _)) (λ_=>?_) λ_=>?_
  |refine cg tf (λo=>?_) λo=>?_
  |refine ag tf λ_ _=>?_
  |(refine fq ?_))
 all_goals clear e f g s v p
 all_goals (try simp only[Kp]at *)
 all_goals first
  |(refine (fin _ ?_).1 (by grind)
    clear fin c;rw[d];simp_all;done)
  |(refine (fin _ ?_).2 (by grind)
    clear fin c;rw[d];simp_all;done)
  |(refine iQ ?_
    clear fin;rw[c,d];simp_all;done)
theorem acz (n:Nat):∀x:Tm,cR x<=n->ah Tryz.prog w0 167 [tm ρ x] (lF (nw x)):=by
 induction n with
 |zero=>intro x h;have:=iO x;omega
 |succ m r =>
  intro x d;rw[iO]at d;obtain⟨R,b⟩:∃R,R=nw x:=⟨_,rfl⟩;rw[<-b];obtain⟨k,i,n,a⟩:=x;rw[nw]at b;simp only at d;have s:=La (w0:=w0) i;have g:=aaO (w0:=w0) n;obtain⟨I,z⟩:∃I,I=gJ i:=⟨_,rfl⟩;obtain⟨O,t⟩:∃O,O=eB n:=⟨_,rfl⟩;rw[<-z]at s b;rw[<-t]at g b;by_cases A:k=2/\a.length=2/\O=true;rotate_left
  ·clear r d t;refine st aaN tg ((jA _)) ?_
   repeat' (first
    |refine bg tg (pl s) (λ_=>?_) λ_=>?_
    |refine bg tg (pl g) (λ_=>?_) λ_=>?_
    |refine cg tg (λw=>?_) λw=>?_
    |refine lg tg λm C=>?_
    |(refine fq ?_))
   all_goals clear s g
   all_goals first
    |(refine iQ ?_
      rw[b];simp_all;done)
    |exfalso;apply A;refine⟨by omega,by omega,by grind⟩
  obtain⟨rfl,B,rfl⟩:=A;rw[if_neg (by omega),if_neg (by omega),if_pos ⟨rfl,B,rfl⟩]at b
  match a,B with
  |[x,y],_ =>
  simp only[bp]at d;have j:=r x (by omega);have o:=r y (by omega);have c:=λp q=>YU (w0:=w0) n p q t.symm;clear r d t z;simp only[X2]at b;obtain⟨⟨p,e⟩,D⟩:∃P,P=nw x:=⟨_,rfl⟩;obtain⟨⟨q,f⟩,E⟩:∃Q,Q=nw y:=⟨_,rfl⟩;rw[<-D]at j b;rw[<-E]at o b;simp only at b;have c:=c p q;obtain⟨⟨u,v⟩,F⟩:∃V,V=J6 n p q:=⟨_,rfl⟩;rw[<-F]at c b;rw[lF]at j o c;simp only at j o c;refine st aaN tg ((jA _)) ?_
  repeat' (first
   |refine bg tg (pl g) (λ_=>?_) λ_=>?_
   |refine og tg (ae.ind rfl rfl (cC (l:=[x,y]) (k:=0) rfl rfl) cD) ?_
   |refine og tg (ae.ind rfl rfl (cC (l:=[x,y]) (k:=1) rfl rfl) cD) ?_
   |(apply bK tg j)
   |(apply bK tg o)
   |(apply bK tg c)
   |exact absurd w (by decide)
   |refine cg tg (λw=>?_) λw=>?_
   |refine lg tg λm C=>?_
   |(refine fq ?_))
  all_goals clear s g j o c
  all_goals first
   |exfalso;simp_all;done
   |(refine iQ ?_
     rw[b];simp_all;done)
theorem VG (x:Tm):ah Tryz.prog w0 167 [tm ρ x] (lF (nw x)):=acz _ x (ac_ _)
end
end
section
attribute [local irreducible] ah aG ae ad
def aj0:FQ 163 Tryz.f163:=aF Tryz.func163 Tryz.call163
def nA:List Nat:=[0,5,4,7,6,1,12,52]
def zT:Ob:=.arr 4 [[iv 0,iv 0,.v (.string ⟨#[]⟩),.sl true []]] 0 true
theorem agw:h_ B zT:=λrow b a c=>by
 obtain rfl:=ae_.1 b;simp only[ad_,as_,or_false]at c;rcases c with rfl|rfl|rfl|rfl
 ·exact .v
 ·exact .v
 ·exact .v
 ·exact .sl λr b=>by grind
theorem acA (l:List Tm):h_ B (.arr 4 (ρ.h (List.map iN) l) 0 false):=by
 show ∀row ∈ ρ.h (List.map iN) l,∀a ∈ row,ec B a;rw[ρ.eq];intro row b a c;obtain⟨x,_,rfl⟩:=av_.1 b;exact Pure.bm (wO x a c)
theorem tC {nl ul j:Nat}{a:aS}{k i:Int}{acc:List Tm}(h0:S.get 0=some (rO nl ul):=by rfl) (h1:S.get 1=some (ij ρ a):=by rfl) (h2:S.get 2=some (cI ρ cl):=by rfl) (h3:S.get 3=some zT:=by rfl) (h4:S.get 4=some (.arr 4 [[iv k,iv i,.v (.string n),.gr j 4 q]] 0 true):=by rfl) (h5:S.get j=some (.arr 4 (ρ.h (List.map iN) acc) 0 false):=by rfl) :
  fO 5 [(5,j)] 6 S [(0,rO nl ul),(1,ij ρ a),(2,cI ρ cl),(3,zT),(4,.arr 4 [[iv k,iv i,.v (.string n),.gr 5 4 q]] 0 true),(5,.arr 4 (ρ.h (List.map iN) acc) 0 false)] :=
 ⟨.inl ⟨_,h0,.same (sw (by decide))⟩,.inl ⟨_,h1,.same (nj _)⟩,.inl ⟨_,h2,.same (fy _)⟩,.inl ⟨_,h3,.same agw⟩,.inl ⟨_,h4,.arr (by exact⟨⟨.aC .v,.aC .v,.aC .v,.jT rfl rfl,trivial⟩,trivial⟩)⟩,.inl ⟨_,h5,.same (acA _)⟩,trivial⟩
theorem acB {v:Int}:aP S (.agg [iv 1,iv v,.v (.string ⟨#[]⟩),.sl true []]) (tm ρ (vr v)):=by
 unfold tm je vr;refine .agg rfl λi a d b c=>?_
 match i with
 |0=>rw[<-oJ_ b,<-oJ_ c];exact .refl _
 |1=>rw[<-oJ_ b,<-oJ_ c];exact .refl _
 |2=>rw[<-oJ_ b,<-oJ_ c];exact .refl _
 |3 =>
  rw[<-oJ_ b,<-oJ_ c,tl,bX];exact aP.wk
 |i+4=>simp at b
section
variable {w0:World}{ρ:Hd}
theorem agx {N:aS}{nl:Nat}(W:fj N) (X:zW N) (F:nl=N.length) (r9:nl<=100000000000) (G:cl.length=nl):∀(m:Nat) (C:Nat),gy N (bT cl) (cM N cl) m C ->
  aG Tryz.prog w0 163 [.pt 0 2 0 0,iv C] (aq (rX ρ nl nl N cl) 3) (tm ρ (TF N (bT cl) (cM N cl) (eX N cl) m C)) (aq (rX ρ nl nl N cl) 3):=by
 intro m
 induction m with
 |zero=>intro C h;exact h.elim
 |succ m Y =>
  intro C H;have u:=Al (w0:=w0) (ρ:=ρ) (N:=N) (cl:=cl) C F rfl G (by omega);have sl:=Q3 (w0:=w0) (ρ:=ρ) (N:=N) (cl:=cl) C F rfl G (by omega);obtain⟨R,b⟩:∃R,R=TF N (bT cl) (cM N cl) (eX N cl) (m+1) C:=⟨_,rfl⟩;rw[<-b];rw[TF]at b;obtain⟨ci,Z⟩:∃ci:Int,ci=C:=⟨_,rfl⟩;rw[<-Z]at u sl ⊢;obtain⟨lv,I⟩:∃v,v=eX N cl C:=⟨_,rfl⟩;rw[<-I]at sl;obtain⟨ki,d⟩:∃k,k=tG (cM N cl C):=⟨_,rfl⟩;rw[<-d]at u;have J:=bQ (ρ:=ρ) R;refine sc 3 3 aj0 ?_;unfold rX;refine gq nA ?_;refine og nA (ae.iA u rfl (aq_ rfl) (gz (by decide)) (Ak) (gz (by decide)) (qy (by decide) .v) .v) ?_;cases n:cM N cl C with
  |none =>
   rw[n]at b d;simp only[<-I]at b;rw[tG]at d;refine cn (λw=>?_) λw=>?_;rotate_left
   ·grind
   refine gq nA ?_;refine ad.op rfl (ae.iA sl rfl (aq_ rfl) (gz (by decide)) (Ak) (gz (by decide)) (qy (by decide) .v) .v) ?_;refine ad.op rfl (ae.quiet rfl) ?_;refine ad.uC (Cv.afm (t:=16) (a':=tm ρ R) (N:=af.none_) (λk o h=>by cases h) (ac_ _) (λk o h=>⟨h,rfl⟩) (λh=>by cases (show AV.agg [iv 1,iv lv,.v (.string ⟨#[]⟩),.sl true []]=AV.u from h)) (by rw[b];exact acB)) ?_;refine gq nA ?_;refine fq ?_;exact⟨[],.aC (Pure.bm J),rC,rfl⟩
  |some s =>
   rw[n]at b d;rw[tG]at d;simp only at b;have z:=H s n;have i:s < nl:=by grind[cM]
   obtain⟨⟨t,e⟩,l⟩:∃x,N[s]?=some x:=⟨_,ai_ (by omega)⟩;rw[(tc l).2]at z b;rw[(tc l).1]at b;have Nx:=(X _ _ _ l).1;have Nh:∀j ∈ e,j < nl:=by
    intro j hj;have:=W.lt s (by omega) j (by rw[(tc l).2];exact hj);omega
   have g:=bW (ρ:=ρ) (f:=pw ρ) l;rw[pw]at g;obtain⟨tk,ti,Fa,ta⟩:=t;simp only at g b;have QP:Pure (aR ρ c8 false e):=dT λx _ a ha=>by
    obtain rfl:=ae_.1 ha;exact .v
   refine cn (λw=>?_) λw=>?_
   ·grind
   clear n H;refine gq nA ?_;refine ad.cP rfl (λT=>ae.dg rfl rfl d i) ?_;refine ad.cP rfl (λT=>ae.quiet rfl) ?_;refine ad.eW rfl (a_.fk rfl rfl g rfl) ?_;refine gq nA ?_;refine ad.cP rfl (λT=>ae.dg rfl rfl d i) ?_;refine ad.cP rfl (λT=>ae.quiet rfl) ?_;refine ad.eW rfl (a_.fk rfl rfl g rfl) ?_;refine gq nA ?_;refine ad.cP rfl (λT=>ae.dg rfl rfl d i) ?_;refine ad.cP rfl (λT=>ae.quiet rfl) ?_;refine ad.eW rfl (a_.fk rfl rfl g rfl) ?_;refine gq nA ?_
   refine ad.aK (σ:=Int × List Tm × Nat) 5 6 [] (λp=>[(0,.pt 0 2 0 0),(4,.pt 3 4 0 0),(5,iv ki),(6,.pt 4 4 0 0),(7,iv p.1)]) []
    (λp=>[(0,rO nl nl),(1,ij ρ N),(2,cI ρ cl),(3,zT),(4,.arr 4 [[iv tk,iv ti,.v (.string Fa),.gr 5 4 p.2.2]] 0 true),(5,.arr 4 (ρ.h (List.map iN) p.2.1) 0 false)])
    (λp=>∃j:Nat,p.1=j/\j<=e.length/\p.2.2=p.2.1.length/\p.2.1=(e.take j).map λx=>TF N (bT cl) (cM N cl) (eX N cl) m (bT cl x)) (λp=>e.length - p.1.toNat) (0,[],0) ⟨0,rfl,by simp,rfl,by simp⟩ rfl cz ?_
   rintro⟨ji,A,K⟩ ⟨j,DS,Jb,L,r⟩;simp only at DS L r;refine gq nA ?_;refine ad.op rfl (ae.dg rfl rfl d i) ?_;refine ad.op rfl (ae.quiet rfl) ?_;refine og nA (ae.fk rfl rfl g rfl) ?_;refine lg nA λq hq=>?_;refine cn (λbf=>?_) λbf=>?_
   ·obtain⟨x,M⟩:∃x,e[j]?=some x:=⟨_,ai_ (by omega)⟩;have mQ:x < nl:=Nh x (aa_ M);obtain⟨y,O⟩:∃y,cl[x]?=some y:=⟨_,ai_ (by omega)⟩;have P:=bW (ρ:=ρ) (f:=c8) O;obtain⟨Q,S⟩:∃Q:Int,Q=y:=⟨_,rfl⟩;rw[c8,<-S]at P;obtain⟨B,Dn⟩:∃B:Int,B=x:=⟨_,rfl⟩;have pY:idx (ρ.h (List.map c8) e) ji=some [iv B]:=by grind[aB,c8]
    have c:=Y y (by grind[kV]);have U:TF N (bT cl) (cM N cl) (eX N cl) m (bT cl x)=TF N (bT cl) (cM N cl) (eX N cl) m y:=by rw[kV O]
    have D:(e.take (j+1)).map (λx=>TF N (bT cl) (cM N cl) (eX N cl) m (bT cl x))=A++[TF N (bT cl) (cM N cl) (eX N cl) m y]:=by
     rw[Ep M,aM_,<-r,<-U];rfl
    obtain⟨E,V⟩:∃t,t=TF N (bT cl) (cM N cl) (eX N cl) m y:=⟨_,rfl⟩;rw[<-V]at c D;rw[<-S]at c;have arL:K<=6:=by grind
    clear V U;refine gq nA ?_;refine ad.cP rfl (λT=>ae.dg rfl rfl d i) ?_;refine ad.cP rfl (λT=>ae.quiet rfl) ?_;refine ad.eW rfl (a_.fk rfl rfl g rfl) ?_;refine gq nA ?_;refine ad.cP rfl (λT=>ae.ind rfl rfl pY (aA λ_=>rfl)) ?_;refine gq nA ?_;refine ad.cP rfl (λT=>ae.dg rfl rfl Dn mQ) ?_;refine ad.eW rfl (a_.fk rfl rfl P rfl) ?_;refine gq nA ?_;refine ad.eW rfl (a_.iA false c rfl (.inl (by decide)) (gz (by decide)) (xL) Q2 (gz (by decide)) (qy (by decide) .v) (Pure.bm (bQ E))) ?_;refine gq nA ?_;refine ad.wi E (f:=iN) rfl rfl rfl L (λ_=>rfl) (by rw[pM (ρ:=ρ)];rfl) (ov E) (by rw[pM (ρ:=ρ)];rfl) (by omega) (λdu tz HC vi=>?_);refine gq nA ?_;refine ag nA λi3 de=>?_;refine ad.az (σ:=Int × List Tm × Nat) (i3,du,tz) [(5,6)] ⟨j+1,by grind,by omega,vi,by grind⟩ ?_ (by exact⟨sq,rfl,tC,rfl,rfl,rfl⟩);simp only;omega
   ·have lK:j=e.length:=by omega
    rw[lK,aQ_ (ac_ _)]at r;rw[<-r]at b;subst b;refine gq nA ?_;refine ad.ao ?_;refine ad.xI (ad.BS (Cv.Np (kb:=4) (k:=5) (j:=3) (m:=K) rfl rfl (by decide) rfl (by grind[au])) ?_);refine gq nA ?_;refine fq ?_;exact⟨[],.aC (Pure.bm J),rC,rfl⟩
end
end
end Go.Proofs.YtbpabjmnhggajaaGreat
