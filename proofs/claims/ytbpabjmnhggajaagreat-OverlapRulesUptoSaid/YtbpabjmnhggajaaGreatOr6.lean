import Derived.Test.YtbpabjmnhggajaaGreatOr5
namespace Go.Proofs.YtbpabjmnhggajaaGreat
set_option linter.all false
open Go.RowKit
variable {K:AV->af->Prop}{cJ:Array Bool}{cs:List AV}{i:Nat}{S:af}
section
variable {P:Program}{w0:World}{rd:Bool}{n:Nat}{α:AA}{S S':af}{ops:Array Oper}
def EA (acc:List Nat) (o:Oper):Nat:=o.after.toList.foldl (λs e=>if Region.binds .any e then s ||| (2 ^ e.on ||| acc.getD e.on 0) else s) 0
def beforeL (acc:List Nat):List Oper->List Nat
 |[]=>acc
 |o::os=>beforeL (acc++[EA acc o]) os
def r4 (k:Nat):List Oper->Bool
 |[]=>true
 |o::os=>o.after.toList.all (λe=>!Region.binds .any e || Nat.blt e.on k) && r4 (k+1) os
def EB (ops:Array Oper) (m:List Nat) (y:Nat):Nat->Bool
 |0=>true
 |x+1=>((m.getD y 0).testBit x || xS ops x y) && EB ops m y x
def BL (ops:Array Oper) (m:List Nat):Nat->Bool
 |0=>true
 |y+1=>EB ops m y y && BL ops m y
def Ic (ops:Array Oper):Bool:=r4 0 ops.toList && BL ops (beforeL [] ops.toList) ops.size
theorem Py {acc:List Nat}{o:Oper}{x:Nat}(h:(EA acc o).testBit x=true):∃e ∈ o.after.toList,Region.binds .any e=true/\(x=e.on\/(acc.getD e.on 0).testBit x=true):=by
 have key:∀(l:List Edge) (s:Nat),(l.foldl (λs e=>if Region.binds .any e then s ||| (2 ^ e.on ||| acc.getD e.on 0) else s) s).testBit x=true->s.testBit x=true\/∃e ∈ l,Region.binds .any e=true/\(x=e.on\/(acc.getD e.on 0).testBit x=true):=by
  intro l
  induction l with
  |nil=>exactλs h=>.inl h
  |cons e l b =>
   intro s h;rw[cR_]at h;rcases b _ h with a|⟨d,c,a⟩
   ·grind
   ·grind
 rcases key _ 0 h with a|a
 ·grind
 ·grind
theorem Fk:∀{os:List Oper}{acc:List Nat}{i:Nat}{o:Oper},os[i]?=some o->∃a,(beforeL acc os).getD (acc.length+i) 0=EA a o/\(∀j,j < acc.length+i->a.getD j 0=(beforeL acc os).getD j 0)/\a.length=acc.length+i
 |[],acc,i,o,h=>by grind
 |p::os,acc,i,o,h=>by
  have g:∀(os:List Oper) (acc:List Nat) (j:Nat),j < acc.length->(beforeL acc os).getD j 0=acc.getD j 0:=by
   intro os
   induction os with
   |nil=>intro acc j b;rfl
   |cons p os c =>
    intro acc j b;rw[beforeL,c _ _ (by grind)];simp[bb_ b]
  cases i with
  |zero =>
   simp at h;subst h;refine⟨acc,?_,λj b=>?_,rfl⟩
   ·grind[beforeL]
   ·grind
  |succ i =>
   simp at h;obtain⟨a,d,e,f⟩:=Fk (acc:=acc++[EA acc p]) h;simp only[af_,aw_,aN_]at d e f;refine⟨a,?_,λj b=>?_,by omega⟩
   ·grind[beforeL]
   ·grind[beforeL]
theorem D3:∀{os:List Oper}{k i:Nat}{o:Oper},r4 k os=true->os[i]?=some o->∀e ∈ o.after.toList,Region.binds .any e=true->e.on < k+i
 |[],k,i,o,_,h=>by grind
 |p::os,k,i,o,a,h=>by
  simp only[r4,al_]at a;cases i with
  |zero =>
   simp at h;subst h;intro e b c;have:=aP_.1 a.1 e b;rw[c]at this;simp at this;omega
  |succ i =>
   simp at h;intro e b c;have:=D3 a.2 h e b c;omega
structure EC (ops:Array Oper) (cJ:Array Bool):Prop where
 size:cJ.size=ops.size
 closed:∀y x,cJ.getD y false=true->((beforeL [] ops.toList).getD y 0).testBit x=true->cJ.getD x false=true
theorem KF (f:cJ.size=ops.size) (h:i ∈ Region.ready .any ops cJ):∃o,ops[i]?=some o/\i < ops.size/\cJ.getD i false=false/\∀e ∈ o.after.toList,Region.binds .any e=true->cJ.getD e.on false=true:=by
 unfold Region.ready at h;rw[bB_]at h;obtain⟨b,a⟩:=h;have b:i < ops.size:=by grind
 simp only[al_]at a;have c:ops[i]?=some ops[i]:=aG_ b;rw[c]at a;simp only[aE_,bz_]at a;refine⟨_,c,b,?_,λe g d=>?_⟩
 ·grind
 ·have:=Array.all_eq_true'.1 a.2 e (by grind);rw[d]at this;simpa using this
theorem KG (i:r4 0 ops.toList=true) {y x:Nat}{o:Oper}(l:ops[y]?=some o) (h:((beforeL [] ops.toList).getD y 0).testBit x=true):∃e ∈ o.after.toList,Region.binds .any e=true/\(x=e.on\/((beforeL [] ops.toList).getD e.on 0).testBit x=true):=by
 have a:ops.toList[y]?=some o:=by grind
 obtain⟨m,b,c,n⟩:=Fk (acc:=[]) a;simp only[aN_,aD_]at b c;rw[b]at h;obtain⟨e,d,f,k⟩:=Py h;refine⟨e,d,f,k.imp id λg=>?_⟩;have p:=D3 i a e d f;rw[c e.on (by omega)]at g;exact g
theorem Gx {j:Nat}(hi:i < cJ.size):(cJ.setIfInBounds i true).getD j false=if j=i then true else cJ.getD j false:=by
 simp only[aT_,cP_];by_cases c:i=j
 ·grind
 ·grind
theorem EC.step (g:r4 0 ops.toList=true) (a:EC ops cJ) (h:i ∈ Region.ready .any ops cJ):EC ops (cJ.setIfInBounds i true):=by
 obtain⟨o,j,k,q,l⟩:=KF a.size h;refine⟨by simp[a.size],λy x b f=>?_⟩;rw[Gx (by rw[a.size];exact k)]at b ⊢;by_cases c:y=i
 ·subst c;obtain⟨e,m,n,d⟩:=KG g j f;have p:=l e m n;rcases d with rfl|d
  ·grind
  ·rw[a.closed e.on x p d];simp
 ·rw[if_neg c]at b;rw[a.closed y x b f];simp
theorem y6 (l:r4 0 ops.toList=true):∀(fuel t:Nat) (cJ:Array Bool),EC ops cJ ->
  (∀i ∈ Region.linearise.go .any ops fuel t cJ [],i < ops.size/\cJ.getD i false=false)/\(Region.linearise.go .any ops fuel t cJ []).Nodup /\
  (Region.linearise.go .any ops fuel t cJ []).Pairwise (λy x=>((beforeL [] ops.toList).getD y 0).testBit x=false) /\
  ((∃i,i < ops.size/\cJ.getD i false=false/\i ∉ Region.linearise.go .any ops fuel t cJ [])->(Region.linearise.go .any ops fuel t cJ []).length=fuel):=by
 intro fuel
 induction fuel with
 |zero=>intro t cJ a;exact⟨λi d=>by simp[Region.linearise.go]at d,by simp[Region.linearise.go],by simp[Region.linearise.go],λ_=>by simp[Region.linearise.go]⟩
 |succ fuel E =>
  intro t cJ a;have e:Region.linearise.go .any ops (fuel+1) t cJ []=match (Region.ready .any ops cJ)[t % (Region.ready .any ops cJ).length]? with
   |some i=>Region.linearise.go .any ops fuel (t / (Region.ready .any ops cJ).length) (cJ.setIfInBounds i true) [i]
   |none=>[]:=by
   simp only[Region.linearise.go]
   rfl
  rw[e];cases d:(Region.ready .any ops cJ)[t % (Region.ready .any ops cJ).length]? with
  |none =>
   refine⟨λi h=>by grind,by simp,by simp,λ⟨i,f,m,_⟩=>?_⟩;exfalso;have F:Region.ready .any ops cJ=[]:=by
    cases n:Region.ready .any ops cJ with
    |nil=>rfl
    |cons x w =>
     rw[n]at d;have g:t % (x::w).length < (x::w).length:=Nat.mod_lt _ (by simp);simp at d;simp at g;omega
   have least:∀k,(∀j,j < k->j < ops.size->cJ.getD j false=true)->k < ops.size->cJ.getD k false=false->False:=by
    intro k z p G;have:k ∈ Region.ready .any ops cJ:=by
     unfold Region.ready;rw[bB_];refine⟨by grind,?_⟩;have g:k < cJ.size:=by rw[a.size];exact p
     rw[aG_ p];simp only[aE_,bz_,al_];refine⟨?_,?_⟩
     ·grind
     ·rw[Array.all_eq_true'];intro b H;cases q:Region.binds .any b with
      |false=>rfl
      |true =>
       have:=D3 (k:=0) (i:=k) l (by rw[bd_];exact aG_ p) b (by grind) q;simp only[Bool.not_true,cZ_];exact z b.on (by omega) (by omega)
    rw[F]at this;cases this
   have all:∀k,k<=ops.size->∀j,j < k->j < ops.size->cJ.getD j false=true:=by
    intro k
    induction k with
    |zero=>intro _ j A;omega
    |succ k I =>
     intro z j A O;by_cases c:j < k
     ·grind
     ·grind
   have:=all ops.size (ac_ _) i f f;rw[m]at this;cases this
  |some i =>
   have B:=aa_ d;obtain⟨o,r,g,P,n⟩:=KF a.size B;have s:=a.step l B;obtain⟨f1,f2,f3,f4⟩:=E (t / (Region.ready .any ops cJ).length) _ s;simp only;rw[linearise_go_acc,List.reverse_singleton,List.singleton_append];have u:i < cJ.size:=by rw[a.size];exact g
   have J:∀j ∈ Region.linearise.go .any ops fuel (t / (Region.ready .any ops cJ).length) (cJ.setIfInBounds i true) [],j ≠ i/\cJ.getD j false=false:=by grind[Gx]
   refine⟨λj A=>?_,?_,?_,λ⟨k,f,m,C⟩=>?_⟩
   ·grind
   ·grind
   ·rw[bP_];refine⟨λx K=>?_,f3⟩;cases q:((beforeL [] ops.toList).getD i 0).testBit x with
    |false=>rfl
    |true =>
     obtain⟨b,L,M,v⟩:=KG l r q;have N:=n b L M;have D:=(J x K).2;rcases v with rfl|v
     ·grind
     ·rw[a.closed b.on x N v]at D;cases D
   ·rw[aw_,f4 ⟨k,f,?_,λh=>C (by grind)⟩];rw[Gx u,if_neg (λe=>C (by grind))];exact m
theorem Fl {m:List Nat}{y:Nat}:∀{k x:Nat},EB ops m y k=true->x < k->(m.getD y 0).testBit x=true\/xS ops x y=true
 |0,x,_,h=>by omega
 |k+1,x,a,h=>by
  simp only[EB,al_,cd_]at a;by_cases c:x=k
  ·grind
  ·exact Fl a.2 (by omega)
theorem D4 {m:List Nat}:∀{k x y:Nat},BL ops m k=true->y < k->x < y->(m.getD y 0).testBit x=true\/xS ops x y=true
 |0,x,y,_,h,_=>by omega
 |k+1,x,y,a,h,b=>by
  simp only[BL,al_]at a;by_cases c:y=k
  ·grind[Fl]
  ·exact D4 a.2 (by omega) b
theorem KH:∀(l:List Nat),l.Nodup->∀m,(∀y ∈ l,y < m)->l.length<=m:=by
 intro l b m
 induction m generalizing l with
 |zero=>intro h;cases l with
  |nil=>simp
  |cons a l=>have:=h a (by simp);omega
 |succ m d =>
  intro h;by_cases c:m ∈ l
  ·have e:=d (l.erase m) (b.erase m) (λy f=>by grind);rw[dr_ c]at e;omega
  ·grind
theorem dN.draw {id:Nat}{i:AA}(l:P.follows .mixedOrders=true) (j:Ic ops=true) (h:tI P w0 n ops (List.range ops.size) α S i S'):dN P w0 rd n (.region id ops true) α S .normal i S':=by
 intro F m A g a w o J p q;simp only[Ic,al_]at j;obtain⟨r,s⟩:=j;refine wpIn_region_draw λt=>?_;simp only[Region.schedule,l,cA_,if_true];have u:EC ops (Array.replicate ops.size false):=⟨by simp,λy x b=>by
  simp only[aT_,cB_]at b;split at b<;>simp at b⟩
 obtain⟨f1,f2,f3,f4⟩:=y6 r ops.size t _ u;have v:∀x,x ∈ Region.linearise .any ops t ↔ x ∈ List.range ops.size:=by
  intro x;refine⟨λd=>by simpa using (f1 x d).1,λd=>?_⟩;have d:x < ops.size:=by grind
  by_cases c:x ∈ Region.linearise .any ops t
  ·grind
  ·exfalso;have z:=f4 ⟨x,d,by simp[aT_,cB_,d],c⟩;have B:(x::Region.linearise.go .any ops ops.size t (Array.replicate ops.size false) []).Nodup:=by
    rw[bu_];exact⟨c,f2⟩
   have hlen:=KH (x::Region.linearise.go .any ops ops.size t (Array.replicate ops.size false) []) B ops.size (λy b=>by grind);rw[aw_,z]at hlen;omega
 have C:(Region.linearise .any ops t).Pairwise (λy x=>x < y->xS ops x y=true):=by
  refine ds_ ?_ f3;intro y x b d K D;rcases D4 s (f1 y b).1 D with e|e
  ·grind
  ·grind
 have E:(List.range ops.size).Pairwise (· < ·):=dt_;obtain⟨k,f⟩:=p.drew;have f:St w0 A g S { w with drawn:=w.drawn+1 }:=f;refine (tI.perm E C v f2 h).OD F m A g a _ _ o f (q.later k.toLater) λL M G e H I=>⟨rfl,G,e,H,k.trans I⟩
end
section
variable {P:Program}{w0:World}{rd:Bool}{n:Nat}{o:Oper}{α:AA}{S S':af}{r:AV}{ops:Array Oper}
def Ie (P:Program) (w0:World) (K:AV->af->Prop) (S:af) (args:List AV):AV->Prop
 |.v (.func (.func g) first cap)=>match first.toList,cap.toList with
  |[],[]=>∃r,aG P w0 g args S r S/\K r S
  |_,_=>False
 |.fn (.func g) first cap=>∃r,aG P w0 g (first++args++cap) S r S/\K r S
 |_=>False
def cP (P:Program) (w0:World) (o:Op) (α:AA) (S:af) (K:AV->af->Prop):Prop :=
 match o with
 |.call c=>match c.callee with
  |.value f=>Ie P w0 K S (c.args.toList.map α.ev) (α.ev f)
  |_=>bu P w0 (.call c) α S K
 |o=>bu P w0 o α S K
theorem abd {op:Op}(e:oQ op=false) (i:Dk op=false) (h:cP P w0 op α S K):∃r,K r S/\bu P w0 op α S (wJ r S):=by
 cases op with
 |load t x =>
  simp only[cP,bu,bC]at h ⊢;split at h
  ·exact⟨_,h,⟨rfl,rfl⟩⟩
  ·grind
 |call c =>
  simp only[Dk]at i;simp only[cP]at h;split at h
  ·rename_i f j;unfold Ie at h;simp only[bu,j];split at h
   ·rename_i g first cap a
    split at h
    ·rename_i k l;obtain⟨r,b,d⟩:=h;refine⟨r,d,?_⟩;rw[a];simp only[Ei,k,l];exact⟨r,S,b,rfl,rfl⟩
    ·grind
   ·rename_i g first cap a
    obtain⟨r,b,d⟩:=h;refine⟨r,d,?_⟩;rw[a];exact⟨r,S,b,rfl,rfl⟩
   ·grind
  ·grind[oQ]
 |_=>simp[Dk,e,oQ]at i e
theorem Le {op:Op}(h:cP P w0 op α S K):bu P w0 op α S K:=by
 cases op with
 |call c =>
  simp only[cP]at h;split at h
  ·rename_i f a;unfold Ie at h;simp only[bu,a];split at h
   ·grind[Ei]
   ·rename_i g first cap b
    obtain⟨r,d,e⟩:=h;rw[b];exact⟨r,S,d,e⟩
   ·grind
  ·grind
 |_=>exact h
theorem n0 {α:AA}{S:af}(h:bu P w0 o.op α S K):∃r S',iY P w0 n o (α.only (dH o)) S r S'/\K r S' :=
 Dy (VV (β:=α.only (dH o)) (λx b=>(gm λt e=>gw (by grind)).symm) h)
theorem akr (hi:ops[i]?=some o) (c:(match o.dst with|some d=>Nat.blt d n|none=>true)=true) (e:o.guard=none\/∃j want,o.guard=some (j,want)/\uG ops α j=some (some want)) (h:cP P w0 o.op α S K) :
  ∃r S',GS P w0 n ops i α S (α.put o.dst r) S'/\K r S':=by
 cases k:oQ o.op with
 |true =>
  obtain⟨r,a,b⟩:=aaZ k (Le h);have l:∀T,iY P w0 n o (α.only (dH o)) T r T:=λT=>by
   obtain⟨f,S',g,rfl,rfl⟩:=n0 (n:=n) (b T);exact g
  exact⟨r,S,⟨o,hi,c,.inr ⟨e,r,rfl,l S,λ_=>⟨rfl,l⟩,λ_=>rfl⟩⟩,a⟩
 |false =>
  cases m:Dk o.op with
  |false =>
   obtain⟨r,a,b⟩:=abd k m h;obtain⟨f,S',g,rfl,rfl⟩:=n0 (n:=n) b;exact⟨f,S',⟨o,hi,c,.inr ⟨e,f,rfl,g,λh=>(by grind),λ_=>rfl⟩⟩,a⟩
  |true =>
   obtain⟨r,S',a,b⟩:=n0 (n:=n) (Le h);exact⟨r,S',⟨o,hi,c,.inr ⟨e,r,rfl,a,λh=>(by grind),λh=>(by grind)⟩⟩,b⟩
end
theorem wrap64 {c:Int}(h1:-9223372036854775808<=c) (h2:c<=9223372036854775807):IntKind.i64.wrap c=c:=by
 unfold IntKind.wrap;simp[IntKind.bits,IntKind.signed];omega
theorem acW {α β:Type}{l:List α}{f:α->β}{i:Int}{k:Nat}{x:α}(hi:i=(k:Int)) (h:l[k]?=some x):idx (l.map f) i=some (f x):=by grind[PV]
def iv (i:Int):AV:=.v (.int .i64 i)
def aI (i:Int):List AV:=[iv i]
def kc:List AV->Prop
 |[]=>True
 |a::l=>Pure a/\kc l
theorem kc.all:∀{l:List AV},kc l->∀a ∈ l,Pure a
 |[],_,a,h=>by grind
 |b::l,c,a,h=>by
  rcases ad_.1 h with rfl|h
  ·exact c.1
  ·exact kc.all c.2 a h
def iq (S:af):List AV->List AV->Prop
 |[],[]=>True
 |a::l,b::c=>aP S a b/\iq S l c
 |_,_=>False
theorem iq.len {S:af}:∀{l b:List AV},iq S l b->l.length=b.length
 |[],[],_=>rfl
 |a::l,c::b,h=>by simp[iq.len h.2]
 |[],_::_,h=>h.elim
 |_::_,[],h=>h.elim
theorem iq.at {S:af}:∀{l e:List AV},iq S l e->∀(i:Nat) (a a':AV),l[i]?=some a->e[i]?=some a'->aP S a a'
 |[],[],_,i,a,a',h,_=>by grind
 |b::l,f::e,h,i,a,a',c,d=>by
  cases i with
  |zero=>simp at c d;subst c d;exact h.1
  |succ i=>simp at c d;exact iq.at h.2 i a a' c d
 |[],_::_,h,_,_,_,_,_=>h.elim
 |_::_,[],h,_,_,_,_,_=>h.elim
theorem iq.refl (S:af):∀(l:List AV),iq S l l
 |[]=>trivial
 |a::l=>⟨.refl a,iq.refl S l⟩
section
variable {P:Program}{w0:World}{f:FuncId}{args fN:List AV}{r:AV}
theorem ah.RK (h:ah P w0 f args r) (a:kc args) (S:af):aG P w0 f args S r S:=h.LH a.all S
theorem ah.LY (h:ah P w0 f args r) (b:kc args) (c:zd r) (a:iq S fN args):aG P w0 f fN S r S:=h.W5 b.all c S a.len a.at
end
section
variable {S:af}
theorem aP.wk {ex:Bool}{rows:List (List AV)}:aP S (.sl ex rows) (.sl false rows) :=
 .sl rfl (λi r e c b=>by grind) (λi j r e a g c b f d=>by
  rw[c]at b;obtain rfl:=oJ_ b;rw[f]at d;obtain rfl:=oJ_ d;exact .refl _)
theorem aP.fns {f:Fn}{l a m b:List AV}(h1:iq S l a) (h2:iq S m b):aP S (.fn f l m) (.fn f a b):=.fn h1.len h2.len h1.at h2.at
theorem aP.box {k:Nat}{cs':List AV}(h:S.get k=some (.arr cs.length [cs] 0 true)) (b:iq S cs cs'):aP S (.pt k cs.length 0 0) (.ip cs') :=
 .pt h rfl (by rw[b.len];exact ac_ _) (λq a d c e=>by rw[aD_]at c;exact b.at q a d c e)
end
def Wt {β:Type}(r:AV) (k:AV->β):β:=match r with
 |.u=>k .u
 |.v x=>k (.v x)
 |.agg l=>k (.agg l)
 |.aL l=>k (.aL l)
 |.sl e l=>k (.sl e l)
 |.ip l=>k (.ip l)
 |.ob a b c d e=>k (.ob a b c d e)
 |.pt a b c d=>k (.pt a b c d)
 |.mp a=>k (.mp a)
 |.fn a b c=>k (.fn a b c)
 |.yl a=>k (.yl a)
 |.gr a b c=>k (.gr a b c)
theorem Wu {β:Type}{r:AV}{k:AV->β}:Wt r k=k r:=by cases r<;>rfl
def pE {β:Type}:List AV->(List AV->β)->β
 |[],k=>k []
 |a::l,k=>Wt a λa=>pE l λl=>k (a::l)
theorem vf {β:Type}:∀{l:List AV}{k:List AV->β},pE l k=k l
 |[],k=>rfl
 |a::l,k=>by rw[pE,Wu,vf]
def aks {β:Type}(r:AV) (k:AV->β):β:=match r with
 |.u=>k .u
 |.v x=>k (.v x)
 |.agg l=>pE l λl=>k (.agg l)
 |.aL l=>pE l λl=>k (.aL l)
 |.sl e l=>k (.sl e l)
 |.ip l=>pE l λl=>k (.ip l)
 |.ob a b c d e=>k (.ob a b c d e)
 |.pt a b c d=>k (.pt a b c d)
 |.mp a=>k (.mp a)
 |.fn a b c=>pE b λb=>pE c λc=>k (.fn a b c)
 |.yl a=>k (.yl a)
 |.gr a b c=>k (.gr a b c)
def Ig {β:Type}:List (List AV)->(List (List AV)->β)->β
 |[],k=>k []
 |a::l,k=>pE a λa=>Ig l λl=>k (a::l)
theorem KI {β:Type}:∀{l:List (List AV)}{k:List (List AV)->β},Ig l k=k l
 |[],k=>rfl
 |a::l,k=>by rw[Ig,vf,KI]
def Ji (S:af) (cs:List AV):Option (AV × af):=pE cs λcs=>match S with|⟨g,x⟩=>some (.pt x cs.length 0 0,⟨bE g x (some (.arr cs.length [cs] 0 true)),x+1⟩)
theorem AD:Ji S cs=some (nr S cs):=by
 unfold Ji;rw[vf]
 rfl
def D5 (P:Program) (S:af) (t:TypeId) (b:AV):AV->Option af
 |.pt k c 0 j=>match S.get k with
  |some (.arr a [row] 0 d)=>match Nat.beq c a && (a7 b).all dh && (match ep P t with|some m=>Nat.beq m (a7 b).length|none=>false) with
   |true=>match Nat.ble (j+(a7 b).length) row.length with
    |true=>pE (qk row j (a7 b)) λe=>match S with|⟨g,x⟩=>some ⟨bE g k (some (.arr c [e] 0 d)),x⟩
    |false=>none
   |false=>none
  |_=>none
 |_=>none
theorem D6 {P:Program}{S':af}{t:TypeId}{b x:AV}(h:D5 P S t b x=some S'):sD P S t b x=some S':=by
 unfold D5 at h;split at h
 ·rename_i k g j;split at h
  ·rename_i a row i c;split at h
   ·rename_i d;split at h
    ·rename_i e;rw[vf]at h;simp only[sD,c];split
     ·simp only[cw_,e];exact h
     ·rename_i f;have:true=false:=d.symm.trans f;cases this
    ·grind
   ·grind
  ·grind
 ·grind
def vV (P:Program) (o:Op) (α:AA) (S:af):Option (AV × af) :=
 match o with
 |.move x=>some (α.ev x,S)
 |.assign x=>some (α.ev x,S)
 |.pick c a b=>match α.ev c with
  |.v (.bool true)=>some (α.ev a,S)
  |.v (.bool false)=>some (α.ev b,S)
  |_=>none
 |.alloc e=>match d_ P e with
  |some z=>Ji S (z.cells.toList.map cK)
  |none=>none
 |.box _ x=>match (a7 (α.ev x)).all dh with
  |true=>Ji S (a7 (α.ev x))
  |false=>none
 |.build t parts=>match w5 P t (parts.toList.map λ(i,x)=>(i,α.ev x)) with
  |some a=>some (a,S)
  |none=>none
 |.load t x=>match yh P S t (α.ev x) with
  |some a=>some (a,S)
  |none=>none
 |.buildSlice t len parts=>match l9 P t with
  |some e=>match d_ P e,ep P e with
   |some z,some m=>match Nat.ble (len*m) 16777216 && Nat.beq z.cells.size m && Nat.blt 0 m with
    |true=>match v8 m (List.replicate len (z.cells.toList.map cK)) (parts.toList.map λ(i,x)=>(i,α.ev x)) with
     |some rows=>Ig rows λrows=>some (.sl true rows,S)
     |none=>none
    |false=>none
   |_,_=>none
  |none=>none
 |.store t x b=>match D5 P S t (α.ev b) (α.ev x) with
  |some S'=>some (.v undef,S')
  |none=>none
 |.unOp op _ x=>match op,α.ev x with
  |.not,.v (.bool true)=>some (.v (.bool false),S)
  |.not,.v (.bool false)=>some (.v (.bool true),S)
  |_,_=>none
 |.fieldAddr s x f=>match P.underlying s with
  |some (.struct g)=>match g[f]? with
   |some d=>match ep P d.type with
    |some (_+1)=>match α.ev x with
     |.ip row=>some (.ip (row.drop d.offset),S)
     |.pt k h i j=>some (.pt k h i (j+d.offset),S)
     |_=>none
    |_=>none
   |none=>none
  |_=>none
 |.field t x f=>match P.underlying t with
  |some (.struct g)=>match g[f]? with
   |some d=>match α.ev x with
    |.agg l=>match pP P d.type l d.offset with
     |some a=>some (a,S)
     |none=>none
    |_=>none
   |none=>none
  |_=>none
 |.extract x i=>match α.ev x with
  |.aL l=>match l[i]? with
   |some a=>some (a,S)
   |none=>none
  |_=>none
 |.makeFunc f first cap=>some (.fn f (first.toList.map α.ev) (cap.toList.map α.ev),S)
 |.nilCheck x=>match α.ev x with
  |.ip c=>some (.ip c,S)
  |.pt k h i j=>some (.pt k h i j,S)
  |_=>none
 |.call c=>match c.callee,c.argTypes.toList,c.args.toList with
  |.builtin .len,[t],[x]=>match lenOf P t (α.ev x) with
   |some m=>some (.v (.int .i64 (m:Int)),S)
   |none=>none
  |_,_,_=>none
 |_=>none
section
variable {P:Program}{w0:World}{rd:Bool}{n:Nat}{o:Op}{α:AA}{S S':af}{r:AV}
theorem Wv (h:vV P o α S=some (r,S')):bu P w0 o α S (wJ r S'):=by
 have e:∀{a:AV}{T:af},some (a,T)=some (r,S')->a=r/\T=S':=λh=>by grind
 have y:∀{q:AV × af},some q=some (r,S')->q.1=r/\q.2=S':=λh=>by grind
 cases o with
 |move x=>exact e h
 |assign x=>exact e h
 |pick c a b =>
  simp only[vV]at h;simp only[bu];split at h
  ·rename_i g;rw[g];exact e h
  ·rename_i g;rw[g];exact e h
  ·grind
 |alloc t =>
  simp only[vV]at h;simp only[bu];split at h
  ·rename_i z n;rw[n];rw[AD]at h;exact y h
  ·grind
 |box t x =>
  simp only[vV]at h;simp only[bu];split at h
  ·rename_i d;rw[d];rw[AD]at h;exact y h
  ·grind
 |buildSlice t len parts =>
  simp only[vV]at h;simp only[bu];split at h
  ·rename_i el A;split at h
   ·rename_i z m n p;split at h
    ·rename_i B;split at h
     ·rename_i rows C;rw[KI]at h;simp only[A,n,p,B,C];exact e h
     ·grind
    ·grind
   ·grind
  ·grind
 |build t parts =>
  simp only[vV]at h;simp only[bu];split at h
  ·rename_i z n;rw[n];exact e h
  ·grind
 |load t x =>
  simp only[vV]at h;simp only[bu];split at h
  ·rename_i z n;exact bC.mk n (e h)
  ·grind
 |store t x b =>
  simp only[vV]at h;simp only[bu];split at h
  ·rename_i z n;exact bC.mk (D6 n) (e h)
  ·grind
 |unOp op t x =>
  simp only[vV]at h;simp only[bu];split at h
  ·rename_i g;rw[g];exact e h
  ·rename_i g;rw[g];exact e h
  ·grind
 |fieldAddr s x f =>
  simp only[vV]at h;simp only[bu];split at h
  ·rename_i D u;split at h
   ·rename_i E v;split at h
    ·rename_i m p;split at h
     ·rename_i row d;simp only[u,v,p,d];exact e h
     ·rename_i k F i j d;simp only[u,v,p,d];exact e h
     ·grind
    ·grind
   ·grind
  ·grind
 |field t x f =>
  simp only[vV]at h;simp only[bu];split at h
  ·rename_i D u;split at h
   ·rename_i E v;split at h
    ·rename_i l d;split at h
     ·rename_i a w;simp only[u,v,d];exact bC.mk w (e h)
     ·grind
    ·grind
   ·grind
  ·grind
 |extract x i =>
  simp only[vV]at h;simp only[bu];split at h
  ·rename_i l d;split at h
   ·rename_i a w;simp only[d,w];exact e h
   ·grind
  ·grind
 |makeFunc f first cap=>exact e h
 |nilCheck x =>
  simp only[vV]at h;simp only[bu];split at h
  ·rename_i c d;rw[d];exact e h
  ·rename_i k F i j d;rw[d];exact e h
  ·grind
 |call c =>
  simp only[vV]at h;simp only[bu];split at h
  ·rename_i t x g G d;split at h
   ·rename_i m H;rw[g,G,d];exact bC.mk H (e h)
   ·grind
  ·grind
 |_=>cases h
def kU (ops:List Oper) (α:AA) (o:Oper):Option Bool :=
 match o.guard with
 |none=>some true
 |some (j,want)=>match ZV ops α j with
  |some (some true)=>some want
  |some (some false)=>some (!want)
  |some none=>some false
  |none=>none
def xW (d:Option Tmp) (α:AA) (r:AV):AA:=match d with|some d=>⟨bE α.tm d r,α.df⟩|none=>α
def Lf (P:Program) (n:Nat) (ops:List Oper):List Oper->AA->af->List Oper × AA × af
 |[],α,S=>([],α,S)
 |o::rest,α,S=>match qE n o.dst with
  |true=>match kU ops α o with
   |some true=>match vV P o.op α S with
    |some (r,S')=>aks r λr=>Lf P n ops rest (xW o.dst α r) S'
    |none=>(o::rest,α,S)
   |some false=>Lf P n ops rest (xW o.dst α (.v undef)) S
   |none=>(o::rest,α,S)
  |false=>(o::rest,α,S)
end
section
variable {P:Program}{w0:World}{rd:Bool}{n:Nat}{o:Oper}{α:AA}{S S':af}{r:AV}{ops l rest:List Oper}{Q:AA->af->Prop}
theorem wI {d:Option Tmp}:xW d α r=α.put d r:=by cases d<;>rfl
def D7 (P:Program) (w0:World) (n:Nat) (ops l:List Oper) (Q:AA->af->Prop) (α:AA) (S:af):Prop :=
 ∀k,ops.drop k=l->∃a S',zn P w0 n ops.toArray (List.range' k l.length) α S a S'/\Q a S'
theorem drop_cons {k:Nat}(h:ops.drop k=o::rest):ops.toArray[k]?=some o/\ops.drop (k+1)=rest:=by
 refine⟨?_,?_⟩
 ·have:=congrArg (·[0]?) h;simpa using this
 ·rw[<-da_,h];rfl
theorem D7.nil (h:Q α S):D7 P w0 n ops [] Q α S:=λk _=>⟨α,S,λF m A g a w Q e b c d=>d a w g b c (Ext.refl ..),h⟩
theorem tj (h:kU ops α o=some true):o.guard=none\/∃j want,o.guard=some (j,want)/\uG ops.toArray α j=some (some want):=by
 unfold kU at h;split at h
 ·grind
 ·rename_i j want a;have e:=CG (ops:=ops.toArray) (α:=α) (j:=j);split at h
  ·grind
  ·grind
  ·grind
  ·grind
theorem Fm (h:kU ops α o=some false):∃(j:Nat) (want:Bool) (b:Option Bool),o.guard=some (j,want)/\uG ops.toArray α j=some b/\b ≠ some want:=by
 unfold kU at h;split at h
 ·grind
 ·rename_i j want a;have e:=CG (ops:=ops.toArray) (α:=α) (j:=j);split at h
  ·grind
  ·grind
  ·grind
  ·grind
theorem D7.op (d:qE n o.dst=true) (e:kU ops α o=some true) (h:bu P w0 o.op α S (wJ r S')) (k:D7 P w0 n ops rest Q (xW o.dst α r) S'):D7 P w0 n ops (o::rest) Q α S:=by
 intro i f;obtain⟨l,m⟩:=drop_cons f;obtain⟨v,x,p,rfl,rfl⟩:=Dy (n:=n) h;obtain⟨q,T,c,s⟩:=k (i+1) m;rw[wI]at c;refine⟨q,T,?_,s⟩;refine zn.step l d (λg w a t=>?_) p c;rcases tj e with b|⟨j,want,b,u⟩
 ·simp[Region.wanted,b]
 ·simp[Region.wanted,b,xG t u]
def n_ (P:Program) (w0:World) (n:Nat) (ops l:List Oper) (Q:AA->af->Prop) (α:AA) (S:af):Prop :=
 ∀k,ops.drop k=l->∃a S',tI P w0 n ops.toArray (List.range' k l.length) α S a S'/\Q a S'
theorem n_.nil (h:Q α S):n_ P w0 n ops [] Q α S:=λk _=>⟨α,S,.nil α S,h⟩
theorem n_.op (b:qE n o.dst=true) (c:kU ops α o=some true) (h:cP P w0 o.op α S (wJ r S')) (k:n_ P w0 n ops rest Q (xW o.dst α r) S'):n_ P w0 n ops (o::rest) Q α S:=by
 intro i d;obtain⟨e,f⟩:=drop_cons d;obtain⟨m,p,g,rfl,rfl⟩:=akr (n:=n) e b (tj c) h;obtain⟨j,T,a,l⟩:=k (i+1) f;rw[wI]at a;exact⟨j,T,.cons g a,l⟩
theorem n_.skip (c:qE n o.dst=true) (d:kU ops α o=some false) (k:n_ P w0 n ops rest Q (xW o.dst α (.v undef)) S):n_ P w0 n ops (o::rest) Q α S:=by
 intro i e;obtain⟨f,g⟩:=drop_cons e;obtain⟨h,T,a,l⟩:=k (i+1) g;rw[wI]at a;obtain⟨j,want,b,m,p,q⟩:=Fm d;exact⟨h,T,.cons ⟨o,f,c,.inl ⟨j,want,b,m,p,q,rfl,rfl⟩⟩ a,l⟩
end
end Go.Proofs.YtbpabjmnhggajaaGreat
