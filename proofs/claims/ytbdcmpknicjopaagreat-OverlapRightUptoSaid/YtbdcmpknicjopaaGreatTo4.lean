import Derived.Test.YtbdcmpknicjopaaGreatTo3
namespace Go.Proofs.YtbdcmpknicjopaaGreat
set_option linter.all false
open Go.RowKit
variable{FJ l:List Oper}{P:Program}{Q':Exit->AA->ao->Prop}{S S':ao}{U w:World}{Y aI:AA}{a b c:Code}{args0 cs:List AV}{cZ:Array Bool}{es:List (Value×AV)}{et kt t:TypeId}{ex:Exit}{f:FuncId}{g:Gh}{i x:Operand}{kk:IntKind}{m:Int}{n:Nat}{r:AV}
variable{K:AV->ao->Prop}{entries:Array MapEntry}
section
variable{rd:Bool}{MQ:Array Oper}
def IN(MP:List Nat)(o:Oper):Nat:=o.after.toList.foldl (λs e=>if Region.binds .any e then s ||| (2^e.on |||MP.getD e.on 0) else s) 0
def beforeL(MP:List Nat):List Oper->List Nat|[]=>MP|o::os=>beforeL (MP++[IN MP o]) os
def uX(k:Nat):List Oper->Bool|[]=>true|o::os=>o.after.toList.all (λe=>!Region.binds .any e||Nat.blt e.on k)&&uX (k+1) os
def IP(MQ:Array Oper)(m:List Nat)(y:Nat):Nat->Bool|0=>true|x+1=>((m.getD y 0).testBit x||AQ MQ x y)&&IP MQ m y x
def ET(MQ:Array Oper)(m:List Nat):Nat->Bool|0=>true|y+1=>IP MQ m y y&&ET MQ m y
def L_(MQ:Array Oper):Bool:=uX 0 MQ.toList&&ET MQ (beforeL [] MQ.toList) MQ.size
theorem Uq{MP:List Nat}{o:Oper}{x:Nat}(h:(IN MP o).testBit x=true):∃e∈o.after.toList,Region.binds .any e=true/\(x=e.on\/(MP.getD e.on 0).testBit x=true):=by
 have key:∀(l:List Edge)(s:Nat),(l.foldl (λs e=>if Region.binds .any e then s ||| (2^e.on |||MP.getD e.on 0) else s) s).testBit x=true->s.testBit x=true\/∃e∈l,Region.binds .any e=true/\(x=e.on\/(MP.getD e.on 0).testBit x=true):=by intro l;induction l with|nil=>exactλs h=>.inl h|cons e l b =>intro s h;rw[dn_]at h;rcases b _ h with a|⟨d,c,a⟩;grind;grind
 rcases key _ 0 h with a|a;grind;grind
theorem JH:∀{os:List Oper}{MP:List Nat}{i:Nat}{o:Oper},os[i]?=some o->∃a,(beforeL MP os).getD (MP.length+i) 0=IN a o/\(∀j,j<MP.length+i->a.getD j 0=(beforeL MP os).getD j 0)/\a.length=MP.length+i
 |[],MP,i,o,h=>Z|p::os,MP,i,o,h=>by
  have g:∀(os:List Oper)(MP:List Nat)(j:Nat),j<MP.length->(beforeL MP os).getD j 0=MP.getD j 0:=by intro os;induction os with|nil=>intro MP j b;rfl|cons p os c =>intro MP j b;rw[beforeL,c _ _ Z];simp[bj_ b]
  cases i with|zero =>simp at h;subst h;refine⟨MP,?_,λj b=>?_,rfl⟩;grind[beforeL];grind|succ i =>simp at h;let⟨a,d,e,f⟩:=JH (MP:=MP++[IN MP p]) h;simp only[ay_,aH_,bd_]at d e f;refine⟨a,?_,λj b=>?_,X⟩;grind[beforeL];grind[beforeL]
theorem HV:∀{os:List Oper}{k i:Nat}{o:Oper},uX k os=true->os[i]?=some o->∀e∈o.after.toList,Region.binds .any e=true->e.on<k+i|[],k,i,o,_,h=>Z|p::os,k,i,o,a,h=>by simp only[uX,aw_]at a;cases i with|zero =>simp at h;subst h;intro e b c;have:=bb_.1 a.1 e b;rw[c]at this;simp at this;omega|succ i =>simp at h;intro e b c;have:=HV a.2 h e b c;omega
structure IQ(MQ:Array Oper)(cZ:Array Bool):Prop where
 size:cZ.size=MQ.size
 closed:∀y x,cZ.getD y false=true->((beforeL [] MQ.toList).getD y 0).testBit x=true->cZ.getD x false=true
theorem OL{i:Nat}(f:cZ.size=MQ.size)(h:i∈Region.ready .any MQ cZ):∃o,MQ[i]?=some o/\i<MQ.size/\cZ.getD i false=false/\∀e∈o.after.toList,Region.binds .any e=true->cZ.getD e.on false=true:=by unfold Region.ready at h;rw[cb_]at h;let⟨b,a⟩:=h;have b:i<MQ.size:=Z;simp only[aw_]at a;have c:MQ[i]?=some MQ[i]:=aM_ b;rw[c]at a;simp only[aN_,bR_]at a;refine⟨_,c,b,?_,λe g d=>?_⟩;grind;have:=Array.all_eq_true'.1 a.2 e Z;rw[d]at this;simpa using this
theorem OM(i:uX 0 MQ.toList=true){y x:Nat}{o:Oper}(k:MQ[y]?=some o)(h:((beforeL [] MQ.toList).getD y 0).testBit x=true):∃e∈o.after.toList,Region.binds .any e=true/\(x=e.on\/((beforeL [] MQ.toList).getD e.on 0).testBit x=true):=by have a:MQ.toList[y]?=some o:=Z;let⟨l,b,c,m⟩:=JH (MP:=[]) a;simp only[bd_,aJ_]at b c;rw[b]at h;let⟨e,d,f,j⟩:=Uq h;refine⟨e,d,f,j.imp id λg=>?_⟩;have p:=HV i a e d f;rw[c e.on X]at g;exact g
theorem KC{i j:Nat}(hi:i<cZ.size):(cZ.setIfInBounds i true).getD j false=if j=i then true else cZ.getD j false:=by simp only[bg_,dm_];by_cases c:i=j;grind;grind
theorem IQ.step(g:uX 0 MQ.toList=true){i:Nat}(a:IQ MQ cZ)(h:i∈Region.ready .any MQ cZ):IQ MQ (cZ.setIfInBounds i true):=by let⟨o,j,k,q,l⟩:=OL a.size h;refine⟨by simp[a.size],λy x b f=>?_⟩;rw[KC (by rw[a.size];exact k)]at b⊢;by_cases c:y=i;subst c;let⟨e,m,n,d⟩:=OM g j f;have p:=l e m n;rcases d with rfl|d;grind;rw[a.closed e.on x p d];simp;rw[if_neg c]at b;rw[a.closed y x b f];simp
theorem B4(l:uX 0 MQ.toList=true):∀(fuel t:Nat)(cZ:Array Bool),IQ MQ cZ ->(∀i∈Region.linearise.go .any MQ fuel t cZ [],i<MQ.size/\cZ.getD i false=false)/\(Region.linearise.go .any MQ fuel t cZ []).Nodup /\(Region.linearise.go .any MQ fuel t cZ []).Pairwise (λy x=>((beforeL [] MQ.toList).getD y 0).testBit x=false) /\((∃i,i<MQ.size/\cZ.getD i false=false/\i∉Region.linearise.go .any MQ fuel t cZ [])->(Region.linearise.go .any MQ fuel t cZ []).length=fuel):=by intro fuel;induction fuel with|zero=>intro t cZ a;exact⟨λi d=>by simp[Region.linearise.go]at d,by simp[Region.linearise.go],by simp[Region.linearise.go],λ_=>by simp[Region.linearise.go]⟩|succ fuel E =>
  intro t cZ a;have e:Region.linearise.go .any MQ (fuel+1) t cZ []=match(Region.ready .any MQ cZ)[t%(Region.ready .any MQ cZ).length]? with|some i=>Region.linearise.go .any MQ fuel (t/(Region.ready .any MQ cZ).length) (cZ.setIfInBounds i true) [i]|none=>[]:=by simp only[Region.linearise.go];rfl
  rw[e];cases d:(Region.ready .any MQ cZ)[t%(Region.ready .any MQ cZ).length]? with
  |none =>
   refine⟨λi h=>Z,aE,aE,λ⟨i,f,m,_⟩=>?_⟩;exfalso;have F:Region.ready .any MQ cZ=[]:=by cases n:Region.ready .any MQ cZ with|nil=>rfl|cons x v =>rw[n]at d;have g:t%(x::v).length<(x::v).length:=Nat.mod_lt _ aE;simp at d;simp at g;omega
   have least:∀k,(∀j,j<k->j<MQ.size->cZ.getD j false=true)->k<MQ.size->cZ.getD k false=false->False:=by
    intro k w p G;have:k∈Region.ready .any MQ cZ:=by
     unfold Region.ready;rw[cb_];refine⟨Z,?_⟩;have g:k<cZ.size:=by rw[a.size];exact p
     rw[aM_ p];simp only[aN_,bR_,aw_];refine⟨?_,?_⟩;grind;rw[Array.all_eq_true'];intro b J;cases q:Region.binds .any b with|false=>rfl|true =>have:=HV (k:=0) (i:=k) l (by rw[bq_];exact aM_ p) b Z q;simp only[cX_,Bool.false_or];exact w b.on X X
    rw[F]at this;cases this
   have all:∀k,k<=MQ.size->∀j,j<k->j<MQ.size->cZ.getD j false=true:=by intro k;induction k with|zero=>intro _ j z;omega|succ k K =>intro w j z S;by_cases c:j<k;grind;grind
   have:=all MQ.size (aj_ _) i f f;rw[m]at this;cases this|some i =>
   have A:=as_ d;let⟨o,r,g,T,n⟩:=OL a.size A;have s:=a.step l A;let⟨f1,f2,f3,f4⟩:=E (t/(Region.ready .any MQ cZ).length) _ s;simp only;rw[linearise_go_acc,List.reverse_singleton,List.singleton_append];have L:i<cZ.size:=by rw[a.size];exact g
   have M:∀j∈Region.linearise.go .any MQ fuel (t/(Region.ready .any MQ cZ).length) (cZ.setIfInBounds i true) [],j≠i/\cZ.getD j false=false:=by grind[KC]
   refine⟨λj z=>?_,?_,?_,λ⟨k,f,m,B⟩=>?_⟩;grind;grind;rw[ch_];refine⟨λx N=>?_,f3⟩;cases q:((beforeL [] MQ.toList).getD i 0).testBit x with|false=>rfl|true =>let⟨b,P,Q,u⟩:=OM l r q;have R:=n b P Q;have C:=(M x N).2;rcases u with rfl|u;grind;rw[a.closed b.on x R u]at C;cases C
   rw[aH_,f4 ⟨k,f,?_,λh=>B Z⟩];rw[KC L,if_neg λe=>B Z];exact m
theorem JI{m:List Nat}{y:Nat}:∀{k x:Nat},IP MQ m y k=true->x<k->(m.getD y 0).testBit x=true\/AQ MQ x y=true|0,x,_,h=>X|k+1,x,a,h=>by simp only[IP,aw_,cD_]at a;by_cases c:x=k;grind;exact JI a.2 X
theorem HW{m:List Nat}:∀{k x y:Nat},ET MQ m k=true->y<k->x<y->(m.getD y 0).testBit x=true\/AQ MQ x y=true|0,x,y,_,h,_=>X|k+1,x,y,a,h,b=>by simp only[ET,aw_]at a;by_cases c:y=k;grind[JI];exact HW a.2 X b
theorem ON:∀(l:List Nat),l.Nodup->∀m,(∀y∈l,y<m)->l.length<=m:=by intro l b m;induction m generalizing l with
 |zero=>intro h;cases l with|nil=>simp|cons a l=>have:=h a aE;omega
 |succ m d =>intro h;by_cases c:m∈l;have e:=d (l.erase m) (b.erase m) λy f=>Z;rw[dK_ c]at e;omega;grind
theorem eE.draw{id:Nat}{aI:AA}(k:P.follows .mixedOrders=true)(i:L_ MQ=true)(h:wC P U n MQ (List.range MQ.size) Y S aI S'):eE P U rd n (.region id MQ true) Y S .normal aI S':=by
 intro F m A g a w l M o p;simp only[L_,aw_]at i;let⟨q,r⟩:=i;refine wpIn_region_draw λt=>?_;simp only[Region.schedule,k,cE_,if_true];have s:IQ MQ (Array.replicate MQ.size false):=⟨aE,λy x b=>by simp only[bg_,cY_]at b;split at b<;>simp at b⟩;let⟨f1,f2,f3,f4⟩:=B4 q MQ.size t _ s;have u:∀x,x∈Region.linearise .any MQ t↔x∈List.range MQ.size:=by
  intro x;refine⟨λd=>by simpa using(f1 x d).1,λd=>?_⟩;have d:x<MQ.size:=Z;by_cases c:x∈Region.linearise .any MQ t;grind;exfalso;have v:=f4 ⟨x,d,by simp[bg_,cY_,d],c⟩;have z:(x::Region.linearise.go .any MQ MQ.size t (Array.replicate MQ.size false) []).Nodup:=by rw[bU_];exact⟨c,f2⟩
  have B:=ON (x::Region.linearise.go .any MQ MQ.size t (Array.replicate MQ.size false) []) z MQ.size λy b=>Z;rw[aH_,v]at B;omega
 have C:(Region.linearise .any MQ t).Pairwise λy x=>x<y->AQ MQ x y=true:=by refine dL_ ?_ f3;intro y x b d N E;rcases HW r (f1 y b).1 E with e|e;grind;grind
 have G:(List.range MQ.size).Pairwise (·< ·):=dM_;let⟨j,f⟩:=o.drew;have f:St U A g S {w with drawn:=w.drawn+1 }:=f;refine(wC.perm G C u f2 h).SV F m A g a _ _ l f (p.later j.toLater) λQ R J e K L=>⟨rfl,J,e,K,j.trans L⟩
end
section
variable{rd:Bool}{o:Oper}{MQ:Array Oper}
def Ma(P:Program)(U:World)(K:AV->ao->Prop)(S:ao)(args:List AV):AV->Prop
 |.v (.func (.func g) first cap)=>match first.toList,cap.toList with|[],[]=>∃r,aG P U g args S r S/\K r S|_,_=>False
 |.fn (.func g) first cap=>∃r,aG P U g (first++args++cap) S r S/\K r S|_=>False
def dF(P:Program)(U:World)(o:Op)(Y:AA)(S:ao)(K:AV->ao->Prop):Prop :=match o with
 |.call c=>match c.callee with|.value f=>Ma P U K S (c.args.toList.map Y.ev) (Y.ev f)|_=>b8 P U (.call c) Y S K
 |o=>b8 P U o Y S K
theorem agR{op:Op}(e:qw op=false)(i:Fe op=false)(h:dF P U op Y S K):∃r,K r S/\b8 P U op Y S (CK r S):=by cases op with|load t x =>simp only[dF,b8,bR]at h⊢;split at h;exact⟨_,h,⟨rfl,rfl⟩⟩;grind|call c =>simp only[Fe]at i;simp only[dF]at h;split at h;rename_i f j;unfold Ma at h;simp only[b8,j];split at h;rename_i g first cap a;split at h;rename_i k l;let⟨r,b,d⟩:=h;refine⟨r,d,?_⟩;rw[a];simp only[Ie,k,l];exact⟨r,S,b,rfl,rfl⟩;grind;rename_i g first cap a;let⟨r,b,d⟩:=h;refine⟨r,d,?_⟩;rw[a];exact⟨r,S,b,rfl,rfl⟩;grind;grind[qw]|_=>simp[Fe,e,qw]at i e
theorem Pu{op:Op}(h:dF P U op Y S K):b8 P U op Y S K:=by cases op with|call c =>simp only[dF]at h;split at h;rename_i f a;unfold Ma at h;simp only[b8,a];split at h;grind[Ie];rename_i g first cap b;let⟨r,d,e⟩:=h;rw[b];exact⟨r,S,d,e⟩;grind;grind|_=>exact h
theorem qm{Y:AA}{S:ao}(h:b8 P U o.op Y S K):∃r S',jZ P U n o (Y.only (d_ o)) S r S'/\K r S' :=Hx (aaG (β:=Y.only (d_ o)) (λx b=>(h_ λt e=>ic Z).symm) h)
theorem ar8{i:Nat}(hi:MQ[i]?=some o)(c:(match o.dst with|some d=>Nat.blt d n|none=>true)=true)(e:o.guard=none\/∃j k,o.guard=some (j,k)/\xB MQ Y j=some (some k))(h:dF P U o.op Y S K):∃r S',GS P U n MQ i Y S (Y.put o.dst r) S'/\K r S':=by cases l:qw o.op with
 |true =>
  let⟨r,a,b⟩:=agt l (Pu h);have m:∀T,jZ P U n o (Y.only (d_ o)) T r T:=λT=>by obtain⟨f,S',g,rfl,rfl⟩:=qm (n:=n) (b T);exact g
  exact⟨r,S,⟨o,hi,c,.inr ⟨e,r,rfl,m S,λ_=>⟨rfl,m⟩,λ_=>rfl⟩⟩,a⟩|false =>cases p:Fe o.op with|false =>let⟨r,a,b⟩:=agR l p h;obtain⟨f,S',g,rfl,rfl⟩:=qm (n:=n) b;exact⟨f,S',⟨o,hi,c,.inr ⟨e,f,rfl,g,λh=>Z,λ_=>rfl⟩⟩,a⟩|true =>let⟨r,S',a,b⟩:=qm (n:=n) (Pu h);exact⟨r,S',⟨o,hi,c,.inr ⟨e,r,rfl,a,λh=>Z,λh=>Z⟩⟩,b⟩
end
theorem wrap64{c:Int}(h1:-9223372036854775808<=c)(h2:c<=9223372036854775807):IntKind.i64.wrap c=c:=by unfold IntKind.wrap;simp[IntKind.bits,IntKind.signed];omega
theorem aiW{Y β:Type}{l:List Y}{f:Y->β}{i:Int}{k:Nat}{x:Y}(hi:i=(k:Int))(h:l[k]?=some x):idx (l.map f) i=some (f x):=by grind[Uu]
def iv(i:Int):AV:=.v (.int .i64 i)
def aH(i:Int):List AV:=[iv i]
def iZ:List AV->Prop|[]=>True|a::l=>Pure a/\iZ l
theorem iZ.all:∀{l:List AV},iZ l->∀a∈l,Pure a|[],_,a,h=>Z|b::l,c,a,h=>by rcases al_.1 h with rfl|h;exact c.1;exact iZ.all c.2 a h
def jl(S:ao):List AV->List AV->Prop|[],[]=>True|a::l,b::c=>aL S a b/\jl S l c|_,_=>False
theorem jl.len{S:ao}:∀{l b:List AV},jl S l b->l.length=b.length|[],[],_=>rfl|a::l,c::b,h=>by simp[jl.len h.2]|[],_::_,h=>h.elim|_::_,[],h=>h.elim
theorem jl.at{S:ao}:∀{l e:List AV},jl S l e->∀(i:Nat)(a a':AV),l[i]?=some a->e[i]?=some a'->aL S a a'
 |[],[],_,i,a,a',h,_=>Z|b::l,f::e,h,i,a,a',c,d=>by cases i with|zero=>simp at c d;subst c d;exact h.1|succ i=>simp at c d;exact jl.at h.2 i a a' c d
 |[],_::_,h,_,_,_,_,_=>h.elim|_::_,[],h,_,_,_,_,_=>h.elim
theorem jl.refl(S:ao):∀(l:List AV),jl S l l|[]=>trivial|a::l=>⟨.refl a,jl.refl S l⟩
section
variable{args:List AV}
def aq.WS(h:aq P U f args r)(a:iZ args)(S:ao):aG P U f args S r S:=h.QU a.all S
def aq.QX(h:aq P U f args r)(b:iZ args)(hs:Ct r)(a:jl S args0 args):aG P U f args0 S r S:=h.adP b.all hs S a.len a.at
end
theorem aL.wk{ex:Bool}{rows:List (List AV)}:aL S (.sl ex rows) (.sl false rows) :=.sl rfl (λi r e c b=>Z) λi j r e a g c b f d=>by rw[c]at b;cases oJ_ b;rw[f]at d;cases oJ_ d;exact .refl _
def aL.fns{f:Fn}{l a m b:List AV}(h1:jl S l a)(h2:jl S m b):aL S (.fn f l m) (.fn f a b):=.fn h1.len h2.len h1.at h2.at
theorem aL.box{k:Nat}{cs':List AV}(h:S.get k=some (.arr cs.length [cs] 0 true))(b:jl S cs cs'):aL S (.pt k cs.length 0 0) (.ip cs') :=.pt h rfl (by rw[b.len];exact aj_ _) λq a d c e=>by rw[aJ_]at c;exact b.at q a d c e
def aa_{β:Type}(r:AV)(k:AV->β):β:=match r with|.u=>k .u|.v x=>k (.v x)|.agg l=>k (.agg l)|.aM l=>k (.aM l)|.sl e l=>k (.sl e l)|.ip l=>k (.ip l)|.ob a b c d e=>k (.ob a b c d e)|.pt a b c d=>k (.pt a b c d)|.mp a=>k (.mp a)|.fn a b c=>k (.fn a b c)|.yl a=>k (.yl a)|.gr a b c=>k (.gr a b c)
theorem aba{β:Type}{r:AV}{k:AV->β}:aa_ r k=k r:=by cases r<;>rfl
def r9{β:Type}:List AV->(List AV->β)->β|[],k=>k []|a::l,k=>aa_ a λa=>r9 l λl=>k (a::l)
theorem B5{β:Type}:∀{l:List AV}{k:List AV->β},r9 l k=k l|[],k=>rfl|a::l,k=>by rw[r9,aba,B5]
def ar9{β:Type}(r:AV)(k:AV->β):β:=match r with|.u=>k .u|.v x=>k (.v x)|.agg l=>r9 l λl=>k (.agg l)|.aM l=>r9 l λl=>k (.aM l)|.sl e l=>k (.sl e l)|.ip l=>r9 l λl=>k (.ip l)|.ob a b c d e=>k (.ob a b c d e)|.pt a b c d=>k (.pt a b c d)|.mp a=>k (.mp a)|.fn a b c=>r9 b λb=>r9 c λc=>k (.fn a b c)|.yl a=>k (.yl a)|.gr a b c=>k (.gr a b c)
def abb{β:Type}:List (List AV)->(List (List AV)->β)->β|[],k=>k []|a::l,k=>r9 a λa=>abb l λl=>k (a::l)
def Nm(S:ao)(cs:List AV):Option (AV×ao):=r9 cs λcs=>match S with|⟨g,x⟩=>some (.pt x cs.length 0 0,⟨bK g x (some (.arr cs.length [cs] 0 true)),x+1⟩)
theorem Nn:Nm S cs=some (o9 S cs):=by unfold Nm;rw[B5];rfl
def HX(P:Program)(S:ao)(t:TypeId)(b:AV):AV->Option ao
 |.pt k c 0 j=>match S.get k with
  |some (.arr a [row] 0 ex)=>match Nat.beq c a&&(bB b).all dv&&match eR P t with|some m=>Nat.beq m (bB b).length|none=>false with
   |true=>match Nat.ble (j+(bB b).length) row.length with
    |true=>r9 (sU row j (bB b)) λd=>match S with|⟨g,x⟩=>some ⟨bK g k (some (.arr c [d] 0 ex)),x⟩
    |false=>none
   |false=>none
  |_=>none
 |_=>none
theorem Tw{S':ao}{b x:AV}(h:HX P S t b x=some S'):uZ P S t b x=some S':=by unfold HX at h;split at h;rename_i k g j;split at h;rename_i a row ex c;split at h;rename_i d;split at h;rename_i e;rw[B5]at h;simp only[uZ,c];split;simp only[cy_,e];exact h;rename_i f;have:true=false:=d.symm.trans f;cases this;grind;grind;grind;grind
def opQ(P:Program)(o:Op)(Y:AA)(S:ao):Option (AV×ao) :=match o with
 |.move x=>some (Y.ev x,S)|.assign x=>some (Y.ev x,S)|.pick c a b=>match Y.ev c with|.v (.bool true)=>some (Y.ev a,S)|.v (.bool false)=>some (Y.ev b,S)|_=>none
 |.alloc e=>match eL P e with|some z=>Nm S (z.cells.toList.map cT)|none=>none
 |.box _ x=>match(bB (Y.ev x)).all dv with|true=>Nm S (bB (Y.ev x))|false=>none
 |.build t parts=>match zI P t (parts.toList.map λ(i,x)=>(i,Y.ev x)) with|some a=>some (a,S)|none=>none
 |.load t x=>match A6 P S t (Y.ev x) with|some a=>some (a,S)|none=>none
 |.buildSlice t len parts=>match mc P t with
  |some e=>match eL P e,eR P e with
   |some z,some m=>match Nat.ble (len*m) 16777216&&Nat.beq z.cells.size m&&Nat.blt 0 m with
    |true=>match y5 m (List.replicate len (z.cells.toList.map cT)) (parts.toList.map λ(i,x)=>(i,Y.ev x)) with|some rows=>abb rows λrows=>some (.sl true rows,S)|none=>none
    |false=>none
   |_,_=>none
  |none=>none
 |.store t x b=>match HX P S t (Y.ev b) (Y.ev x) with|some S'=>some (.v undef,S')|none=>none
 |.unOp op _ x=>match op,Y.ev x with|.not,.v (.bool true)=>some (.v (.bool false),S)|.not,.v (.bool false)=>some (.v (.bool true),S)|_,_=>none
 |.fieldAddr s x f=>match P.underlying s with
  |some (.struct g)=>match g[f]? with
   |some d=>match eR P d.type with
    |some (_+1)=>match Y.ev x with|.ip row=>some (.ip (row.drop d.offset),S)|.pt k h i j=>some (.pt k h i (j+d.offset),S)|_=>none
    |_=>none
   |none=>none
  |_=>none
 |.field t x f=>match P.underlying t with
  |some (.struct g)=>match g[f]? with
   |some d=>match Y.ev x with
    |.agg l=>match r_ P d.type l d.offset with|some a=>some (a,S)|none=>none
    |_=>none
   |none=>none
  |_=>none
 |.extract x i=>match Y.ev x with
  |.aM l=>match l[i]? with|some a=>some (a,S)|none=>none
  |_=>none
 |.makeFunc f first cap=>some (.fn f (first.toList.map Y.ev) (cap.toList.map Y.ev),S)|.nilCheck x=>match Y.ev x with|.ip c=>some (.ip c,S)|.pt k h i j=>some (.pt k h i j,S)|_=>none
 |.call c=>match c.callee,c.argTypes.toList,c.args.toList with
  |.builtin .len,[t],[x]=>match lenOf P t (Y.ev x) with|some m=>some (.v (.int .i64 (m:Int)),S)|none=>none
  |_,_,_=>none
 |_=>none
section
variable{rd:Bool}{o:Op}
def mq(MQ:List Oper)(Y:AA)(o:Oper):Option Bool :=match o.guard with|none=>some true|some (j,a)=>match ydL MQ Y j with|some (some true)=>some a|some (some false)=>some !a|some none=>some false|none=>none
def A0(d:Option Tmp)(Y:AA)(r:AV):AA:=match d with|some d=>⟨bK Y.tm d r,Y.df⟩|none=>Y
def Pv(P:Program)(n:Nat)(MQ:List Oper):List Oper->AA->ao->List Oper×AA×ao|[],Y,S=>([],Y,S)|o::FJ,Y,S=>match tN n o.dst with
  |true=>match mq MQ Y o with
   |some true=>match opQ P o.op Y S with|some (r,S')=>ar9 r λr=>Pv P n MQ FJ (A0 o.dst Y r) S'|none=>(o::FJ,Y,S)
   |some false=>Pv P n MQ FJ (A0 o.dst Y (.v undef)) S|none=>(o::FJ,Y,S)
  |false=>(o::FJ,Y,S)
end
section
variable{rd:Bool}{o:Oper}{MQ:List Oper}{Q:AA->ao->Prop}
theorem zD{d:Option Tmp}:A0 d Y r=Y.put d r:=by cases d<;>rfl
def HY(P:Program)(U:World)(n:Nat)(MQ l:List Oper)(Q:AA->ao->Prop)(Y:AA)(S:ao):Prop :=∀k,MQ.drop k=l->∃aI S',Cs P U n MQ.toArray (List.range' k l.length) Y S aI S'/\Q aI S'
theorem drop_cons{k:Nat}(h:MQ.drop k=o::FJ):MQ.toArray[k]?=some o/\MQ.drop (k+1)=FJ:=by refine⟨?_,?_⟩;have:=congrArg (·[0]?) h;simpa using this;rw[<-dt_,h];rfl
def HY.nil(h:Q Y S):HY P U n MQ [] Q Y S:=λk _=>⟨Y,S,λF m A g a w Q e b c d=>d a w g b c (Ext.refl ..),h⟩
theorem v8(h:mq MQ Y o=some true):o.guard=none\/∃j a,o.guard=some (j,a)/\xB MQ.toArray Y j=some (some a):=by unfold mq at h;split at h;grind;rename_i j a b;have e:=FF (MQ:=MQ.toArray) (Y:=Y) (j:=j);split at h;grind;grind;grind;grind
theorem JJ(h:mq MQ Y o=some false):∃(j:Nat) (a:Bool) (b:Option Bool),o.guard=some (j,a)/\xB MQ.toArray Y j=some b/\b≠some a:=by unfold mq at h;split at h;grind;rename_i j a c;have e:=FF (MQ:=MQ.toArray) (Y:=Y) (j:=j);split at h;grind;grind;grind;grind
theorem HY.op(d:tN n o.dst=true)(e:mq MQ Y o=some true)(h:b8 P U o.op Y S (CK r S'))(k:HY P U n MQ FJ Q (A0 o.dst Y r) S'):HY P U n MQ (o::FJ) Q Y S:=by intro i f;let⟨l,m⟩:=drop_cons f;obtain⟨u,v,p,rfl,rfl⟩:=Hx (n:=n) h;let⟨aI,T,c,q⟩:=k (i+1) m;rw[zD]at c;refine⟨aI,T,?_,q⟩;refine Cs.step l d (λg w a s=>?_) p c;rcases v8 e with b|⟨j,x,b,t⟩;simp[Region.wanted,b];simp[Region.wanted,b,AO s t]
def qn(P:Program)(U:World)(n:Nat)(MQ l:List Oper)(Q:AA->ao->Prop)(Y:AA)(S:ao):Prop :=∀k,MQ.drop k=l->∃aI S',wC P U n MQ.toArray (List.range' k l.length) Y S aI S'/\Q aI S'
def qn.nil(h:Q Y S):qn P U n MQ [] Q Y S:=λk _=>⟨Y,S,.nil Y S,h⟩
theorem qn.op(b:tN n o.dst=true)(c:mq MQ Y o=some true)(h:dF P U o.op Y S (CK r S'))(k:qn P U n MQ FJ Q (A0 o.dst Y r) S'):qn P U n MQ (o::FJ) Q Y S:=by intro i d;let⟨e,f⟩:=drop_cons d;obtain⟨l,m,g,rfl,rfl⟩:=ar8 (n:=n) e b (v8 c) h;let⟨aI,T,a,j⟩:=k (i+1) f;rw[zD]at a;exact⟨aI,T,.cons g a,j⟩
theorem qn.skip(c:tN n o.dst=true)(d:mq MQ Y o=some false)(k:qn P U n MQ FJ Q (A0 o.dst Y (.v undef)) S):qn P U n MQ (o::FJ) Q Y S:=by intro i e;let⟨f,g⟩:=drop_cons e;let⟨aI,T,a,h⟩:=k (i+1) g;rw[zD]at a;let⟨j,l,b,m,p,q⟩:=JJ d;exact⟨aI,T,.cons ⟨o,f,c,.inl ⟨j,l,b,m,p,q,rfl,rfl⟩⟩ a,h⟩
end
inductive It where|seq (c:Code)|BM (id:Nat)
inductive Cf where|run (c:Code) (K:List It)|out (ex:Exit) (K:List It)|bp (MQ l:List Oper) (K:List It)|dr (MQ l:List Oper) (K:List It)
section
variable(P:Program)(U:World)(rd:Bool)(n:Nat)
def Wp(c:Code)(Q:Exit->AA->ao->Prop)(Y:AA)(S:ao):Prop:=∃ex aI S',eE P U rd n c Y S ex aI S'/\Q ex aI S'
def cont(Q:Exit->AA->ao->Prop):List It->Exit->AA->ao->Prop
 |[]=>Q|.seq b::K=>λex Y S=>match ex with|.normal=>Wp P U rd n b (cont Q K) Y S|e=>cont Q K e Y S
 |.BM id::K=>λex Y S=>match ex with|.exit j=>(match Nat.beq j id with|true=>cont Q K .normal Y S|false=>cont Q K (.exit j) Y S)|e=>cont Q K e Y S
def wpC(Q:Exit->AA->ao->Prop):Cf->AA->ao->Prop|.run c K,Y,S=>Wp P U rd n c (cont P U rd n Q K) Y S|.out ex K,Y,S=>cont P U rd n Q K ex Y S|.bp MQ l K,Y,S=>HY P U n MQ l (λY S=>cont P U rd n Q K .normal Y S) Y S|.dr MQ l K,Y,S=>qn P U n MQ l (λY S=>cont P U rd n Q K .normal Y S) Y S
def mv:Cf->AA->ao->Option (Cf×AA×ao)
 |.run c K,Y,S=>match c with
  |.skip=>some (.out .normal K,Y,S)|.region _ MQ false=>some (.bp MQ.toList MQ.toList K,Y,S)|.seq a b=>some (.run a (.seq b::K),Y,S)|.cond c a b=>match Y.ev c with|.v (.bool true)=>some (.run a K,Y,S)|.v (.bool false)=>some (.run b K,Y,S)|_=>none
  |.block id c=>some (.run c (.BM id::K),Y,S)|.exit id=>some (.out (.exit id) K,Y,S)|.ret=>some (.out .ret K,Y,S)|_=>none
 |.out ex K,Y,S=>match K with
  |[]=>none|.seq b::K=>match ex with|.normal=>some (.run b K,Y,S)|e=>some (.out e K,Y,S)
  |.BM id::K=>match ex with
   |.exit j=>match Nat.beq j id with|true=>some (.out .normal K,Y,S)|false=>some (.out (.exit j) K,Y,S)
   |e=>some (.out e K,Y,S)
 |.bp MQ l K,Y,S=>match Pv P n MQ l Y S with|([],aI,S')=>some (.out .normal K,aI,S')|(_::_,_,_)=>none
 |.dr MQ l K,Y,S=>match Pv P n MQ l Y S with|([],aI,S')=>some (.out .normal K,aI,S')|(_::_,_,_)=>none
end
section
variable{rd:Bool}{Q:Exit->AA->ao->Prop}
def Wp.of(h:eE P U rd n c Y S ex aI S')(k:Q ex aI S'):Wp P U rd n c Q Y S:=⟨_,_,_,h,k⟩
theorem Wp.seq(h:Wp P U rd n a (λex Y S=>match ex with|.normal=>Wp P U rd n b Q Y S|e=>Q e Y S) Y S):Wp P U rd n (.seq a b) Q Y S:=by let⟨ex,g,i,d,f⟩:=h;cases ex with|normal =>let⟨c,aI,S',j,k⟩:=f;exact⟨c,aI,S',eE.seq d j,k⟩|_=>exact⟨_,g,i,eE.ahc d aE,f⟩
theorem Wp.cond{o:Operand}{t:Bool}(c:Y.ev o=.v (.bool t))(h:Wp P U rd n (if t then a else b) Q Y S):Wp P U rd n (.cond o a b) Q Y S:=by let⟨ex,aI,S',d,e⟩:=h;exact⟨ex,aI,S',eE.cond c d,e⟩
theorem Wp.block{id:Nat}(h:Wp P U rd n c (λex Y S=>match ex with|.exit j=>(match Nat.beq j id with|true=>Q .normal Y S|false=>Q (.exit j) Y S)|e=>Q e Y S) Y S):Wp P U rd n (.block id c) Q Y S:=by let⟨ex,aI,S',d,a⟩:=h;cases ex with
 |exit j =>
  simp only at a;split at a;rename_i b;have:=aT_ b;subst this;exact⟨_,aI,S',eE.Ws d,a⟩;rename_i b;have f:j≠id:=λe=>by subst e;rw[bD_]at b;cases b
  exact⟨_,aI,S',eE.block d λe=>f Z,a⟩|_=>exact⟨_,aI,S',eE.block d aE,a⟩
theorem qn.wp{id:Nat}{MQ:Array Oper}(a:(P.follows .mixedOrders&&L_ MQ)=true)(h:qn P U n MQ.toList MQ.toList (λY S=>Q .normal Y S) Y S):Wp P U rd n (.region id MQ true) Q Y S:=by simp only[aw_]at a;let⟨aI,S',b,c⟩:=h 0 rfl;rw[bu_,<-ci_]at b;exact⟨_,aI,S',eE.draw a.1 a.2 b,c⟩
end
section
variable{rd:Bool}{Q:Exit->AA->ao->Prop}{K:List It}{MQ:List Oper}{o:Oper}
def wpC.op(a:tN n o.dst=true)(b:mq MQ Y o=some true)(h:b8 P U o.op Y S (CK r S'))(k:wpC P U rd n Q (.bp MQ FJ K) (A0 o.dst Y r) S'):wpC P U rd n Q (.bp MQ (o::FJ) K) Y S:=HY.op a b h k
def O7:Exit->Bool|.normal=>true|.ret=>true|_=>false
end
def dM(i:Int):Value:=.int .i64 i
def nr:List (Value×AV)->Int->Option Nat|[],_=>none|p::es,i=>match p.1 with
  |.int _ n=>match decide (n=i) with|true=>some 0|false=>(nr es i).map (·+1)
  |_=>(nr es i).map (·+1)
def vo(es:List (Value×AV))(i:Int):Option AV:=match nr es i with|some j=>es[j]?.map (·.2)|none=>none
def DY(es:List (Value×AV))(i:Int)(b:AV):List (Value×AV):=match nr es i with|some j=>es.set j (dM i,b)|none=>es++[(dM i,b)]
def MK(es:List (Value×AV))(i:Int):List (Value×AV):=match nr es i with|some j=>es.eraseIdx j|none=>es
def qM(es:List (Value×AV)):Prop:=∀p∈es,∃n,p.1=dM n
theorem zw:∀{es:List (Value×AV)}{i:Int}{j:Nat},qM es->nr es i=some j->∃a,es[j]?=some (dM i,a)|[],i,j,_,h=>by cases h|p::es,i,j,c,h=>by let⟨n,d⟩:=c p aE;simp only[nr,d,dM]at h;split at h;grind;cases b:nr es i with|none=>rw[b]at h;cases h|some e =>rw[b]at h;cases oJ_ h;let⟨a,f⟩:=zw (λq g=>c q Z) b;exact⟨a,Z⟩
theorem Mb{kk:IntKind}{i:Int}:∀{es:List (Value×AV)}{L:List MapEntry}{o:Nat},qM es->L.length=es.length->(∀(j:Nat)(k:Value)(a:AV)(e:MapEntry),es[j]?=some (k,a)->L[j]?=some e->e.key=k) ->Instr.findNow (.int kk) (dM i) L o=some (match nr es i with|some j=>L[j]?.map λe=>(j+o,e.val)|none=>none)
 |[],[],o,_,_,_=>rfl|p::es,e::L,o,d,f,h=>by
  let⟨n,g⟩:=d p aE;have b:e.key=dM n:=by rw[h 0 p.1 p.2 e rfl rfl,g]
  simp only[Instr.findNow,b,dM,Instr.sameNow,if_true,nr,g];by_cases c:n=i;grind;have m:¬i=n:=λe=>c e.symm;simp only[c,decide_false,beq_eq_false_iff_ne.2 m];have l:=Mb (kk:=kk) (i:=i) (es:=es) (L:=L) (o:=o+1) (λq s=>d q Z) Z λj k a r t u=>h (j+1) k a r Z Z;simp only[dM]at l;rw[l];congr 1;cases nr es i with|none=>rfl|some j=>simp only[aN_,cT_];congr 1;funext x;congr 1;omega
 |[],_::_,_,_,f,_=>Z|_::_,[],_,_,f,_=>Z
section
variable{o:Oper}
theorem vf{k:Nat}{v:Value}(h:aT g w (.mp k) v):v=.map (some (g.ob k))/\g.al k:=by cases h with|mp a=>exact⟨rfl,a⟩
theorem run_checkKey(h:P.underlying kt=some (.int kk))(b:Bool)(i:Int):(Instr.checkKey b 10000 kt (dM i)).run P w=.ok () w:=by rw[show(10000:Nat)=9999+1 from rfl,Instr.checkKey];simp[run_underlying h,dM,Sem.run_bind]
theorem run_findKey{i:Int}{L:List MapEntry}{x:Option (Nat×Value)}(h:P.underlying kt=some (.int kk))(a:Instr.findNow (.int kk) (dM i) L 0=some x):(Instr.findKey kt (dM i) L).run P w=.ok x w:=by simp only[Instr.findKey,Sem.run_bind,run_underlying h,Result.andThen_ok,a,Sem.run_pure]
theorem i_{b:Nat}{es:Array MapEntry}{clock:Nat}(h:w.heap[b]?=some (.map es clock)):(getObj b).run P w=.ok (.map es clock) w:=by simp[getObj,Sem.run,h]
theorem Gq(c:entries.size=es.length)(d:∀(i:Nat) (k:Value) (a:AV),es[i]?=some (k,a)->∃e:MapEntry,entries[i]?=some e/\e.key=k/\aT g w a e.val)(b:qM es)(i:Int):Instr.findNow (.int kk) (dM i) entries.toList 0=some (match nr es i with|some j=>entries[j]?.map λe=>(j,e.val)|none=>none):=by have h:=Mb (kk:=kk) (i:=i) (es:=es) (L:=entries.toList) (o:=0) b Z λj k a e f l=>Z;simpa using h
theorem Gp{k:Nat}{z:Value}{c:Bool}(u:o.op=.lookup t x i c)(B:P.underlying t=some (.map kt et))(r:P.underlying kt=some (.int kk))(f:eL P et=some z)(h:Y.ev x=.mp k)(T:∀(A:Nat->Prop) (g:Gh) (w:World),St U A g S w->g.al k->∃(entries:Array MapEntry) (clock:Nat),w.heap[g.ob k]?=some (.map entries clock)/\entries.size=es.length/\∀(i:Nat) (k:Value) (a:AV),es[i]?=some (k,a)->∃e:MapEntry,entries[i]?=some e/\e.key=k/\aT g w a e.val)(C:qM es)(hi:Y.ev i=.v (dM m)):bt P U n o Y S (match vo es m with|some a=>if c then .aM [a,.v (.bool true)] else a|none=>if c then .aM [lift z,.v (.bool false)] else lift z) S:=by
 refine bt.quiet λA g q w V E=>?_;have F:=E.ev x;have G:=E.ev i;rw[h]at F;rw[hi]at G;let⟨J,W⟩:=vf F;have K:=cF G;let⟨entries,clock,L,p2,M⟩:=T A g w V W;have l:=Gq p2 M C (kk:=kk) m;let⟨d,azU,u5⟩:∃d,P.info? et=some d/\d.zero=some z:=by unfold eL at f;cases N:P.info? et with|none=>rw[N]at f;cases f|some d=>rw[N]at f;exact⟨d,rfl,f⟩
 have fin:∀(v:Value)(b:Bool)(a:AV),aT g w a v->aT g w (if c then .aM [a,.v (.bool b)] else a) (if c then .tuple #[v,.bool b] else v):=by intro v b a Q;cases c with|false=>exact Q|true =>refine .aM rfl λi y x p h=>?_;match i with|0=>simp at p h;subst p h;exact Q|1=>simp at p h;subst p h;exact .v|i+2=>simp at p
 unfold vo;cases s:nr es m with|none =>rw[s]at l;refine⟨_,?_,fin z false (lift z) (zH z)⟩;simp only[execOp,u,J,K,Instr.lookup,Sem.run_bind,run_underlying B,Result.andThen_ok,i_ L,Sem.run_pure,run_checkKey r,run_findKey r l,rf f]|some j =>let⟨a,R⟩:=zw C s;let⟨e,q1,q2,q3⟩:=M j _ a R;rw[s]at l;simp only[q1,aN_]at l;simp only[R,aN_];refine⟨_,?_,fin e.val true a q3⟩;simp only[execOp,u,J,K,Instr.lookup,Sem.run_bind,run_underlying B,Result.andThen_ok,i_ L,Sem.run_pure,run_checkKey r,run_findKey r l]
def aew{k:Nat}{z:Value}{c:Bool}(b:o.op=.lookup t x i c)(d:P.underlying t=some (.map kt et))(e:P.underlying kt=some (.int kk))(f:eL P et=some z)(h:Y.ev x=.mp k)(j:S.get k=some (.mp es))(l:qM es)(hi:Y.ev i=.v (dM m)):bt P U n o Y S (match vo es m with|some a=>if c then .aM [a,.v (.bool true)] else a|none=>if c then .aM [lift z,.v (.bool false)] else lift z) S :=Gp b d e f h (λA g w p q=>(p.dh k _ j q).2.2) l hi
theorem St.Gb{A:Nat->Prop}{k:Nat}{es':List (Value×AV)}{entries':Array MapEntry}{clock clock':Nat}(b:St U A g S w)(c:S.get k=some (.mp es))(d:g.al k)(f:w.heap[g.ob k]?=some (.map entries clock))(h:entries'.size=es'.length)(j:∀(i:Nat) (k:Value) (a:AV),es'[i]?=some (k,a)->∃e:MapEntry,entries'[i]?=some e/\e.key=k/\aT g w a e.val):∃w',(setObj (g.ob k) (.map entries' clock')).run P w=.ok () w'/\St U A g (S.set k (some (.mp es'))) w'/\Ext A g w g w':=by have u:=(b.dh k _ c d).2.1;have l:({w with heap:=w.heap.setIfInBounds (g.ob k) (.map entries' clock') }:World).heap[g.ob k]?=some (.map entries' clock'):=Z;let⟨m,n⟩:=b.putObj (ob:=.mp es') c d (λJ=>⟨aE,aE⟩) (x':=.map entries' clock') rfl λq=>by simp only[World.cell?,l,f] λo p=>⟨entries',clock',p,h,λi key a r=>by let⟨e,q1,s,t⟩:=j i key a r;exact⟨e,q1,s,t.later o⟩⟩;exact⟨_,by simp[setObj,Sem.run,f],n,m⟩
theorem abc(c:o.op=.makeMap t none):bt P U n o Y S (.mp S.nx) (S.new (.mp [])):=by intro A g q w d j;let⟨e,f⟩:=d.new (.map #[] 0) (.mp []) 0 (λJ=>aE) λl=>⟨#[],0,eB,rfl,λi k a h=>Z⟩;have b:=aT.mp (g:=g.new S.nx w.heap.size 0) (w:=w.alloc (.map #[] 0)) (k:=S.nx) (.inr rfl);rw[show(g.new S.nx w.heap.size 0).ob S.nx=w.heap.size from aK _ _ _]at b;refine⟨_,_,_,.inl ?_,b,f,e⟩;simp[execOp,c,Instr.makeMap,newObj,Sem.run]
theorem Yd(d:o.op=.makeMap t (some x))(e:P.underlying t=some (.map kt et))(f:Y.ev x=.v (.int kk m)):bt P U n o Y S (.mp S.nx) (S.new (.mp [])):=by intro A g q w j l;have b:=l.ev x;rw[f]at b;have p:=cF b;let⟨r,s⟩:=j.new (.map #[] 0) (.mp []) 0 (λJ=>aE) λu=>⟨#[],0,eB,rfl,λi k a h=>Z⟩;have c:=aT.mp (g:=g.new S.nx w.heap.size 0) (w:=w.alloc (.map #[] 0)) (k:=S.nx) (.inr rfl);rw[show(g.new S.nx w.heap.size 0).ob S.nx=w.heap.size from aK _ _ _]at c;refine⟨_,_,_,.inl ?_,c,s,r⟩;simp[execOp,d,Instr.makeMap,newObj,Sem.run,p,run_underlying e,asInt,asIntOf]
theorem Qt{y:Operand}{k:Nat}{b:AV}(M:o.op=.mapUpdate t x i y)(N:P.underlying t=some (.map kt et))(l:P.underlying kt=some (.int kk))(hx:Y.ev x=.mp k)(r:S.get k=some (.mp es))(Q:qM es)(hi:Y.ev i=.v (dM m))(hy:Y.ev y=b):bt P U n o Y S (.v undef) (S.set k (some (.mp (DY es m b)))):=by intro A g q w s u;have R:=u.ev x;have T:=u.ev i;have z:=u.ev y;rw[hx]at R;rw[hi]at T;rw[hy]at z;let⟨V,B⟩:=vf R;have W:=cF T;let⟨v,C⟩:∃v,q.eval y=v:=⟨_,rfl⟩;rw[C]at z;let⟨_,_,entries,clock,p,p2,p3⟩:=s.dh k _ r B;have h:=Gq p2 p3 Q (kk:=kk) m;have Hf:entries.toList.length=entries.size:=bu_;unfold DY;cases E:nr es m with|none =>rw[E]at h;let⟨F,q1,G,J⟩:=s.Gb (P:=P) r B p (entries':=entries.push {key:=dM m,val:=v,born:=clock }) (clock':=clock+1) (es':=es++[(dM m,b)]) Z (λi key a hi=>by by_cases c:i<es.length;grind;rw[br_ X]at hi;have Qo:i=es.length:=Z;subst Qo;simp at hi;obtain⟨rfl,rfl⟩:=hi;exact⟨{key:=dM m,val:=v,born:=clock },Z,rfl,z⟩);refine⟨undef,F,g,.inr ⟨?_,rfl⟩,.v,G,J⟩;simp only[execOp,M,V,W,C,Instr.mapUpdate,Sem.run_bind,run_underlying N,Result.andThen_ok,i_ p,run_checkKey l,run_findKey l h,q1,Sem.run_pure]|some j =>
  let⟨a,ha⟩:=zw Q E;let⟨e,L,r2,r3⟩:=p3 j _ a ha;rw[E]at h;simp only[L,aN_]at h;have nB:j<entries.size:=(cF_.1 L).1;let⟨F,q1,G,J⟩:=s.Gb (P:=P) r B p (entries':=entries.modify j λe=>{e with key:=dM m,val:=v }) (clock':=clock) (es':=es.set j (dM m,b)) Z λi key a' hi=>Z;refine⟨undef,F,g,.inr ⟨?_,rfl⟩,.v,G,J⟩;have fH:(Instr.keyThatStays ((entries[j]?.map (·.key)).getD (dM m)) (dM m)).run P w=.ok (dM m) w:=by rw[L];simp[Instr.keyThatStays,r2,Instr.sameBits,dM]
  simp only[execOp,M,V,W,C,Instr.mapUpdate,Sem.run_bind,run_underlying N,Result.andThen_ok,i_ p,run_checkKey l,run_findKey l h,fH,q1,Sem.run_pure]
end
inductive QO where|t (n:Nat)|c (a:AV)
def QO.ev(f:Nat->AV):QO->AV|.t n=>f n|.c a=>a
def qo:Operand->QO|.tmp t=>.t t|.const v=>.c (lift v)|.global g=>.c (.v (.pointer (some ⟨g,0,none⟩)))|.func f=>.c (.v (.func (.func f) #[] #[]))
theorem aY{Y:AA}(x:Operand):(qo x).ev Y.tm=Y.ev x:=by cases x<;>rfl
inductive LK where|agg (n:Nat)|cell
inductive SK where|str|sl (n:Nat)
inductive BK where|b|s|o|f|p
inductive n0 where|mv (x:QO)|pick (c a b:QO)|alloc (cs:List AV)|box (x:QO)|build (cs:List AV) (parts:List (Nat×Nat×QO))|rows (n:Nat) (rows:List (List AV)) (parts:List (Nat×QO))|load (k:LK) (x:QO)|store (n:Nat) (x b:QO)|bin (op:BinOp) (isB:BK) (x y:QO)|not (x:QO)|neg (x:QO)|conv (k:IntKind) (x:QO)|agS (x:QO)|Pw (off:Nat) (x:QO)|field (k:LK) (off:Nat) (x:QO)|y9 (n:Nat) (x i:QO)|Lq (len n:Nat) (x i:QO)|Re (x i:QO)|Cj (len n:Nat) (k:LK) (x i:QO)|slice (k:SK) (x:QO) (lo hi mx:Option QO)|extract (x:QO) (i:Nat)|sy (z:List AV) (MO:Nat) (l c:QO)|abd (x:QO)|IS (x:QO)|Ye (f:Fn) (first cap:List QO)|Px (x:QO)|call (f:QO) (args:List QO)|len (str:Bool) (x:QO)|append (sz MO:Nat) (a b:QO)|min (x y:QO)|max (x y:QO)|awu (x:QO)|kY (x:Option QO)|look (z:AV) (c:Bool) (x i:QO)|pj (x i b:QO)|I_ (x:QO)|QG (t:Nat) (x:QO)|eqs (t:Nat) (x y:QO)|del (x i:QO)|copy (sz:Nat) (a b:QO)|anr (z:List AV) (a:QO)|ans (a:QO)|cap (a:QO)|Nf (z:List AV) (MO:Nat) (a m:QO)|mN (kt:Nat) (z:AV) (c:Bool) (x i:QO)|Bh (kt:Nat) (x i b:QO)|J4 (z:AV) (x i:QO)|J5 (x i b:QO)|assert (t:Nat) (c:Bool) (x:QO)
def jc(T:Tables)(t:TypeId):Option TypeDesc :=match T.info? t with|some {desc:=.named _ u,..}=>(T.info? u).map (·.desc)|some i=>some i.desc|none=>none
def agT(T:Tables)(t:TypeId):Option Bool :=match jc T t with|some (.struct _)|some (.array _ _)=>some true|some _=>some false|none=>none
def y4(T:Tables)(t:TypeId):Option Nat:=(T.info? t).map (·.size)
def byT(T:Tables)(t:TypeId):Option Nat:=(T.info? t).map (·.bytes)
def JK(T:Tables)(t:TypeId):Option Value:=(T.info? t).bind (·.zero)
def Tx(T:Tables)(t:TypeId):Option TypeId:=match jc T t with|some (.slice e)=>some e|_=>none
def plT(T:Tables)(fs:Array Field)(i:Nat):Option (Nat×Nat) :=match fs[i]? with
 |some f=>match y4 T f.type with|some n=>some (f.offset,n)|none=>none
 |none=>none
def Ty(T:Tables)(t:TypeId):Option LK:=match agT T t,y4 T t with|some true,some n=>some (.agg n)|some false,_=>some .cell|_,_=>none
theorem cU(t:TypeId):jc P.toTables t=P.underlying t:=rfl
theorem ant(t:TypeId):agT P.toTables t=Wu P t:=rfl
theorem gR(t:TypeId):y4 P.toTables t=eR P t:=rfl
theorem qB(t:TypeId):byT P.toTables t=k_ P t:=rfl
theorem lS(t:TypeId):JK P.toTables t=eL P t:=rfl
theorem om(t:TypeId):Tx P.toTables t=mc P t:=rfl
theorem v_(fs:Array Field):plT P.toTables fs=PK P fs:=rfl
def xF(k:LK)(row:List AV)(j:Nat):Option AV:=match k with
 |.agg n=>match Nat.ble (j+n) row.length with|true=>some (.agg (Wv row j n))|false=>none
 |.cell=>row[j]?
theorem Gc{k:LK}(h:Ty P.toTables t=some k)(row:List AV)(j:Nat):r_ P t row j=xF k row j:=by unfold Ty at h;simp only[ant,gR]at h;unfold r_;split at h;rename_i n a b;cases oJ_ h;rw[a,b];rfl;rename_i a;cases oJ_ h;rw[a];rfl;grind
def xJ(k:LK)(S:ao):AV->Option AV
 |.ip row=>xF k row 0|.pt b c i j=>match S.get b with
  |some (.arr a rows _ _)=>match Nat.beq c a with
   |true=>match rows[i]? with|some row=>xF k row j|none=>none
   |false=>none
  |_=>none
 |_=>none
theorem OO{k:LK}(h:Ty P.toTables t=some k)(S:ao)(a:AV):A6 P S t a=xJ k S a:=by unfold A6 xJ;simp only[Gc h];rfl
def Tz(place:Nat->Option (Nat×Nat)):List (Nat×Operand)->Option (List (Nat×Nat×QO))|[]=>some []|(i,x)::FJ=>match place i with
  |some (off,size)=>match Tz place FJ with|some l=>some ((off,size,qo x)::l)|none=>none
  |none=>none
def Py(f:Nat->AV):List AV->List (Nat×Nat×QO)->Option (List AV)|cells,[]=>some cells|cells,(off,size,x)::FJ=>match Nat.beq (bB (x.ev f)).length size&&Nat.ble (off+size) cells.length&&(bB (x.ev f)).all dv with|true=>Py f (sU cells off (bB (x.ev f))) FJ|false=>none
theorem KD{Y:AA}{place:Nat->Option (Nat×Nat)}:∀{l:List (Nat×Operand)}{a:List (Nat×Nat×QO)}{cells:List AV},Tz place l=some a ->Dz place cells (l.map λ(i,x)=>(i,Y.ev x))=Py Y.tm cells a
 |[],a,cells,h=>by cases oJ_ h;rfl|(i,x)::FJ,a,cells,h=>by
  simp only[Tz]at h;split at h;rename_i off size b;split at h;rename_i l c;cases oJ_ h;simp only[aK_,Dz,b,Py,aY];cases d:Nat.beq (bB (Y.ev x)).length size&&Nat.ble (off+size) cells.length&&(bB (Y.ev x)).all dv with|true=>simp only[];rw[KD c]|false=>rfl
  grind;grind
def res(T:Tables):Op->Option n0
 |.move x=>some (.mv (qo x))|.assign x=>some (.mv (qo x))|.pick c a b=>some (.pick (qo c) (qo a) (qo b))|.alloc e=>match JK T e with|some z=>some (.alloc (z.cells.toList.map cT))|none=>none
 |.box _ x=>some (.box (qo x))|.build t parts=>match JK T t with
  |some (.agg cs)=>match jc T t with
   |some (.struct h)=>match h.toList.all λf=>(y4 T f.type).isSome with
    |true=>match Tz (plT T h) parts.toList with|some l=>some (.build (cs.toList.map cT) l)|none=>none
    |false=>none
   |some (.array _ e)=>match y4 T e with
    |some n=>match Tz (λi=>some (i*n,n)) parts.toList with|some l=>some (.build (cs.toList.map cT) l)|none=>none
    |none=>none
   |_=>none
  |_=>none
 |.buildSlice t len parts=>match Tx T t with
  |some e=>match JK T e,y4 T e with
   |some z,some n=>match Nat.ble (len*n) 16777216&&Nat.beq z.cells.size n&&Nat.blt 0 n with|true=>some (.rows n (List.replicate len (z.cells.toList.map cT)) (parts.toList.map λ(i,x)=>(i,qo x)))|false=>none
   |_,_=>none
  |none=>none
 |.load t x=>match Ty T t with|some k=>some (.load k (qo x))|none=>none
 |.store t x b=>match y4 T t with|some n=>some (.store n (qo x) (qo b))|none=>none
 |.binOp op t x y _=>match jc T t with
  |some .bool=>some (.bin op .b (qo x) (qo y))|some (.slice _)=>some (.bin op .s (qo x) (qo y))|some (.func ..)=>some (.bin op .f (qo x) (qo y))|some (.pointer _)=>some (.bin op .p (qo x) (qo y))|some (.struct _)=>match op with|.eql=>some (.eqs t (qo x) (qo y))|_=>none
  |_=>some (.bin op .o (qo x) (qo y))
 |.unOp op _ x=>match op with|.not=>some (.not (qo x))|.neg=>some (.neg (qo x))|_=>none
 |.convert src m x=>match jc T src,jc T m with
  |some (.int _),some (.int k)=>some (.conv k (qo x))|some .string,some .string=>some (.agS (qo x))|some (.slice e),some .string=>match jc T e with|some (.int .u8)=>some (.awu (qo x))|_=>none
  |_,_=>none
 |.fieldAddr s x f=>match jc T s with
  |some (.struct h)=>match h[f]? with
   |some j=>match y4 T j.type with|some (_+1)=>some (.Pw j.offset (qo x))|_=>none
   |none=>none
  |_=>none
 |.field t x f=>match jc T t with
  |some (.struct h)=>match h[f]? with
   |some j=>match Ty T j.type with|some k=>some (.field k j.offset (qo x))|none=>none
   |none=>none
  |_=>none
 |.indexAddr t x i=>match jc T t with
  |some (.slice e)=>match y4 T e with|some n=>some (.y9 n (qo x) (qo i))|none=>none
  |some (.array len e)=>match y4 T e with|some n=>some (.Lq len n (qo x) (qo i))|none=>none
  |_=>none
 |.index t x i=>match jc T t with
  |some .string=>some (.Re (qo x) (qo i))|some (.array len e)=>match y4 T e,Ty T e with|some n,some k=>some (.Cj len n k (qo x) (qo i))|_,_=>none
  |_=>none
 |.slice t x o p q=>match jc T t with
  |some .string=>some (.slice .str (qo x) (o.map qo) (p.map qo) (q.map qo))|some (.slice e)=>match y4 T e with|some n=>some (.slice (.sl n) (qo x) (o.map qo) (p.map qo) (q.map qo))|none=>none
  |_=>none
 |.extract x i=>some (.extract (qo x) i)|.makeSlice t l c=>match Tx T t with
  |some e=>match JK T e,y4 T e,byT T e with
   |some z,some d,some g=>match Nat.beq z.cells.size d&&Nat.blt 0 d with|true=>some (.sy (z.cells.toList.map cT) g (qo l) (qo c))|false=>none
   |_,_,_=>none
  |none=>none
 |.range t x=>match jc T t with|some .string=>some (.abd (qo x))|_=>none
 |.next x isStr=>match isStr with|true=>some (.IS (qo x))|false=>none
 |.makeFunc f first cap=>some (.Ye f (first.toList.map qo) (cap.toList.map qo))|.nilCheck x=>some (.Px (qo x))|.call c=>match c.callee with
  |.value f=>some (.call (qo f) (c.args.toList.map qo))|.builtin b=>match b,c.argTypes.toList,c.args.toList with
   |.len,[t],[x]=>match jc T t with|some (.slice _)=>some (.len false (qo x))|some .string=>some (.len true (qo x))|_=>none
   |.append,[t,t2],[a,b]=>match Tx T t,Tx T t2 with
    |some e,some _=>match JK T e,y4 T e,byT T e with
     |some z,some d,some g=>match Nat.beq z.cells.size d&&Nat.blt 0 g with|true=>some (.append d g (qo a) (qo b))|false=>none
     |_,_,_=>none
    |some e,none=>match jc T t2 with
     |some (.int _)=>match JK T e,y4 T e,byT T e with
      |some z,some d,some g=>match Nat.beq z.cells.size d&&Nat.blt 0 g with|true=>some (.Nf (z.cells.toList.map cT) g (qo a) (qo b))|false=>none
      |_,_,_=>none
     |_=>none
    |none,_=>none
   |.delete,[t,_],[x,i]=>match jc T t with
    |some (.map kt _)=>match jc T kt with|some (.int _)=>some (.del (qo x) (qo i))|_=>none
    |_=>none
   |.copy,[t,t2],[a,b]=>match Tx T t,Tx T t2 with
    |some e,some _=>match y4 T e with|some d=>some (.copy d (qo a) (qo b))|none=>none
    |_,_=>none
   |.clear,[t],[a]=>match jc T t with
    |some (.slice e)=>match JK T e with|some z=>some (.anr (z.cells.toList.map cT) (qo a))|none=>none
    |some (.map _ _)=>some (.ans (qo a))|_=>none
   |.cap,[t],[a]=>match jc T t with|some (.slice _)=>some (.cap (qo a))|_=>none
   |.min,_,[x,y]=>some (.min (qo x) (qo y))|.max,_,[x,y]=>some (.max (qo x) (qo y))|_,_,_=>none
  |.invoke _ _=>none
 |.makeMap t r=>match jc T t with|some (.map _ _)=>some (.kY (r.map qo))|_=>none
 |.lookup t x i c=>match jc T t with
  |some (.map kt et)=>match jc T kt,JK T et with|some (.int _),some z=>some (.look (lift z) c (qo x) (qo i))|some (.struct _),some z=>some (.mN kt (lift z) c (qo x) (qo i))|some .string,some z=>some (.mN kt (lift z) c (qo x) (qo i))|_,_=>none
  |_=>none
 |.mapUpdate t x i y=>match jc T t with
  |some (.map kt _)=>match jc T kt with|some (.int _)=>some (.pj (qo x) (qo i) (qo y))|some (.struct _)=>some (.Bh kt (qo x) (qo i) (qo y))|some .string=>some (.Bh kt (qo x) (qo i) (qo y))|_=>none
  |_=>none
 |.mapEntry t x i=>match jc T t with
  |some (.map kt et)=>match jc T kt,JK T et with|some (.int _),some z=>some (.J4 (lift z) (qo x) (qo i))|_,_=>none
  |_=>none
 |.entryStore t x i y=>match jc T t with
  |some (.map kt _)=>match jc T kt with|some (.int _)=>some (.J5 (qo x) (qo i) (qo y))|_=>none
  |_=>none
 |.typeAssert x _ t c=>match jc T t with|some (.interface _)=>none|some _=>some (.assert t c (qo x))|none=>none
 |.panic x=>some (.I_ (qo x))|.makeInterface t x=>some (.QG t (qo x))|_=>none
def oO(q:n0)(f:Nat->AV)(S:ao):Option (AV×ao) :=match q with
 |.mv x=>some (x.ev f,S)|.pick c a b=>match c.ev f with|.v (.bool true)=>some (a.ev f,S)|.v (.bool false)=>some (b.ev f,S)|_=>none
 |.alloc cs=>Nm S cs|.box x=>match(bB (x.ev f)).all dv with|true=>Nm S (bB (x.ev f))|false=>none
 |.build cs parts=>match Py f cs parts with|some l=>some (.agg l,S)|none=>none
 |.rows n rows parts=>match y5 n rows (parts.map λ(i,x)=>(i,x.ev f)) with|some rows=>some (.sl true rows,S)|none=>none
 |.load k x=>match xJ k S (x.ev f) with|some a=>some (a,S)|none=>none
 |.store n x b=>match b.ev f,x.ev f with
  |e,.pt k d 0 j=>match S.get k with
   |some (.arr h [row] 0 ex)=>match Nat.beq d h&&(bB e).all dv&&Nat.beq n (bB e).length with
    |true=>match Nat.ble (j+(bB e).length) row.length with
     |true=>match S with|⟨g,x⟩=>some (.v undef,⟨bK g k (some (.arr d [sU row j (bB e)] 0 ex)),x⟩)
     |false=>none
    |false=>none
   |_=>none
  |_,_=>none
 |.not x=>match x.ev f with|.v (.bool true)=>some (.v (.bool false),S)|.v (.bool false)=>some (.v (.bool true),S)|_=>none
 |.Pw off x=>match x.ev f with|.ip row=>some (.ip (row.drop off),S)|.pt k d i j=>some (.pt k d i (j+off),S)|_=>none
 |.field k off x=>match x.ev f with
  |.agg l=>match xF k l off with|some a=>some (a,S)|none=>none
  |_=>none
 |.extract x i=>match x.ev f with
  |.aM l=>match l[i]? with|some a=>some (a,S)|none=>none
  |_=>none
 |.Ye g first cap=>some (.fn g (first.map (·.ev f)) (cap.map (·.ev f)),S)|.Px x=>match x.ev f with|.ip c=>some (.ip c,S)|.pt k d i j=>some (.pt k d i j,S)|_=>none
 |_=>none
def aex(op:BinOp)(isB:BK):AV->AV->Option Bool
 |.v (.int k a),.v (.int c b)=>match decide (k=c) with
  |true=>match op with|.eql=>some (a==b)|.neq=>some (a !=b)|.lss=>some (decide (a<b))|.leq=>some (decide (a<=b))|.gtr=>some (decide (a>b))|.geq=>some (decide (a>=b))|_=>none
  |false=>none
 |.v (.string a),.v (.string b)=>match op with|.eql=>some (a.toList==b.toList)|.neq=>some ! a.toList==b.toList|.lss=>some (Op.bytesLess a.toList b.toList)|.leq=>some (Op.bytesLess a.toList b.toList||a.toList==b.toList)|.gtr=>some !(Op.bytesLess a.toList b.toList||a.toList==b.toList)|.geq=>some !Op.bytesLess a.toList b.toList|_=>none
 |.v (.bool a),.v (.bool b)=>match isB,op with|.b,.eql=>some (a==b)|.b,.neq=>some ! a==b|_,_=>none
 |_,_=>none
section
variable{o:Op}{q:n0}{K:AV->ao->Prop}
theorem yj(d:res P.toTables o=some q)(h:oO q Y.tm S=some (r,S')):b8 P U o Y S (CK r S'):=by have e:∀{a:AV}{T:ao},some (a,T)=some (r,S')->a=r/\T=S':=λh=>Z;have F:∀{q:AV×ao},some q=some (r,S')->q.1=r/\q.2=S':=λh=>Z;cases o with
 |move x=>cases oJ_ d;rw[oO,aY]at h;exact e h|assign x=>cases oJ_ d;rw[oO,aY]at h;exact e h|pick c a b =>cases oJ_ d;simp only[oO,aY]at h;simp only[b8];split at h;rename_i u;rw[u];exact e h;rename_i u;rw[u];exact e h;grind|alloc t =>simp only[res,cU,gR,qB,lS,om,v_]at d;split at d;rename_i z n;cases oJ_ d;simp only[oO]at h;simp only[b8,n];rw[Nn]at h;exact F h;grind|box t x =>cases oJ_ d;simp only[oO,aY]at h;simp only[b8];split at h;rename_i g;rw[g];rw[Nn]at h;exact F h;grind|build t parts =>simp only[res,cU,gR,qB,lS,om,v_]at d;split at d;rename_i cs n;split at d;rename_i G v;split at d;rename_i J;split at d;rename_i l A;cases oJ_ d;simp only[oO]at h;simp only[b8,zI,n,v,J,KD A];split at h;rename_i K B;simp only[B,aN_];exact e h;grind;grind;grind;rename_i le el v;split at d;rename_i m p;split at d;rename_i l A;cases oJ_ d;simp only[oO]at h;simp only[b8,zI,n,v,p,KD A];split at h;rename_i K B;simp only[B,aN_];exact e h;grind;grind;grind;grind;grind|buildSlice t len parts =>
  simp only[res,cU,gR,qB,lS,om,v_]at d;split at d;rename_i el L;split at d;rename_i z m n w;split at d;rename_i M;cases oJ_ d;have p:(parts.toList.map λ(i,x)=>(i,qo x)).map (λ(i,x)=>(i,QO.ev Y.tm x))=parts.toList.map λ(i,x)=>(i,Y.ev x):=by rw[bB_];apply aQ_;rintro⟨i,x⟩ _;simp[aY]
  simp only[oO]at h;rw[p]at h;simp only[b8,L,n,w,M];split at h;rename_i rows N;simp only[N];exact e h;grind;grind;grind;grind|load t x =>simp only[res,cU,gR,qB,lS,om,v_]at d;split at d;rename_i k C;cases oJ_ d;simp only[oO,aY]at h;simp only[b8];split at h;rename_i z n;rw[<-OO C]at n;exact bR.mk n (e h);grind;grind|store t x b =>
  simp only[res,cU,gR,qB,lS,om,v_]at d;split at d;rename_i m p;cases oJ_ d;simp only[oO,aY]at h;have w:HX P S t (Y.ev b) (Y.ev x)=some S'/\AV.v undef=r:=by grind[HX,B5]
  simp only[b8];exact bR.mk (Tw w.1) ⟨w.2,rfl⟩;grind|unOp op t x =>simp only[res,cU,gR,qB,lS,om,v_]at d;split at d;cases oJ_ d;simp only[oO,aY]at h;simp only[b8];split at h;rename_i u;rw[u];exact e h;rename_i u;rw[u];exact e h;grind;cases oJ_ d;cases h;grind|fieldAddr s x f =>simp only[res,cU,gR,qB,lS,om,v_]at d;split at d;rename_i G v;split at d;rename_i Q E;split at d;rename_i m p;cases oJ_ d;simp only[oO,aY]at h;simp only[b8,v,E,p];split at h;rename_i row g;simp only[g];exact e h;rename_i k R i j g;simp only[g];exact e h;grind;grind;grind;grind|field t x f =>simp only[res,cU,gR,qB,lS,om,v_]at d;split at d;rename_i G v;split at d;rename_i Q E;split at d;rename_i k C;cases oJ_ d;simp only[oO,aY]at h;simp only[b8,v,E];split at h;rename_i l g;simp only[g];split at h;rename_i a y;rw[<-Gc C]at y;exact bR.mk y (e h);grind;grind;grind;grind;grind|extract x i =>cases oJ_ d;simp only[oO,aY]at h;simp only[b8];split at h;rename_i l g;split at h;rename_i a y;simp only[g,y];exact e h;grind;grind|makeFunc f first cap =>cases oJ_ d;simp only[oO,bB_]at h;have p:∀l:List Operand,l.map ((·.ev Y.tm)∘qo)=l.map Y.ev:=λl=>aQ_ λx _=>aY x;rw[p,p]at h;exact e h|nilCheck x =>cases oJ_ d;simp only[oO,aY]at h;simp only[b8];split at h;rename_i c g;rw[g];exact e h;rename_i c g;rw[g];exact e h;grind|_ =>
  simp only[res,cU,gR,qB,lS,om,v_]at d;repeat' split at d
  all_goals first|cases oJ_ d;cases h|cases d
end
end Go.Proofs.YtbdcmpknicjopaaGreat
