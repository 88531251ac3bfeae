import Derived.Test.YtbdcmpknicjopaaGreatTp3
namespace Go.Proofs.YtbdcmpknicjopaaGreat
set_option linter.all false
open Go.RowKit
variable{F5 l:List Oper}{P:Program}{Q':Exit->AA->ah->Prop}{S S':ah}{U aE:AA}{Y w:World}{a b c:Code}{args0 cs:List AV}{cV:Array Bool}{es:List (Value×AV)}{et kt t:TypeId}{ex:Exit}{f:FuncId}{g:Gh}{i x:Operand}{kk:IntKind}{m:Int}{n:Nat}{r:AV}
variable{K:AV->ah->Prop}{entries:Array MapEntry}
section
variable{rd:Bool}{LU:Array Oper}
def HQ(LR:List Nat)(o:Oper):Nat:=o.after.toList.foldl (λs e=>if Region.binds .any e then s ||| (2^e.on |||LR.getD e.on 0) else s) 0
def beforeL(LR:List Nat):List Oper->List Nat|[]=>LR|o::os=>beforeL (LR++[HQ LR o]) os
def uD(k:Nat):List Oper->Bool|[]=>true|o::os=>o.after.toList.all (λe=>!Region.binds .any e||Nat.blt e.on k)&&uD (k+1) os
def HR(LU:Array Oper)(m:List Nat)(y:Nat):Nat->Bool|0=>true|x+1=>((m.getD y 0).testBit x||Ad LU x y)&&HR LU m y x
def Eg(LU:Array Oper)(m:List Nat):Nat->Bool|0=>true|y+1=>HR LU m y y&&Eg LU m y
def K_(LU:Array Oper):Bool:=uD 0 LU.toList&&Eg LU (beforeL [] LU.toList) LU.size
theorem Th{LR:List Nat}{o:Oper}{x:Nat}(h:(HQ LR o).testBit x=true):∃e∈o.after.toList,Region.binds .any e=true/\(x=e.on\/(LR.getD e.on 0).testBit x=true):=by
 have key:∀(l:List Edge)(s:Nat),(l.foldl (λs e=>if Region.binds .any e then s ||| (2^e.on |||LR.getD e.on 0) else s) s).testBit x=true->s.testBit x=true\/∃e∈l,Region.binds .any e=true/\(x=e.on\/(LR.getD e.on 0).testBit x=true):=by intro l;induction l with|nil=>exactλs h=>.inl h|cons e l b =>intro s h;rw[dk_]at h;rcases b _ h with a|⟨d,c,a⟩;grind;grind
 rcases key _ 0 h with a|a;grind;grind
theorem IL:∀{os:List Oper}{LR:List Nat}{i:Nat}{o:Oper},os[i]?=some o->∃a,(beforeL LR os).getD (LR.length+i) 0=HQ a o/\(∀j,j<LR.length+i->a.getD j 0=(beforeL LR os).getD j 0)/\a.length=LR.length+i
 |[],LR,i,o,h=>X|p::os,LR,i,o,h=>by
  have g:∀(os:List Oper)(LR:List Nat)(j:Nat),j<LR.length->(beforeL LR os).getD j 0=LR.getD j 0:=by intro os;induction os with|nil=>intro LR j b;rfl|cons p os c =>intro LR j b;rw[beforeL,c _ _ X];simp[bj_ b]
  cases i with|zero =>simp at h;subst h;refine⟨LR,?_,λj b=>?_,rfl⟩;grind[beforeL];grind|succ i =>simp at h;let⟨a,d,e,f⟩:=IL (LR:=LR++[HQ LR p]) h;simp only[av_,aC_,bi_]at d e f;refine⟨a,?_,λj b=>?_,Z⟩;grind[beforeL];grind[beforeL]
theorem G3:∀{os:List Oper}{k i:Nat}{o:Oper},uD k os=true->os[i]?=some o->∀e∈o.after.toList,Region.binds .any e=true->e.on<k+i|[],k,i,o,_,h=>X|p::os,k,i,o,a,h=>by simp only[uD,au_]at a;cases i with|zero =>simp at h;subst h;intro e b c;have:=aZ_.1 a.1 e b;rw[c]at this;simp at this;omega|succ i =>simp at h;intro e b c;have:=G3 a.2 h e b c;omega
structure HT(LU:Array Oper)(cV:Array Bool):Prop where
 size:cV.size=LU.size
 closed:∀y x,cV.getD y false=true->((beforeL [] LU.toList).getD y 0).testBit x=true->cV.getD x false=true
theorem NM{i:Nat}(f:cV.size=LU.size)(h:i∈Region.ready .any LU cV):∃o,LU[i]?=some o/\i<LU.size/\cV.getD i false=false/\∀e∈o.after.toList,Region.binds .any e=true->cV.getD e.on false=true:=by unfold Region.ready at h;rw[bT_]at h;let⟨b,a⟩:=h;have b:i<LU.size:=X;simp only[au_]at a;have c:LU[i]?=some LU[i]:=aM_ b;rw[c]at a;simp only[aK_,bO_]at a;refine⟨_,c,b,?_,λe g d=>?_⟩;grind;have:=Array.all_eq_true'.1 a.2 e X;rw[d]at this;simpa using this
theorem NN(i:uD 0 LU.toList=true){y x:Nat}{o:Oper}(k:LU[y]?=some o)(h:((beforeL [] LU.toList).getD y 0).testBit x=true):∃e∈o.after.toList,Region.binds .any e=true/\(x=e.on\/((beforeL [] LU.toList).getD e.on 0).testBit x=true):=by have a:LU.toList[y]?=some o:=X;let⟨l,b,c,m⟩:=IL (LR:=[]) a;simp only[bi_,aG_]at b c;rw[b]at h;let⟨e,d,f,j⟩:=Th h;refine⟨e,d,f,j.imp id λg=>?_⟩;have p:=G3 i a e d f;rw[c e.on Z]at g;exact g
theorem JI{i j:Nat}(hi:i<cV.size):(cV.setIfInBounds i true).getD j false=if j=i then true else cV.getD j false:=by simp only[be_,dj_];by_cases c:i=j;grind;grind
theorem HT.step(g:uD 0 LU.toList=true){i:Nat}(a:HT LU cV)(h:i∈Region.ready .any LU cV):HT LU (cV.setIfInBounds i true):=by let⟨o,j,k,q,l⟩:=NM a.size h;refine⟨by simp[a.size],λy x b f=>?_⟩;rw[JI (by rw[a.size];exact k)]at b⊢;by_cases c:y=i;subst c;let⟨e,m,n,d⟩:=NN g j f;have p:=l e m n;rcases d with rfl|d;grind;rw[a.closed e.on x p d];simp;rw[if_neg c]at b;rw[a.closed y x b f];simp
theorem Bo(l:uD 0 LU.toList=true):∀(fuel t:Nat)(cV:Array Bool),HT LU cV ->(∀i∈Region.linearise.go .any LU fuel t cV [],i<LU.size/\cV.getD i false=false)/\(Region.linearise.go .any LU fuel t cV []).Nodup /\(Region.linearise.go .any LU fuel t cV []).Pairwise (λy x=>((beforeL [] LU.toList).getD y 0).testBit x=false) /\((∃i,i<LU.size/\cV.getD i false=false/\i∉Region.linearise.go .any LU fuel t cV [])->(Region.linearise.go .any LU fuel t cV []).length=fuel):=by intro fuel;induction fuel with|zero=>intro t cV a;exact⟨λi d=>by simp[Region.linearise.go]at d,by simp[Region.linearise.go],by simp[Region.linearise.go],λ_=>by simp[Region.linearise.go]⟩|succ fuel E =>
  intro t cV a;have e:Region.linearise.go .any LU (fuel+1) t cV []=match(Region.ready .any LU cV)[t%(Region.ready .any LU cV).length]? with|some i=>Region.linearise.go .any LU fuel (t/(Region.ready .any LU cV).length) (cV.setIfInBounds i true) [i]|none=>[]:=by simp only[Region.linearise.go];rfl
  rw[e];cases d:(Region.ready .any LU cV)[t%(Region.ready .any LU cV).length]? with
  |none =>
   refine⟨λi h=>X,aB,aB,λ⟨i,f,m,_⟩=>?_⟩;exfalso;have F:Region.ready .any LU cV=[]:=by cases n:Region.ready .any LU cV with|nil=>rfl|cons x v =>rw[n]at d;have g:t%(x::v).length<(x::v).length:=Nat.mod_lt _ aB;simp at d;simp at g;omega
   have least:∀k,(∀j,j<k->j<LU.size->cV.getD j false=true)->k<LU.size->cV.getD k false=false->False:=by
    intro k w p G;have:k∈Region.ready .any LU cV:=by
     unfold Region.ready;rw[bT_];refine⟨X,?_⟩;have g:k<cV.size:=by rw[a.size];exact p
     rw[aM_ p];simp only[aK_,bO_,au_];refine⟨?_,?_⟩;grind;rw[Array.all_eq_true'];intro b J;cases q:Region.binds .any b with|false=>rfl|true =>have:=G3 (k:=0) (i:=k) l (by rw[bh_];exact aM_ p) b X q;simp only[cS_,Bool.false_or];exact w b.on Z Z
    rw[F]at this;cases this
   have all:∀k,k<=LU.size->∀j,j<k->j<LU.size->cV.getD j false=true:=by intro k;induction k with|zero=>intro _ j z;omega|succ k K =>intro w j z S;by_cases c:j<k;grind;grind
   have:=all LU.size (ad_ _) i f f;rw[m]at this;cases this|some i =>
   have A:=as_ d;let⟨o,r,g,T,n⟩:=NM a.size A;have s:=a.step l A;let⟨f1,f2,f3,f4⟩:=E (t/(Region.ready .any LU cV).length) _ s;simp only;rw[linearise_go_acc,List.reverse_singleton,dr_];have L:i<cV.size:=by rw[a.size];exact g
   have M:∀j∈Region.linearise.go .any LU fuel (t/(Region.ready .any LU cV).length) (cV.setIfInBounds i true) [],j≠i/\cV.getD j false=false:=by grind[JI]
   refine⟨λj z=>?_,?_,?_,λ⟨k,f,m,B⟩=>?_⟩;grind;grind;rw[ch_];refine⟨λx N=>?_,f3⟩;cases q:((beforeL [] LU.toList).getD i 0).testBit x with|false=>rfl|true =>let⟨b,P,Q,u⟩:=NN l r q;have R:=n b P Q;have C:=(M x N).2;rcases u with rfl|u;grind;rw[a.closed b.on x R u]at C;cases C
   rw[aC_,f4 ⟨k,f,?_,λh=>B X⟩];rw[JI L,if_neg λe=>B X];exact m
theorem IM{m:List Nat}{y:Nat}:∀{k x:Nat},HR LU m y k=true->x<k->(m.getD y 0).testBit x=true\/Ad LU x y=true|0,x,_,h=>Z|k+1,x,a,h=>by simp only[HR,au_,cf_]at a;by_cases c:x=k;grind;exact IM a.2 Z
theorem G4{m:List Nat}:∀{k x y:Nat},Eg LU m k=true->y<k->x<y->(m.getD y 0).testBit x=true\/Ad LU x y=true|0,x,y,_,h,_=>Z|k+1,x,y,a,h,b=>by simp only[Eg,au_]at a;by_cases c:y=k;grind[IM];exact G4 a.2 Z b
theorem NP:∀(l:List Nat),l.Nodup->∀m,(∀y∈l,y<m)->l.length<=m:=by intro l b m;induction m generalizing l with
 |zero=>intro h;cases l with|nil=>simp|cons a l=>have:=h a aB;omega
 |succ m d =>intro h;by_cases c:m∈l;have e:=d (l.erase m) (b.erase m) λy f=>X;rw[dJ_ c]at e;omega;grind
theorem ep.draw{id:Nat}{aE:AA}(k:P.follows .mixedOrders=true)(i:K_ LU=true)(h:vW P Y n LU (List.range LU.size) U S aE S'):ep P Y rd n (.region id LU true) U S .normal aE S':=by
 intro F m A g a w l M o p;simp only[K_,au_]at i;let⟨q,r⟩:=i;refine wpIn_region_draw λt=>?_;simp only[Region.schedule,k,cy_,if_true];have s:HT LU (Array.replicate LU.size false):=⟨aB,λy x b=>by simp only[be_,cT_]at b;split at b<;>simp at b⟩;let⟨f1,f2,f3,f4⟩:=Bo q LU.size t _ s;have u:∀x,x∈Region.linearise .any LU t↔x∈List.range LU.size:=by
  intro x;refine⟨λd=>by simpa using(f1 x d).1,λd=>?_⟩;have d:x<LU.size:=X;by_cases c:x∈Region.linearise .any LU t;grind;exfalso;have v:=f4 ⟨x,d,by simp[be_,cT_,d],c⟩;have z:(x::Region.linearise.go .any LU LU.size t (Array.replicate LU.size false) []).Nodup:=by rw[bQ_];exact⟨c,f2⟩
  have B:=NP (x::Region.linearise.go .any LU LU.size t (Array.replicate LU.size false) []) z LU.size λy b=>X;rw[aC_,v]at B;omega
 have C:(Region.linearise .any LU t).Pairwise λy x=>x<y->Ad LU x y=true:=by refine dK_ ?_ f3;intro y x b d N E;rcases G4 r (f1 y b).1 E with e|e;grind;grind
 have G:(List.range LU.size).Pairwise (·< ·):=dL_;let⟨j,f⟩:=o.drew;have f:St Y A g S {w with drawn:=w.drawn+1 }:=f;refine(vW.perm G C u f2 h).Ry F m A g a _ _ l f (p.later j.toLater) λQ R J e K L=>⟨rfl,J,e,K,j.trans L⟩
end
section
variable{rd:Bool}{o:Oper}{LU:Array Oper}
def La(P:Program)(Y:World)(K:AV->ah->Prop)(S:ah)(args:List AV):AV->Prop
 |.v (.func (.func g) first cap)=>match first.toList,cap.toList with|[],[]=>∃r,aF P Y g args S r S/\K r S|_,_=>False
 |.fn (.func g) first cap=>∃r,aF P Y g (first++args++cap) S r S/\K r S|_=>False
def eK(P:Program)(Y:World)(o:Op)(U:AA)(S:ah)(K:AV->ah->Prop):Prop :=match o with
 |.call c=>match c.callee with|.value f=>La P Y K S (c.args.toList.map U.ev) (U.ev f)|_=>bV P Y (.call c) U S K
 |o=>bV P Y o U S K
theorem afq{op:Op}(e:qf op=false)(i:EH op=false)(h:eK P Y op U S K):∃r,K r S/\bV P Y op U S (B2 r S):=by cases op with|load t x =>simp only[eK,bV,bM]at h⊢;split at h;exact⟨_,h,⟨rfl,rfl⟩⟩;grind|call c =>simp only[EH]at i;simp only[eK]at h;split at h;rename_i f j;unfold La at h;simp only[bV,j];split at h;rename_i g first cap a;split at h;rename_i k l;let⟨r,b,d⟩:=h;refine⟨r,d,?_⟩;rw[a];simp only[Hn,k,l];exact⟨r,S,b,rfl,rfl⟩;grind;rename_i g first cap a;let⟨r,b,d⟩:=h;refine⟨r,d,?_⟩;rw[a];exact⟨r,S,b,rfl,rfl⟩;grind;grind[qf]|_=>simp[EH,e,qf]at i e
theorem OA{op:Op}(h:eK P Y op U S K):bV P Y op U S K:=by cases op with|call c =>simp only[eK]at h;split at h;rename_i f a;unfold La at h;simp only[bV,a];split at h;grind[Hn];rename_i g first cap b;let⟨r,d,e⟩:=h;rw[b];exact⟨r,S,d,e⟩;grind;grind|_=>exact h
def pZ{U:AA}{S:ah}(h:bV P Y o.op U S K):∃r S',jO P Y n o (U.only (dS o)) S r S'/\K r S' :=GC (Zo (β:=U.only (dS o)) (λx b=>(gI λt e=>gJ X).symm) h)
theorem aqe{i:Nat}(hi:LU[i]?=some o)(c:(match o.dst with|some d=>Nat.blt d n|none=>true)=true)(e:o.guard=none\/∃j k,o.guard=some (j,k)/\wU LU U j=some (some k))(h:eK P Y o.op U S K):∃r S',GS P Y n LU i U S (U.put o.dst r) S'/\K r S':=by cases l:qf o.op with
 |true =>
  let⟨r,a,b⟩:=aeS l (OA h);have m:∀T,jO P Y n o (U.only (dS o)) T r T:=λT=>by obtain⟨f,S',g,rfl,rfl⟩:=pZ (n:=n) (b T);exact g
  exact⟨r,S,⟨o,hi,c,.inr ⟨e,r,rfl,m S,λ_=>⟨rfl,m⟩,λ_=>rfl⟩⟩,a⟩|false =>cases p:EH o.op with|false =>let⟨r,a,b⟩:=afq l p h;obtain⟨f,S',g,rfl,rfl⟩:=pZ (n:=n) b;exact⟨f,S',⟨o,hi,c,.inr ⟨e,f,rfl,g,λh=>X,λ_=>rfl⟩⟩,a⟩|true =>let⟨r,S',a,b⟩:=pZ (n:=n) (OA h);exact⟨r,S',⟨o,hi,c,.inr ⟨e,r,rfl,a,λh=>X,λh=>X⟩⟩,b⟩
end
theorem wrap64{c:Int}(h1:-9223372036854775808<=c)(h2:c<=9223372036854775807):IntKind.i64.wrap c=c:=by unfold IntKind.wrap;simp[IntKind.bits,IntKind.signed];omega
theorem ahs{U β:Type}{l:List U}{f:U->β}{i:Int}{k:Nat}{x:U}(hi:i=(k:Int))(h:l[k]?=some x):idx (l.map f) i=some (f x):=by grind[Tl]
def iv(i:Int):AV:=.v (.int .i64 i)
def aV(i:Int):List AV:=[iv i]
def ja:List AV->Prop|[]=>True|a::l=>Pure a/\ja l
theorem ja.all:∀{l:List AV},ja l->∀a∈l,Pure a|[],_,a,h=>X|b::l,c,a,h=>by rcases al_.1 h with rfl|h;exact c.1;exact ja.all c.2 a h
def iP(S:ah):List AV->List AV->Prop|[],[]=>True|a::l,b::c=>aI S a b/\iP S l c|_,_=>False
theorem iP.len{S:ah}:∀{l b:List AV},iP S l b->l.length=b.length|[],[],_=>rfl|a::l,c::b,h=>by simp[iP.len h.2]|[],_::_,h=>h.elim|_::_,[],h=>h.elim
theorem iP.at{S:ah}:∀{l e:List AV},iP S l e->∀(i:Nat)(a a':AV),l[i]?=some a->e[i]?=some a'->aI S a a'
 |[],[],_,i,a,a',h,_=>X|b::l,f::e,h,i,a,a',c,d=>by cases i with|zero=>simp at c d;subst c d;exact h.1|succ i=>simp at c d;exact iP.at h.2 i a a' c d
 |[],_::_,h,_,_,_,_,_=>h.elim|_::_,[],h,_,_,_,_,_=>h.elim
theorem iP.refl(S:ah):∀(l:List AV),iP S l l|[]=>trivial|a::l=>⟨.refl a,iP.refl S l⟩
section
variable{args:List AV}
def ao.VN(h:ao P Y f args r)(a:ja args)(S:ah):aF P Y f args S r S:=h.Rw a.all S
def ao.PT(h:ao P Y f args r)(b:ja args)(hs:BP r)(a:iP S args0 args):aF P Y f args0 S r S:=h.acd b.all hs S a.len a.at
end
theorem aI.wk{ex:Bool}{rows:List (List AV)}:aI S (.sl ex rows) (.sl false rows) :=.sl rfl (λi r e c b=>X) λi j r e a g c b f d=>by rw[c]at b;cases oJ_ b;rw[f]at d;cases oJ_ d;exact .refl _
def aI.fns{f:Fn}{l a m b:List AV}(h1:iP S l a)(h2:iP S m b):aI S (.fn f l m) (.fn f a b):=.fn h1.len h2.len h1.at h2.at
theorem aI.box{k:Nat}{cs':List AV}(h:S.get k=some (.arr cs.length [cs] 0 true))(b:iP S cs cs'):aI S (.pt k cs.length 0 0) (.ip cs') :=.pt h rfl (by rw[b.len];exact ad_ _) λq a d c e=>by rw[aG_]at c;exact b.at q a d c e
def Z1{β:Type}(r:AV)(k:AV->β):β:=match r with|.u=>k .u|.v x=>k (.v x)|.agg l=>k (.agg l)|.aL l=>k (.aL l)|.sl e l=>k (.sl e l)|.ip l=>k (.ip l)|.ob a b c d e=>k (.ob a b c d e)|.pt a b c d=>k (.pt a b c d)|.mp a=>k (.mp a)|.fn a b c=>k (.fn a b c)|.yl a=>k (.yl a)|.gr a b c=>k (.gr a b c)
theorem Z2{β:Type}{r:AV}{k:AV->β}:Z1 r k=k r:=by cases r<;>rfl
def rJ{β:Type}:List AV->(List AV->β)->β|[],k=>k []|a::l,k=>Z1 a λa=>rJ l λl=>k (a::l)
theorem Bp{β:Type}:∀{l:List AV}{k:List AV->β},rJ l k=k l|[],k=>rfl|a::l,k=>by rw[rJ,Z2,Bp]
def aqf{β:Type}(r:AV)(k:AV->β):β:=match r with|.u=>k .u|.v x=>k (.v x)|.agg l=>rJ l λl=>k (.agg l)|.aL l=>rJ l λl=>k (.aL l)|.sl e l=>k (.sl e l)|.ip l=>rJ l λl=>k (.ip l)|.ob a b c d e=>k (.ob a b c d e)|.pt a b c d=>k (.pt a b c d)|.mp a=>k (.mp a)|.fn a b c=>rJ b λb=>rJ c λc=>k (.fn a b c)|.yl a=>k (.yl a)|.gr a b c=>k (.gr a b c)
def Z3{β:Type}:List (List AV)->(List (List AV)->β)->β|[],k=>k []|a::l,k=>rJ a λa=>Z3 l λl=>k (a::l)
def Mn(S:ah)(cs:List AV):Option (AV×ah):=rJ cs λcs=>match S with|⟨g,x⟩=>some (.pt x cs.length 0 0,⟨bJ g x (some (.arr cs.length [cs] 0 true)),x+1⟩)
theorem Mo:Mn S cs=some (oP S cs):=by unfold Mn;rw[Bp];rfl
def G5(P:Program)(S:ah)(t:TypeId)(b:AV):AV->Option ah
 |.pt k c 0 j=>match S.get k with
  |some (.arr a [row] 0 ex)=>match Nat.beq c a&&(bp b).all db&&match eJ P t with|some m=>Nat.beq m (bp b).length|none=>false with
   |true=>match Nat.ble (j+(bp b).length) row.length with
    |true=>rJ (uF row j (bp b)) λd=>match S with|⟨g,x⟩=>some ⟨bJ g k (some (.arr c [d] 0 ex)),x⟩
    |false=>none
   |false=>none
  |_=>none
 |_=>none
theorem Sl{S':ah}{b x:AV}(h:G5 P S t b x=some S'):uG P S t b x=some S':=by unfold G5 at h;split at h;rename_i k g j;split at h;rename_i a row ex c;split at h;rename_i d;split at h;rename_i e;rw[Bp]at h;simp only[uG,c];split;simp only[ct_,e];exact h;rename_i f;have:true=false:=d.symm.trans f;cases this;grind;grind;grind;grind
def opQ(P:Program)(o:Op)(U:AA)(S:ah):Option (AV×ah) :=match o with
 |.move x=>some (U.ev x,S)|.assign x=>some (U.ev x,S)|.pick c a b=>match U.ev c with|.v (.bool true)=>some (U.ev a,S)|.v (.bool false)=>some (U.ev b,S)|_=>none
 |.alloc e=>match eu P e with|some z=>Mn S (z.cells.toList.map b9)|none=>none
 |.box _ x=>match(bp (U.ev x)).all db with|true=>Mn S (bp (U.ev x))|false=>none
 |.build t parts=>match y8 P t (parts.toList.map λ(i,x)=>(i,U.ev x)) with|some a=>some (a,S)|none=>none
 |.load t x=>match An P S t (U.ev x) with|some a=>some (a,S)|none=>none
 |.buildSlice t len parts=>match lV P t with
  |some e=>match eu P e,eJ P e with
   |some z,some m=>match Nat.ble (len*m) 16777216&&Nat.beq z.cells.size m&&Nat.blt 0 m with
    |true=>match yx m (List.replicate len (z.cells.toList.map b9)) (parts.toList.map λ(i,x)=>(i,U.ev x)) with|some rows=>Z3 rows λrows=>some (.sl true rows,S)|none=>none
    |false=>none
   |_,_=>none
  |none=>none
 |.store t x b=>match G5 P S t (U.ev b) (U.ev x) with|some S'=>some (.v undef,S')|none=>none
 |.unOp op _ x=>match op,U.ev x with|.not,.v (.bool true)=>some (.v (.bool false),S)|.not,.v (.bool false)=>some (.v (.bool true),S)|_,_=>none
 |.fieldAddr s x f=>match P.underlying s with
  |some (.struct g)=>match g[f]? with
   |some d=>match eJ P d.type with
    |some (_+1)=>match U.ev x with|.ip row=>some (.ip (row.drop d.offset),S)|.pt k h i j=>some (.pt k h i (j+d.offset),S)|_=>none
    |_=>none
   |none=>none
  |_=>none
 |.field t x f=>match P.underlying t with
  |some (.struct g)=>match g[f]? with
   |some d=>match U.ev x with
    |.agg l=>match rK P d.type l d.offset with|some a=>some (a,S)|none=>none
    |_=>none
   |none=>none
  |_=>none
 |.extract x i=>match U.ev x with
  |.aL l=>match l[i]? with|some a=>some (a,S)|none=>none
  |_=>none
 |.makeFunc f first cap=>some (.fn f (first.toList.map U.ev) (cap.toList.map U.ev),S)|.nilCheck x=>match U.ev x with|.ip c=>some (.ip c,S)|.pt k h i j=>some (.pt k h i j,S)|_=>none
 |.call c=>match c.callee,c.argTypes.toList,c.args.toList with
  |.builtin .len,[t],[x]=>match lenOf P t (U.ev x) with|some m=>some (.v (.int .i64 (m:Int)),S)|none=>none
  |_,_,_=>none
 |_=>none
section
variable{rd:Bool}{o:Op}
def mj(LU:List Oper)(U:AA)(o:Oper):Option Bool :=match o.guard with|none=>some true|some (j,a)=>match ydL LU U j with|some (some true)=>some a|some (some false)=>some !a|some none=>some false|none=>none
def Aj(d:Option Tmp)(U:AA)(r:AV):AA:=match d with|some d=>⟨bJ U.tm d r,U.df⟩|none=>U
def OB(P:Program)(n:Nat)(LU:List Oper):List Oper->AA->ah->List Oper×AA×ah|[],U,S=>([],U,S)|o::F5,U,S=>match tj n o.dst with
  |true=>match mj LU U o with
   |some true=>match opQ P o.op U S with|some (r,S')=>aqf r λr=>OB P n LU F5 (Aj o.dst U r) S'|none=>(o::F5,U,S)
   |some false=>OB P n LU F5 (Aj o.dst U (.v undef)) S|none=>(o::F5,U,S)
  |false=>(o::F5,U,S)
end
section
variable{rd:Bool}{o:Oper}{LU:List Oper}{Q:AA->ah->Prop}
theorem y4{d:Option Tmp}:Aj d U r=U.put d r:=by cases d<;>rfl
def G6(P:Program)(Y:World)(n:Nat)(LU l:List Oper)(Q:AA->ah->Prop)(U:AA)(S:ah):Prop :=∀k,LU.drop k=l->∃aE S',BO P Y n LU.toArray (List.range' k l.length) U S aE S'/\Q aE S'
theorem drop_cons{k:Nat}(h:LU.drop k=o::F5):LU.toArray[k]?=some o/\LU.drop (k+1)=F5:=by refine⟨?_,?_⟩;have:=congrArg (·[0]?) h;simpa using this;rw[<-List.drop_drop,h];rfl
def G6.nil(h:Q U S):G6 P Y n LU [] Q U S:=λk _=>⟨U,S,λF m A g a w Q e b c d=>d a w g b c (Ext.refl ..),h⟩
theorem vF(h:mj LU U o=some true):o.guard=none\/∃j a,o.guard=some (j,a)/\wU LU.toArray U j=some (some a):=by unfold mj at h;split at h;grind;rename_i j a b;have e:=E2 (LU:=LU.toArray) (U:=U) (j:=j);split at h;grind;grind;grind;grind
theorem IN(h:mj LU U o=some false):∃(j:Nat) (a:Bool) (b:Option Bool),o.guard=some (j,a)/\wU LU.toArray U j=some b/\b≠some a:=by unfold mj at h;split at h;grind;rename_i j a c;have e:=E2 (LU:=LU.toArray) (U:=U) (j:=j);split at h;grind;grind;grind;grind
theorem G6.op(d:tj n o.dst=true)(e:mj LU U o=some true)(h:bV P Y o.op U S (B2 r S'))(k:G6 P Y n LU F5 Q (Aj o.dst U r) S'):G6 P Y n LU (o::F5) Q U S:=by intro i f;let⟨l,m⟩:=drop_cons f;obtain⟨u,v,p,rfl,rfl⟩:=GC (n:=n) h;let⟨aE,T,c,q⟩:=k (i+1) m;rw[y4]at c;refine⟨aE,T,?_,q⟩;refine BO.step l d (λg w a s=>?_) p c;rcases vF e with b|⟨j,x,b,t⟩;simp[Region.wanted,b];simp[Region.wanted,b,Ac s t]
def p_(P:Program)(Y:World)(n:Nat)(LU l:List Oper)(Q:AA->ah->Prop)(U:AA)(S:ah):Prop :=∀k,LU.drop k=l->∃aE S',vW P Y n LU.toArray (List.range' k l.length) U S aE S'/\Q aE S'
def p_.nil(h:Q U S):p_ P Y n LU [] Q U S:=λk _=>⟨U,S,.nil U S,h⟩
theorem p_.op(b:tj n o.dst=true)(c:mj LU U o=some true)(h:eK P Y o.op U S (B2 r S'))(k:p_ P Y n LU F5 Q (Aj o.dst U r) S'):p_ P Y n LU (o::F5) Q U S:=by intro i d;let⟨e,f⟩:=drop_cons d;obtain⟨l,m,g,rfl,rfl⟩:=aqe (n:=n) e b (vF c) h;let⟨aE,T,a,j⟩:=k (i+1) f;rw[y4]at a;exact⟨aE,T,.cons g a,j⟩
theorem p_.skip(c:tj n o.dst=true)(d:mj LU U o=some false)(k:p_ P Y n LU F5 Q (Aj o.dst U (.v undef)) S):p_ P Y n LU (o::F5) Q U S:=by intro i e;let⟨f,g⟩:=drop_cons e;let⟨aE,T,a,h⟩:=k (i+1) g;rw[y4]at a;let⟨j,l,b,m,p,q⟩:=IN d;exact⟨aE,T,.cons ⟨o,f,c,.inl ⟨j,l,b,m,p,q,rfl,rfl⟩⟩ a,h⟩
end
inductive It where|seq (c:Code)|A5 (id:Nat)
inductive Cf where|run (c:Code) (K:List It)|out (ex:Exit) (K:List It)|bj (LU l:List Oper) (K:List It)|dr (LU l:List Oper) (K:List It)
section
variable(P:Program)(Y:World)(rd:Bool)(n:Nat)
def Wp(c:Code)(Q:Exit->AA->ah->Prop)(U:AA)(S:ah):Prop:=∃ex aE S',ep P Y rd n c U S ex aE S'/\Q ex aE S'
def cont(Q:Exit->AA->ah->Prop):List It->Exit->AA->ah->Prop
 |[]=>Q|.seq b::K=>λex U S=>match ex with|.normal=>Wp P Y rd n b (cont Q K) U S|e=>cont Q K e U S
 |.A5 id::K=>λex U S=>match ex with|.exit j=>(match Nat.beq j id with|true=>cont Q K .normal U S|false=>cont Q K (.exit j) U S)|e=>cont Q K e U S
def wpC(Q:Exit->AA->ah->Prop):Cf->AA->ah->Prop|.run c K,U,S=>Wp P Y rd n c (cont P Y rd n Q K) U S|.out ex K,U,S=>cont P Y rd n Q K ex U S|.bj LU l K,U,S=>G6 P Y n LU l (λU S=>cont P Y rd n Q K .normal U S) U S|.dr LU l K,U,S=>p_ P Y n LU l (λU S=>cont P Y rd n Q K .normal U S) U S
def mv:Cf->AA->ah->Option (Cf×AA×ah)
 |.run c K,U,S=>match c with
  |.skip=>some (.out .normal K,U,S)|.region _ LU false=>some (.bj LU.toList LU.toList K,U,S)|.seq a b=>some (.run a (.seq b::K),U,S)|.cond c a b=>match U.ev c with|.v (.bool true)=>some (.run a K,U,S)|.v (.bool false)=>some (.run b K,U,S)|_=>none
  |.block id c=>some (.run c (.A5 id::K),U,S)|.exit id=>some (.out (.exit id) K,U,S)|.ret=>some (.out .ret K,U,S)|_=>none
 |.out ex K,U,S=>match K with
  |[]=>none|.seq b::K=>match ex with|.normal=>some (.run b K,U,S)|e=>some (.out e K,U,S)
  |.A5 id::K=>match ex with
   |.exit j=>match Nat.beq j id with|true=>some (.out .normal K,U,S)|false=>some (.out (.exit j) K,U,S)
   |e=>some (.out e K,U,S)
 |.bj LU l K,U,S=>match OB P n LU l U S with|([],aE,S')=>some (.out .normal K,aE,S')|(_::_,_,_)=>none
 |.dr LU l K,U,S=>match OB P n LU l U S with|([],aE,S')=>some (.out .normal K,aE,S')|(_::_,_,_)=>none
end
section
variable{rd:Bool}{Q:Exit->AA->ah->Prop}
def Wp.of(h:ep P Y rd n c U S ex aE S')(k:Q ex aE S'):Wp P Y rd n c Q U S:=⟨_,_,_,h,k⟩
theorem Wp.seq(h:Wp P Y rd n a (λex U S=>match ex with|.normal=>Wp P Y rd n b Q U S|e=>Q e U S) U S):Wp P Y rd n (.seq a b) Q U S:=by let⟨ex,g,i,d,f⟩:=h;cases ex with|normal =>let⟨c,aE,S',j,k⟩:=f;exact⟨c,aE,S',ep.seq d j,k⟩|_=>exact⟨_,g,i,ep.afK d aB,f⟩
theorem Wp.cond{o:Operand}{t:Bool}(c:U.ev o=.v (.bool t))(h:Wp P Y rd n (if t then a else b) Q U S):Wp P Y rd n (.cond o a b) Q U S:=by let⟨ex,aE,S',d,e⟩:=h;exact⟨ex,aE,S',ep.cond c d,e⟩
theorem Wp.block{id:Nat}(h:Wp P Y rd n c (λex U S=>match ex with|.exit j=>(match Nat.beq j id with|true=>Q .normal U S|false=>Q (.exit j) U S)|e=>Q e U S) U S):Wp P Y rd n (.block id c) Q U S:=by let⟨ex,aE,S',d,a⟩:=h;cases ex with
 |exit j =>
  simp only at a;split at a;rename_i b;have:=aS_ b;subst this;exact⟨_,aE,S',ep.Vq d,a⟩;rename_i b;have f:j≠id:=λe=>by subst e;rw[bE_]at b;cases b
  exact⟨_,aE,S',ep.block d λe=>f X,a⟩|_=>exact⟨_,aE,S',ep.block d aB,a⟩
theorem p_.wp{id:Nat}{LU:Array Oper}(a:(P.follows .mixedOrders&&K_ LU)=true)(h:p_ P Y n LU.toList LU.toList (λU S=>Q .normal U S) U S):Wp P Y rd n (.region id LU true) Q U S:=by simp only[au_]at a;let⟨aE,S',b,c⟩:=h 0 rfl;rw[bo_,<-ci_]at b;exact⟨_,aE,S',ep.draw a.1 a.2 b,c⟩
end
section
variable{rd:Bool}{Q:Exit->AA->ah->Prop}{K:List It}{LU:List Oper}{o:Oper}
def wpC.op(a:tj n o.dst=true)(b:mj LU U o=some true)(h:bV P Y o.op U S (B2 r S'))(k:wpC P Y rd n Q (.bj LU F5 K) (Aj o.dst U r) S'):wpC P Y rd n Q (.bj LU (o::F5) K) U S:=G6.op a b h k
def Oe:Exit->Bool|.normal=>true|.ret=>true|_=>false
end
def dD(i:Int):Value:=.int .i64 i
def nh:List (Value×AV)->Int->Option Nat|[],_=>none|p::es,i=>match p.1 with
  |.int _ n=>match decide (n=i) with|true=>some 0|false=>(nh es i).map (·+1)
  |_=>(nh es i).map (·+1)
def uW(es:List (Value×AV))(i:Int):Option AV:=match nh es i with|some j=>es[j]?.map (·.2)|none=>none
def Ds(es:List (Value×AV))(i:Int)(b:AV):List (Value×AV):=match nh es i with|some j=>es.set j (dD i,b)|none=>es++[(dD i,b)]
def LN(es:List (Value×AV))(i:Int):List (Value×AV):=match nh es i with|some j=>es.eraseIdx j|none=>es
def qF(es:List (Value×AV)):Prop:=∀p∈es,∃n,p.1=dD n
theorem yU:∀{es:List (Value×AV)}{i:Int}{j:Nat},qF es->nh es i=some j->∃a,es[j]?=some (dD i,a)|[],i,j,_,h=>by cases h|p::es,i,j,c,h=>by let⟨n,d⟩:=c p aB;simp only[nh,d,dD]at h;split at h;grind;cases b:nh es i with|none=>rw[b]at h;cases h|some e =>rw[b]at h;cases oJ_ h;let⟨a,f⟩:=yU (λq g=>c q X) b;exact⟨a,X⟩
theorem Lb{kk:IntKind}{i:Int}:∀{es:List (Value×AV)}{L:List MapEntry}{o:Nat},qF es->L.length=es.length->(∀(j:Nat)(k:Value)(a:AV)(e:MapEntry),es[j]?=some (k,a)->L[j]?=some e->e.key=k) ->Instr.findNow (.int kk) (dD i) L o=some (match nh es i with|some j=>L[j]?.map λe=>(j+o,e.val)|none=>none)
 |[],[],o,_,_,_=>rfl|p::es,e::L,o,d,f,h=>by
  let⟨n,g⟩:=d p aB;have b:e.key=dD n:=by rw[h 0 p.1 p.2 e rfl rfl,g]
  simp only[Instr.findNow,b,dD,Instr.sameNow,if_true,nh,g];by_cases c:n=i;grind;have m:¬i=n:=λe=>c e.symm;simp only[c,decide_false,beq_eq_false_iff_ne.2 m];have l:=Lb (kk:=kk) (i:=i) (es:=es) (L:=L) (o:=o+1) (λq s=>d q X) X λj k a r t u=>h (j+1) k a r X X;simp only[dD]at l;rw[l];congr 1;cases nh es i with|none=>rfl|some j=>simp only[aK_,cO_];congr 1;funext x;congr 1;omega
 |[],_::_,_,_,f,_=>X|_::_,[],_,_,f,_=>X
section
variable{o:Oper}
theorem uO{k:Nat}{v:Value}(h:aO g w (.mp k) v):v=.map (some (g.ob k))/\g.al k:=by cases h with|mp a=>exact⟨rfl,a⟩
theorem run_checkKey(h:P.underlying kt=some (.int kk))(b:Bool)(i:Int):(Instr.checkKey b 10000 kt (dD i)).run P w=.ok () w:=by rw[show(10000:Nat)=9999+1 from rfl,Instr.checkKey];simp[run_underlying h,dD,Sem.run_bind]
theorem run_findKey{i:Int}{L:List MapEntry}{x:Option (Nat×Value)}(h:P.underlying kt=some (.int kk))(a:Instr.findNow (.int kk) (dD i) L 0=some x):(Instr.findKey kt (dD i) L).run P w=.ok x w:=by simp only[Instr.findKey,Sem.run_bind,run_underlying h,Result.andThen_ok,a,Sem.run_pure]
theorem iO{b:Nat}{es:Array MapEntry}{clock:Nat}(h:w.heap[b]?=some (.map es clock)):(getObj b).run P w=.ok (.map es clock) w:=by simp[getObj,Sem.run,h]
theorem Fz(c:entries.size=es.length)(d:∀(i:Nat) (k:Value) (a:AV),es[i]?=some (k,a)->∃e:MapEntry,entries[i]?=some e/\e.key=k/\aO g w a e.val)(b:qF es)(i:Int):Instr.findNow (.int kk) (dD i) entries.toList 0=some (match nh es i with|some j=>entries[j]?.map λe=>(j,e.val)|none=>none):=by have h:=Lb (kk:=kk) (i:=i) (es:=es) (L:=entries.toList) (o:=0) b X λj k a e f l=>X;simpa using h
theorem Fy{k:Nat}{z:Value}{c:Bool}(u:o.op=.lookup t x i c)(B:P.underlying t=some (.map kt et))(r:P.underlying kt=some (.int kk))(f:eu P et=some z)(h:U.ev x=.mp k)(T:∀(A:Nat->Prop) (g:Gh) (w:World),St Y A g S w->g.al k->∃(entries:Array MapEntry) (clock:Nat),w.heap[g.ob k]?=some (.map entries clock)/\entries.size=es.length/\∀(i:Nat) (k:Value) (a:AV),es[i]?=some (k,a)->∃e:MapEntry,entries[i]?=some e/\e.key=k/\aO g w a e.val)(C:qF es)(hi:U.ev i=.v (dD m)):a_ P Y n o U S (match uW es m with|some a=>if c then .aL [a,.v (.bool true)] else a|none=>if c then .aL [lift z,.v (.bool false)] else lift z) S:=by
 refine a_.quiet λA g q w V E=>?_;have F:=E.ev x;have G:=E.ev i;rw[h]at F;rw[hi]at G;let⟨J,W⟩:=uO F;have K:=cA G;let⟨entries,clock,L,p2,M⟩:=T A g w V W;have l:=Fz p2 M C (kk:=kk) m;let⟨d,axP,uJ⟩:∃d,P.info? et=some d/\d.zero=some z:=by unfold eu at f;cases N:P.info? et with|none=>rw[N]at f;cases f|some d=>rw[N]at f;exact⟨d,rfl,f⟩
 have fin:∀(v:Value)(b:Bool)(a:AV),aO g w a v->aO g w (if c then .aL [a,.v (.bool b)] else a) (if c then .tuple #[v,.bool b] else v):=by intro v b a Q;cases c with|false=>exact Q|true =>refine .aL rfl λi y x p h=>?_;match i with|0=>simp at p h;subst p h;exact Q|1=>simp at p h;subst p h;exact .v|i+2=>simp at p
 unfold uW;cases s:nh es m with|none =>rw[s]at l;refine⟨_,?_,fin z false (lift z) (y7 z)⟩;simp only[execOp,u,J,K,Instr.lookup,Sem.run_bind,run_underlying B,Result.andThen_ok,iO L,Sem.run_pure,run_checkKey r,run_findKey r l,pC f]|some j =>let⟨a,R⟩:=yU C s;let⟨e,q1,q2,q3⟩:=M j _ a R;rw[s]at l;simp only[q1,aK_]at l;simp only[R,aK_];refine⟨_,?_,fin e.val true a q3⟩;simp only[execOp,u,J,K,Instr.lookup,Sem.run_bind,run_underlying B,Result.andThen_ok,iO L,Sem.run_pure,run_checkKey r,run_findKey r l]
def ac6{k:Nat}{z:Value}{c:Bool}(b:o.op=.lookup t x i c)(d:P.underlying t=some (.map kt et))(e:P.underlying kt=some (.int kk))(f:eu P et=some z)(h:U.ev x=.mp k)(j:S.get k=some (.mp es))(l:qF es)(hi:U.ev i=.v (dD m)):a_ P Y n o U S (match uW es m with|some a=>if c then .aL [a,.v (.bool true)] else a|none=>if c then .aL [lift z,.v (.bool false)] else lift z) S :=Fy b d e f h (λA g w p q=>(p.cX k _ j q).2.2) l hi
theorem St.Fm{A:Nat->Prop}{k:Nat}{es':List (Value×AV)}{entries':Array MapEntry}{clock clock':Nat}(b:St Y A g S w)(c:S.get k=some (.mp es))(d:g.al k)(f:w.heap[g.ob k]?=some (.map entries clock))(h:entries'.size=es'.length)(j:∀(i:Nat) (k:Value) (a:AV),es'[i]?=some (k,a)->∃e:MapEntry,entries'[i]?=some e/\e.key=k/\aO g w a e.val):∃w',(setObj (g.ob k) (.map entries' clock')).run P w=.ok () w'/\St Y A g (S.set k (some (.mp es'))) w'/\Ext A g w g w':=by have u:=(b.cX k _ c d).2.1;have l:({w with heap:=w.heap.setIfInBounds (g.ob k) (.map entries' clock') }:World).heap[g.ob k]?=some (.map entries' clock'):=X;let⟨m,n⟩:=b.putObj (ob:=.mp es') c d (λJ=>⟨aB,aB⟩) (x':=.map entries' clock') rfl λq=>by simp only[World.cell?,l,f] λo p=>⟨entries',clock',p,h,λi key a r=>by let⟨e,q1,s,t⟩:=j i key a r;exact⟨e,q1,s,t.later o⟩⟩;exact⟨_,by simp[setObj,Sem.run,f],n,m⟩
theorem Z4(c:o.op=.makeMap t none):a_ P Y n o U S (.mp S.nx) (S.new (.mp [])):=by intro A g q w d j;let⟨e,f⟩:=d.new (.map #[] 0) (.mp []) 0 (λJ=>aB) λl=>⟨#[],0,eg,rfl,λi k a h=>X⟩;have b:=aO.mp (g:=g.new S.nx w.heap.size 0) (w:=w.alloc (.map #[] 0)) (k:=S.nx) (.inr rfl);rw[show(g.new S.nx w.heap.size 0).ob S.nx=w.heap.size from aG _ _ _]at b;refine⟨_,_,_,.inl ?_,b,f,e⟩;simp[execOp,c,Instr.makeMap,newObj,Sem.run]
theorem W3(d:o.op=.makeMap t (some x))(e:P.underlying t=some (.map kt et))(f:U.ev x=.v (.int kk m)):a_ P Y n o U S (.mp S.nx) (S.new (.mp [])):=by intro A g q w j l;have b:=l.ev x;rw[f]at b;have p:=cA b;let⟨r,s⟩:=j.new (.map #[] 0) (.mp []) 0 (λJ=>aB) λu=>⟨#[],0,eg,rfl,λi k a h=>X⟩;have c:=aO.mp (g:=g.new S.nx w.heap.size 0) (w:=w.alloc (.map #[] 0)) (k:=S.nx) (.inr rfl);rw[show(g.new S.nx w.heap.size 0).ob S.nx=w.heap.size from aG _ _ _]at c;refine⟨_,_,_,.inl ?_,c,s,r⟩;simp[execOp,d,Instr.makeMap,newObj,Sem.run,p,run_underlying e,asInt,asIntOf]
theorem PF{y:Operand}{k:Nat}{b:AV}(M:o.op=.mapUpdate t x i y)(N:P.underlying t=some (.map kt et))(l:P.underlying kt=some (.int kk))(hx:U.ev x=.mp k)(r:S.get k=some (.mp es))(Q:qF es)(hi:U.ev i=.v (dD m))(hy:U.ev y=b):a_ P Y n o U S (.v undef) (S.set k (some (.mp (Ds es m b)))):=by intro A g q w s u;have R:=u.ev x;have T:=u.ev i;have z:=u.ev y;rw[hx]at R;rw[hi]at T;rw[hy]at z;let⟨V,B⟩:=uO R;have W:=cA T;let⟨v,C⟩:∃v,q.eval y=v:=⟨_,rfl⟩;rw[C]at z;let⟨_,_,entries,clock,p,p2,p3⟩:=s.cX k _ r B;have h:=Fz p2 p3 Q (kk:=kk) m;have GL:entries.toList.length=entries.size:=bo_;unfold Ds;cases E:nh es m with|none =>rw[E]at h;let⟨F,q1,G,J⟩:=s.Fm (P:=P) r B p (entries':=entries.push {key:=dD m,val:=v,born:=clock }) (clock':=clock+1) (es':=es++[(dD m,b)]) X (λi key a hi=>by by_cases c:i<es.length;grind;rw[bv_ Z]at hi;have Pq:i=es.length:=X;subst Pq;simp at hi;obtain⟨rfl,rfl⟩:=hi;exact⟨{key:=dD m,val:=v,born:=clock },X,rfl,z⟩);refine⟨undef,F,g,.inr ⟨?_,rfl⟩,.v,G,J⟩;simp only[execOp,M,V,W,C,Instr.mapUpdate,Sem.run_bind,run_underlying N,Result.andThen_ok,iO p,run_checkKey l,run_findKey l h,q1,Sem.run_pure]|some j =>
  let⟨a,ha⟩:=yU Q E;let⟨e,L,r2,r3⟩:=p3 j _ a ha;rw[E]at h;simp only[L,aK_]at h;have nw:j<entries.size:=(cz_.1 L).1;let⟨F,q1,G,J⟩:=s.Fm (P:=P) r B p (entries':=entries.modify j λe=>{e with key:=dD m,val:=v }) (clock':=clock) (es':=es.set j (dD m,b)) X λi key a' hi=>X;refine⟨undef,F,g,.inr ⟨?_,rfl⟩,.v,G,J⟩;have fF:(Instr.keyThatStays ((entries[j]?.map (·.key)).getD (dD m)) (dD m)).run P w=.ok (dD m) w:=by rw[L];simp[Instr.keyThatStays,r2,Instr.sameBits,dD]
  simp only[execOp,M,V,W,C,Instr.mapUpdate,Sem.run_bind,run_underlying N,Result.andThen_ok,iO p,run_checkKey l,run_findKey l h,fF,q1,Sem.run_pure]
end
inductive QO where|t (n:Nat)|c (a:AV)
def QO.ev(f:Nat->AV):QO->AV|.t n=>f n|.c a=>a
def qo:Operand->QO|.tmp t=>.t t|.const v=>.c (lift v)|.global g=>.c (.v (.pointer (some ⟨g,0,none⟩)))|.func f=>.c (.v (.func (.func f) #[] #[]))
theorem aT{U:AA}(x:Operand):(qo x).ev U.tm=U.ev x:=by cases x<;>rfl
inductive LK where|agg (n:Nat)|cell
inductive SK where|str|sl (n:Nat)
inductive BK where|b|s|o|f|p
inductive nV where|mv (x:QO)|pick (c a b:QO)|alloc (cs:List AV)|box (x:QO)|build (cs:List AV) (parts:List (Nat×Nat×QO))|rows (n:Nat) (rows:List (List AV)) (parts:List (Nat×QO))|load (k:LK) (x:QO)|store (n:Nat) (x b:QO)|bin (op:BinOp) (isB:BK) (x y:QO)|not (x:QO)|neg (x:QO)|conv (k:IntKind) (x:QO)|afr (x:QO)|OC (off:Nat) (x:QO)|field (k:LK) (off:Nat) (x:QO)|yJ (n:Nat) (x i:QO)|Ku (len n:Nat) (x i:QO)|PL (x i:QO)|I0 (len n:Nat) (k:LK) (x i:QO)|slice (k:SK) (x:QO) (lo hi mx:Option QO)|extract (x:QO) (i:Nat)|rV (z:List AV) (LQ:Nat) (l c:QO)|Z5 (x:QO)|HU (x:QO)|W4 (f:Fn) (first cap:List QO)|OD (x:QO)|call (f:QO) (args:List QO)|len (str:Bool) (x:QO)|append (sz LQ:Nat) (a b:QO)|min (x y:QO)|max (x y:QO)|auj (x:QO)|kN (x:Option QO)|look (z:AV) (c:Bool) (x i:QO)|oW (x i b:QO)|Ie (x:QO)|PG (t:Nat) (x:QO)|eqs (t:Nat) (x y:QO)|del (x i:QO)|copy (sz:Nat) (a b:QO)|Q5 (z:List AV) (a:QO)|alW (a:QO)|cap (a:QO)|L_ (z:List AV) (LQ:Nat) (a m:QO)|mK (kt:Nat) (z:AV) (c:Bool) (x i:QO)|Ax (kt:Nat) (x i b:QO)|I5 (z:AV) (x i:QO)|I6 (x i b:QO)|assert (t:Nat) (c:Bool) (x:QO)
def iS(T:Tables)(t:TypeId):Option TypeDesc :=match T.info? t with|some {desc:=.named _ u,..}=>(T.info? u).map (·.desc)|some i=>some i.desc|none=>none
def agT(T:Tables)(t:TypeId):Option Bool :=match iS T t with|some (.struct _)|some (.array _ _)=>some true|some _=>some false|none=>none
def yw(T:Tables)(t:TypeId):Option Nat:=(T.info? t).map (·.size)
def byT(T:Tables)(t:TypeId):Option Nat:=(T.info? t).map (·.bytes)
def IP(T:Tables)(t:TypeId):Option Value:=(T.info? t).bind (·.zero)
def Sm(T:Tables)(t:TypeId):Option TypeId:=match iS T t with|some (.slice e)=>some e|_=>none
def plT(T:Tables)(fs:Array Field)(i:Nat):Option (Nat×Nat) :=match fs[i]? with
 |some f=>match yw T f.type with|some n=>some (f.offset,n)|none=>none
 |none=>none
def Sn(T:Tables)(t:TypeId):Option LK:=match agT T t,yw T t with|some true,some n=>some (.agg n)|some false,_=>some .cell|_,_=>none
theorem cM(t:TypeId):iS P.toTables t=P.underlying t:=rfl
theorem alX(t:TypeId):agT P.toTables t=Vs P t:=rfl
theorem gE(t:TypeId):yw P.toTables t=eJ P t:=rfl
theorem qn(t:TypeId):byT P.toTables t=kQ P t:=rfl
theorem kV(t:TypeId):IP P.toTables t=eu P t:=rfl
theorem n4(t:TypeId):Sm P.toTables t=lV P t:=rfl
theorem vG(fs:Array Field):plT P.toTables fs=OQ P fs:=rfl
def wX(k:LK)(row:List AV)(j:Nat):Option AV:=match k with
 |.agg n=>match Nat.ble (j+n) row.length with|true=>some (.agg (Vt row j n))|false=>none
 |.cell=>row[j]?
theorem Fo{k:LK}(h:Sn P.toTables t=some k)(row:List AV)(j:Nat):rK P t row j=wX k row j:=by unfold Sn at h;simp only[alX,gE]at h;unfold rK;split at h;rename_i n a b;cases oJ_ h;rw[a,b];rfl;rename_i a;cases oJ_ h;rw[a];rfl;grind
def xg(k:LK)(S:ah):AV->Option AV
 |.ip row=>wX k row 0|.pt b c i j=>match S.get b with
  |some (.arr a rows _ _)=>match Nat.beq c a with
   |true=>match rows[i]? with|some row=>wX k row j|none=>none
   |false=>none
  |_=>none
 |_=>none
theorem NQ{k:LK}(h:Sn P.toTables t=some k)(S:ah)(a:AV):An P S t a=xg k S a:=by unfold An xg;simp only[Fo h];rfl
def Sp(place:Nat->Option (Nat×Nat)):List (Nat×Operand)->Option (List (Nat×Nat×QO))|[]=>some []|(i,x)::F5=>match place i with
  |some (off,size)=>match Sp place F5 with|some l=>some ((off,size,qo x)::l)|none=>none
  |none=>none
def OE(f:Nat->AV):List AV->List (Nat×Nat×QO)->Option (List AV)|cells,[]=>some cells|cells,(off,size,x)::F5=>match Nat.beq (bp (x.ev f)).length size&&Nat.ble (off+size) cells.length&&(bp (x.ev f)).all db with|true=>OE f (uF cells off (bp (x.ev f))) F5|false=>none
theorem JJ{U:AA}{place:Nat->Option (Nat×Nat)}:∀{l:List (Nat×Operand)}{a:List (Nat×Nat×QO)}{cells:List AV},Sp place l=some a ->C6 place cells (l.map λ(i,x)=>(i,U.ev x))=OE U.tm cells a
 |[],a,cells,h=>by cases oJ_ h;rfl|(i,x)::F5,a,cells,h=>by
  simp only[Sp]at h;split at h;rename_i off size b;split at h;rename_i l c;cases oJ_ h;simp only[aH_,C6,b,OE,aT];cases d:Nat.beq (bp (U.ev x)).length size&&Nat.ble (off+size) cells.length&&(bp (U.ev x)).all db with|true=>simp only[];rw[JJ c]|false=>rfl
  grind;grind
def res(T:Tables):Op->Option nV
 |.move x=>some (.mv (qo x))|.assign x=>some (.mv (qo x))|.pick c a b=>some (.pick (qo c) (qo a) (qo b))|.alloc e=>match IP T e with|some z=>some (.alloc (z.cells.toList.map b9))|none=>none
 |.box _ x=>some (.box (qo x))|.build t parts=>match IP T t with
  |some (.agg cs)=>match iS T t with
   |some (.struct h)=>match h.toList.all λf=>(yw T f.type).isSome with
    |true=>match Sp (plT T h) parts.toList with|some l=>some (.build (cs.toList.map b9) l)|none=>none
    |false=>none
   |some (.array _ e)=>match yw T e with
    |some n=>match Sp (λi=>some (i*n,n)) parts.toList with|some l=>some (.build (cs.toList.map b9) l)|none=>none
    |none=>none
   |_=>none
  |_=>none
 |.buildSlice t len parts=>match Sm T t with
  |some e=>match IP T e,yw T e with
   |some z,some n=>match Nat.ble (len*n) 16777216&&Nat.beq z.cells.size n&&Nat.blt 0 n with|true=>some (.rows n (List.replicate len (z.cells.toList.map b9)) (parts.toList.map λ(i,x)=>(i,qo x)))|false=>none
   |_,_=>none
  |none=>none
 |.load t x=>match Sn T t with|some k=>some (.load k (qo x))|none=>none
 |.store t x b=>match yw T t with|some n=>some (.store n (qo x) (qo b))|none=>none
 |.binOp op t x y _=>match iS T t with
  |some .bool=>some (.bin op .b (qo x) (qo y))|some (.slice _)=>some (.bin op .s (qo x) (qo y))|some (.func ..)=>some (.bin op .f (qo x) (qo y))|some (.pointer _)=>some (.bin op .p (qo x) (qo y))|some (.struct _)=>match op with|.eql=>some (.eqs t (qo x) (qo y))|_=>none
  |_=>some (.bin op .o (qo x) (qo y))
 |.unOp op _ x=>match op with|.not=>some (.not (qo x))|.neg=>some (.neg (qo x))|_=>none
 |.convert src m x=>match iS T src,iS T m with
  |some (.int _),some (.int k)=>some (.conv k (qo x))|some .string,some .string=>some (.afr (qo x))|some (.slice e),some .string=>match iS T e with|some (.int .u8)=>some (.auj (qo x))|_=>none
  |_,_=>none
 |.fieldAddr s x f=>match iS T s with
  |some (.struct h)=>match h[f]? with
   |some j=>match yw T j.type with|some (_+1)=>some (.OC j.offset (qo x))|_=>none
   |none=>none
  |_=>none
 |.field t x f=>match iS T t with
  |some (.struct h)=>match h[f]? with
   |some j=>match Sn T j.type with|some k=>some (.field k j.offset (qo x))|none=>none
   |none=>none
  |_=>none
 |.indexAddr t x i=>match iS T t with
  |some (.slice e)=>match yw T e with|some n=>some (.yJ n (qo x) (qo i))|none=>none
  |some (.array len e)=>match yw T e with|some n=>some (.Ku len n (qo x) (qo i))|none=>none
  |_=>none
 |.index t x i=>match iS T t with
  |some .string=>some (.PL (qo x) (qo i))|some (.array len e)=>match yw T e,Sn T e with|some n,some k=>some (.I0 len n k (qo x) (qo i))|_,_=>none
  |_=>none
 |.slice t x o p q=>match iS T t with
  |some .string=>some (.slice .str (qo x) (o.map qo) (p.map qo) (q.map qo))|some (.slice e)=>match yw T e with|some n=>some (.slice (.sl n) (qo x) (o.map qo) (p.map qo) (q.map qo))|none=>none
  |_=>none
 |.extract x i=>some (.extract (qo x) i)|.makeSlice t l c=>match Sm T t with
  |some e=>match IP T e,yw T e,byT T e with
   |some z,some d,some g=>match Nat.beq z.cells.size d&&Nat.blt 0 d with|true=>some (.rV (z.cells.toList.map b9) g (qo l) (qo c))|false=>none
   |_,_,_=>none
  |none=>none
 |.range t x=>match iS T t with|some .string=>some (.Z5 (qo x))|_=>none
 |.next x isStr=>match isStr with|true=>some (.HU (qo x))|false=>none
 |.makeFunc f first cap=>some (.W4 f (first.toList.map qo) (cap.toList.map qo))|.nilCheck x=>some (.OD (qo x))|.call c=>match c.callee with
  |.value f=>some (.call (qo f) (c.args.toList.map qo))|.builtin b=>match b,c.argTypes.toList,c.args.toList with
   |.len,[t],[x]=>match iS T t with|some (.slice _)=>some (.len false (qo x))|some .string=>some (.len true (qo x))|_=>none
   |.append,[t,t2],[a,b]=>match Sm T t,Sm T t2 with
    |some e,some _=>match IP T e,yw T e,byT T e with
     |some z,some d,some g=>match Nat.beq z.cells.size d&&Nat.blt 0 g with|true=>some (.append d g (qo a) (qo b))|false=>none
     |_,_,_=>none
    |some e,none=>match iS T t2 with
     |some (.int _)=>match IP T e,yw T e,byT T e with
      |some z,some d,some g=>match Nat.beq z.cells.size d&&Nat.blt 0 g with|true=>some (.L_ (z.cells.toList.map b9) g (qo a) (qo b))|false=>none
      |_,_,_=>none
     |_=>none
    |none,_=>none
   |.delete,[t,_],[x,i]=>match iS T t with
    |some (.map kt _)=>match iS T kt with|some (.int _)=>some (.del (qo x) (qo i))|_=>none
    |_=>none
   |.copy,[t,t2],[a,b]=>match Sm T t,Sm T t2 with
    |some e,some _=>match yw T e with|some d=>some (.copy d (qo a) (qo b))|none=>none
    |_,_=>none
   |.clear,[t],[a]=>match iS T t with
    |some (.slice e)=>match IP T e with|some z=>some (.Q5 (z.cells.toList.map b9) (qo a))|none=>none
    |some (.map _ _)=>some (.alW (qo a))|_=>none
   |.cap,[t],[a]=>match iS T t with|some (.slice _)=>some (.cap (qo a))|_=>none
   |.min,_,[x,y]=>some (.min (qo x) (qo y))|.max,_,[x,y]=>some (.max (qo x) (qo y))|_,_,_=>none
  |.invoke _ _=>none
 |.makeMap t r=>match iS T t with|some (.map _ _)=>some (.kN (r.map qo))|_=>none
 |.lookup t x i c=>match iS T t with
  |some (.map kt et)=>match iS T kt,IP T et with|some (.int _),some z=>some (.look (lift z) c (qo x) (qo i))|some (.struct _),some z=>some (.mK kt (lift z) c (qo x) (qo i))|some .string,some z=>some (.mK kt (lift z) c (qo x) (qo i))|_,_=>none
  |_=>none
 |.mapUpdate t x i y=>match iS T t with
  |some (.map kt _)=>match iS T kt with|some (.int _)=>some (.oW (qo x) (qo i) (qo y))|some (.struct _)=>some (.Ax kt (qo x) (qo i) (qo y))|some .string=>some (.Ax kt (qo x) (qo i) (qo y))|_=>none
  |_=>none
 |.mapEntry t x i=>match iS T t with
  |some (.map kt et)=>match iS T kt,IP T et with|some (.int _),some z=>some (.I5 (lift z) (qo x) (qo i))|_,_=>none
  |_=>none
 |.entryStore t x i y=>match iS T t with
  |some (.map kt _)=>match iS T kt with|some (.int _)=>some (.I6 (qo x) (qo i) (qo y))|_=>none
  |_=>none
 |.typeAssert x _ t c=>match iS T t with|some (.interface _)=>none|some _=>some (.assert t c (qo x))|none=>none
 |.panic x=>some (.Ie (qo x))|.makeInterface t x=>some (.PG t (qo x))|_=>none
def oH(q:nV)(f:Nat->AV)(S:ah):Option (AV×ah) :=match q with
 |.mv x=>some (x.ev f,S)|.pick c a b=>match c.ev f with|.v (.bool true)=>some (a.ev f,S)|.v (.bool false)=>some (b.ev f,S)|_=>none
 |.alloc cs=>Mn S cs|.box x=>match(bp (x.ev f)).all db with|true=>Mn S (bp (x.ev f))|false=>none
 |.build cs parts=>match OE f cs parts with|some l=>some (.agg l,S)|none=>none
 |.rows n rows parts=>match yx n rows (parts.map λ(i,x)=>(i,x.ev f)) with|some rows=>some (.sl true rows,S)|none=>none
 |.load k x=>match xg k S (x.ev f) with|some a=>some (a,S)|none=>none
 |.store n x b=>match b.ev f,x.ev f with
  |e,.pt k d 0 j=>match S.get k with
   |some (.arr h [row] 0 ex)=>match Nat.beq d h&&(bp e).all db&&Nat.beq n (bp e).length with
    |true=>match Nat.ble (j+(bp e).length) row.length with
     |true=>match S with|⟨g,x⟩=>some (.v undef,⟨bJ g k (some (.arr d [uF row j (bp e)] 0 ex)),x⟩)
     |false=>none
    |false=>none
   |_=>none
  |_,_=>none
 |.not x=>match x.ev f with|.v (.bool true)=>some (.v (.bool false),S)|.v (.bool false)=>some (.v (.bool true),S)|_=>none
 |.OC off x=>match x.ev f with|.ip row=>some (.ip (row.drop off),S)|.pt k d i j=>some (.pt k d i (j+off),S)|_=>none
 |.field k off x=>match x.ev f with
  |.agg l=>match wX k l off with|some a=>some (a,S)|none=>none
  |_=>none
 |.extract x i=>match x.ev f with
  |.aL l=>match l[i]? with|some a=>some (a,S)|none=>none
  |_=>none
 |.W4 g first cap=>some (.fn g (first.map (·.ev f)) (cap.map (·.ev f)),S)|.OD x=>match x.ev f with|.ip c=>some (.ip c,S)|.pt k d i j=>some (.pt k d i j,S)|_=>none
 |_=>none
def ac7(op:BinOp)(isB:BK):AV->AV->Option Bool
 |.v (.int k a),.v (.int c b)=>match decide (k=c) with
  |true=>match op with|.eql=>some (a==b)|.neq=>some (a !=b)|.lss=>some (decide (a<b))|.leq=>some (decide (a<=b))|.gtr=>some (decide (a>b))|.geq=>some (decide (a>=b))|_=>none
  |false=>none
 |.v (.string a),.v (.string b)=>match op with|.eql=>some (a.toList==b.toList)|.neq=>some ! a.toList==b.toList|.lss=>some (Op.bytesLess a.toList b.toList)|.leq=>some (Op.bytesLess a.toList b.toList||a.toList==b.toList)|.gtr=>some !(Op.bytesLess a.toList b.toList||a.toList==b.toList)|.geq=>some !Op.bytesLess a.toList b.toList|_=>none
 |.v (.bool a),.v (.bool b)=>match isB,op with|.b,.eql=>some (a==b)|.b,.neq=>some ! a==b|_,_=>none
 |_,_=>none
section
variable{o:Op}{q:nV}{K:AV->ah->Prop}
theorem xB(d:res P.toTables o=some q)(h:oH q U.tm S=some (r,S')):bV P Y o U S (B2 r S'):=by have e:∀{a:AV}{T:ah},some (a,T)=some (r,S')->a=r/\T=S':=λh=>X;have F:∀{q:AV×ah},some q=some (r,S')->q.1=r/\q.2=S':=λh=>X;cases o with
 |move x=>cases oJ_ d;rw[oH,aT]at h;exact e h|assign x=>cases oJ_ d;rw[oH,aT]at h;exact e h|pick c a b =>cases oJ_ d;simp only[oH,aT]at h;simp only[bV];split at h;rename_i u;rw[u];exact e h;rename_i u;rw[u];exact e h;grind|alloc t =>simp only[res,cM,gE,qn,kV,n4,vG]at d;split at d;rename_i z n;cases oJ_ d;simp only[oH]at h;simp only[bV,n];rw[Mo]at h;exact F h;grind|box t x =>cases oJ_ d;simp only[oH,aT]at h;simp only[bV];split at h;rename_i g;rw[g];rw[Mo]at h;exact F h;grind|build t parts =>simp only[res,cM,gE,qn,kV,n4,vG]at d;split at d;rename_i cs n;split at d;rename_i G v;split at d;rename_i J;split at d;rename_i l A;cases oJ_ d;simp only[oH]at h;simp only[bV,y8,n,v,J,JJ A];split at h;rename_i K B;simp only[B,aK_];exact e h;grind;grind;grind;rename_i le el v;split at d;rename_i m p;split at d;rename_i l A;cases oJ_ d;simp only[oH]at h;simp only[bV,y8,n,v,p,JJ A];split at h;rename_i K B;simp only[B,aK_];exact e h;grind;grind;grind;grind;grind|buildSlice t len parts =>
  simp only[res,cM,gE,qn,kV,n4,vG]at d;split at d;rename_i el L;split at d;rename_i z m n w;split at d;rename_i M;cases oJ_ d;have p:(parts.toList.map λ(i,x)=>(i,qo x)).map (λ(i,x)=>(i,QO.ev U.tm x))=parts.toList.map λ(i,x)=>(i,U.ev x):=by rw[bk_];apply aQ_;rintro⟨i,x⟩ _;simp[aT]
  simp only[oH]at h;rw[p]at h;simp only[bV,L,n,w,M];split at h;rename_i rows N;simp only[N];exact e h;grind;grind;grind;grind|load t x =>simp only[res,cM,gE,qn,kV,n4,vG]at d;split at d;rename_i k C;cases oJ_ d;simp only[oH,aT]at h;simp only[bV];split at h;rename_i z n;rw[<-NQ C]at n;exact bM.mk n (e h);grind;grind|store t x b =>
  simp only[res,cM,gE,qn,kV,n4,vG]at d;split at d;rename_i m p;cases oJ_ d;simp only[oH,aT]at h;have w:G5 P S t (U.ev b) (U.ev x)=some S'/\AV.v undef=r:=by grind[G5,Bp]
  simp only[bV];exact bM.mk (Sl w.1) ⟨w.2,rfl⟩;grind|unOp op t x =>simp only[res,cM,gE,qn,kV,n4,vG]at d;split at d;cases oJ_ d;simp only[oH,aT]at h;simp only[bV];split at h;rename_i u;rw[u];exact e h;rename_i u;rw[u];exact e h;grind;cases oJ_ d;cases h;grind|fieldAddr s x f =>simp only[res,cM,gE,qn,kV,n4,vG]at d;split at d;rename_i G v;split at d;rename_i Q E;split at d;rename_i m p;cases oJ_ d;simp only[oH,aT]at h;simp only[bV,v,E,p];split at h;rename_i row g;simp only[g];exact e h;rename_i k R i j g;simp only[g];exact e h;grind;grind;grind;grind|field t x f =>simp only[res,cM,gE,qn,kV,n4,vG]at d;split at d;rename_i G v;split at d;rename_i Q E;split at d;rename_i k C;cases oJ_ d;simp only[oH,aT]at h;simp only[bV,v,E];split at h;rename_i l g;simp only[g];split at h;rename_i a y;rw[<-Fo C]at y;exact bM.mk y (e h);grind;grind;grind;grind;grind|extract x i =>cases oJ_ d;simp only[oH,aT]at h;simp only[bV];split at h;rename_i l g;split at h;rename_i a y;simp only[g,y];exact e h;grind;grind|makeFunc f first cap =>cases oJ_ d;simp only[oH,bk_]at h;have p:∀l:List Operand,l.map ((·.ev U.tm)∘qo)=l.map U.ev:=λl=>aQ_ λx _=>aT x;rw[p,p]at h;exact e h|nilCheck x =>cases oJ_ d;simp only[oH,aT]at h;simp only[bV];split at h;rename_i c g;rw[g];exact e h;rename_i c g;rw[g];exact e h;grind|_ =>
  simp only[res,cM,gE,qn,kV,n4,vG]at d;repeat' split at d
  all_goals first|cases oJ_ d;cases h|cases d
end
end Go.Proofs.YtbdcmpknicjopaaGreat
