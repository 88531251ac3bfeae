import Derived.Test.YtbdcmpknicjopaaGreatTb3
namespace Go.Proofs.YtbdcmpknicjopaaGreat
set_option linter.all false
open Go.RowKit
variable{A:Nat->Prop}{B n:Nat}{E:List PanicEntry->AA->ah->Prop}{FJ:List Oper}{LO rs:List Nat}{P:Program}{Q':Exit->AA->ah->Prop}{R:AA->ah->Prop}{S S' S1:ah}{U aE α1:AA}{V:List (Nat×Nat)}{W:List (Nat×Option Ob)}{Y w:World}{a b c:Code}{args0 cs:List AV}{cW:Array Bool}{ch:List PanicEntry}{dr:Bool}{es:List (Value×AV)}{et kt t:TypeId}{ex:Exit}{g:Gh}{kk:IntKind}{m:Int}{r:AV}{x:Operand}{z:Value}
variable{K:AV->ah->Prop}{entries:Array MapEntry}{i:Nat}{f:Nat->AV}{o:Oper}{d:Option Tmp}
section
variable{rd:Bool}{Mz:Array Oper}
def Ir(Mx:List Nat)(o:Oper):Nat:=o.after.toList.foldl (λs e=>if Region.binds .any e then s ||| (2^e.on |||Mx.getD e.on 0) else s) 0
def beforeL(Mx:List Nat):List Oper->List Nat|[]=>Mx|o::os=>beforeL (Mx++[Ir Mx o]) os
def uT(k:Nat):List Oper->Bool|[]=>true|o::os=>o.after.toList.all (λe=>!Region.binds .any e||Nat.blt e.on k)&&uT (k+1) os
def Is(Mz:Array Oper)(m:List Nat)(y:Nat):Nat->Bool|0=>true|x+1=>((m.getD y 0).testBit x||Aw Mz x y)&&Is Mz m y x
def EI(Mz:Array Oper)(m:List Nat):Nat->Bool|0=>true|y+1=>Is Mz m y y&&EI Mz m y
def LL(Mz:Array Oper):Bool:=uT 0 Mz.toList&&EI Mz (beforeL [] Mz.toList) Mz.size
theorem Uj{Mx:List Nat}{x:Nat}(h:(Ir Mx o).testBit x=true):∃e∈o.after.toList,Region.binds .any e=true/\(x=e.on\/(Mx.getD e.on 0).testBit x=true):=by
 have key:∀(l:List Edge)(s:Nat),(l.foldl (λs e=>if Region.binds .any e then s ||| (2^e.on |||Mx.getD e.on 0) else s) s).testBit x=true->s.testBit x=true\/∃e∈l,Region.binds .any e=true/\(x=e.on\/(Mx.getD e.on 0).testBit x=true):=by intro l;induction l with|nil=>exactλs h=>.inl h|cons e l b =>intro s h;rw[dl_]at h;rcases b _ h with a|⟨d,c,a⟩;grind;grind
 rcases key _ 0 h with a|a;grind;grind
theorem Jl:∀{os:List Oper}{Mx:List Nat}{i:Nat}{o:Oper},os[i]?=some o->∃a,(beforeL Mx os).getD (Mx.length+i) 0=Ir a o/\(∀j,j<Mx.length+i->a.getD j 0=(beforeL Mx os).getD j 0)/\a.length=Mx.length+i
 |[],Mx,i,o,h=>I|p::os,Mx,i,o,h=>by
  have g:∀(os:List Oper)(Mx:List Nat)(j:Nat),j<Mx.length->(beforeL Mx os).getD j 0=Mx.getD j 0:=by intro os;induction os with|nil=>intro Mx j b;rfl|cons p os c =>intro Mx j b;rw[beforeL,c _ _ I];simp[bi_ b]
  cases i with|zero =>simp at h;subst h;refine⟨Mx,?_,λj b=>?_,rfl⟩;grind[beforeL];grind|succ i =>simp at h;let⟨a,d,e,f⟩:=Jl (Mx:=Mx++[Ir Mx p]) h;simp only[ar_,aC_,bg_]at d e f;refine⟨a,?_,λj b=>?_,X⟩;grind[beforeL];grind[beforeL]
theorem HB:∀{os:List Oper}{k i:Nat}{o:Oper},uT k os=true->os[i]?=some o->∀e∈o.after.toList,Region.binds .any e=true->e.on<k+i|[],k,i,o,_,h=>I|p::os,k,i,o,a,h=>by simp only[uT,as_]at a;cases i with|zero =>simp at h;subst h;intro e b c;have:=aY_.1 a.1 e b;rw[c]at this;simp at this;omega|succ i =>simp at h;intro e b c;have:=HB a.2 h e b c;omega
structure Iu(Mz:Array Oper)(cW:Array Bool):Prop where
 size:cW.size=Mz.size
 closed:∀y x,cW.getD y false=true->((beforeL [] Mz.toList).getD y 0).testBit x=true->cW.getD x false=true
theorem OC(f:cW.size=Mz.size)(h:i∈Region.ready .any Mz cW):∃o,Mz[i]?=some o/\i<Mz.size/\cW.getD i false=false/\∀e∈o.after.toList,Region.binds .any e=true->cW.getD e.on false=true:=by unfold Region.ready at h;rw[bS_]at h;let⟨b,a⟩:=h;have b:i<Mz.size:=I;simp only[as_]at a;have c:Mz[i]?=some Mz[i]:=aI_ b;rw[c]at a;simp only[aK_,bL_]at a;refine⟨_,c,b,?_,λe g d=>?_⟩;grind;have:=Array.all_eq_true'.1 a.2 e I;rw[d]at this;simpa using this
theorem OD(i:uT 0 Mz.toList=true){y x:Nat}(k:Mz[y]?=some o)(h:((beforeL [] Mz.toList).getD y 0).testBit x=true):∃e∈o.after.toList,Region.binds .any e=true/\(x=e.on\/((beforeL [] Mz.toList).getD e.on 0).testBit x=true):=by have a:Mz.toList[y]?=some o:=I;let⟨l,b,c,m⟩:=Jl (Mx:=[]) a;simp only[bg_,aH_]at b c;rw[b]at h;let⟨e,d,f,j⟩:=Uj h;refine⟨e,d,f,j.imp id λg=>?_⟩;have p:=HB i a e d f;rw[c e.on X]at g;exact g
theorem Ko{j:Nat}(hi:i<cW.size):(cW.setIfInBounds i true).getD j false=if j=i then true else cW.getD j false:=by simp only[bd_,dk_];by_cases c:i=j;grind;grind
theorem Iu.step(g:uT 0 Mz.toList=true)(a:Iu Mz cW)(h:i∈Region.ready .any Mz cW):Iu Mz (cW.setIfInBounds i true):=by let⟨o,j,k,q,l⟩:=OC a.size h;refine⟨by simp[a.size],λy x b f=>?_⟩;rw[Ko (by rw[a.size];exact k)]at b⊢;by_cases c:y=i;subst c;let⟨e,m,n,d⟩:=OD g j f;have p:=l e m n;rcases d with rfl|d;grind;rw[a.closed e.on x p d];simp;rw[if_neg c]at b;rw[a.closed y x b f];simp
theorem BO(l:uT 0 Mz.toList=true):∀(fuel t:Nat)(cW:Array Bool),Iu Mz cW ->(∀i∈Region.linearise.go .any Mz fuel t cW [],i<Mz.size/\cW.getD i false=false)/\(Region.linearise.go .any Mz fuel t cW []).Nodup /\(Region.linearise.go .any Mz fuel t cW []).Pairwise (λy x=>((beforeL [] Mz.toList).getD y 0).testBit x=false) /\((∃i,i<Mz.size/\cW.getD i false=false/\i∉Region.linearise.go .any Mz fuel t cW [])->(Region.linearise.go .any Mz fuel t cW []).length=fuel):=by intro fuel;induction fuel with|zero=>intro t cW a;exact⟨λi d=>by simp[Region.linearise.go]at d,by simp[Region.linearise.go],by simp[Region.linearise.go],λ_=>by simp[Region.linearise.go]⟩|succ fuel E =>
  intro t cW a;have e:Region.linearise.go .any Mz (fuel+1) t cW []=match(Region.ready .any Mz cW)[t%(Region.ready .any Mz cW).length]? with|some i=>Region.linearise.go .any Mz fuel (t/(Region.ready .any Mz cW).length) (cW.setIfInBounds i true) [i]|none=>[]:=by simp only[Region.linearise.go];rfl
  rw[e];cases d:(Region.ready .any Mz cW)[t%(Region.ready .any Mz cW).length]? with
  |none =>
   refine⟨λi h=>I,aB,aB,λ⟨i,f,m,_⟩=>?_⟩;exfalso;have F:Region.ready .any Mz cW=[]:=by cases n:Region.ready .any Mz cW with|nil=>rfl|cons x v =>rw[n]at d;have g:t%(x::v).length<(x::v).length:=Nat.mod_lt _ aB;simp at d;simp at g;omega
   have least:∀k,(∀j,j<k->j<Mz.size->cW.getD j false=true)->k<Mz.size->cW.getD k false=false->False:=by
    intro k w p G;have:k∈Region.ready .any Mz cW:=by
     unfold Region.ready;rw[bS_];refine⟨I,?_⟩;have g:k<cW.size:=by rw[a.size];exact p
     rw[aI_ p];simp only[aK_,bL_,as_];refine⟨?_,?_⟩;grind;rw[Array.all_eq_true'];intro b J;cases q:Region.binds .any b with|false=>rfl|true =>have:=HB (k:=0) (i:=k) l (by rw[bf_];exact aI_ p) b I q;simp only[cy_,Bool.false_or];exact w b.on X X
    rw[F]at this;cases this
   have all:∀k,k<=Mz.size->∀j,j<k->j<Mz.size->cW.getD j false=true:=by intro k;induction k with|zero=>intro _ j z;omega|succ k K =>intro w j z S;by_cases c:j<k;grind;grind
   have:=all Mz.size (aa_ _) i f f;rw[m]at this;cases this|some i =>
   have A:=am_ d;let⟨o,r,g,T,n⟩:=OC a.size A;have s:=a.step l A;let⟨f1,f2,f3,f4⟩:=E (t/(Region.ready .any Mz cW).length) _ s;simp only;rw[linearise_go_acc,List.reverse_singleton,ds_];have L:i<cW.size:=by rw[a.size];exact g
   have M:∀j∈Region.linearise.go .any Mz fuel (t/(Region.ready .any Mz cW).length) (cW.setIfInBounds i true) [],j≠i/\cW.getD j false=false:=by grind[Ko]
   refine⟨λj z=>?_,?_,?_,λ⟨k,f,m,B⟩=>?_⟩;grind;grind;rw[ch_];refine⟨λx N=>?_,f3⟩;cases q:((beforeL [] Mz.toList).getD i 0).testBit x with|false=>rfl|true =>let⟨b,P,Q,u⟩:=OD l r q;have R:=n b P Q;have C:=(M x N).2;rcases u with rfl|u;grind;rw[a.closed b.on x R u]at C;cases C
   rw[aC_,f4 ⟨k,f,?_,λh=>B I⟩];rw[Ko L,if_neg λe=>B I];exact m
theorem Jm{m:List Nat}{y:Nat}:∀{k x:Nat},Is Mz m y k=true->x<k->(m.getD y 0).testBit x=true\/Aw Mz x y=true|0,x,_,h=>X|k+1,x,a,h=>by simp only[Is,as_,cf_]at a;by_cases c:x=k;grind;exact Jm a.2 X
theorem HC{m:List Nat}:∀{k x y:Nat},EI Mz m k=true->y<k->x<y->(m.getD y 0).testBit x=true\/Aw Mz x y=true|0,x,y,_,h,_=>X|k+1,x,y,a,h,b=>by simp only[EI,as_]at a;by_cases c:y=k;grind[Jm];exact HC a.2 X b
theorem OE:∀(l:List Nat),l.Nodup->∀m,(∀y∈l,y<m)->l.length<=m:=by intro l b m;induction m generalizing l with
 |zero=>intro h;cases l with|nil=>simp|cons a l=>have:=h a aB;omega
 |succ m d =>intro h;by_cases c:m∈l;have e:=d (l.erase m) (b.erase m) λy f=>I;rw[dJ_ c]at e;omega;grind
theorem ez.draw{id:Nat}{aE:AA}(k:P.follows .mixedOrders=true)(i:LL Mz=true)(h:wh P Y n Mz (List.range Mz.size) U S aE S'):ez P Y rd n (.region id Mz true) U S .normal aE S':=by
 intro F m A g a w l M o p;simp only[LL,as_]at i;let⟨q,r⟩:=i;refine wpIn_region_draw λt=>?_;simp only[Region.schedule,k,cz_,if_true];have s:Iu Mz (Array.replicate Mz.size false):=⟨aB,λy x b=>by simp only[bd_,cU_]at b;split at b<;>simp at b⟩;let⟨f1,f2,f3,f4⟩:=BO q Mz.size t _ s;have u:∀x,x∈Region.linearise .any Mz t↔x∈List.range Mz.size:=by
  intro x;refine⟨λd=>by simpa using(f1 x d).1,λd=>?_⟩;have d:x<Mz.size:=I;by_cases c:x∈Region.linearise .any Mz t;grind;exfalso;have v:=f4 ⟨x,d,by simp[bd_,cU_,d],c⟩;have z:(x::Region.linearise.go .any Mz Mz.size t (Array.replicate Mz.size false) []).Nodup:=by rw[bM_];exact⟨c,f2⟩
  have B:=OE (x::Region.linearise.go .any Mz Mz.size t (Array.replicate Mz.size false) []) z Mz.size λy b=>I;rw[aC_,v]at B;omega
 have C:(Region.linearise .any Mz t).Pairwise λy x=>x<y->Aw Mz x y=true:=by refine dK_ ?_ f3;intro y x b d N E;rcases HC r (f1 y b).1 E with e|e;grind;grind
 have G:(List.range Mz.size).Pairwise (·< ·):=dL_;let⟨j,f⟩:=o.drew;have f:St Y A g S {w with drawn:=w.drawn+1 }:=f;refine(wh.perm G C u f2 h).Sx F m A g a _ _ l f (p.later j.toLater) λQ R J e K L=>⟨rfl,J,e,K,j.trans L⟩
end
section
variable{rd:Bool}{o:Oper}{Mz:Array Oper}
def LM(P:Program)(Y:World)(K:AV->ah->Prop)(S:ah)(args:List AV):AV->Prop
 |.v (.func (.func g) first cap)=>match first.toList,cap.toList with|[],[]=>∃r,aF P Y g args S r S/\K r S|_,_=>False
 |.fn (.func g) first cap=>∃r,aF P Y g (first++args++cap) S r S/\K r S|_=>False
def eM(P:Program)(Y:World)(o:Op)(U:AA)(S:ah)(K:AV->ah->Prop):Prop :=match o with
 |.call c=>match c.callee with|.value f=>LM P Y K S (c.args.toList.map U.ev) (U.ev f)|_=>bX P Y (.call c) U S K
 |o=>bX P Y o U S K
theorem agx{op:Op}(e:qv op=false)(i:Fe op=false)(h:eM P Y op U S K):∃r,K r S/\bX P Y op U S (Ct r S):=by cases op with|load t x =>simp only[eM,bX,bQ]at h⊢;split at h;exact⟨_,h,⟨rfl,rfl⟩⟩;grind|call c =>simp only[Fe]at i;simp only[eM]at h;split at h;rename_i f j;unfold LM at h;simp only[bX,j];split at h;rename_i g first cap a;split at h;rename_i k l;let⟨r,b,d⟩:=h;refine⟨r,d,?_⟩;rw[a];simp only[HY,k,l];exact⟨r,S,b,rfl,rfl⟩;grind;rename_i g first cap a;let⟨r,b,d⟩:=h;refine⟨r,d,?_⟩;rw[a];exact⟨r,S,b,rfl,rfl⟩;grind;grind[qv]|_=>simp[Fe,e,qv]at i e
theorem Pf{op:Op}(h:eM P Y op U S K):bX P Y op U S K:=by cases op with|call c =>simp only[eM]at h;split at h;rename_i f a;unfold LM at h;simp only[bX,a];split at h;grind[HY];rename_i g first cap b;let⟨r,d,e⟩:=h;rw[b];exact⟨r,S,d,e⟩;grind;grind|_=>exact h
theorem qq{U:AA}{S:ah}(h:bX P Y o.op U S K):∃r S',jV P Y n o (U.only (dW o)) S r S'/\K r S' :=Hh (aar (β:=U.only (dW o)) (λx b=>(gL λt e=>gM I).symm) h)
theorem are(hi:Mz[i]?=some o)(c:(match o.dst with|some d=>Nat.blt d n|none=>true)=true)(e:o.guard=none\/∃j k,o.guard=some (j,k)/\xl Mz U j=some (some k))(h:eM P Y o.op U S K):∃r S',GS P Y n Mz i U S (U.put o.dst r) S'/\K r S':=by cases l:qv o.op with
 |true =>
  let⟨r,a,b⟩:=af1 l (Pf h);have m:∀T,jV P Y n o (U.only (dW o)) T r T:=λT=>by obtain⟨f,S',g,rfl,rfl⟩:=qq (n:=n) (b T);exact g
  exact⟨r,S,⟨o,hi,c,.inr ⟨e,r,rfl,m S,λ_=>⟨rfl,m⟩,λ_=>rfl⟩⟩,a⟩|false =>cases p:Fe o.op with|false =>let⟨r,a,b⟩:=agx l p h;obtain⟨f,S',g,rfl,rfl⟩:=qq (n:=n) b;exact⟨f,S',⟨o,hi,c,.inr ⟨e,f,rfl,g,λh=>I,λ_=>rfl⟩⟩,a⟩|true =>let⟨r,S',a,b⟩:=qq (n:=n) (Pf h);exact⟨r,S',⟨o,hi,c,.inr ⟨e,r,rfl,a,λh=>I,λh=>I⟩⟩,b⟩
end
theorem wrap64{c:Int}(h1:-9223372036854775808<=c)(h2:c<=9223372036854775807):IntKind.i64.wrap c=c:=by unfold IntKind.wrap;simp[IntKind.bits,IntKind.signed];omega
theorem aiq{U β:Type}{l:List U}{f:U->β}{i:Int}{k:Nat}{x:U}(hi:i=(k:Int))(h:l[k]?=some x):idx (l.map f) i=some (f x):=by grind[Um]
def iv(i:Int):AV:=.v (.int .i64 i)
def aR(i:Int):List AV:=[iv i]
def iU:List AV->Prop|[]=>True|a::l=>Pure a/\iU l
theorem iU.all:∀{l:List AV},iU l->∀a∈l,Pure a|[],_,a,h=>I|b::l,c,a,h=>by rcases ae_.1 h with rfl|h;exact c.1;exact iU.all c.2 a h
def iW(S:ah):List AV->List AV->Prop|[],[]=>True|a::l,b::c=>aH S a b/\iW S l c|_,_=>False
theorem iW.len{S:ah}:∀{l b:List AV},iW S l b->l.length=b.length|[],[],_=>rfl|a::l,c::b,h=>by simp[iW.len h.2]|[],_::_,h=>h.elim|_::_,[],h=>h.elim
theorem iW.at{S:ah}:∀{l e:List AV},iW S l e->∀(i:Nat)(a a':AV),l[i]?=some a->e[i]?=some a'->aH S a a'
 |[],[],_,i,a,a',h,_=>I|b::l,f::e,h,i,a,a',c,d=>by cases i with|zero=>simp at c d;subst c d;exact h.1|succ i=>simp at c d;exact iW.at h.2 i a a' c d
 |[],_::_,h,_,_,_,_,_=>h.elim|_::_,[],h,_,_,_,_,_=>h.elim
theorem iW.refl(S:ah):∀(l:List AV),iW S l l|[]=>trivial|a::l=>⟨.refl a,iW.refl S l⟩
section
variable{f:FuncId}{args:List AV}
def ao.WM(h:ao P Y f args r)(a:iU args)(S:ah):aF P Y f args S r S:=h.QJ a.all S
def ao.QM(h:ao P Y f args r)(b:iU args)(hs:Cg r)(a:iW S args0 args):aF P Y f args0 S r S:=h.adw b.all hs S a.len a.at
end
theorem aH.wk{ex:Bool}{rows:List (List AV)}:aH S (.sl ex rows) (.sl false rows) :=.sl rfl (λi r e c b=>I) λi j r e a g c b f d=>by rw[c]at b;cases oJ_ b;rw[f]at d;cases oJ_ d;exact .refl _
def aH.fns{f:Fn}{l a m b:List AV}(h1:iW S l a)(h2:iW S m b):aH S (.fn f l m) (.fn f a b):=.fn h1.len h2.len h1.at h2.at
theorem aH.box{k:Nat}{cs':List AV}(h:S.get k=some (.arr cs.length [cs] 0 true))(b:iW S cs cs'):aH S (.pt k cs.length 0 0) (.ip cs') :=.pt h rfl (by rw[b.len];exact aa_ _) λq a d c e=>by rw[aH_]at c;exact b.at q a d c e
def aa2{β:Type}(r:AV)(k:AV->β):β:=match r with|.u=>k .u|.v x=>k (.v x)|.agg l=>k (.agg l)|.aJ l=>k (.aJ l)|.sl e l=>k (.sl e l)|.ip l=>k (.ip l)|.ob a b c d e=>k (.ob a b c d e)|.pt a b c d=>k (.pt a b c d)|.mp a=>k (.mp a)|.fn a b c=>k (.fn a b c)|.yl a=>k (.yl a)|.gr a b c=>k (.gr a b c)
theorem aa3{β:Type}{r:AV}{k:AV->β}:aa2 r k=k r:=by cases r<;>rfl
def r_{β:Type}:List AV->(List AV->β)->β|[],k=>k []|a::l,k=>aa2 a λa=>r_ l λl=>k (a::l)
theorem BP{β:Type}:∀{l:List AV}{k:List AV->β},r_ l k=k l|[],k=>rfl|a::l,k=>by rw[r_,aa3,BP]
def arf{β:Type}(r:AV)(k:AV->β):β:=match r with|.u=>k .u|.v x=>k (.v x)|.agg l=>r_ l λl=>k (.agg l)|.aJ l=>r_ l λl=>k (.aJ l)|.sl e l=>k (.sl e l)|.ip l=>r_ l λl=>k (.ip l)|.ob a b c d e=>k (.ob a b c d e)|.pt a b c d=>k (.pt a b c d)|.mp a=>k (.mp a)|.fn a b c=>r_ b λb=>r_ c λc=>k (.fn a b c)|.yl a=>k (.yl a)|.gr a b c=>k (.gr a b c)
def aa4{β:Type}:List (List AV)->(List (List AV)->β)->β|[],k=>k []|a::l,k=>r_ a λa=>aa4 l λl=>k (a::l)
def M7(S:ah)(cs:List AV):Option (AV×ah):=r_ cs λcs=>match S with|⟨g,x⟩=>some (.pt x cs.length 0 0,⟨bL g x (some (.arr cs.length [cs] 0 true)),x+1⟩)
theorem M8:M7 S cs=some (oY S cs):=by unfold M7;rw[BP];rfl
def HD(P:Program)(S:ah)(t:TypeId)(b:AV):AV->Option ah
 |.pt k c 0 j=>match S.get k with
  |some (.arr a [row] 0 ex)=>match Nat.beq c a&&(bp b).all db&&match eL P t with|some m=>Nat.beq m (bp b).length|none=>false with
   |true=>match Nat.ble (j+(bp b).length) row.length with
    |true=>r_ (uV row j (bp b)) λd=>match S with|⟨g,x⟩=>some ⟨bL g k (some (.arr c [d] 0 ex)),x⟩
    |false=>none
   |false=>none
  |_=>none
 |_=>none
theorem Th{S':ah}{b x:AV}(h:HD P S t b x=some S'):uW P S t b x=some S':=by unfold HD at h;split at h;rename_i k g j;split at h;rename_i a row ex c;split at h;rename_i d;split at h;rename_i e;rw[BP]at h;simp only[uW,c];split;simp only[ct_,e];exact h;rename_i f;have:true=false:=d.symm.trans f;cases this;grind;grind;grind;grind
def opQ(P:Program)(o:Op)(U:AA)(S:ah):Option (AV×ah) :=match o with
 |.move x=>some (U.ev x,S)|.assign x=>some (U.ev x,S)|.pick c a b=>match U.ev c with|.v (.bool true)=>some (U.ev a,S)|.v (.bool false)=>some (U.ev b,S)|_=>none
 |.alloc e=>match eB P e with|some z=>M7 S (z.cells.toList.map cd)|none=>none
 |.box _ x=>match(bp (U.ev x)).all db with|true=>M7 S (bp (U.ev x))|false=>none
 |.build t parts=>match zw P t (parts.toList.map λ(i,x)=>(i,U.ev x)) with|some a=>some (a,S)|none=>none
 |.load t x=>match AO P S t (U.ev x) with|some a=>some (a,S)|none=>none
 |.buildSlice t len parts=>match me P t with
  |some e=>match eB P e,eL P e with
   |some z,some m=>match Nat.ble (len*m) 16777216&&Nat.beq z.cells.size m&&Nat.blt 0 m with
    |true=>match yR m (List.replicate len (z.cells.toList.map cd)) (parts.toList.map λ(i,x)=>(i,U.ev x)) with|some rows=>aa4 rows λrows=>some (.sl true rows,S)|none=>none
    |false=>none
   |_,_=>none
  |none=>none
 |.store t x b=>match HD P S t (U.ev b) (U.ev x) with|some S'=>some (.v undef,S')|none=>none
 |.unOp op _ x=>match op,U.ev x with|.not,.v (.bool true)=>some (.v (.bool false),S)|.not,.v (.bool false)=>some (.v (.bool true),S)|_,_=>none
 |.fieldAddr s x f=>match P.underlying s with
  |some (.struct g)=>match g[f]? with
   |some d=>match eL P d.type with
    |some (_+1)=>match U.ev x with|.ip row=>some (.ip (row.drop d.offset),S)|.pt k h i j=>some (.pt k h i (j+d.offset),S)|_=>none
    |_=>none
   |none=>none
  |_=>none
 |.field t x f=>match P.underlying t with
  |some (.struct g)=>match g[f]? with
   |some d=>match U.ev x with
    |.agg l=>match sd P d.type l d.offset with|some a=>some (a,S)|none=>none
    |_=>none
   |none=>none
  |_=>none
 |.extract x i=>match U.ev x with
  |.aJ l=>match l[i]? with|some a=>some (a,S)|none=>none
  |_=>none
 |.makeFunc f first cap=>some (.fn f (first.toList.map U.ev) (cap.toList.map U.ev),S)|.nilCheck x=>match U.ev x with|.ip c=>some (.ip c,S)|.pt k h i j=>some (.pt k h i j,S)|_=>none
 |.call c=>match c.callee,c.argTypes.toList,c.args.toList with
  |.builtin .len,[t],[x]=>match lenOf P t (U.ev x) with|some m=>some (.v (.int .i64 (m:Int)),S)|none=>none
  |_,_,_=>none
 |_=>none
section
variable{rd:Bool}{o:Op}
def mu(Mz:List Oper)(U:AA)(o:Oper):Option Bool :=match o.guard with|none=>some true|some (j,a)=>match ydL Mz U j with|some (some true)=>some a|some (some false)=>some !a|some none=>some false|none=>none
def AH(d:Option Tmp)(U:AA)(r:AV):AA:=match d with|some d=>⟨bL U.tm d r,U.df⟩|none=>U
def Ph(P:Program)(n:Nat)(Mz:List Oper):List Oper->AA->ah->List Oper×AA×ah|[],U,S=>([],U,S)|o::FJ,U,S=>match tG n o.dst with
  |true=>match mu Mz U o with
   |some true=>match opQ P o.op U S with|some (r,S')=>arf r λr=>Ph P n Mz FJ (AH o.dst U r) S'|none=>(o::FJ,U,S)
   |some false=>Ph P n Mz FJ (AH o.dst U (.v undef)) S|none=>(o::FJ,U,S)
  |false=>(o::FJ,U,S)
end
section
variable{rd:Bool}{o:Oper}{Mz l:List Oper}{Q:AA->ah->Prop}
theorem zq:AH d U r=U.put d r:=by cases d<;>rfl
def HE(P:Program)(Y:World)(n:Nat)(Mz l:List Oper)(Q:AA->ah->Prop)(U:AA)(S:ah):Prop :=∀k,Mz.drop k=l->∃aE S',Ce P Y n Mz.toArray (List.range' k l.length) U S aE S'/\Q aE S'
theorem drop_cons{k:Nat}(h:Mz.drop k=o::FJ):Mz.toArray[k]?=some o/\Mz.drop (k+1)=FJ:=by refine⟨?_,?_⟩;have:=congrArg (·[0]?) h;simpa using this;rw[<-List.drop_drop,h];rfl
def HE.nil(h:Q U S):HE P Y n Mz [] Q U S:=λk _=>⟨U,S,λF m A g a w Q e b c d=>d a w g b c (Ext.refl ..),h⟩
theorem vT(h:mu Mz U o=some true):o.guard=none\/∃j a,o.guard=some (j,a)/\xl Mz.toArray U j=some (some a):=by unfold mu at h;split at h;grind;rename_i j a b;have e:=FA (Mz:=Mz.toArray) (U:=U) (j:=j);split at h;grind;grind;grind;grind
theorem Jn(h:mu Mz U o=some false):∃(j:Nat) (a:Bool) (b:Option Bool),o.guard=some (j,a)/\xl Mz.toArray U j=some b/\b≠some a:=by unfold mu at h;split at h;grind;rename_i j a c;have e:=FA (Mz:=Mz.toArray) (U:=U) (j:=j);split at h;grind;grind;grind;grind
theorem HE.op(d:tG n o.dst=true)(e:mu Mz U o=some true)(h:bX P Y o.op U S (Ct r S'))(k:HE P Y n Mz FJ Q (AH o.dst U r) S'):HE P Y n Mz (o::FJ) Q U S:=by intro i f;let⟨l,m⟩:=drop_cons f;obtain⟨u,S1,p,rfl,rfl⟩:=Hh (n:=n) h;let⟨aE,T,c,q⟩:=k (i+1) m;rw[zq]at c;refine⟨aE,T,?_,q⟩;refine Ce.step l d (λg w a s=>?_) p c;rcases vT e with b|⟨j,v,b,t⟩;simp[Region.wanted,b];simp[Region.wanted,b,Av s t]
def qt(P:Program)(Y:World)(n:Nat)(Mz l:List Oper)(Q:AA->ah->Prop)(U:AA)(S:ah):Prop :=∀k,Mz.drop k=l->∃aE S',wh P Y n Mz.toArray (List.range' k l.length) U S aE S'/\Q aE S'
def qt.nil(h:Q U S):qt P Y n Mz [] Q U S:=λk _=>⟨U,S,.nil U S,h⟩
theorem qt.op(b:tG n o.dst=true)(c:mu Mz U o=some true)(h:eM P Y o.op U S (Ct r S'))(k:qt P Y n Mz FJ Q (AH o.dst U r) S'):qt P Y n Mz (o::FJ) Q U S:=by intro i d;let⟨e,f⟩:=drop_cons d;obtain⟨l,S1,g,rfl,rfl⟩:=are (n:=n) e b (vT c) h;let⟨aE,T,a,j⟩:=k (i+1) f;rw[zq]at a;exact⟨aE,T,.cons g a,j⟩
theorem qt.skip(c:tG n o.dst=true)(d:mu Mz U o=some false)(k:qt P Y n Mz FJ Q (AH o.dst U (.v undef)) S):qt P Y n Mz (o::FJ) Q U S:=by intro i e;let⟨f,g⟩:=drop_cons e;let⟨aE,T,a,h⟩:=k (i+1) g;rw[zq]at a;let⟨j,l,b,m,p,q⟩:=Jn d;exact⟨aE,T,.cons ⟨o,f,c,.inl ⟨j,l,b,m,p,q,rfl,rfl⟩⟩ a,h⟩
end
inductive It where|seq (c:Code)|Bw (id:Nat)
inductive Cf where|run (c:Code) (K:List It)|out (ex:Exit) (K:List It)|bk (Mz l:List Oper) (K:List It)|dr (Mz l:List Oper) (K:List It)
section
variable(P:Program)(Y:World)(rd:Bool)(n:Nat)
def Wp(c:Code)(Q:Exit->AA->ah->Prop)(U:AA)(S:ah):Prop:=∃ex aE S',ez P Y rd n c U S ex aE S'/\Q ex aE S'
def cont(Q:Exit->AA->ah->Prop):List It->Exit->AA->ah->Prop
 |[]=>Q|.seq b::K=>λex U S=>match ex with|.normal=>Wp P Y rd n b (cont Q K) U S|e=>cont Q K e U S
 |.Bw id::K=>λex U S=>match ex with|.exit j=>(match Nat.beq j id with|true=>cont Q K .normal U S|false=>cont Q K (.exit j) U S)|e=>cont Q K e U S
def wpC(Q:Exit->AA->ah->Prop):Cf->AA->ah->Prop|.run c K,U,S=>Wp P Y rd n c (cont P Y rd n Q K) U S|.out ex K,U,S=>cont P Y rd n Q K ex U S|.bk Mz l K,U,S=>HE P Y n Mz l (λU S=>cont P Y rd n Q K .normal U S) U S|.dr Mz l K,U,S=>qt P Y n Mz l (λU S=>cont P Y rd n Q K .normal U S) U S
def mv:Cf->AA->ah->Option (Cf×AA×ah)
 |.run c K,U,S=>match c with
  |.skip=>some (.out .normal K,U,S)|.region _ Mz false=>some (.bk Mz.toList Mz.toList K,U,S)|.seq a b=>some (.run a (.seq b::K),U,S)|.cond c a b=>match U.ev c with|.v (.bool true)=>some (.run a K,U,S)|.v (.bool false)=>some (.run b K,U,S)|_=>none
  |.block id c=>some (.run c (.Bw id::K),U,S)|.exit id=>some (.out (.exit id) K,U,S)|.ret=>some (.out .ret K,U,S)|_=>none
 |.out ex K,U,S=>match K with
  |[]=>none|.seq b::K=>match ex with|.normal=>some (.run b K,U,S)|e=>some (.out e K,U,S)
  |.Bw id::K=>match ex with
   |.exit j=>match Nat.beq j id with|true=>some (.out .normal K,U,S)|false=>some (.out (.exit j) K,U,S)
   |e=>some (.out e K,U,S)
 |.bk Mz l K,U,S=>match Ph P n Mz l U S with|([],aE,S')=>some (.out .normal K,aE,S')|(_::_,_,_)=>none
 |.dr Mz l K,U,S=>match Ph P n Mz l U S with|([],aE,S')=>some (.out .normal K,aE,S')|(_::_,_,_)=>none
end
section
variable{rd:Bool}{Q:Exit->AA->ah->Prop}
def Wp.of(h:ez P Y rd n c U S ex aE S')(k:Q ex aE S'):Wp P Y rd n c Q U S:=⟨_,_,_,h,k⟩
theorem Wp.seq(h:Wp P Y rd n a (λex U S=>match ex with|.normal=>Wp P Y rd n b Q U S|e=>Q e U S) U S):Wp P Y rd n (.seq a b) Q U S:=by let⟨ex,g,i,d,f⟩:=h;cases ex with|normal =>let⟨c,aE,S',j,k⟩:=f;exact⟨c,aE,S',ez.seq d j,k⟩|_=>exact⟨_,g,i,ez.agQ d aB,f⟩
theorem Wp.cond{o:Operand}{t:Bool}(c:U.ev o=.v (.bool t))(h:Wp P Y rd n (if t then a else b) Q U S):Wp P Y rd n (.cond o a b) Q U S:=by let⟨ex,aE,S',d,e⟩:=h;exact⟨ex,aE,S',ez.cond c d,e⟩
theorem Wp.block{id:Nat}(h:Wp P Y rd n c (λex U S=>match ex with|.exit j=>(match Nat.beq j id with|true=>Q .normal U S|false=>Q (.exit j) U S)|e=>Q e U S) U S):Wp P Y rd n (.block id c) Q U S:=by let⟨ex,aE,S',d,a⟩:=h;cases ex with
 |exit j =>
  simp only at a;split at a;rename_i b;have:=aS_ b;subst this;exact⟨_,aE,S',ez.Wn d,a⟩;rename_i b;have f:j≠id:=λe=>by subst e;rw[bD_]at b;cases b
  exact⟨_,aE,S',ez.block d λe=>f I,a⟩|_=>exact⟨_,aE,S',ez.block d aB,a⟩
theorem qt.wp{id:Nat}{Mz:Array Oper}(a:(P.follows .mixedOrders&&LL Mz)=true)(h:qt P Y n Mz.toList Mz.toList (λU S=>Q .normal U S) U S):Wp P Y rd n (.region id Mz true) Q U S:=by simp only[as_]at a;let⟨aE,S',b,c⟩:=h 0 rfl;rw[bm_,<-ci_]at b;exact⟨_,aE,S',ez.draw a.1 a.2 b,c⟩
end
section
variable{rd:Bool}{Q:Exit->AA->ah->Prop}{K:List It}{Mz:List Oper}{o:Oper}
def wpC.op(a:tG n o.dst=true)(b:mu Mz U o=some true)(h:bX P Y o.op U S (Ct r S'))(k:wpC P Y rd n Q (.bk Mz FJ K) (AH o.dst U r) S'):wpC P Y rd n Q (.bk Mz (o::FJ) K) U S:=HE.op a b h k
def OZ:Exit->Bool|.normal=>true|.ret=>true|_=>false
end
def dD(i:Int):Value:=.int .i64 i
def nu:List (Value×AV)->Int->Option Nat|[],_=>none|p::es,i=>match p.1 with
  |.int _ n=>match decide (n=i) with|true=>some 0|false=>(nu es i).map (·+1)
  |_=>(nu es i).map (·+1)
def ve(es:List (Value×AV))(i:Int):Option AV:=match nu es i with|some j=>es[j]?.map (·.2)|none=>none
def DQ(es:List (Value×AV))(i:Int)(b:AV):List (Value×AV):=match nu es i with|some j=>es.set j (dD i,b)|none=>es++[(dD i,b)]
def Mw(es:List (Value×AV))(i:Int):List (Value×AV):=match nu es i with|some j=>es.eraseIdx j|none=>es
def qP(es:List (Value×AV)):Prop:=∀p∈es,∃n,p.1=dD n
theorem zh:∀{es:List (Value×AV)}{i:Int}{j:Nat},qP es->nu es i=some j->∃a,es[j]?=some (dD i,a)|[],i,j,_,h=>by cases h|p::es,i,j,c,h=>by let⟨n,d⟩:=c p aB;simp only[nu,d,dD]at h;split at h;grind;cases b:nu es i with|none=>rw[b]at h;cases h|some e =>rw[b]at h;cases oJ_ h;let⟨a,f⟩:=zh (λq g=>c q I) b;exact⟨a,I⟩
theorem LN{kk:IntKind}{i:Int}:∀{es:List (Value×AV)}{L:List MapEntry}{o:Nat},qP es->L.length=es.length->(∀(j:Nat)(k:Value)(a:AV)(e:MapEntry),es[j]?=some (k,a)->L[j]?=some e->e.key=k) ->Instr.findNow (.int kk) (dD i) L o=some (match nu es i with|some j=>L[j]?.map λe=>(j+o,e.val)|none=>none)
 |[],[],o,_,_,_=>rfl|p::es,e::L,o,d,f,h=>by
  let⟨n,g⟩:=d p aB;have b:e.key=dD n:=by rw[h 0 p.1 p.2 e rfl rfl,g]
  simp only[Instr.findNow,b,dD,Instr.sameNow,if_true,nu,g];by_cases c:n=i;grind;have m:¬i=n:=λe=>c e.symm;simp only[c,decide_false,beq_eq_false_iff_ne.2 m];have l:=LN (kk:=kk) (i:=i) (es:=es) (L:=L) (o:=o+1) (λq s=>d q I) I λj k a r t u=>h (j+1) k a r I I;simp only[dD]at l;rw[l];congr 1;cases nu es i with|none=>rfl|some j=>simp only[aK_,cQ_];congr 1;funext x;congr 1;omega
 |[],_::_,_,_,f,_=>I|_::_,[],_,_,f,_=>I
section
variable{o:Oper}
theorem u5{k:Nat}{v:Value}(h:aN g w (.mp k) v):v=.map (some (g.ob k))/\g.al k:=by cases h with|mp a=>exact⟨rfl,a⟩
theorem run_checkKey(h:P.underlying kt=some (.int kk))(b:Bool)(i:Int):(Instr.checkKey b 10000 kt (dD i)).run P w=.ok () w:=by rw[show(10000:Nat)=9999+1 from rfl,Instr.checkKey];simp[run_underlying h,dD,Sem.run_bind]
theorem run_findKey{i:Int}{L:List MapEntry}{x:Option (Nat×Value)}(h:P.underlying kt=some (.int kk))(a:Instr.findNow (.int kk) (dD i) L 0=some x):(Instr.findKey kt (dD i) L).run P w=.ok x w:=by simp only[Instr.findKey,Sem.run_bind,run_underlying h,Result.andThen_ok,a,Sem.run_pure]
theorem iV{b:Nat}{es:Array MapEntry}{clock:Nat}(h:w.heap[b]?=some (.map es clock)):(getObj b).run P w=.ok (.map es clock) w:=by simp[getObj,Sem.run,h]
theorem F8(c:entries.size=es.length)(d:∀(i:Nat) (k:Value) (a:AV),es[i]?=some (k,a)->∃e:MapEntry,entries[i]?=some e/\e.key=k/\aN g w a e.val)(b:qP es)(i:Int):Instr.findNow (.int kk) (dD i) entries.toList 0=some (match nu es i with|some j=>entries[j]?.map λe=>(j,e.val)|none=>none):=by have h:=LN (kk:=kk) (i:=i) (es:=es) (L:=entries.toList) (o:=0) b I λj k a e f l=>I;simpa using h
theorem F7{i:Operand}{k:Nat}{c:Bool}(u:o.op=.lookup t x i c)(B:P.underlying t=some (.map kt et))(r:P.underlying kt=some (.int kk))(f:eB P et=some z)(h:U.ev x=.mp k)(T:∀(A:Nat->Prop) (g:Gh) (w:World),St Y A g S w->g.al k->∃(entries:Array MapEntry) (clock:Nat),w.heap[g.ob k]?=some (.map entries clock)/\entries.size=es.length/\∀(i:Nat) (k:Value) (a:AV),es[i]?=some (k,a)->∃e:MapEntry,entries[i]?=some e/\e.key=k/\aN g w a e.val)(C:qP es)(hi:U.ev i=.v (dD m)):bj P Y n o U S (match ve es m with|some a=>if c then .aJ [a,.v (.bool true)] else a|none=>if c then .aJ [lift z,.v (.bool false)] else lift z) S:=by
 refine bj.quiet λA g q w V E=>?_;have F:=E.ev x;have G:=E.ev i;rw[h]at F;rw[hi]at G;let⟨J,W⟩:=u5 F;have K:=cC G;let⟨entries,clock,L,p2,M⟩:=T A g w V W;have l:=F8 p2 M C (kk:=kk) m;let⟨d,ay3,uY⟩:∃d,P.info? et=some d/\d.zero=some z:=by unfold eB at f;cases N:P.info? et with|none=>rw[N]at f;cases f|some d=>rw[N]at f;exact⟨d,rfl,f⟩
 have fin:∀(v:Value)(b:Bool)(a:AV),aN g w a v->aN g w (if c then .aJ [a,.v (.bool b)] else a) (if c then .tuple #[v,.bool b] else v):=by intro v b a Q;cases c with|false=>exact Q|true =>refine .aJ rfl λi y x p h=>?_;match i with|0=>simp at p h;subst p h;exact Q|1=>simp at p h;subst p h;exact .v|i+2=>simp at p
 unfold ve;cases s:nu es m with|none =>rw[s]at l;refine⟨_,?_,fin z false (lift z) (zu z)⟩;simp only[execOp,u,J,K,Instr.lookup,Sem.run_bind,run_underlying B,Result.andThen_ok,iV L,Sem.run_pure,run_checkKey r,run_findKey r l,pP f]|some j =>let⟨a,R⟩:=zh C s;let⟨e,q1,q2,q3⟩:=M j _ a R;rw[s]at l;simp only[q1,aK_]at l;simp only[R,aK_];refine⟨_,?_,fin e.val true a q3⟩;simp only[execOp,u,J,K,Instr.lookup,Sem.run_bind,run_underlying B,Result.andThen_ok,iV L,Sem.run_pure,run_checkKey r,run_findKey r l]
def ad6{i:Operand}{k:Nat}{c:Bool}(b:o.op=.lookup t x i c)(d:P.underlying t=some (.map kt et))(e:P.underlying kt=some (.int kk))(f:eB P et=some z)(h:U.ev x=.mp k)(j:S.get k=some (.mp es))(l:qP es)(hi:U.ev i=.v (dD m)):bj P Y n o U S (match ve es m with|some a=>if c then .aJ [a,.v (.bool true)] else a|none=>if c then .aJ [lift z,.v (.bool false)] else lift z) S :=F7 b d e f h (λA g w p q=>(p.cY k _ j q).2.2) l hi
theorem St.FM{k:Nat}{es':List (Value×AV)}{entries':Array MapEntry}{clock clock':Nat}(b:St Y A g S w)(c:S.get k=some (.mp es))(d:g.al k)(f:w.heap[g.ob k]?=some (.map entries clock))(h:entries'.size=es'.length)(j:∀(i:Nat) (k:Value) (a:AV),es'[i]?=some (k,a)->∃e:MapEntry,entries'[i]?=some e/\e.key=k/\aN g w a e.val):∃w',(setObj (g.ob k) (.map entries' clock')).run P w=.ok () w'/\St Y A g (S.set k (some (.mp es'))) w'/\Ext A g w g w':=by have u:=(b.cY k _ c d).2.1;have l:({w with heap:=w.heap.setIfInBounds (g.ob k) (.map entries' clock') }:World).heap[g.ob k]?=some (.map entries' clock'):=I;let⟨m,n⟩:=b.putObj (ob:=.mp es') c d (λJ=>⟨aB,aB⟩) (x':=.map entries' clock') rfl λq=>by simp only[World.cell?,l,f] λo p=>⟨entries',clock',p,h,λi key a r=>by let⟨e,q1,s,t⟩:=j i key a r;exact⟨e,q1,s,t.later o⟩⟩;exact⟨_,by simp[setObj,Sem.run,f],n,m⟩
theorem aa5(c:o.op=.makeMap t none):bj P Y n o U S (.mp S.nx) (S.new (.mp [])):=by intro A g q w d j;let⟨e,f⟩:=d.new (.map #[] 0) (.mp []) 0 (λJ=>aB) λl=>⟨#[],0,ep,rfl,λi k a h=>I⟩;have b:=aN.mp (g:=g.new S.nx w.heap.size 0) (w:=w.alloc (.map #[] 0)) (k:=S.nx) (.inr rfl);rw[show(g.new S.nx w.heap.size 0).ob S.nx=w.heap.size from aG _ _ _]at b;refine⟨_,_,_,.inl ?_,b,f,e⟩;simp[execOp,c,Instr.makeMap,newObj,Sem.run]
theorem X5(d:o.op=.makeMap t (some x))(e:P.underlying t=some (.map kt et))(f:U.ev x=.v (.int kk m)):bj P Y n o U S (.mp S.nx) (S.new (.mp [])):=by intro A g q w j l;have b:=l.ev x;rw[f]at b;have p:=cC b;let⟨r,s⟩:=j.new (.map #[] 0) (.mp []) 0 (λJ=>aB) λu=>⟨#[],0,ep,rfl,λi k a h=>I⟩;have c:=aN.mp (g:=g.new S.nx w.heap.size 0) (w:=w.alloc (.map #[] 0)) (k:=S.nx) (.inr rfl);rw[show(g.new S.nx w.heap.size 0).ob S.nx=w.heap.size from aG _ _ _]at c;refine⟨_,_,_,.inl ?_,c,s,r⟩;simp[execOp,d,Instr.makeMap,newObj,Sem.run,p,run_underlying e,asInt,asIntOf]
theorem P_{i y:Operand}{k:Nat}{b:AV}(M:o.op=.mapUpdate t x i y)(N:P.underlying t=some (.map kt et))(l:P.underlying kt=some (.int kk))(hx:U.ev x=.mp k)(r:S.get k=some (.mp es))(Q:qP es)(hi:U.ev i=.v (dD m))(hy:U.ev y=b):bj P Y n o U S (.v undef) (S.set k (some (.mp (DQ es m b)))):=by intro A g q w s u;have R:=u.ev x;have T:=u.ev i;have z:=u.ev y;rw[hx]at R;rw[hi]at T;rw[hy]at z;let⟨V,B⟩:=u5 R;have W:=cC T;let⟨v,C⟩:∃v,q.eval y=v:=⟨_,rfl⟩;rw[C]at z;let⟨_,_,entries,clock,p,p2,p3⟩:=s.cY k _ r B;have h:=F8 p2 p3 Q (kk:=kk) m;have GL:entries.toList.length=entries.size:=bm_;unfold DQ;cases E:nu es m with|none =>rw[E]at h;let⟨F,q1,G,J⟩:=s.FM (P:=P) r B p (entries':=entries.push {key:=dD m,val:=v,born:=clock }) (clock':=clock+1) (es':=es++[(dD m,b)]) I (λi key a hi=>by by_cases c:i<es.length;grind;rw[bu_ X]at hi;have PX:i=es.length:=I;subst PX;simp at hi;obtain⟨rfl,rfl⟩:=hi;exact⟨{key:=dD m,val:=v,born:=clock },I,rfl,z⟩);refine⟨undef,F,g,.inr ⟨?_,rfl⟩,.v,G,J⟩;simp only[execOp,M,V,W,C,Instr.mapUpdate,Sem.run_bind,run_underlying N,Result.andThen_ok,iV p,run_checkKey l,run_findKey l h,q1,Sem.run_pure]|some j =>
  let⟨a,ha⟩:=zh Q E;let⟨e,L,r2,r3⟩:=p3 j _ a ha;rw[E]at h;simp only[L,aK_]at h;have nF:j<entries.size:=(cA_.1 L).1;let⟨F,q1,G,J⟩:=s.FM (P:=P) r B p (entries':=entries.modify j λe=>{e with key:=dD m,val:=v }) (clock':=clock) (es':=es.set j (dD m,b)) I λi key a' hi=>I;refine⟨undef,F,g,.inr ⟨?_,rfl⟩,.v,G,J⟩;have eS:(Instr.keyThatStays ((entries[j]?.map (·.key)).getD (dD m)) (dD m)).run P w=.ok (dD m) w:=by rw[L];simp[Instr.keyThatStays,r2,Instr.sameBits,dD]
  simp only[execOp,M,V,W,C,Instr.mapUpdate,Sem.run_bind,run_underlying N,Result.andThen_ok,iV p,run_checkKey l,run_findKey l h,eS,q1,Sem.run_pure]
end
inductive QO where|t (n:Nat)|c (a:AV)
def QO.ev(f:Nat->AV):QO->AV|.t n=>f n|.c a=>a
def qo:Operand->QO|.tmp t=>.t t|.const v=>.c (lift v)|.global g=>.c (.v (.pointer (some ⟨g,0,none⟩)))|.func f=>.c (.v (.func (.func f) #[] #[]))
theorem aU{U:AA}(x:Operand):(qo x).ev U.tm=U.ev x:=by cases x<;>rfl
inductive LK where|agg (n:Nat)|cell
inductive SK where|str|sl (n:Nat)
inductive BK where|b|s|o|f|p
inductive n_ where|mv (x:QO)|pick (c a b:QO)|alloc (cs:List AV)|box (x:QO)|build (cs:List AV) (parts:List (Nat×Nat×QO))|rows (n:Nat) (rows:List (List AV)) (parts:List (Nat×QO))|load (k:LK) (x:QO)|store (n:Nat) (x b:QO)|bin (op:BinOp) (isB:BK) (x y:QO)|not (x:QO)|neg (x:QO)|conv (k:IntKind) (x:QO)|agy (x:QO)|Pj (off:Nat) (x:QO)|field (k:LK) (off:Nat) (x:QO)|yW (n:Nat) (x i:QO)|Lc (len n:Nat) (x i:QO)|Qi (x i:QO)|JC (len n:Nat) (k:LK) (x i:QO)|slice (k:SK) (x:QO) (lo hi mx:Option QO)|extract (x:QO) (i:Nat)|sw (z:List AV) (MB:Nat) (l c:QO)|aa6 (x:QO)|Iv (x:QO)|X6 (f:Fn) (first cap:List QO)|Pk (x:QO)|call (f:QO) (args:List QO)|len (str:Bool) (x:QO)|append (sz MB:Nat) (a b:QO)|min (x y:QO)|max (x y:QO)|avA (x:QO)|kX (x:Option QO)|look (z:AV) (c:Bool) (x i:QO)|ph (x i b:QO)|IS (x:QO)|Qw (t:Nat) (x:QO)|eqs (t:Nat) (x y:QO)|del (x i:QO)|copy (sz:Nat) (a b:QO)|Sa (z:List AV) (a:QO)|amU (a:QO)|cap (a:QO)|MP (z:List AV) (MB:Nat) (a m:QO)|mR (kt:Nat) (z:AV) (c:Bool) (x i:QO)|AT (kt:Nat) (x i b:QO)|JI (z:AV) (x i:QO)|JJ (x i b:QO)|assert (t:Nat) (c:Bool) (x:QO)
def i_(T:Tables)(t:TypeId):Option TypeDesc :=match T.info? t with|some {desc:=.named _ u,..}=>(T.info? u).map (·.desc)|some i=>some i.desc|none=>none
def agT(T:Tables)(t:TypeId):Option Bool :=match i_ T t with|some (.struct _)|some (.array _ _)=>some true|some _=>some false|none=>none
def yQ(T:Tables)(t:TypeId):Option Nat:=(T.info? t).map (·.size)
def byT(T:Tables)(t:TypeId):Option Nat:=(T.info? t).map (·.bytes)
def Jo(T:Tables)(t:TypeId):Option Value:=(T.info? t).bind (·.zero)
def Ti(T:Tables)(t:TypeId):Option TypeId:=match i_ T t with|some (.slice e)=>some e|_=>none
def plT(T:Tables)(fs:Array Field)(i:Nat):Option (Nat×Nat) :=match fs[i]? with
 |some f=>match yQ T f.type with|some n=>some (f.offset,n)|none=>none
 |none=>none
def Tk(T:Tables)(t:TypeId):Option LK:=match agT T t,yQ T t with|some true,some n=>some (.agg n)|some false,_=>some .cell|_,_=>none
theorem cN(t:TypeId):i_ P.toTables t=P.underlying t:=rfl
theorem amV(t:TypeId):agT P.toTables t=Wq P t:=rfl
theorem gH(t:TypeId):yQ P.toTables t=eL P t:=rfl
theorem qE(t:TypeId):byT P.toTables t=k_ P t:=rfl
theorem lr(t:TypeId):Jo P.toTables t=eB P t:=rfl
theorem oo(t:TypeId):Ti P.toTables t=me P t:=rfl
theorem vU(fs:Array Field):plT P.toTables fs=Pz P fs:=rfl
def xy(k:LK)(row:List AV)(j:Nat):Option AV:=match k with
 |.agg n=>match Nat.ble (j+n) row.length with|true=>some (.agg (Wr row j n))|false=>none
 |.cell=>row[j]?
theorem FX{k:LK}(h:Tk P.toTables t=some k)(row:List AV)(j:Nat):sd P t row j=xy k row j:=by unfold Tk at h;simp only[amV,gH]at h;unfold sd;split at h;rename_i n a b;cases oJ_ h;rw[a,b];rfl;rename_i a;cases oJ_ h;rw[a];rfl;grind
def xz(k:LK)(S:ah):AV->Option AV
 |.ip row=>xy k row 0|.pt b c i j=>match S.get b with
  |some (.arr a rows _ _)=>match Nat.beq c a with
   |true=>match rows[i]? with|some row=>xy k row j|none=>none
   |false=>none
  |_=>none
 |_=>none
theorem OF{k:LK}(h:Tk P.toTables t=some k)(S:ah)(a:AV):AO P S t a=xz k S a:=by unfold AO xz;simp only[FX h];rfl
def Tl(place:Nat->Option (Nat×Nat)):List (Nat×Operand)->Option (List (Nat×Nat×QO))|[]=>some []|(i,x)::FJ=>match place i with
  |some (off,size)=>match Tl place FJ with|some l=>some ((off,size,qo x)::l)|none=>none
  |none=>none
def Pl(f:Nat->AV):List AV->List (Nat×Nat×QO)->Option (List AV)|cells,[]=>some cells|cells,(off,size,x)::FJ=>match Nat.beq (bp (x.ev f)).length size&&Nat.ble (off+size) cells.length&&(bp (x.ev f)).all db with|true=>Pl f (uV cells off (bp (x.ev f))) FJ|false=>none
theorem Kp{U:AA}{place:Nat->Option (Nat×Nat)}:∀{l:List (Nat×Operand)}{a:List (Nat×Nat×QO)}{cells:List AV},Tl place l=some a ->Dy place cells (l.map λ(i,x)=>(i,U.ev x))=Pl U.tm cells a
 |[],a,cells,h=>by cases oJ_ h;rfl|(i,x)::FJ,a,cells,h=>by
  simp only[Tl]at h;split at h;rename_i off size b;split at h;rename_i l c;cases oJ_ h;simp only[aF_,Dy,b,Pl,aU];cases d:Nat.beq (bp (U.ev x)).length size&&Nat.ble (off+size) cells.length&&(bp (U.ev x)).all db with|true=>simp only[];rw[Kp c]|false=>rfl
  grind;grind
def res(T:Tables):Op->Option n_
 |.move x=>some (.mv (qo x))|.assign x=>some (.mv (qo x))|.pick c a b=>some (.pick (qo c) (qo a) (qo b))|.alloc e=>match Jo T e with|some z=>some (.alloc (z.cells.toList.map cd))|none=>none
 |.box _ x=>some (.box (qo x))|.build t parts=>match Jo T t with
  |some (.agg cs)=>match i_ T t with
   |some (.struct h)=>match h.toList.all λf=>(yQ T f.type).isSome with
    |true=>match Tl (plT T h) parts.toList with|some l=>some (.build (cs.toList.map cd) l)|none=>none
    |false=>none
   |some (.array _ e)=>match yQ T e with
    |some n=>match Tl (λi=>some (i*n,n)) parts.toList with|some l=>some (.build (cs.toList.map cd) l)|none=>none
    |none=>none
   |_=>none
  |_=>none
 |.buildSlice t len parts=>match Ti T t with
  |some e=>match Jo T e,yQ T e with
   |some z,some n=>match Nat.ble (len*n) 16777216&&Nat.beq z.cells.size n&&Nat.blt 0 n with|true=>some (.rows n (List.replicate len (z.cells.toList.map cd)) (parts.toList.map λ(i,x)=>(i,qo x)))|false=>none
   |_,_=>none
  |none=>none
 |.load t x=>match Tk T t with|some k=>some (.load k (qo x))|none=>none
 |.store t x b=>match yQ T t with|some n=>some (.store n (qo x) (qo b))|none=>none
 |.binOp op t x y _=>match i_ T t with
  |some .bool=>some (.bin op .b (qo x) (qo y))|some (.slice _)=>some (.bin op .s (qo x) (qo y))|some (.func ..)=>some (.bin op .f (qo x) (qo y))|some (.pointer _)=>some (.bin op .p (qo x) (qo y))|some (.struct _)=>match op with|.eql=>some (.eqs t (qo x) (qo y))|_=>none
  |_=>some (.bin op .o (qo x) (qo y))
 |.unOp op _ x=>match op with|.not=>some (.not (qo x))|.neg=>some (.neg (qo x))|_=>none
 |.convert src m x=>match i_ T src,i_ T m with
  |some (.int _),some (.int k)=>some (.conv k (qo x))|some .string,some .string=>some (.agy (qo x))|some (.slice e),some .string=>match i_ T e with|some (.int .u8)=>some (.avA (qo x))|_=>none
  |_,_=>none
 |.fieldAddr s x f=>match i_ T s with
  |some (.struct h)=>match h[f]? with
   |some j=>match yQ T j.type with|some (_+1)=>some (.Pj j.offset (qo x))|_=>none
   |none=>none
  |_=>none
 |.field t x f=>match i_ T t with
  |some (.struct h)=>match h[f]? with
   |some j=>match Tk T j.type with|some k=>some (.field k j.offset (qo x))|none=>none
   |none=>none
  |_=>none
 |.indexAddr t x i=>match i_ T t with
  |some (.slice e)=>match yQ T e with|some n=>some (.yW n (qo x) (qo i))|none=>none
  |some (.array len e)=>match yQ T e with|some n=>some (.Lc len n (qo x) (qo i))|none=>none
  |_=>none
 |.index t x i=>match i_ T t with
  |some .string=>some (.Qi (qo x) (qo i))|some (.array len e)=>match yQ T e,Tk T e with|some n,some k=>some (.JC len n k (qo x) (qo i))|_,_=>none
  |_=>none
 |.slice t x o p q=>match i_ T t with
  |some .string=>some (.slice .str (qo x) (o.map qo) (p.map qo) (q.map qo))|some (.slice e)=>match yQ T e with|some n=>some (.slice (.sl n) (qo x) (o.map qo) (p.map qo) (q.map qo))|none=>none
  |_=>none
 |.extract x i=>some (.extract (qo x) i)|.makeSlice t l c=>match Ti T t with
  |some e=>match Jo T e,yQ T e,byT T e with
   |some z,some d,some g=>match Nat.beq z.cells.size d&&Nat.blt 0 d with|true=>some (.sw (z.cells.toList.map cd) g (qo l) (qo c))|false=>none
   |_,_,_=>none
  |none=>none
 |.range t x=>match i_ T t with|some .string=>some (.aa6 (qo x))|_=>none
 |.next x isStr=>match isStr with|true=>some (.Iv (qo x))|false=>none
 |.makeFunc f first cap=>some (.X6 f (first.toList.map qo) (cap.toList.map qo))|.nilCheck x=>some (.Pk (qo x))|.call c=>match c.callee with
  |.value f=>some (.call (qo f) (c.args.toList.map qo))|.builtin b=>match b,c.argTypes.toList,c.args.toList with
   |.len,[t],[x]=>match i_ T t with|some (.slice _)=>some (.len false (qo x))|some .string=>some (.len true (qo x))|_=>none
   |.append,[t,t2],[a,b]=>match Ti T t,Ti T t2 with
    |some e,some _=>match Jo T e,yQ T e,byT T e with
     |some z,some d,some g=>match Nat.beq z.cells.size d&&Nat.blt 0 g with|true=>some (.append d g (qo a) (qo b))|false=>none
     |_,_,_=>none
    |some e,none=>match i_ T t2 with
     |some (.int _)=>match Jo T e,yQ T e,byT T e with
      |some z,some d,some g=>match Nat.beq z.cells.size d&&Nat.blt 0 g with|true=>some (.MP (z.cells.toList.map cd) g (qo a) (qo b))|false=>none
      |_,_,_=>none
     |_=>none
    |none,_=>none
   |.delete,[t,_],[x,i]=>match i_ T t with
    |some (.map kt _)=>match i_ T kt with|some (.int _)=>some (.del (qo x) (qo i))|_=>none
    |_=>none
   |.copy,[t,t2],[a,b]=>match Ti T t,Ti T t2 with
    |some e,some _=>match yQ T e with|some d=>some (.copy d (qo a) (qo b))|none=>none
    |_,_=>none
   |.clear,[t],[a]=>match i_ T t with
    |some (.slice e)=>match Jo T e with|some z=>some (.Sa (z.cells.toList.map cd) (qo a))|none=>none
    |some (.map _ _)=>some (.amU (qo a))|_=>none
   |.cap,[t],[a]=>match i_ T t with|some (.slice _)=>some (.cap (qo a))|_=>none
   |.min,_,[x,y]=>some (.min (qo x) (qo y))|.max,_,[x,y]=>some (.max (qo x) (qo y))|_,_,_=>none
  |.invoke _ _=>none
 |.makeMap t r=>match i_ T t with|some (.map _ _)=>some (.kX (r.map qo))|_=>none
 |.lookup t x i c=>match i_ T t with
  |some (.map kt et)=>match i_ T kt,Jo T et with|some (.int _),some z=>some (.look (lift z) c (qo x) (qo i))|some (.struct _),some z=>some (.mR kt (lift z) c (qo x) (qo i))|some .string,some z=>some (.mR kt (lift z) c (qo x) (qo i))|_,_=>none
  |_=>none
 |.mapUpdate t x i y=>match i_ T t with
  |some (.map kt _)=>match i_ T kt with|some (.int _)=>some (.ph (qo x) (qo i) (qo y))|some (.struct _)=>some (.AT kt (qo x) (qo i) (qo y))|some .string=>some (.AT kt (qo x) (qo i) (qo y))|_=>none
  |_=>none
 |.mapEntry t x i=>match i_ T t with
  |some (.map kt et)=>match i_ T kt,Jo T et with|some (.int _),some z=>some (.JI (lift z) (qo x) (qo i))|_,_=>none
  |_=>none
 |.entryStore t x i y=>match i_ T t with
  |some (.map kt _)=>match i_ T kt with|some (.int _)=>some (.JJ (qo x) (qo i) (qo y))|_=>none
  |_=>none
 |.typeAssert x _ t c=>match i_ T t with|some (.interface _)=>none|some _=>some (.assert t c (qo x))|none=>none
 |.panic x=>some (.IS (qo x))|.makeInterface t x=>some (.Qw t (qo x))|_=>none
def oM(q:n_)(f:Nat->AV)(S:ah):Option (AV×ah) :=match q with
 |.mv x=>some (x.ev f,S)|.pick c a b=>match c.ev f with|.v (.bool true)=>some (a.ev f,S)|.v (.bool false)=>some (b.ev f,S)|_=>none
 |.alloc cs=>M7 S cs|.box x=>match(bp (x.ev f)).all db with|true=>M7 S (bp (x.ev f))|false=>none
 |.build cs parts=>match Pl f cs parts with|some l=>some (.agg l,S)|none=>none
 |.rows n rows parts=>match yR n rows (parts.map λ(i,x)=>(i,x.ev f)) with|some rows=>some (.sl true rows,S)|none=>none
 |.load k x=>match xz k S (x.ev f) with|some a=>some (a,S)|none=>none
 |.store n x b=>match b.ev f,x.ev f with
  |e,.pt k d 0 j=>match S.get k with
   |some (.arr h [row] 0 ex)=>match Nat.beq d h&&(bp e).all db&&Nat.beq n (bp e).length with
    |true=>match Nat.ble (j+(bp e).length) row.length with
     |true=>match S with|⟨g,x⟩=>some (.v undef,⟨bL g k (some (.arr d [uV row j (bp e)] 0 ex)),x⟩)
     |false=>none
    |false=>none
   |_=>none
  |_,_=>none
 |.not x=>match x.ev f with|.v (.bool true)=>some (.v (.bool false),S)|.v (.bool false)=>some (.v (.bool true),S)|_=>none
 |.Pj off x=>match x.ev f with|.ip row=>some (.ip (row.drop off),S)|.pt k d i j=>some (.pt k d i (j+off),S)|_=>none
 |.field k off x=>match x.ev f with
  |.agg l=>match xy k l off with|some a=>some (a,S)|none=>none
  |_=>none
 |.extract x i=>match x.ev f with
  |.aJ l=>match l[i]? with|some a=>some (a,S)|none=>none
  |_=>none
 |.X6 g first cap=>some (.fn g (first.map (·.ev f)) (cap.map (·.ev f)),S)|.Pk x=>match x.ev f with|.ip c=>some (.ip c,S)|.pt k d i j=>some (.pt k d i j,S)|_=>none
 |_=>none
def ad7(op:BinOp)(isB:BK):AV->AV->Option Bool
 |.v (.int k a),.v (.int c b)=>match decide (k=c) with
  |true=>match op with|.eql=>some (a==b)|.neq=>some (a !=b)|.lss=>some (decide (a<b))|.leq=>some (decide (a<=b))|.gtr=>some (decide (a>b))|.geq=>some (decide (a>=b))|_=>none
  |false=>none
 |.v (.string a),.v (.string b)=>match op with|.eql=>some (a.toList==b.toList)|.neq=>some ! a.toList==b.toList|.lss=>some (Op.bytesLess a.toList b.toList)|.leq=>some (Op.bytesLess a.toList b.toList||a.toList==b.toList)|.gtr=>some !(Op.bytesLess a.toList b.toList||a.toList==b.toList)|.geq=>some !Op.bytesLess a.toList b.toList|_=>none
 |.v (.bool a),.v (.bool b)=>match isB,op with|.b,.eql=>some (a==b)|.b,.neq=>some ! a==b|_,_=>none
 |_,_=>none
section
variable{o:Op}{q:n_}{K:AV->ah->Prop}
theorem xY(d:res P.toTables o=some q)(h:oM q U.tm S=some (r,S')):bX P Y o U S (Ct r S'):=by have e:∀{a:AV}{T:ah},some (a,T)=some (r,S')->a=r/\T=S':=λh=>I;have F:∀{q:AV×ah},some q=some (r,S')->q.1=r/\q.2=S':=λh=>I;cases o with
 |move x=>cases oJ_ d;rw[oM,aU]at h;exact e h|assign x=>cases oJ_ d;rw[oM,aU]at h;exact e h|pick c a b =>cases oJ_ d;simp only[oM,aU]at h;simp only[bX];split at h;rename_i u;rw[u];exact e h;rename_i u;rw[u];exact e h;grind|alloc t =>simp only[res,cN,gH,qE,lr,oo,vU]at d;split at d;rename_i z n;cases oJ_ d;simp only[oM]at h;simp only[bX,n];rw[M8]at h;exact F h;grind|box t x =>cases oJ_ d;simp only[oM,aU]at h;simp only[bX];split at h;rename_i g;rw[g];rw[M8]at h;exact F h;grind|build t parts =>simp only[res,cN,gH,qE,lr,oo,vU]at d;split at d;rename_i cs n;split at d;rename_i G v;split at d;rename_i J;split at d;rename_i l A;cases oJ_ d;simp only[oM]at h;simp only[bX,zw,n,v,J,Kp A];split at h;rename_i K B;simp only[B,aK_];exact e h;grind;grind;grind;rename_i le el v;split at d;rename_i m p;split at d;rename_i l A;cases oJ_ d;simp only[oM]at h;simp only[bX,zw,n,v,p,Kp A];split at h;rename_i K B;simp only[B,aK_];exact e h;grind;grind;grind;grind;grind|buildSlice t len parts =>
  simp only[res,cN,gH,qE,lr,oo,vU]at d;split at d;rename_i el L;split at d;rename_i z m n w;split at d;rename_i M;cases oJ_ d;have p:(parts.toList.map λ(i,x)=>(i,qo x)).map (λ(i,x)=>(i,QO.ev U.tm x))=parts.toList.map λ(i,x)=>(i,U.ev x):=by rw[bj_];apply aQ_;rintro⟨i,x⟩ _;simp[aU]
  simp only[oM]at h;rw[p]at h;simp only[bX,L,n,w,M];split at h;rename_i rows N;simp only[N];exact e h;grind;grind;grind;grind|load t x =>simp only[res,cN,gH,qE,lr,oo,vU]at d;split at d;rename_i k C;cases oJ_ d;simp only[oM,aU]at h;simp only[bX];split at h;rename_i z n;rw[<-OF C]at n;exact bQ.mk n (e h);grind;grind|store t x b =>
  simp only[res,cN,gH,qE,lr,oo,vU]at d;split at d;rename_i m p;cases oJ_ d;simp only[oM,aU]at h;have w:HD P S t (U.ev b) (U.ev x)=some S'/\AV.v undef=r:=by grind[HD,BP]
  simp only[bX];exact bQ.mk (Th w.1) ⟨w.2,rfl⟩;grind|unOp op t x =>simp only[res,cN,gH,qE,lr,oo,vU]at d;split at d;cases oJ_ d;simp only[oM,aU]at h;simp only[bX];split at h;rename_i u;rw[u];exact e h;rename_i u;rw[u];exact e h;grind;cases oJ_ d;cases h;grind|fieldAddr s x f =>simp only[res,cN,gH,qE,lr,oo,vU]at d;split at d;rename_i G v;split at d;rename_i Q E;split at d;rename_i m p;cases oJ_ d;simp only[oM,aU]at h;simp only[bX,v,E,p];split at h;rename_i row g;simp only[g];exact e h;rename_i k R i j g;simp only[g];exact e h;grind;grind;grind;grind|field t x f =>simp only[res,cN,gH,qE,lr,oo,vU]at d;split at d;rename_i G v;split at d;rename_i Q E;split at d;rename_i k C;cases oJ_ d;simp only[oM,aU]at h;simp only[bX,v,E];split at h;rename_i l g;simp only[g];split at h;rename_i a y;rw[<-FX C]at y;exact bQ.mk y (e h);grind;grind;grind;grind;grind|extract x i =>cases oJ_ d;simp only[oM,aU]at h;simp only[bX];split at h;rename_i l g;split at h;rename_i a y;simp only[g,y];exact e h;grind;grind|makeFunc f first cap =>cases oJ_ d;simp only[oM,bj_]at h;have p:∀l:List Operand,l.map ((·.ev U.tm)∘qo)=l.map U.ev:=λl=>aQ_ λx _=>aU x;rw[p,p]at h;exact e h|nilCheck x =>cases oJ_ d;simp only[oM,aU]at h;simp only[bX];split at h;rename_i c g;rw[g];exact e h;rename_i c g;rw[g];exact e h;grind|_ =>
  simp only[res,cN,gH,qE,lr,oo,vU]at d;repeat' split at d
  all_goals first|cases oJ_ d;cases h|cases d
end
structure Dt where F:List (Nat×Ob)W:List (Nat×Option Ob)m:Bool
def Dt.none_:Dt:=⟨[],[],false⟩
def iI(T:ah)(F:List (Nat×Ob)):Prop:=∀p∈F,T.get p.1=some p.2
def eH(G:Nat->Option Ob):List (Nat×Option Ob)->Nat->Option Ob|[]=>G|p::W=>bL (eH G W) p.1 p.2
def JX:List (Nat×Option Ob)->Bool->Nat|_::_::_::_,true=>16|_,true=>1|_,false=>0
theorem y8:JX W false=0:=by grind[JX]
def ff(T:ah)(W:List (Nat×Option Ob))(m:Bool):ah:=match T,m with|⟨G,x⟩,true=>⟨eH G W,x+JX W true⟩|⟨G,x⟩,false=>⟨eH G W,x⟩
theorem gQ{T:ah}{m:Bool}:ff T W m=⟨eH T.get W,T.nx+JX W m⟩:=by cases T;cases m;rw[y8];rfl;rfl
def Iw(l m:List Nat):Bool:=l.all λx=>m.all λy=>!Nat.beq x y
theorem Kq{l m:List Nat}(h:Iw l m=true){x y:Nat}(a:x∈l)(b:y∈m):x≠y:=by intro e;subst e;have:=aY_.1 (aY_.1 h x a) x b;rw[bD_]at this;cases this
def dj(x y:List Nat×List Nat×Bool):Bool:=Iw x.2.1 y.1&&Iw x.2.1 y.2.1&&Iw x.1 y.2.1 &&!(x.2.2&&y.2.2)
def Dt.ns(d:Dt):List Nat×List Nat×Bool:=(d.F.map (·.1),d.W.map (·.1),d.m)
theorem qh{G:Nat->Option Ob}:∀{W:List (Nat×Option Ob)}{k:Nat},k∉W.map (·.1)->eH G W k=G k|[],_,_=>rfl|p::W,k,h=>by simp only[aF_,ae_,not_or]at h;rw[eH,aP _ _ h.1,qh h.2]
theorem aa7{G:Nat->Option Ob}{V:List (Nat×Option Ob)}(h:∀x∈W.map (·.1),∀y∈V.map (·.1),x≠y):eH (eH G W) V=eH (eH G V) W:=by
 have key:∀{G a:Nat->Option Ob}{W:List (Nat×Option Ob)}{k:Nat},k∈W.map (·.1)->eH G W k=eH a W k:=by intro G a W k;induction W with|nil=>intro h;cases h|cons p W b =>intro h;by_cases e:k=p.1;subst e;rw[eH,eH,aG,aG];rw[eH,eH,aP _ _ e,aP _ _ e];exact b ((ae_.1 h).resolve_left e)
 funext k;by_cases c:k∈V.map (·.1);grind[qh];grind[qh]
section
variable{Mz:Array Oper}{zzD:Nat->Dt}
def sV:Op->Bool|.buildSlice ..=>false|o=>qv o
theorem Cu{o:Op}(h:qv o=false):sV o=false:=by cases o<;>first|rfl|exact h
def xS(P:Program)(Y:World)(n:Nat)(Mz:Array Oper)(B:Nat)(i:Nat)(d:Dt)(U:AA)(S:ah)(α1:AA)(S1:ah):Prop :=∃o,Mz[i]?=some o/\(match o.dst with|some d=>Nat.blt d n|none=>true)=true/\(sV o.op=true->d=.none_)/\B<=S.nx/\iI S d.F/\S1=ff S d.W d.m /\((∃(j:Nat) (a:Bool) (b:Option Bool),o.guard=some (j,a)/\xl Mz U j=some b/\b≠some a/\α1=U.put o.dst (.v undef)/\d=.none_) \/(o.guard=none\/∃j a,o.guard=some (j,a)/\xl Mz U j=some (some a))/\∃r,α1=U.put o.dst r/\∀T,B<=T.nx->iI T d.F->(d.m=true->T.nx=S.nx)->jV P Y n o (U.only (dW o)) T r (ff T d.W d.m))
theorem lV:ff S [] false=S:=by cases S;rfl
theorem xS.shape{d:Dt}(h:xS P Y n Mz B i d U S α1 S1):∃o a,Mz[i]?=some o/\α1=U.put o.dst a/\iI S d.F/\S1=ff S d.W d.m/\B<=S.nx:=by let⟨o,e,_,_,f,g,k,h⟩:=h;rcases h with⟨j,l,b,c,m,p,rfl,_⟩|⟨c,r,rfl,_⟩;grind;grind
theorem xS.anyS{d:Dt}{T:ah}(h:xS P Y n Mz B i d U S α1 S1)(a:B<=T.nx)(b:iI T d.F)(g:d.m=true->T.nx=S.nx):xS P Y n Mz B i d U T α1 (ff T d.W d.m):=by let⟨o,c,e,f,_,j,k,h⟩:=h;refine⟨o,c,e,f,a,b,rfl,?_⟩;rcases h with h|⟨l,r,m,p⟩;grind;grind
theorem xS.frame{m:Dt}{a:AV}(h:xS P Y n Mz B i m U S α1 S1)(k:∀o,Mz[i]?=some o->∀e,d=some e->e∉o.looksAt Mz/\o.dst≠some e):xS P Y n Mz B i m (U.put d a) S (α1.put d a) S1:=by
 let⟨o,f,q,s,u,v,w,h⟩:=h;have E:∀e,d=some e->e∉dW o:=λe l y=>(k o f e l).1 (BD y);have F:∀j g,o.guard=some (j,g)->∀e,d=some e->Mz[j]?.bind (·.dst)≠some e:=by intro j g c e l p;refine(k o f e l).1 (aN_.2 (.inr ?_));rw[c];simp only;rw[p];simp
 have z:∀x,(U.put o.dst x).put d a=(U.put d a).put o.dst x:=λx=>(put_comm λt A e=>(k o f t A).2 e).symm;refine⟨o,f,q,s,u,v,w,?_⟩;rcases h with⟨j,g,b,c,C,G,rfl,J⟩|⟨c,r,rfl,p⟩;grind[xT];refine .inr ⟨?_,r,z _,by grind[Ey]⟩;rcases c with c|⟨j,g,c,C⟩;grind;grind[xT]
theorem xS.swap{j:Nat}{g f:Dt}{w A:Oper}{K:AA}{L:ah}(hi:Mz[i]?=some w)(hj:Mz[j]?=some A)(oP:w.apart Mz A=true)(M:dj g.ns f.ns=true)(h:xS P Y n Mz B i g U S α1 S1)(k:xS P Y n Mz B j f α1 S1 K L):∃N Q,xS P Y n Mz B j f U S N Q/\xS P Y n Mz B i g N Q K L:=by
 let⟨R,e2,e3⟩:=Oper.apart_spec oP;obtain⟨l,a,mf,rfl,pV,rfl,C⟩:=h.shape;obtain rfl:l=w:=I;obtain⟨t,b,nF,rfl,Zk,rfl,hBj⟩:=k.shape;obtain rfl:t=A:=I;simp only[dj,Dt.ns,as_,cg_,dt_]at M;let⟨⟨⟨d1,d2⟩,d3⟩,d4⟩:=M;have Nx:iI S f.F:=λp m=>by have:=Zk p m;rw[gQ]at this;rw[<-this];exact(qh λv=>Kq d1 v (aB_.2 ⟨p,m,rfl⟩) rfl).symm
 have E:iI (ff S f.W f.m) g.F:=λp m=>by rw[<-pV p m,gQ];exact qh λv=>Kq d3 (aB_.2 ⟨p,m,rfl⟩) v rfl
 have F:ff (ff S f.W f.m) g.W g.m=ff (ff S g.W g.m) f.W f.m:=by grind[gQ,aa7,Kq]
 have kj:xS P Y n Mz B j f U S (U.put t.dst b) (ff S f.W f.m):=by
  let⟨o,T,hn,m,q0,q1,q2,hk⟩:=k;obtain rfl:o=t:=I;have h1:∀e,l.dst=some e->e∉dW o:=λe u v=>R e u (BD v);have h2:∀q G,o.guard=some (q,G)->∀e,l.dst=some e->Mz[q]?.bind (·.dst)≠some e:=by intro q G J e u s;refine R e u (aN_.2 (.inr ?_));rw[J];simp only;rw[s];simp
  have inj:∀x y:AV,(U.put l.dst a).put o.dst x=(U.put l.dst a).put o.dst y->U.put o.dst x=U.put o.dst y:=by intro x y V;cases zR:o.dst with|none=>rfl|some d =>
    rw[zR]at V;have:x=y:=by have s:=congrArg (λz:AA=>z.tm d) V;simpa[AA.put,aG] using s
    rw[this]
  refine⟨o,T,hn,m,C,Nx,rfl,?_⟩;rcases hk with⟨q,G,c,J,hy,dh,s,h4⟩|⟨J,r,s,h4⟩;grind[xT];grind[Ey,xT,gQ,y8]
 have W:=(h.anyS (by grind[gQ]) E λe=>by grind[gQ,y8]).frame (d:=t.dst) (a:=b) λo T e u=>by obtain rfl:o=l:=I;exact⟨e3 e u,λs=>e2 e s u⟩
 rw[F,show(U.put l.dst a).put t.dst b=(U.put l.dst a).put t.dst b from rfl]at W;exact⟨_,_,kj,W⟩
inductive mY(P:Program)(Y:World)(n:Nat)(Mz:Array Oper)(B:Nat)(zzD:Nat->Dt):List Nat->AA->ah->AA->ah->Prop where|nil (U:AA) (S:ah):mY P Y n Mz B zzD [] U S U S|cons {i:Nat}{FJ:List Nat}{U α1 aE:AA}{S S1 S':ah}(h:xS P Y n Mz B i (zzD i) U S α1 S1) (t:mY P Y n Mz B zzD FJ α1 S1 aE S'):mY P Y n Mz B zzD (i::FJ) U S aE S'
def okD(Mz:Array Oper)(zzD:Nat->Dt)(i j:Nat):Prop:=∃a b,Mz[i]?=some a/\Mz[j]?=some b/\a.apart Mz b=true/\dj (zzD i).ns (zzD j).ns=true
theorem mY.front{j:Nat}:∀{a b:List Nat}{U aE:AA}{S S':ah},(∀x∈a,okD Mz zzD x j)->mY P Y n Mz B zzD (a++j::b) U S aE S'->mY P Y n Mz B zzD (j::(a++b)) U S aE S'|[],b,U,aE,S,S',_,h=>h|x::a,b,U,aE,S,S',c,h=>by cases h with|@cons _ _ _ α1 _ _ S1 _ h t =>have d:=mY.front (λy o=>c y I) t;cases d with|@cons _ _ _ p _ _ q _ k t2 =>let⟨r,s,e,f,g,i⟩:=c x aB;let⟨u,v,l,m⟩:=h.swap e f g i k;exact .cons l (.cons m t2)
theorem mY.perm:∀{L C:List Nat}{U aE:AA}{S S':ah},C.Pairwise (·< ·)->L.Pairwise (λy x=>x<y->okD Mz zzD x y)->(∀x,x∈L↔x∈C)->L.Nodup->mY P Y n Mz B zzD C U S aE S'->mY P Y n Mz B zzD L U S aE S'
 |[],C,U,aE,S,S',_,_,c,_,h=>by
  have:C=[]:=by cases C with|nil=>rfl|cons x C=>have:=(c x).2 aB;cases this
  subst this;exact h|y::L,C,U,aE,S,S',f,d,c,g,h=>by obtain⟨i,j,rfl⟩:=List.append_of_mem ((c y).1 aB);rw[ch_]at d;rw[bM_]at g;rw[cT_,ch_]at f;let⟨m,⟨o,p⟩,k⟩:=f;have q:∀x∈i,x<y:=λx e=>k x e y aB;have v:∀x∈j,y<x:=o;have l:∀x,x∈L↔x∈i++j:=I;have r:=mY.front (λx e=>d.1 x ((l x).2 I) (q x e)) h;cases r with|cons s t =>refine .cons s (mY.perm (L:=L) ?_ d.2 l g.2 t);rw[cT_];exact⟨m,p,λa u b w=>k a u b I⟩
theorem mY.Sx:∀{L:List Nat}{U aE:AA}{S S':ah},mY P Y n Mz B zzD L U S aE S'->Ce P Y n Mz L U S aE S'
 |[],_,_,_,_,.nil U S=>λF m A g a w Q d l c p=>p a w g l c (Ext.refl ..)|i::FJ,U,aE,S,S',.cons (α1:=α1) (S1:=S1) h t=>by
  have u:=mY.Sx t;let⟨o,x,y,hp,G,J,z,h⟩:=h;rcases h with⟨j,K,b,k,q,M,rfl,N⟩|⟨k,r,rfl,s⟩;have e:S1=S:=by rw[z,N];exact lV
  subst e;intro F m A g a w Q d l c p;have R:¬Region.wanted o (yielded Mz a.tmps)=true:=by simp[Region.wanted,k,Av c q,M]
  simp only[wpOpsIn,x];rw[if_neg R];exact⟨λf _=>d.1 f,u F m A g _ w Q d l (sF c y .v) p⟩;intro F m A g a w Q d l c p;have T:Region.wanted o (yielded Mz a.tmps)=true:=by rcases k with k|⟨j,K,k,q⟩;simp[Region.wanted,k];simp[Region.wanted,k,Av c q]
  simp only[wpOpsIn,x];rw[if_pos T];have C:=s S G J λ_=>rfl;rw[<-z]at C;refine⟨λf _=>d.1 f,C F m A g a w _ Q d l (c.only _) λv V W hr lG E=>?_⟩;exact u F m A W _ V Q d lG (sF (c.later E.toLater) y hr) λa' qB Hj h1 h2 s=>p a' qB Hj h1 h2 (E.trans s)
def Ix(Mz:Array Oper)(m:List Nat):Nat->List (Nat×Nat)|0=>[]|y+1=>((List.range y).filter λx=>!(m.getD y 0).testBit x).map (λx=>(x,y))++Ix Mz m y
def J7(Mz:Array Oper)(i:Nat):Bool:=match Mz[i]? with|some o=>sV o.op|none=>true
def apB(Mz:Array Oper)(x y:Nat):Bool:=match Mz[x]?,Mz[y]? with|some a,some b=>a.apart Mz b|_,_=>false
def agA(Mz:Array Oper):List (Nat×Nat):=Ix Mz (beforeL [] Mz.toList) Mz.size
def Lp(Mz:Array Oper):List (Nat×Nat):=(agA Mz).filter λp=>!J7 Mz p.1 &&!J7 Mz p.2
def Il(Mz:Array Oper):Bool:=uT 0 Mz.toList&&(agA Mz).all λp=>apB Mz p.1 p.2
theorem OG{m:List Nat}:∀{k x y:Nat},y<k->x<y->(m.getD y 0).testBit x=false->(x,y)∈Ix Mz m k|0,x,y,h,_,_=>X|k+1,x,y,h,a,b=>by simp only[Ix,aN_];by_cases c:y=k;grind;exact .inr (OG X a b)
theorem aa8{y:List Nat×List Nat×Bool}:dj Dt.none_.ns y=true:=by simp[dj,Dt.none_,Dt.ns,Iw]
theorem aa9{x:List Nat×List Nat×Bool}:dj x Dt.none_.ns=true:=by simp[dj,Dt.none_,Dt.ns,Iw]
theorem mY.dat:∀{L:List Nat}{U aE:AA}{S S':ah},mY P Y n Mz B zzD L U S aE S'->∀i∈L,J7 Mz i=true->zzD i=.none_|_,_,_,_,_,.nil ..,i,a,_=>I|_,_,_,_,_,.cons h t,i,a,b=>by rcases ae_.1 a with rfl|a;let⟨o,c,_,d,_⟩:=h;simp only[J7,c]at b;exact d b;exact mY.dat t i a b
theorem ez.arh{rd:Bool}{id:Nat}(u:P.follows .mixedOrders=true)(q:Il Mz=true)(v:∀p∈Lp Mz,dj (zzD p.1).ns (zzD p.2).ns=true)(h:mY P Y n Mz B zzD (List.range Mz.size) U S aE S'):ez P Y rd n (.region id Mz true) U S .normal aE S':=by
 intro F m A g a w z hR C E;simp only[Il,as_]at q;let⟨G,J⟩:=q;refine wpIn_region_draw λt=>?_;simp only[Region.schedule,u,cz_,if_true];have K:Iu Mz (Array.replicate Mz.size false):=⟨aB,λy x b=>by simp only[bd_,cU_]at b;split at b<;>simp at b⟩;let⟨f1,f2,f3,f4⟩:=BO G Mz.size t _ K;have e:∀x,x∈Region.linearise .any Mz t↔x∈List.range Mz.size:=by
  intro x;refine⟨λd=>by simpa using(f1 x d).1,λd=>?_⟩;have d:x<Mz.size:=I;by_cases c:x∈Region.linearise .any Mz t;grind;exfalso;have L:=f4 ⟨x,d,by simp[bd_,cU_,d],c⟩;have M:(x::Region.linearise.go .any Mz Mz.size t (Array.replicate Mz.size false) []).Nodup:=by rw[bM_];exact⟨c,f2⟩
  have N:=OE (x::Region.linearise.go .any Mz Mz.size t (Array.replicate Mz.size false) []) M Mz.size λy b=>I;rw[aC_,L]at N;omega
 have Q:(Region.linearise .any Mz t).Pairwise λy x=>x<y->okD Mz zzD x y:=by
  refine dK_ ?_ f3;intro y x b d R T;have r:=OG (Mz:=Mz) (f1 y b).1 T R;have f:=aY_.1 J _ r;unfold apB at f;split at f;rename_i V W hi hj;refine⟨V,W,hi,hj,f,?_⟩;have i:x∈List.range Mz.size:=(e x).1 d;have j:y∈List.range Mz.size:=(e y).1 b;cases k:J7 Mz x with|true=>rw[h.dat x i k];exact aa8|false =>cases l:J7 Mz y with|true=>rw[h.dat y j l];exact aa9|false=>exact v (x,y) (bS_.2 ⟨r,I⟩)
  grind
 have hC:(List.range Mz.size).Pairwise (·< ·):=dL_;let⟨s,o⟩:=C.drew;have o:St Y A g S {w with drawn:=w.drawn+1 }:=o;refine(mY.perm hC Q e f2 h).Sx F m A g a _ _ z o (E.later s.toLater) λa' w' g' h1 h2 h3=>⟨rfl,g',h1,h2,s.trans h3⟩
end
def bm(P:Program)(Y:World)(B:Nat)(q:n_)(U:AA)(S:ah)(r:AV)(d:Dt):Prop :=∀(n:Nat)(o:Oper),res P.toTables o.op=some q->(sV o.op=true->d=.none_)/\iI S d.F/\∀T,B<=T.nx->iI T d.F->(d.m=true->T.nx=S.nx)->jV P Y n o (U.only (dW o)) T r (ff T d.W d.m)
def X7:n_->Bool|.mv _|.pick ..|.build ..|.rows ..|.not _|.Pj ..|.field ..|.extract ..|.X6 ..|.Pk _=>true|_=>false
def dq(q:n_)(f:Nat->AV)(S:ah)(rs:List Nat):Option (AV×Dt×List Nat) :=match q with
 |.load k x=>match x.ev f with
  |.ip row=>match xy k row 0 with|some a=>some (a,⟨[],[],false⟩,rs)|none=>none
  |.pt b d i j=>match S.get b with
   |some (.arr c rows fz ex)=>match xz k S (.pt b d i j) with|some a=>some (a,⟨[(b,.arr c rows fz ex)],[],false⟩,rs)|none=>none
   |_=>none
  |_=>none
 |.store n x b=>match b.ev f,x.ev f with
  |e,.pt k d 0 j=>match S.get k with
   |some (.arr c [row] 0 ex)=>match Nat.beq d c&&(bp e).all db&&Nat.beq n (bp e).length with
    |true=>match Nat.ble (j+(bp e).length) row.length with|true=>some (.v undef,⟨[(k,.arr c [row] 0 ex)],[(k,some (.arr d [uV row j (bp e)] 0 ex))],false⟩,rs)|false=>none
    |false=>none
   |_=>none
  |_,_=>none
 |.alloc cs=>match rs with
  |k::rs=>match S.get k with|some .un=>some (.pt k cs.length 0 0,⟨[(k,.un)],[(k,some (.arr cs.length [cs] 0 true))],false⟩,rs)|_=>none
  |[]=>none
 |.box x=>match(bp (x.ev f)).all db with|true=>some (.pt S.nx (bp (x.ev f)).length 0 0,⟨[],[(S.nx,some (.arr (bp (x.ev f)).length [bp (x.ev f)] 0 true))],true⟩,rs)|false=>none
 |.call ..=>none|q=>match X7 q with
  |true=>match oM q f S with|some (r,_)=>some (r,⟨[],[],false⟩,rs)|none=>none
  |false=>none
section
variable{o:Oper}{q:n_}{d:Dt}
theorem ad8(d:X7 q=true)(h:oM q f S=some (r,S'))(T:ah):oM q f T=some (r,T):=by
 have e:∀{a:AV}{b c:ah},some (a,b)=some (r,c)->a=r:=λh=>I;cases q<;>first|exfalso;cases d;done|skip
 all_goals
  simp only[oM]at h⊢;repeat' split at h
  all_goals first|cases h;done|cases e h;simp only[*];done|cases e h;rfl
theorem bm.Np(h1:∀o,res P.toTables o=some q->sV o=true->d=.none_)(h2:iI S d.F)(h:∀T,iI T d.F->(d.m=true->T.nx=S.nx)->∀o,res P.toTables o=some q->bX P Y o U T (Ct r (ff T d.W d.m))):bm P Y B q U S r d:=by intro n o a;refine⟨h1 _ a,h2,λT _ b c=>?_⟩;obtain⟨f,S1,e,rfl,rfl⟩:=qq (n:=n) (h T b c o.op a);exact e
theorem Uk{e:TypeId}{k:Nat}(v:o.op=.alloc e)(x:eB P e=some z)(y:S.get k=some .un)(B:k<S.nx):bj P Y n o U S (.pt k (z.cells.toList.map cd).length 0 0) (S.set k (some (.arr (z.cells.toList.map cd).length [z.cells.toList.map cd] 0 true))):=by
 intro A g a w f L;let⟨cs,C⟩:∃cs,z.cells.toList.map cd=cs:=⟨_,rfl⟩;have m:=tQ.cd (g:=g) (w:=w) z.cells;rw[C]at m⊢;have r:¬g.al k:=λh=>(f.cY k _ y h).2.2;have E:St Y A g (S.set k (some (.arr cs.length [cs] 0 true))) w:=f.forget (aa_ _) λj p b s=>by have b:bL S.get k (some (.arr cs.length [cs] 0 true)) j=some p:=b;rwa[aP _ _ λe=>r I]at b
 let⟨F,G⟩:=E.newAt (.cells z.cells e) r B 1 (λJ c=>by have c:bL S.get k (some (.arr cs.length [cs] 0 true)) k=some (.fo J):=c;rw[aG]at c;cases c) (λob d K=>by
  have d:bL S.get k (some (.arr cs.length [cs] 0 true)) k=some ob:=d;rw[aG]at d;cases oJ_ d;refine⟨z.cells,e,ep,I,aB,λ_=>rfl,λi row l=>?_,aE_ _,λq=>⟨λt=>?_,λt=>I⟩⟩;cases i with|succ i=>simp at l|zero =>simp at l;subst l;refine⟨rfl,λj a s=>?_⟩;have b:j<z.cells.size:=I;exact⟨z.cells[j],aB,(m.2 j a _ s (aI_ b)).later K⟩
  exact absurd (f.dN _ _ t) X);have u:=aN.pt (g:=g.new k w.heap.size 1) (w:=w.alloc (.cells z.cells e)) (k:=k) (sz:=cs.length) (i:=0) (j:=0) (.inr rfl);rw[show(g.new k w.heap.size 1).ob k=w.heap.size from aG _ _ _]at u;refine⟨_,_,_,.inl ?_,by simpa using u,G,F⟩;simp[execOp,v,Instr.alloc,pP x,newVar,newRow]
theorem ad9{df:List DE}(V:∀k∈rs,k<B)(h:dq q f S rs=some (r,d,LO)):bm P Y B q ⟨f,df⟩ S r d/\∀k∈LO,k∈rs:=by
 have W:∀{T:ah},X7 q=true->(match oM q f S with|some (r,_)=>some (r,(⟨[],[],false⟩:Dt),rs)|none=>none)=some (r,d,LO)->bm P Y B q ⟨f,df⟩ S r d/\∀k∈LO,k∈rs:=by intro T s h;split at h;rename_i a C y;simp only[oI_,pI_]at h;obtain⟨rfl,rfl,rfl⟩:=h;exact⟨bm.Np (λ_ _ _=>rfl) (λp s=>I) λT _ _ o l=>by grind[ff,lV,xY,ad8],λ_ t=>t⟩;grind
 have nP:∀{A:Prop},(∀o,res P.toTables o=some q->sV o=true->A)->∀o,res P.toTables o=some q->sV o=true->A:=λh=>h;cases q with
 |load k x =>
  have E:∀o,res P.toTables o=some (.load k x)->sV o=true->d=.none_:=λo l s=>by cases o<;>simp only[res]at l<;>(repeat' split at l)<;>(try cases l)<;>cases s
  have fin:∀{a:AV}{F:List (Nat×Ob)},(∀T,iI T F->xz k T (x.ev f)=some a)->iI S F->some (a,(⟨F,[],false⟩:Dt),rs)=some (r,d,LO)->bm P Y B (.load k x) ⟨f,df⟩ S r d/\∀k∈LO,k∈rs:=by intro a F h1 h2 h;simp only[oI_,pI_]at h;obtain⟨rfl,rfl,rfl⟩:=h;refine⟨bm.Np E h2 λT u _ o l=>?_,λ_ t=>t⟩;rw[show ff T [] false=T from lV];exact xY (U:=⟨f,df⟩) l (by grind[oM])
  simp only[dq]at h;split at h;rename_i row y;split at h;rename_i a K;exact fin (λT _=>by rw[y];exact K) (λp s=>I) h;grind;rename_i b sz i j y;split at h;rename_i v rows fz ex M;split at h;rename_i a K;refine fin (λT u=>?_) (λp s=>I) h;have tg:T.get b=some (.arr v rows fz ex):=u (b,_) aB;rw[y];simp only[xz,M,tg]at K⊢;exact K;grind;grind;grind|store m x b =>
  have E:∀o,res P.toTables o=some (.store m x b)->sV o=true->d=.none_:=λo l s=>by cases o<;>simp only[res]at l<;>(repeat' split at l)<;>(try cases l)<;>cases s
  simp only[dq]at h;split at h;rename_i bv k sz j y;split at h;rename_i v row ex t;split at h;rename_i N;split at h;rename_i hl;simp only[oI_,pI_]at h;obtain⟨rfl,rfl,rfl⟩:=h;refine⟨bm.Np E (λp s=>I) λT u _ o l=>?_,λ_ t=>t⟩;refine xY (U:=⟨f,df⟩) l ?_;let⟨G,C⟩:=T;have R:G k=some (.arr v [row] 0 ex):=u (k,_) aB;simp only[oM,y,R,N,hl,ff,eH];grind;grind;grind;grind|alloc cs =>
  simp only[dq]at h;split at h
  ·rename_i k rs1;split at h
   ·rename_i t;simp only[oI_,pI_]at h;obtain⟨rfl,rfl,rfl⟩:=h;refine⟨λn o l=>⟨λs=>?_,λp s=>I,λT M u _=>?_⟩,λ_ h=>I⟩;·cases J:o.op<;>rw[J]at l s<;>simp only[res]at l<;>(repeat' split at l)<;>(try cases l)<;>cases s
    ·have R:T.get k=some .un:=u (k,_) aB;have bN:∃e z,o.op=.alloc e/\eB P e=some z/\cs=z.cells.toList.map cd:=by cases J:o.op<;>rw[J]at l<;>simp only[res,lr]at l<;>(repeat' split at l)<;>(try cases l);exact⟨_,_,rfl,I,rfl⟩
     obtain⟨e,z,J,hz,rfl⟩:=bN;have e1:ff T [(k,some (.arr (z.cells.toList.map cd).length [z.cells.toList.map cd] 0 true))] false=T.set k (some (.arr (z.cells.toList.map cd).length [z.cells.toList.map cd] 0 true)):=by cases T;rfl
     rw[e1];refineλF mm A g a w nx Q hF hS hA hn=>?_;have au:k<T.nx:=aD_ (V k aB) M;exact((Uk (P:=P) (n:=n) J hz R au).ops λc e=>I) F mm A g a w nx Q hF hS hA hn
   grind
  grind|box x =>
  have E:∀o,res P.toTables o=some (.box x)->sV o=true->d=.none_:=λo l s=>by cases o<;>simp only[res]at l<;>(repeat' split at l)<;>(try cases l)<;>cases s
  simp only[dq]at h;split at h;rename_i N;simp only[oI_,pI_]at h;obtain⟨rfl,rfl,rfl⟩:=h;refine⟨bm.Np E (λp s=>I) λT u L o l=>?_,λ_ t=>t⟩;have L:=L rfl;refine xY (U:=⟨f,df⟩) l ?_;let⟨G,C⟩:=T;simp only at L;subst L;simp only[oM,N,M8,oY,ff,eH];rfl;grind|call g aZ9=>cases h|_ =>first|exact W (T:=S) rfl h|simp only[dq,X7]at h;cases h
end
structure QI where
 d:Option Nat
 g:Option (Nat×Bool)q:n_
inductive QC where|skip|bk (dr:Bool) (l:List QI)|kL (V:List (Nat×Nat)) (l:List QI)|seq (a b:QC)|cond (x:QO) (a b:QC)|block (id:Nat) (a:QC)|scope (a:QC)|loop (a:QC)|exit (id:Nat)|ret|Sm (x:QO) (ps:List Nat) (a b:QC)|raw (c:Code)
def vN(T:Tables)(n:Nat)(Mz:List Oper):List Oper->Option (List QI)|[]=>some []|o::l=>match tG n o.dst,res T o.op,vN T n Mz l with
  |true,some q,some a=>match o.guard with|none=>some (⟨o.dst,none,q⟩::a)|some (j,b)=>match Dz Mz j with|some t=>some (⟨o.dst,some (t,b),q⟩::a)|none=>none
  |_,_,_=>none
def ad_(Mz:Array Oper):Bool:=Mz.toList.any λo=>match o.op with
 |.call c=>match c.callee,c.args.toList with|.builtin .append,.tmp t::_=>Mz.toList.any λp=>(match p.dst with|some d=>Nat.beq d t|none=>false)&&(match p.op with|.call c=>(match c.callee with|.value _=>true|_=>false)|_=>false)|_,_=>false
 |_=>false
def air(Mz:Array Oper):Bool:=Mz.toList.any λo=>match o.op with
 |.call c=>match c.callee with|.value (.tmp _)=>true|_=>false
 |_=>false
def ais(Mz:Array Oper):Bool:=LL Mz &&!(ad_ Mz||air Mz)
def arj(T:Tables)(t:TypeId):Bool:=match i_ T t with
 |some (.pointer e)=>match i_ T e with|some (.struct a)=>Nat.ble 2 (a.toList.filter λf=>match i_ T f.type with|some (.map _ _)|some (.slice _)=>true|_=>false).length|_=>false
 |_=>false
def ait(Mz:Array Oper):Bool:=Mz.toList.any λo=>match o.op with
 |.call c=>match c.callee,c.args.toList with|.value _,[.tmp t,_,.tmp u] =>(Mz.toList.any λp=>(match p.dst with|some d=>Nat.beq d t|none=>false)&&match p.op with|.call c=>(match c.callee with|.value _=>true|_=>false)|_=>false) &&Mz.toList.any λp=>(match p.dst with|some d=>Nat.beq d u|none=>false)&&(match p.op with|.buildSlice ..=>true|_=>false)|_,_=>false
 |_=>false
def aiu(Mz:Array Oper):Bool:=Mz.toList.any λo=>match o.op with
 |.call c=>match c.callee with
  |.value _=>c.args.toList.any λa=>match a with|.tmp t=>Mz.toList.any λp=>(match p.dst with|some d=>Nat.beq d t|none=>false)&&(match p.op with|.call c=>(match c.callee with|.builtin .append=>true|_=>false)|_=>false)|_=>false
  |_=>false
 |_=>false
def aea(T:Tables)(Mz:Array Oper):Bool:=ait Mz||aiu Mz||Mz.toList.any λo=>match o.op with
 |.call c=>match c.callee,c.argTypes.toList with|.value _,t::_=>arj T t|_,_=>false
 |_=>false
def Iy(T:Tables)(Mz:Array Oper):Bool:=ais Mz &&!aea T Mz
def comp(T:Tables)(n:Nat):Code->Option QC
 |.skip=>some .skip|.label _=>some .skip|.region id Mz dr=>match vN T n Mz.toList Mz.toList with
  |some l=>match dr with|false=>some (.bk false l)|true=>match Iy T Mz with|true=>some (.bk true l)|false=>some (.kL (Lp Mz) l)
  |none=>some (.raw (.region id Mz dr))
 |.seq a b=>match comp T n a,comp T n b with|some d,some e=>some (.seq d e)|_,_=>none
 |.cond c a b=>match comp T n a,comp T n b with|some d,some e=>some (.cond (qo c) d e)|_,_=>none
 |.block id a=>match comp T n a with|some d=>some (.block id d)|none=>none
 |.scope a=>match comp T n a with|some d=>some (.scope d)|none=>none
 |.loop a=>match comp T n a with|some d=>some (.loop d)|none=>none
 |.exit id=>some (.exit id)|.ret=>some .ret|.rangeFunc f g a b=>match comp T n a,comp T n b with|some d,some e=>some (.Sm (qo f) g.toList d e)|_,_=>none
 |c=>some (.raw c)
def gR(P:Program):Code->Bool|.region _ Mz true=>P.follows .mixedOrders&&(Iy P.toTables Mz||Il Mz)|.seq a b=>gR P a&&gR P b|.cond _ a b=>gR P a&&gR P b|.block _ a=>gR P a|.scope a=>gR P a|.loop a=>gR P a|.rangeFunc _ _ a b=>gR P a&&gR P b|_=>true
inductive gE where|seq (c:QC)|Bw (id:Nat)|Sn
inductive QF where|run (c:QC) (K:List gE)|out (ex:Exit) (K:List gE)|bk (dr:Bool) (l:List QI) (K:List gE)|kL (B:Nat) (V:List (Nat×Nat)) (lg:List (List Nat×List Nat×Bool)) (rs:List Nat) (l:List QI) (K:List gE)
def MW(lg:List (List Nat×List Nat×Bool))(i:Nat):List Nat×List Nat×Bool:=lg.getD i ([],[],false)
def vV:List QI->Nat->List Nat|[],_=>[]|i::l,x=>match i.q with|.alloc _=>x::vV l (x+1)|_=>vV l x
def unL(G:Nat->Option Ob):List Nat->Nat->Option Ob|[]=>G|k::ks=>bL (unL G ks) k (some .un)
def X8(S:ah)(l:List QI):ah:=match S with|⟨G,x⟩=>⟨unL G (vV l x),x+(vV l x).length⟩
def amY(V:List (Nat×Nat))(lg:List (List Nat×List Nat×Bool)):Bool:=V.all λp=>dj (MW lg p.1) (MW lg p.2)
section
variable(P:Program)(Y:World)(rd:Bool)(n:Nat)
def lI(b:QC)(Q:Exit->AA->ah->Prop)(U:AA)(S:ah):Prop:=∀c,comp P.toTables n c=some b->gR P c=true->Wp P Y rd n c Q U S
def eI(Q:Exit->AA->ah->Prop):List gE->Exit->AA->ah->Prop
 |[]=>Q|.seq b::K=>λex U S=>match ex with|.normal=>lI P Y rd n b (eI Q K) U S|e=>eI Q K e U S
 |.Bw id::K=>λex U S=>match ex with|.exit j=>(match Nat.beq j id with|true=>eI Q K .normal U S|false=>eI Q K (.exit j) U S)|e=>eI Q K e U S
 |.Sn::K=>λex U S=>match ex with|.goto _=>False|e=>eI Q K e U S
def To(Mz:Array Oper)(l:List Nat)(U:AA)(S:ah)(ch:List PanicEntry)(aE:AA)(S':ah):Prop :=∀(F:Fence)(m:Nat)(A:Nat->Prop)(g:Gh)(a:Act)(w:World)(Q:Exit->Act->World->Prop),my F->St Y A g S w->cO g w n U a ->(∀(d:Act)(b:World)(c:Gh),St Y A c S' b->cO c b n aE d->Ext A g w c b->Q (.panic ch) d b)->wpOpsIn F m P Mz Q l a w
def EJ(Mz l:List Oper)(Q:AA->ah->Prop)(E:List PanicEntry->AA->ah->Prop)(U:AA)(S:ah):Prop :=∀k,Mz.drop k=l->(∃aE S',Ce P Y n Mz.toArray (List.range' k l.length) U S aE S'/\Q aE S')\/∃ch aE S',To P Y n Mz.toArray (List.range' k l.length) U S ch aE S'/\E ch aE S'
def lD(dr:Bool)(l:List QI)(Q:AA->ah->Prop)(E:List PanicEntry->AA->ah->Prop)(U:AA)(S:ah):Prop :=∀Mz FJ,vN P.toTables n Mz FJ=some l->match dr with|false=>EJ P Y n Mz FJ Q E U S|true=>qt P Y n Mz FJ Q U S
def s9(B:Nat)(V:List (Nat×Nat))(lg:List (List Nat×List Nat×Bool))(l:List QI)(Q:AA->ah->Prop)(U:AA)(S:ah):Prop :=∀Mz:List Oper,vN P.toTables n Mz (Mz.drop lg.length)=some l->∃(zzD:Nat->Dt) (aE:AA) (S':ah),mY P Y n Mz.toArray B zzD (List.range' lg.length l.length) U S aE S'/\amY V (lg++(List.range' lg.length l.length).map λi=>(zzD i).ns)=true/\Q aE S'
def H(Q:Exit->AA->ah->Prop):QF->AA->ah->Prop|.run c K,U,S=>lI P Y rd n c (eI P Y rd n Q K) U S|.out ex K,U,S=>eI P Y rd n Q K ex U S|.bk dr l K,U,S=>lD P Y n dr l (λU S=>eI P Y rd n Q K .normal U S) (λch U S=>eI P Y rd n Q K (.panic ch) U S) U S|.kL B V lg rs l K,U,S=>(∀k∈rs,k<B)->B<=S.nx->s9 P Y n B V lg l (λU S=>eI P Y rd n Q K .normal U S) U S
def bD(f:Nat->AV):Option (Nat×Bool)->Option Bool|none=>some true|some (t,a)=>match f t with
  |.v (.bool true)=>some a|.v (.bool false)=>match a with|true=>some false|false=>some true
  |.v (.tuple _)=>some false|_=>none
def bW(d:Option Nat)(U:AA)(r:AV):AA:=match U,d with|⟨f,l⟩,some d=>⟨bL f d r,l⟩|U,none=>U
def HG:QF->AA->ah->Option (QF×AA×ah)
 |.run c K,U,S=>match c with
  |.skip=>some (.out .normal K,U,S)|.bk false l=>some (.bk false l K,U,S)|.bk true l=>some (.bk true l K,U,S)|.kL V l=>match S with|⟨G,x⟩=>some (.kL (x+(vV l x).length) V [] (vV l x) l K,U,X8 ⟨G,x⟩ l)
  |.seq a b=>some (.run a (.seq b::K),U,S)|.cond x a b=>match x.ev U.tm with|.v (.bool true)=>some (.run a K,U,S)|.v (.bool false)=>some (.run b K,U,S)|_=>none
  |.block id c=>some (.run c (.Bw id::K),U,S)|.scope c=>some (.run c (.Sn::K),U,S)|.exit id=>some (.out (.exit id) K,U,S)|.ret=>some (.out .ret K,U,S)|_=>none
 |.out ex K,U,S=>match K with
  |[]=>none|.seq b::K=>match ex with|.normal=>some (.run b K,U,S)|e=>some (.out e K,U,S)
  |.Bw id::K=>match ex with
   |.exit j=>match Nat.beq j id with|true=>some (.out .normal K,U,S)|false=>some (.out (.exit j) K,U,S)
   |e=>some (.out e K,U,S)
  |.Sn::K=>match ex with|.goto _=>none|e=>some (.out e K,U,S)
 |.bk dr l K,U,S=>match l with|[]=>some (.out .normal K,U,S)|i::l=>match bD U.tm i.g with
   |some true=>match oM i.q U.tm S with|some (r,S')=>some (.bk dr l K,bW i.d U r,S')|none=>none
   |some false=>some (.bk dr l K,bW i.d U (.v undef),S)|none=>none
 |.kL B V lg rs l K,U,S=>match l with
  |[]=>match amY V lg with|true=>some (.out .normal K,U,S)|false=>none
  |i::l=>match bD U.tm i.g with
   |some true=>match dq i.q U.tm S rs with|some (r,d,LO)=>some (.kL B V (lg++[d.ns]) LO l K,bW i.d U r,ff S d.W d.m)|none=>none
   |some false=>some (.kL B V (lg++[([],[],false)]) rs l K,bW i.d U (.v undef),S)|none=>none
end
section
variable{rd:Bool}{Q:Exit->AA->ah->Prop}{i:QI}{l:List QI}
theorem Iz{d:Option Nat}:bW d U r=AH d U r:=by cases d<;>cases U<;>rfl
theorem uP{Mz:List Oper}(h:vN P.toTables n Mz FJ=some (i::l)):∃o a,FJ=o::a/\vN P.toTables n Mz a=some l/\tG n o.dst=true/\o.dst=i.d/\res P.toTables o.op=some i.q /\∀b,bD U.tm i.g=some b->mu Mz U o=some b:=by cases FJ with|nil=>cases h|cons o a =>simp only[vN]at h;split at h;rename_i q r d e f;split at h;grind[bD,mu];rename_i j s g;split at h;rename_i t k;injection h with h;injection h with m p;subst m p;refine⟨o,a,rfl,f,d,rfl,e,λb c=>?_⟩;simp only[mu,g,ydL,k];simp only[bD]at c;split at c;grind;grind;grind;grind;grind;grind
theorem lD.nil(h:R U S):lD P Y n dr [] R E U S:=by
 intro Mz FJ a;have:FJ=[]:=by cases FJ with|nil=>rfl|cons o r =>
   simp only[vN]at a;repeat' split at a
   all_goals cases a
 subst this;cases dr with|false=>exactλk b=>.inl (HE.nil (Mz:=Mz) h k b)|true=>exact qt.nil h
def VX(P:Program)(Y:World)(n:Nat)(o:Oper)(U:AA)(S:ah)(r:AV)(S':ah):Prop :=jV P Y n o (U.only (dW o)) S r S'/\(qv o.op=true->S'=S/\∀S,jV P Y n o (U.only (dW o)) S r S)/\(Fe o.op=false->S'=S)
theorem VX.ofD(h:eM P Y o.op U S (Ct r S')):VX P Y n o U S r S':=by cases e:qv o.op with
 |true =>
  let⟨b,a,c⟩:=af1 e (Pf h);obtain⟨rfl,rfl⟩:=a;have f:∀T,jV P Y n o (U.only (dW o)) T b T:=λT=>by obtain⟨g,S',d,rfl,rfl⟩:=qq (n:=n) (c T);exact d
  exact⟨f _,λ_=>⟨rfl,f⟩,λ_=>rfl⟩|false =>cases i:Fe o.op with|false =>let⟨b,a,c⟩:=agx e i h;obtain⟨rfl,rfl⟩:=a;obtain⟨g,S',d,rfl,rfl⟩:=qq (n:=n) c;exact⟨d,λh=>I,λ_=>rfl⟩|true =>obtain⟨b,j,a,rfl,rfl⟩:=qq (n:=n) (Pf h);exact⟨a,λh=>I,λh=>I⟩
theorem qt.opG{Mz:List Oper}{Q:AA->ah->Prop}(b:tG n o.dst=true)(c:mu Mz U o=some true)(h:VX P Y n o U S r S')(k:qt P Y n Mz FJ Q (AH o.dst U r) S'):qt P Y n Mz (o::FJ) Q U S:=by intro i d;let⟨e,f⟩:=drop_cons d;let⟨aE,T,a,g⟩:=k (i+1) f;rw[zq]at a;exact⟨aE,T,.cons ⟨o,e,b,.inr ⟨vT c,r,rfl,h⟩⟩ a,g⟩
def D(P:Program)(Y:World)(dr:Bool)(q:n_)(U:AA)(S:ah)(r:AV)(S':ah):Prop :=match dr with|true=>∀(n:Nat)(o:Oper),res P.toTables o.op=some q->VX P Y n o U S r S'|false=>∀(n:Nat)(o:Oper),res P.toTables o.op=some q->jV P Y n o U S r S'
theorem jV.Np{n:Nat}(h:bX P Y o.op U S (Ct r S')):jV P Y n o U S r S':=by obtain⟨b,S1,a,rfl,rfl⟩:=Hh (n:=n) h;exact a
theorem D.run{q:n_}(h:∀(n:Nat) (o:Oper),res P.toTables o.op=some q->bj P Y n o U S r S'):D P Y false q U S r S':=λn o a=>(h n o a).ops λc e=>by rw[e]at a;cases a
theorem To.step{Mz:Array Oper}{i:Nat}{FJ:List Nat}{aE:AA}{e:ah}(hi:Mz[i]?=some o)(l:(match o.dst with|some d=>Nat.blt d n|none=>true)=true)(p:∀(g:Gh) (w:World) (a:Act),cO g w n U a->Region.wanted o (yielded Mz a.tmps)=true)(h:jV P Y n o U S r e)(k:To P Y n Mz FJ (U.put o.dst r) e ch aE S'):To P Y n Mz (i::FJ) U S ch aE S':=by intro F m A g a w Q b q c s;simp only[wpOpsIn,hi];rw[if_pos (p g w a c)];refine⟨λf _=>b.1 f,h F m A g a w _ Q b q c λv t u x y j=>?_⟩;exact k F m A u _ t Q b y (sF (c.later j.toLater) l x) λz B C E G J=>s z B C E G (j.trans J)
theorem HH{Mz:List Oper}(c:mu Mz U o=some true)(g:Gh)(w:World)(a:Act)(d:cO g w n U a):Region.wanted o (yielded Mz.toArray a.tmps)=true:=by rcases vT c with b|⟨j,f,b,e⟩;simp[Region.wanted,b];simp[Region.wanted,b,Av d e]
theorem EJ.opS{Mz:List Oper}{Q:AA->ah->Prop}(c:tG n o.dst=true)(d:mu Mz U o=some true)(h:jV P Y n o U S r S')(k:EJ P Y n Mz FJ Q E (AH o.dst U r) S'):EJ P Y n Mz (o::FJ) Q E U S:=by intro i g;let⟨e,j⟩:=drop_cons g;have f:=k (i+1) j;rw[zq]at f;exact f.imp (λ⟨aE,T,a,b⟩=>⟨aE,T,Ce.step e c (HH d) h a,b⟩) λ⟨ch,aE,T,a,b⟩=>⟨ch,aE,T,To.step e c (HH d) h a,b⟩
theorem EJ.skip{Mz:List Oper}{Q:AA->ah->Prop}(q:tG n o.dst=true)(u:mu Mz U o=some false)(k:EJ P Y n Mz FJ Q E (AH o.dst U (.v undef)) S):EJ P Y n Mz (o::FJ) Q E U S:=by
 intro i v;let⟨r,x⟩:=drop_cons v;have s:=k (i+1) x;rw[zq]at s;let⟨j,C,b,y,z,B⟩:=Jn u;have t:∀(g:Gh)(w:World)(a:Act),cO g w n U a->¬Region.wanted o (yielded Mz.toArray a.tmps)=true:=λg w a c=>by simp[Region.wanted,y,Av c z,B]
 refine s.imp (λ⟨aE,T,e,h⟩=>⟨aE,T,λF m A g a w Q d l c p=>?_,h⟩) λ⟨ch,aE,T,e,h⟩=>⟨ch,aE,T,λF m A g a w Q d l c p=>?_,h⟩;show wpOpsIn F m P Mz.toArray Q (i::List.range' (i+1) FJ.length) a w;simp only[wpOpsIn,r];rw[if_neg (t g w a c)];exact⟨λf _=>d.1 f,e F m A g _ w Q d l (sF c q .v) p⟩;show wpOpsIn F m P Mz.toArray Q (i::List.range' (i+1) FJ.length) a w;simp only[wpOpsIn,r];rw[if_neg (t g w a c)];exact⟨λf _=>d.1 f,e F m A g _ w Q d l (sF c q .v) p⟩
def avD:n_->Bool|.call ..=>true|_=>false
theorem D.of{q:n_}(d:avD q=false)(h:∀o,res P.toTables o=some q->bX P Y o U S (Ct r S')):D P Y dr q U S r S':=by cases dr with|false=>exactλn o a=>jV.Np (h o.op a)|true =>intro n o a;refine VX.ofD ?_;have b:=h o.op a;generalize o.op=op at a b;cases op with|call c =>simp only[eM];split;rename_i f e;simp only[res,e,oI_]at a;subst a;cases d;grind|_=>exact b
theorem lD.op(b:bD U.tm i.g=some true)(h:D P Y dr i.q U S r S')(k:lD P Y n dr l R E (bW i.d U r) S'):lD P Y n dr (i::l) R E U S:=by intro Mz FJ f;obtain⟨o,g,rfl,j,c,m,d,e⟩:=uP (U:=U) f;have a:=k Mz g j;rw[Iz,<-m]at a;cases dr with|false=>exact EJ.opS c (e _ b) (h n o d) a|true=>exact qt.opG c (e _ b) (h n o d) a
theorem lD.skip(b:bD U.tm i.g=some false)(k:lD P Y n dr l R E (bW i.d U (.v undef)) S):lD P Y n dr (i::l) R E U S:=by intro Mz FJ e;obtain⟨o,f,rfl,g,c,h,j,d⟩:=uP (U:=U) e;have a:=k Mz f g;rw[Iz,<-h]at a;cases dr with|false=>exact EJ.skip c (d _ b) a|true=>exact qt.skip c (d _ b) a
def OpP(P:Program)(Y:World)(n:Nat)(o:Oper)(U:AA)(S:ah)(ch:List PanicEntry)(S':ah):Prop :=∀(F:Fence)(m:Nat)(A:Nat->Prop)(g:Gh)(a:Act)(w:World)(next:Act->World->Prop)(Q:Exit->Act->World->Prop),my F->St Y A g S w->cO g w n U a ->(∀(b:World)(c:Gh),St Y A c S' b->Ext A g w c b->Q (.panic ch) a b)->o.uponIn F m P a next Q ((o.semAt F.round a.eval).run P w)
def zY(P:Program)(Y:World)(q:n_)(U:AA)(S:ah)(ch:List PanicEntry)(S':ah):Prop:=∀(n:Nat)(o:Oper),res P.toTables o.op=some q->OpP P Y n o U S ch S'
theorem lD.IS(e:bD U.tm i.g=some true)(h:zY P Y i.q U S ch S')(k:E ch U S'):lD P Y n false (i::l) R E U S:=by intro Mz FJ p;obtain⟨o,q,rfl,B,C,G,r,s⟩:=uP (U:=U) p;intro j t;let⟨u,J⟩:=drop_cons t;refine .inr ⟨ch,U,S',λF m A g a w Q c v b x=>?_,k⟩;show wpOpsIn F m P Mz.toArray Q (j::List.range' (j+1) q.length) a w;simp only[wpOpsIn,u];rw[if_pos (HH (s _ e) g w a b)];exact⟨λf _=>c.1 f,h n o r F m A g a w _ Q c v b λy z q1 d=>x a y z q1 (b.later d.toLater) d⟩
theorem D.quiet{q:n_}(h:oM q U.tm S=some (r,S')):D P Y dr q U S r S':=by refine D.of ?_ λo a=>xY a h;cases q<;>first|rfl|cases h
theorem Tp(h:comp P.toTables n c=some (.bk dr l)):∃id Mz,c=.region id Mz dr/\vN P.toTables n Mz.toList Mz.toList=some l/\(dr=true->Iy P.toTables Mz=true):=by cases c<;>simp only[comp]at h<;>(repeat' split at h)<;>(try cases h);grind;grind
theorem aeb(h:comp P.toTables n c=some (.kL V l)):∃id Mz,c=.region id Mz true/\vN P.toTables n Mz.toList Mz.toList=some l/\Iy P.toTables Mz=false/\V=Lp Mz:=by cases c<;>simp only[comp]at h<;>(repeat' split at h)<;>(try cases h);grind
theorem aec{a b:QC}(h:comp P.toTables n c=some (.seq a b)):∃d c2,c=.seq d c2/\comp P.toTables n d=some a/\comp P.toTables n c2=some b:=by cases c<;>simp only[comp]at h<;>(repeat' split at h)<;>(try cases h);grind
theorem aba{x:QO}{a b:QC}(h:comp P.toTables n c=some (.cond x a b)):∃y d c2,c=.cond y d c2/\qo y=x/\comp P.toTables n d=some a/\comp P.toTables n c2=some b:=by cases c<;>simp only[comp]at h<;>(repeat' split at h)<;>(try cases h);grind
theorem X9{id:Nat}{a:QC}(h:comp P.toTables n c=some (.block id a)):∃b,c=.block id b/\comp P.toTables n b=some a:=by cases c<;>simp only[comp]at h<;>(repeat' split at h)<;>(try cases h);grind
theorem X_{a:QC}(h:comp P.toTables n c=some (.scope a)):∃b,c=.scope b/\comp P.toTables n b=some a:=by cases c<;>simp only[comp]at h<;>(repeat' split at h)<;>(try cases h);grind
theorem NJ{a:QC}(h:comp P.toTables n c=some (.loop a)):∃b,c=.loop b/\comp P.toTables n b=some a:=by cases c<;>simp only[comp]at h<;>(repeat' split at h)<;>(try cases h);grind
theorem abb{x:QO}{ps:List Nat}{a b:QC}(h:comp P.toTables n c=some (.Sm x ps a b)):∃y pt d c2,c=.rangeFunc y pt d c2/\qo y=x/\pt.toList=ps/\comp P.toTables n d=some a/\comp P.toTables n c2=some b:=by cases c<;>simp only[comp]at h<;>(repeat' split at h)<;>(try cases h);grind
theorem ac2{d:Code}(h:comp P.toTables n c=some (.raw d)):c=d:=by cases c<;>simp only[comp]at h<;>(repeat' split at h)<;>(try cases h)<;>rfl
theorem zc:(comp P.toTables n c=some .skip->SkC c)/\(comp P.toTables n c=some .ret->c=.ret)/\∀id,comp P.toTables n c=some (.exit id)->c=.exit id:=by refine⟨λh=>?_,λh=>?_,λid h=>?_⟩;all_goals cases c<;>simp only[comp]at h<;>(repeat' split at h)<;>(try cases h)<;>first|rfl|exact .inl rfl|exact .inr ⟨_,rfl⟩
theorem ark:U.ev x=(qo x).ev U.tm:=(aU x).symm
theorem lI.seq{a b:QC}(h:lI P Y rd n a (λex U S=>match ex with|.normal=>lI P Y rd n b Q U S|e=>Q e U S) U S):lI P Y rd n (.seq a b) Q U S:=by intro c g d;obtain⟨i,j,rfl,k,l⟩:=aec g;simp only[gR,as_]at d;refine Wp.seq ?_;let⟨ex,m,o,p,f⟩:=h i k d.1;refine⟨ex,m,o,p,?_⟩;cases ex with|normal=>exact f j l d.2|_=>exact f
theorem lI.cond{x:QO}{a b:QC}{t:Bool}(e:x.ev U.tm=.v (.bool t))(h:lI P Y rd n (if t then a else b) Q U S):lI P Y rd n (.cond x a b) Q U S:=by intro c f d;obtain⟨y,g,i,rfl,rfl,j,k⟩:=aba f;simp only[gR,as_]at d;refine Wp.cond (by rw[ark];exact e) ?_;cases t with|true=>exact h g j d.1|false=>exact h i k d.2
theorem lI.block{id:Nat}{a:QC}(h:lI P Y rd n a (λex U S=>match ex with|.exit j=>(match Nat.beq j id with|true=>Q .normal U S|false=>Q (.exit j) U S)|e=>Q e U S) U S):lI P Y rd n (.block id a) Q U S:=by intro c b d;obtain⟨f,rfl,g⟩:=X9 b;exact Wp.block (h f g d)
theorem lI.scope{a:QC}(h:lI P Y rd n a (λex U S=>match ex with|.goto _=>False|e=>Q e U S) U S):lI P Y rd n (.scope a) Q U S:=by intro c d f;obtain⟨g,rfl,i⟩:=X_ d;let⟨ex,j,k,m,b⟩:=h g i f;cases ex with|goto l=>exact b.elim|_=>exact⟨_,j,k,ez.scope m λl e=>I,b⟩
theorem lI.bk(h:lD P Y n dr l (λU S=>Q .normal U S) (λch U S=>Q (.panic ch) U S) U S):lI P Y rd n (.bk dr l) Q U S:=by intro c i e;obtain⟨id,Mz,rfl,j,k⟩:=Tp i;have f:=h _ _ j;cases dr with|false =>rcases f 0 rfl with⟨aE,S',b,d⟩|⟨ch,aE,S',b,d⟩;rw[bm_,<-ci_]at b;exact⟨_,aE,S',ez.region b,d⟩;rw[bm_,<-ci_]at b;exact⟨.panic ch,aE,S',λF m A g a w o u p q=>wpIn_region (b F m A g a w _ o p q λv x r q1 s t=>⟨rfl,r,q1,s,t⟩),d⟩|true=>exact qt.wp (by simp only[gR,as_]at e;simp only[as_];exact⟨e.1,((as_ _ _).mp ((as_ _ _).mp (k rfl)).1).1⟩) f
theorem OH{G:Nat->Option Ob}:∀{ks:List Nat}{k:Nat},k∉ks->unL G ks k=G k|[],_,_=>rfl|p::ks,k,h=>by simp only[ae_,not_or]at h;rw[unL,aP _ _ h.1,OH h.2]
theorem EK:∀{l:List QI}{x k:Nat},k∈vV l x->x<=k/\k<x+(vV l x).length|[],x,k,h=>by cases h|i::l,x,k,h=>by simp only[vV]at h⊢;split at h;rename_i e;simp only[e,aC_];rcases ae_.1 h with rfl|h;omega;have:=EK h;omega;rename_i e;exact EK h
theorem St.rsv(b:St Y A g S w)(l:List QI):St Y A g (X8 S l) w:=by let⟨G,x⟩:=S;refine b.forget (Nat.le_add_right _ _) λk o a d=>?_;have c:=b.al k d;have c:k<x:=c;have a:unL G (vV l x) k=some o:=a;rwa[OH λe=>by have:=(EK e).1;omega]at a
theorem lI.kL(h:(∀k∈vV l S.nx,k<S.nx+(vV l S.nx).length)->S.nx+(vV l S.nx).length<=(X8 S l).nx->s9 P Y n (S.nx+(vV l S.nx).length) V [] l (λU S=>Q .normal U S) U (X8 S l)):lI P Y rd n (.kL V l) Q U S:=by
 intro c v d;obtain⟨id,Mz,rfl,r,y,rfl⟩:=aeb v;simp only[gR,as_,cf_,y,bw_,false_or]at d;have z:l.length=Mz.size:=by
  have key:∀(Mz FJ:List Oper)(l:List QI),vN P.toTables n Mz FJ=some l->l.length=FJ.length:=by intro Mz FJ;induction FJ with|nil=>intro l h;cases oJ_ h;rfl|cons o FJ s =>intro l h;cases l with|nil =>exfalso;simp only[vN]at h;split at h;grind;grind|cons i l =>let⟨W,se,e,b,_⟩:=uP (U:=U) h;injection e with B C;subst B C;simp[s _ b]
  rw[key _ _ _ r];simp
 let⟨zzD,aE,S',b,f,E⟩:=h (λk G=>(EK G).2) (by cases S;exact aa_ _) Mz.toList r;simp only[bg_,z,aL_]at b f;rw[<-ci_]at b f;refine⟨.normal,aE,S',λF m A g a w J K L M=>?_,E⟩;refine ez.arh d.1 d.2 (λp t=>?_) b F m A g a w J K (L.rsv l) M;have u:=aY_.1 f p t;have N:=(bS_.1 t).1;have j:∀{m:List Nat}{k:Nat}{q:Nat×Nat},q∈Ix Mz m k->q.1<k/\q.2<k:=by intro m k q;induction k with|zero=>intro h;cases h|succ k s =>intro h;simp only[Ix,aN_,aB_,bS_,aU_]at h;rcases h with⟨x,⟨hx,_⟩,rfl⟩|h;grind;grind
 let⟨R,T⟩:=j N;have get:∀i,i<Mz.size->MW ((List.range Mz.size).map λi=>(zzD i).ns) i=(zzD i).ns:=λi hi=>by grind[MW]
 rw[get _ R,get _ T]at u;exact u
def mY.congr{Mz:Array Oper}{zzD a:Nat->Dt}:∀{L:List Nat}{U aE:AA}{S S':ah},(∀i∈L,zzD i=a i)->mY P Y n Mz B zzD L U S aE S'->mY P Y n Mz B a L U S aE S'|[],_,_,_,_,_,.nil ..=>.nil ..|i::FJ,_,_,_,_,b,.cons h t=>.cons I (t.congr λj c=>b j I)
def BC{Mz:List Oper}{k:Nat}(h:Mz.drop k=o::FJ):Mz.toArray[k]?=some o/\Mz.drop (k+1)=FJ:=drop_cons h
theorem s9.step{lg:List (List Nat×List Nat×Bool)}{d:Dt}{R:AA->ah->Prop}(j:∀Mz o FJ,Mz.drop lg.length=o::FJ->tG n o.dst=true->o.dst=i.d->res P.toTables o.op=some i.q->(∀b,bD U.tm i.g=some b->mu Mz U o=some b)->xS P Y n Mz.toArray B lg.length d U S α1 S1)(k:s9 P Y n B V (lg++[d.ns]) l R α1 S1):s9 P Y n B V lg (i::l) R U S:=by intro Mz g;let⟨o,FJ,h,m,p,q,r,s⟩:=uP (U:=U) g;let⟨t,u⟩:=BC h;let⟨zzD,aE,S',c,a,k3⟩:=k Mz I;simp only[ar_,be_]at c a;refine⟨λi=>if i=lg.length then d else zzD i,aE,S',?_,?_,k3⟩;rw[aC_,cV_];refine .cons I (c.congr λi f=>?_);have:=(List.mem_range'_1.1 f).1;rw[if_neg X];rw[aC_,cV_,aF_];simp only[if_pos];have e:((List.range' (lg.length+1) l.length).map λi=>(if i=lg.length then d else zzD i).ns)=(List.range' (lg.length+1) l.length).map λi=>(zzD i).ns:=aQ_ λi f=>I;rw[e];rw[bn_]at a;exact a
theorem agB{Mz:List Oper}{b:Bool}(h:mu Mz U o=some b):(b=true->o.guard=none\/∃j a,o.guard=some (j,a)/\xl Mz.toArray U j=some (some a))/\(b=false->∃j a c,o.guard=some (j,a)/\xl Mz.toArray U j=some c/\c≠some a):=by
 refine⟨λe=>vT I,λe=>?_⟩;subst e;unfold mu at h;split at h;grind;rename_i j a f;split at h;rename_i d;have:=oJ_ h;subst this;exact⟨j,false,some true,f,by rw[<-FA];exact d,aB⟩;rename_i d;have:=oJ_ h;cases a with|true=>exact⟨j,true,some false,f,by rw[<-FA];exact d,aB⟩|false=>simp at this
 rename_i d;exact⟨j,a,none,f,by rw[<-FA];exact d,aB⟩;grind
theorem s9.op{lg:List (List Nat×List Nat×Bool)}{d:Dt}{R:AA->ah->Prop}(a:B<=S.nx)(b:bD U.tm i.g=some true)(h:bm P Y B i.q U S r d)(k:s9 P Y n B V (lg++[d.ns]) l R (bW i.d U r) (ff S d.W d.m)):s9 P Y n B V lg (i::l) R U S:=by refine s9.step (λMz o FJ c e f g j=>?_) k;let⟨m,p,k3⟩:=h n o g;exact⟨o,(BC c).1,e,m,a,p,rfl,.inr ⟨(agB (j _ b)).1 rfl,r,by rw[Iz,<-f];cases o.dst<;>rfl,λT q s t=>k3 T q s t⟩⟩
theorem s9.skip{lg:List (List Nat×List Nat×Bool)}{R:AA->ah->Prop}(a:B<=S.nx)(b:bD U.tm i.g=some false)(k:s9 P Y n B V (lg++[([],[],false)]) l R (bW i.d U (.v undef)) S):s9 P Y n B V lg (i::l) R U S:=by refine s9.step (d:=.none_) (λMz o FJ e f g t h=>?_) k;let⟨j,m,c,q,r,s⟩:=(agB (h _ b)).2 rfl;exact⟨o,(BC e).1,f,λ_=>rfl,a,show iI S [] fromλp u=>I,lV.symm,.inl ⟨j,m,c,q,r,s,by rw[Iz,<-g];cases o.dst<;>rfl,rfl⟩⟩
def lI.done{a:QC}(b:∀c,comp P.toTables n c=some a->Wp P Y rd n c Q U S):lI P Y rd n a Q U S:=λc d _=>b c d
theorem abc{m o:QF}(h:HG m U S=some (o,aE,S'))(k:H P Y rd n Q o aE S'):H P Y rd n Q m U S:=by have e:∀{x:QF}{y:AA}{z:ah},some (x,y,z)=some (o,aE,S')->H P Y rd n Q x y z:=λh=>I;cases m with
 |run c K =>
  simp only[HG]at h;split at h;exact lI.done λc a=>Wp.of (ez.skip (zc.1 a)) (e h);exact lI.bk (e h);exact lI.bk (e h);rename_i V l;cases S with|mk G x =>simp only[oI_,pI_]at h;obtain⟨rfl,rfl,rfl⟩:=h;exact lI.kL λg p=>k g p
  exact lI.seq (e h);split at h;rename_i a;exact lI.cond a (e h);rename_i a;exact lI.cond a (e h);grind;exact lI.block (e h);exact lI.scope (e h);exact lI.done λc a=>by rw[zc.2.2 _ a];exact Wp.of (ez.exit_ _) (e h)
  exact lI.done λc a=>by rw[zc.2.1 a];exact Wp.of ez.ret (e h)
  grind|out ex K =>cases K with|nil=>simp[HG]at h|cons it K =>cases it with
   |seq b=>cases ex<;>(simp only[HG]at h;have t:=e h;exact t)|Bw id =>cases ex with|exit j =>simp only[HG]at h;show match Nat.beq j id with|true=>eI P Y rd n Q K .normal U S|false=>eI P Y rd n Q K (.exit j) U S;split at h;have t:=e h;exact t;have t:=e h;exact t|_=>simp only[HG]at h;have t:=e h;exact t
   |Sn =>cases ex with|goto l=>simp[HG]at h|_=>simp only[HG]at h;have t:=e h;exact t
 |bk dr l K =>simp only[HG]at h;split at h;exact lD.nil (e h);rename_i i l;split at h;rename_i f;split at h;rename_i r T q;exact lD.op f (D.quiet q) (e h);grind;rename_i f;exact lD.skip f (e h);grind|kL B V lg rs l K =>intro s u;simp only[HG]at h;split at h;split at h;rename_i a;have g:=e h;exactλMz _=>⟨λ_=>.none_,U,S,.nil ..,I,g⟩;grind;rename_i i l;split at h;rename_i f;split at h;rename_i r d LO q;let⟨g,p⟩:=ad9 (P:=P) (Y:=Y) (df:=U.df) s q;exact s9.op u f g (e h (λk v=>s k (p k v)) (by grind[gQ]));grind;rename_i f;exact s9.skip u f (e h s u);grind
end
end Go.Proofs.YtbdcmpknicjopaaGreat
