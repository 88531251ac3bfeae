import Derived.Laws.BytesString
import Derived.Shelf.SlIterI.Collect
import Derived.Shelf.SlIterI.Sorted
import Derived.Shelf.SortM.Plain
import Derived.Shelf.SortM.SortNone
import Derived.Test.YtbdcmpknicjopaaGreatProg
import Derived.Test.YtbdcmpknicjopaaGreatTo5
namespace Go.Proofs.YtbdcmpknicjopaaGreat
set_option linter.all false
open Go.RowKit Proofs.Tryz
variable{A:Nat->Prop}{A1 cf:QF}{B MO N j n pos sz:Nat}{GL:List (List AV)}{K:List iu}{P:Program}{Q:Exit->AA->ao->Prop}{Q6 args0 z:List AV}{R:AV->ao->Prop}{S S' T' eC:ao}{U w ws:World}{Y aI dT:AA}{aZ9:List QO}{b:Int}{dr e:Bool}{ds:List DE}{gs:Gh}{hi lo:Option QO}{ik k':IntKind}{m:List (Nat×Nat)}{o:Op}{q:n0}{r r' r₀:AV}{rs:Array ResultVar}{s:ByteArray}{so:List (Nat×Ob)}{ι:Nat->Nat}{σ:Type}
variable{ex:Bool}{f g:FuncId}{a c i:Int}{rows:List (List AV)}{args:List AV}{x:QO}
theorem Dx{F:Fence}(h:mu F)(m:Machine):m.fenced P F:=by intro g _;refine⟨λa=>?_,Or.inl (h.1 _),λ_ _=>h.1 _,λ_ a=>?_⟩;rw[h.2.2]at a;cases a;rw[h.2.1]at a;cases a
theorem CallsIn.adg{F:Fence}{m:Nat}{args:Array Value}{R:Ending->World->Prop}(a:mu F)(h:Calls P f args w R):CallsIn F m P f args w R:=by let⟨_,b⟩:=callsIn_wide (n:=0).2 h;refine⟨a.1 f,λc _=>?_⟩;let⟨e,d,g,r,s,x⟩:=b c (room_wide _);refine⟨e,d,g,r,?_,x⟩;cases e with|returned v=>exact StepsIn.mono (λm _=>Dx a m) s|panicked chain=>exact StepsIn.mono (λm _=>Dx a m) s|outgrown=>exact s
theorem St.below{A:Nat->Prop}{g:Gh}{w':World}(d:St U A g S w)(a:Below w.heap.size w w'):Ext A g w ⟨g.ob,g.cp,g.al,λb q=>g.fz b q\/w.heap.size<=b/\b<w'.heap.size,g.fo⟩ w'/\St U A ⟨g.ob,g.cp,g.al,λb q=>g.fz b q\/w.heap.size<=b/\b<w'.heap.size,g.fo⟩ S w':=by have r:Later g w ⟨g.ob,g.cp,g.al,λb q=>g.fz b q\/w.heap.size<=b/\b<w'.heap.size,g.fo⟩ w':=⟨λ_ h=>h,λ_ _=>rfl,λ_ _=>rfl,λ_ _ h=>.inl h,λb q f=>World.cell?_of_block (a.block b (d.dU b q f))⟩;have s:Ext A g w ⟨g.ob,g.cp,g.al,λb q=>g.fz b q\/w.heap.size<=b/\b<w'.heap.size,g.fo⟩ w':={r with size:=a.size,aP:=λb u _=>a.block b u,lN:=λb q h=>h.elim .inl λe=>.inr (d.up b e.1) };refine⟨s,d.next s a.os a.tape a.output d.al (λk p v j=>?_) d.inj (λb q f=>?_) rfl (λ_ _ l i=>⟨l,i⟩) λk o l i=>.inr ⟨k,o,i,l,rfl,.inl rfl⟩⟩;let⟨i,t,x⟩:=d.dh k p v j;exact⟨i,aG_ t a.size,x.later r (a.block _ t) (λq m=>m.elim id λe=>absurd e.1 Z) λJ B=>⟨rfl,a.size,λc n=>a.block c (d.l9 k J Z j c n).2,λc q n m=>m.elim id λh=>absurd h.1 (by have:=(d.l9 k J Z j c n).2;omega)⟩⟩;rcases f with f|f;exact aG_ (d.dU b q f) a.size;grind
theorem St.start(w:World):St w (λb=>w.heap.size<=b) ⟨λ_=>0,λ_=>0,λ_=>False,λb _=>b<w.heap.size,λ_ _=>False⟩ ao.none_ w :=have c:∀k o,¬ao.none_.get k=some o:=λk o h=>by simp[ao.none_]at h
 ⟨Below.refl _ _,λ_ h=>h,λ_ h=>h,λk a=>a.elim,λk o a=>absurd a (c k o),λj k o p d=>absurd d (c j o),λb q h=>h,λb q h=>h,λk J a=>absurd a (c k _),λk J j o a=>absurd a (c k _),λj k J e d=>absurd d (c j _)⟩
theorem aq.calls{x:Value}{args':Array Value}(h:aq P w f args (.v x))(a:nI ⟨λ_=>0,λ_=>0,λ_=>False,λb _=>b<w.heap.size,λ_ _=>False⟩ w args args'):Calls P f args' w λe w'=>e=.returned x/\Below w.heap.size w w':=by let⟨_,S',_,h⟩:=h;refine(callsIn_wide (n:=0).1 (h Fence.wide 0 _ _ args' w mu.wide (St.start w) a)).mono ?_;rintro e w'⟨v,g,rfl,c,d,i⟩;cases cF c;exact⟨rfl,d.base⟩
theorem ai1{op:BinOp}{isB:BK}{t:TypeId}{a b:AV}(g:isB=.b->P.underlying t=some .bool)(h:aex op isB a b=some e):∃x y,a=.v x/\b=.v y/\yp P op t x y=some (.bool e)/\(∀k i j,x=.int k i->y=.int k j->arith op i j=none)/\∀s c,x=.string s->y=.string c->op≠.add:=by unfold aex at h;split at h;rename_i k a k' b;split at h;rename_i l;refine⟨_,_,rfl,rfl,?_,?_,λs c h=>Z⟩;grind[yp];intro k i j d f;cases op<;>simp only[reduceCtorEq]at h<;>rfl;grind;rename_i a b;refine⟨_,_,rfl,rfl,?_,λk i j h=>Z,λs c d f m=>?_⟩;grind[yp];grind;rename_i a b;refine⟨_,_,rfl,rfl,?_,λk i j h=>Z,λs c h=>Z⟩;split at h;grind[yp];grind[yp];grind;grind
theorem zE{op:BinOp}{isB:BK}{y:QO}(h:res P.toTables o=some (.bin op isB x y)):∃t u v s,o=.binOp op t u v s/\x=qo u/\y=qo v/\(isB=.b->P.underlying t=some .bool):=by cases o with|binOp e t u v s =>simp only[res,cU]at h;split at h;rename_i f;injection h with h;injection h with a b c d;subst a b c d;exact⟨_,_,_,_,rfl,rfl,rfl,λ_=>f⟩;injection h with h;injection h with a b c d;subst a b c d;exact⟨_,_,_,_,rfl,rfl,rfl,λh=>Z⟩;injection h with h;injection h with a b c d;subst a b c d;exact⟨_,_,_,_,rfl,rfl,rfl,λh=>Z⟩;injection h with h;injection h with a b c d;subst a b c d;exact⟨_,_,_,_,rfl,rfl,rfl,λh=>Z⟩;grind;injection h with h;injection h with a b c d;subst a b c d;exact⟨_,_,_,_,rfl,rfl,rfl,λh=>Z⟩|_ =>
  simp only[res]at h;repeat' split at h
  all_goals cases h
theorem D.bit{op:BinOp}{isB:BK}{y:QO}(h:aex op isB (x.ev Y.tm) (y.ev Y.tm)=some e):D P U dr (.bin op isB x y) Y S (.v (.bool e)) S:=by refine D.of rfl λo i=>?_;obtain⟨t,u,v,s,rfl,rfl,rfl,j⟩:=zE i;rw[aY,aY]at h;let⟨x,y,l,m,g,q,n⟩:=ai1 j h;simp only[b8,l,m];split;rename_i k a k' b d f;injection d with d;injection f with f;subst d f;split;rename_i c r;split;grind;rename_i p;simp only[yp]at g;rw[p]at g;simp at g;rw[g];exact zJ.mk ⟨rfl,rfl⟩;rename_i a b d f;injection d with d;injection f with f;subst d f;have w:=n _ _ rfl rfl;split;grind;rw[g];exact zJ.mk ⟨rfl,rfl⟩;rename_i a b z A d f;injection d with d;injection f with f;subst d f;rw[g];exact zJ.mk ⟨rfl,rfl⟩;grind
theorem D.ari{op:BinOp}{isB:BK}{y:QO}{k:IntKind}(h1:x.ev Y.tm=.v (.int k a))(h2:y.ev Y.tm=.v (.int k b))(h:arith op a b=some c):D P U dr (.bin op isB x y) Y S (.v (.int k (k.wrap c))) S:=by refine D.of rfl λo d=>?_;obtain⟨t,u,v,s,rfl,rfl,rfl,e⟩:=zE d;rw[aY]at h1 h2;simp only[b8,h1,h2,h,decide_true];exact⟨_,rfl,rfl,rfl⟩
theorem D.cat{isB:BK}{y:QO}{a b:ByteArray}(h1:x.ev Y.tm=.v (.string a))(h2:y.ev Y.tm=.v (.string b))(h:a.size+b.size<=9223372036854775807):D P U dr (.bin .add isB x y) Y S (.v (.string (a++b))) S:=by refine D.of rfl λo c=>?_;obtain⟨t,u,v,s,rfl,rfl,rfl,d⟩:=zE c;rw[aY]at h1 h2;simp only[b8,h1,h2];exact⟨h,rfl,rfl⟩
theorem D.neg{k:IntKind}(h1:x.ev Y.tm=.v (.int k a)):D P U dr (.neg x) Y S (.v (.int k (k.wrap (0-a)))) S:=by refine D.of rfl λo b=>?_;cases o<;>simp only[res]at b<;>(repeat' split at b)<;>(try cases b);rw[aY]at h1;simp only[b8,h1];exact⟨_,rfl,rfl,rfl⟩
theorem D.conv{k:IntKind}(h1:x.ev Y.tm=.v (.int k' a)):D P U dr (.conv k x) Y S (.v (.int k (k.wrap a))) S:=by refine D.of rfl λo b=>?_;cases o<;>simp only[res,cU]at b<;>(repeat' split at b)<;>(try cases b);rename_i c d;rw[aY]at h1;simp only[b8,h1,c,d];exact⟨_,rfl,rfl,rfl⟩
def fO(f:AV)(args:List AV):Option (FuncId×List AV):=match f with
 |.v (.func (.func g) a b)=>match a.toList,b.toList with|[],[]=>some (g,args)|_,_=>none
 |.fn (.func g) first cap=>some (g,first++args++cap)|_=>none
theorem my{f:QO}{args:List QO}(h:res P.toTables o=some (.call f args)):∃c u,o=.call c/\c.callee=.value u/\f=qo u/\args=c.args.toList.map qo:=by cases o with
 |call c =>
  simp only[res]at h;split at h;grind
  ·repeat' split at h
   all_goals cases h
  grind|_ =>
  simp only[res]at h;repeat' split at h
  all_goals cases h
theorem jQ{l:List Operand}:(l.map qo).map (·.ev Y.tm)=l.map Y.ev:=by rw[bB_];exact aQ_ λx _=>aY x
theorem D.call{f:QO}(h:fO (f.ev Y.tm) (aZ9.map (·.ev Y.tm))=some (g,args))(j:aG P U g args S r S')(t:dr=true->S'=S):D P U dr (.call f aZ9) Y S r S':=by cases dr with|false =>intro n o k;refine jZ.NM ?_;obtain⟨c,u,l,m,rfl,rfl⟩:=my k;rw[jQ,aY]at h;unfold fO at h;rw[l];simp only[b8,m];split at h;rename_i p a b d;split at h;rename_i q s;injection h with h;injection h with e i;subst e i;simp only[Ie,d,q,s];exact⟨r,S',j,rfl,rfl⟩;grind;rename_i p a b d;injection h with h;injection h with e i;subst e i;simp only[Ie,d];exact⟨r,S',j,rfl,rfl⟩;grind|true =>intro n o k;refine V8.ofD ?_;obtain⟨c,u,l,m,rfl,rfl⟩:=my k;rw[jQ,aY]at h;unfold fO at h;cases t rfl;rw[l];simp only[dF,m];split at h;rename_i p a b d;split at h;rename_i q s;injection h with h;injection h with e i;subst e i;simp only[Ma,d,q,s];exact⟨r,j,rfl,rfl⟩;grind;rename_i p a b d;injection h with h;injection h with e i;subst e i;simp only[Ma,d];exact⟨r,j,rfl,rfl⟩;grind
def anx(str:Bool):AV->Option Nat
 |.sl _ rows=>match str with|false=>some rows.length|true=>none
 |.ob _ _ _ len _=>match str with|false=>some len|true=>none
 |.v (.string s)=>match str with|true=>some s.size|false=>none
 |_=>none
theorem D.len{str:Bool}{m:Nat}(h:anx str (x.ev Y.tm)=some m):D P U dr (.len str x) Y S (.v (.int .i64 m)) S:=by refine D.of rfl λo b=>?_;cases o<;>simp only[res,cU]at b<;>(repeat' split at b)<;>(try cases b);all_goals rw[aY]at h;simp only[b8,q_,aK_,aY_, *];refine bR.mk (a:=m) ?_ ⟨rfl,rfl⟩;unfold lenOf;unfold anx at h;split at h<;>(try split at h)<;>(try cases h)<;>first|contradiction|simp only[isStr,q8, *]
theorem D.ind{m:Nat}{i:QO}{row:List AV}{k:IntKind}{j:Int}(h1:x.ev Y.tm=.sl ex rows)(h2:i.ev Y.tm=.v (.int k j))(h3:idx rows j=some row)(h4:∀r∈rows,r.length=m):D P U dr (.y9 m x i) Y S (.ip row) S:=by refine D.of rfl λo a=>?_;cases o<;>simp only[res,cU,gR]at a<;>(repeat' split at a)<;>(try cases a);rw[aY]at h1 h2;simp only[b8, *];exact bR.mk rfl ⟨h4,rfl,rfl⟩
theorem D.auP{m:Nat}{i:QO}{k off len:Nat}{cx:Option Nat}{j:Int}(h1:x.ev Y.tm=.ob k m off len cx)(h2:i.ev Y.tm=.v (.int ik j))(h3:0<=j)(h4:j<len):D P U dr (.y9 m x i) Y S (.pt k m (off+j.toNat) 0) S:=by refine D.of rfl λo a=>?_;cases o<;>simp only[res,cU,gR]at a<;>(repeat' split at a)<;>(try cases a);rw[aY]at h1 h2;rename_i b _ c;simp only[b8,h1,h2,b,c];exact⟨trivial,h3,h4,rfl,rfl⟩
theorem D.Wx{i:QO}{j:Int}{b:UInt8}(h1:x.ev Y.tm=.v (.string s))(h2:i.ev Y.tm=.v (.int ik j))(h3:idx s.data.toList j=some b):D P U dr (.Re x i) Y S (.v (.int .u8 b.toNat)) S:=by refine D.of rfl λo a=>?_;cases o<;>simp only[res,cU,gR]at a<;>(repeat' split at a)<;>(try cases a);rw[aY]at h1 h2;simp only[b8, *];exact bR.mk rfl ⟨rfl,rfl⟩
theorem D.min{y:QO}{k:IntKind}(h1:x.ev Y.tm=.v (.int k a))(h2:y.ev Y.tm=.v (.int k b)):D P U dr (.min x y) Y S (.v (.int k (min a b))) S:=by refine D.of rfl λo c=>?_;cases o<;>simp only[res,cU]at c<;>(repeat' split at c)<;>(try cases c);rw[aY]at h1 h2;simp only[b8,q_,aK_,aY_,decide_true, *];exact⟨rfl,rfl⟩
theorem D.max{y:QO}{k:IntKind}(h1:x.ev Y.tm=.v (.int k a))(h2:y.ev Y.tm=.v (.int k b)):D P U dr (.max x y) Y S (.v (.int k (max a b))) S:=by refine D.of rfl λo c=>?_;cases o<;>simp only[res,cU]at c<;>(repeat' split at c)<;>(try cases c);rw[aY]at h1 h2;simp only[b8,q_,aK_,aY_,decide_true, *];exact⟨rfl,rfl⟩
theorem D.quo{isB:BK}{y:QO}{k:IntKind}(h1:x.ev Y.tm=.v (.int k a))(h2:y.ev Y.tm=.v (.int k b))(f:b≠0):D P U false (.bin .quo isB x y) Y S (.v (.int k (k.wrap (a.tdiv b)))) S:=by refine D.run λn o h=>?_;obtain⟨t,u,v,s,i,rfl,rfl,j⟩:=zE h;rw[aY]at h1 h2;refine bt.quiet λA g q w l c=>?_;have d:=c.ev u;have e:=c.ev v;rw[h1]at d;rw[h2]at e;refine⟨_,?_,.v⟩;simp[execOp,i,cF d,cF e,eqGuard,binOp,Op.intDiv,f]
theorem D.rem{isB:BK}{y:QO}{k:IntKind}(h1:x.ev Y.tm=.v (.int k a))(h2:y.ev Y.tm=.v (.int k b))(f:b≠0):D P U false (.bin .rem isB x y) Y S (.v (.int k (a.tmod b))) S:=by refine D.run λn o h=>?_;obtain⟨t,u,v,s,i,rfl,rfl,j⟩:=zE h;rw[aY]at h1 h2;refine bt.quiet λA g q w l c=>?_;have d:=c.ev u;have e:=c.ev v;rw[h1]at d;rw[h2]at e;refine⟨_,?_,.v⟩;simp[execOp,i,cF d,cF e,eqGuard,binOp,Op.intDiv,f]
section
variable{rd:Bool}{ex:Exit}{i:QI}{l:List QI}
def I.op(a:bJ Y.tm i.g=some true)(h:D P U dr i.q Y S r S')(k:I P U rd n Q (.bp dr l K) (bX i.d Y r) S'):I P U rd n Q (.bp dr (i::l) K) Y S:=lz.op a h k
theorem I.bif(a:bJ Y.tm i.g=some true)(h:D P U dr i.q Y S (.v (.bool e)) S')(b:e=true->I P U rd n Q (.bp dr l K) (bX i.d Y (.v (.bool true))) S')(c:e=false->I P U rd n Q (.bp dr l K) (bX i.d Y (.v (.bool false))) S'):I P U rd n Q (.bp dr (i::l) K) Y S:=by refine lz.op a h ?_;cases e with|true=>exact b rfl|false=>exact c rfl
def I.int{e:Int}(a:bJ Y.tm i.g=some true)(h:D P U dr i.q Y S (.v (.int ik e)) S')(k:∀d,d=e->I P U rd n Q (.bp dr l K) (bX i.d Y (.v (.int ik d))) S'):I P U rd n Q (.bp dr (i::l) K) Y S:=lz.op a h (k e rfl)
def I.str{e:ByteArray}(a:bJ Y.tm i.g=some true)(h:D P U dr i.q Y S (.v (.string e)) S')(k:∀d,d=e->I P U rd n Q (.bp dr l K) (bX i.d Y (.v (.string d))) S'):I P U rd n Q (.bp dr (i::l) K) Y S:=lz.op a h (k e rfl)
theorem Pj(h1:-9223372036854775808<=c)(h2:c<=9223372036854775807):IntKind.i64.wrap c=c:=wrap64 h1 h2
theorem D.y7{op:BinOp}{isB:BK}{y:QO}(h1:x.ev Y.tm=.v (.int .i64 a))(h2:y.ev Y.tm=.v (.int .i64 b))(h:arith op a b=some c)(d:-9223372036854775808<=c)(e:c<=9223372036854775807):D P U dr (.bin op isB x y) Y S (.v (.int .i64 c)) S:=by have:=D.ari (P:=P) (U:=U) (S:=S) (dr:=dr) (isB:=isB) h1 h2 h;rw[Pj d e]at this;exact this
theorem D.anz(h1:x.ev Y.tm=.v (.int k' a))(b:-9223372036854775808<=a)(c:a<=9223372036854775807):D P U dr (.conv .i64 x) Y S (.v (.int .i64 a)) S:=by have:=D.conv (P:=P) (U:=U) (S:=S) (dr:=dr) (k:=.i64) h1;rw[Pj b c]at this;exact this
def D.bU{f:QO}(h:fO (f.ev Y.tm) (aZ9.map (·.ev Y.tm))=some (g,args))(a:aq P U g args r)(b:iZ args):D P U dr (.call f aZ9) Y S r S:=D.call h (a.WS b S) λ_=>rfl
def D.tU{f:QO}(h:fO (f.ev Y.tm) (aZ9.map (·.ev Y.tm))=some (g,args0))(a:aq P U g args r)(b:iZ args)(hs:Ct r)(c:jl S args0 args):D P U dr (.call f aZ9) Y S r S:=D.call h (a.QX b hs c) λ_=>rfl
def zo(f:Nat->AV):List (Nat×AV)->Nat->AV|[]=>f|p::l=>bK (zo f l) p.1 p.2
inductive QR where|t (n:Nat)|cell (k:LK) (n:Nat)
def AR(T:Tables):List ResultVar->Option (List QR)
 |[]=>some []|.tmp n::l=>match AR T l with|some a=>some (.t n::a)|none=>none
 |.cell n t::l=>match Ty T t,AR T l with|some k,some a=>some (.cell k n::a)|_,_=>none
def y_(f:Nat->AV)(S:ao):List QR->Option (List AV)
 |[]=>some []|.t n::l=>match y_ f S l with|some b=>some (f n::b)|none=>none
 |.cell k n::l=>match xJ k S (f n),y_ f S l with|some a,some b=>some (a::b)|_,_=>none
def MM(b:List QR)(ex:Exit)(Y:AA)(S:ao):Option (AV×ao):=match O7 ex,Nc S Y.df with
 |true,true=>match y_ Y.tm (oX S Y.df) b with|some [a]=>some (a,oX S Y.df)|some l=>some (.aM l,oX S Y.df)|none=>none
 |_,_=>none
def vp(a:List QR)(R:AV->ao->Prop)(ex:Exit)(Y:AA)(S:ao):Prop:=∃r S',MM a ex Y S=some (r,S')/\R r S'
theorem QP{l:List ResultVar}:∀{a:List QR}{m:List AV},AR P.toTables l=some a->y_ Y.tm S a=some m->HA P Y S l=some m:=by induction l with|nil=>intro a m h k;cases oJ_ h;exact k|cons v l b =>intro a m h k;cases v with|tmp n =>simp only[AR]at h;split at h;grind[y_,HA,Xx];grind|cell n t =>simp only[AR]at h;split at h;grind[y_,OO,HA,Xx];grind
theorem TD{rs:Array ResultVar}{a:List QR}(b:AR P.toTables rs.toList=some a)(h:vp a R ex Y S):SS P rs R ex Y S:=by
 let⟨r,S',h,k⟩:=h;unfold MM at h;split at h;rename_i c d;have key:∀m,y_ Y.tm (oX S Y.df) a=some m->HA P Y (oX S Y.df) rs.toList=some m:=λm e=>QP b e;unfold SS;rw[d];have fin:Gs P rs Y (oX S Y.df)=some r/\oX S Y.df=S':=by grind[Gs]
 rw[fin.1,fin.2];cases ex<;>first|exact k|cases c
 grind
def I.fin{a:List QR}(h:MM a ex Y S=some (r,S'))(k:R r S'):I P U rd n (vp a R) (.out ex []) Y S:=⟨r,S',h,k⟩
structure qx(P:Program)(f:FuncId)(q:QC×List QR)(n:Nat):Prop where out:∃fn c,P.funcs[f]?=some fn/\fn.body=some c/\fn.ntmps=n/\AR P.toTables fn.results.toList=some q.2/\comp P.toTables n c=some q.1/\im P c=true/\∀(xs:Array Value)(w:World),(callFunc f xs).run P w=.ok (.enter f xs) w
def Md(T:Tables)(fn:Func):Option (QC×List QR):=match fn.body with
 |some c=>match comp T fn.ntmps c,AR T fn.results.toList with|some q,some a=>some (q,a)|_,_=>none
 |none=>none
def LY(P:Program)(fn:Func):Bool:=match fn.body with|some c=>im P c|none=>false
theorem qx.of{q:QC×List QR}{fn:Func}{T:Tables}(e:P.funcs[f]?=some fn)(a:Md T fn=some q)(g:P.toTables=T)(h:fn.ntmps=n)(b:LY P fn=true)(i:∀(xs:Array Value) (w:World),(callFunc f xs).run P w=.ok (.enter f xs) w):qx P f q n:=by subst g;unfold Md at a;unfold LY at b;cases d:fn.body with|none=>rw[d]at a;cases a|some c =>rw[d]at a b;simp only at a;split at a;rename_i q1 k l j;cases oJ_ a;exact⟨⟨fn,c,e,d,h,j,Z,b,i⟩⟩;grind
theorem I.mono{a:Exit->AA->ao->Prop}(b:∀ex Y S,Q ex Y S->a ex Y S){c:QC}(h:I P U rd n Q (.run c []) Y S):I P U rd n a (.run c []) Y S:=by intro d e f;let⟨ex,aI,S',g,i⟩:=h d e f;exact⟨ex,aI,S',g,b _ _ _ i⟩
theorem qx.awy{q:QC×List QR}(F:qx P f q n)(a:args.length<=n)(b:Pure r)(h:I P U false n (vp q.2 λr' S=>aL S r' r) (.run q.1 []) ⟨qc args,[]⟩ ao.none_):aq P U f args r:=by let⟨fn,c,d,e,g,i,j,k,l⟩:=F.out;exact aq.of_wp d e l g a b (I.mono (λex Y S=>TD i) h c j k)
theorem qx.QU{q:QC×List QR}(F:qx P f q n)(a:args.length<=n)(h:I P U false n (vp q.2 R) (.run q.1 []) ⟨qc args,[]⟩ S):∃r S',aG P U f args S r S'/\R r S':=by let⟨fn,c,b,d,e,g,i,j,k⟩:=F.out;exact aG.of_wp b d k e a (I.mono (λex Y S=>TD g) h c i j)
theorem aL.of_eq{S:ao}{a b:AV}(h:a=b):aL S a b:=by subst h;exact aL.refl _
end
structure Hd where
 h:{Y β:Type}->(Y->β)->Y->β
 eq:∀{Y β:Type}(f:Y->β)(a:Y),h f a=f a
def Hd.plain:Hd:=⟨λf a=>f a,λ_ _=>rfl⟩
def aQ(O:Hd){T:Type}(f:T->List AV)(ex:Bool)(l:List T):AV:=.sl ex (O.h (List.map f) l)
section
variable{O:Hd}{T:Type}{f:T->List AV}{l:List T}{ex:Bool}
theorem bN:aQ O f ex l=.sl ex (l.map f):=by rw[aQ,O.eq]
theorem aA:(O.h (List.map f) l).length=l.length:=by rw[O.eq,bk_]
theorem du{k:Nat}{x:T}(hi:i=(k:Int))(h:l[k]?=some x):idx (O.h (List.map f) l) i=some (f x):=by rw[O.eq];exact aiW hi h
theorem cJ{m:Nat}(h:∀x,(f x).length=m):∀r∈O.h (List.map f) l,r.length=m:=by rw[O.eq];intro r a;obtain⟨x,_,rfl⟩:=aE_.1 a;exact h x
theorem eW(h:∀x∈l,∀a∈f x,Pure a):Pure (aQ O f ex l):=by rw[bN];refine .sl λrow b a c=>?_;obtain⟨x,d,rfl⟩:=aE_.1 b;exact h x d a c
end
inductive eI(B:Nat):AV->Prop where|u:eI B .u|v {x:Value}:eI B (.v x)|agg {l:List AV}(h:∀a∈l,eI B a):eI B (.agg l)|aM {l:List AV}(h:∀a∈l,eI B a):eI B (.aM l)|sl {ex:Bool}{rows:List (List AV)}(h:∀row∈rows,∀a∈row,eI B a):eI B (.sl ex rows)|ip {cs:List AV}(h:∀a∈cs,eI B a):eI B (.ip cs)|ob {k sz off len:Nat}{cx:Option Nat}(h:k<B):eI B (.ob k sz off len cx)|pt {k sz i j:Nat}(h:k<B):eI B (.pt k sz i j)|mp {k:Nat}(h:k<B):eI B (.mp k)|yl {k:Nat}(h:k<B):eI B (.yl k)|gr {k sz len:Nat}(h:k<B):eI B (.gr k sz len)|fn {f:Fn}{l m:List AV}(h3:∀a∈l,eI B a) (h4:∀a∈m,eI B a):eI B (.fn f l m)
theorem Pure.bm{a:AV}(h:Pure a):eI B a:=by induction h with|v=>exact .v|agg _ b=>exact .agg b|aM _ b=>exact .aM b|sl _ b=>exact .sl b|ip _ b=>exact .ip b|fn _ _ c d=>exact .fn c d
theorem aT.bm{g g':Gh}(n:∀k,k<B->g.al k->g'.al k)(p:∀k,k<B->g'.ob k=g.ob k)(J:∀k,k<B->g'.cp k=g.cp k)(s:∀b o,g.fz b o->g'.fz b o){a:AV}{x:Value}(h:aT g w a x)(c:eI B a):aT g' w a x:=by induction h with
 |u=>exact .u|v=>exact .v|agg q h m=>cases c with|agg c=>exact .agg q λi a x d e=>m i a x d e (c _ (as_ d))
 |aM q h m=>cases c with|aM c=>exact .aM q λi a x d e=>m i a x d e (c _ (as_ d))
 |nil r=>exact .nil r|sl t y f z h A m =>cases c with|sl c =>exact .sl t y f z (λi j row a d e=>⟨s _ _ (h i j row a d e).1,(h i j row a d e).2⟩) λi j row a d e=>m i j row a d e (c _ (as_ d) _ (as_ e))
 |ip h A m =>cases c with|ip c=>exact .ip (λj a d=>⟨s _ _ (h j a d).1,(h j a d).2⟩) λj a d=>m j a d (c _ (as_ d))
 |ob l r d C f=>cases c with|ob c=>rw[<-p _ c];exact .ob (n _ c l) r Z Z f
 |pt l=>cases c with|pt c=>rw[<-p _ c];exact .pt (n _ c l)
 |mp l=>cases c with|mp c=>rw[<-p _ c];exact .mp (n _ c l)
 |yl l=>cases c with|yl c=>rw[<-p _ c];exact .yl (n _ c l)
 |lM=>exact .lM|gr l C f=>cases c with|gr c=>rw[<-p _ c];exact .gr (n _ c l) Z f
 |fn d e K L E F =>cases c with|fn c G=>exact .fn d e (λi a x d e=>E i a x d e (c _ (as_ d))) λi a x d e=>F i a x d e (G _ (as_ d))
def jm(B:Nat):Ob->Prop|.arr _ rows _ _=>∀row∈rows,∀a∈row,eI B a|.mp b=>∀e∈b,eI B e.2|.mb b=>∀e∈b,eI B e.2|.lp _ _ tm _ _ _=>∀t,eI B (tm t)|.df=>True|.si _ _=>True|.fo _=>True|.un=>True
def fD(B:Nat)(f:Nat->Nat)(j:Nat):Nat:=match Nat.blt j B with|true=>j|false=>f j
theorem sJ{f:Nat->Nat}(h:j<B):fD B f j=j:=by have:Nat.blt j B=true:=cc_ h;simp only[fD,this]
def Gh.kI(g:Gh)(B N:Nat)(f:Nat->Nat):Gh:=⟨λj=>g.ob (fD B f j),λj=>g.cp (fD B f j),λj=>j<N/\g.al (fD B f j),g.fz,g.fo⟩
section
variable{g:Gh}{f:Nat->Nat}
theorem aT.kI{a:AV}{x:Value}(e:B<=N)(h:aT g w a x)(d:eI B a):aT (g.kI B N f) w a x:=by refine aT.bm (g:=g) (g':=g.kI B N f) (B:=B) (λk c j=>(⟨X,by grind[sJ]⟩:k<N/\g.al (fD B f k))) (λk c=>?_) (λk c=>?_) (λb o h=>h) h d;show g.ob (fD B f k)=g.ob k;rw[sJ c];show g.cp (fD B f k)=g.cp k;rw[sJ c]
theorem fM.kI{b C:Nat}{o:Ob}(q:B<=N)(h:fM g w b C o)(r:jm B o):fM (g.kI B N f) w b C o:=by cases o with|arr sz rows fz ex =>let⟨E,F,d,l,m,p,u,v,y⟩:=h;refine⟨E,F,d,l,m,p,λi row n=>⟨(u i row n).1,λj a c=>?_⟩,v,y⟩;let⟨x,G,K⟩:=(u i row n).2 j a c;exact⟨x,G,K.kI q (r _ (as_ n) _ (as_ c))⟩|mp M =>let⟨entries,clock,d,l,m⟩:=h;refine⟨entries,clock,d,l,λi k a c=>?_⟩;let⟨e,z,A,n⟩:=m i k a c;exact⟨e,z,A,n.kI q (r _ (as_ c))⟩|mb M =>let⟨entries,d,l,m,p⟩:=h;refine⟨entries,d,l,λi k a c=>?_,p⟩;let⟨e,z,A,n⟩:=m i k a c;exact⟨e,z,A,n.kI q (r _ (as_ c))⟩|lp st R tm S assign body =>let⟨L,d,l,m,p,u,v,y,P⟩:=h;exact⟨L,d,l,m,p,u,v,λt Q=>(y t Q).kI q (r t),P⟩|df=>exact h|si s pos=>exact h|fo J=>exact h|un=>exact h.elim
theorem St.kI(c:St U A g S w)(L:B<=S'.nx)(E:∀j o,S'.get j=some o->(∃a,S.get (fD B f j)=some a/\(∀b t,fM g w b t a->fM (g.kI B S'.nx f) w b t o)/\∀J,o=.fo J->a=.fo J)\/S.nx<=fD B f j)(x:∀i j o p,S'.get i=some o->S'.get j=some p->fD B f i=fD B f j->i=j):St U A (g.kI B S'.nx f) S' w:=by have n:∀j o,S'.get j=some o->(g.kI B S'.nx f).al j->∃a,S.get (fD B f j)=some a/\(∀b t,fM g w b t a->fM (g.kI B S'.nx f) w b t o)/\∀J,o=.fo J->a=.fo J:=λj o l m=>(E j o l).resolve_right λh=>absurd (c.al _ m.2) X;refine⟨c.base,c.up,c.lo,λk d=>d.1,λk o d m=>?_,λi j o p hi l y q e=>?_,c.dU,c.uA,λk J d m=>?_,λk J j o d m l q F=>?_,λj k J G l d q z=>?_⟩;let⟨a,r,K,_⟩:=n k o d m;let⟨s,u,C⟩:=c.dh _ a r m.2;exact⟨s,u,K _ _ C⟩;let⟨a,r,_⟩:=n i o hi y;let⟨v,s,_⟩:=n j p l q;exact x i j o p hi l (c.inj _ _ a v r s y.2 q.2 e);let⟨a,r,_,s⟩:=n k _ d m;exact c.l9 _ J Z m.2;let⟨a,r,_,s⟩:=n k _ d m;let⟨v,u,_⟩:=n j _ l q;exact c.oZ _ J _ v Z m.2 u q.2 λe=>F (x j k o _ l d e);let⟨a,r,_,s⟩:=n j _ l q;let⟨v,u,_,C⟩:=n k _ d z;exact x j k _ _ l d (c.qY _ _ J G Z Z q.2 z.2)
theorem Ext.kI(a:Ext A gs ws g w)(d:B<=N)(c:∀k,gs.al k->k<B):Ext A gs ws (g.kI B N f) w :=
 { al:=λk b=>⟨Z,by rw[sJ (c k b)];exact a.al k b⟩
   ob:=λk b=>by show g.ob (fD B f k)=gs.ob k;rw[sJ (c k b)];exact a.ob k b
   cp:=λk b=>by show g.cp (fD B f k)=gs.cp k;rw[sJ (c k b)];exact a.cp k b
   fz:=a.fz
   cell:=a.cell
   size:=a.size
   aP:=a.aP
   lN:=a.lN }
end
def aU:List (Nat×Nat)->Nat->Nat|[],j=>j|p::m,j=>match Nat.beq p.1 j with|true=>p.2|false=>aU m j
def fN:List (Nat×Ob)->Nat->Option Ob|[],_=>none|p::l,j=>match Nat.beq p.1 j with|true=>some p.2|false=>fN l j
theorem gy:∀{l:List (Nat×Ob)}{j:Nat}{o:Ob},fN l j=some o->(j,o)∈l|[],j,o,h=>by cases h|(a,b)::l,j,o,h=>by simp only[fN]at h;split at h;rename_i e;cases aT_ e;cases oJ_ h;simp;exact List.mem_cons_of_mem _ (gy h)
inductive B6(B:Nat)(m:List (Nat×Nat))(N:Nat)(f:Nat->AV):Nat->AV->Prop where|aF {t:Nat}{a:AV}(h:f t=a) (hk:eI B a):B6 B m N f t a|new {t j sz off len:Nat}{cx:Option Nat}(h:f t=.ob (fD B (aU m) j) sz off len cx) (hj:Nat.blt j N=true):B6 B m N f t (.ob j sz off len cx)|jz {t j sz len:Nat}(h:f t=.gr (fD B (aU m) j) sz len) (hj:Nat.blt j N=true):B6 B m N f t (.gr j sz len)|lM {t j sz:Nat}(h:f t=.sl true []):B6 B m N f t (.gr j sz 0)|pf {t j sz i q:Nat}(h:f t=.pt (fD B (aU m) j) sz i q) (hj:Nat.blt j N=true):B6 B m N f t (.pt j sz i q)|vS {t j:Nat}(h:f t=.mp (fD B (aU m) j)) (hj:Nat.blt j N=true):B6 B m N f t (.mp j)
def TE(B:Nat)(m:List (Nat×Nat))(N:Nat)(f:Nat->AV):List (Nat×AV)->Prop|[]=>True|p::l=>B6 B m N f p.1 p.2/\TE B m N f l
inductive lK(B:Nat)(m:List (Nat×Nat))(N:Nat):AV->AV->Prop where|aF {a:AV}(hk:eI B a):lK B m N a a|new {j k sz off len:Nat}{cx:Option Nat}(h:k=fD B (aU m) j) (hj:Nat.blt j N=true):lK B m N (.ob k sz off len cx) (.ob j sz off len cx)|jz {j k sz len:Nat}(h:k=fD B (aU m) j) (hj:Nat.blt j N=true):lK B m N (.gr k sz len) (.gr j sz len)|lM {j sz:Nat}:lK B m N (.sl true []) (.gr j sz 0)|pf {j k sz i q:Nat}(h:k=fD B (aU m) j) (hj:Nat.blt j N=true):lK B m N (.pt k sz i q) (.pt j sz i q)|vS {j k:Nat}(h:k=fD B (aU m) j) (hj:Nat.blt j N=true):lK B m N (.mp k) (.mp j)
def H2(B:Nat)(m:List (Nat×Nat))(N:Nat):List AV->List AV->Prop|[],[]=>True|a::l,b::c=>lK B m N a b/\H2 B m N l c|_,_=>False
def Pz(B:Nat)(m:List (Nat×Nat))(N:Nat):List (List AV)->List (List AV)->Prop|[],[]=>True|a::l,b::c=>H2 B m N a b/\Pz B m N l c|_,_=>False
theorem H2.at:∀{l e:List AV},H2 B m N l e->l.length=e.length/\∀(i:Nat)(b:AV),e[i]?=some b->∃a,l[i]?=some a/\lK B m N a b|[],[],_=>⟨rfl,λi b h=>Z⟩|a::l,b::e,f=>⟨by simp[f.2.at.1],λi c h=>by cases i with|zero=>simp at h;subst h;exact⟨a,rfl,f.1⟩|succ i=>simp at h;let⟨d,j,g⟩:=f.2.at.2 i c h;exact⟨d,Z,g⟩⟩|[],_::_,h=>h.elim|_::_,[],h=>h.elim
theorem Pz.at:∀{l e:List (List AV)},Pz B m N l e->l.length=e.length/\∀(i:Nat)(b:List AV),e[i]?=some b->∃a,l[i]?=some a/\H2 B m N a b|[],[],_=>⟨rfl,λi b h=>Z⟩|a::l,b::e,f=>⟨by simp[f.2.at.1],λi c h=>by cases i with|zero=>simp at h;subst h;exact⟨a,rfl,f.1⟩|succ i=>simp at h;let⟨d,j,g⟩:=f.2.at.2 i c h;exact⟨d,Z,g⟩⟩|[],_::_,h=>h.elim|_::_,[],h=>h.elim
inductive V9(B:Nat)(m:List (Nat×Nat))(N:Nat):Ob->Ob->Prop where|same {o:Ob}(hk:jm B o):V9 B m N o o|arr {sz fz:Nat}{rows dX:List (List AV)}{ex:Bool}(h:Pz B m N rows dX):V9 B m N (.arr sz rows fz ex) (.arr sz dX fz ex)
def g7(B:Nat)(m:List (Nat×Nat))(N:Nat)(S:ao):List (Nat×Ob)->Prop|[]=>True|p::l=>((∃a,S.get (fD B (aU m) p.1)=some a/\V9 B m N a p.2)\/Nat.ble S.nx (fD B (aU m) p.1)=true)/\g7 B m N S l
theorem g7.mem{S:ao}:∀{l:List (Nat×Ob)},g7 B m N S l->∀p∈l,(∃a,S.get (fD B (aU m) p.1)=some a/\V9 B m N a p.2)\/Nat.ble S.nx (fD B (aU m) p.1)=true|[],_,p,h=>Z|q::l,b,p,h=>by rcases al_.1 h with rfl|h;exact b.1;exact b.2.mem p h
def tV(B:Nat)(m:List (Nat×Nat)):List Nat->Bool|[]=>true|j::l=>l.all (λi=>!Nat.beq (fD B (aU m) i) (fD B (aU m) j))&&tV B m l
theorem tV.inj{B:Nat}{m:List (Nat×Nat)}:∀{l:List Nat},tV B m l=true->∀i j,i∈l->j∈l->fD B (aU m) i=fD B (aU m) j->i=j
 |[],_,i,j,h,_,_=>Z|a::l,b,i,j,hi,c,e=>by
  simp only[tV,aw_,bb_,cg_]at b;have ne:∀x∈l,fD B (aU m) x≠fD B (aU m) a:=λx d h=>by have:=b.1 x d;rw[h,bD_]at this;cases this
  by_cases f:i=a;grind;by_cases g:j=a;grind;exact tV.inj b.2 i j ((al_.1 hi).resolve_left f) ((al_.1 c).resolve_left g) e
def jW(l:List (Nat×AV))(ds:List DE):AA:=⟨zo (λ_=>.u) l,ds⟩
def aw(l:List (Nat×Ob))(N:Nat):ao:=⟨fN l,N⟩
structure Canon(B N:Nat)(m:List (Nat×Nat))(Y:AA)(S:ao)(l:List (Nat×AV))(ds:List DE)(so:List (Nat×Ob)):Prop where
 asd:TE B m N Y.tm l
 df:Y.df=ds
 awz:g7 B m N S so
 awA:tV B m (so.map (·.1))=true
 bn:Nat.ble B N=true
 dl:ds.all (λd=>Nat.blt d.k B)=true
section
variable{rd:Bool}{g:Gh}{l:List (Nat×AV)}{a:Act}
theorem nn{i:Nat}(h:Nat.blt i j=true):i<j:=aA_ h
theorem lK.rep{a b:AV}{x:Value}(p:B<=N)(h:lK B m N a b)(l:aT g w a x):aT (g.kI B N (aU m)) w b x:=by cases h with
 |aF c=>exact l.kI p c|@new j k sz off len cx e d =>subst e;cases l with|ob c n r o f=>exact .ob (g:=g.kI B N (aU m)) ⟨aA_ d,c⟩ n r o f
 |@jz j k sz len e d =>subst e;cases l with|lM=>exact .lM|gr c o f=>exact .gr (g:=g.kI B N (aU m)) ⟨aA_ d,c⟩ o f
 |lM =>cases l with|nil n=>rw[n rfl];exact .lM|sl s=>exact absurd rfl s
 |@pf j k sz i q e d =>subst e;cases l with|pt c=>exact .pt (g:=g.kI B N (aU m)) ⟨aA_ d,c⟩
 |@vS j k e d =>subst e;cases l with|mp c=>exact .mp (g:=g.kI B N (aU m)) ⟨aA_ d,c⟩
theorem V9.rep{o e:Ob}{b f:Nat}(k:B<=N)(h:V9 B m N o e)(c:fM g w b f o):fM (g.kI B N (aU m)) w b f e:=by cases h with|same l=>exact c.kI k l|@arr sz fz rows K ex n =>let⟨L,p⟩:=n.at;let⟨q,r,s,t,M,P,u,Q,v⟩:=c;refine⟨q,r,s,t,Z,λR=>Z,λi row c=>?_,Z,v⟩;let⟨d,y,z⟩:=p i row c;let⟨S,A⟩:=z.at;refine⟨Z,λj a C=>?_⟩;let⟨a0,E,F⟩:=A j a C;let⟨x,G,J⟩:=(u i d y).2 j a0 E;exact⟨x,G,F.rep k J⟩
theorem Canon.st(hC:Canon B N m Y S l ds so)(c:St U A g S w):St U A (g.kI B N (aU m)) (aw so N) w :=St.kI (S':=aw so N) c (aA_ hC.bn) (λj o h=>by
   rcases hC.awz.mem _ (gy h) with⟨d,f,a⟩|k;case inr=>exact .inr (aA_ k)
   exact .inl ⟨d,f,λb s n=>a.rep (aA_ hC.bn) n,λJ q=>by subst q;cases a;rfl⟩) λi j o p hi r e=>tV.inj hC.awA i j (aE_.2 ⟨_,gy hi,rfl⟩) (aE_.2 ⟨_,gy r,rfl⟩) e
theorem OR(f:B<=N)(k:cR g w n Y a):∀{l:List (Nat×AV)},TE B m N Y.tm l->(∀t,t<n->aT (g.kI B N (aU m)) w (zo (λ_=>.u) l t) (a.tmps.getD t undef))/\∀t,n<=t->zo (λ_=>.u) l t=.u
 |[],_=>⟨λ_ _=>.u,λ_ _=>rfl⟩|(s,b)::l,h=>by
  let⟨u,v⟩:=OR f k h.2;have p:B6 B m N Y.tm s b:=h.1;refine⟨λt o=>?_,λt o=>?_⟩;show aT _ w (bK (zo (λ_=>.u) l) s b t) _;by_cases e:t=s;subst e;rw[aK];have c:=k.tm t o;cases p with|aF e r=>rw[e]at c;exact c.kI f r|@new j sz off len cx e d =>rw[e]at c;exact lK.rep f (.new rfl d) c|@jz j sz len e d=>rw[e]at c;exact lK.rep f (.jz rfl d) c|@lM j sz e=>rw[e]at c;exact lK.rep f .lM c|@pf j sz i q e d=>rw[e]at c;exact lK.rep f (.pf rfl d) c|@vS j e d=>rw[e]at c;exact lK.rep f (.vS rfl d) c
  grind[aR];show bK (zo (λ_=>.u) l) s b t=.u;by_cases e:t=s;subst e;rw[aK];have c:=k.out t o;cases p with|aF e r=>exact e.symm.trans c|new e d=>rw[c]at e;cases e|jz e d=>rw[c]at e;cases e|lM e=>rw[c]at e;cases e|pf e d=>rw[c]at e;cases e|vS e d=>rw[c]at e;cases e
  grind[aR]
theorem Canon.Yj(hC:Canon B N m Y S l ds so)(b:cR g w n Y a):cR (g.kI B N (aU m)) w n (jW l ds) a:=by have e:=aA_ hC.bn;let⟨f,h⟩:=OR e b hC.asd;have d:=hC.dl;rw[bb_]at d;refine⟨b.size,f,h,?_,λk c=>?_⟩;rw[b.df,hC.df];refine aQ_ λk c=>?_;refine(FD ?_).symm;show g.ob (fD B (aU m) k.k)=_;rw[sJ (nn (d k c))];have:=nn (d k c);refine⟨X,?_⟩;rw[sJ this];exact b.yN k (by rw[hC.df];exact c)
def A3(P:Program)(U:World)(rd:Bool)(n B:Nat)(c:Code)(Y:AA)(S:ao)(ex:Exit)(aI:AA)(S':ao):Prop :=∀(F:Fence)(m:Nat)(A:Nat->Prop)(g gs:Gh)(a:Act)(w ws:World),mu F->F.round.isSome=rd->St U A g S w->cR g w n Y a->Ext A gs ws g w->(∀k,gs.al k->k<B)->∀(b:Frame)(k:List Item)(d:List Frame),b.roundOf=F.round->F.fn b.fn->F.room (d.length+1+m) ->∃e f h,tM U n A gs ws ex aI S' e f h/\ArrivesIn (Machine.fenced P F) P (lone (b.atR a (.code c::.inLoop c::k)) d w) b k d e f h
section
variable{c:Code}{ex:Exit}
theorem A3.step(h:eE P U rd n c Y S .normal dT eC)(hC:Canon B N m dT eC l ds so)(k:A3 P U rd n B c (jW l ds) (aw so N) ex aI S'):A3 P U rd n B c Y S ex aI S':=by intro F r A g gs a w ws s t y z C u b q v x d f;let⟨e,E,G,J,K⟩:=h F r A g a w s t y z b (.inLoop c::q) v x d f;obtain⟨rfl,T,L,M,i⟩:=J;let⟨j,o,p,Q,R⟩:=k F r A _ gs E G ws s t (hC.st L) (hC.Yj M) ((C.trans i).kI (aA_ hC.bn) u) u b q v x d f;exact⟨j,o,p,Q,.of_steps (StepsIn.trans K (.one (fenced_calm d f rfl) stepR_inLoop)) R⟩
theorem A3.done(h:eE P U rd n c Y S ex aI S')(f:ex≠.normal):A3 P U rd n B c Y S ex aI S':=by intro F i A g gs a w ws j k l m o z b q p r s t;let⟨e,u,v,d,y⟩:=h F i A g a w j k l m b (.inLoop c::q) p r s t;obtain⟨rfl,d⟩:=d;exact⟨e,u,v,tM.ext o ⟨rfl,d⟩,.pass (x:=.inLoop c) rfl (λ_ _=>.inl f) y⟩
theorem A3.start(f:Nat.ble S.nx B=true)(hC:Canon B N m Y S l ds so)(k:A3 P U rd n B c (jW l ds) (aw so N) ex aI S'):Ca P U rd n c Y S ex aI S':=by intro F h A g a w i j d o b q p r s t;have e:∀k,g.al k->k<B:=λk u=>aG_ (d.al k u) (aA_ f);exact k F h A _ g a w w i j (hC.st d) (hC.Yj o) ((Ext.refl A g w).kI (aA_ hC.bn) e) e b q p r s t
end
def E1{σ:Type}(P:Program)(U:World)(rd:Bool)(n B N:Nat)(st:σ->List (Nat×AV))(ds:List DE)(so:σ->List (Nat×Ob))(a:σ->Prop)(μ:σ->Nat)(Q:Exit->AA->ao->Prop)(K:List iu)(k:Nat):Exit->AA->ao->Prop :=λex Y S=>match ex with|.normal=>∃s m,a s/\μ s<k/\Canon B N m Y S (st s) ds (so s)|e=>I P U rd n Q (.out e K) Y S
theorem I.eH(B N:Nat)(m:List (Nat×Nat))(st:σ->List (Nat×AV))(ds:List DE)(so:σ->List (Nat×Ob))(a:σ->Prop)(μ:σ->Nat)(s0:σ){c:QC}(h0:a s0)(j:Nat.ble S.nx B=true)(hC:Canon B N m Y S (st s0) ds (so s0))(h:∀s,a s->I P U rd n (E1 P U rd n B N st ds so a μ Q K (μ s)) (.run c []) (jW (st s) ds) (aw (so s) N)):I P U rd n Q (.run (.loop c) K) Y S:=by
 intro w l o;obtain⟨d,rfl,p⟩:=NT l;have key:∀(k:Nat)(s:σ),a s->μ s=k->∃ex aI S',A3 P U rd n B d (jW (st s) ds) (aw (so s) N) ex aI S'/\eO P U rd n Q K ex aI S':=by intro k;induction k using Nat.strongRecOn with|_ k q =>intro s r x;let⟨ex,dT,eC,b,g⟩:Wp P U rd n d (E1 P U rd n B N st ds so a μ Q K (μ s)) (jW (st s) ds) (aw (so s) N):=h s r d p o;cases ex with|normal =>let⟨i,y,e,z,f⟩:=g;let⟨ex,aI,S',t,u⟩:=q (μ i) X i e rfl;exact⟨ex,aI,S',A3.step b f t,u⟩|_=>exact⟨_,dT,eC,A3.done b aE,g⟩
 let⟨ex,aI,S',v,b⟩:=key _ s0 h0 rfl;exact⟨ex,aI,S',eE.loop (A3.start j hC v),b⟩
def I.bu{st:σ->List (Nat×AV)}{so:σ->List (Nat×Ob)}{a:σ->Prop}{μ:σ->Nat}{k:Nat}(s:σ)(m:List (Nat×Nat))(b:a s)(c:μ s<k)(hC:Canon B N m Y S (st s) ds (so s)):I P U rd n (E1 P U rd n B N st ds so a μ Q K k) (.out .normal []) Y S:=⟨s,m,b,c,hC⟩
def I.gp{st:σ->List (Nat×AV)}{so:σ->List (Nat×Ob)}{a:σ->Prop}{μ:σ->Nat}{k id:Nat}(h:I P U rd n Q (.out (.exit id) K) Y S):I P U rd n (E1 P U rd n B N st ds so a μ Q K k) (.out (.exit id) []) Y S:=h
def I.HK{st:σ->List (Nat×AV)}{so:σ->List (Nat×Ob)}{a:σ->Prop}{μ:σ->Nat}{k:Nat}(h:I P U rd n Q (.out .ret K) Y S):I P U rd n (E1 P U rd n B N st ds so a μ Q K k) (.out .ret []) Y S:=h
end
section
variable{rd:Bool}
def xc(f:Nat->AV):Option QO->Int->Option Int|none,d=>some d|some x,_=>match x.ev f with|.v (.int _ i)=>some i|_=>none
theorem zC{lo:Option Operand}{d:Int}(h:xc Y.tm (lo.map qo) d=some i):nj (lo.map Y.ev) d=some i:=by cases lo with|none=>exact h|some x =>simp only[aN_,xc,aY]at h;simp only[aN_,nj];split at h;grind;grind
theorem V_{k:SK}(h:res P.toTables o=some (.slice k x lo hi none)):∃t u a h1,o=.slice t u a h1 none/\x=qo u/\lo=a.map qo/\hi=h1.map qo /\(k=.str/\P.underlying t=some .string\/∃e m,k=.sl m/\P.underlying t=some (.slice e)/\eR P e=some m):=by cases o with|slice t u a h1 d =>simp only[res,cU,gR]at h;split at h;rename_i b;simp only[oI_,n0.slice.injEq,dN_]at h;obtain⟨rfl,rfl,rfl,rfl,rfl⟩:=h;exact⟨_,_,_,_,rfl,rfl,rfl,rfl,.inl ⟨rfl,b⟩⟩;rename_i e b;split at h;rename_i m c;simp only[oI_,n0.slice.injEq,dN_]at h;obtain⟨rfl,rfl,rfl,rfl,rfl⟩:=h;exact⟨_,_,_,_,rfl,rfl,rfl,rfl,.inr ⟨_,_,rfl,b,c⟩⟩;grind;grind|_ =>
  simp only[res]at h;repeat' split at h
  all_goals cases h
theorem D.auv{l h:Int}(h1:x.ev Y.tm=.v (.string s))(h2:xc Y.tm lo 0=some l)(h3:xc Y.tm hi s.size=some h)(h4:0<=l)(h5:l<=h)(h6:h<=s.size):D P U dr (.slice .str x lo hi none) Y S (.v (.string (s.extract l.toNat h.toNat))) S:=by refine D.of rfl λo a=>?_;obtain⟨t,u,c,d,rfl,rfl,rfl,rfl,b|⟨e,m,f,_⟩⟩:=V_ a;rw[aY]at h1;simp only[b8,th,bw_,h1,b.2,zC h2,zC h3];exact⟨h4,h5,h6,rfl,rfl⟩;grind
theorem D.acB{m:Nat}{l h:Int}(h1:x.ev Y.tm=.sl ex rows)(h2:xc Y.tm lo 0=some l)(h3:xc Y.tm hi rows.length=some h)(h0:∀row∈rows,row.length=m)(h4:0<=l)(h5:l<=h)(h6:h<=rows.length):D P U dr (.slice (.sl m) x lo hi none) Y S (.sl false ((rows.take h.toNat).drop l.toNat)) S:=by refine D.of rfl λo b=>?_;obtain⟨t,u,f,g,rfl,rfl,rfl,rfl,c|⟨e,i,a,c,d⟩⟩:=V_ b;grind;injection a with a;subst a;rw[aY]at h1;simp only[b8,th,bw_,h1,c,zC h2,zC h3,d];exact⟨λrow b=>Z,rfl,h4,h5,h6,rfl,rfl⟩
theorem su{a b:QO}(h:res P.toTables o=some (.append sz MO a b)):∃c t t2 u v e f z,o=.call c/\c.callee=.builtin .append/\c.argTypes.toList=[t,t2]/\c.args.toList=[u,v]/\a=qo u/\b=qo v/\mc P t=some e/\mc P t2=some f/\eL P e=some z /\eR P e=some sz/\k_ P e=some MO/\Nat.beq z.cells.size sz=true/\Nat.blt 0 MO=true:=by cases o<;>simp only[res,cU,gR,qB,lS,om]at h<;>(repeat' split at h)<;>(try cases h);rename_i d;simp only[aw_]at d;exact⟨_,_,_,_,_,_,_,_,rfl,Z,by assumption,Z,rfl,rfl,by assumption,by assumption,Z,Z,Z,d.1,d.2⟩
def iN(S:ao)(b:AV):Option (List (List AV)):=match rowsOf S b,q8 b with
 |some l,some k=>match Nat.beq k l.length with|true=>some l|false=>none
 |_,_=>none
theorem kf{S:ao}{b:AV}{l:List (List AV)}(h:iN S b=some l):rowsOf S b=some l/\q8 b=some l.length:=by unfold iN at h;split at h;rename_i c a;split at h;rename_i e;cases oJ_ h;rw[aT_ e]at a;exact⟨c,a⟩;grind;grind
theorem D.append{a b:QO}(d:rowsOf S (b.ev Y.tm)=some GL)(f:q8 (b.ev Y.tm)=some GL.length)(h:∀e z,eL P e=some z->eR P e=some sz->k_ P e=some MO->Nat.blt 0 MO=true->qC P e (CK r S') S GL (a.ev Y.tm)):D P U dr (.append sz MO a b) Y S r S':=by refine D.of rfl λo j=>?_;obtain⟨c,t,t2,u,v,e,x,z,rfl,k,l,m,rfl,rfl,n,p,g,i,q,s,w⟩:=su j;rw[aY]at d f h;simp only[b8,k,q_,l,m,aK_,aY_,n,p,g,i,s];exact bR.mk d ⟨f,h e z g i q w⟩
theorem D.MB{a b:QO}(h1:a.ev Y.tm=.sl true rows)(c:iN S (b.ev Y.tm)=some []):D P U dr (.append sz MO a b) Y S (.sl true rows) S:=by refine D.append (kf c).1 (kf c).2 λe z d f g h=>?_;rw[h1];exact⟨rfl,rfl⟩
theorem D.Ql{a b:QO}{x:List AV}(h1:a.ev Y.tm=.sl true rows)(c:iN S (b.ev Y.tm)=some (x::GL))(h2:∀row∈rows,row.length=sz)(h3:∀row∈x::GL,row.length=sz)(h4:(rows.length+(x::GL).length)*MO<=35184372088832):D P U dr (.append sz MO a b) Y S (.ob S.nx sz 0 (rows.length+(x::GL).length) none) (S.new (.arr sz (rows++x::GL) 0 false)):=by refine D.append (kf c).1 (kf c).2 λe z h d f g=>?_;rw[h1];simp only[qC,d,f,g];exact⟨h2,h3,h4,rfl,rfl⟩
theorem D.awC{k fz len:Nat}{a b:QO}{x:List AV}(h1:a.ev Y.tm=.ob k sz 0 len none)(d:S.get k=some (.arr sz rows fz ex))(c:iN S (b.ev Y.tm)=some (x::GL))(h0:fz<=len)(h2:len<=rows.length)(h3:∀row∈x::GL,row.length=sz/\row.all dv=true)(h4:(len+(x::GL).length)*MO<=35184372088832):D P U dr (.append sz MO a b) Y S (.ob S.nx sz 0 (len+(x::GL).length) none) ((S.set k none).new (.arr sz (rows.take len++x::GL) fz false)):=by refine D.append (kf c).1 (kf c).2 λe z i f g h=>?_;rw[h1];simp only[qC];refine bR.mk (PL d) ?_;simp only[f,g,h,bD_,cj_,az_];exact⟨h0,h2,h3,h4,rfl,rfl⟩
theorem D.WB{k fz len sz':Nat}{a b:QO}(h1:a.ev Y.tm=.ob k sz' 0 len none)(d:S.get k=some (.arr sz' rows fz ex))(c:iN S (b.ev Y.tm)=some []):D P U dr (.append sz MO a b) Y S (.ob k sz' 0 len none) S:=by refine D.append (kf c).1 (kf c).2 λe z f g h i=>?_;rw[h1];simp only[qC];exact bR.mk (PL d) ⟨rfl,rfl⟩
theorem U9{l c:QO}(h:res P.toTables o=some (.sy z MO l c)):∃t u v e a sz,o=.makeSlice t u v/\l=qo u/\c=qo v/\mc P t=some e/\eL P e=some a/\eR P e=some sz/\k_ P e=some MO /\z=a.cells.toList.map cT/\Nat.beq a.cells.size sz=true/\Nat.blt 0 sz=true:=by cases o with|makeSlice t u v =>simp only[res,gR,qB,lS,om]at h;split at h;rename_i e d;split at h;rename_i a sz j f g i;split at h;rename_i b;simp only[aw_]at b;simp only[oI_,n0.sy.injEq]at h;obtain⟨rfl,rfl,rfl,rfl⟩:=h;exact⟨_,_,_,_,_,_,rfl,rfl,rfl,d,f,g,i,rfl,b.1,b.2⟩;grind;grind;grind|_ =>
  simp only[res]at h;repeat' split at h
  all_goals cases h
theorem D.mks{l c:QO}{k:IntKind}(h1:l.ev Y.tm=.v (.int k a))(h2:c.ev Y.tm=.v (.int k' b))(h3:0<=a)(h4:a=b)(h5:a*MO<=35184372088832)(h6:a<=9223372036854775807):D P U dr (.sy z MO l c) Y S (.ob S.nx z.length 0 a.toNat none) (S.new (.arr z.length (List.replicate a.toNat z) 0 true)):=by
 refine D.of rfl λo f=>?_;obtain⟨t,u,v,e,g,sz,rfl,rfl,rfl,h,i,j,m,rfl,d,n⟩:=U9 f;have p:(g.cells.toList.map cT).length=sz:=by rw[<-aT_ d];simp
 rw[aY]at h1 h2;rw[p];simp only[b8,h1,h2,h,i,j,m,d,n,cj_];exact⟨h3,h4,h5,h6,rfl,rfl⟩
theorem D.auu(h1:x.ev Y.tm=.v (.string s)):D P U dr (.abd x) Y S (.pt S.nx 0 0 0) (S.new (.si s 0)):=by refine D.of rfl λo a=>?_;cases o<;>simp only[res,cU]at a<;>(repeat' split at a)<;>(try cases a);rw[aY]at h1;simp only[b8, *];exact⟨rfl,rfl⟩
theorem D.abW{k:Nat}(h1:x.ev Y.tm=.pt k sz 0 0)(c:S.get k=some (.si s pos))(d:pos<s.size):D P U dr (.IS x) Y S (.aM [.v (.bool true),.v (.int .i64 pos),.v (.int .i32 (Utf8.decode s pos).1)]) (S.set k (some (.si s (pos+(Utf8.decode s pos).2)))):=by refine D.of rfl λo b=>?_;cases o<;>simp only[res,cU]at b<;>(repeat' split at b)<;>(try cases b);rw[aY]at h1;simp only[b8,h1];refine bR.mk (a:=(s,pos)) (by grind[PM]) ⟨true,Z,rfl,rfl⟩
theorem D.awD{k:Nat}(h1:x.ev Y.tm=.pt k sz 0 0)(c:S.get k=some (.si s pos))(d:s.size<=pos):D P U dr (.IS x) Y S (.aM [.v (.bool false)]) S:=by refine D.of rfl λo b=>?_;cases o<;>simp only[res,cU]at b<;>(repeat' split at b)<;>(try cases b);rw[aY]at h1;simp only[b8,h1];refine bR.mk (a:=(s,pos)) (by grind[PM]) ⟨false,Z,rfl,rfl⟩
end
section
variable{rd:Bool}{ex:Exit}{l:List QI}
theorem I.abW{d:Option Nat}{g:Option (Nat×Bool)}{x:QO}{k:Nat}(a:bJ Y.tm g=some true)(h1:x.ev Y.tm=.pt k sz 0 0)(b:S.get k=some (.si s pos))(e:pos<s.size->∀(j c:Int) (p:Nat),j=pos->c=(Utf8.decode s pos).1->p=pos+(Utf8.decode s pos).2->I P U rd n Q (.bp dr l K) (bX d Y (.aM [.v (.bool true),.v (.int .i64 j),.v (.int .i32 c)])) (S.set k (some (.si s p))))(f:s.size<=pos->I P U rd n Q (.bp dr l K) (bX d Y (.aM [.v (.bool false)])) S):I P U rd n Q (.bp dr (⟨d,g,.IS x⟩::l) K) Y S:=by rcases bF_ pos s.size with h|h;exact I.op (i:=⟨d,g,.IS x⟩) a (D.abW h1 b h) (e h _ _ _ rfl rfl rfl);exact I.op (i:=⟨d,g,.IS x⟩) a (D.awD h1 b h) (f h)
def I.gen{i:QI}{S':ao}{T:Type}(F:T->AV){p:T}(b:bJ Y.tm i.g=some true)(h:D P U dr i.q Y S (F p) S')(k:∀a,a=p->I P U rd n Q (.bp dr l K) (bX i.d Y (F a)) S'):I P U rd n Q (.bp dr (i::l) K) Y S:=I.op b h (k p rfl)
theorem D.Ck{O:Hd}{T:Type}{f:T->List AV}{xs:List T}{m:Nat}{x:QO}{ex:Bool}{j:Int}(h1:x.ev Y.tm=.sl ex (O.h (List.map f) xs))(h2:xc Y.tm lo 0=some i)(h3:xc Y.tm hi (O.h (List.map f) xs).length=some j)(h0:∀x,(f x).length=m)(h4:0<=i)(h5:i<=j)(h6:j<=xs.length):D P U dr (.slice (.sl m) x lo hi none) Y S (aQ O f false ((xs.take j.toNat).drop i.toNat)) S:=by have:=D.acB (P:=P) (U:=U) (dr:=dr) (S:=S) h1 h2 h3 (cJ h0) h4 h5 (by rw[aA];exact h6);rw[bN,dv_,da_,<-O.eq (List.map f) xs];exact this
theorem D.Ej{O:Hd}{T:Type}{f:T->List AV}{xs:List T}{m:Nat}{x:QO}{lo:QO}{ex:Bool}{k:IntKind}(h1:x.ev Y.tm=.sl ex (O.h (List.map f) xs))(h2:lo.ev Y.tm=.v (.int k i))(h0:∀x,(f x).length=m)(h4:0<=i)(h5:i<=xs.length):D P U dr (.slice (.sl m) x (some lo) none none) Y S (aQ O f false (xs.drop i.toNat)) S:=by have:=D.Ck (P:=P) (U:=U) (dr:=dr) (S:=S) (lo:=some lo) (hi:=none) (i:=i) (j:=xs.length) h1 (by grind[xc]) (by simp only[xc,aA]) h0 h4 h5 X;simpa using this
def Wk(a b:AV):Prop:=∀(g:Gh)(w:World)(x:Value),aT g w a x->aT g w b x
def TG:List AV->List AV->Prop|[],[]=>True|a::l,b::m=>Wk a b/\TG l m|_,_=>False
def Wk.refl(a:AV):Wk a a:=λ_ _ _ h=>h
theorem TG.len:∀{l m:List AV},TG l m->l.length=m.length|[],[],_=>rfl|_::_,_::_,h=>by simp[h.2.len]|[],_::_,h=>h.elim|_::_,[],h=>h.elim
theorem TG.at:∀{l m:List AV},TG l m->∀(i:Nat)(b:AV),m[i]?=some b->∃a,l[i]?=some a/\Wk a b
 |[],[],_,i,b,h=>Z|a::l,b::m,e,i,c,h=>by cases i with|zero=>simp at h;subst h;exact⟨a,rfl,e.1⟩|succ i=>simp at h;let⟨d,g,f⟩:=e.2.at i c h;exact⟨d,Z,f⟩
 |[],_::_,h,_,_,_=>h.elim|_::_,[],h,_,_,_=>h.elim
theorem Wk.sl{ex:Bool}{rows:List (List AV)}:Wk (.sl ex rows) (.sl false rows):=λg w x a=>by cases a with|nil c=>exact .nil λh=>Z|sl d c b e h a=>exact .sl d (λh=>Z) b e h a
theorem Wk.nil{O:Hd}{T:Type}{f:T->List AV}{ex:Bool}:Wk (.sl ex []) (aQ O f false []):=by rw[bN];exact Wk.sl
theorem aG.wk{f:FuncId}{S':ao}(h:aG P U f args S r S')(d:TG args0 args):aG P U f args0 S r S':=by refine⟨h.1,λF m A g c w j k e=>h.2 F m A g c w j k ⟨e.1.trans d.len,λi a x l n=>?_⟩⟩;let⟨b,o,p⟩:=d.at i a l;exact p _ _ _ (e.2 i b x o n)
def D.qu{f:QO}(h:fO (f.ev Y.tm) (aZ9.map (·.ev Y.tm))=some (g,args0))(a:aq P U g args r)(b:iZ args)(c:TG args0 args):D P U dr (.call f aZ9) Y S r S:=D.call h ((a.WS b S).wk c) λ_=>rfl
variable{O:Hd}{T:Type}{f:T->List AV}{MP:List T}{x:T}
theorem zz{ex:Bool}:eI B (.sl ex []):=.sl λr a=>Z
theorem jP{fz:Nat}{ex:Bool}(h:∀x∈MP,∀a∈f x,Pure a):jm B (.arr sz (O.h (List.map f) MP) fz ex):=by rw[O.eq];intro row b a c;obtain⟨x,d,rfl⟩:=aE_.1 b;exact(h x d a c).bm
theorem aL.au0{S:ao}{k len:Nat}{ex:Bool}(c:S.get k=some (.arr sz (O.h (List.map f) MP) 0 ex))(l:len=MP.length):aL S (.ob k sz 0 len none) (aQ O f false MP):=by rw[bN];rw[O.eq]at c;refine .ob c Z Z (λi row g b d=>?_) λi j row g a m b d h e=>?_;grind;rw[aJ_,d]at b;rw[oJ_ b,h]at e;rw[oJ_ e];exact .refl _
end
def Gh.pre(g:Gh)(ι:Nat->Nat)(M:Nat):Gh:=⟨λj=>g.ob (ι j),λj=>g.cp (ι j),λj=>j<M/\g.al (ι j),g.fz,g.fo⟩
def Rn(ι:Nat->Nat)(M:Nat)(a b:AV):Prop:=∀(g:Gh)(w:World)(x:Value),aT g w a x->aT (g.pre ι M) w b x
def lO(ι:Nat->Nat)(M:Nat)(a o:Ob):Prop:=(∀(g:Gh)(w:World)(b c:Nat),fM g w b c a->fM (g.pre ι M) w b c o)/\∀J,o=.fo J->a=.fo J
structure Bk(ι:Nat->Nat)(gc g:Gh):Prop where
 al:∀j,gc.al j->g.al (ι j)ob:∀j,gc.al j->g.ob (ι j)=gc.ob j
 cp:∀j,gc.al j->g.cp (ι j)=gc.cp j
 fz:g.fz=gc.fz
def Rb(ι:Nat->Nat)(b a:AV):Prop:=∀(gc g:Gh)(w:World)(x:Value),Bk ι gc g->aT gc w b x->aT g w a x
def mW(ι:Nat->Nat)(o a:Ob):Prop:=(∀(gc g:Gh)(w:World)(b c:Nat),Bk ι gc g->(∀J,o=.fo J->g.fo=gc.fo)->fM gc w b c o->fM g w b c a)/\∀J,a=.fo J->o=.fo J
def dL(ι:Nat->Nat)(M T:Nat)(j:Nat):Nat:=match Nat.blt j M with|true=>ι j|false=>T+j
theorem sw{M T:Nat}(h:j<M):dL ι M T j=ι j:=by have:Nat.blt j M=true:=cc_ h;simp only[dL,this]
theorem zF{M T:Nat}(h:M<=j):dL ι M T j=T+j:=by
 have:Nat.blt j M=false:=by cases e:Nat.blt j M with|false=>rfl|true=>exact absurd (aA_ e) X
 simp only[dL,this]
structure wb(ι:Nat->Nat)(S S' T T':ao):Prop where
 inj:∀i j,i<S.nx->j<S.nx->ι i=ι j->i=j
 lt:∀j,j<S.nx->ι j<T.nx
 hS:∀j o,S.get j=some o->∃eg,T.get (ι j)=some eg/\lO ι S.nx eg o
 hT:∀k iT,T'.get k=some iT->(∃j o,dL ι S.nx T.nx j=k/\S'.get j=some o/\mW (dL ι S.nx T.nx) o iT)\/(k<T.nx/\(∀j,j<S.nx->ι j≠k)/\T.get k=some iT)nx:T'.nx=T.nx+S'.nx\/S'.nx<=S.nx/\T'.nx=T.nx
structure Fits(ι:Nat->Nat)(S S' T T':ao):Prop where
 inj:∀i j,i<S.nx->j<S.nx->ι i=ι j->i=j
 lt:∀j,j<S.nx->ι j<T.nx
 hS:∀j o,S.get j=some o->∃eg,T.get (ι j)=some eg/\lO ι S.nx eg o
 hT:∀k iT,T'.get k=some iT->(∃j o,dL ι S.nx T.nx j=k/\S'.get j=some o/\mW (dL ι S.nx T.nx) o iT)\/(k<T.nx/\(∀j,j<S.nx->ι j≠k)/\T.get k=some iT)nx:T'.nx=T.nx+S'.nx\/(S'.nx<=S.nx/\T'.nx=T.nx)fo:(∀k J,T.get k=some (.fo J)->∃j,j<S.nx/\ι j=k)\/∀j J,S'.get j≠some (.fo J)
section
variable{g:Gh}{T:ao}
def No(gc:Gh)(S:ao)(w:World)(b:Nat):Prop:=w.heap.size<=b\/∃j o,S.get j=some o/\gc.al j/\(b=gc.ob j\/∃J,o=.fo J/\gc.fo (gc.ob j) b)
theorem Fits.y(h:Fits ι S S' T T'):wb ι S S' T T':=⟨h.inj,h.lt,h.hS,h.hT,h.nx⟩
theorem wb.sub(d:wb ι S S' T T')(a:St U A g T w){b:Nat}(h:No (g.pre ι S.nx) S w b):A b:=by rcases h with h|⟨j,o,e,c,f⟩;exact a.up b h;let⟨i,k,m,n⟩:=d.hS j o e;rcases f with rfl|⟨J,rfl,l⟩;exact(a.dh _ i k c.2).1;exact(a.l9 _ J Z c.2 b l).1
theorem wb.inner(d:wb ι S S' T T')(f:St U A g T w):St U (No (g.pre ι S.nx) S w) (g.pre ι S.nx) S w :=⟨f.base,λb u=>.inl u,λb u=>f.lo b (d.sub f u),λk a=>a.1,λk o a h=>by let⟨l,m,n,v⟩:=d.hS k o a;let⟨x,y,z⟩:=f.dh _ l m h.2;exact⟨.inr ⟨k,o,a,h,.inl rfl⟩,y,n _ _ _ _ z⟩,λj k o p q a i r e=>by let⟨l,m,_⟩:=d.hS j o q;let⟨s,n,_⟩:=d.hS k p a;exact d.inj j k i.1 r.1 (f.inj _ _ l s m n i.2 r.2 e),f.dU,f.uA,λk J a h c t=>by let⟨l,m,_,v⟩:=d.hS k _ a;exact⟨.inr ⟨k,_,a,h,.inr ⟨J,rfl,t⟩⟩,(f.l9 _ J Z h.2 c t).2⟩,λk J j o a h q i B t=>by let⟨l,m,_,v⟩:=d.hS k _ a;let⟨s,n,_⟩:=d.hS j o q;exact f.oZ _ J _ s Z h.2 n i.2 (λe=>B (d.inj j k i.1 h.1 e)) t,λj k J C q a i r=>by let⟨l,m,_,v⟩:=d.hS j _ q;let⟨s,n,_,x⟩:=d.hS k _ a;exact d.inj j k i.1 r.1 (f.qY _ _ J C Z Z i.2 r.2)⟩
theorem wb.anA(c:wb ι S S' T T'){i:Nat}(h:dL ι S.nx T.nx i=dL ι S.nx T.nx j):i=j:=by rcases bF_ i S.nx with a|a<;>rcases bF_ j S.nx with b|b;rw[sw a,sw b]at h;exact c.inj i j a b h;rw[sw a,zF b]at h;have:=c.lt i a;omega;rw[zF a,sw b]at h;have:=c.lt j b;omega;grind[zF]
theorem wb.outer(t:wb ι S S' T T')(n:St U A g T w){gc:Gh}{w':World}(z:St U (No (g.pre ι S.nx) S w) gc S' w')(u:Ext (No (g.pre ι S.nx) S w) (g.pre ι S.nx) w gc w')(FB:(∀k J,T.get k=some (.fo J)->g.al k->∃j,j<S.nx/\ι j=k)\/∀j J,S'.get j≠some (.fo J)):∃g',St U A g' T' w'/\Ext A g w g' w'/\Bk (dL ι S.nx T.nx) gc g':=by classical
 let⟨F,hX1,hX2⟩:∃F:Nat->Nat->Prop,(∀j J,S'.get j=some (.fo J)->F=gc.fo)/\∀k J,T.get k=some (.fo J)->g.al k->(∀j,j<S.nx->ι j≠k)->F=g.fo:=by rcases FB with h|h;exact⟨gc.fo,λ_ _ _=>rfl,λk J d r s=>Z⟩;exact⟨g.fo,λj J C=>absurd C (h j J),λ_ _ _ _ _=>rfl⟩
 let o:=dL ι S.nx T.nx;let g':Gh:=⟨λk=>if h:∃j,o j=k then gc.ob h.choose else g.ob k,λk=>if h:∃j,o j=k then gc.cp h.choose else g.cp k,λk=>if h:∃j,o j=k then gc.al h.choose else g.al k,gc.fz,F⟩;have ch:∀j (h:∃i,o i=o j),h.choose=j:=λj h=>t.anA h.choose_spec;have V:∀j,g'.ob (o j)=gc.ob j:=λj=>by have h:∃i,o i=o j:=⟨j,rfl⟩;show(if h:∃i,o i=o j then gc.ob h.choose else _)=_;rw[dif_pos h,ch j h]
 have e2:∀j,g'.cp (o j)=gc.cp j:=λj=>by have h:∃i,o i=o j:=⟨j,rfl⟩;show(if h:∃i,o i=o j then gc.cp h.choose else _)=_;rw[dif_pos h,ch j h]
 have e3:∀j,g'.al (o j)=gc.al j:=λj=>by have h:∃i,o i=o j:=⟨j,rfl⟩;show(if h:∃i,o i=o j then gc.al h.choose else _)=_;rw[dif_pos h,ch j h]
 have f1:∀k,(∀j,o j≠k)->g'.ob k=g.ob k:=λk d=>dif_neg λ⟨j,C⟩=>d j C;have f2:∀k,(∀j,o j≠k)->g'.cp k=g.cp k:=λk d=>dif_neg λ⟨j,C⟩=>d j C;have f3:∀k,(∀j,o j≠k)->g'.al k=g.al k:=λk d=>dif_neg λ⟨j,C⟩=>d j C;have aF:∀k,g.al k->(∃j,j<S.nx/\o j=k/\ι j=k/\(g.pre ι S.nx).al j)\/∀j,o j≠k:=by
  intro k d;by_cases h:∃j,o j=k;let⟨j,C⟩:=h;rcases bF_ j S.nx with m|m;have a:ι j=k:=by grind[sw]
  exact .inl ⟨j,m,C,a,m,Z⟩;have a:o j=T.nx+j:=zF m;have:=n.al k d;omega;grind
 have free:∀k,k<T.nx->(∀j,j<S.nx->ι j≠k)->∀j,o j≠k:=by grind[sw,zF]
 have out:∀k p,T.get k=some p->g.al k->(∀j,j<S.nx->ι j≠k)->¬No (g.pre ι S.nx) S w (g.ob k):=by rintro k p d r s(h|⟨j,q,m,a,f⟩);exact absurd (n.dh k p d r).2.1 X;let⟨W,x,_,h6⟩:=t.hS j q m;rcases f with f|⟨J,rfl,h7⟩;exact s j a.1 (n.inj k (ι j) p W d x r a.2 f).symm;exact n.oZ (ι j) J k p Z a.2 d r (λe=>s j a.1 e.symm) h7
 have hL:Later g w g' w':=by refine⟨λk d=>?_,λk d=>?_,λk d=>?_,u.fz,u.cell⟩;rcases aF k d with⟨j,m,a,f,x⟩|h;rw[<-a,e3];exact u.al j x;grind;rcases aF k d with⟨j,m,a,f,x⟩|h;rw[<-a,V,u.ob j x,a,<-f];rfl;grind;rcases aF k d with⟨j,m,a,f,x⟩|h;rw[<-a,e2,u.cp j x,a,<-f];rfl;grind
 have hEx:Ext A g w g' w':={hL with size:=u.size,aP:=λb hb hA=>u.aP b hb λh=>hA (t.sub n h),lN:=λb q h=>(u.lN b q h).imp id (t.sub n) };have hB:Bk o gc g':=⟨λj C=>Z,λj _=>V j,λj _=>e2 j,rfl⟩;refine⟨g',⟨z.base,λb hb=>n.up b (aD_ u.size hb),n.lo,λk d=>?_,λk N d r=>?_,λk l N L d Q P E e=>?_,z.dU,z.uA,λk J d r c G=>?_,λk J l L d r Q E dH G=>?_,λk l J R d Q P E=>?_⟩,hEx,hB⟩;by_cases h:∃j,o j=k;obtain⟨j,rfl⟩:=h;rw[e3]at d;have m:=z.al j d;rcases bF_ j S.nx with a|a;rw[show o j=ι j from sw a];have:=t.lt j a;rcases t.nx with e|⟨_,e⟩<;>omega;rw[show o j=T.nx+j from zF a];rcases t.nx with e|⟨_,e⟩<;>omega;rw[f3 k λj C=>h ⟨j,C⟩]at d;have:=n.al k d;rcases t.nx with e|⟨_,e⟩<;>omega;rcases t.hT k N d with⟨j,p,rfl,m,a,f⟩|⟨m,a,f⟩;have dP:gc.al j:=Z;let⟨x,M,h6⟩:=z.dh j p m dP;rw[show g'.ob (dL ι S.nx T.nx j)=gc.ob j from V j,show g'.cp (dL ι S.nx T.nx j)=gc.cp j from e2 j];exact⟨t.sub n x,M,a gc g' w' _ _ hB (λJ hJ=>hX1 j J Z) h6⟩;have s:=free k m a;rw[f3 k s]at r;rw[f1 k s,f2 k s];let⟨x,M,h6⟩:=n.dh k N f r;have j7:=out k N f r a;refine⟨x,aG_ M u.size,h6.later hL (u.aP _ M j7) (λq hq=>(u.lN _ q hq).resolve_right j7) λJ hJ=>?_⟩;subst hJ;have pF:∀c,g.fo (g.ob k) c->¬No (g.pre ι S.nx) S w c:=by rintro c G(h|⟨j,q,q1,K,q3⟩);exact absurd (n.l9 k J f r c G).2 X;let⟨W,q4,_,q6⟩:=t.hS j q q1;rcases q3 with rfl|⟨R,rfl,q7⟩;exact n.oZ k J _ W f r q4 K.2 (a j K.1) G;exact a j K.1 (n.qY _ _ R J Z f K.2 r)
 refine⟨Z,u.size,λc G=>u.aP c (n.l9 k J f r c G).2 (pF c G),λc q G hq=>(u.lN c q hq).resolve_right (pF c G)⟩;rcases t.hT k N d with⟨i,p,rfl,m,a⟩|⟨m,a,f⟩<;>rcases t.hT l L Q with⟨j,q,rfl,v,y⟩|⟨v,y,k3⟩;have e':gc.ob i=gc.ob j:=Z;rw[z.inj i j p q m v Z Z e'];have s:=free l v y;rw[f3 l s]at E;rw[f1 l s,show g'.ob (dL ι S.nx T.nx i)=gc.ob i from V i]at e;exact absurd (e ▸ (z.dh i p m Z).1) (out l L k3 E y);have s:=free k m a;rw[f3 k s]at P;rw[f1 k s,show g'.ob (dL ι S.nx T.nx j)=gc.ob j from V j]at e;exact absurd (e ▸ (z.dh j q v Z).1) (out k N f P a);have s:=free k m a;have hm:=free l v y;rw[f3 k s]at P;rw[f3 l hm]at E;rw[f1 k s,f1 l hm]at e;exact n.inj k l N L f k3 P E e;rcases t.hT k _ d with⟨j,p,rfl,m,a,f⟩|⟨m,a,f⟩;have hp:S'.get j=some (.fo J):=Z;have B:gc.fo (gc.ob j) c:=Z;let⟨x,M⟩:=z.l9 j J hp Z c B;exact⟨t.sub n x,M⟩;have s:=free k m a;rw[f3 k s]at r;have B:g.fo (g.ob k) c:=Z;let⟨x,M⟩:=n.l9 k J f r c B;exact⟨x,aG_ M u.size⟩;rcases t.hT k _ d with⟨i,p,rfl,m,a,f⟩|⟨m,a,f⟩;have hp:S'.get i=some (.fo J):=Z;have dP:gc.al i:=Z;rcases t.hT l L Q with⟨j,q,rfl,v,y⟩|⟨v,y,k3⟩;have B:gc.fo (gc.ob i) (gc.ob j):=Z;exact z.oZ i J j q hp dP v Z (λe=>dH (by rw[e])) B;have s:=free l v y;rw[f3 l s]at E;have B:gc.fo (gc.ob i) (g.ob l):=Z;exact out l L k3 E y (z.l9 i J hp dP _ B).1;have s:=free k m a;rw[f3 k s]at r;have hX:=hX2 k J f r a;rcases t.hT l L Q with⟨j,q,rfl,v,y⟩|⟨v,y,k3⟩;have B:g.fo (g.ob k) (gc.ob j):=Z;rcases(z.dh j q v Z).1 with h|⟨i,q,q1,K,q3⟩;exact absurd (n.l9 k J f r _ B).2 X;let⟨W,q4,_,q6⟩:=t.hS i q q1;rcases q3 with q3|⟨R,rfl,q7⟩;rw[q3]at B;exact n.oZ k J _ W f r q4 K.2 (a i K.1) B;exact a i K.1 (n.qY _ _ R J Z f K.2 r);have hm:=free l v y;rw[f3 l hm]at E;have B:g.fo (g.ob k) (g.ob l):=Z;exact n.oZ k J l L f r k3 E dH B;rcases t.hT k _ d with⟨i,p,rfl,m,a,f⟩|⟨m,a,f⟩<;>rcases t.hT l _ Q with⟨j,q,rfl,v,y,k3⟩|⟨v,y,k3⟩;rw[z.qY i j J R Z Z Z Z];grind;grind;rw[f3 k (free k m a)]at P;rw[f3 l (free l v y)]at E;exact n.qY k l J R f k3 P E
end
section
variable{T:ao}{f:FuncId}{args:List AV}
theorem aG.frame(h:aG P U f args S r S')(d:Fits ι S S' T T')(p:Q6.length=args.length)(q:∀(i:Nat) (a b:AV),Q6[i]?=some a->args[i]?=some b->Rn ι S.nx a b)(s:Rb (dL ι S.nx T.nx) r r₀):aG P U f Q6 T r₀ T':=by refine⟨h.1,λF m A g c w t j l=>(h.2 F m _ _ c w t (d.y.inner j) ⟨l.1.trans p,λi b x u y=>?_⟩).mono ?_⟩;have hi:i<Q6.length:=Z;have n:=ax_ hi;exact q i _ b n u _ _ _ (l.2 i _ x n y);rintro e z⟨v,gc,rfl,B,C,E⟩;let⟨o,G,K,k3⟩:=d.y.outer j C E (d.fo.imp (λh k J L _=>h k J L) id);exact⟨v,o,rfl,s gc o z v k3 B,G,K⟩
theorem aG.ams(h:aG P U f args S r S')(l:wb ι S S' T T')(p:Q6.length=args.length)(q:∀(i:Nat) (a b:AV),Q6[i]?=some a->args[i]?=some b->Rn ι S.nx a b)(s:Rb (dL ι S.nx T.nx) r r₀)(t:∀(A:Nat->Prop) (g:Gh) (w:World) (args':Array Value),St U A g T w->nI g w Q6 args'->∀k J,T.get k=some (.fo J)->g.al k->∃j,j<S.nx/\ι j=k):aG P U f Q6 T r₀ T':=by refine⟨h.1,λF m A g args' w u c d=>(h.2 F m _ _ args' w u (l.inner c) ⟨d.1.trans p,λi b x y z=>?_⟩).mono ?_⟩;have hi:i<Q6.length:=Z;have n:=ax_ hi;exact q i _ b n y _ _ _ (d.2 i _ x n z);rintro e B⟨v,gc,rfl,C,E,G⟩;let⟨o,K,L,k3⟩:=l.outer c E G (.inl (t A g w args' c d));exact⟨v,o,rfl,s gc o B v k3 C,K,L⟩
end
section
open Go.Shelf
def Tryz.Ol:Go.Shelf.Ren:=⟨λ|7=>290|10=>317|n=>n,λ|23=>301|26=>3|3=>3|28=>245|0=>0|27=>244|33=>187|4=>4|n=>n,λ|n=>n⟩
theorem Tryz.aqE:Go.Proofs.SlLaysZI.n7 prog Tryz.Ol:={
 mixed:=by kernel_rfl
 f7:=⟨f290.name,by decide,func290.trans (congrArg some (by kernel_rfl))⟩
 f10:=⟨f317.name,by decide,func317.trans (congrArg some (by kernel_rfl))⟩
 t0:=underlying0
 a0:=isAgg0
 z0:=sizeOf0
 v0:=zeroValue0
 t4:=underlying4
 a4:=isAgg4
 z4:=sizeOf4
 v4:=zeroValue4
 t23:=underlying301
 a23:=isAgg301
 z23:=sizeOf301
 v23:=zeroValue301
 t26:=underlying3
 a26:=isAgg3
 z26:=sizeOf3
 v26:=zeroValue3
 t27:=underlying244
 a27:=isAgg244
 z27:=sizeOf244
 v27:=zeroValue244
 t28:=underlying245
 a28:=isAgg245
 z28:=sizeOf245
 v28:=zeroValue245
 t33:=underlying187
 a33:=isAgg187
 z33:=sizeOf187
 v33:=zeroValue187 }
def Tryz.Jw:Go.Shelf.Ren:=⟨λ|6=>289|8=>315|9=>316|11=>331|13=>333|12=>332|23=>359|24=>360|14=>350|15=>351|16=>352|17=>353|18=>354|19=>355|20=>356|21=>357|22=>358|25=>368|26=>369|27=>370|28=>371|29=>372|30=>256|31=>376|n=>n,λ|26=>3|28=>245|24=>33|0=>0|3=>3|37=>45|48=>364|50=>366|4=>4|40=>358|39=>357|45=>256|5=>5|9=>9|51=>370|55=>374|57=>378|58=>379|33=>187|n=>n,λ|n=>n⟩
theorem Tryz.ah8:Go.Proofs.SlLaysZI.n6 prog Tryz.Jw:={
 mixed:=by kernel_rfl
 f6:=⟨f289.name,by decide,func289.trans (congrArg some (by kernel_rfl))⟩
 f8:=⟨f315.name,by decide,func315.trans (congrArg some (by kernel_rfl))⟩
 f11:=⟨f331.name,by decide,func331.trans (congrArg some (by kernel_rfl))⟩
 t0:=underlying0
 a0:=isAgg0
 z0:=sizeOf0
 v0:=zeroValue0
 t24:=underlying33
 a24:=isAgg33
 z24:=sizeOf33
 v24:=zeroValue33
 t26:=underlying3
 a26:=isAgg3
 z26:=sizeOf3
 v26:=zeroValue3
 t28:=underlying245
 a28:=isAgg245
 z28:=sizeOf245
 v28:=zeroValue245
 i26:=by kernel_rfl }
def Tryz.abl:Go.Shelf.Ren:=⟨λ|5=>316|8=>333|7=>332|19=>359|20=>360|10=>350|11=>351|12=>352|13=>353|14=>354|15=>355|16=>356|17=>357|18=>358|30=>368|31=>369|32=>370|33=>371|34=>372|35=>256|40=>376|n=>n,λ|23=>33|25=>3|3=>3|32=>45|22=>33|0=>0|44=>364|46=>366|4=>4|36=>358|35=>357|41=>256|5=>5|9=>9|53=>370|57=>374|63=>378|64=>379|n=>n,λ|n=>n⟩
theorem Tryz.af5:Go.Proofs.SlLaysM.n5 prog Tryz.abl:={
 mixed:=by kernel_rfl
 f5:=⟨f316.name,by decide,func316.trans (congrArg some (by kernel_rfl))⟩
 f7:=⟨f332.name,by decide,func332.trans (congrArg some (by kernel_rfl))⟩
 f8:=func333.trans (congrArg some (by kernel_rfl))
 f10:=⟨f350.name,by decide,func350.trans (congrArg some (by kernel_rfl))⟩
 f11:=⟨f351.name,by decide,func351.trans (congrArg some (by kernel_rfl))⟩
 f12:=⟨f352.name,by decide,func352.trans (congrArg some (by kernel_rfl))⟩
 f13:=⟨f353.name,by decide,func353.trans (congrArg some (by kernel_rfl))⟩
 f14:=⟨f354.name,by decide,func354.trans (congrArg some (by kernel_rfl))⟩
 f15:=⟨f355.name,by decide,func355.trans (congrArg some (by kernel_rfl))⟩
 f16:=⟨f356.name,by decide,func356.trans (congrArg some (by kernel_rfl))⟩
 f17:=⟨f357.name,by decide,func357.trans (congrArg some (by kernel_rfl))⟩
 f18:=⟨f358.name,by decide,func358.trans (congrArg some (by kernel_rfl))⟩
 f19:=func359.trans (congrArg some (by kernel_rfl))
 f20:=func360.trans (congrArg some (by kernel_rfl))
 f30:=⟨f368.name,by decide,func368.trans (congrArg some (by kernel_rfl))⟩
 f31:=func369.trans (congrArg some (by kernel_rfl))
 f32:=func370.trans (congrArg some (by kernel_rfl))
 f33:=⟨f371.name,by decide,func371.trans (congrArg some (by kernel_rfl))⟩
 f34:=⟨f372.name,by decide,func372.trans (congrArg some (by kernel_rfl))⟩
 f35:=⟨f256.name,by decide,func256.trans (congrArg some (by kernel_rfl))⟩
 f40:=⟨f376.name,by decide,func376.trans (congrArg some (by kernel_rfl))⟩
 t0:=underlying0
 a0:=isAgg0
 z0:=sizeOf0
 v0:=zeroValue0
 t3:=underlying3
 a3:=isAgg3
 z3:=sizeOf3
 v3:=zeroValue3
 t4:=underlying4
 a4:=isAgg4
 z4:=sizeOf4
 v4:=zeroValue4
 t5:=underlying5
 a5:=isAgg5
 z5:=sizeOf5
 v5:=zeroValue5
 t9:=underlying9
 a9:=isAgg9
 z9:=sizeOf9
 v9:=zeroValue9
 t22:=underlying33
 a22:=isAgg33
 z22:=sizeOf33
 v22:=zeroValue33
 t23:=underlying33
 a23:=isAgg33
 z23:=sizeOf33
 v23:=zeroValue33
 t25:=underlying3
 a25:=isAgg3
 z25:=sizeOf3
 v25:=zeroValue3
 t32:=underlying45
 a32:=isAgg45
 z32:=sizeOf45
 v32:=zeroValue45
 t35:=underlying357
 a35:=isAgg357
 z35:=sizeOf357
 v35:=zeroValue357
 t36:=underlying358
 a36:=isAgg358
 z36:=sizeOf358
 v36:=zeroValue358
 t41:=underlying256
 a41:=isAgg256
 z41:=sizeOf256
 v41:=zeroValue256
 t44:=underlying364
 a44:=isAgg364
 z44:=sizeOf364
 v44:=zeroValue364
 t46:=underlying366
 a46:=isAgg366
 z46:=sizeOf366
 v46:=zeroValue366
 t53:=underlying370
 a53:=isAgg370
 z53:=sizeOf370
 v53:=zeroValue370
 t57:=underlying374
 a57:=isAgg374
 z57:=sizeOf374
 v57:=zeroValue374
 t63:=underlying378
 a63:=isAgg378
 z63:=sizeOf378
 v63:=zeroValue378
 t64:=underlying379
 a64:=isAgg379
 z64:=sizeOf379
 v64:=zeroValue379 }
end
end Go.Proofs.YtbdcmpknicjopaaGreat
