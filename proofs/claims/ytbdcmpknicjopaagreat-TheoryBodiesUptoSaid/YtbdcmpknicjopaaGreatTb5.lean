import Derived.Laws.BytesString
import Derived.Shelf.SlIterI.Collect
import Derived.Shelf.SlIterI.Sorted
import Derived.Shelf.SortM.Plain
import Derived.Shelf.SortM.SortNone
import Derived.Test.YtbdcmpknicjopaaGreatProg
import Derived.Test.YtbdcmpknicjopaaGreatTb4
namespace Go.Proofs.YtbdcmpknicjopaaGreat
set_option linter.all false
open Go.RowKit Proofs.Tryz
variable{A:Nat->Prop}{AI cf:QF}{B MB N j n pos sz:Nat}{G2:List (List AV)}{K:List gE}{P:Program}{Q:Exit->AA->ah->Prop}{QY args0 z:List AV}{R:AV->ah->Prop}{S S' T' er:ah}{U aE dM:AA}{Y w ws:World}{aZ9:List QO}{b:Int}{dr e:Bool}{ds:List DE}{gs:Gh}{hi lo:Option QO}{ik k':IntKind}{m:List (Nat×Nat)}{o:Op}{q:n_}{r r' r₀:AV}{rs:Array ResultVar}{s:ByteArray}{so:List (Nat×Ob)}{ι:Nat->Nat}{σ:Type}
variable{ex:Bool}{f g:FuncId}{a c i:Int}{rows:List (List AV)}{args:List AV}{x:QO}
theorem Du{F:Fence}(h:my F)(m:Machine):m.fenced P F:=by intro g _;refine⟨λa=>?_,Or.inl (h.1 _),λ_ _=>h.1 _,λ_ a=>?_⟩;rw[h.2.2]at a;cases a;rw[h.2.1]at a;cases a
theorem CallsIn.acU{F:Fence}{m:Nat}{args:Array Value}{R:Ending->World->Prop}(a:my F)(h:Calls P f args w R):CallsIn F m P f args w R:=by let⟨_,b⟩:=callsIn_wide (n:=0).2 h;refine⟨a.1 f,λc _=>?_⟩;let⟨e,d,g,r,s,x⟩:=b c (room_wide _);refine⟨e,d,g,r,?_,x⟩;cases e with|returned v=>exact StepsIn.mono (λm _=>Du a m) s|panicked chain=>exact StepsIn.mono (λm _=>Du a m) s|outgrown=>exact s
theorem St.below{A:Nat->Prop}{g:Gh}{w':World}(d:St Y A g S w)(a:Below w.heap.size w w'):Ext A g w ⟨g.ob,g.cp,g.al,λb q=>g.fz b q\/w.heap.size<=b/\b<w'.heap.size,g.fo⟩ w'/\St Y A ⟨g.ob,g.cp,g.al,λb q=>g.fz b q\/w.heap.size<=b/\b<w'.heap.size,g.fo⟩ S w':=by have r:Later g w ⟨g.ob,g.cp,g.al,λb q=>g.fz b q\/w.heap.size<=b/\b<w'.heap.size,g.fo⟩ w':=⟨λ_ h=>h,λ_ _=>rfl,λ_ _=>rfl,λ_ _ h=>.inl h,λb q f=>World.cell?_of_block (a.block b (d.dN b q f))⟩;have s:Ext A g w ⟨g.ob,g.cp,g.al,λb q=>g.fz b q\/w.heap.size<=b/\b<w'.heap.size,g.fo⟩ w':={r with size:=a.size,aQ:=λb u _=>a.block b u,lS:=λb q h=>h.elim .inl λe=>.inr (d.up b e.1) };refine⟨s,d.next s a.os a.tape a.output d.al (λk p v j=>?_) d.inj (λb q f=>?_) rfl (λ_ _ l i=>⟨l,i⟩) λk o l i=>.inr ⟨k,o,i,l,rfl,.inl rfl⟩⟩;let⟨i,t,x⟩:=d.cY k p v j;exact⟨i,aD_ t a.size,x.later r (a.block _ t) (λq m=>m.elim id λe=>absurd e.1 I) λJ B=>⟨rfl,a.size,λc n=>a.block c (d.l_ k J I j c n).2,λc q n m=>m.elim id λh=>absurd h.1 (by have:=(d.l_ k J I j c n).2;omega)⟩⟩;rcases f with f|f;exact aD_ (d.dN b q f) a.size;grind
theorem St.start(w:World):St w (λb=>w.heap.size<=b) ⟨λ_=>0,λ_=>0,λ_=>False,λb _=>b<w.heap.size,λ_ _=>False⟩ ah.none_ w :=have c:∀k o,¬ah.none_.get k=some o:=λk o h=>by simp[ah.none_]at h
 ⟨Below.refl _ _,λ_ h=>h,λ_ h=>h,λk a=>a.elim,λk o a=>absurd a (c k o),λj k o p d=>absurd d (c j o),λb q h=>h,λb q h=>h,λk J a=>absurd a (c k _),λk J j o a=>absurd a (c k _),λj k J e d=>absurd d (c j _)⟩
theorem ao.calls{x:Value}{args':Array Value}(h:ao P w f args (.v x))(a:nL ⟨λ_=>0,λ_=>0,λ_=>False,λb _=>b<w.heap.size,λ_ _=>False⟩ w args args'):Calls P f args' w λe w'=>e=.returned x/\Below w.heap.size w w':=by let⟨_,S',_,h⟩:=h;refine(callsIn_wide (n:=0).1 (h Fence.wide 0 _ _ args' w my.wide (St.start w) a)).mono ?_;rintro e w'⟨v,g,rfl,c,d,i⟩;cases cC c;exact⟨rfl,d.base⟩
theorem aiv{op:BinOp}{isB:BK}{t:TypeId}{a b:AV}(g:isB=.b->P.underlying t=some .bool)(h:ad7 op isB a b=some e):∃x y,a=.v x/\b=.v y/\x8 P op t x y=some (.bool e)/\(∀k i j,x=.int k i->y=.int k j->arith op i j=none)/\∀s c,x=.string s->y=.string c->op≠.add:=by unfold ad7 at h;split at h;rename_i k a k' b;split at h;rename_i l;refine⟨_,_,rfl,rfl,?_,?_,λs c h=>I⟩;grind[x8];intro k i j d f;cases op<;>simp only[reduceCtorEq]at h<;>rfl;grind;rename_i a b;refine⟨_,_,rfl,rfl,?_,λk i j h=>I,λs c d f m=>?_⟩;grind[x8];grind;rename_i a b;refine⟨_,_,rfl,rfl,?_,λk i j h=>I,λs c h=>I⟩;split at h;grind[x8];grind[x8];grind;grind
theorem zr{op:BinOp}{isB:BK}{y:QO}(h:res P.toTables o=some (.bin op isB x y)):∃t u v s,o=.binOp op t u v s/\x=qo u/\y=qo v/\(isB=.b->P.underlying t=some .bool):=by cases o with|binOp e t u v s =>simp only[res,cN]at h;split at h;rename_i f;injection h with h;injection h with a b c d;subst a b c d;exact⟨_,_,_,_,rfl,rfl,rfl,λ_=>f⟩;injection h with h;injection h with a b c d;subst a b c d;exact⟨_,_,_,_,rfl,rfl,rfl,λh=>I⟩;injection h with h;injection h with a b c d;subst a b c d;exact⟨_,_,_,_,rfl,rfl,rfl,λh=>I⟩;injection h with h;injection h with a b c d;subst a b c d;exact⟨_,_,_,_,rfl,rfl,rfl,λh=>I⟩;grind;injection h with h;injection h with a b c d;subst a b c d;exact⟨_,_,_,_,rfl,rfl,rfl,λh=>I⟩|_ =>
  simp only[res]at h;repeat' split at h
  all_goals cases h
theorem D.bit{op:BinOp}{isB:BK}{y:QO}(h:ad7 op isB (x.ev U.tm) (y.ev U.tm)=some e):D P Y dr (.bin op isB x y) U S (.v (.bool e)) S:=by refine D.of rfl λo i=>?_;obtain⟨t,u,v,s,rfl,rfl,rfl,j⟩:=zr i;rw[aU,aU]at h;let⟨x,y,l,m,g,q,n⟩:=aiv j h;simp only[bX,l,m];split;rename_i k a k' b d f;injection d with d;injection f with f;subst d f;split;rename_i c r;split;grind;rename_i p;simp only[x8]at g;rw[p]at g;simp at g;rw[g];exact zx.mk ⟨rfl,rfl⟩;rename_i a b d f;injection d with d;injection f with f;subst d f;have w:=n _ _ rfl rfl;split;grind;rw[g];exact zx.mk ⟨rfl,rfl⟩;rename_i a b z A d f;injection d with d;injection f with f;subst d f;rw[g];exact zx.mk ⟨rfl,rfl⟩;grind
theorem D.ari{op:BinOp}{isB:BK}{y:QO}{k:IntKind}(h1:x.ev U.tm=.v (.int k a))(h2:y.ev U.tm=.v (.int k b))(h:arith op a b=some c):D P Y dr (.bin op isB x y) U S (.v (.int k (k.wrap c))) S:=by refine D.of rfl λo d=>?_;obtain⟨t,u,v,s,rfl,rfl,rfl,e⟩:=zr d;rw[aU]at h1 h2;simp only[bX,h1,h2,h,decide_true];exact⟨_,rfl,rfl,rfl⟩
theorem D.cat{isB:BK}{y:QO}{a b:ByteArray}(h1:x.ev U.tm=.v (.string a))(h2:y.ev U.tm=.v (.string b))(h:a.size+b.size<=9223372036854775807):D P Y dr (.bin .add isB x y) U S (.v (.string (a++b))) S:=by refine D.of rfl λo c=>?_;obtain⟨t,u,v,s,rfl,rfl,rfl,d⟩:=zr c;rw[aU]at h1 h2;simp only[bX,h1,h2];exact⟨h,rfl,rfl⟩
theorem D.neg{k:IntKind}(h1:x.ev U.tm=.v (.int k a)):D P Y dr (.neg x) U S (.v (.int k (k.wrap (0-a)))) S:=by refine D.of rfl λo b=>?_;cases o<;>simp only[res]at b<;>(repeat' split at b)<;>(try cases b);rw[aU]at h1;simp only[bX,h1];exact⟨_,rfl,rfl,rfl⟩
theorem D.conv{k:IntKind}(h1:x.ev U.tm=.v (.int k' a)):D P Y dr (.conv k x) U S (.v (.int k (k.wrap a))) S:=by refine D.of rfl λo b=>?_;cases o<;>simp only[res,cN]at b<;>(repeat' split at b)<;>(try cases b);rename_i c d;rw[aU]at h1;simp only[bX,h1,c,d];exact⟨_,rfl,rfl,rfl⟩
def fp(f:AV)(args:List AV):Option (FuncId×List AV):=match f with
 |.v (.func (.func g) a b)=>match a.toList,b.toList with|[],[]=>some (g,args)|_,_=>none
 |.fn (.func g) first cap=>some (g,first++args++cap)|_=>none
theorem mC{f:QO}{args:List QO}(h:res P.toTables o=some (.call f args)):∃c u,o=.call c/\c.callee=.value u/\f=qo u/\args=c.args.toList.map qo:=by cases o with
 |call c =>
  simp only[res]at h;split at h;grind
  ·repeat' split at h
   all_goals cases h
  grind|_ =>
  simp only[res]at h;repeat' split at h
  all_goals cases h
theorem jL{l:List Operand}:(l.map qo).map (·.ev U.tm)=l.map U.ev:=by rw[bj_];exact aQ_ λx _=>aU x
theorem D.call{f:QO}(h:fp (f.ev U.tm) (aZ9.map (·.ev U.tm))=some (g,args))(j:aF P Y g args S r S')(t:dr=true->S'=S):D P Y dr (.call f aZ9) U S r S':=by cases dr with|false =>intro n o k;refine jV.Np ?_;obtain⟨c,u,l,m,rfl,rfl⟩:=mC k;rw[jL,aU]at h;unfold fp at h;rw[l];simp only[bX,m];split at h;rename_i p a b d;split at h;rename_i q s;injection h with h;injection h with e i;subst e i;simp only[HY,d,q,s];exact⟨r,S',j,rfl,rfl⟩;grind;rename_i p a b d;injection h with h;injection h with e i;subst e i;simp only[HY,d];exact⟨r,S',j,rfl,rfl⟩;grind|true =>intro n o k;refine VX.ofD ?_;obtain⟨c,u,l,m,rfl,rfl⟩:=mC k;rw[jL,aU]at h;unfold fp at h;cases t rfl;rw[l];simp only[eM,m];split at h;rename_i p a b d;split at h;rename_i q s;injection h with h;injection h with e i;subst e i;simp only[LM,d,q,s];exact⟨r,j,rfl,rfl⟩;grind;rename_i p a b d;injection h with h;injection h with e i;subst e i;simp only[LM,d];exact⟨r,j,rfl,rfl⟩;grind
def amZ(str:Bool):AV->Option Nat
 |.sl _ rows=>match str with|false=>some rows.length|true=>none
 |.ob _ _ _ len _=>match str with|false=>some len|true=>none
 |.v (.string s)=>match str with|true=>some s.size|false=>none
 |_=>none
theorem D.len{str:Bool}{m:Nat}(h:amZ str (x.ev U.tm)=some m):D P Y dr (.len str x) U S (.v (.int .i64 m)) S:=by refine D.of rfl λo b=>?_;cases o<;>simp only[res,cN]at b<;>(repeat' split at b)<;>(try cases b);all_goals rw[aU]at h;simp only[bX,rB,aF_,aR_, *];refine bQ.mk (a:=m) ?_ ⟨rfl,rfl⟩;unfold lenOf;unfold amZ at h;split at h<;>(try split at h)<;>(try cases h)<;>first|contradiction|simp only[isStr,rq, *]
theorem D.ind{m:Nat}{i:QO}{row:List AV}{k:IntKind}{j:Int}(h1:x.ev U.tm=.sl ex rows)(h2:i.ev U.tm=.v (.int k j))(h3:idx rows j=some row)(h4:∀r∈rows,r.length=m):D P Y dr (.yW m x i) U S (.ip row) S:=by refine D.of rfl λo a=>?_;cases o<;>simp only[res,cN,gH]at a<;>(repeat' split at a)<;>(try cases a);rw[aU]at h1 h2;simp only[bX, *];exact bQ.mk rfl ⟨h4,rfl,rfl⟩
theorem D.atV{m:Nat}{i:QO}{k off len:Nat}{cx:Option Nat}{j:Int}(h1:x.ev U.tm=.ob k m off len cx)(h2:i.ev U.tm=.v (.int ik j))(h3:0<=j)(h4:j<len):D P Y dr (.yW m x i) U S (.pt k m (off+j.toNat) 0) S:=by refine D.of rfl λo a=>?_;cases o<;>simp only[res,cN,gH]at a<;>(repeat' split at a)<;>(try cases a);rw[aU]at h1 h2;rename_i b _ c;simp only[bX,h1,h2,b,c];exact⟨trivial,h3,h4,rfl,rfl⟩
theorem D.Ws{i:QO}{j:Int}{b:UInt8}(h1:x.ev U.tm=.v (.string s))(h2:i.ev U.tm=.v (.int ik j))(h3:idx s.data.toList j=some b):D P Y dr (.Qi x i) U S (.v (.int .u8 b.toNat)) S:=by refine D.of rfl λo a=>?_;cases o<;>simp only[res,cN,gH]at a<;>(repeat' split at a)<;>(try cases a);rw[aU]at h1 h2;simp only[bX, *];exact bQ.mk rfl ⟨rfl,rfl⟩
theorem D.min{y:QO}{k:IntKind}(h1:x.ev U.tm=.v (.int k a))(h2:y.ev U.tm=.v (.int k b)):D P Y dr (.min x y) U S (.v (.int k (min a b))) S:=by refine D.of rfl λo c=>?_;cases o<;>simp only[res,cN]at c<;>(repeat' split at c)<;>(try cases c);rw[aU]at h1 h2;simp only[bX,rB,aF_,aR_,decide_true, *];exact⟨rfl,rfl⟩
theorem D.max{y:QO}{k:IntKind}(h1:x.ev U.tm=.v (.int k a))(h2:y.ev U.tm=.v (.int k b)):D P Y dr (.max x y) U S (.v (.int k (max a b))) S:=by refine D.of rfl λo c=>?_;cases o<;>simp only[res,cN]at c<;>(repeat' split at c)<;>(try cases c);rw[aU]at h1 h2;simp only[bX,rB,aF_,aR_,decide_true, *];exact⟨rfl,rfl⟩
theorem D.quo{isB:BK}{y:QO}{k:IntKind}(h1:x.ev U.tm=.v (.int k a))(h2:y.ev U.tm=.v (.int k b))(f:b≠0):D P Y false (.bin .quo isB x y) U S (.v (.int k (k.wrap (a.tdiv b)))) S:=by refine D.run λn o h=>?_;obtain⟨t,u,v,s,i,rfl,rfl,j⟩:=zr h;rw[aU]at h1 h2;refine bj.quiet λA g q w l c=>?_;have d:=c.ev u;have e:=c.ev v;rw[h1]at d;rw[h2]at e;refine⟨_,?_,.v⟩;simp[execOp,i,cC d,cC e,eqGuard,binOp,Op.intDiv,f]
theorem D.rem{isB:BK}{y:QO}{k:IntKind}(h1:x.ev U.tm=.v (.int k a))(h2:y.ev U.tm=.v (.int k b))(f:b≠0):D P Y false (.bin .rem isB x y) U S (.v (.int k (a.tmod b))) S:=by refine D.run λn o h=>?_;obtain⟨t,u,v,s,i,rfl,rfl,j⟩:=zr h;rw[aU]at h1 h2;refine bj.quiet λA g q w l c=>?_;have d:=c.ev u;have e:=c.ev v;rw[h1]at d;rw[h2]at e;refine⟨_,?_,.v⟩;simp[execOp,i,cC d,cC e,eqGuard,binOp,Op.intDiv,f]
section
variable{rd:Bool}{ex:Exit}{i:QI}{l:List QI}
def H.op(a:bD U.tm i.g=some true)(h:D P Y dr i.q U S r S')(k:H P Y rd n Q (.bk dr l K) (bW i.d U r) S'):H P Y rd n Q (.bk dr (i::l) K) U S:=lD.op a h k
theorem H.bif(a:bD U.tm i.g=some true)(h:D P Y dr i.q U S (.v (.bool e)) S')(b:e=true->H P Y rd n Q (.bk dr l K) (bW i.d U (.v (.bool true))) S')(c:e=false->H P Y rd n Q (.bk dr l K) (bW i.d U (.v (.bool false))) S'):H P Y rd n Q (.bk dr (i::l) K) U S:=by refine lD.op a h ?_;cases e with|true=>exact b rfl|false=>exact c rfl
def H.int{e:Int}(a:bD U.tm i.g=some true)(h:D P Y dr i.q U S (.v (.int ik e)) S')(k:∀d,d=e->H P Y rd n Q (.bk dr l K) (bW i.d U (.v (.int ik d))) S'):H P Y rd n Q (.bk dr (i::l) K) U S:=lD.op a h (k e rfl)
def H.str{e:ByteArray}(a:bD U.tm i.g=some true)(h:D P Y dr i.q U S (.v (.string e)) S')(k:∀d,d=e->H P Y rd n Q (.bk dr l K) (bW i.d U (.v (.string d))) S'):H P Y rd n Q (.bk dr (i::l) K) U S:=lD.op a h (k e rfl)
theorem O9(h1:-9223372036854775808<=c)(h2:c<=9223372036854775807):IntKind.i64.wrap c=c:=wrap64 h1 h2
theorem D.yU{op:BinOp}{isB:BK}{y:QO}(h1:x.ev U.tm=.v (.int .i64 a))(h2:y.ev U.tm=.v (.int .i64 b))(h:arith op a b=some c)(d:-9223372036854775808<=c)(e:c<=9223372036854775807):D P Y dr (.bin op isB x y) U S (.v (.int .i64 c)) S:=by have:=D.ari (P:=P) (Y:=Y) (S:=S) (dr:=dr) (isB:=isB) h1 h2 h;rw[O9 d e]at this;exact this
theorem D.am0(h1:x.ev U.tm=.v (.int k' a))(b:-9223372036854775808<=a)(c:a<=9223372036854775807):D P Y dr (.conv .i64 x) U S (.v (.int .i64 a)) S:=by have:=D.conv (P:=P) (Y:=Y) (S:=S) (dr:=dr) (k:=.i64) h1;rw[O9 b c]at this;exact this
def D.bM{f:QO}(h:fp (f.ev U.tm) (aZ9.map (·.ev U.tm))=some (g,args))(a:ao P Y g args r)(b:iU args):D P Y dr (.call f aZ9) U S r S:=D.call h (a.WM b S) λ_=>rfl
def D.tI{f:QO}(h:fp (f.ev U.tm) (aZ9.map (·.ev U.tm))=some (g,args0))(a:ao P Y g args r)(b:iU args)(hs:Cg r)(c:iW S args0 args):D P Y dr (.call f aZ9) U S r S:=D.call h (a.QM b hs c) λ_=>rfl
def xj(f:Nat->AV):List (Nat×AV)->Nat->AV|[]=>f|p::l=>bL (xj f l) p.1 p.2
inductive QR where|t (n:Nat)|cell (k:LK) (n:Nat)
def Cc(T:Tables):List ResultVar->Option (List QR)
 |[]=>some []|.tmp n::l=>match Cc T l with|some a=>some (.t n::a)|none=>none
 |.cell n t::l=>match Tk T t,Cc T l with|some k,some a=>some (.cell k n::a)|_,_=>none
def yX(f:Nat->AV)(S:ah):List QR->Option (List AV)
 |[]=>some []|.t n::l=>match yX f S l with|some b=>some (f n::b)|none=>none
 |.cell k n::l=>match xz k S (f n),yX f S l with|some a,some b=>some (a::b)|_,_=>none
def Mu(b:List QR)(ex:Exit)(U:AA)(S:ah):Option (AV×ah):=match OZ ex,MY S U.df with
 |true,true=>match yX U.tm (oU S U.df) b with|some [a]=>some (a,oU S U.df)|some l=>some (.aJ l,oU S U.df)|none=>none
 |_,_=>none
def vm(a:List QR)(R:AV->ah->Prop)(ex:Exit)(U:AA)(S:ah):Prop:=∃r S',Mu a ex U S=some (r,S')/\R r S'
theorem Qz{l:List ResultVar}:∀{a:List QR}{m:List AV},Cc P.toTables l=some a->yX U.tm S a=some m->Hk P U S l=some m:=by induction l with|nil=>intro a m h k;cases oJ_ h;exact k|cons v l b =>intro a m h k;cases v with|tmp n =>simp only[Cc]at h;split at h;grind[yX,Hk,Xr];grind|cell n t =>simp only[Cc]at h;split at h;grind[yX,OF,Hk,Xr];grind
theorem Tq{rs:Array ResultVar}{a:List QR}(b:Cc P.toTables rs.toList=some a)(h:vm a R ex U S):Sv P rs R ex U S:=by
 let⟨r,S',h,k⟩:=h;unfold Mu at h;split at h;rename_i c d;have key:∀m,yX U.tm (oU S U.df) a=some m->Hk P U (oU S U.df) rs.toList=some m:=λm e=>Qz b e;unfold Sv;rw[d];have fin:Gg P rs U (oU S U.df)=some r/\oU S U.df=S':=by grind[Gg]
 rw[fin.1,fin.2];cases ex<;>first|exact k|cases c
 grind
def H.fin{a:List QR}(h:Mu a ex U S=some (r,S'))(k:R r S'):H P Y rd n (vm a R) (.out ex []) U S:=⟨r,S',h,k⟩
structure qz(P:Program)(f:FuncId)(q:QC×List QR)(n:Nat):Prop where out:∃fn c,P.funcs[f]?=some fn/\fn.body=some c/\fn.ntmps=n/\Cc P.toTables fn.results.toList=some q.2/\comp P.toTables n c=some q.1/\gR P c=true/\∀(xs:Array Value)(w:World),(callFunc f xs).run P w=.ok (.enter f xs) w
def Yb(T:Tables)(fn:Func):Option (QC×List QR):=match fn.body with
 |some c=>match comp T fn.ntmps c,Cc T fn.results.toList with|some q,some a=>some (q,a)|_,_=>none
 |none=>none
def Lq(P:Program)(fn:Func):Bool:=match fn.body with|some c=>gR P c|none=>false
theorem qz.of{q:QC×List QR}{fn:Func}{T:Tables}(e:P.funcs[f]?=some fn)(a:Yb T fn=some q)(g:P.toTables=T)(h:fn.ntmps=n)(b:Lq P fn=true)(i:∀(xs:Array Value) (w:World),(callFunc f xs).run P w=.ok (.enter f xs) w):qz P f q n:=by subst g;unfold Yb at a;unfold Lq at b;cases d:fn.body with|none=>rw[d]at a;cases a|some c =>rw[d]at a b;simp only at a;split at a;rename_i q1 k l j;cases oJ_ a;exact⟨⟨fn,c,e,d,h,j,I,b,i⟩⟩;grind
theorem H.mono{a:Exit->AA->ah->Prop}(b:∀ex U S,Q ex U S->a ex U S){c:QC}(h:H P Y rd n Q (.run c []) U S):H P Y rd n a (.run c []) U S:=by intro d e f;let⟨ex,aE,S',g,i⟩:=h d e f;exact⟨ex,aE,S',g,b _ _ _ i⟩
theorem qz.avE{q:QC×List QR}(F:qz P f q n)(a:args.length<=n)(b:Pure r)(h:H P Y false n (vm q.2 λr' S=>aH S r' r) (.run q.1 []) ⟨qc args,[]⟩ ah.none_):ao P Y f args r:=by let⟨fn,c,d,e,g,i,j,k,l⟩:=F.out;exact ao.of_wp d e l g a b (H.mono (λex U S=>Tq i) h c j k)
theorem qz.QJ{q:QC×List QR}(F:qz P f q n)(a:args.length<=n)(h:H P Y false n (vm q.2 R) (.run q.1 []) ⟨qc args,[]⟩ S):∃r S',aF P Y f args S r S'/\R r S':=by let⟨fn,c,b,d,e,g,i,j,k⟩:=F.out;exact aF.of_wp b d k e a (H.mono (λex U S=>Tq g) h c i j)
theorem aH.of_eq{S:ah}{a b:AV}(h:a=b):aH S a b:=by subst h;exact aH.refl _
end
structure Hd where
 h:{U β:Type}->(U->β)->U->β
 eq:∀{U β:Type}(f:U->β)(a:U),h f a=f a
def Hd.plain:Hd:=⟨λf a=>f a,λ_ _=>rfl⟩
def aY(O:Hd){T:Type}(f:T->List AV)(ex:Bool)(l:List T):AV:=.sl ex (O.h (List.map f) l)
section
variable{O:Hd}{T:Type}{f:T->List AV}{l:List T}{ex:Bool}
theorem bF:aY O f ex l=.sl ex (l.map f):=by rw[aY,O.eq]
theorem az:(O.h (List.map f) l).length=l.length:=by rw[O.eq,bo_]
theorem eZ{k:Nat}{x:T}(hi:i=(k:Int))(h:l[k]?=some x):idx (O.h (List.map f) l) i=some (f x):=by rw[O.eq];exact aiq hi h
theorem ec{m:Nat}(h:∀x,(f x).length=m):∀r∈O.h (List.map f) l,r.length=m:=by rw[O.eq];intro r a;obtain⟨x,_,rfl⟩:=aB_.1 a;exact h x
theorem ew(h:∀x∈l,∀a∈f x,Pure a):Pure (aY O f ex l):=by rw[bF];refine .sl λrow b a c=>?_;obtain⟨x,d,rfl⟩:=aB_.1 b;exact h x d a c
end
inductive eE(B:Nat):AV->Prop where|u:eE B .u|v {x:Value}:eE B (.v x)|agg {l:List AV}(h:∀a∈l,eE B a):eE B (.agg l)|aJ {l:List AV}(h:∀a∈l,eE B a):eE B (.aJ l)|sl {ex:Bool}{rows:List (List AV)}(h:∀row∈rows,∀a∈row,eE B a):eE B (.sl ex rows)|ip {cs:List AV}(h:∀a∈cs,eE B a):eE B (.ip cs)|ob {k sz off len:Nat}{cx:Option Nat}(h:k<B):eE B (.ob k sz off len cx)|pt {k sz i j:Nat}(h:k<B):eE B (.pt k sz i j)|mp {k:Nat}(h:k<B):eE B (.mp k)|yl {k:Nat}(h:k<B):eE B (.yl k)|gr {k sz len:Nat}(h:k<B):eE B (.gr k sz len)|fn {f:Fn}{l m:List AV}(h3:∀a∈l,eE B a) (h4:∀a∈m,eE B a):eE B (.fn f l m)
theorem Pure.bu{a:AV}(h:Pure a):eE B a:=by induction h with|v=>exact .v|agg _ b=>exact .agg b|aJ _ b=>exact .aJ b|sl _ b=>exact .sl b|ip _ b=>exact .ip b|fn _ _ c d=>exact .fn c d
theorem aN.bu{g g':Gh}(n:∀k,k<B->g.al k->g'.al k)(p:∀k,k<B->g'.ob k=g.ob k)(J:∀k,k<B->g'.cp k=g.cp k)(s:∀b o,g.fz b o->g'.fz b o){a:AV}{x:Value}(h:aN g w a x)(c:eE B a):aN g' w a x:=by induction h with
 |u=>exact .u|v=>exact .v|agg q h m=>cases c with|agg c=>exact .agg q λi a x d e=>m i a x d e (c _ (am_ d))
 |aJ q h m=>cases c with|aJ c=>exact .aJ q λi a x d e=>m i a x d e (c _ (am_ d))
 |nil r=>exact .nil r|sl t y f z h A m =>cases c with|sl c =>exact .sl t y f z (λi j row a d e=>⟨s _ _ (h i j row a d e).1,(h i j row a d e).2⟩) λi j row a d e=>m i j row a d e (c _ (am_ d) _ (am_ e))
 |ip h A m =>cases c with|ip c=>exact .ip (λj a d=>⟨s _ _ (h j a d).1,(h j a d).2⟩) λj a d=>m j a d (c _ (am_ d))
 |ob l r d C f=>cases c with|ob c=>rw[<-p _ c];exact .ob (n _ c l) r I I f
 |pt l=>cases c with|pt c=>rw[<-p _ c];exact .pt (n _ c l)
 |mp l=>cases c with|mp c=>rw[<-p _ c];exact .mp (n _ c l)
 |yl l=>cases c with|yl c=>rw[<-p _ c];exact .yl (n _ c l)
 |lR=>exact .lR|gr l C f=>cases c with|gr c=>rw[<-p _ c];exact .gr (n _ c l) I f
 |fn d e K L E F =>cases c with|fn c G=>exact .fn d e (λi a x d e=>E i a x d e (c _ (am_ d))) λi a x d e=>F i a x d e (G _ (am_ d))
def kH(B:Nat):Ob->Prop|.arr _ rows _ _=>∀row∈rows,∀a∈row,eE B a|.mp b=>∀e∈b,eE B e.2|.mb b=>∀e∈b,eE B e.2|.lp _ _ tm _ _ _=>∀t,eE B (tm t)|.df=>True|.si _ _=>True|.fo _=>True|.un=>True
def fh(B:Nat)(f:Nat->Nat)(j:Nat):Nat:=match Nat.blt j B with|true=>j|false=>f j
theorem sK{f:Nat->Nat}(h:j<B):fh B f j=j:=by have:Nat.blt j B=true:=bZ_ h;simp only[fh,this]
def Gh.kF(g:Gh)(B N:Nat)(f:Nat->Nat):Gh:=⟨λj=>g.ob (fh B f j),λj=>g.cp (fh B f j),λj=>j<N/\g.al (fh B f j),g.fz,g.fo⟩
section
variable{g:Gh}{f:Nat->Nat}
theorem aN.kF{a:AV}{x:Value}(e:B<=N)(h:aN g w a x)(d:eE B a):aN (g.kF B N f) w a x:=by refine aN.bu (g:=g) (g':=g.kF B N f) (B:=B) (λk c j=>(⟨X,by grind[sK]⟩:k<N/\g.al (fh B f k))) (λk c=>?_) (λk c=>?_) (λb o h=>h) h d;show g.ob (fh B f k)=g.ob k;rw[sK c];show g.cp (fh B f k)=g.cp k;rw[sK c]
theorem fm.kF{b C:Nat}{o:Ob}(q:B<=N)(h:fm g w b C o)(r:kH B o):fm (g.kF B N f) w b C o:=by cases o with|arr sz rows fz ex =>let⟨E,F,d,l,m,p,u,v,y⟩:=h;refine⟨E,F,d,l,m,p,λi row n=>⟨(u i row n).1,λj a c=>?_⟩,v,y⟩;let⟨x,G,K⟩:=(u i row n).2 j a c;exact⟨x,G,K.kF q (r _ (am_ n) _ (am_ c))⟩|mp M =>let⟨entries,clock,d,l,m⟩:=h;refine⟨entries,clock,d,l,λi k a c=>?_⟩;let⟨e,z,A,n⟩:=m i k a c;exact⟨e,z,A,n.kF q (r _ (am_ c))⟩|mb M =>let⟨entries,d,l,m,p⟩:=h;refine⟨entries,d,l,λi k a c=>?_,p⟩;let⟨e,z,A,n⟩:=m i k a c;exact⟨e,z,A,n.kF q (r _ (am_ c))⟩|lp st R tm S assign body =>let⟨L,d,l,m,p,u,v,y,P⟩:=h;exact⟨L,d,l,m,p,u,v,λt Q=>(y t Q).kF q (r t),P⟩|df=>exact h|si s pos=>exact h|fo J=>exact h|un=>exact h.elim
theorem St.kF(c:St Y A g S w)(L:B<=S'.nx)(E:∀j o,S'.get j=some o->(∃a,S.get (fh B f j)=some a/\(∀b t,fm g w b t a->fm (g.kF B S'.nx f) w b t o)/\∀J,o=.fo J->a=.fo J)\/S.nx<=fh B f j)(x:∀i j o p,S'.get i=some o->S'.get j=some p->fh B f i=fh B f j->i=j):St Y A (g.kF B S'.nx f) S' w:=by have n:∀j o,S'.get j=some o->(g.kF B S'.nx f).al j->∃a,S.get (fh B f j)=some a/\(∀b t,fm g w b t a->fm (g.kF B S'.nx f) w b t o)/\∀J,o=.fo J->a=.fo J:=λj o l m=>(E j o l).resolve_right λh=>absurd (c.al _ m.2) X;refine⟨c.base,c.up,c.lo,λk d=>d.1,λk o d m=>?_,λi j o p hi l y q e=>?_,c.dN,c.uv,λk J d m=>?_,λk J j o d m l q F=>?_,λj k J G l d q z=>?_⟩;let⟨a,r,K,_⟩:=n k o d m;let⟨s,u,C⟩:=c.cY _ a r m.2;exact⟨s,u,K _ _ C⟩;let⟨a,r,_⟩:=n i o hi y;let⟨v,s,_⟩:=n j p l q;exact x i j o p hi l (c.inj _ _ a v r s y.2 q.2 e);let⟨a,r,_,s⟩:=n k _ d m;exact c.l_ _ J I m.2;let⟨a,r,_,s⟩:=n k _ d m;let⟨v,u,_⟩:=n j _ l q;exact c.oV _ J _ v I m.2 u q.2 λe=>F (x j k o _ l d e);let⟨a,r,_,s⟩:=n j _ l q;let⟨v,u,_,C⟩:=n k _ d z;exact x j k _ _ l d (c.rp _ _ J G I I q.2 z.2)
theorem Ext.kF(a:Ext A gs ws g w)(d:B<=N)(c:∀k,gs.al k->k<B):Ext A gs ws (g.kF B N f) w :=
 { al:=λk b=>⟨I,by rw[sK (c k b)];exact a.al k b⟩
   ob:=λk b=>by show g.ob (fh B f k)=gs.ob k;rw[sK (c k b)];exact a.ob k b
   cp:=λk b=>by show g.cp (fh B f k)=gs.cp k;rw[sK (c k b)];exact a.cp k b
   fz:=a.fz
   cell:=a.cell
   size:=a.size
   aQ:=a.aQ
   lS:=a.lS }
end
def aX:List (Nat×Nat)->Nat->Nat|[],j=>j|p::m,j=>match Nat.beq p.1 j with|true=>p.2|false=>aX m j
def fJ:List (Nat×Ob)->Nat->Option Ob|[],_=>none|p::l,j=>match Nat.beq p.1 j with|true=>some p.2|false=>fJ l j
theorem fW:∀{l:List (Nat×Ob)}{j:Nat}{o:Ob},fJ l j=some o->(j,o)∈l|[],j,o,h=>by cases h|(a,b)::l,j,o,h=>by simp only[fJ]at h;split at h;rename_i e;cases aS_ e;cases oJ_ h;simp;exact List.mem_cons_of_mem _ (fW h)
inductive BQ(B:Nat)(m:List (Nat×Nat))(N:Nat)(f:Nat->AV):Nat->AV->Prop where|aK {t:Nat}{a:AV}(h:f t=a) (hk:eE B a):BQ B m N f t a|new {t j sz off len:Nat}{cx:Option Nat}(h:f t=.ob (fh B (aX m) j) sz off len cx) (hj:Nat.blt j N=true):BQ B m N f t (.ob j sz off len cx)|jI {t j sz len:Nat}(h:f t=.gr (fh B (aX m) j) sz len) (hj:Nat.blt j N=true):BQ B m N f t (.gr j sz len)|lR {t j sz:Nat}(h:f t=.sl true []):BQ B m N f t (.gr j sz 0)|pj {t j sz i q:Nat}(h:f t=.pt (fh B (aX m) j) sz i q) (hj:Nat.blt j N=true):BQ B m N f t (.pt j sz i q)|vK {t j:Nat}(h:f t=.mp (fh B (aX m) j)) (hj:Nat.blt j N=true):BQ B m N f t (.mp j)
def Ts(B:Nat)(m:List (Nat×Nat))(N:Nat)(f:Nat->AV):List (Nat×AV)->Prop|[]=>True|p::l=>BQ B m N f p.1 p.2/\Ts B m N f l
inductive lM(B:Nat)(m:List (Nat×Nat))(N:Nat):AV->AV->Prop where|aK {a:AV}(hk:eE B a):lM B m N a a|new {j k sz off len:Nat}{cx:Option Nat}(h:k=fh B (aX m) j) (hj:Nat.blt j N=true):lM B m N (.ob k sz off len cx) (.ob j sz off len cx)|jI {j k sz len:Nat}(h:k=fh B (aX m) j) (hj:Nat.blt j N=true):lM B m N (.gr k sz len) (.gr j sz len)|lR {j sz:Nat}:lM B m N (.sl true []) (.gr j sz 0)|pj {j k sz i q:Nat}(h:k=fh B (aX m) j) (hj:Nat.blt j N=true):lM B m N (.pt k sz i q) (.pt j sz i q)|vK {j k:Nat}(h:k=fh B (aX m) j) (hj:Nat.blt j N=true):lM B m N (.mp k) (.mp j)
def HI(B:Nat)(m:List (Nat×Nat))(N:Nat):List AV->List AV->Prop|[],[]=>True|a::l,b::c=>lM B m N a b/\HI B m N l c|_,_=>False
def Pm(B:Nat)(m:List (Nat×Nat))(N:Nat):List (List AV)->List (List AV)->Prop|[],[]=>True|a::l,b::c=>HI B m N a b/\Pm B m N l c|_,_=>False
theorem HI.at:∀{l e:List AV},HI B m N l e->l.length=e.length/\∀(i:Nat)(b:AV),e[i]?=some b->∃a,l[i]?=some a/\lM B m N a b|[],[],_=>⟨rfl,λi b h=>I⟩|a::l,b::e,f=>⟨by simp[f.2.at.1],λi c h=>by cases i with|zero=>simp at h;subst h;exact⟨a,rfl,f.1⟩|succ i=>simp at h;let⟨d,j,g⟩:=f.2.at.2 i c h;exact⟨d,I,g⟩⟩|[],_::_,h=>h.elim|_::_,[],h=>h.elim
theorem Pm.at:∀{l e:List (List AV)},Pm B m N l e->l.length=e.length/\∀(i:Nat)(b:List AV),e[i]?=some b->∃a,l[i]?=some a/\HI B m N a b|[],[],_=>⟨rfl,λi b h=>I⟩|a::l,b::e,f=>⟨by simp[f.2.at.1],λi c h=>by cases i with|zero=>simp at h;subst h;exact⟨a,rfl,f.1⟩|succ i=>simp at h;let⟨d,j,g⟩:=f.2.at.2 i c h;exact⟨d,I,g⟩⟩|[],_::_,h=>h.elim|_::_,[],h=>h.elim
inductive VY(B:Nat)(m:List (Nat×Nat))(N:Nat):Ob->Ob->Prop where|same {o:Ob}(hk:kH B o):VY B m N o o|arr {sz fz:Nat}{rows dT:List (List AV)}{ex:Bool}(h:Pm B m N rows dT):VY B m N (.arr sz rows fz ex) (.arr sz dT fz ex)
def gK(B:Nat)(m:List (Nat×Nat))(N:Nat)(S:ah):List (Nat×Ob)->Prop|[]=>True|p::l=>((∃a,S.get (fh B (aX m) p.1)=some a/\VY B m N a p.2)\/Nat.ble S.nx (fh B (aX m) p.1)=true)/\gK B m N S l
theorem gK.mem{S:ah}:∀{l:List (Nat×Ob)},gK B m N S l->∀p∈l,(∃a,S.get (fh B (aX m) p.1)=some a/\VY B m N a p.2)\/Nat.ble S.nx (fh B (aX m) p.1)=true|[],_,p,h=>I|q::l,b,p,h=>by rcases ae_.1 h with rfl|h;exact b.1;exact b.2.mem p h
def tN(B:Nat)(m:List (Nat×Nat)):List Nat->Bool|[]=>true|j::l=>l.all (λi=>!Nat.beq (fh B (aX m) i) (fh B (aX m) j))&&tN B m l
theorem tN.inj{B:Nat}{m:List (Nat×Nat)}:∀{l:List Nat},tN B m l=true->∀i j,i∈l->j∈l->fh B (aX m) i=fh B (aX m) j->i=j
 |[],_,i,j,h,_,_=>I|a::l,b,i,j,hi,c,e=>by
  simp only[tN,as_,aY_,cg_]at b;have ne:∀x∈l,fh B (aX m) x≠fh B (aX m) a:=λx d h=>by have:=b.1 x d;rw[h,bD_]at this;cases this
  by_cases f:i=a;grind;by_cases g:j=a;grind;exact tN.inj b.2 i j ((ae_.1 hi).resolve_left f) ((ae_.1 c).resolve_left g) e
def jw(l:List (Nat×AV))(ds:List DE):AA:=⟨xj (λ_=>.u) l,ds⟩
def aw(l:List (Nat×Ob))(N:Nat):ah:=⟨fJ l,N⟩
structure Canon(B N:Nat)(m:List (Nat×Nat))(U:AA)(S:ah)(l:List (Nat×AV))(ds:List DE)(so:List (Nat×Ob)):Prop where
 arl:Ts B m N U.tm l
 df:U.df=ds
 avG:gK B m N S so
 avH:tN B m (so.map (·.1))=true
 bn:Nat.ble B N=true
 dl:ds.all (λd=>Nat.blt d.k B)=true
section
variable{rd:Bool}{g:Gh}{l:List (Nat×AV)}{a:Act}
theorem nq{i:Nat}(h:Nat.blt i j=true):i<j:=ax_ h
theorem lM.rep{a b:AV}{x:Value}(p:B<=N)(h:lM B m N a b)(l:aN g w a x):aN (g.kF B N (aX m)) w b x:=by cases h with
 |aK c=>exact l.kF p c|@new j k sz off len cx e d =>subst e;cases l with|ob c n r o f=>exact .ob (g:=g.kF B N (aX m)) ⟨ax_ d,c⟩ n r o f
 |@jI j k sz len e d =>subst e;cases l with|lR=>exact .lR|gr c o f=>exact .gr (g:=g.kF B N (aX m)) ⟨ax_ d,c⟩ o f
 |lR =>cases l with|nil n=>rw[n rfl];exact .lR|sl s=>exact absurd rfl s
 |@pj j k sz i q e d =>subst e;cases l with|pt c=>exact .pt (g:=g.kF B N (aX m)) ⟨ax_ d,c⟩
 |@vK j k e d =>subst e;cases l with|mp c=>exact .mp (g:=g.kF B N (aX m)) ⟨ax_ d,c⟩
theorem VY.rep{o e:Ob}{b f:Nat}(k:B<=N)(h:VY B m N o e)(c:fm g w b f o):fm (g.kF B N (aX m)) w b f e:=by cases h with|same l=>exact c.kF k l|@arr sz fz rows L ex n =>let⟨M,p⟩:=n.at;let⟨q,r,s,t,P,Q,u,R,v⟩:=c;refine⟨q,r,s,t,I,λS=>I,λi row c=>?_,I,v⟩;let⟨d,y,z⟩:=p i row c;let⟨T,A⟩:=z.at;refine⟨I,λj a C=>?_⟩;let⟨E,F,G⟩:=A j a C;let⟨x,J,K⟩:=(u i d y).2 j E F;exact⟨x,J,G.rep k K⟩
theorem Canon.st(hC:Canon B N m U S l ds so)(c:St Y A g S w):St Y A (g.kF B N (aX m)) (aw so N) w :=St.kF (S':=aw so N) c (ax_ hC.bn) (λj o h=>by
   rcases hC.avG.mem _ (fW h) with⟨d,f,a⟩|k;case inr=>exact .inr (ax_ k)
   exact .inl ⟨d,f,λb s n=>a.rep (ax_ hC.bn) n,λJ q=>by subst q;cases a;rfl⟩) λi j o p hi r e=>tN.inj hC.avH i j (aB_.2 ⟨_,fW hi,rfl⟩) (aB_.2 ⟨_,fW r,rfl⟩) e
theorem OI(f:B<=N)(k:cO g w n U a):∀{l:List (Nat×AV)},Ts B m N U.tm l->(∀t,t<n->aN (g.kF B N (aX m)) w (xj (λ_=>.u) l t) (a.tmps.getD t undef))/\∀t,n<=t->xj (λ_=>.u) l t=.u
 |[],_=>⟨λ_ _=>.u,λ_ _=>rfl⟩|(s,b)::l,h=>by
  let⟨u,v⟩:=OI f k h.2;have p:BQ B m N U.tm s b:=h.1;refine⟨λt o=>?_,λt o=>?_⟩;show aN _ w (bL (xj (λ_=>.u) l) s b t) _;by_cases e:t=s;subst e;rw[aG];have c:=k.tm t o;cases p with|aK e r=>rw[e]at c;exact c.kF f r|@new j sz off len cx e d =>rw[e]at c;exact lM.rep f (.new rfl d) c|@jI j sz len e d=>rw[e]at c;exact lM.rep f (.jI rfl d) c|@lR j sz e=>rw[e]at c;exact lM.rep f .lR c|@pj j sz i q e d=>rw[e]at c;exact lM.rep f (.pj rfl d) c|@vK j e d=>rw[e]at c;exact lM.rep f (.vK rfl d) c
  grind[aP];show bL (xj (λ_=>.u) l) s b t=.u;by_cases e:t=s;subst e;rw[aG];have c:=k.out t o;cases p with|aK e r=>exact e.symm.trans c|new e d=>rw[c]at e;cases e|jI e d=>rw[c]at e;cases e|lR e=>rw[c]at e;cases e|pj e d=>rw[c]at e;cases e|vK e d=>rw[c]at e;cases e
  grind[aP]
theorem Canon.Yc(hC:Canon B N m U S l ds so)(b:cO g w n U a):cO (g.kF B N (aX m)) w n (jw l ds) a:=by have e:=ax_ hC.bn;let⟨f,h⟩:=OI e b hC.arl;have d:=hC.dl;rw[aY_]at d;refine⟨b.size,f,h,?_,λk c=>?_⟩;rw[b.df,hC.df];refine aQ_ λk c=>?_;refine(Fz ?_).symm;show g.ob (fh B (aX m) k.k)=_;rw[sK (nq (d k c))];have:=nq (d k c);refine⟨X,?_⟩;rw[sK this];exact b.yE k (by rw[hC.df];exact c)
def AJ(P:Program)(Y:World)(rd:Bool)(n B:Nat)(c:Code)(U:AA)(S:ah)(ex:Exit)(aE:AA)(S':ah):Prop :=∀(F:Fence)(m:Nat)(A:Nat->Prop)(g gs:Gh)(a:Act)(w ws:World),my F->F.round.isSome=rd->St Y A g S w->cO g w n U a->Ext A gs ws g w->(∀k,gs.al k->k<B)->∀(b:Frame)(k:List Item)(d:List Frame),b.roundOf=F.round->F.fn b.fn->F.room (d.length+1+m) ->∃e f h,tF Y n A gs ws ex aE S' e f h/\ArrivesIn (Machine.fenced P F) P (lone (b.atR a (.code c::.inLoop c::k)) d w) b k d e f h
section
variable{c:Code}{ex:Exit}
theorem AJ.step(h:ez P Y rd n c U S .normal dM er)(hC:Canon B N m dM er l ds so)(k:AJ P Y rd n B c (jw l ds) (aw so N) ex aE S'):AJ P Y rd n B c U S ex aE S':=by intro F r A g gs a w ws s t y z C u b q v x d f;let⟨e,E,G,J,K⟩:=h F r A g a w s t y z b (.inLoop c::q) v x d f;obtain⟨rfl,T,L,M,i⟩:=J;let⟨j,o,p,Q,R⟩:=k F r A _ gs E G ws s t (hC.st L) (hC.Yc M) ((C.trans i).kF (ax_ hC.bn) u) u b q v x d f;exact⟨j,o,p,Q,.of_steps (StepsIn.trans K (.one (fenced_calm d f rfl) stepR_inLoop)) R⟩
theorem AJ.done(h:ez P Y rd n c U S ex aE S')(f:ex≠.normal):AJ P Y rd n B c U S ex aE S':=by intro F i A g gs a w ws j k l m o z b q p r s t;let⟨e,u,v,d,y⟩:=h F i A g a w j k l m b (.inLoop c::q) p r s t;obtain⟨rfl,d⟩:=d;exact⟨e,u,v,tF.ext o ⟨rfl,d⟩,.pass (x:=.inLoop c) rfl (λ_ _=>.inl f) y⟩
theorem AJ.start(f:Nat.ble S.nx B=true)(hC:Canon B N m U S l ds so)(k:AJ P Y rd n B c (jw l ds) (aw so N) ex aE S'):BX P Y rd n c U S ex aE S':=by intro F h A g a w i j d o b q p r s t;have e:∀k,g.al k->k<B:=λk u=>aD_ (d.al k u) (ax_ f);exact k F h A _ g a w w i j (hC.st d) (hC.Yc o) ((Ext.refl A g w).kF (ax_ hC.bn) e) e b q p r s t
end
def E0{σ:Type}(P:Program)(Y:World)(rd:Bool)(n B N:Nat)(st:σ->List (Nat×AV))(ds:List DE)(so:σ->List (Nat×Ob))(a:σ->Prop)(μ:σ->Nat)(Q:Exit->AA->ah->Prop)(K:List gE)(k:Nat):Exit->AA->ah->Prop :=λex U S=>match ex with|.normal=>∃s m,a s/\μ s<k/\Canon B N m U S (st s) ds (so s)|e=>H P Y rd n Q (.out e K) U S
theorem H.ic(B N:Nat)(m:List (Nat×Nat))(st:σ->List (Nat×AV))(ds:List DE)(so:σ->List (Nat×Ob))(a:σ->Prop)(μ:σ->Nat)(b:σ){c:QC}(h0:a b)(l:Nat.ble S.nx B=true)(hC:Canon B N m U S (st b) ds (so b))(h:∀s,a s->H P Y rd n (E0 P Y rd n B N st ds so a μ Q K (μ s)) (.run c []) (jw (st s) ds) (aw (so s) N)):H P Y rd n Q (.run (.loop c) K) U S:=by
 intro x o p;obtain⟨e,rfl,q⟩:=NJ o;have key:∀(k:Nat)(s:σ),a s->μ s=k->∃ex aE S',AJ P Y rd n B e (jw (st s) ds) (aw (so s) N) ex aE S'/\eI P Y rd n Q K ex aE S':=by intro k;induction k using Nat.strongRecOn with|_ k r =>intro s t y;let⟨ex,dM,er,d,i⟩:Wp P Y rd n e (E0 P Y rd n B N st ds so a μ Q K (μ s)) (jw (st s) ds) (aw (so s) N):=h s t e q p;cases ex with|normal =>let⟨j,z,f,A,g⟩:=i;let⟨ex,aE,S',u,v⟩:=r (μ j) X j f rfl;exact⟨ex,aE,S',AJ.step d g u,v⟩|_=>exact⟨_,dM,er,AJ.done d aB,i⟩
 let⟨ex,aE,S',w,d⟩:=key _ b h0 rfl;exact⟨ex,aE,S',ez.loop (AJ.start l hC w),d⟩
def H.bO{st:σ->List (Nat×AV)}{so:σ->List (Nat×Ob)}{a:σ->Prop}{μ:σ->Nat}{k:Nat}(s:σ)(m:List (Nat×Nat))(b:a s)(c:μ s<k)(hC:Canon B N m U S (st s) ds (so s)):H P Y rd n (E0 P Y rd n B N st ds so a μ Q K k) (.out .normal []) U S:=⟨s,m,b,c,hC⟩
def H.lQ{st:σ->List (Nat×AV)}{so:σ->List (Nat×Ob)}{a:σ->Prop}{μ:σ->Nat}{k id:Nat}(h:H P Y rd n Q (.out (.exit id) K) U S):H P Y rd n (E0 P Y rd n B N st ds so a μ Q K k) (.out (.exit id) []) U S:=h
def H.am1{st:σ->List (Nat×AV)}{so:σ->List (Nat×Ob)}{a:σ->Prop}{μ:σ->Nat}{k:Nat}(h:H P Y rd n Q (.out .ret K) U S):H P Y rd n (E0 P Y rd n B N st ds so a μ Q K k) (.out .ret []) U S:=h
end
section
variable{rd:Bool}
def ug(f:Nat->AV):Option QO->Int->Option Int|none,d=>some d|some x,_=>match x.ev f with|.v (.int _ i)=>some i|_=>none
theorem uO{lo:Option Operand}{d:Int}(h:ug U.tm (lo.map qo) d=some i):mz (lo.map U.ev) d=some i:=by cases lo with|none=>exact h|some x =>simp only[aK_,ug,aU]at h;simp only[aK_,mz];split at h;grind;grind
theorem VZ{k:SK}(h:res P.toTables o=some (.slice k x lo hi none)):∃t u a h1,o=.slice t u a h1 none/\x=qo u/\lo=a.map qo/\hi=h1.map qo /\(k=.str/\P.underlying t=some .string\/∃e m,k=.sl m/\P.underlying t=some (.slice e)/\eL P e=some m):=by cases o with|slice t u a h1 d =>simp only[res,cN,gH]at h;split at h;rename_i b;simp only[oI_,n_.slice.injEq,dM_]at h;obtain⟨rfl,rfl,rfl,rfl,rfl⟩:=h;exact⟨_,_,_,_,rfl,rfl,rfl,rfl,.inl ⟨rfl,b⟩⟩;rename_i e b;split at h;rename_i m c;simp only[oI_,n_.slice.injEq,dM_]at h;obtain⟨rfl,rfl,rfl,rfl,rfl⟩:=h;exact⟨_,_,_,_,rfl,rfl,rfl,rfl,.inr ⟨_,_,rfl,b,c⟩⟩;grind;grind|_ =>
  simp only[res]at h;repeat' split at h
  all_goals cases h
theorem D.avJ{l h:Int}(h1:x.ev U.tm=.v (.string s))(h2:ug U.tm lo 0=some l)(h3:ug U.tm hi s.size=some h)(h4:0<=l)(h5:l<=h)(h6:h<=s.size):D P Y dr (.slice .str x lo hi none) U S (.v (.string (s.extract l.toNat h.toNat))) S:=by refine D.of rfl λo a=>?_;obtain⟨t,u,c,d,rfl,rfl,rfl,rfl,b|⟨e,m,f,_⟩⟩:=VZ a;rw[aU]at h1;simp only[bX,qu,bs_,h1,b.2,uO h2,uO h3];exact⟨h4,h5,h6,rfl,rfl⟩;grind
theorem D.aco{m:Nat}{l h:Int}(h1:x.ev U.tm=.sl ex rows)(h2:ug U.tm lo 0=some l)(h3:ug U.tm hi rows.length=some h)(h0:∀row∈rows,row.length=m)(h4:0<=l)(h5:l<=h)(h6:h<=rows.length):D P Y dr (.slice (.sl m) x lo hi none) U S (.sl false ((rows.take h.toNat).drop l.toNat)) S:=by refine D.of rfl λo b=>?_;obtain⟨t,u,f,g,rfl,rfl,rfl,rfl,c|⟨e,i,a,c,d⟩⟩:=VZ b;grind;injection a with a;subst a;rw[aU]at h1;simp only[bX,qu,bs_,h1,c,uO h2,uO h3,d];exact⟨λrow b=>I,rfl,h4,h5,h6,rfl,rfl⟩
theorem sj{a b:QO}(h:res P.toTables o=some (.append sz MB a b)):∃c t t2 u v e f z,o=.call c/\c.callee=.builtin .append/\c.argTypes.toList=[t,t2]/\c.args.toList=[u,v]/\a=qo u/\b=qo v/\me P t=some e/\me P t2=some f/\eB P e=some z /\eL P e=some sz/\k_ P e=some MB/\Nat.beq z.cells.size sz=true/\Nat.blt 0 MB=true:=by cases o<;>simp only[res,cN,gH,qE,lr,oo]at h<;>(repeat' split at h)<;>(try cases h);rename_i d;simp only[as_]at d;exact⟨_,_,_,_,_,_,_,_,rfl,I,by assumption,I,rfl,rfl,by assumption,by assumption,I,I,I,d.1,d.2⟩
def iH(S:ah)(b:AV):Option (List (List AV)):=match rowsOf S b,rq b with
 |some l,some k=>match Nat.beq k l.length with|true=>some l|false=>none
 |_,_=>none
theorem j8{S:ah}{b:AV}{l:List (List AV)}(h:iH S b=some l):rowsOf S b=some l/\rq b=some l.length:=by unfold iH at h;split at h;rename_i c a;split at h;rename_i e;cases oJ_ h;rw[aS_ e]at a;exact⟨c,a⟩;grind;grind
theorem D.append{a b:QO}(d:rowsOf S (b.ev U.tm)=some G2)(f:rq (b.ev U.tm)=some G2.length)(h:∀e z,eB P e=some z->eL P e=some sz->k_ P e=some MB->Nat.blt 0 MB=true->qG P e (Ct r S') S G2 (a.ev U.tm)):D P Y dr (.append sz MB a b) U S r S':=by refine D.of rfl λo j=>?_;obtain⟨c,t,t2,u,v,e,x,z,rfl,k,l,m,rfl,rfl,n,p,g,i,q,s,w⟩:=sj j;rw[aU]at d f h;simp only[bX,k,rB,l,m,aF_,aR_,n,p,g,i,s];exact bQ.mk d ⟨f,h e z g i q w⟩
theorem D.Mh{a b:QO}(h1:a.ev U.tm=.sl true rows)(c:iH S (b.ev U.tm)=some []):D P Y dr (.append sz MB a b) U S (.sl true rows) S:=by refine D.append (j8 c).1 (j8 c).2 λe z d f g h=>?_;rw[h1];exact⟨rfl,rfl⟩
theorem D.PV{a b:QO}{x:List AV}(h1:a.ev U.tm=.sl true rows)(c:iH S (b.ev U.tm)=some (x::G2))(h2:∀row∈rows,row.length=sz)(h3:∀row∈x::G2,row.length=sz)(h4:(rows.length+(x::G2).length)*MB<=35184372088832):D P Y dr (.append sz MB a b) U S (.ob S.nx sz 0 (rows.length+(x::G2).length) none) (S.new (.arr sz (rows++x::G2) 0 false)):=by refine D.append (j8 c).1 (j8 c).2 λe z h d f g=>?_;rw[h1];simp only[qG,d,f,g];exact⟨h2,h3,h4,rfl,rfl⟩
theorem D.avK{k fz len:Nat}{a b:QO}{x:List AV}(h1:a.ev U.tm=.ob k sz 0 len none)(d:S.get k=some (.arr sz rows fz ex))(c:iH S (b.ev U.tm)=some (x::G2))(h0:fz<=len)(h2:len<=rows.length)(h3:∀row∈x::G2,row.length=sz/\row.all db=true)(h4:(len+(x::G2).length)*MB<=35184372088832):D P Y dr (.append sz MB a b) U S (.ob S.nx sz 0 (len+(x::G2).length) none) ((S.set k none).new (.arr sz (rows.take len++x::G2) fz false)):=by refine D.append (j8 c).1 (j8 c).2 λe z i f g h=>?_;rw[h1];simp only[qG];refine bQ.mk (PA d) ?_;simp only[f,g,h,bD_,cW_,ay_];exact⟨h0,h2,h3,h4,rfl,rfl⟩
theorem D.Wu{k fz len sz':Nat}{a b:QO}(h1:a.ev U.tm=.ob k sz' 0 len none)(d:S.get k=some (.arr sz' rows fz ex))(c:iH S (b.ev U.tm)=some []):D P Y dr (.append sz MB a b) U S (.ob k sz' 0 len none) S:=by refine D.append (j8 c).1 (j8 c).2 λe z f g h i=>?_;rw[h1];simp only[qG];exact bQ.mk (PA d) ⟨rfl,rfl⟩
theorem U7{l c:QO}(h:res P.toTables o=some (.sw z MB l c)):∃t u v e a sz,o=.makeSlice t u v/\l=qo u/\c=qo v/\me P t=some e/\eB P e=some a/\eL P e=some sz/\k_ P e=some MB /\z=a.cells.toList.map cd/\Nat.beq a.cells.size sz=true/\Nat.blt 0 sz=true:=by cases o with|makeSlice t u v =>simp only[res,gH,qE,lr,oo]at h;split at h;rename_i e d;split at h;rename_i a sz j f g i;split at h;rename_i b;simp only[as_]at b;simp only[oI_,n_.sw.injEq]at h;obtain⟨rfl,rfl,rfl,rfl⟩:=h;exact⟨_,_,_,_,_,_,rfl,rfl,rfl,d,f,g,i,rfl,b.1,b.2⟩;grind;grind;grind|_ =>
  simp only[res]at h;repeat' split at h
  all_goals cases h
theorem D.mks{l c:QO}{k:IntKind}(h1:l.ev U.tm=.v (.int k a))(h2:c.ev U.tm=.v (.int k' b))(h3:0<=a)(h4:a=b)(h5:a*MB<=35184372088832)(h6:a<=9223372036854775807):D P Y dr (.sw z MB l c) U S (.ob S.nx z.length 0 a.toNat none) (S.new (.arr z.length (List.replicate a.toNat z) 0 true)):=by
 refine D.of rfl λo f=>?_;obtain⟨t,u,v,e,g,sz,rfl,rfl,rfl,h,i,j,m,rfl,d,n⟩:=U7 f;have p:(g.cells.toList.map cd).length=sz:=by rw[<-aS_ d];simp
 rw[aU]at h1 h2;rw[p];simp only[bX,h1,h2,h,i,j,m,d,n,cW_];exact⟨h3,h4,h5,h6,rfl,rfl⟩
theorem D.avL(h1:x.ev U.tm=.v (.string s)):D P Y dr (.aa6 x) U S (.pt S.nx 0 0 0) (S.new (.si s 0)):=by refine D.of rfl λo a=>?_;cases o<;>simp only[res,cN]at a<;>(repeat' split at a)<;>(try cases a);rw[aU]at h1;simp only[bX, *];exact⟨rfl,rfl⟩
theorem D.aed{k:Nat}(h1:x.ev U.tm=.pt k sz 0 0)(c:S.get k=some (.si s pos))(d:pos<s.size):D P Y dr (.Iv x) U S (.aJ [.v (.bool true),.v (.int .i64 pos),.v (.int .i32 (Utf8.decode s pos).1)]) (S.set k (some (.si s (pos+(Utf8.decode s pos).2)))):=by refine D.of rfl λo b=>?_;cases o<;>simp only[res,cN]at b<;>(repeat' split at b)<;>(try cases b);rw[aU]at h1;simp only[bX,h1];refine bQ.mk (a:=(s,pos)) (by grind[PC]) ⟨true,I,rfl,rfl⟩
theorem D.avM{k:Nat}(h1:x.ev U.tm=.pt k sz 0 0)(c:S.get k=some (.si s pos))(d:s.size<=pos):D P Y dr (.Iv x) U S (.aJ [.v (.bool false)]) S:=by refine D.of rfl λo b=>?_;cases o<;>simp only[res,cN]at b<;>(repeat' split at b)<;>(try cases b);rw[aU]at h1;simp only[bX,h1];refine bQ.mk (a:=(s,pos)) (by grind[PC]) ⟨false,I,rfl,rfl⟩
end
section
variable{rd:Bool}{ex:Exit}{l:List QI}
theorem H.aed{d:Option Nat}{g:Option (Nat×Bool)}{x:QO}{k:Nat}(a:bD U.tm g=some true)(h1:x.ev U.tm=.pt k sz 0 0)(b:S.get k=some (.si s pos))(e:pos<s.size->∀(j c:Int) (p:Nat),j=pos->c=(Utf8.decode s pos).1->p=pos+(Utf8.decode s pos).2->H P Y rd n Q (.bk dr l K) (bW d U (.aJ [.v (.bool true),.v (.int .i64 j),.v (.int .i32 c)])) (S.set k (some (.si s p))))(f:s.size<=pos->H P Y rd n Q (.bk dr l K) (bW d U (.aJ [.v (.bool false)])) S):H P Y rd n Q (.bk dr (⟨d,g,.Iv x⟩::l) K) U S:=by rcases bE_ pos s.size with h|h;exact H.op (i:=⟨d,g,.Iv x⟩) a (D.aed h1 b h) (e h _ _ _ rfl rfl rfl);exact H.op (i:=⟨d,g,.Iv x⟩) a (D.avM h1 b h) (f h)
def H.gen{i:QI}{S':ah}{T:Type}(F:T->AV){p:T}(b:bD U.tm i.g=some true)(h:D P Y dr i.q U S (F p) S')(k:∀a,a=p->H P Y rd n Q (.bk dr l K) (bW i.d U (F a)) S'):H P Y rd n Q (.bk dr (i::l) K) U S:=H.op b h (k p rfl)
theorem D.B4{O:Hd}{T:Type}{f:T->List AV}{xs:List T}{m:Nat}{x:QO}{ex:Bool}{j:Int}(h1:x.ev U.tm=.sl ex (O.h (List.map f) xs))(h2:ug U.tm lo 0=some i)(h3:ug U.tm hi (O.h (List.map f) xs).length=some j)(h0:∀x,(f x).length=m)(h4:0<=i)(h5:i<=j)(h6:j<=xs.length):D P Y dr (.slice (.sl m) x lo hi none) U S (aY O f false ((xs.take j.toNat).drop i.toNat)) S:=by have:=D.aco (P:=P) (Y:=Y) (dr:=dr) (S:=S) h1 h2 h3 (ec h0) h4 h5 (by rw[az];exact h6);rw[bF,du_,cX_,<-O.eq (List.map f) xs];exact this
theorem D.Ed{O:Hd}{T:Type}{f:T->List AV}{xs:List T}{m:Nat}{x:QO}{lo:QO}{ex:Bool}{k:IntKind}(h1:x.ev U.tm=.sl ex (O.h (List.map f) xs))(h2:lo.ev U.tm=.v (.int k i))(h0:∀x,(f x).length=m)(h4:0<=i)(h5:i<=xs.length):D P Y dr (.slice (.sl m) x (some lo) none none) U S (aY O f false (xs.drop i.toNat)) S:=by have:=D.B4 (P:=P) (Y:=Y) (dr:=dr) (S:=S) (lo:=some lo) (hi:=none) (i:=i) (j:=xs.length) h1 (by grind[ug]) (by simp only[ug,az]) h0 h4 h5 X;simpa using this
def Wk(a b:AV):Prop:=∀(g:Gh)(w:World)(x:Value),aN g w a x->aN g w b x
def Tt:List AV->List AV->Prop|[],[]=>True|a::l,b::m=>Wk a b/\Tt l m|_,_=>False
def Wk.refl(a:AV):Wk a a:=λ_ _ _ h=>h
theorem Tt.len:∀{l m:List AV},Tt l m->l.length=m.length|[],[],_=>rfl|_::_,_::_,h=>by simp[h.2.len]|[],_::_,h=>h.elim|_::_,[],h=>h.elim
theorem Tt.at:∀{l m:List AV},Tt l m->∀(i:Nat)(b:AV),m[i]?=some b->∃a,l[i]?=some a/\Wk a b
 |[],[],_,i,b,h=>I|a::l,b::m,e,i,c,h=>by cases i with|zero=>simp at h;subst h;exact⟨a,rfl,e.1⟩|succ i=>simp at h;let⟨d,g,f⟩:=e.2.at i c h;exact⟨d,I,f⟩
 |[],_::_,h,_,_,_=>h.elim|_::_,[],h,_,_,_=>h.elim
theorem Wk.sl{ex:Bool}{rows:List (List AV)}:Wk (.sl ex rows) (.sl false rows):=λg w x a=>by cases a with|nil c=>exact .nil λh=>I|sl d c b e h a=>exact .sl d (λh=>I) b e h a
theorem Wk.nil{O:Hd}{T:Type}{f:T->List AV}{ex:Bool}:Wk (.sl ex []) (aY O f false []):=by rw[bF];exact Wk.sl
theorem aF.wk{f:FuncId}{S':ah}(h:aF P Y f args S r S')(d:Tt args0 args):aF P Y f args0 S r S':=by refine⟨h.1,λF m A g c w j k e=>h.2 F m A g c w j k ⟨e.1.trans d.len,λi a x l n=>?_⟩⟩;let⟨b,o,p⟩:=d.at i a l;exact p _ _ _ (e.2 i b x o n)
def D.jN{f:QO}(h:fp (f.ev U.tm) (aZ9.map (·.ev U.tm))=some (g,args0))(a:ao P Y g args r)(b:iU args)(c:Tt args0 args):D P Y dr (.call f aZ9) U S r S:=D.call h ((a.WM b S).wk c) λ_=>rfl
variable{O:Hd}{T:Type}{f:T->List AV}{Mx:List T}{x:T}
theorem zn{ex:Bool}:eE B (.sl ex []):=.sl λr a=>I
theorem kG{fz:Nat}{ex:Bool}(h:∀x∈Mx,∀a∈f x,Pure a):kH B (.arr sz (O.h (List.map f) Mx) fz ex):=by rw[O.eq];intro row b a c;obtain⟨x,d,rfl⟩:=aB_.1 b;exact(h x d a c).bu
theorem aH.at8{S:ah}{k len:Nat}{ex:Bool}(c:S.get k=some (.arr sz (O.h (List.map f) Mx) 0 ex))(l:len=Mx.length):aH S (.ob k sz 0 len none) (aY O f false Mx):=by rw[bF];rw[O.eq]at c;refine .ob c I I (λi row g b d=>?_) λi j row g a m b d h e=>?_;grind;rw[aH_,d]at b;rw[oJ_ b,h]at e;rw[oJ_ e];exact .refl _
end
def Gh.pre(g:Gh)(ι:Nat->Nat)(M:Nat):Gh:=⟨λj=>g.ob (ι j),λj=>g.cp (ι j),λj=>j<M/\g.al (ι j),g.fz,g.fo⟩
def Rn(ι:Nat->Nat)(M:Nat)(a b:AV):Prop:=∀(g:Gh)(w:World)(x:Value),aN g w a x->aN (g.pre ι M) w b x
def lU(ι:Nat->Nat)(M:Nat)(a o:Ob):Prop:=(∀(g:Gh)(w:World)(b c:Nat),fm g w b c a->fm (g.pre ι M) w b c o)/\∀J,o=.fo J->a=.fo J
structure Bk(ι:Nat->Nat)(gc g:Gh):Prop where
 al:∀j,gc.al j->g.al (ι j)ob:∀j,gc.al j->g.ob (ι j)=gc.ob j
 cp:∀j,gc.al j->g.cp (ι j)=gc.cp j
 fz:g.fz=gc.fz
def Rb(ι:Nat->Nat)(b a:AV):Prop:=∀(gc g:Gh)(w:World)(x:Value),Bk ι gc g->aN gc w b x->aN g w a x
def m7(ι:Nat->Nat)(o a:Ob):Prop:=(∀(gc g:Gh)(w:World)(b c:Nat),Bk ι gc g->(∀J,o=.fo J->g.fo=gc.fo)->fm gc w b c o->fm g w b c a)/\∀J,a=.fo J->o=.fo J
def dV(ι:Nat->Nat)(M T:Nat)(j:Nat):Nat:=match Nat.blt j M with|true=>ι j|false=>T+j
theorem sv{M T:Nat}(h:j<M):dV ι M T j=ι j:=by have:Nat.blt j M=true:=bZ_ h;simp only[dV,this]
theorem zt{M T:Nat}(h:M<=j):dV ι M T j=T+j:=by
 have:Nat.blt j M=false:=by cases e:Nat.blt j M with|false=>rfl|true=>exact absurd (ax_ e) X
 simp only[dV,this]
structure vW(ι:Nat->Nat)(S S' T T':ah):Prop where
 inj:∀i j,i<S.nx->j<S.nx->ι i=ι j->i=j
 lt:∀j,j<S.nx->ι j<T.nx
 hS:∀j o,S.get j=some o->∃dZ,T.get (ι j)=some dZ/\lU ι S.nx dZ o
 hT:∀k iP,T'.get k=some iP->(∃j o,dV ι S.nx T.nx j=k/\S'.get j=some o/\m7 (dV ι S.nx T.nx) o iP)\/(k<T.nx/\(∀j,j<S.nx->ι j≠k)/\T.get k=some iP)nx:T'.nx=T.nx+S'.nx\/S'.nx<=S.nx/\T'.nx=T.nx
structure Fits(ι:Nat->Nat)(S S' T T':ah):Prop where
 inj:∀i j,i<S.nx->j<S.nx->ι i=ι j->i=j
 lt:∀j,j<S.nx->ι j<T.nx
 hS:∀j o,S.get j=some o->∃dZ,T.get (ι j)=some dZ/\lU ι S.nx dZ o
 hT:∀k iP,T'.get k=some iP->(∃j o,dV ι S.nx T.nx j=k/\S'.get j=some o/\m7 (dV ι S.nx T.nx) o iP)\/(k<T.nx/\(∀j,j<S.nx->ι j≠k)/\T.get k=some iP)nx:T'.nx=T.nx+S'.nx\/(S'.nx<=S.nx/\T'.nx=T.nx)fo:(∀k J,T.get k=some (.fo J)->∃j,j<S.nx/\ι j=k)\/∀j J,S'.get j≠some (.fo J)
section
variable{g:Gh}{T:ah}
def M9(gc:Gh)(S:ah)(w:World)(b:Nat):Prop:=w.heap.size<=b\/∃j o,S.get j=some o/\gc.al j/\(b=gc.ob j\/∃J,o=.fo J/\gc.fo (gc.ob j) b)
theorem Fits.y(h:Fits ι S S' T T'):vW ι S S' T T':=⟨h.inj,h.lt,h.hS,h.hT,h.nx⟩
theorem vW.sub(d:vW ι S S' T T')(a:St Y A g T w){b:Nat}(h:M9 (g.pre ι S.nx) S w b):A b:=by rcases h with h|⟨j,o,e,c,f⟩;exact a.up b h;let⟨i,k,m,n⟩:=d.hS j o e;rcases f with rfl|⟨J,rfl,l⟩;exact(a.cY _ i k c.2).1;exact(a.l_ _ J I c.2 b l).1
theorem vW.inner(d:vW ι S S' T T')(f:St Y A g T w):St Y (M9 (g.pre ι S.nx) S w) (g.pre ι S.nx) S w :=⟨f.base,λb u=>.inl u,λb u=>f.lo b (d.sub f u),λk a=>a.1,λk o a h=>by let⟨l,m,n,v⟩:=d.hS k o a;let⟨x,y,z⟩:=f.cY _ l m h.2;exact⟨.inr ⟨k,o,a,h,.inl rfl⟩,y,n _ _ _ _ z⟩,λj k o p q a i r e=>by let⟨l,m,_⟩:=d.hS j o q;let⟨s,n,_⟩:=d.hS k p a;exact d.inj j k i.1 r.1 (f.inj _ _ l s m n i.2 r.2 e),f.dN,f.uv,λk J a h c t=>by let⟨l,m,_,v⟩:=d.hS k _ a;exact⟨.inr ⟨k,_,a,h,.inr ⟨J,rfl,t⟩⟩,(f.l_ _ J I h.2 c t).2⟩,λk J j o a h q i B t=>by let⟨l,m,_,v⟩:=d.hS k _ a;let⟨s,n,_⟩:=d.hS j o q;exact f.oV _ J _ s I h.2 n i.2 (λe=>B (d.inj j k i.1 h.1 e)) t,λj k J C q a i r=>by let⟨l,m,_,v⟩:=d.hS j _ q;let⟨s,n,_,x⟩:=d.hS k _ a;exact d.inj j k i.1 r.1 (f.rp _ _ J C I I i.2 r.2)⟩
theorem vW.am2(c:vW ι S S' T T'){i:Nat}(h:dV ι S.nx T.nx i=dV ι S.nx T.nx j):i=j:=by rcases bE_ i S.nx with a|a<;>rcases bE_ j S.nx with b|b;rw[sv a,sv b]at h;exact c.inj i j a b h;rw[sv a,zt b]at h;have:=c.lt i a;omega;rw[zt a,sv b]at h;have:=c.lt j b;omega;grind[zt]
theorem vW.outer(t:vW ι S S' T T')(n:St Y A g T w){gc:Gh}{w':World}(z:St Y (M9 (g.pre ι S.nx) S w) gc S' w')(u:Ext (M9 (g.pre ι S.nx) S w) (g.pre ι S.nx) w gc w')(Fx:(∀k J,T.get k=some (.fo J)->g.al k->∃j,j<S.nx/\ι j=k)\/∀j J,S'.get j≠some (.fo J)):∃g',St Y A g' T' w'/\Ext A g w g' w'/\Bk (dV ι S.nx T.nx) gc g':=by classical
 let⟨F,hX1,hX2⟩:∃F:Nat->Nat->Prop,(∀j J,S'.get j=some (.fo J)->F=gc.fo)/\∀k J,T.get k=some (.fo J)->g.al k->(∀j,j<S.nx->ι j≠k)->F=g.fo:=by rcases Fx with h|h;exact⟨gc.fo,λ_ _ _=>rfl,λk J d r s=>I⟩;exact⟨g.fo,λj J C=>absurd C (h j J),λ_ _ _ _ _=>rfl⟩
 let o:=dV ι S.nx T.nx;let g':Gh:=⟨λk=>if h:∃j,o j=k then gc.ob h.choose else g.ob k,λk=>if h:∃j,o j=k then gc.cp h.choose else g.cp k,λk=>if h:∃j,o j=k then gc.al h.choose else g.al k,gc.fz,F⟩;have ch:∀j (h:∃i,o i=o j),h.choose=j:=λj h=>t.am2 h.choose_spec;have V:∀j,g'.ob (o j)=gc.ob j:=λj=>by have h:∃i,o i=o j:=⟨j,rfl⟩;show(if h:∃i,o i=o j then gc.ob h.choose else _)=_;rw[dif_pos h,ch j h]
 have e2:∀j,g'.cp (o j)=gc.cp j:=λj=>by have h:∃i,o i=o j:=⟨j,rfl⟩;show(if h:∃i,o i=o j then gc.cp h.choose else _)=_;rw[dif_pos h,ch j h]
 have e3:∀j,g'.al (o j)=gc.al j:=λj=>by have h:∃i,o i=o j:=⟨j,rfl⟩;show(if h:∃i,o i=o j then gc.al h.choose else _)=_;rw[dif_pos h,ch j h]
 have f1:∀k,(∀j,o j≠k)->g'.ob k=g.ob k:=λk d=>dif_neg λ⟨j,C⟩=>d j C;have f2:∀k,(∀j,o j≠k)->g'.cp k=g.cp k:=λk d=>dif_neg λ⟨j,C⟩=>d j C;have f3:∀k,(∀j,o j≠k)->g'.al k=g.al k:=λk d=>dif_neg λ⟨j,C⟩=>d j C;have aK:∀k,g.al k->(∃j,j<S.nx/\o j=k/\ι j=k/\(g.pre ι S.nx).al j)\/∀j,o j≠k:=by
  intro k d;by_cases h:∃j,o j=k;let⟨j,C⟩:=h;rcases bE_ j S.nx with m|m;have a:ι j=k:=by grind[sv]
  exact .inl ⟨j,m,C,a,m,I⟩;have a:o j=T.nx+j:=zt m;have:=n.al k d;omega;grind
 have free:∀k,k<T.nx->(∀j,j<S.nx->ι j≠k)->∀j,o j≠k:=by grind[sv,zt]
 have out:∀k p,T.get k=some p->g.al k->(∀j,j<S.nx->ι j≠k)->¬M9 (g.pre ι S.nx) S w (g.ob k):=by rintro k p d r s(h|⟨j,q,m,a,f⟩);exact absurd (n.cY k p d r).2.1 X;let⟨W,x,_,h6⟩:=t.hS j q m;rcases f with f|⟨J,rfl,h7⟩;exact s j a.1 (n.inj k (ι j) p W d x r a.2 f).symm;exact n.oV (ι j) J k p I a.2 d r (λe=>s j a.1 e.symm) h7
 have hL:Later g w g' w':=by refine⟨λk d=>?_,λk d=>?_,λk d=>?_,u.fz,u.cell⟩;rcases aK k d with⟨j,m,a,f,x⟩|h;rw[<-a,e3];exact u.al j x;grind;rcases aK k d with⟨j,m,a,f,x⟩|h;rw[<-a,V,u.ob j x,a,<-f];rfl;grind;rcases aK k d with⟨j,m,a,f,x⟩|h;rw[<-a,e2,u.cp j x,a,<-f];rfl;grind
 have hEx:Ext A g w g' w':={hL with size:=u.size,aQ:=λb hb hA=>u.aQ b hb λh=>hA (t.sub n h),lS:=λb q h=>(u.lS b q h).imp id (t.sub n) };have hB:Bk o gc g':=⟨λj C=>I,λj _=>V j,λj _=>e2 j,rfl⟩;refine⟨g',⟨z.base,λb hb=>n.up b (az_ u.size hb),n.lo,λk d=>?_,λk N d r=>?_,λk l N L d Q P E e=>?_,z.dN,z.uv,λk J d r c G=>?_,λk J l L d r Q E dh G=>?_,λk l J R d Q P E=>?_⟩,hEx,hB⟩;by_cases h:∃j,o j=k;obtain⟨j,rfl⟩:=h;rw[e3]at d;have m:=z.al j d;rcases bE_ j S.nx with a|a;rw[show o j=ι j from sv a];have:=t.lt j a;rcases t.nx with e|⟨_,e⟩<;>omega;rw[show o j=T.nx+j from zt a];rcases t.nx with e|⟨_,e⟩<;>omega;rw[f3 k λj C=>h ⟨j,C⟩]at d;have:=n.al k d;rcases t.nx with e|⟨_,e⟩<;>omega;rcases t.hT k N d with⟨j,p,rfl,m,a,f⟩|⟨m,a,f⟩;have dQ:gc.al j:=I;let⟨x,M,h6⟩:=z.cY j p m dQ;rw[show g'.ob (dV ι S.nx T.nx j)=gc.ob j from V j,show g'.cp (dV ι S.nx T.nx j)=gc.cp j from e2 j];exact⟨t.sub n x,M,a gc g' w' _ _ hB (λJ hJ=>hX1 j J I) h6⟩;have s:=free k m a;rw[f3 k s]at r;rw[f1 k s,f2 k s];let⟨x,M,h6⟩:=n.cY k N f r;have jW:=out k N f r a;refine⟨x,aD_ M u.size,h6.later hL (u.aQ _ M jW) (λq hq=>(u.lS _ q hq).resolve_right jW) λJ hJ=>?_⟩;subst hJ;have pE:∀c,g.fo (g.ob k) c->¬M9 (g.pre ι S.nx) S w c:=by rintro c G(h|⟨j,q,q1,K,q3⟩);exact absurd (n.l_ k J f r c G).2 X;let⟨W,q4,_,q6⟩:=t.hS j q q1;rcases q3 with rfl|⟨R,rfl,q7⟩;exact n.oV k J _ W f r q4 K.2 (a j K.1) G;exact a j K.1 (n.rp _ _ R J I f K.2 r)
 refine⟨I,u.size,λc G=>u.aQ c (n.l_ k J f r c G).2 (pE c G),λc q G hq=>(u.lS c q hq).resolve_right (pE c G)⟩;rcases t.hT k N d with⟨i,p,rfl,m,a⟩|⟨m,a,f⟩<;>rcases t.hT l L Q with⟨j,q,rfl,v,y⟩|⟨v,y,k3⟩;have e':gc.ob i=gc.ob j:=I;rw[z.inj i j p q m v I I e'];have s:=free l v y;rw[f3 l s]at E;rw[f1 l s,show g'.ob (dV ι S.nx T.nx i)=gc.ob i from V i]at e;exact absurd (e ▸ (z.cY i p m I).1) (out l L k3 E y);have s:=free k m a;rw[f3 k s]at P;rw[f1 k s,show g'.ob (dV ι S.nx T.nx j)=gc.ob j from V j]at e;exact absurd (e ▸ (z.cY j q v I).1) (out k N f P a);have s:=free k m a;have hm:=free l v y;rw[f3 k s]at P;rw[f3 l hm]at E;rw[f1 k s,f1 l hm]at e;exact n.inj k l N L f k3 P E e;rcases t.hT k _ d with⟨j,p,rfl,m,a,f⟩|⟨m,a,f⟩;have hp:S'.get j=some (.fo J):=I;have B:gc.fo (gc.ob j) c:=I;let⟨x,M⟩:=z.l_ j J hp I c B;exact⟨t.sub n x,M⟩;have s:=free k m a;rw[f3 k s]at r;have B:g.fo (g.ob k) c:=I;let⟨x,M⟩:=n.l_ k J f r c B;exact⟨x,aD_ M u.size⟩;rcases t.hT k _ d with⟨i,p,rfl,m,a,f⟩|⟨m,a,f⟩;have hp:S'.get i=some (.fo J):=I;have dQ:gc.al i:=I;rcases t.hT l L Q with⟨j,q,rfl,v,y⟩|⟨v,y,k3⟩;have B:gc.fo (gc.ob i) (gc.ob j):=I;exact z.oV i J j q hp dQ v I (λe=>dh (by rw[e])) B;have s:=free l v y;rw[f3 l s]at E;have B:gc.fo (gc.ob i) (g.ob l):=I;exact out l L k3 E y (z.l_ i J hp dQ _ B).1;have s:=free k m a;rw[f3 k s]at r;have hX:=hX2 k J f r a;rcases t.hT l L Q with⟨j,q,rfl,v,y⟩|⟨v,y,k3⟩;have B:g.fo (g.ob k) (gc.ob j):=I;rcases(z.cY j q v I).1 with h|⟨i,q,q1,K,q3⟩;exact absurd (n.l_ k J f r _ B).2 X;let⟨W,q4,_,q6⟩:=t.hS i q q1;rcases q3 with q3|⟨R,rfl,q7⟩;rw[q3]at B;exact n.oV k J _ W f r q4 K.2 (a i K.1) B;exact a i K.1 (n.rp _ _ R J I f K.2 r);have hm:=free l v y;rw[f3 l hm]at E;have B:g.fo (g.ob k) (g.ob l):=I;exact n.oV k J l L f r k3 E dh B;rcases t.hT k _ d with⟨i,p,rfl,m,a,f⟩|⟨m,a,f⟩<;>rcases t.hT l _ Q with⟨j,q,rfl,v,y,k3⟩|⟨v,y,k3⟩;rw[z.rp i j J R I I I I];grind;grind;rw[f3 k (free k m a)]at P;rw[f3 l (free l v y)]at E;exact n.rp k l J R f k3 P E
end
section
variable{T:ah}{f:FuncId}{args:List AV}
theorem aF.frame(h:aF P Y f args S r S')(d:Fits ι S S' T T')(p:QY.length=args.length)(q:∀(i:Nat) (a b:AV),QY[i]?=some a->args[i]?=some b->Rn ι S.nx a b)(s:Rb (dV ι S.nx T.nx) r r₀):aF P Y f QY T r₀ T':=by refine⟨h.1,λF m A g c w t j l=>(h.2 F m _ _ c w t (d.y.inner j) ⟨l.1.trans p,λi b x u y=>?_⟩).mono ?_⟩;have hi:i<QY.length:=I;have n:=av_ hi;exact q i _ b n u _ _ _ (l.2 i _ x n y);rintro e z⟨v,gc,rfl,B,C,E⟩;let⟨o,G,K,k3⟩:=d.y.outer j C E (d.fo.imp (λh k J L _=>h k J L) id);exact⟨v,o,rfl,s gc o z v k3 B,G,K⟩
theorem aF.amA(h:aF P Y f args S r S')(l:vW ι S S' T T')(p:QY.length=args.length)(q:∀(i:Nat) (a b:AV),QY[i]?=some a->args[i]?=some b->Rn ι S.nx a b)(s:Rb (dV ι S.nx T.nx) r r₀)(t:∀(A:Nat->Prop) (g:Gh) (w:World) (args':Array Value),St Y A g T w->nL g w QY args'->∀k J,T.get k=some (.fo J)->g.al k->∃j,j<S.nx/\ι j=k):aF P Y f QY T r₀ T':=by refine⟨h.1,λF m A g args' w u c d=>(h.2 F m _ _ args' w u (l.inner c) ⟨d.1.trans p,λi b x y z=>?_⟩).mono ?_⟩;have hi:i<QY.length:=I;have n:=av_ hi;exact q i _ b n y _ _ _ (d.2 i _ x n z);rintro e B⟨v,gc,rfl,C,E,G⟩;let⟨o,K,L,k3⟩:=l.outer c E G (.inl (t A g w args' c d));exact⟨v,o,rfl,s gc o B v k3 C,K,L⟩
end
section
open Go.Shelf
def Tryz.N8:Go.Shelf.Ren:=⟨λ|7=>290|10=>317|n=>n,λ|23=>301|26=>3|3=>3|28=>245|0=>0|27=>244|33=>187|4=>4|n=>n,λ|n=>n⟩
theorem Tryz.apV:Go.Proofs.SlLaysZI.n7 prog Tryz.N8:={
 mixed:=by kernel_rfl
 f7:=⟨f290.name,by decide,func290.trans (congrArg some (by kernel_rfl))⟩
 f10:=⟨f317.name,by decide,func317.trans (congrArg some (by kernel_rfl))⟩
 t0:=underlying0
 a0:=isAgg0
 z0:=sizeOf0
 v0:=zeroValue0
 t4:=underlying4
 a4:=isAgg4
 z4:=sizeOf4
 v4:=zeroValue4
 t23:=underlying301
 a23:=isAgg301
 z23:=sizeOf301
 v23:=zeroValue301
 t26:=underlying3
 a26:=isAgg3
 z26:=sizeOf3
 v26:=zeroValue3
 t27:=underlying244
 a27:=isAgg244
 z27:=sizeOf244
 v27:=zeroValue244
 t28:=underlying245
 a28:=isAgg245
 z28:=sizeOf245
 v28:=zeroValue245
 t33:=underlying187
 a33:=isAgg187
 z33:=sizeOf187
 v33:=zeroValue187 }
def Tryz.I9:Go.Shelf.Ren:=⟨λ|6=>289|8=>315|9=>316|11=>331|13=>333|12=>332|23=>359|24=>360|14=>350|15=>351|16=>352|17=>353|18=>354|19=>355|20=>356|21=>357|22=>358|25=>368|26=>369|27=>370|28=>371|29=>372|30=>256|31=>376|n=>n,λ|26=>3|28=>245|24=>33|0=>0|3=>3|37=>45|48=>364|50=>366|4=>4|40=>358|39=>357|45=>256|5=>5|9=>9|51=>370|55=>374|57=>378|58=>379|33=>187|n=>n,λ|n=>n⟩
theorem Tryz.ahA:Go.Proofs.SlLaysZI.n6 prog Tryz.I9:={
 mixed:=by kernel_rfl
 f6:=⟨f289.name,by decide,func289.trans (congrArg some (by kernel_rfl))⟩
 f8:=⟨f315.name,by decide,func315.trans (congrArg some (by kernel_rfl))⟩
 f11:=⟨f331.name,by decide,func331.trans (congrArg some (by kernel_rfl))⟩
 t0:=underlying0
 a0:=isAgg0
 z0:=sizeOf0
 v0:=zeroValue0
 t24:=underlying33
 a24:=isAgg33
 z24:=sizeOf33
 v24:=zeroValue33
 t26:=underlying3
 a26:=isAgg3
 z26:=sizeOf3
 v26:=zeroValue3
 t28:=underlying245
 a28:=isAgg245
 z28:=sizeOf245
 v28:=zeroValue245
 i26:=by kernel_rfl }
def Tryz.abd:Go.Shelf.Ren:=⟨λ|5=>316|8=>333|7=>332|19=>359|20=>360|10=>350|11=>351|12=>352|13=>353|14=>354|15=>355|16=>356|17=>357|18=>358|30=>368|31=>369|32=>370|33=>371|34=>372|35=>256|40=>376|n=>n,λ|23=>33|25=>3|3=>3|32=>45|22=>33|0=>0|44=>364|46=>366|4=>4|36=>358|35=>357|41=>256|5=>5|9=>9|53=>370|57=>374|63=>378|64=>379|n=>n,λ|n=>n⟩
theorem Tryz.afL:Go.Proofs.SlLaysM.n5 prog Tryz.abd:={
 mixed:=by kernel_rfl
 f5:=⟨f316.name,by decide,func316.trans (congrArg some (by kernel_rfl))⟩
 f7:=⟨f332.name,by decide,func332.trans (congrArg some (by kernel_rfl))⟩
 f8:=func333.trans (congrArg some (by kernel_rfl))
 f10:=⟨f350.name,by decide,func350.trans (congrArg some (by kernel_rfl))⟩
 f11:=⟨f351.name,by decide,func351.trans (congrArg some (by kernel_rfl))⟩
 f12:=⟨f352.name,by decide,func352.trans (congrArg some (by kernel_rfl))⟩
 f13:=⟨f353.name,by decide,func353.trans (congrArg some (by kernel_rfl))⟩
 f14:=⟨f354.name,by decide,func354.trans (congrArg some (by kernel_rfl))⟩
 f15:=⟨f355.name,by decide,func355.trans (congrArg some (by kernel_rfl))⟩
 f16:=⟨f356.name,by decide,func356.trans (congrArg some (by kernel_rfl))⟩
 f17:=⟨f357.name,by decide,func357.trans (congrArg some (by kernel_rfl))⟩
 f18:=⟨f358.name,by decide,func358.trans (congrArg some (by kernel_rfl))⟩
 f19:=func359.trans (congrArg some (by kernel_rfl))
 f20:=func360.trans (congrArg some (by kernel_rfl))
 f30:=⟨f368.name,by decide,func368.trans (congrArg some (by kernel_rfl))⟩
 f31:=func369.trans (congrArg some (by kernel_rfl))
 f32:=func370.trans (congrArg some (by kernel_rfl))
 f33:=⟨f371.name,by decide,func371.trans (congrArg some (by kernel_rfl))⟩
 f34:=⟨f372.name,by decide,func372.trans (congrArg some (by kernel_rfl))⟩
 f35:=⟨f256.name,by decide,func256.trans (congrArg some (by kernel_rfl))⟩
 f40:=⟨f376.name,by decide,func376.trans (congrArg some (by kernel_rfl))⟩
 t0:=underlying0
 a0:=isAgg0
 z0:=sizeOf0
 v0:=zeroValue0
 t3:=underlying3
 a3:=isAgg3
 z3:=sizeOf3
 v3:=zeroValue3
 t4:=underlying4
 a4:=isAgg4
 z4:=sizeOf4
 v4:=zeroValue4
 t5:=underlying5
 a5:=isAgg5
 z5:=sizeOf5
 v5:=zeroValue5
 t9:=underlying9
 a9:=isAgg9
 z9:=sizeOf9
 v9:=zeroValue9
 t22:=underlying33
 a22:=isAgg33
 z22:=sizeOf33
 v22:=zeroValue33
 t23:=underlying33
 a23:=isAgg33
 z23:=sizeOf33
 v23:=zeroValue33
 t25:=underlying3
 a25:=isAgg3
 z25:=sizeOf3
 v25:=zeroValue3
 t32:=underlying45
 a32:=isAgg45
 z32:=sizeOf45
 v32:=zeroValue45
 t35:=underlying357
 a35:=isAgg357
 z35:=sizeOf357
 v35:=zeroValue357
 t36:=underlying358
 a36:=isAgg358
 z36:=sizeOf358
 v36:=zeroValue358
 t41:=underlying256
 a41:=isAgg256
 z41:=sizeOf256
 v41:=zeroValue256
 t44:=underlying364
 a44:=isAgg364
 z44:=sizeOf364
 v44:=zeroValue364
 t46:=underlying366
 a46:=isAgg366
 z46:=sizeOf366
 v46:=zeroValue366
 t53:=underlying370
 a53:=isAgg370
 z53:=sizeOf370
 v53:=zeroValue370
 t57:=underlying374
 a57:=isAgg374
 z57:=sizeOf374
 v57:=zeroValue374
 t63:=underlying378
 a63:=isAgg378
 z63:=sizeOf378
 v63:=zeroValue378
 t64:=underlying379
 a64:=isAgg379
 z64:=sizeOf379
 v64:=zeroValue379 }
end
end Go.Proofs.YtbdcmpknicjopaaGreat
