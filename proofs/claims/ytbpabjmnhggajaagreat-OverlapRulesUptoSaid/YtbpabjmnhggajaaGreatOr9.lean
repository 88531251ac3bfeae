import Derived.Laws.BytesString
import Derived.Shelf.SlIterI.Collect
import Derived.Shelf.SlIterI.Sorted
import Derived.Shelf.SortM.Plain
import Derived.Shelf.SortM.SortNone
import Derived.Test.YtbpabjmnhggajaaGreatProg
import Derived.Test.YtbpabjmnhggajaaGreatOr8
namespace Go.Proofs.YtbpabjmnhggajaaGreat
set_option linter.all false
open Go.RowKit
variable {R:AV->af->Prop}{e:Bool}{f g:FuncId}{a b c j:Int}{ik k':IntKind}{m:List (Nat × Nat)}{args:List AV}{aZ9:List QO}{B N:Nat}{P:Program}{i x:QO}{σ:Type}{w:World}
theorem AG {F:Fence}(h:kW F) (m:Machine):m.fenced P F:=by
 intro g _;refine⟨λa=>?_,Or.inl (h.1 _),λ_ _=>h.1 _,λ_ a=>?_⟩
 ·rw[h.2.2]at a;cases a
 ·rw[h.2.1]at a;cases a
theorem CallsIn.Yn {F:Fence}{m:Nat}{args:Array Value}{R:Ending->World->Prop}(a:kW F) (h:Calls P f args w R):CallsIn F m P f args w R:=by
 obtain⟨_,b⟩:=callsIn_wide (n:=0).2 h;refine⟨a.1 f,λc _=>?_⟩;obtain⟨e,d,g,r,s,x⟩:=b c (room_wide _);refine⟨e,d,g,r,?_,x⟩;cases e with
 |returned v=>exact StepsIn.mono (λm _=>AG a m) s
 |panicked chain=>exact StepsIn.mono (λm _=>AG a m) s
 |outgrown=>exact s
section
variable {P:Program}{w0:World}{S:af}{r:AV}
theorem St.below {A:Nat->Prop}{g:Gh}{w':World}(d:St w0 A g S w) (a:Below w.heap.size w w') :
  Ext A g w ⟨g.ob,g.cp,g.al,λb q=>g.fz b q\/(w.heap.size<=b/\b < w'.heap.size),g.fo⟩ w'/\St w0 A ⟨g.ob,g.cp,g.al,λb q=>g.fz b q\/(w.heap.size<=b/\b < w'.heap.size),g.fo⟩ S w':=by
 have r:Later g w ⟨g.ob,g.cp,g.al,λb q=>g.fz b q\/(w.heap.size<=b/\b < w'.heap.size),g.fo⟩ w':=⟨λ_ h=>h,λ_ _=>rfl,λ_ _=>rfl,λ_ _ h=>.inl h,λb q f=>World.cell?_of_block (a.block b (d.dw b q f))⟩;have s:Ext A g w ⟨g.ob,g.cp,g.al,λb q=>g.fz b q\/(w.heap.size<=b/\b < w'.heap.size),g.fo⟩ w':={ r with size:=a.size,aM:=λb u _=>a.block b u,kr:=λb q h=>h.elim .inl λe=>.inr (d.up b e.1) };refine⟨s,d.next s a.os a.tape a.output d.al (λk p v j=>?_) d.inj (λb q f=>?_) rfl (λ_ _ l i=>⟨l,i⟩) (λk o l i=>.inr ⟨k,o,i,l,rfl,.inl rfl⟩)⟩
 ·obtain⟨i,t,x⟩:=d.cT k p v j;exact⟨i,au_ t a.size,x.later r (a.block _ t) (λq m=>m.elim id λe=>absurd e.1 (by grind)) λJ B=>⟨rfl,a.size,λc n=>a.block c (d.kP k J (by grind) j c n).2,λc q n m=>m.elim id λh=>absurd h.1 (by have:=(d.kP k J (by grind) j c n).2;omega)⟩⟩
 ·rcases f with f|f
  ·exact au_ (d.dw b q f) a.size
  ·grind
theorem St.start (w:World):St w (λb=>w.heap.size<=b) ⟨λ_=>0,λ_=>0,λ_=>False,λb _=>b < w.heap.size,λ_ _=>False⟩ af.none_ w :=
 have e0:∀k o,¬ af.none_.get k=some o:=λk o h=>by simp[af.none_]at h
 ⟨Below.refl _ _,λ_ h=>h,λ_ h=>h,λk a=>a.elim,λk o a=>absurd a (e0 k o),λj k o p c=>absurd c (e0 j o),λb q h=>h,λb q h=>h,λk J a=>absurd a (e0 k _),λk J j o a=>absurd a (e0 k _),λj k J d c=>absurd c (e0 j _)⟩
theorem ah.calls {x:Value}{args':Array Value}(h:ah P w f args (.v x)) (a:mj ⟨λ_=>0,λ_=>0,λ_=>False,λb _=>b < w.heap.size,λ_ _=>False⟩ w args args') :
  Calls P f args' w λe w'=>e=.returned x/\Below w.heap.size w w':=by
 obtain⟨_,S',_,h⟩:=h;refine (callsIn_wide (n:=0).1 (h Fence.wide 0 _ _ args' w kW.wide (St.start w) a)).mono ?_;rintro e w' ⟨v,g,rfl,c,d,i⟩;obtain rfl:=b_ c;exact⟨rfl,d.base⟩
end
section
variable {P:Program}{w0:World}{n:Nat}{o:Op}{α:AA}{S S':af}{r:AV}{q:mz}{dr:Bool}
theorem ac1 {op:BinOp}{isB:BK}{t:TypeId}{a b:AV}(g:isB=.b->P.underlying t=some .bool) (h:Zl op isB a b=some e):∃x y,a=.v x/\b=.v y/\vp P op t x y=some (.bool e)/\(∀k i j,x=.int k i->y=.int k j->arith op i j=none)/\(∀s c,x=.string s->y=.string c->op ≠ .add):=by
 unfold Zl at h;split at h
 ·rename_i k a k' b;split at h
  ·rename_i l;refine⟨_,_,rfl,rfl,?_,?_,λs c h=>by grind⟩
   ·grind[vp]
   ·intro k i j d f;cases op<;>simp only[reduceCtorEq]at h<;>rfl
  ·grind
 ·rename_i a b;refine⟨_,_,rfl,rfl,?_,(λk i j h=>by grind),λs c d f m=>?_⟩
  ·grind[vp]
  ·grind
 ·rename_i a b;refine⟨_,_,rfl,rfl,?_,(λk i j h=>by grind),λs c h=>by grind⟩;split at h
  ·grind[vp]
  ·grind[vp]
  ·grind
 ·grind
theorem wB {op:BinOp}{isB:BK}{y:QO}(h:res P.toTables o=some (.bin op isB x y)):∃t u v s,o=.binOp op t u v s/\x=qo u/\y=qo v/\(isB=.b->P.underlying t=some .bool):=by
 cases o with
 |binOp e t u v s =>
  simp only[res,cF]at h;split at h
  ·rename_i f;injection h with h;injection h with a b c d;subst a b c d;exact⟨_,_,_,_,rfl,rfl,rfl,λ_=>f⟩
  ·injection h with h;injection h with a b c d;subst a b c d;exact⟨_,_,_,_,rfl,rfl,rfl,λh=>by grind⟩
  ·injection h with h;injection h with a b c d;subst a b c d;exact⟨_,_,_,_,rfl,rfl,rfl,λh=>by grind⟩
  ·injection h with h;injection h with a b c d;subst a b c d;exact⟨_,_,_,_,rfl,rfl,rfl,λh=>by grind⟩
  ·grind
  ·injection h with h;injection h with a b c d;subst a b c d;exact⟨_,_,_,_,rfl,rfl,rfl,λh=>by grind⟩
 |_ =>
  simp only[res]at h
  repeat' split at h
  all_goals cases h
theorem ae.bit {op:BinOp}{isB:BK}{y:QO}(h:Zl op isB (x.ev α.tm) (y.ev α.tm)=some e):ae P w0 dr (.bin op isB x y) α S (.v (.bool e)) S:=by
 refine ae.of rfl λo i=>?_;obtain⟨t,u,v,s,rfl,rfl,rfl,j⟩:=wB i;rw[aW,aW]at h;obtain⟨x,y,l,m,g,q,n⟩:=ac1 j h;simp only[bu,l,m];split
 ·rename_i k a k' b d f;injection d with d;injection f with f;subst d f;split
  ·rename_i c r;split
   ·grind
   ·rename_i p;simp only[vp]at g;rw[p]at g;simp at g
  ·rw[g];exact w6.mk ⟨rfl,rfl⟩
 ·rename_i a b d f;injection d with d;injection f with f;subst d f;have w:=n _ _ rfl rfl;split
  ·grind
  ·rw[g];exact w6.mk ⟨rfl,rfl⟩
 ·rename_i a b z A d f;injection d with d;injection f with f;subst d f;rw[g];exact w6.mk ⟨rfl,rfl⟩
 ·grind
theorem ae.ari {op:BinOp}{isB:BK}{y:QO}{k:IntKind}(h1:x.ev α.tm=.v (.int k a)) (h2:y.ev α.tm=.v (.int k b)) (h:arith op a b=some c):ae P w0 dr (.bin op isB x y) α S (.v (.int k (k.wrap c))) S:=by
 refine ae.of rfl λo d=>?_;obtain⟨t,u,v,s,rfl,rfl,rfl,e⟩:=wB d;rw[aW]at h1 h2;simp only[bu,h1,h2,h,decide_true];exact⟨_,rfl,rfl,rfl⟩
theorem ae.cat {isB:BK}{y:QO}{a b:ByteArray}(h1:x.ev α.tm=.v (.string a)) (h2:y.ev α.tm=.v (.string b)) (h:a.size+b.size<=9223372036854775807):ae P w0 dr (.bin .add isB x y) α S (.v (.string (a++b))) S:=by
 refine ae.of rfl λo c=>?_;obtain⟨t,u,v,s,rfl,rfl,rfl,d⟩:=wB c;rw[aW]at h1 h2;simp only[bu,h1,h2];exact⟨h,rfl,rfl⟩
theorem ae.neg {k:IntKind}(h1:x.ev α.tm=.v (.int k a)):ae P w0 dr (.neg x) α S (.v (.int k (k.wrap (0 - a)))) S:=by
 refine ae.of rfl λo b=>?_;cases o<;>simp only[res]at b<;>(repeat' split at b)<;>(try cases b)
 rw[aW]at h1;simp only[bu,h1];exact⟨_,rfl,rfl,rfl⟩
theorem ae.conv {k:IntKind}(h1:x.ev α.tm=.v (.int k' a)):ae P w0 dr (.conv k x) α S (.v (.int k (k.wrap a))) S:=by
 refine ae.of rfl λo b=>?_;cases o<;>simp only[res,cF]at b<;>(repeat' split at b)<;>(try cases b)
 rename_i c d;rw[aW]at h1;simp only[bu,h1,c,d];exact⟨_,rfl,rfl,rfl⟩
def eV (f:AV) (args:List AV):Option (FuncId × List AV):=match f with
 |.v (.func (.func g) a b)=>match a.toList,b.toList with
  |[],[]=>some (g,args)
  |_,_=>none
 |.fn (.func g) first cap=>some (g,first++args++cap)
 |_=>none
theorem lV {f:QO}{args:List QO}(h:res P.toTables o=some (.call f args)):∃c u,o=.call c/\c.callee=.value u/\f=qo u/\args=c.args.toList.map qo:=by
 cases o with
 |call c =>
  simp only[res]at h;split at h
  ·grind
  ·repeat' split at h
   all_goals cases h
  ·grind
 |_ =>
  simp only[res]at h
  repeat' split at h
  all_goals cases h
theorem jt {l:List Operand}:(l.map qo).map (·.ev α.tm)=l.map α.ev:=by
 rw[bl_];exact aF_ λx _=>aW x
theorem ae.call {f:QO}(h:eV (f.ev α.tm) (aZ9.map (·.ev α.tm))=some (g,args)) (j:aG P w0 g args S r S') (t:dr=true->S'=S):ae P w0 dr (.call f aZ9) α S r S':=by
 cases dr with
 |false =>
  intro n o k;refine iY.JE ?_;obtain⟨c,u,l,m,rfl,rfl⟩:=lV k;rw[jt,aW]at h;unfold eV at h;rw[l];simp only[bu,m];split at h
  ·rename_i p a b d;split at h
   ·rename_i q s;injection h with h;injection h with e i;subst e i;simp only[Ei,d,q,s];exact⟨r,S',j,rfl,rfl⟩
   ·grind
  ·rename_i p a b d;injection h with h;injection h with e i;subst e i;simp only[Ei,d];exact⟨r,S',j,rfl,rfl⟩
  ·grind
 |true =>
  intro n o k;refine RF.ofD ?_;obtain⟨c,u,l,m,rfl,rfl⟩:=lV k;rw[jt,aW]at h;unfold eV at h;obtain rfl:=t rfl;rw[l];simp only[cP,m];split at h
  ·rename_i p a b d;split at h
   ·rename_i q s;injection h with h;injection h with e i;subst e i;simp only[Ie,d,q,s];exact⟨r,j,rfl,rfl⟩
   ·grind
  ·rename_i p a b d;injection h with h;injection h with e i;subst e i;simp only[Ie,d];exact⟨r,j,rfl,rfl⟩
  ·grind
def ahw (str:Bool):AV->Option Nat
 |.sl _ rows=>match str with|false=>some rows.length|true=>none
 |.ob _ _ _ len _=>match str with|false=>some len|true=>none
 |.v (.string s)=>match str with|true=>some s.size|false=>none
 |_=>none
theorem ae.len {str:Bool}{m:Nat}(h:ahw str (x.ev α.tm)=some m):ae P w0 dr (.len str x) α S (.v (.int .i64 m)) S:=by
 refine ae.of rfl λo b=>?_;cases o<;>simp only[res,cF]at b<;>(repeat' split at b)<;>(try cases b)
 all_goals
  rw[aW]at h;simp only[bu,oY,aC_,bg_, *];refine bC.mk (a:=m) ?_ ⟨rfl,rfl⟩;unfold lenOf;unfold ahw at h;split at h<;>(try split at h)<;>(try cases h)<;>first|contradiction|simp only[isStr,qg, *]
theorem ae.ind {m:Nat}{ex:Bool}{rows:List (List AV)}{row:List AV}{k:IntKind}(h1:x.ev α.tm=.sl ex rows) (h2:i.ev α.tm=.v (.int k j)) (h3:idx rows j=some row) (h4:∀r ∈ rows,r.length=m):ae P w0 dr (.x8 m x i) α S (.ip row) S:=by
 refine ae.of rfl λo a=>?_;cases o<;>simp only[res,cF,fX]at a<;>(repeat' split at a)<;>(try cases a)
 rw[aW]at h1 h2;simp only[bu, *];exact bC.mk rfl ⟨h4,rfl,rfl⟩
theorem ae.ank {m:Nat}{k off len:Nat}{cx:Option Nat}(h1:x.ev α.tm=.ob k m off len cx) (h2:i.ev α.tm=.v (.int ik j)) (h3:0<=j) (h4:j < len):ae P w0 dr (.x8 m x i) α S (.pt k m (off+j.toNat) 0) S:=by
 refine ae.of rfl λo a=>?_;cases o<;>simp only[res,cF,fX]at a<;>(repeat' split at a)<;>(try cases a)
 rw[aW]at h1 h2;rename_i b _ c;simp only[bu,h1,h2,b,c];exact⟨trivial,h3,h4,rfl,rfl⟩
theorem ae.R4 {s:ByteArray}{b:UInt8}(h1:x.ev α.tm=.v (.string s)) (h2:i.ev α.tm=.v (.int ik j)) (h3:idx s.data.toList j=some b):ae P w0 dr (.RR x i) α S (.v (.int .u8 b.toNat)) S:=by
 refine ae.of rfl λo a=>?_;cases o<;>simp only[res,cF,fX]at a<;>(repeat' split at a)<;>(try cases a)
 rw[aW]at h1 h2;simp only[bu, *];exact bC.mk rfl ⟨rfl,rfl⟩
theorem ae.min {y:QO}{k:IntKind}(h1:x.ev α.tm=.v (.int k a)) (h2:y.ev α.tm=.v (.int k b)):ae P w0 dr (.min x y) α S (.v (.int k (min a b))) S:=by
 refine ae.of rfl λo c=>?_;cases o<;>simp only[res,cF]at c<;>(repeat' split at c)<;>(try cases c)
 rw[aW]at h1 h2;simp only[bu,oY,aC_,bg_,decide_true, *];exact⟨rfl,rfl⟩
theorem ae.max {y:QO}{k:IntKind}(h1:x.ev α.tm=.v (.int k a)) (h2:y.ev α.tm=.v (.int k b)):ae P w0 dr (.max x y) α S (.v (.int k (max a b))) S:=by
 refine ae.of rfl λo c=>?_;cases o<;>simp only[res,cF]at c<;>(repeat' split at c)<;>(try cases c)
 rw[aW]at h1 h2;simp only[bu,oY,aC_,bg_,decide_true, *];exact⟨rfl,rfl⟩
theorem ae.quo {isB:BK}{y:QO}{k:IntKind}(h1:x.ev α.tm=.v (.int k a)) (h2:y.ev α.tm=.v (.int k b)) (f:b ≠ 0):ae P w0 false (.bin .quo isB x y) α S (.v (.int k (k.wrap (a.tdiv b)))) S:=by
 refine ae.run λn o h=>?_;obtain⟨t,u,v,s,i,rfl,rfl,j⟩:=wB h;rw[aW]at h1 h2;refine a8.quiet λA g q w l c=>?_;have d:=c.ev u;have e:=c.ev v;rw[h1]at d;rw[h2]at e;refine⟨_,?_,.v⟩;simp[execOp,i,b_ d,b_ e,eqGuard,binOp,Op.intDiv,f]
theorem ae.rem {isB:BK}{y:QO}{k:IntKind}(h1:x.ev α.tm=.v (.int k a)) (h2:y.ev α.tm=.v (.int k b)) (f:b ≠ 0):ae P w0 false (.bin .rem isB x y) α S (.v (.int k (a.tmod b))) S:=by
 refine ae.run λn o h=>?_;obtain⟨t,u,v,s,i,rfl,rfl,j⟩:=wB h;rw[aW]at h1 h2;refine a8.quiet λA g q w l c=>?_;have d:=c.ev u;have e:=c.ev v;rw[h1]at d;rw[h2]at e;refine⟨_,?_,.v⟩;simp[execOp,i,b_ d,b_ e,eqGuard,binOp,Op.intDiv,f]
end
section
variable {P:Program}{w0:World}{rd:Bool}{n:Nat}{α aE:AA}{S S':af}{Q:Exit->AA->af->Prop}{ex:Exit}{r:AV}{i:QI}{l:List QI}{K:List f_}{dr:Bool}{cf wN:QF}
theorem ad.op (a:bG α.tm i.g=some true) (h:ae P w0 dr i.q α S r S') (k:ad P w0 rd n Q (.bc dr l K) (bP i.d α r) S'):ad P w0 rd n Q (.bc dr (i::l) K) α S:=jB.op a h k
theorem ad.bif (a:bG α.tm i.g=some true) (h:ae P w0 dr i.q α S (.v (.bool e)) S') (b:e=true->ad P w0 rd n Q (.bc dr l K) (bP i.d α (.v (.bool true))) S') (c:e=false->ad P w0 rd n Q (.bc dr l K) (bP i.d α (.v (.bool false))) S') :
  ad P w0 rd n Q (.bc dr (i::l) K) α S:=by
 refine jB.op a h ?_;cases e with
 |true=>exact b rfl
 |false=>exact c rfl
theorem ad.int {e:Int}(a:bG α.tm i.g=some true) (h:ae P w0 dr i.q α S (.v (.int ik e)) S') (k:∀d,d=e->ad P w0 rd n Q (.bc dr l K) (bP i.d α (.v (.int ik d))) S'):ad P w0 rd n Q (.bc dr (i::l) K) α S:=jB.op a h (k e rfl)
theorem ad.str {e:ByteArray}(a:bG α.tm i.g=some true) (h:ae P w0 dr i.q α S (.v (.string e)) S') (k:∀d,d=e->ad P w0 rd n Q (.bc dr l K) (bP i.d α (.v (.string d))) S'):ad P w0 rd n Q (.bc dr (i::l) K) α S:=jB.op a h (k e rfl)
theorem K_ (h1:-9223372036854775808<=c) (h2:c<=9223372036854775807):IntKind.i64.wrap c=c:=wrap64 h1 h2
theorem ae.yf {op:BinOp}{isB:BK}{y:QO}(h1:x.ev α.tm=.v (.int .i64 a)) (h2:y.ev α.tm=.v (.int .i64 b)) (h:arith op a b=some c) (d:-9223372036854775808<=c) (e:c<=9223372036854775807):ae P w0 dr (.bin op isB x y) α S (.v (.int .i64 c)) S:=by
 have:=ae.ari (P:=P) (w0:=w0) (S:=S) (dr:=dr) (isB:=isB) h1 h2 h;rw[K_ d e]at this;exact this
theorem ae.adw (h1:x.ev α.tm=.v (.int k' a)) (b:-9223372036854775808<=a) (c:a<=9223372036854775807):ae P w0 dr (.conv .i64 x) α S (.v (.int .i64 a)) S:=by
 have:=ae.conv (P:=P) (w0:=w0) (S:=S) (dr:=dr) (k:=.i64) h1;rw[K_ b c]at this;exact this
theorem ae.ez {f:QO}(h:eV (f.ev α.tm) (aZ9.map (·.ev α.tm))=some (g,args)) (a:ah P w0 g args r) (b:kc args):ae P w0 dr (.call f aZ9) α S r S:=ae.call h (a.RK b S) λ_=>rfl
theorem ae.Eg {f:QO}{a:List AV}(h:eV (f.ev α.tm) (aZ9.map (·.ev α.tm))=some (g,a)) (b:ah P w0 g args r) (c:kc args) (d:zd r) (e:iq S a args):ae P w0 dr (.call f aZ9) α S r S:=ae.call h (b.LY c d e) λ_=>rfl
def vX (f:Nat->AV):List (Nat × AV)->Nat->AV
 |[]=>f
 |p::l=>bE (vX f l) p.1 p.2
inductive QR where
 |t (n:Nat)
 |cell (k:LK) (n:Nat)
def xJ (T:Tables):List ResultVar->Option (List QR)
 |[]=>some []
 |.tmp n::l=>match xJ T l with
  |some a=>some (.t n::a)
  |none=>none
 |.cell n t::l=>match O0 T t,xJ T l with
  |some k,some a=>some (.cell k n::a)
  |_,_=>none
def v_ (f:Nat->AV) (S:af):List QR->Option (List AV)
 |[]=>some []
 |.t n::l=>match v_ f S l with
  |some b=>some (f n::b)
  |none=>none
 |.cell k n::l=>match uT k S (f n),v_ f S l with
  |some a,some b=>some (a::b)
  |_,_=>none
def Iv (b:List QR) (ex:Exit) (α:AA) (S:af):Option (AV × af):=match KV ex,I5 S α.df with
 |true,true=>match v_ α.tm (m_ S α.df) b with
  |some [a]=>some (a,m_ S α.df)
  |some l=>some (.aL l,m_ S α.df)
  |none=>none
 |_,_=>none
def sj (a:List QR) (R:AV->af->Prop) (ex:Exit) (α:AA) (S:af):Prop:=∃r S',Iv a ex α S=some (r,S')/\R r S'
theorem Ml {l:List ResultVar}:∀{a:List QR}{m:List AV},xJ P.toTables l=some a->v_ α.tm S a=some m->DA P α S l=some m:=by
 induction l with
 |nil=>intro a m h k;obtain rfl:=oJ_ h;exact k
 |cons v l b =>
  intro a m h k;cases v with
  |tmp n =>
   simp only[xJ]at h;split at h
   ·grind[v_,DA,SQ]
   ·grind
  |cell n t =>
   simp only[xJ]at h;split at h
   ·grind[v_,KJ,DA,SQ]
   ·grind
theorem L0 {a:Array ResultVar}{b:List QR}(c:xJ P.toTables a.toList=some b) (h:sj b R ex α S):NJ P a R ex α S:=by
 obtain⟨r,S',h,k⟩:=h;unfold Iv at h;split at h
 ·rename_i d e;have key:∀m,v_ α.tm (m_ S α.df) b=some m->DA P α (m_ S α.df) a.toList=some m:=λm f=>Ml c f;unfold NJ;rw[e];have fin:CX P a α (m_ S α.df)=some r/\m_ S α.df=S':=by grind[CX]
  rw[fin.1,fin.2];cases ex<;>first|exact k|cases d
 ·grind
theorem ad.fin {a:List QR}(h:Iv a ex α S=some (r,S')) (k:R r S'):ad P w0 rd n (sj a R) (.out ex []) α S:=⟨r,S',h,k⟩
structure oc (P:Program) (f:FuncId) (q:QC × List QR) (n:Nat):Prop where
 out:∃fn c,P.funcs[f]?=some fn/\fn.body=some c/\fn.ntmps=n/\xJ P.toTables fn.results.toList=some q.2/\comp P.toTables n c=some q.1/\fP P c=true/\∀(xs:Array Value) (w:World),(callFunc f xs).run P w=.ok (.enter f xs) w
def GR (T:Tables) (fn:Func):Option (QC × List QR):=match fn.body with
 |some c=>match comp T fn.ntmps c,xJ T fn.results.toList with
  |some q,some a=>some (q,a)
  |_,_=>none
 |none=>none
def GU (P:Program) (fn:Func):Bool:=match fn.body with|some c=>fP P c|none=>false
theorem oc.of {q:QC × List QR}{fn:Func}{T:Tables}(e:P.funcs[f]?=some fn) (a:GR T fn=some q) (g:P.toTables=T) (h:fn.ntmps=n) (b:GU P fn=true)
  (i:∀(xs:Array Value) (w:World),(callFunc f xs).run P w=.ok (.enter f xs) w):oc P f q n:=by
 subst g;unfold GR at a;unfold GU at b;cases d:fn.body with
 |none=>rw[d]at a;cases a
 |some c =>
  rw[d]at a b;simp only at a;split at a
  ·rename_i q1 k l j;obtain rfl:=oJ_ a;exact⟨⟨fn,c,e,d,h,j,by grind,b,i⟩⟩
  ·grind
theorem ad.mono {a:Exit->AA->af->Prop}(b:∀ex α S,Q ex α S->a ex α S) {c:QC}(h:ad P w0 rd n Q (.run c []) α S):ad P w0 rd n a (.run c []) α S:=by
 intro c0 d e;obtain⟨ex,aE,S',f,g⟩:=h c0 d e;exact⟨ex,aE,S',f,b _ _ _ g⟩
theorem oc.amp {q:QC × List QR}(F:oc P f q n) (a:args.length<=n) (b:Pure r) (h:ad P w0 false n (sj q.2 λd S=>aP S d r) (.run q.1 []) ⟨nI args,[]⟩ af.none_):ah P w0 f args r:=by
 obtain⟨fn,c,e,g,i,j,k,l,m⟩:=F.out;exact ah.of_wp e g m i a b (ad.mono (λex α S=>L0 j) h c k l)
theorem oc.LH {q:QC × List QR}(F:oc P f q n) (a:args.length<=n) (h:ad P w0 false n (sj q.2 R) (.run q.1 []) ⟨nI args,[]⟩ S):∃r S',aG P w0 f args S r S'/\R r S':=by
 obtain⟨fn,c,b,d,e,g,i,j,k⟩:=F.out;exact aG.of_wp b d k e a (ad.mono (λex α S=>L0 g) h c i j)
theorem aP.of_eq {S:af}{a b:AV}(h:a=b):aP S a b:=by subst h;exact aP.refl _
end
structure Hd where
 h:{α β:Type}->(α->β)->α->β
 eq:∀{α β:Type}(f:α->β) (a:α),h f a=f a
def Hd.plain:Hd:=⟨λf a=>f a,λ_ _=>rfl⟩
def aR (ρ:Hd) {T:Type}(f:T->List AV) (ex:Bool) (l:List T):AV:=.sl ex (ρ.h (List.map f) l)
section
variable {ρ:Hd}{T:Type}{f:T->List AV}{l:List T}{ex:Bool}
theorem bX:aR ρ f ex l=.sl ex (l.map f):=by rw[aR,ρ.eq]
theorem au:(ρ.h (List.map f) l).length=l.length:=by rw[ρ.eq,aU_]
theorem aB {i:Int}{k:Nat}{x:T}(hi:i=(k:Int)) (h:l[k]?=some x):idx (ρ.h (List.map f) l) i=some (f x):=by
 rw[ρ.eq];exact acW hi h
theorem aA {m:Nat}(h:∀x,(f x).length=m):∀r ∈ ρ.h (List.map f) l,r.length=m:=by
 rw[ρ.eq];intro r a;obtain⟨x,_,rfl⟩:=av_.1 a;exact h x
theorem dT (h:∀x ∈ l,∀a ∈ f x,Pure a):Pure (aR ρ f ex l):=by
 rw[bX];refine .sl λrow b a c=>?_;obtain⟨x,d,rfl⟩:=av_.1 b;exact h x d a c
end
inductive ec (B:Nat):AV->Prop where
 |u:ec B .u
 |v {x:Value}:ec B (.v x)
 |agg {l:List AV}(h:∀a ∈ l,ec B a):ec B (.agg l)
 |aL {l:List AV}(h:∀a ∈ l,ec B a):ec B (.aL l)
 |sl {ex:Bool}{rows:List (List AV)}(h:∀row ∈ rows,∀a ∈ row,ec B a):ec B (.sl ex rows)
 |ip {cs:List AV}(h:∀a ∈ cs,ec B a):ec B (.ip cs)
 |ob {k sz off len:Nat}{cx:Option Nat}(h:k < B):ec B (.ob k sz off len cx)
 |pt {k sz i j:Nat}(h:k < B):ec B (.pt k sz i j)
 |mp {k:Nat}(h:k < B):ec B (.mp k)
 |yl {k:Nat}(h:k < B):ec B (.yl k)
 |gr {k sz len:Nat}(h:k < B):ec B (.gr k sz len)
 |fn {f:Fn}{l m:List AV}(h3:∀a ∈ l,ec B a) (h4:∀a ∈ m,ec B a):ec B (.fn f l m)
theorem Pure.bm {a:AV}(h:Pure a):ec B a:=by
 induction h with
 |v=>exact .v
 |agg _ b=>exact .agg b
 |aL _ b=>exact .aL b
 |sl _ b=>exact .sl b
 |ip _ b=>exact .ip b
 |fn _ _ c d=>exact .fn c d
theorem aN.bm {g g':Gh}(n:∀k,k < B->g.al k->g'.al k) (p:∀k,k < B->g'.ob k=g.ob k) (G:∀k,k < B->g'.cp k=g.cp k) (s:∀b o,g.fz b o->g'.fz b o) {a:AV}{x:Value}(h:aN g w a x) (c:ec B a) :
  aN g' w a x:=by
 induction h with
 |u=>exact .u
 |v=>exact .v
 |agg q h m=>cases c with|agg c=>exact .agg q λi a x d e=>m i a x d e (c _ (aa_ d))
 |aL q h m=>cases c with|aL c=>exact .aL q λi a x d e=>m i a x d e (c _ (aa_ d))
 |nil r=>exact .nil r
 |sl t y f z h A m =>
  cases c with
  |sl c =>
   exact .sl t y f z (λi j row a d e=>⟨s _ _ (h i j row a d e).1,(h i j row a d e).2⟩)
    (λi j row a d e=>m i j row a d e (c _ (aa_ d) _ (aa_ e)))
 |ip h A m =>
  cases c with
  |ip c=>exact .ip (λj a d=>⟨s _ _ (h j a d).1,(h j a d).2⟩) (λj a d=>m j a d (c _ (aa_ d)))
 |ob l r d C f=>cases c with|ob c=>rw[<-p _ c];exact .ob (n _ c l) r (by grind) (by grind) f
 |pt l=>cases c with|pt c=>rw[<-p _ c];exact .pt (n _ c l)
 |mp l=>cases c with|mp c=>rw[<-p _ c];exact .mp (n _ c l)
 |yl l=>cases c with|yl c=>rw[<-p _ c];exact .yl (n _ c l)
 |kO=>exact .kO
 |gr l C f=>cases c with|gr c=>rw[<-p _ c];exact .gr (n _ c l) (by grind) f
 |fn d e H I D E =>
  cases c with
  |fn c F=>exact .fn d e (λi a x d e=>D i a x d e (c _ (aa_ d))) (λi a x d e=>E i a x d e (F _ (aa_ d)))
def h_ (B:Nat):Ob->Prop
 |.arr _ rows _ _=>∀row ∈ rows,∀a ∈ row,ec B a
 |.mp b=>∀e ∈ b,ec B e.2
 |.mb b=>∀e ∈ b,ec B e.2
 |.lp _ _ tm _ _ _=>∀t,ec B (tm t)
 |.df=>True
 |.si _ _=>True
 |.fo _=>True
 |.un=>True
def eM (B:Nat) (f:Nat->Nat) (j:Nat):Nat:=match Nat.blt j B with|true=>j|false=>f j
theorem pK {j:Nat}{f:Nat->Nat}(h:j < B):eM B f j=j:=by
 have:Nat.blt j B=true:=cf_ h;simp only[eM,this]
def Gh.jc (g:Gh) (B N:Nat) (f:Nat->Nat):Gh:=⟨λj=>g.ob (eM B f j),λj=>g.cp (eM B f j),λj=>j < N/\g.al (eM B f j),g.fz,g.fo⟩
section
variable {w0:World}{A:Nat->Prop}{g gs:Gh}{S S':af}{w ws:World}{B:Nat}{f:Nat->Nat}
theorem aN.jc {a:AV}{x:Value}(e:B<=N) (h:aN g w a x) (d:ec B a):aN (g.jc B N f) w a x:=by
 refine aN.bm (g:=g) (g':=g.jc B N f) (B:=B) (λk c j=>(⟨by omega,by grind[pK]⟩:k < N/\g.al (eM B f k))) (λk c=>?_) (λk c=>?_) (λb o h=>h) h d
 ·show g.ob (eM B f k)=g.ob k;rw[pK c]
 ·show g.cp (eM B f k)=g.cp k;rw[pK c]
theorem eU.jc {b cp:Nat}{o:Ob}(q:B<=N) (h:eU g w b cp o) (r:h_ B o):eU (g.jc B N f) w b cp o:=by
 cases o with
 |arr K rows fz ex =>
  obtain⟨C,D,d,l,m,p,u,v,y⟩:=h;refine⟨C,D,d,l,m,p,λi row n=>⟨(u i row n).1,λj a c=>?_⟩,v,y⟩;obtain⟨x,E,F⟩:=(u i row n).2 j a c;exact⟨x,E,F.jc q (r _ (aa_ n) _ (aa_ c))⟩
 |mp G =>
  obtain⟨entries,clock,d,l,m⟩:=h;refine⟨entries,clock,d,l,λi k a c=>?_⟩;obtain⟨e,z,A,n⟩:=m i k a c;exact⟨e,z,A,n.jc q (r _ (aa_ c))⟩
 |mb G =>
  obtain⟨entries,d,l,m,p⟩:=h;refine⟨entries,d,l,λi k a c=>?_,p⟩;obtain⟨e,z,A,n⟩:=m i k a c;exact⟨e,z,A,n.jc q (r _ (aa_ c))⟩
 |lp st M tm O assign body =>
  obtain⟨L,d,l,m,p,u,v,y,H⟩:=h;exact⟨L,d,l,m,p,u,v,λt I=>(y t I).jc q (r t),H⟩
 |df=>exact h
 |si s pos=>exact h
 |fo J=>exact h
 |un=>exact h.elim
theorem St.jc (c:St w0 A g S w) (H:B<=S'.nx) (D:∀j o,S'.get j=some o->(∃a,S.get (eM B f j)=some a/\(∀b cp,eU g w b cp a->eU (g.jc B S'.nx f) w b cp o)/\∀J,o=.fo J->a=.fo J)\/S.nx<=eM B f j)
  (v:∀i j o p,S'.get i=some o->S'.get j=some p->eM B f i=eM B f j->i=j):St w0 A (g.jc B S'.nx f) S' w:=by
 have n:∀j o,S'.get j=some o->(g.jc B S'.nx f).al j->∃a,S.get (eM B f j)=some a/\(∀b cp,eU g w b cp a->eU (g.jc B S'.nx f) w b cp o)/\∀J,o=.fo J->a=.fo J:=λj o l m=>(D j o l).resolve_right λh=>absurd (c.al _ m.2) (by omega);refine⟨c.base,c.up,c.lo,λk d=>d.1,λk o d m=>?_,λi j o p x l y q e=>?_,c.dw,c.rp,λk J d m=>?_,λk J j o d m l q E=>?_,λj k J F l d q z=>?_⟩
 ·obtain⟨a,r,G,_⟩:=n k o d m;obtain⟨s,t,C⟩:=c.cT _ a r m.2;exact⟨s,t,G _ _ C⟩
 ·obtain⟨a,r,_⟩:=n i o x y;obtain⟨u,s,_⟩:=n j p l q;exact v i j o p x l (c.inj _ _ a u r s y.2 q.2 e)
 ·obtain⟨a,r,_,s⟩:=n k _ d m;exact c.kP _ J (by grind) m.2
 ·obtain⟨a,r,_,s⟩:=n k _ d m;obtain⟨u,t,_⟩:=n j _ l q;exact c.nb _ J _ u (by grind) m.2 t q.2 (λe=>E (v j k o _ l d e))
 ·obtain⟨a,r,_,s⟩:=n j _ l q;obtain⟨u,t,_,C⟩:=n k _ d z;exact v j k _ _ l d (c.oW _ _ J F (by grind) (by grind) q.2 z.2)
theorem Ext.jc (a:Ext A gs ws g w) (d:B<=N) (c:∀k,gs.al k->k < B):Ext A gs ws (g.jc B N f) w :=
 { al:=λk b=>⟨by grind,by rw[pK (c k b)];exact a.al k b⟩
   ob:=λk b=>by show g.ob (eM B f k)=gs.ob k;rw[pK (c k b)];exact a.ob k b
   cp:=λk b=>by show g.cp (eM B f k)=gs.cp k;rw[pK (c k b)];exact a.cp k b
   fz:=a.fz
   cell:=a.cell
   size:=a.size
   aM:=a.aM
   kr:=a.kr }
end
def aU:List (Nat × Nat)->Nat->Nat
 |[],j=>j
 |p::m,j=>match Nat.beq p.1 j with|true=>p.2|false=>aU m j
def fb:List (Nat × Ob)->Nat->Option Ob
 |[],_=>none
 |p::l,j=>match Nat.beq p.1 j with|true=>some p.2|false=>fb l j
theorem fp:∀{l:List (Nat × Ob)}{j:Nat}{o:Ob},fb l j=some o->(j,o) ∈ l
 |[],j,o,h=>by cases h
 |(a,b)::l,j,o,h=>by
  simp only[fb]at h;split at h
  ·rename_i e;obtain rfl:=aH_ e;obtain rfl:=oJ_ h;simp
  ·exact List.mem_cons_of_mem _ (fp h)
inductive y7 (B:Nat) (m:List (Nat × Nat)) (N:Nat) (f:Nat->AV):Nat->AV->Prop where
 |aC {t:Nat}{a:AV}(h:f t=a) (hk:ec B a):y7 B m N f t a
 |new {t j sz off len:Nat}{cx:Option Nat}(h:f t=.ob (eM B (aU m) j) sz off len cx) (hj:Nat.blt j N=true):y7 B m N f t (.ob j sz off len cx)
 |jT {t j sz len:Nat}(h:f t=.gr (eM B (aU m) j) sz len) (hj:Nat.blt j N=true):y7 B m N f t (.gr j sz len)
 |kO {t j sz:Nat}(h:f t=.sl true []):y7 B m N f t (.gr j sz 0)
 |ni {t j sz i q:Nat}(h:f t=.pt (eM B (aU m) j) sz i q) (hj:Nat.blt j N=true):y7 B m N f t (.pt j sz i q)
 |sv {t j:Nat}(h:f t=.mp (eM B (aU m) j)) (hj:Nat.blt j N=true):y7 B m N f t (.mp j)
def O3 (B:Nat) (m:List (Nat × Nat)) (N:Nat) (f:Nat->AV):List (Nat × AV)->Prop
 |[]=>True
 |p::l=>y7 B m N f p.1 p.2/\O3 B m N f l
inductive kf (B:Nat) (m:List (Nat × Nat)) (N:Nat):AV->AV->Prop where
 |aC {a:AV}(hk:ec B a):kf B m N a a
 |new {j k sz off len:Nat}{cx:Option Nat}(h:k=eM B (aU m) j) (hj:Nat.blt j N=true):kf B m N (.ob k sz off len cx) (.ob j sz off len cx)
 |jT {j k sz len:Nat}(h:k=eM B (aU m) j) (hj:Nat.blt j N=true):kf B m N (.gr k sz len) (.gr j sz len)
 |kO {j sz:Nat}:kf B m N (.sl true []) (.gr j sz 0)
 |ni {j k sz i q:Nat}(h:k=eM B (aU m) j) (hj:Nat.blt j N=true):kf B m N (.pt k sz i q) (.pt j sz i q)
 |sv {j k:Nat}(h:k=eM B (aU m) j) (hj:Nat.blt j N=true):kf B m N (.mp k) (.mp j)
def D9 (B:Nat) (m:List (Nat × Nat)) (N:Nat):List AV->List AV->Prop
 |[],[]=>True
 |a::l,b::c=>kf B m N a b/\D9 B m N l c
 |_,_=>False
def Lh (B:Nat) (m:List (Nat × Nat)) (N:Nat):List (List AV)->List (List AV)->Prop
 |[],[]=>True
 |a::l,b::c=>D9 B m N a b/\Lh B m N l c
 |_,_=>False
theorem D9.at:∀{l e:List AV},D9 B m N l e->l.length=e.length/\∀(i:Nat) (b:AV),e[i]?=some b->∃a,l[i]?=some a/\kf B m N a b
 |[],[],_=>⟨rfl,λi b h=>by grind⟩
 |a::l,b::e,f=>⟨by simp[f.2.at.1],λi c h=>by
  cases i with
  |zero=>simp at h;subst h;exact⟨a,rfl,f.1⟩
  |succ i=>simp at h;obtain⟨d,j,g⟩:=f.2.at.2 i c h;exact⟨d,by grind,g⟩⟩
 |[],_::_,h=>h.elim
 |_::_,[],h=>h.elim
theorem Lh.at:∀{l e:List (List AV)},Lh B m N l e->l.length=e.length/\∀(i:Nat) (b:List AV),e[i]?=some b->∃a,l[i]?=some a/\D9 B m N a b
 |[],[],_=>⟨rfl,λi b h=>by grind⟩
 |a::l,b::e,f=>⟨by simp[f.2.at.1],λi c h=>by
  cases i with
  |zero=>simp at h;subst h;exact⟨a,rfl,f.1⟩
  |succ i=>simp at h;obtain⟨d,j,g⟩:=f.2.at.2 i c h;exact⟨d,by grind,g⟩⟩
 |[],_::_,h=>h.elim
 |_::_,[],h=>h.elim
inductive RG (B:Nat) (m:List (Nat × Nat)) (N:Nat):Ob->Ob->Prop where
 |same {o:Ob}(hk:h_ B o):RG B m N o o
 |arr {sz fz:Nat}{rows en:List (List AV)}{ex:Bool}(h:Lh B m N rows en):RG B m N (.arr sz rows fz ex) (.arr sz en fz ex)
def fO (B:Nat) (m:List (Nat × Nat)) (N:Nat) (S:af):List (Nat × Ob)->Prop
 |[]=>True
 |p::l=>((∃a,S.get (eM B (aU m) p.1)=some a/\RG B m N a p.2)\/Nat.ble S.nx (eM B (aU m) p.1)=true)/\fO B m N S l
theorem fO.mem {S:af}:∀{l:List (Nat × Ob)},fO B m N S l->∀p ∈ l,(∃a,S.get (eM B (aU m) p.1)=some a/\RG B m N a p.2)\/Nat.ble S.nx (eM B (aU m) p.1)=true
 |[],_,p,h=>by grind
 |q::l,b,p,h=>by
  rcases ad_.1 h with rfl|h
  ·exact b.1
  ·exact b.2.mem p h
def qD (B:Nat) (m:List (Nat × Nat)):List Nat->Bool
 |[]=>true
 |j::l=>l.all (λi=>!Nat.beq (eM B (aU m) i) (eM B (aU m) j)) && qD B m l
theorem qD.inj {B:Nat}{m:List (Nat × Nat)}:∀{l:List Nat},qD B m l=true->∀i j,i ∈ l->j ∈ l->eM B (aU m) i=eM B (aU m) j->i=j
 |[],_,i,j,h,_,_=>by grind
 |a::l,b,i,j,c,d,e=>by
  simp only[qD,al_,aP_,bO_]at b;have ne:∀x ∈ l,eM B (aU m) x ≠ eM B (aU m) a:=λx f h=>by
   have:=b.1 x f;rw[h,bp_]at this;cases this
  by_cases g:i=a
  ·grind
  ·by_cases k:j=a
   ·grind
   ·exact qD.inj b.2 i j ((ad_.1 c).resolve_left g) ((ad_.1 d).resolve_left k) e
def jd (l:List (Nat × AV)) (ds:List DE):AA:=⟨vX (λ_=>.u) l,ds⟩
def aq (l:List (Nat × Ob)) (N:Nat):af:=⟨fb l,N⟩
structure Canon (B N:Nat) (m:List (Nat × Nat)) (α:AA) (S:af) (l:List (Nat × AV)) (ds:List DE) (so:List (Nat × Ob)):Prop where
 akw:O3 B m N α.tm l
 df:α.df=ds
 aoz:fO B m N S so
 aoA:qD B m (so.map (·.1))=true
 bn:Nat.ble B N=true
 dl:ds.all (λd=>Nat.blt d.k B)=true
section
variable {P:Program}{w0:World}{rd:Bool}{n:Nat}{A:Nat->Prop}{g gs:Gh}{S S':af}{w ws:World}{B N:Nat}{m:List (Nat × Nat)}{α:AA}{l:List (Nat × AV)}{ds:List DE}{so:List (Nat × Ob)}{a:Act}
theorem lk {i j:Nat}(h:Nat.blt i j=true):i < j:=aq_ h
theorem kf.rep {a b:AV}{x:Value}(r:B<=N) (h:kf B m N a b) (l:aN g w a x):aN (g.jc B N (aU m)) w b x:=by
 cases h with
 |aC c=>exact l.jc r c
 |@new j k p off len cx e d =>
  subst e;cases l with
  |ob c n s o f=>exact .ob (g:=g.jc B N (aU m)) (k:=j) ⟨aq_ d,c⟩ n s o f
 |@jT j k p len e d =>
  subst e;cases l with
  |kO=>exact .kO
  |gr c o f=>exact .gr (g:=g.jc B N (aU m)) (k:=j) ⟨aq_ d,c⟩ o f
 |kO =>
  cases l with
  |nil n=>rw[n rfl];exact .kO
  |sl t=>exact absurd rfl t
 |@ni j k p i q e d =>
  subst e;cases l with
  |pt c=>exact .pt (g:=g.jc B N (aU m)) (k:=j) ⟨aq_ d,c⟩
 |@sv j k e d =>
  subst e;cases l with
  |mp c=>exact .mp (g:=g.jc B N (aU m)) (k:=j) ⟨aq_ d,c⟩
theorem RG.rep {o e:Ob}{b cp:Nat}(f:B<=N) (h:RG B m N o e) (c:eU g w b cp o):eU (g.jc B N (aU m)) w b cp e:=by
 cases h with
 |same k=>exact c.jc f k
 |@arr G fz rows H ex l =>
  obtain⟨I,n⟩:=l.at;obtain⟨p,q,r,s,J,K,t,L,u⟩:=c;refine⟨p,q,r,s,by grind,λM=>by grind,λi row c=>?_,by grind,u⟩;obtain⟨d,v,y⟩:=n i row c;obtain⟨O,z⟩:=y.at;refine⟨by grind,λj a A=>?_⟩;obtain⟨a0,C,D⟩:=z j a A;obtain⟨x,E,F⟩:=(t i d v).2 j a0 C;exact⟨x,E,D.rep f F⟩
theorem Canon.st (a:Canon B N m α S l ds so) (d:St w0 A g S w):St w0 A (g.jc B N (aU m)) (aq so N) w :=
 St.jc (S':=aq so N) d (aq_ a.bn) (λj o h=>by
   rcases a.aoz.mem _ (fp h) with ⟨f,k,c⟩|n
   case inr=>exact .inr (aq_ n)
   exact .inl ⟨f,k,λb cp q=>c.rep (aq_ a.bn) q,λJ r=>by subst r;cases c;rfl⟩)
  (λi j o p s t e=>qD.inj a.aoA i j (av_.2 ⟨_,fp s,rfl⟩) (av_.2 ⟨_,fp t,rfl⟩) e)
theorem KM (f:B<=N) (k:cA g w n α a):∀{l:List (Nat × AV)},O3 B m N α.tm l->(∀t,t < n->aN (g.jc B N (aU m)) w (vX (λ_=>.u) l t) (a.tmps.getD t undef))/\∀t,n<=t->vX (λ_=>.u) l t=.u
 |[],_=>⟨λ_ _=>.u,λ_ _=>rfl⟩
 |(s,b)::l,h=>by
  obtain⟨v,x⟩:=KM f k h.2;have r:y7 B m N α.tm s b:=h.1;refine⟨λt o=>?_,λt o=>?_⟩
  ·show aN _ w (bE (vX (λ_=>.u) l) s b t) _;by_cases e:t=s
   ·subst e;rw[aJ];have c:=k.tm t o;cases r with
    |aC e u=>rw[e]at c;exact c.jc f u
    |@new j p off len cx e d =>
     rw[e]at c;exact kf.rep f (.new rfl d) c
    |@jT j p len e d=>rw[e]at c;exact kf.rep f (.jT rfl d) c
    |@kO j p e=>rw[e]at c;exact kf.rep f .kO c
    |@ni j p i q e d=>rw[e]at c;exact kf.rep f (.ni rfl d) c
    |@sv j e d=>rw[e]at c;exact kf.rep f (.sv rfl d) c
   ·grind[aO]
  ·show bE (vX (λ_=>.u) l) s b t=.u;by_cases e:t=s
   ·subst e;rw[aJ];have c:=k.out t o;cases r with
    |aC e u=>exact e.symm.trans c
    |new e d=>rw[c]at e;cases e
    |jT e d=>rw[c]at e;cases e
    |kO e=>rw[c]at e;cases e
    |ni e d=>rw[c]at e;cases e
    |sv e d=>rw[c]at e;cases e
   ·grind[aO]
theorem Canon.RM (b:Canon B N m α S l ds so) (c:cA g w n α a):cA (g.jc B N (aU m)) w n (jd l ds) a:=by
 have f:=aq_ b.bn;obtain⟨h,i⟩:=KM f c b.akw;have e:=b.dl;rw[aP_]at e;refine⟨c.size,h,i,?_,λk d=>?_⟩
 ·rw[c.df,b.df];refine aF_ λk d=>?_;refine (Cp ?_).symm;show g.ob (eM B (aU m) k.k)=_;rw[pK (lk (e k d))]
 ·have:=lk (e k d);refine⟨by omega,?_⟩;rw[pK this];exact c.wK k (by rw[b.df];exact d)
def xX (P:Program) (w0:World) (rd:Bool) (n B:Nat) (c:Code) (α:AA) (S:af) (ex:Exit) (aE:AA) (S':af):Prop :=
 ∀(F:Fence) (m:Nat) (A:Nat->Prop) (g gs:Gh) (a:Act) (w ws:World),kW F->F.round.isSome=rd->St w0 A g S w->cA g w n α a->Ext A gs ws g w->(∀k,gs.al k->k < B)->∀(b:Frame) (k:List Item) (d:List Frame),b.roundOf=F.round->F.fn b.fn->F.room (d.length+1+m) ->
  ∃e f h,qC w0 n A gs ws ex aE S' e f h/\ArrivesIn (Machine.fenced P F) P (lone (b.atR a (.code c::.inLoop c::k)) d w) b k d e f h
section
variable {c:Code}{dp aE:AA}{dL:af}{ex:Exit}
theorem xX.step (h:dN P w0 rd n c α S .normal dp dL) (d:Canon B N m dp dL l ds so) (k:xX P w0 rd n B c (jd l ds) (aq so N) ex aE S'):xX P w0 rd n B c α S ex aE S':=by
 intro F o A g gs a w ws p r v x y s b q t u f i;obtain⟨e,z,C,D,E⟩:=h F o A g a w p r v x b (.inLoop c::q) t u f i;obtain⟨rfl,O,G,H,j⟩:=D;obtain⟨I,J,K,L,M⟩:=k F o A _ gs z C ws p r (d.st G) (d.RM H) ((y.trans j).jc (aq_ d.bn) s) s b q t u f i;exact⟨I,J,K,L,.of_steps (StepsIn.trans E (.one (fenced_calm f i rfl) stepR_inLoop)) M⟩
theorem xX.done (h:dN P w0 rd n c α S ex aE S') (f:ex ≠ .normal):xX P w0 rd n B c α S ex aE S':=by
 intro F i A g gs a w ws j k l m o z b q p r s t;obtain⟨e,u,v,d,y⟩:=h F i A g a w j k l m b (.inLoop c::q) p r s t;obtain⟨rfl,d⟩:=d;exact⟨e,u,v,qC.ext o ⟨rfl,d⟩,.pass (x:=.inLoop c) rfl (λ_ _=>.inl f) y⟩
theorem xX.start (h:Nat.ble S.nx B=true) (d:Canon B N m α S l ds so) (k:xX P w0 rd n B c (jd l ds) (aq so N) ex aE S'):ze P w0 rd n c α S ex aE S':=by
 intro F i A g a w j o e p b q r s t u;have f:∀k,g.al k->k < B:=λk v=>au_ (e.al k v) (aq_ h);exact k F i A _ g a w w j o (d.st e) (d.RM p) ((Ext.refl A g w).jc (aq_ d.bn) f) f b q r s t u
end
def Qa {σ:Type}(P:Program) (w0:World) (rd:Bool) (n B N:Nat) (st:σ->List (Nat × AV)) (ds:List DE) (so:σ->List (Nat × Ob)) (I:σ->Prop) (μ:σ->Nat) (Q:Exit->AA->af->Prop) (K:List f_) (k:Nat):Exit->AA->af->Prop :=
 λex α S=>match ex with|.normal=>∃s m,I s/\μ s < k/\Canon B N m α S (st s) ds (so s)|e=>ad P w0 rd n Q (.out e K) α S
variable {Q:Exit->AA->af->Prop}{K:List f_}
theorem ad.aK (B N:Nat) (m:List (Nat × Nat)) (st:σ->List (Nat × AV)) (ds:List DE) (so:σ->List (Nat × Ob)) (I:σ->Prop) (μ:σ->Nat) (s0:σ) {c:QC}(h0:I s0) (i:Nat.ble S.nx B=true) (j:Canon B N m α S (st s0) ds (so s0))
  (h:∀s,I s->ad P w0 rd n (Qa P w0 rd n B N st ds so I μ Q K (μ s)) (.run c []) (jd (st s) ds) (aq (so s) N)):ad P w0 rd n Q (.run (.loop c) K) α S:=by
 intro c0 l o;obtain⟨b,rfl,p⟩:=Kb l;have key:∀(k:Nat) (s:σ),I s->μ s=k->∃ex aE S',xX P w0 rd n B b (jd (st s) ds) (aq (so s) N) ex aE S'/\dS P w0 rd n Q K ex aE S':=by
  intro k
  induction k using Nat.strongRecOn with
  |_ k q =>
   intro s r w;obtain⟨ex,dp,dL,a,f⟩:Wp P w0 rd n b (Qa P w0 rd n B N st ds so I μ Q K (μ s)) (jd (st s) ds) (aq (so s) N):=h s r b p o;cases ex with
   |normal =>
    obtain⟨g,x,d,y,e⟩:=f;obtain⟨ex,aE,S',t,u⟩:=q (μ g) (by omega) g d rfl;exact⟨ex,aE,S',xX.step a e t,u⟩
   |_=>exact⟨_,dp,dL,xX.done a (by simp),f⟩
 obtain⟨ex,aE,S',v,a⟩:=key _ s0 h0 rfl;exact⟨ex,aE,S',dN.loop (xX.start i j v),a⟩
theorem ad.az {st:σ->List (Nat × AV)}{so:σ->List (Nat × Ob)}{I:σ->Prop}{μ:σ->Nat}{k:Nat}(s:σ) (m:List (Nat × Nat)) (a:I s) (b:μ s < k) (c:Canon B N m α S (st s) ds (so s)) :
  ad P w0 rd n (Qa P w0 rd n B N st ds so I μ Q K k) (.out .normal []) α S:=⟨s,m,a,b,c⟩
theorem ad.ao {st:σ->List (Nat × AV)}{so:σ->List (Nat × Ob)}{I:σ->Prop}{μ:σ->Nat}{k id:Nat}(h:ad P w0 rd n Q (.out (.exit id) K) α S):ad P w0 rd n (Qa P w0 rd n B N st ds so I μ Q K k) (.out (.exit id) []) α S:=h
theorem ad.bh {st:σ->List (Nat × AV)}{so:σ->List (Nat × Ob)}{I:σ->Prop}{μ:σ->Nat}{k:Nat}(h:ad P w0 rd n Q (.out .ret K) α S):ad P w0 rd n (Qa P w0 rd n B N st ds so I μ Q K k) (.out .ret []) α S:=h
end
section
open Go.Shelf
def Tryz.Ke:Go.Shelf.Ren:=⟨λ|7=>200|10=>237|n=>n,λ|23=>239|26=>3|3=>3|28=>234|0=>0|27=>233|33=>131|4=>4|n=>n,λ|n=>n⟩
theorem Tryz.ajB:Go.Proofs.SlLaysZI.n7 Tryz.prog Tryz.Ke:={
 mixed:=by kernel_rfl
 f7:=⟨Tryz.f200.name,by decide,Tryz.func200.trans (congrArg some (by kernel_rfl))⟩
 f10:=⟨Tryz.f237.name,by decide,Tryz.func237.trans (congrArg some (by kernel_rfl))⟩
 t0:=Tryz.underlying0
 a0:=Tryz.isAgg0
 z0:=Tryz.sizeOf0
 v0:=Tryz.zeroValue0
 t4:=Tryz.underlying4
 a4:=Tryz.isAgg4
 z4:=Tryz.sizeOf4
 v4:=Tryz.zeroValue4
 t23:=Tryz.underlying239
 a23:=Tryz.isAgg239
 z23:=Tryz.sizeOf239
 v23:=Tryz.zeroValue239
 t26:=Tryz.underlying3
 a26:=Tryz.isAgg3
 z26:=Tryz.sizeOf3
 v26:=Tryz.zeroValue3
 t27:=Tryz.underlying233
 a27:=Tryz.isAgg233
 z27:=Tryz.sizeOf233
 v27:=Tryz.zeroValue233
 t28:=Tryz.underlying234
 a28:=Tryz.isAgg234
 z28:=Tryz.sizeOf234
 v28:=Tryz.zeroValue234
 t33:=Tryz.underlying131
 a33:=Tryz.isAgg131
 z33:=Tryz.sizeOf131
 v33:=Tryz.zeroValue131 }
def Tryz.Fe:Go.Shelf.Ren:=⟨λ|6=>199|8=>235|9=>236|11=>260|13=>262|12=>261|23=>284|24=>285|14=>275|15=>276|16=>277|17=>278|18=>279|19=>280|20=>281|21=>282|22=>283|25=>290|26=>291|27=>292|28=>293|29=>294|30=>248|31=>307|n=>n,λ|26=>3|28=>234|24=>41|0=>0|3=>3|37=>290|48=>307|50=>309|4=>4|40=>301|39=>300|45=>245|5=>5|9=>9|51=>316|55=>320|57=>325|58=>326|33=>131|n=>n,λ|n=>n⟩
theorem Tryz.acn:Go.Proofs.SlLaysZI.n6 Tryz.prog Tryz.Fe:={
 mixed:=by kernel_rfl
 f6:=⟨Tryz.f199.name,by decide,Tryz.func199.trans (congrArg some (by kernel_rfl))⟩
 f8:=⟨Tryz.f235.name,by decide,Tryz.func235.trans (congrArg some (by kernel_rfl))⟩
 f11:=⟨Tryz.f260.name,by decide,Tryz.func260.trans (congrArg some (by kernel_rfl))⟩
 t0:=Tryz.underlying0
 a0:=Tryz.isAgg0
 z0:=Tryz.sizeOf0
 v0:=Tryz.zeroValue0
 t24:=Tryz.underlying41
 a24:=Tryz.isAgg41
 z24:=Tryz.sizeOf41
 v24:=Tryz.zeroValue41
 t26:=Tryz.underlying3
 a26:=Tryz.isAgg3
 z26:=Tryz.sizeOf3
 v26:=Tryz.zeroValue3
 t28:=Tryz.underlying234
 a28:=Tryz.isAgg234
 z28:=Tryz.sizeOf234
 v28:=Tryz.zeroValue234
 i26:=by kernel_rfl }
def Tryz.WB:Go.Shelf.Ren:=⟨λ|5=>236|8=>262|7=>261|19=>284|20=>285|10=>275|11=>276|12=>277|13=>278|14=>279|15=>280|16=>281|17=>282|18=>283|30=>290|31=>291|32=>292|33=>293|34=>294|35=>248|40=>307|n=>n,λ|23=>41|25=>3|3=>3|32=>290|22=>41|0=>0|44=>307|46=>309|4=>4|36=>301|35=>300|41=>245|5=>5|9=>9|53=>316|57=>320|63=>325|64=>326|n=>n,λ|n=>n⟩
theorem Tryz.aaD:Go.Proofs.SlLaysM.n5 Tryz.prog Tryz.WB:={
 mixed:=by kernel_rfl
 f5:=⟨Tryz.f236.name,by decide,Tryz.func236.trans (congrArg some (by kernel_rfl))⟩
 f7:=⟨Tryz.f261.name,by decide,Tryz.func261.trans (congrArg some (by kernel_rfl))⟩
 f8:=Tryz.func262.trans (congrArg some (by kernel_rfl))
 f10:=⟨Tryz.f275.name,by decide,Tryz.func275.trans (congrArg some (by kernel_rfl))⟩
 f11:=⟨Tryz.f276.name,by decide,Tryz.func276.trans (congrArg some (by kernel_rfl))⟩
 f12:=⟨Tryz.f277.name,by decide,Tryz.func277.trans (congrArg some (by kernel_rfl))⟩
 f13:=⟨Tryz.f278.name,by decide,Tryz.func278.trans (congrArg some (by kernel_rfl))⟩
 f14:=⟨Tryz.f279.name,by decide,Tryz.func279.trans (congrArg some (by kernel_rfl))⟩
 f15:=⟨Tryz.f280.name,by decide,Tryz.func280.trans (congrArg some (by kernel_rfl))⟩
 f16:=⟨Tryz.f281.name,by decide,Tryz.func281.trans (congrArg some (by kernel_rfl))⟩
 f17:=⟨Tryz.f282.name,by decide,Tryz.func282.trans (congrArg some (by kernel_rfl))⟩
 f18:=⟨Tryz.f283.name,by decide,Tryz.func283.trans (congrArg some (by kernel_rfl))⟩
 f19:=Tryz.func284.trans (congrArg some (by kernel_rfl))
 f20:=Tryz.func285.trans (congrArg some (by kernel_rfl))
 f30:=⟨Tryz.f290.name,by decide,Tryz.func290.trans (congrArg some (by kernel_rfl))⟩
 f31:=Tryz.func291.trans (congrArg some (by kernel_rfl))
 f32:=Tryz.func292.trans (congrArg some (by kernel_rfl))
 f33:=⟨Tryz.f293.name,by decide,Tryz.func293.trans (congrArg some (by kernel_rfl))⟩
 f34:=⟨Tryz.f294.name,by decide,Tryz.func294.trans (congrArg some (by kernel_rfl))⟩
 f35:=⟨Tryz.f248.name,by decide,Tryz.func248.trans (congrArg some (by kernel_rfl))⟩
 f40:=⟨Tryz.f307.name,by decide,Tryz.func307.trans (congrArg some (by kernel_rfl))⟩
 t0:=Tryz.underlying0
 a0:=Tryz.isAgg0
 z0:=Tryz.sizeOf0
 v0:=Tryz.zeroValue0
 t3:=Tryz.underlying3
 a3:=Tryz.isAgg3
 z3:=Tryz.sizeOf3
 v3:=Tryz.zeroValue3
 t4:=Tryz.underlying4
 a4:=Tryz.isAgg4
 z4:=Tryz.sizeOf4
 v4:=Tryz.zeroValue4
 t5:=Tryz.underlying5
 a5:=Tryz.isAgg5
 z5:=Tryz.sizeOf5
 v5:=Tryz.zeroValue5
 t9:=Tryz.underlying9
 a9:=Tryz.isAgg9
 z9:=Tryz.sizeOf9
 v9:=Tryz.zeroValue9
 t22:=Tryz.underlying41
 a22:=Tryz.isAgg41
 z22:=Tryz.sizeOf41
 v22:=Tryz.zeroValue41
 t23:=Tryz.underlying41
 a23:=Tryz.isAgg41
 z23:=Tryz.sizeOf41
 v23:=Tryz.zeroValue41
 t25:=Tryz.underlying3
 a25:=Tryz.isAgg3
 z25:=Tryz.sizeOf3
 v25:=Tryz.zeroValue3
 t32:=Tryz.underlying290
 a32:=Tryz.isAgg290
 z32:=Tryz.sizeOf290
 v32:=Tryz.zeroValue290
 t35:=Tryz.underlying300
 a35:=Tryz.isAgg300
 z35:=Tryz.sizeOf300
 v35:=Tryz.zeroValue300
 t36:=Tryz.underlying301
 a36:=Tryz.isAgg301
 z36:=Tryz.sizeOf301
 v36:=Tryz.zeroValue301
 t41:=Tryz.underlying245
 a41:=Tryz.isAgg245
 z41:=Tryz.sizeOf245
 v41:=Tryz.zeroValue245
 t44:=Tryz.underlying307
 a44:=Tryz.isAgg307
 z44:=Tryz.sizeOf307
 v44:=Tryz.zeroValue307
 t46:=Tryz.underlying309
 a46:=Tryz.isAgg309
 z46:=Tryz.sizeOf309
 v46:=Tryz.zeroValue309
 t53:=Tryz.underlying316
 a53:=Tryz.isAgg316
 z53:=Tryz.sizeOf316
 v53:=Tryz.zeroValue316
 t57:=Tryz.underlying320
 a57:=Tryz.isAgg320
 z57:=Tryz.sizeOf320
 v57:=Tryz.zeroValue320
 t63:=Tryz.underlying325
 a63:=Tryz.isAgg325
 z63:=Tryz.sizeOf325
 v63:=Tryz.zeroValue325
 t64:=Tryz.underlying326
 a64:=Tryz.isAgg326
 z64:=Tryz.sizeOf326
 v64:=Tryz.zeroValue326 }
end
end Go.Proofs.YtbpabjmnhggajaaGreat
