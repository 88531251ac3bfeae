import Derived.ChangeArms
import Derived.OpenShut
import Derived.ProofKit
import Derived.Test.YtbdcmpknicjopaaGreatProg
import Derived.Test.YtbdcmpknicjopaaGreatRows
import Derived.Test.YtbdcmpknicjopaaGreatTb6
namespace Go.Proofs.YtbdcmpknicjopaaGreat
set_option linter.all false
open Go.RowKit Proofs.Tryz
variable{B M N N' j n sz:Nat}{K:List gE}{O:Hd}{Q Q':Exit->AA->ah->Prop}{S S':ah}{V m:List (Nat×Nat)}{Y:World}{a r r' z:AV}{b x:QO}{c dr ex:Bool}{cf:QF}{cs:List Value}{d:Option Nat}{ds:List DE}{e:Int}{es:List (Value×AV)}{g:Option (Nat×Bool)}{ik kk:IntKind}{o:Op}{r0 r1:List AV}{rs:List Nat}{so so':List (Nat×Ob)}{sp:Nat->Bool}{t:TypeId}{to:List (Nat×Option Ob)}{ι:Nat->Nat}
variable{rows:List (List AV)}{args:List AV}{P:Prop}{i:QO}{U:Type}
def g0(w:World):Gh:=⟨λ_=>0,λ_=>0,λ_=>False,λb _=>b<w.heap.size,λ_ _=>False⟩
def bV(P:Program)(n:Nat)(t:TypeId)(sz:Nat){U:Type}(lay:U->List AV)(μ:U->Nat):Prop :=∀(b:Type)(c:TypeId×Value->b)(w:World)(sp:Nat->Bool)(held:Bool)(m:Nat),m<n->∀(cs:List Value)(d:DataW b×List MemPlace),cs.length=sz->DataW.trod c P w 0 sp held m t cs=some d ->∃x,μ x<=Rows.uptoBulk d.1/\(lay x).length=sz/\∀(j:Nat)(a:AV)(v:Value),(lay x)[j]?=some a->cs[j]?=some v->aN (g0 w) w a v
def eV{U:Type}(μ:U->Nat):List U->Nat|[]=>0|x::l=>μ x+eV μ l
theorem V4{U a:Type}{μ:U->Nat}:∀{l:List U}{ds:List (DataW a×List MemPlace)},l.length=ds.length->(∀(i:Nat)(x:U)(e:DataW a×List MemPlace),l[i]?=some x->ds[i]?=some e->μ x<=Rows.uptoBulk e.1)->eV μ l<=Rows.uptoBulkAll (ds.map (·.1))|[],ds,_,_=>aE_ _|x::l,[],h,_=>I|x::l,e::ds,h,b=>by rw[eV,aF_,Rows.uptoBulkAll];have c:=b 0 x e rfl rfl;have d:=V4 (l:=l) (ds:=ds) I λi y z f g=>b (i+1) y z I I;omega
section
variable{P:Program}
theorem bV.less{lay:U->List AV}{μ:U->Nat}{m:Nat}(h:bV P n t sz lay μ)(c:m<=n):bV P m t sz lay μ:=λa b w sp held k d=>h a b w sp held k X
theorem bV.int(e:P.underlying t=some (.int .i64)):bV P n t 1 aR λ_=>1:=by intro f g w sp held m _ cs d i h;obtain⟨z,rfl,rfl,k⟩:=DataW.trod_int e h;refine⟨z,by simp only[Rows.uptoBulk];exact aa_ _,rfl,λj a v b c=>?_⟩;cases j with|zero=>simp[aR]at b c;subst b c;exact .v|succ j=>simp[aR]at b
theorem bV.str(e:P.underlying t=some .string):bV P n t 1 (λs:ByteArray=>[AV.v (.string s)]) λs=>s.size+1:=by intro f g w sp held m _ cs d i h;obtain⟨z,rfl,rfl,k⟩:=DataW.trod_string e h;refine⟨z,by simp only[Rows.uptoBulk];exact aa_ _,rfl,λj a v b c=>?_⟩;cases j with|zero=>simp at b c;subst b c;exact .v|succ j=>simp at b
theorem bV.bool(f:P.underlying t=some .bool):bV P n t 1 (λb:Bool=>[AV.v (.bool b)]) λ_=>1:=by intro g i w sp held m _ cs d k h;obtain⟨z,rfl,rfl⟩:=DataW.trod_bool f h;refine⟨z,by simp only[Rows.uptoBulk];exact aa_ _,rfl,λj a v c e=>?_⟩;cases j with|zero=>simp at c e;subst c e;exact .v|succ j=>simp at c
theorem bV.slice{lay:U->List AV}{μ:U->Nat}{e:TypeId}(ht:P.underlying t=some (.slice e))(T:P.cellsOf e=sz)(FF:0<sz)(IY:bV P n e sz lay μ):bV P (n+1) t 1 (λl:List U=>[aY .plain lay false l]) λl=>eV μ l+1:=by
 have A:∀l:List U,aY .plain lay false l=.sl false (l.map lay):=λl=>bF;simp only[A];intro B C w sp held m hm cs d hl h;rcases DataW.trod_slice ht h with⟨f,E⟩|⟨a,len,cap,elems,FJ,k,hk,f,E,_,hlc,mV,GL,V,_⟩;subst f;refine⟨[],by rw[E];simp only[Rows.uptoBulk,eV];exact aa_ _,rfl,λj b v c f=>?_⟩;cases j with|zero=>simp at c f;subst c f;exact .nil λh=>I|succ j=>simp at c
 have u:0<len->a.spot=none:=by intro F;have G:=V 0 F;rw[T]at G;have h4:elems[0]?=some (elems[0]'X):=av_ X;rw[h4]at G;let⟨y,FC,_⟩:=cM_.1 G;let⟨_,Ke,J⟩:=World.cells?_some FC;have g:=J 0 FF;have h6:y[0]?=some (y[0]'X):=av_ X;rw[h6]at g;simp only[bc_,Addr.add,if_true]at g;unfold World.cell? at g;split at g;split at g;grind;rename_i o;simpa using o;grind
 have key:∀i,i<len->∃x,(∀e,elems[i]?=some e->μ x<=Rows.uptoBulk e.1)/\(lay x).length=sz/\∀(j:Nat)(b:AV),(lay x)[j]?=some b->∃v,w.cell? ⟨a.block,a.off+i*sz+j,none⟩=some v/\aN (g0 w) w b v:=by
  intro i K;have p:=V i K;rw[T]at p;have W:elems[i]?=some (elems[i]'X):=av_ X;rw[W]at p;let⟨cs,pW,L⟩:=cM_.1 p;let⟨_,iR,mO⟩:=World.cells?_some pW;let⟨x,z,oc,s⟩:=IY B C w sp held k X cs _ iR L;refine⟨x,λe he=>I,oc,λj b c=>?_⟩;have M:j<sz:=I;have f:cs[j]?=some (cs[j]'X):=av_ X;have g:=mO j M;have o:=u X;have N:(a.add (i*sz)).add j=⟨a.block,a.off+i*sz+j,none⟩:=by obtain⟨Q,off,spot⟩:=a;simp only at o;subst o;unfold Addr.add;by_cases hz:i*sz=0<;>by_cases M:j=0<;>simp[hz,M]
  rw[N,f]at g;exact⟨_,g,s j b _ c f⟩
 let⟨l,jP,dK⟩:∃l:List U,l.length=len/\∀i x,l[i]?=some x->(∀e,elems[i]?=some e->μ x<=Rows.uptoBulk e.1)/\(lay x).length=sz/\∀(j:Nat)(b:AV),(lay x)[j]?=some b->∃v,w.cell? ⟨a.block,a.off+i*sz+j,none⟩=some v/\aN (g0 w) w b v:=by refine⟨(List.range len).attach.map λi=>Classical.choose (key i.1 I),aB,λi x z=>?_⟩;simp only[aX_,ba_]at z;obtain⟨q,hq,rfl⟩:=z;have R:q.1=i:=I;rw[<-R];exact Classical.choose_spec (key q.1 I)
 have NU:cs=[.slice (some a) len cap]:=I;subst NU;refine⟨l,?_,rfl,λj b v c f=>?_⟩;rw[E];have:=V4 (μ:=μ) (l:=l) (ds:=elems) X λi x e z he=>(dK i x z).1 e he;simp only[Rows.uptoBulk];omega;cases j with|succ j=>simp at c|zero =>simp at c f;subst c f;by_cases F:l=[];subst F;simp at jP;subst jP;exact .nil λh=>I;have o:=u I;let⟨Q,off,spot⟩:=a;simp only at o;subst o;have S:len=(l.map lay).length:=I;have row:∀(i:Nat)(row:List AV),(l.map lay)[i]?=some row->row.length=sz/\∀(j:Nat)(b:AV),row[j]?=some b->∃v,w.cell? ⟨Q,off+i*sz+j,none⟩=some v/\aN (g0 w) w b v:=I;rw[S];refine .sl (sz:=sz) (val:=λi j=>(w.cell? ⟨Q,off+(i*sz+j),none⟩).getD undef) I (λh=>I) I (λi r s=>(row i r s).1) (λi j r b s c=>?_) λi j r b s c=>?_;let⟨v,p,W⟩:=(row i r s).2 j b c;rw[bK_]at p;exact⟨block_lt_of_cell p,I⟩;grind
theorem bV.fields{a:Type}{enc:TypeId×Value->a}{w:World}{held:Bool}{fs:Array Field}(e:P.underlying t=some (.struct fs)){fuel:Nat}{d:DataW a×List MemPlace}(h:DataW.trod enc P w 0 sp held fuel t cs=some d):∃(n:Nat) (xs:List (DataW a×List MemPlace)),fuel=n+1/\xs.length=fs.size/\Rows.uptoBulk d.1=Rows.uptoBulkAll (xs.map (·.1))+1/\∀(i ty off:Nat),fs[i]?.map (λf=>(f.type,f.offset))=some (ty,off)->∃y,xs[i]?=some y/\DataW.trod enc P w 0 sp held n ty ((cs.drop off).take (P.cellsOf ty))=some y:=by let⟨xs,n,g,j,_,k,l⟩:=DataW.trod_struct e h;refine⟨n,xs,g,k,by rw[j];simp only[Rows.uptoBulk],λi ty off m=>?_⟩;let⟨f,b,c⟩:=ba_.1 m;simp only[pI_]at c;obtain⟨rfl,rfl⟩:=c;have o:i<fs.size:=(cA_.1 b).1;exact⟨xs[i]'X,av_ X,(l i f b).trans (av_ X)⟩
theorem bV.part{b:Type}{enc:TypeId×Value->b}{w:World}{held:Bool}{lay:U->List AV}{μ:U->Nat}{m ty k off i:Nat}{xs:List (DataW b×List MemPlace)}(c:bV P n ty k lay μ)(d:m<n)(e:P.cellsOf ty=k)(q:off+k<=cs.length)(h:∃y,xs[i]?=some y/\DataW.trod enc P w 0 sp held m ty ((cs.drop off).take (P.cellsOf ty))=some y):∃x,μ x<=(xs[i]?.map λy=>Rows.uptoBulk y.1).getD 0/\(lay x).length=k/\∀(j:Nat)(a:AV)(v:Value),(lay x)[j]?=some a->cs[off+j]?=some v->aN (g0 w) w a v:=by let⟨y,r,h⟩:=h;rw[e]at h;let⟨x,s,f,g⟩:=c b enc w sp held m d _ y I h;refine⟨x,I,f,λj a v l o=>g j a v l ?_⟩;have p:j<k:=I;rw[bJ_,if_pos p,cN_];exact o
def nB{a:Type}(xs:List (DataW a×List MemPlace)):Nat->Nat|0=>0|k+1=>nB xs k+(xs[k]?.map λy=>Rows.uptoBulk y.1).getD 0
theorem LR{a:Type}{y:DataW a×List MemPlace}{xs:List (DataW a×List MemPlace)}:∀k,nB (y::xs) (k+1)=Rows.uptoBulk y.1+nB xs k|0=>by simp[nB]|k+1=>by rw[nB,LR k,nB];simp only[cQ_];omega
theorem kO{a:Type}:∀{xs:List (DataW a×List MemPlace)},nB xs xs.length=Rows.uptoBulkAll (xs.map (·.1))|[]=>rfl|y::xs=>by rw[aC_,LR,kO,aF_,Rows.uptoBulkAll]
end
def dX{T:Type}(f:T->AV)(l:List (Int×T)):List (Value×AV):=l.map λp=>(dD p.1,f p.2)
def aI{T:Type}:List (Int×T)->Int->Option T|[],_=>none|p::l,i=>if p.1=i then some p.2 else aI l i
def g9{T:Type}:List (Int×T)->Int->T->List (Int×T)|[],i,v=>[(i,v)]|p::l,i,v=>if p.1=i then(i,v)::l else p::g9 l i v
theorem c_{T:Type}{l:List (Int×T)}{i j:Int}{v:T}:aI (g9 l i v) j=if i=j then some v else aI l j:=by induction l with|nil=>simp[g9,aI]|cons p l a =>simp only[g9];by_cases h:p.1=i;grind[aI];grind[aI]
section
variable{T:Type}{f:T->AV}{l:List (Int×T)}
theorem uD:qP (dX f l):=λp a=>by obtain⟨q,_,rfl⟩:=aB_.1 a;exact⟨_,rfl⟩
theorem A4(i:Int):ve (dX f l) i=(aI l i).map f:=by induction l with|nil=>rfl|cons p l a =>simp only[dX,aF_,ve,nu,dD,aI]at a⊢;by_cases h:p.1=i;grind;grind
theorem JE(i:Int)(v:T):DQ (dX f l) i (f v)=dX f (g9 l i v):=by induction l with|nil=>rfl|cons p l a =>simp only[dX,aF_,DQ,nu,dD,g9]at a⊢;by_cases h:p.1=i;grind;grind
end
section
variable{P:Program}{rd:Bool}{U:AA}{l:List QI}{lg:List (List Nat×List Nat×Bool)}
theorem F6{x:Option QO}(h:res P.toTables o=some (.kX x)):∃t y a b,o=.makeMap t y/\x=y.map qo/\P.underlying t=some (.map a b):=by cases o with|makeMap t y =>simp only[res,cN]at h;split at h;grind;grind|_ =>
  simp only[res]at h;repeat' split at h
  all_goals cases h
theorem D.kX:D P Y false (.kX none) U S (.mp S.nx) (S.new (.mp [])):=D.run λn o a=>by let⟨t,y,d,e,b,c,f⟩:=F6 a;cases y with|some y=>cases c|none=>exact aa5 b
theorem D.Qp{m:Int}(a:x.ev U.tm=.v (.int kk m)):D P Y false (.kX (some x)) U S (.mp S.nx) (S.new (.mp [])):=D.run λn o c=>by let⟨t,y,f,g,d,b,e⟩:=F6 c;cases y with|none=>cases b|some y =>cases oJ_ b;rw[aU]at a;exact X5 d e a
theorem JH(h:res P.toTables o=some (.look z c x i)):∃t u v a b kk d,o=.lookup t u v c/\x=qo u/\i=qo v/\P.underlying t=some (.map a b)/\P.underlying a=some (.int kk)/\eB P b=some d/\z=lift d:=by cases o with
 |lookup t u v j =>
  simp only[res,cN,lr]at h;split at h;·rename_i a b e;split at h;rename_i kk d f g;simp only[oI_,n_.look.injEq]at h;obtain⟨rfl,rfl,rfl,rfl⟩:=h;exact⟨_,_,_,_,_,_,_,rfl,rfl,rfl,e,f,g,rfl⟩;all_goals cases h
  grind|_ =>
  simp only[res]at h;repeat' split at h
  all_goals cases h
theorem D.look{k:Nat}{m:Int}(b:x.ev U.tm=.mp k)(d:S.get k=some (.mp es))(e:qP es)(hi:i.ev U.tm=.v (.int .i64 m)):D P Y false (.look z c x i) U S (match ve es m with|some a=>if c then .aJ [a,.v (.bool true)] else a|none=>if c then .aJ [z,.v (.bool false)] else z) S:=D.run λn o f=>by obtain⟨t,u,v,p,q,kk,r,g,rfl,rfl,h,j,l,rfl⟩:=JH f;rw[aU]at b hi;exact ad6 g h j l b d e hi
theorem JD(h:res P.toTables o=some (.ph x i b)):∃t u v y a c kk,o=.mapUpdate t u v y/\x=qo u/\i=qo v/\b=qo y/\P.underlying t=some (.map a c)/\P.underlying a=some (.int kk):=by cases o with|mapUpdate t u v y =>simp only[res,cN]at h;split at h;grind;grind|_ =>
  simp only[res]at h;repeat' split at h
  all_goals cases h
theorem D.ph{k:Nat}{m:Int}(c:x.ev U.tm=.mp k)(e:S.get k=some (.mp es))(f:qP es)(hi:i.ev U.tm=.v (.int .i64 m))(d:b.ev U.tm=a):D P Y false (.ph x i b) U S (.v undef) (S.set k (some (.mp (DQ es m a)))):=D.run λn o g=>by obtain⟨t,u,v,y,p,q,kk,h,rfl,rfl,rfl,j,l⟩:=JD g;rw[aU]at c hi d;exact P_ h j l c e f hi d
variable{T:Type}{f:T->AV}{kv:List (Int×T)}
theorem H.look{k:Nat}{m:Int}(b:bD U.tm g=some true)(e:x.ev U.tm=.mp k)(j:S.get k=some (.mp (O.h (dX f) kv)))(hi:i.ev U.tm=.v (.int .i64 m))(o:∀v,aI kv m=some v->H P Y rd n Q (.bk false l K) (bW d U (if c then .aJ [f v,.v (.bool true)] else f v)) S)(p:aI kv m=none->H P Y rd n Q (.bk false l K) (bW d U (if c then .aJ [z,.v (.bool false)] else z)) S):H P Y rd n Q (.bk false (⟨d,g,.look z c x i⟩::l) K) U S:=by have h:=D.look (P:=P) (Y:=Y) (z:=z) (c:=c) e j (by rw[O.eq];exact uD) hi;rw[O.eq,A4]at h;refine H.op (i:=⟨d,g,.look z c x i⟩) b h ?_;cases a:aI kv m with|some v=>exact o v a|none=>exact p a
theorem H.ph{k:Nat}{m:Int}{v:T}(c:bD U.tm g=some true)(e:x.ev U.tm=.mp k)(j:S.get k=some (.mp (O.h (dX f) kv)))(hi:i.ev U.tm=.v (.int .i64 m))(o:b.ev U.tm=f v)(p:∀a,a=g9 kv m v->H P Y rd n Q (.bk false l K) (bW d U (.v undef)) (S.set k (some (.mp (O.h (dX f) a))))):H P Y rd n Q (.bk false (⟨d,g,.ph x i b⟩::l) K) U S:=by have h:=D.ph (P:=P) (Y:=Y) e j (by rw[O.eq];exact uD) hi o;rw[O.eq,JE,<-O.eq (dX f)]at h;exact H.op (i:=⟨d,g,.ph x i b⟩) c h (p _ rfl)
theorem H.kX(O:Hd)(f:T->AV)(a:bD U.tm g=some true)(b:∀kv:List (Int×T),kv=[]->H P Y rd n Q (.bk false l K) (bW d U (.mp S.nx)) (S.new (.mp (O.h (dX f) kv)))):H P Y rd n Q (.bk false (⟨d,g,.kX none⟩::l) K) U S:=by have h:=b [] rfl;rw[O.eq]at h;exact H.op (i:=⟨d,g,.kX none⟩) a D.kX h
theorem H.Qp{m:Int}(O:Hd)(f:T->AV)(a:bD U.tm g=some true)(b:x.ev U.tm=.v (.int kk m))(c:∀kv:List (Int×T),kv=[]->H P Y rd n Q (.bk false l K) (bW d U (.mp S.nx)) (S.new (.mp (O.h (dX f) kv)))):H P Y rd n Q (.bk false (⟨d,g,.kX (some x)⟩::l) K) U S:=by have h:=c [] rfl;rw[O.eq]at h;exact H.op (i:=⟨d,g,.kX (some x)⟩) a (D.Qp b) h
end
def Rn.pure(h:Pure a):Rn ι M a a:=λg w x b=>aN.pure (g:=g) (g':=g.pre ι M) (λ_ _ h=>h) (λ_ _ _=>rfl) b h
theorem Rn.gr{j k sz len:Nat}(h:k=ι j)(b:Nat.blt j M=true):Rn ι M (.gr k sz len) (.gr j sz len):=λg w x c=>by subst h;cases c with|lR=>exact .lR|gr d e a=>exact .gr (g:=g.pre ι M) (k:=j) ⟨nq b,d⟩ e a
theorem Rn.nil:Rn ι M (.sl true []) (.gr j sz 0):=λg w x a=>by cases a with|nil b=>rw[b rfl];exact .lR|sl c=>exact absurd rfl c
theorem Rn.pt{j k sz i q:Nat}(h:k=ι j)(a:Nat.blt j M=true):Rn ι M (.pt k sz i q) (.pt j sz i q):=λg w x b=>by subst h;cases b with|pt c=>exact .pt (g:=g.pre ι M) (k:=j) ⟨nq a,c⟩
theorem Rn.mp{k:Nat}(h:k=ι j)(a:Nat.blt j M=true):Rn ι M (.mp k) (.mp j):=λg w x b=>by subst h;cases b with|mp c=>exact .mp (g:=g.pre ι M) (k:=j) ⟨nq a,c⟩
theorem Rn.yl{k:Nat}(h:k=ι j)(a:Nat.blt j M=true):Rn ι M (.yl k) (.yl j):=λg w x b=>by subst h;cases b with|yl c=>exact .yl (g:=g.pre ι M) (k:=j) ⟨nq a,c⟩
def zI(ι:Nat->Nat)(M:Nat):List AV->List AV->Prop|[],[]=>True|a::l,b::m=>Rn ι M a b/\zI ι M l m|_,_=>False
theorem zI.at:∀{l m:List AV},zI ι M l m->l.length=m.length/\∀(i:Nat)(b:AV),m[i]?=some b->∃a,l[i]?=some a/\Rn ι M a b|[],[],_=>⟨rfl,λi b h=>I⟩|a::l,b::m,e=>⟨by simp[e.2.at.1],λi c h=>by cases i with|zero=>simp at h;subst h;exact⟨a,rfl,e.1⟩|succ i=>simp at h;let⟨d,g,f⟩:=e.2.at.2 i c h;exact⟨d,I,f⟩⟩|[],_::_,h=>h.elim|_::_,[],h=>h.elim
theorem Rn.fn{f:Fn}{l m n o:List AV}(h:zI ι M l m)(k:zI ι M n o):Rn ι M (.fn f l n) (.fn f m o):=λg w x p=>by cases p with|fn q r s t =>refine .fn (q.trans h.at.1) (r.trans k.at.1) (λi b y c d=>?_) λi b y c d=>?_;let⟨a,e,j⟩:=h.at.2 i b c;exact j g w y (s i a y e d);let⟨a,e,j⟩:=k.at.2 i b c;exact j g w y (t i a y e d)
theorem lU.pure{fz:Nat}(h:∀row∈rows,∀a∈row,Pure a):lU ι M (.arr sz rows fz ex) (.arr sz rows fz ex):=by refine⟨λg w b s c=>?_,λJ h=>I⟩;let⟨cs,f,k,l,m,n,d,o,p⟩:=c;refine⟨cs,f,k,l,m,n,λi row c=>⟨(d i row c).1,λj a e=>?_⟩,o,p⟩;let⟨x,q,r⟩:=(d i row c).2 j a e;exact⟨x,q,Rn.pure (h _ (am_ c) _ (am_ e)) g w x r⟩
theorem lU.row{fz:Nat}(h:zI ι M r0 r1):lU ι M (.arr sz [r0] fz ex) (.arr sz [r1] fz ex):=by refine⟨λg w b y c=>?_,λJ h=>I⟩;let⟨cs,d,e,f,k,l,m,n,o⟩:=c;refine⟨cs,d,e,f,k,l,λi row c=>?_,n,o⟩;cases i with|succ i=>simp at c|zero =>simp at c;subst c;let⟨q1,p⟩:=m 0 r0 rfl;refine⟨by rw[<-h.at.1];exact q1,λj a q=>?_⟩;let⟨r,s,t⟩:=h.at.2 j a q;let⟨x,u,v⟩:=p j r s;exact⟨x,u,t g w x v⟩
theorem lU.mp(h:∀e∈es,Pure e.2):lU ι M (.mp es) (.mp es):=by refine⟨λg w b o c=>?_,λJ h=>I⟩;let⟨entries,clock,f,j,l⟩:=c;refine⟨entries,clock,f,j,λi k a d=>?_⟩;let⟨e,m,n,c⟩:=l i k a d;exact⟨e,m,n,Rn.pure (h _ (am_ d)) g w _ c⟩
def lU.fo{J:iG}:lU ι M (.fo J) (.fo J):=⟨λg w b c a=>a,λd h=>h⟩
theorem Rb.pure(h:Pure a):Rb ι a a:=λgc g w x c d=>aN.pure (g:=gc) (g':=g) (λb q e=>by rw[c.fz];exact e) (λ_ _ _=>rfl) d h
theorem Rb.gr{j k sz len:Nat}(h:k=ι j):Rb ι (.gr j sz len) (.gr k sz len):=λgc g w x a d=>by subst h;cases d with|lR=>exact .lR|gr b e c=>rw[<-a.ob j b];exact .gr (a.al j b) (by rw[a.cp j b];exact e) c
theorem Rb.pt{j k sz i q:Nat}(h:k=ι j):Rb ι (.pt j sz i q) (.pt k sz i q):=λgc g w x a c=>by subst h;cases c with|pt b=>rw[<-a.ob j b];exact .pt (a.al j b)
theorem Rb.mp{k:Nat}(h:k=ι j):Rb ι (.mp j) (.mp k):=λgc g w x a c=>by subst h;cases c with|mp b=>rw[<-a.ob j b];exact .mp (a.al j b)
def RbL(ι:Nat->Nat):List AV->List AV->Prop|[],[]=>True|a::l,b::m=>Rb ι a b/\RbL ι l m|_,_=>False
theorem RbL.at:∀{l m:List AV},RbL ι l m->l.length=m.length/\∀(i:Nat)(b:AV),m[i]?=some b->∃a,l[i]?=some a/\Rb ι a b|[],[],_=>⟨rfl,λi b h=>I⟩|a::l,b::m,e=>⟨by simp[e.2.at.1],λi c h=>by cases i with|zero=>simp at h;subst h;exact⟨a,rfl,e.1⟩|succ i=>simp at h;let⟨d,g,f⟩:=e.2.at.2 i c h;exact⟨d,I,f⟩⟩|[],_::_,h=>h.elim|_::_,[],h=>h.elim
theorem m7.pure{fz:Nat}(h:∀row∈rows,∀a∈row,Pure a):m7 ι (.arr sz rows fz ex) (.arr sz rows fz ex):=by refine⟨λgc g w b t d _ c=>?_,λJ h=>I⟩;let⟨cs,k,l,m,n,o,e,p,q⟩:=c;refine⟨cs,k,l,m,n,o,λi row c=>⟨(e i row c).1,λj a f=>?_⟩,p,by rw[d.fz];exact q⟩;let⟨x,r,s⟩:=(e i row c).2 j a f;exact⟨x,r,Rb.pure (h _ (am_ c) _ (am_ f)) gc g w x d s⟩
theorem m7.row{fz:Nat}(h:RbL ι r0 r1):m7 ι (.arr sz [r0] fz ex) (.arr sz [r1] fz ex):=by refine⟨λgc g w b z d _ c=>?_,λJ h=>I⟩;let⟨cs,e,f,k,l,m,n,o,p⟩:=c;refine⟨cs,e,f,k,l,m,λi row c=>?_,o,by rw[d.fz];exact p⟩;cases i with|succ i=>simp at c|zero =>simp at c;subst c;let⟨q1,q⟩:=n 0 r0 rfl;refine⟨by rw[<-h.at.1];exact q1,λj a r=>?_⟩;let⟨s,t,u⟩:=h.at.2 j a r;let⟨x,v,y⟩:=q j s t;exact⟨x,v,u gc g w x d y⟩
theorem m7.mp(h:∀e∈es,Pure e.2):m7 ι (.mp es) (.mp es):=by refine⟨λgc g w b p f _ c=>?_,λJ h=>I⟩;let⟨entries,clock,j,l,m⟩:=c;refine⟨entries,clock,j,l,λi k a d=>?_⟩;let⟨e,n,o,c⟩:=m i k a d;exact⟨e,n,o,Rb.pure (h _ (am_ d)) gc g w _ f c⟩
theorem m7.fo{J:iG}:m7 ι (.fo J) (.fo J):=⟨λgc g w b e c d a=>⟨by rw[c.fz,d J rfl];exact a.1,a.2⟩,λf h=>h⟩
def yg(f:Nat->Nat):List Nat->Bool|[]=>true|j::l=>l.all (λi=>!Nat.beq (f i) (f j))&&yg f l
theorem V5{f:Nat->Nat}:∀{l:List Nat},yg f l=true->∀i j,i∈l->j∈l->f i=f j->i=j
 |[],_,i,j,h,_,_=>I|a::l,b,i,j,g,k,e=>by
  simp only[yg,as_,aY_,cg_]at b;have ne:∀x∈l,f x≠f a:=λx m h=>by have:=b.1 x m;rw[h,bD_]at this;cases this
  rcases ae_.1 g with c|c;grind;rcases ae_.1 k with d|d;grind;exact V5 b.2 i j c d e
def kY(ι:Nat->Nat)(M:Nat)(T:ah):List (Nat×Ob)->Prop|[]=>True|p::l=>(∃a,T.get (ι p.1)=some a/\lU ι M a p.2)/\kY ι M T l
def iB(o:Nat->Nat)(so:List (Nat×Ob)):List (Nat×Option Ob)->Prop|[]=>True|(k,none)::l=>iB o so l|(k,some a)::l=>(∃j p,o j=k/\fJ so j=some p/\m7 o p a)/\iB o so l
theorem kY.mem{ι:Nat->Nat}{M:Nat}{T:ah}:∀{l:List (Nat×Ob)},kY ι M T l->∀p∈l,∃a,T.get (ι p.1)=some a/\lU ι M a p.2|[],_,p,h=>I|q::l,b,p,h=>by rcases ae_.1 h with rfl|h;exact b.1;exact b.2.mem p h
theorem iB.mem{o:Nat->Nat}{so:List (Nat×Ob)}:∀{l:List (Nat×Option Ob)},iB o so l->∀k c,(k,some c)∈l->∃j p,o j=k/\fJ so j=some p/\m7 o p c|[],_,k,c,h=>I|(a,none)::l,d,k,c,h=>by rcases ae_.1 h with h|h;grind;exact iB.mem (l:=l) d k c h|(a,some b)::l,d,k,c,h=>by rcases ae_.1 h with h|h;injection h with f e;injection e with e;subst f e;exact d.1;exact iB.mem (l:=l) d.2 k c h
def BZ:List (Nat×Ob)->Bool|[]=>true|(_,.fo _)::_=>false|_::l=>BZ l
theorem V6:∀{l:List (Nat×Ob)}{j:Nat}{J:iG},BZ l=true->fJ l j≠some (.fo J)
 |[],j,J,_,h=>by cases h|(a,o)::l,j,J,b,h=>by
  have c:BZ l=true:=by cases o<;>first|exact b|cases b
  simp only[fJ]at h;split at h;cases oJ_ h;cases b;exact V6 c h
section
variable{P:Program}{rd:Bool}{U:AA}{T:ah}{l:List QI}
theorem Ta(hi:yg (aX m) (List.range N)=true)(g:(List.range N).all (λj=>Nat.blt (aX m j) T.nx)=true)(n:kY (aX m) N T so)(q:iB (dV (aX m) N T.nx) so' to)(r:(List.range N).all (λj=>(to.map (·.1)).contains (aX m j))=true)(x:to.all (λp=>true)=true)(s:∀k o,T.get k=some o->k<T.nx):vW (aX m) (aw so N) (aw so' N') T ⟨eH T.get to,T.nx+N'⟩:=by
 refine⟨λi j c b e=>V5 hi i j (aU_.2 c) (aU_.2 b) e,λj d=>nq (aY_.1 g j (aU_.2 d)),λj o t=>n.mem _ (fW t),λk a f=>?_,.inl rfl⟩;have f:eH T.get to k=some a:=f;have key:∀{l:List (Nat×Option Ob)},eH T.get l k=some a->(k,some a)∈l\/(k∉l.map (·.1)/\T.get k=some a):=by intro l;induction l with|nil=>exactλh=>.inr ⟨aB,h⟩|cons p l y =>intro h;rw[eH]at h;by_cases e:k=p.1;grind[aG];grind[aP]
 rcases key f with h|⟨c,b⟩;let⟨j,p,u,v,w⟩:=q.mem k a h;exact .inl ⟨j,p,u,v,w⟩;refine .inr ⟨s k a b,λj d e=>c ?_,b⟩;have:=aY_.1 r j (aU_.2 d);rw[<-e];simpa using this
theorem Vf(hi:yg (aX m) (List.range N)=true)(a:(List.range N).all (λj=>Nat.blt (aX m j) T.nx)=true)(b:kY (aX m) N T so)(c:iB (dV (aX m) N T.nx) so' to)(d:(List.range N).all (λj=>(to.map (·.1)).contains (aX m j))=true)(e:to.all (λp=>true)=true)(f:∀k o,T.get k=some o->k<T.nx)(g:(∀k J,T.get k=some (.fo J)->∃j,j<N/\aX m j=k)\/BZ so'=true):Fits (aX m) (aw so N) (aw so' N') T ⟨eH T.get to,T.nx+N'⟩:=by have h:=Ta (N':=N') hi a b c d e f;refine⟨h.inj,h.lt,h.hS,h.hT,h.nx,?_⟩;rcases g with h|h;exact .inl h;exact .inr λj J=>V6 h
theorem D.n0{f:QO}{aZ9:List QO}{g:FuncId}{QY:List AV}{r₀:AV}(l:aF P Y g args (aw so N) r (aw so' N'))(h:fp (f.ev U.tm) (aZ9.map (·.ev U.tm))=some (g,QY))(c:zI (aX m) N QY args)(n:Rb (dV (aX m) N T.nx) r r₀)(hi:yg (aX m) (List.range N)=true)(p:(List.range N).all (λj=>Nat.blt (aX m j) T.nx)=true)(q:kY (aX m) N T so)(s:iB (dV (aX m) N T.nx) so' to)(t:(List.range N).all (λj=>(to.map (·.1)).contains (aX m j))=true)(u:∀k o,T.get k=some o->k<T.nx)(v:(∀k J,T.get k=some (.fo J)->∃j,j<N/\aX m j=k)\/BZ so'=true):D P Y false (.call f aZ9) U T r₀ ⟨eH T.get to,T.nx+N'⟩ :=D.call h (l.frame (Vf hi p q s t aB u v) c.at.1 (λi a b d w=>by let⟨z,x,y⟩:=c.at.2 i b w;rw[x]at d;rw[<-oJ_ d];exact y) n) λe=>I
theorem Cv.canon{B:Nat}{l:List (Nat×AV)}(c:Nat.ble T.nx B=true)(hC:Canon B N m U T l ds so):Cv Y n U T (jw l ds) (aw so N):=by intro A g a w b d;refine⟨_,hC.st b,hC.Yc d,(Ext.refl A g w).kF (ax_ hC.bn) λk e=>?_⟩;exact aD_ (b.al k e) (ax_ c)
end
section
variable{P:Program}{rd:Bool}{U:AA}{l:List QI}
theorem lI.mono{c:QC}(a:∀ex U S,Q ex U S->Q' ex U S)(h:lI P Y rd n c Q U S):lI P Y rd n c Q' U S:=by intro b d e;let⟨ex,f,g,i,j⟩:=h b d e;exact⟨ex,f,g,i,a _ _ _ j⟩
theorem eI.mono(a:∀ex U S,Q ex U S->Q' ex U S):∀(K:List gE)(ex:Exit)(U:AA)(S:ah),eI P Y rd n Q K ex U S->eI P Y rd n Q' K ex U S
 |[],ex,U,S,h=>a _ _ _ h|.seq b::K,ex,U,S,h=>by cases ex with|normal=>exact lI.mono (eI.mono a K) h|_=>exact eI.mono a K _ _ _ h
 |.Bw id::K,ex,U,S,h=>by cases ex with
  |exit j =>simp only[eI]at h⊢;cases c:Nat.beq j id with|true=>rw[c]at h;exact eI.mono a K _ _ _ h|false=>rw[c]at h;exact eI.mono a K _ _ _ h
  |_=>exact eI.mono a K _ _ _ h
 |.Sn::K,ex,U,S,h=>by cases ex with|goto l=>exact h|_=>exact eI.mono a K _ _ _ h
theorem BT:∀(K L:List gE),eI P Y rd n Q (K++L)=eI P Y rd n (eI P Y rd n Q L) K|[],L=>rfl|.seq b::K,L=>by rw[aP_,eI,eI,BT K L]|.Bw id::K,L=>by rw[aP_,eI,eI,BT K L]|.Sn::K,L=>by rw[aP_,eI,eI,BT K L]
theorem lD.mono{Q Q':AA->ah->Prop}{E g:List PanicEntry->AA->ah->Prop}(i:∀U S,Q U S->Q' U S)(k:∀e U S,E e U S->g e U S)(h:lD P Y n dr l Q E U S):lD P Y n dr l Q' g U S:=by intro m o p;have h:=h m o p;cases dr with|false=>exactλj f=>(h j f).imp (λ⟨a,b,c,d⟩=>⟨a,b,c,i _ _ d⟩) λ⟨e,a,b,c,d⟩=>⟨e,a,b,c,k _ _ _ d⟩|true =>intro j f;let⟨a,b,c,d⟩:=h j f;exact⟨a,b,c,i _ _ d⟩
def Wx{σ:Type}(P:Program)(Y:World)(rd:Bool)(n B N:Nat)(st:σ->List (Nat×AV))(ds:List DE)(so:σ->List (Nat×Ob))(a:σ->Prop)(Q:Exit->AA->ah->Prop)(K:List gE):Exit->AA->ah->Prop :=λex U S=>match ex with|.normal=>∃s m,a s/\Nat.ble S.nx B=true/\Canon B N m U S (st s) ds (so s)|e=>H P Y rd n Q (.out e K) U S
theorem H.auf{σ:Type}(j B N:Nat)(st:σ->List (Nat×AV))(ds:List DE)(so:σ->List (Nat×Ob))(c:σ->Prop){b:QC}{d:List gE}(e:K.drop j=.seq b::d)(h:H P Y rd n (Wx P Y rd n B N st ds so c Q (.seq b::d)) (.bk dr l (K.take j)) U S)(k:∀s,c s->H P Y rd n Q (.run b d) (jw (st s) ds) (aw (so s) N)):H P Y rd n Q (.bk dr l K) U S:=by rw[<-dv_ j K,e];have key:∀ex U S,eI P Y rd n (Wx P Y rd n B N st ds so c Q (.seq b::d)) (K.take j) ex U S->eI P Y rd n Q (K.take j++.seq b::d) ex U S:=?_;exact lD.mono (λU S a=>key _ _ _ a) (λo U S a=>key _ _ _ a) h;intro ex U S a;rw[BT];refine eI.mono (λex U S a=>?_) _ _ _ _ a;cases ex with|normal =>let⟨s,m,f,g,i⟩:=a;exact H.C9 (Cv.canon g i) (k s f)|_=>exact a
def H.akf{σ:Type}{B:Nat}{st:σ->List (Nat×AV)}{so:σ->List (Nat×Ob)}{a:σ->Prop}(s:σ)(m:List (Nat×Nat))(b:a s)(c:Nat.ble S.nx B=true)(hC:Canon B N m U S (st s) ds (so s)):H P Y rd n (Wx P Y rd n B N st ds so a Q K) (.out .normal []) U S:=⟨s,m,b,c,hC⟩
end
def oy:List Nat->(Nat->AV)->Nat->AV|[],f=>λ_=>.u|t::G,f=>match f t with|.u=>oy G f|a=>bL (oy G f) t a
theorem HL:∀(G:List Nat)(f:Nat->AV)(s:Nat),oy G f s=f s\/oy G f s=.u
 |[],f,s=>.inr rfl|t::G,f,s=>by
  have a:=HL G f s;have key:oy (t::G) f=oy G f\/oy (t::G) f=bL (oy G f) t (f t):=by grind[oy]
  rcases key with h|h<;>rw[h];grind;grind[aG,aP]
def nO(G:List Nat):Nat->QF->AA->ah->QF×AA×ah|0,c,U,S=>(c,U,S)|m+1,c,U,S=>match c with
  |.out .normal (.seq b::K)=>match U with|⟨f,d⟩=>nO G m (.run b K) ⟨oy G f,d⟩ S
  |c=>match HG c U S with|some (a,e,S')=>nO G m a e S'|none=>(c,U,S)
section
variable{P:Program}{rd:Bool}
theorem Cv.prune(G:List Nat){U:AA}:Cv Y n U S ⟨oy G U.tm,U.df⟩ S:=by intro A g a w d b;refine⟨g,d,?_,Ext.refl A g w⟩;refine⟨b.size,λt c=>?_,λt c=>?_,b.df,b.yE⟩;rcases HL G U.tm t with h|h;show aN g w (oy G U.tm t) _;rw[h];exact b.tm t c;show aN g w (oy G U.tm t) _;rw[h];exact .u;show oy G U.tm t=.u;rcases HL G U.tm t with h|h;rw[h];exact b.out t c;grind
theorem EP(G:List Nat):∀{m:Nat}{cf a:QF}{U d:AA}{S S':ah},nO G m cf U S=(a,d,S')->H P Y rd n Q a d S'->H P Y rd n Q cf U S|0,cf,a,U,d,S,S',h,k=>by grind[nO]|m+1,cf,a,U,d,S,S',h,k=>by unfold nO at h;split at h;rename_i b K;cases U;exact H.cv (c:=b) (K:=K) (Cv.prune G) (EP (m:=m) G h k);split at h;rename_i f g i e;exact abc e (EP G h k);grind
def H.xE(G:List Nat)(m:Nat){a:QF}{U b:AA}{S':ah}(h:nO G m cf U S=(a,b,S'))(k:H P Y rd n Q a b S'):H P Y rd n Q cf U S:=EP G h k
end
section
variable{P:Program}{U:AA}
theorem D.raw{op:BinOp}{isB:BK}{y:QO}{k c:IntKind}{a b:Int}{r:Value}(h1:x.ev U.tm=.v (.int k a))(h2:y.ev U.tm=.v (.int c b))(i:op≠.eql)(j:op≠.neq)(h:∀(t:TypeId) (w:World),(binOp op t (.int k a) (.int c b)).run P w=.ok r w):D P Y false (.bin op isB x y) U S (.v r) S:=by
 refine D.run λn o l=>?_;obtain⟨t,u,v,s,m,rfl,rfl,z⟩:=zr l;rw[aU]at h1 h2;refine bj.quiet λA g q w B d=>?_;have e:=d.ev u;have f:=d.ev v;rw[h1]at e;rw[h2]at f;refine⟨_,?_,.v⟩;have p:∀(u v:Operand)(x y:Value),eqGuard op t u v x y=pure ():=by intro u v x y;cases op<;>first|rfl|exact absurd rfl i|exact absurd rfl j
 simp[execOp,m,cC e,cC f,p,h]
end
section
variable{P:Program}{f:FuncId}{args:List AV}
theorem aF.canon(h:aF P Y f args S r S')(i:Nat.ble S.nx B=true)(j:lM B m N r r')(l:gK B m N S' so)(n:tN B m (so.map (·.1))=true)(b:Nat.ble B N=true):aF P Y f args S r' (aw so N):=by refine⟨h.1,λF o A g a w p c q=>(h.2 F o A g a w p c q).mono ?_⟩;rintro e C⟨v,s,rfl,t,u,x⟩;have y:Canon B N m ⟨λ_=>.u,[]⟩ S' [] [] so:=⟨trivial,rfl,l,n,b,rfl⟩;have d:=ax_ b;exact⟨v,s.kF B N (aX m),rfl,lM.rep d j t,y.st u,x.kF d λk z=>aD_ (c.al k z) (ax_ i)⟩
theorem qz.avW{q:QC×List QR}(B N:Nat)(so:List (Nat×Ob))(F:qz P f q n)(a:args.length<=n)(b:Nat.ble S.nx B=true)(c:Nat.ble B N=true)(h:H P Y false n (vm q.2 λr S'=>∃m,lM B m N r r'/\gK B m N S' so/\tN B m (so.map (·.1))=true) (.run q.1 []) ⟨qc args,[]⟩ S):aF P Y f args S r' (aw so N):=by let⟨r,S',d,m,e,g,i⟩:=qz.QJ F a h;exact d.canon b e g i c
end
structure Tm where
 k:Int
 i:Int
 n:ByteArray
 a:List Tm
mutual def mn:Tm->List AV|⟨k,i,n,a⟩=>[iv k,iv i,.v (.string n),.sl false (TA a)]def TA:List Tm->List (List AV)|[]=>[]|x::l=>mn x::TA l end
theorem M_:∀l,TA l=l.map mn|[]=>by rw[TA];rfl|x::l=>by rw[TA,M_ l];rfl
mutual def Tm.ani{p:Tm->Prop}{q:List Tm->Prop}(b:∀k i n a,q a->p ⟨k,i,n,a⟩)(h0:q [])(h1:∀x l,p x->q l->q (x::l)):∀t,p t|⟨k,i,n,a⟩=>b k i n a (Tm.agH b h0 h1 a)def Tm.agH{p:Tm->Prop}{q:List Tm->Prop}(b:∀k i n a,q a->p ⟨k,i,n,a⟩)(h0:q [])(h1:∀x l,p x->q l->q (x::l)):∀l,q l|[]=>h0|x::l=>h1 x l (Tm.ani b h0 h1 x) (Tm.agH b h0 h1 l)end
theorem Tm.ind{p:Tm->Prop}(h:∀k i n (a:List Tm),(∀x∈a,p x)->p ⟨k,i,n,a⟩)(t:Tm):p t :=Tm.ani (q:=λl=>∀x∈l,p x) h (λx h=>I) (λx l b c y d=>I) t
def tl(O:Hd)(l:List Tm):AV:=aY O mn false l
def ld(O:Hd)(x:Tm):List AV:=[iv x.k,iv x.i,.v (.string x.n),tl O x.a]
def tm(O:Hd)(x:Tm):AV:=.agg (ld O x)
theorem qY(x:Tm):mn x=ld O x:=by let⟨k,i,n,a⟩:=x;rw[mn,M_,ld,tl,bF]
theorem zk(x:Tm):(mn x).length=4:=by rw[qY (O:=.plain)];rfl
theorem Ad(x:Tm):∀a∈mn x,Pure a:=by refine Tm.ind (p:=λx=>∀a∈mn x,Pure a) ?_ x;intro k i n a e b d;rw[mn]at d;simp only[ae_,aw_,or_false]at d;rcases d with rfl|rfl|rfl|rfl;exact .v;exact .v;exact .v;rw[M_];exact .sl λrow f c g=>I
theorem c9(l:List Tm):Pure (tl O l):=ew λx _ a b=>Ad x a b
theorem ue(x:Tm):∀a∈ld O x,Pure a:=by rw[<-qY];exact Ad x
def bI(x:Tm):Pure (tm O x):=.agg (ue x)
theorem cD{l:List Tm}{i:Int}{k:Nat}{x:Tm}(hi:i=(k:Int))(h:l[k]?=some x):idx (O.h (List.map mn) l) i=some (ld O x):=by rw[eZ hi h,qY]
def cE{l:List Tm}:∀r∈O.h (List.map mn) l,r.length=4:=ec λx=>zk x
structure At where
 n:ByteArray
 a:List Tm
structure Gl where
 op:Int
 n:ByteArray
 a:List Tm
structure Im where
 id:Int
 n:ByteArray
 a:List Tm
structure Bd where
 v:Int
 t:Tm
structure Fi where
 tV:Int
 ids:List Int
structure Rl where
 n:ByteArray
 aQ:List At
 rem:List At
 guard:List Gl
 body:List Gl
 vars:Int
structure Dc where
 n:ByteArray
 ar:Int
structure Pg where
 ds:List Dc
 rs:List Rl
structure cH where
 goals:List Gl
 store:List Im
 binds:List Bd
 a7:List Fi
 known:List Gl
 next:Int
 fresh:Int
 failed:Bool
def atR(O:Hd)(x:At):List AV:=[.v (.string x.n),tl O x.a]
def E2(O:Hd)(x:Gl):List AV:=[iv x.op,.v (.string x.n),tl O x.a]
def Zg(O:Hd)(x:Im):List AV:=[iv x.id,.v (.string x.n),tl O x.a]
def bR(O:Hd)(x:Bd):List AV:=[iv x.v,iv x.t.k,iv x.t.i,.v (.string x.t.n),tl O x.t.a]
def IM(O:Hd)(x:Fi):List AV:=[iv x.tV,aY O aR false x.ids]
def fI(O:Hd)(l:List At):AV:=aY O (atR O) false l
def dJ(O:Hd)(l:List Gl):AV:=aY O (E2 O) false l
def lj(O:Hd)(l:List Im):AV:=aY O (Zg O) false l
def bf(O:Hd)(l:List Bd):AV:=aY O (bR O) false l
def kJ(O:Hd)(l:List Fi):AV:=aY O (IM O) false l
def lY(O:Hd)(x:Rl):List AV:=[.v (.string x.n),fI O x.aQ,fI O x.rem,dJ O x.guard,dJ O x.body,iv x.vars]
def YH(x:Dc):List AV:=[.v (.string x.n),iv x.ar]
def h_(O:Hd)(l:List Dc):AV:=aY O YH false l
def UT(O:Hd)(l:List Rl):AV:=aY O (lY O) false l
def ju(O:Hd)(x:Pg):List AV:=[h_ O x.ds,UT O x.rs]
def po(O:Hd)(x:cH):List AV:=[dJ O x.goals,lj O x.store,bf O x.binds,kJ O x.a7,dJ O x.known,iv x.next,iv x.fresh,.v (.bool x.failed)]
def at_(O:Hd)(x:At):AV:=.agg (atR O x)
def gl(O:Hd)(x:Gl):AV:=.agg (E2 O x)
def it(O:Hd)(x:Im):AV:=.agg (Zg O x)
def bd(O:Hd)(x:Bd):AV:=.agg (bR O x)
def fi(O:Hd)(x:Fi):AV:=.agg (IM O x)
def rl(O:Hd)(x:Rl):AV:=.agg (lY O x)
def pg(O:Hd)(x:Pg):AV:=.agg (ju O x)
def oN(O:Hd)(x:cH):AV:=.agg (po O x)
theorem bJ(l:List Int):Pure (aY O aR ex l):=ew λx _ a b=>by cases ak_.1 b;exact .v
theorem wO{b:AV}(d:Pure a)(e:Pure b):∀c∈[a,b],Pure c:=I
theorem S0{b c:AV}(e:Pure a)(f:Pure b)(g:Pure c):∀d∈[a,b,c],Pure d:=I
def TB(x:At):∀a∈atR O x,Pure a:=wO .v (c9 _)
def Kt(x:Gl):∀a∈E2 O x,Pure a:=S0 .v .v (c9 _)
def Ku(x:Im):∀a∈Zg O x,Pure a:=S0 .v .v (c9 _)
theorem mG(x:Bd):∀a∈bR O x,Pure a:=by simp[bR,c9,Pure.v,iv]
def TD(x:Fi):∀a∈IM O x,Pure a:=wO .v (bJ _)
theorem cR(l:List At):Pure (fI O l):=ew λx _ a b=>TB x a b
theorem a6(l:List Gl):Pure (dJ O l):=ew λx _ a b=>Kt x a b
theorem dH(l:List Im):Pure (lj O l):=ew λx _ a b=>Ku x a b
theorem bC(l:List Bd):Pure (bf O l):=ew λx _ a b=>mG x a b
theorem eu(l:List Fi):Pure (kJ O l):=ew λx _ a b=>TD x a b
theorem D5(x:Rl):∀a∈lY O x,Pure a:=by simp[lY,cR,a6,Pure.v,iv]
def PO(x:Dc):∀a∈YH x,Pure a:=wO .v .v
theorem eN(l:List Dc):Pure (h_ O l):=ew λx _ a b=>PO x a b
def qd(l:List Rl):Pure (UT O l):=ew λx _ a b=>D5 x a b
def rM(x:Pg):∀a∈ju O x,Pure a:=wO (eN _) (qd _)
theorem wY(x:cH):∀a∈po O x,Pure a:=by simp[po,a6,dH,bC,eu,Pure.v,iv]
def uB(x:At):Pure (at_ O x):=.agg (TB x)
def iX(x:Gl):Pure (gl O x):=.agg (Kt x)
def ze(x:Im):Pure (it O x):=.agg (Ku x)
def uJ(x:Bd):Pure (bd O x):=.agg (mG x)
def CW(x:Fi):Pure (fi O x):=.agg (TD x)
def jr(x:Rl):Pure (rl O x):=.agg (D5 x)
def jO(x:Pg):Pure (pg O x):=.agg (rM x)
def lE(x:cH):Pure (oN O x):=.agg (wY x)
theorem Z{P:Program}{rd:Bool}{n:Nat}{Q:Exit->AA->ah->Prop}(G:List Nat){a:QF}{U b:AA}{S':ah}(k:H P Y rd n Q a b S')(h:nO G 400 cf U S=(a,b,S'):=by conv=>lhs;cbv):H P Y rd n Q cf U S:=H.xE G 400 h k
section
variable{P:Program}{rd:Bool}{U:AA}{i:QI}{l:List QI}
theorem fq{ex:Exit}{a:List QR}{R:AV->ah->Prop}(k:R r S')(h:Mu a ex U S=some (r,S'):=by conv=>lhs;cbv):H P Y rd n (vm a R) (.out ex []) U S:=H.fin h k
theorem bq{e:Bool}(a:e=true->H P Y rd n Q (.bk dr l K) (bW i.d U (.v (.bool true))) S')(b:e=false->H P Y rd n Q (.bk dr l K) (bW i.d U (.v (.bool false))) S')(c:bD U.tm i.g=some true:=by rfl)(h:D P Y dr i.q U S (.v (.bool e)) S':=by exact D.bit rfl):H P Y rd n Q (.bk dr (i::l) K) U S:=H.bif c h a b
theorem b8(k:∀d,d=e->H P Y rd n Q (.bk dr l K) (bW i.d U (.v (.int ik d))) S')(a:bD U.tm i.g=some true:=by rfl)(h:D P Y dr i.q U S (.v (.int ik e)) S':=by exact D.len rfl):H P Y rd n Q (.bk dr (i::l) K) U S:=H.int a h k
theorem cG(k:∀d,d=e->H P Y rd n Q (.bk dr l K) (bW i.d U (.v (.int ik d))) S')(a:bD U.tm i.g=some true:=by rfl)(h:D P Y dr i.q U S (.v (.int ik e)) S':=by exact D.yU rfl rfl rfl (by omega) (by omega)):H P Y rd n Q (.bk dr (i::l) K) U S:=H.int a h k
theorem gT(k:∀d,d=e->H P Y rd n Q (.bk dr l K) (bW i.d U (.v (.int ik d))) S')(a:bD U.tm i.g=some true:=by rfl)(h:D P Y dr i.q U S (.v (.int ik e)) S':=by exact D.am0 rfl (by omega) (by omega)):H P Y rd n Q (.bk dr (i::l) K) U S:=H.int a h k
end
theorem bY:(∀(p:Prop) [Decidable p],(decide p=true)=p)/\(∀(p:Prop) [Decidable p],(decide p=false)=¬p)/\(∀{U:Type} [BEq U] [LawfulBEq U] (a b:U),((a==b)=true)=(a=b))/\(∀{U:Type} [BEq U] [LawfulBEq U] (a b:U),((a==b)=false)=¬a=b)/\(∀{U:Type} [BEq U] [LawfulBEq U] (a b:U),((a !=b)=true)=¬a=b)/\(∀{U:Type} [BEq U] [LawfulBEq U] (a b:U),((a !=b)=false)=(a=b)) /\(∀b:Bool,¬b=true=(b=false))/\(∀b:Bool,¬b=false=(b=true))/\(∀b:Bool,((!b)=true)=(b=false))/\(∀b:Bool,((!b)=false)=(b=true))/\∀{U:Type}(a b:U),(a≠b)=¬a=b:=by refine⟨λp _=>aB,λp _=>aB,λa b=>aB,λa b=>aB,λa b=>aB,λa b=>aB,λb=>aB,λb=>aB,λb=>aB,λb=>aB,λa b=>rfl⟩
theorem sq(h:P:=by repeat' first|exact trivial|refine⟨?_,?_⟩;first|exact .aK rfl .v|exact .aK rfl zn|exact .aK rfl (Pure.bu (by first|exact .v|exact c9 _|exact bJ _|exact cR _|exact a6 _|exact dH _|exact bC _|exact eu _|exact eN _|exact qd _|exact bI _|exact uB _|exact iX _|exact ze _|exact uJ _|exact CW _|exact jr _|exact jO _|exact lE _|assumption))|exact .aK rfl .u|exact .new rfl rfl|exact .jI rfl rfl|exact .lR rfl|exact .pj rfl rfl|exact .vK rfl rfl|exact .aK rfl (.pt (by decide))|exact .aK rfl (.mp (by decide))|exact .aK rfl (.gr (by decide))|exact .aK rfl (.ob (by decide))|exact .aK rfl (.yl (by decide))):P:=h
theorem kq(h:P:=by repeat' first|exact trivial|refine⟨?_,?_⟩;first|exact .aK .v|exact .aK zn|exact .aK (Pure.bu (by first|exact .v|exact c9 _|exact bJ _|exact cR _|exact a6 _|exact dH _|exact bC _|exact eu _|exact eN _|exact qd _|exact bI _|exact uB _|exact iX _|exact ze _|exact uJ _|exact CW _|exact jr _|exact jO _|exact lE _|assumption))|exact .jI rfl rfl|exact .lR|exact .aK (.pt (by decide))|exact .aK (.mp (by decide))|exact .aK (.gr (by decide))|exact .pj rfl rfl|exact .vK rfl rfl|exact .aK .u):P:=h
theorem cq(h:P:=by exact⟨by repeat' first|exact trivial|refine⟨?_,?_⟩;first|exact .aK rfl .v|exact .aK rfl zn|exact .aK rfl (Pure.bu (by first|exact .v|exact c9 _|exact bJ _|exact cR _|exact a6 _|exact dH _|exact bC _|exact eu _|exact eN _|exact qd _|exact bI _|exact uB _|exact iX _|exact ze _|exact uJ _|exact CW _|exact jr _|exact jO _|exact lE _|assumption))|exact .aK rfl .u|exact .new rfl rfl|exact .jI rfl rfl|exact .lR rfl|exact .pj rfl rfl|exact .vK rfl rfl|exact .aK rfl (.pt (by decide))|exact .aK rfl (.mp (by decide))|exact .aK rfl (.gr (by decide))|exact .aK rfl (.ob (by decide))|exact .aK rfl (.yl (by decide)),rfl,trivial,rfl,rfl,rfl⟩):P:=h
abbrev FQ(n:FuncId)(f:Func):={q:QC×List QR //qz prog n q f.ntmps}
abbrev aD{n:FuncId}{f:Func}{q:QC×List QR}(hf:prog.funcs[n]?=some f)(hc:∀(xs:Array Value) (w:World),(callFunc n xs).run prog w=.ok (.enter n xs) w)(hq:Yb progTables f=some q:=by conv=>lhs;cbv)(hT:prog.toTables=progTables:=by rfl)(hd:Lq prog f=true:=by kernel_rfl):FQ n f:=⟨q,qz.of hf hq hT rfl hd hc⟩
abbrev ab(Y:World):=ao prog Y
theorem st{n:FuncId}{f:Func}{U:AA}(x:FQ n f)(G:List Nat)(a:Pure r)(k:H prog Y false f.ntmps (vm x.1.2 λr' S=>aH S r' r) cf U S)(b:args.length<=f.ntmps:=by exact ax_ rfl)(g:nO G 400 (.run x.1.1 []) ⟨qc args,[]⟩ ah.none_=(cf,U,S):=by conv=>lhs;cbv):ab Y n args r:=x.2.avE b a (H.xE G 400 g k)
theorem sc{n:FuncId}{f:Func}{r':AV}(B N:Nat)(x:FQ n f)(k:H prog Y false f.ntmps (vm x.1.2 λr S'=>∃m,lM B m N r r'/\gK B m N S' so/\tN B m (so.map (·.1))=true) (.run x.1.1 []) ⟨qc args,[]⟩ S)(a:args.length<=f.ntmps:=by exact ax_ rfl)(b:Nat.ble S.nx B=true:=by rfl)(c:Nat.ble B N=true:=by rfl):aF prog Y n args S r' (aw so N):=qz.avW B N so x.2 a b c k
end Go.Proofs.YtbdcmpknicjopaaGreat
