import Derived.ChangeArms
import Derived.OpenShut
import Derived.ProofKit
import Derived.Test.YtbpabjmnhggajaaGreatRows
import Derived.Test.YtbpabjmnhggajaaGreatOr11
namespace Go.Proofs.YtbpabjmnhggajaaGreat
set_option linter.all false
open Go.RowKit
variable {a z:AV}{c ex:Bool}{rows:List (List AV)}{m:List (Nat × Nat)}{so so':List (Nat × Ob)}{to:List (Nat × Option Ob)}{es:List (Value × AV)}{r1:List AV}{ds:List DE}{cs:List Value}{N N' j sz:Nat}{sp:Nat->Bool}{o:Op}{g:Option (Nat × Bool)}{d:Option Nat}{b i x:QO}{α:Type}
def g0 (w:World):Gh:=⟨λ_=>0,λ_=>0,λ_=>False,λb _=>b < w.heap.size,λ_ _=>False⟩
def dV (P:Program) (n:Nat) (t:TypeId) (sz:Nat) {α:Type}(lay:α->List AV) (μ:α->Nat):Prop :=
 ∀(H:Type) (b:TypeId × Value->H) (w:World) (sp:Nat->Bool) (held:Bool) (m:Nat),m < n->∀(cs:List Value) (d:DataW H × List MemPlace),cs.length=sz->DataW.trod b P w 0 sp held m t cs=some d ->
  ∃x,μ x<=Rows.uptoBulk d.1/\(lay x).length=sz/\∀(j:Nat) (a:AV) (v:Value),(lay x)[j]?=some a->cs[j]?=some v->aN (g0 w) w a v
def gF {α:Type}(μ:α->Nat):List α->Nat
 |[]=>0
 |x::l=>μ x+gF μ l
theorem PK {α H:Type}{μ:α->Nat}:∀{l:List α}{ds:List (DataW H × List MemPlace)},l.length=ds.length->(∀(i:Nat) (x:α) (e:DataW H × List MemPlace),l[i]?=some x->ds[i]?=some e->μ x<=Rows.uptoBulk e.1)->gF μ l<=Rows.uptoBulkAll (ds.map (·.1))
 |[],ds,_,_=>ax_ _
 |x::l,[],h,_=>by grind
 |x::l,e::ds,h,a=>by
  rw[gF,aC_,Rows.uptoBulkAll];have b:=a 0 x e rfl rfl;have c:=PK (l:=l) (ds:=ds) (by grind) λi y z d f=>a (i+1) y z (by grind) (by grind);omega
section
variable {P:Program}{n:Nat}{t:TypeId}{sz:Nat}
theorem dV.less {lay:α->List AV}{μ:α->Nat}{m:Nat}(h:dV P n t sz lay μ) (b:m<=n):dV P m t sz lay μ:=λH a w sp held k c=>h H a w sp held k (by omega)
theorem dV.int (e:P.underlying t=some (.int .i64)):dV P n t 1 aI (λ_=>1):=by
 intro H f w sp held m _ cs d g h;obtain⟨z,rfl,rfl,i⟩:=DataW.trod_int e h;refine⟨z,by simp only[Rows.uptoBulk];exact ac_ _,rfl,λj a v b c=>?_⟩;cases j with
 |zero=>simp[aI]at b c;subst b c;exact .v
 |succ j=>simp[aI]at b
theorem dV.str (e:P.underlying t=some .string):dV P n t 1 (λs:ByteArray=>[AV.v (.string s)]) (λs=>s.size+1):=by
 intro H f w sp held m _ cs d g h;obtain⟨z,rfl,rfl,i⟩:=DataW.trod_string e h;refine⟨z,by simp only[Rows.uptoBulk];exact ac_ _,rfl,λj a v b c=>?_⟩;cases j with
 |zero=>simp at b c;subst b c;exact .v
 |succ j=>simp at b
theorem dV.slice {lay:α->List AV}{μ:α->Nat}{e:TypeId}(U:P.underlying t=some (.slice e)) (N:P.cellsOf e=sz) (V:0 < sz) (W:dV P n e sz lay μ) :
  dV P (n+1) t 1 (λl:List α=>[aR .plain lay false l]) (λl=>gF μ l+1):=by
 have z:∀l:List α,aR .plain lay false l=.sl false (l.map lay):=λl=>bX;simp only[z];intro H A w sp held m hm cs d hl h;rcases DataW.trod_slice U h with ⟨f,B⟩|⟨a,len,cap,elems,rest,k,hk,f,B,_,ZJ,X,hlen,O,_⟩
 ·subst f;refine⟨[],by rw[B];simp only[Rows.uptoBulk,gF];exact ac_ _,rfl,λj b v c f=>?_⟩;cases j with
  |zero=>simp at c f;subst c f;exact .nil (λh=>by grind)
  |succ j=>simp at c
 ·have Q:0 < len->a.spot=none:=by
   intro C;have D:=O 0 C;rw[N]at D;have Y:elems[0]?=some (elems[0]'(by omega)):=ai_ (by omega);rw[Y]at D;obtain⟨u,Z,_⟩:=co_.1 D;obtain⟨_,Ft,E⟩:=World.cells?_some Z;have g:=E 0 V;have h6:u[0]?=some (u[0]'(by omega)):=ai_ (by omega);rw[h6]at g;simp only[aW_,Addr.add,if_true]at g;unfold World.cell? at g;split at g
   ·split at g
    ·grind
    ·rename_i o;simpa using o
   ·grind
  have key:∀i,i < len->∃x,(∀e,elems[i]?=some e->μ x<=Rows.uptoBulk e.1)/\(lay x).length=sz/\∀(j:Nat) (b:AV),(lay x)[j]?=some b->∃v,w.cell? ⟨a.block,a.off+i*sz+j,none⟩=some v/\aN (g0 w) w b v:=by
   intro i F;have p:=O i F;rw[N]at p;have R:elems[i]?=some (elems[i]'(by omega)):=ai_ (by omega);rw[R]at p;obtain⟨cs,Lw,G⟩:=co_.1 p;obtain⟨_,eZ,pF⟩:=World.cells?_some Lw;obtain⟨x,y,pY,s⟩:=W H A w sp held k (by omega) cs _ eZ G;refine⟨x,λe S=>by grind,pY,λj b c=>?_⟩;have I:j < sz:=by grind
   have f:cs[j]?=some (cs[j]'(by omega)):=ai_ (by omega);have g:=pF j I;have o:=Q (by omega);have J:(a.add (i*sz)).add j=⟨a.block,a.off+i*sz+j,none⟩:=by
    obtain⟨K,off,spot⟩:=a;simp only at o;subst o;unfold Addr.add;by_cases hz:i*sz=0<;>by_cases I:j=0<;>simp[hz,I]
   rw[J,f]at g;exact⟨_,g,s j b _ c f⟩
  obtain⟨l,T,ee⟩:∃l:List α,l.length=len/\∀i x,l[i]?=some x->(∀e,elems[i]?=some e->μ x<=Rows.uptoBulk e.1)/\(lay x).length=sz/\∀(j:Nat) (b:AV),(lay x)[j]?=some b->∃v,w.cell? ⟨a.block,a.off+i*sz+j,none⟩=some v/\aN (g0 w) w b v:=by
   refine⟨(List.range len).attach.map (λi=>Classical.choose (key i.1 (by grind))),by simp,λi x y=>?_⟩;simp only[aS_,ba_]at y;obtain⟨q,hq,rfl⟩:=y;have L:q.1=i:=by grind
   rw[<-L];exact Classical.choose_spec (key q.1 (by grind))
  have Jm:cs=[.slice (some a) len cap]:=by grind
  subst Jm;refine⟨l,?_,rfl,λj b v c f=>?_⟩
  ·rw[B];have:=PK (μ:=μ) (l:=l) (ds:=elems) (by omega) λi x e y S=>(ee i x y).1 e S;simp only[Rows.uptoBulk];omega
  ·cases j with
   |succ j=>simp at c
   |zero =>
    simp at c f;subst c f;by_cases C:l=[]
    ·subst C;simp at T;subst T;exact .nil (λh=>by grind)
    ·have o:=Q (by grind);obtain⟨K,off,spot⟩:=a;simp only at o;subst o;have M:len=(l.map lay).length:=by grind
     have row:∀(i:Nat) (row:List AV),(l.map lay)[i]?=some row->row.length=sz/\∀(j:Nat) (b:AV),row[j]?=some b->∃v,w.cell? ⟨K,off+i*sz+j,none⟩=some v/\aN (g0 w) w b v:=by grind
     rw[M];refine .sl (sz:=sz) (val:=λi j=>(w.cell? ⟨K,off+(i*sz+j),none⟩).getD undef) (by grind) (λh=>by grind) (by grind) (λi r s=>(row i r s).1) (λi j r b s c=>?_) (λi j r b s c=>?_)
     ·obtain⟨v,p,R⟩:=(row i r s).2 j b c;rw[bx_]at p;exact⟨block_lt_of_cell p,by grind⟩
     ·grind
theorem dV.fields {H:Type}{enc:TypeId × Value->H}{w:World}{held:Bool}{fs:Array Field}(c:P.underlying t=some (.struct fs)) {fuel:Nat}{d:DataW H × List MemPlace}(h:DataW.trod enc P w 0 sp held fuel t cs=some d) :
  ∃(n:Nat) (xs:List (DataW H × List MemPlace)),fuel=n+1/\xs.length=fs.size/\Rows.uptoBulk d.1=Rows.uptoBulkAll (xs.map (·.1))+1/\∀(i ty off:Nat),(fs[i]?).map (λf=>(f.type,f.offset))=some (ty,off)->∃y,xs[i]?=some y/\DataW.trod enc P w 0 sp held n ty ((cs.drop off).take (P.cellsOf ty))=some y:=by
 obtain⟨xs,n,e,g,_,j,k⟩:=DataW.trod_struct c h;refine⟨n,xs,e,j,by rw[g];simp only[Rows.uptoBulk],λi ty off l=>?_⟩;obtain⟨f,a,b⟩:=ba_.1 l;simp only[pI_]at b;obtain⟨rfl,rfl⟩:=b;have m:i < fs.size:=(ce_.1 a).1;exact⟨xs[i]'(by omega),ai_ (by omega),(k i f a).trans (ai_ (by omega))⟩
theorem dV.part {H:Type}{enc:TypeId × Value->H}{w:World}{held:Bool}{lay:α->List AV}{μ:α->Nat}{m ty k off i:Nat}{xs:List (DataW H × List MemPlace)}(b:dV P n ty k lay μ) (c:m < n) (d:P.cellsOf ty=k) (hlen:off+k<=cs.length)
  (h:∃y,xs[i]?=some y/\DataW.trod enc P w 0 sp held m ty ((cs.drop off).take (P.cellsOf ty))=some y):∃x,μ x<=((xs[i]?).map λy=>Rows.uptoBulk y.1).getD 0/\(lay x).length=k/\∀(j:Nat) (a:AV) (v:Value),(lay x)[j]?=some a->cs[off+j]?=some v->aN (g0 w) w a v:=by
 obtain⟨y,p,h⟩:=h;rw[d]at h;obtain⟨x,q,e,f⟩:=b H enc w sp held m c _ y (by grind) h;refine⟨x,by grind,e,λj a v g l=>f j a v g ?_⟩;have o:j < k:=by grind
 rw[bG_,if_pos o,bY_];exact l
def pL {H:Type}(xs:List (DataW H × List MemPlace)):Nat->Nat
 |0=>0
 |k+1=>pL xs k+((xs[k]?).map λy=>Rows.uptoBulk y.1).getD 0
theorem GO {H:Type}{y:DataW H × List MemPlace}{xs:List (DataW H × List MemPlace)}:∀k,pL (y::xs) (k+1)=Rows.uptoBulk y.1+pL xs k
 |0=>by simp[pL]
 |k+1=>by
  rw[pL,GO k,pL];simp only[cx_];omega
theorem o4 {H:Type}:∀{xs:List (DataW H × List MemPlace)},pL xs xs.length=Rows.uptoBulkAll (xs.map (·.1))
 |[]=>rfl
 |y::xs=>by
  rw[aw_,GO,o4,aC_,Rows.uptoBulkAll]
end
def dW {T:Type}(f:T->AV) (l:List (Int × T)):List (Value × AV):=l.map λp=>(c_ p.1,f p.2)
def aH {T:Type}:List (Int × T)->Int->Option T
 |[],_=>none
 |p::l,i=>if p.1=i then some p.2 else aH l i
def iy {T:Type}:List (Int × T)->Int->T->List (Int × T)
 |[],i,v=>[(i,v)]
 |p::l,i,v=>if p.1=i then (i,v)::l else p::iy l i v
theorem cQ {T:Type}{l:List (Int × T)}{i j:Int}{v:T}:aH (iy l i v) j=if i=j then some v else aH l j:=by
 induction l with
 |nil=>simp[iy,aH]
 |cons p l a =>
  simp only[iy];by_cases h:p.1=i
  ·grind[aH]
  ·grind[aH]
section
variable {T:Type}{f:T->AV}{l:List (Int × T)}
theorem rq:oB (dW f l):=λp a=>by
 obtain⟨q,_,rfl⟩:=av_.1 a;exact⟨_,rfl⟩
theorem x_ (i:Int):se (dW f l) i=(aH l i).map f:=by
 induction l with
 |nil=>rfl
 |cons p l a =>
  simp only[dW,aC_,se,lW,c_,aH]at a ⊢;by_cases h:p.1=i
  ·grind
  ·grind
theorem Fu (i:Int) (v:T):AJ (dW f l) i (f v)=dW f (iy l i v):=by
 induction l with
 |nil=>rfl
 |cons p l a =>
  simp only[dW,aC_,AJ,lW,c_,iy]at a ⊢;by_cases h:p.1=i
  ·grind
  ·grind
end
section
variable {P:Program}{w0:World}{rd:Bool}{n B:Nat}{α:AA}{S S':af}{Q:Exit->AA->af->Prop}{r:AV}{l:List QI}{K:List f_}{V:List (Nat × Nat)}{lg:List (List Nat × List Nat × Bool)}{rs:List Nat}
theorem Cs {x:Option QO}(h:res P.toTables o=some (.kQ x)):∃t y a b,o=.makeMap t y/\x=y.map qo/\P.underlying t=some (.map a b):=by
 cases o with
 |makeMap t y =>
  simp only[res,cF]at h;split at h
  ·grind
  ·grind
 |_ =>
  simp only[res]at h
  repeat' split at h
  all_goals cases h
theorem ae.kQ:ae P w0 false (.kQ none) α S (.mp S.nx) (S.new (.mp [])):=ae.run λn o a=>by
 obtain⟨t,y,d,e,b,c,f⟩:=Cs a;cases y with
 |some y=>cases c
 |none=>exact TW b
theorem ae.adt {kk:IntKind}{m:Int}(a:x.ev α.tm=.v (.int kk m)):ae P w0 false (.kQ (some x)) α S (.mp S.nx) (S.new (.mp [])):=ae.run λn o c=>by
 obtain⟨t,y,f,g,d,b,e⟩:=Cs c;cases y with
 |none=>cases b
 |some y =>
  obtain rfl:=oJ_ b;rw[aW]at a;exact RV d e a
theorem Fv (h:res P.toTables o=some (.look z c x i)):∃t u v a b kk d,o=.lookup t u v c/\x=qo u/\i=qo v/\P.underlying t=some (.map a b)/\P.underlying a=some (.int kk)/\d_ P b=some d/\z=lift d:=by
 cases o with
 |lookup t u v j =>
  simp only[res,cF,ky]at h;split at h
  ·rename_i a b e;split at h
   ·rename_i kk d f g;simp only[oI_,mz.look.injEq]at h;obtain⟨rfl,rfl,rfl,rfl⟩:=h;exact⟨_,_,_,_,_,_,_,rfl,rfl,rfl,e,f,g,rfl⟩
   all_goals cases h
  ·grind
 |_ =>
  simp only[res]at h
  repeat' split at h
  all_goals cases h
theorem ae.look {k:Nat}{m:Int}(b:x.ev α.tm=.mp k) (d:S.get k=some (.mp es)) (e:oB es) (hi:i.ev α.tm=.v (.int .i64 m)) :
  ae P w0 false (.look z c x i) α S (match se es m with|some a=>(if c then .aL [a,.v (.bool true)] else a)|none=>(if c then .aL [z,.v (.bool false)] else z)) S:=ae.run λn o f=>by
 obtain⟨t,u,v,p,q,r,s,g,rfl,rfl,h,j,l,rfl⟩:=Fv f;rw[aW]at b hi;exact WO g h j l b d e hi
theorem Fw (h:res P.toTables o=some (.oD x i b)):∃t u v y a c kk,o=.mapUpdate t u v y/\x=qo u/\i=qo v/\b=qo y/\P.underlying t=some (.map a c)/\P.underlying a=some (.int kk):=by
 cases o with
 |mapUpdate t u v y =>
  simp only[res,cF]at h;split at h
  ·grind
  ·grind
 |_ =>
  simp only[res]at h
  repeat' split at h
  all_goals cases h
theorem ae.oD {k:Nat}{m:Int}(c:x.ev α.tm=.mp k) (e:S.get k=some (.mp es)) (f:oB es) (hi:i.ev α.tm=.v (.int .i64 m)) (d:b.ev α.tm=a) :
  ae P w0 false (.oD x i b) α S (.v undef) (S.set k (some (.mp (AJ es m a)))):=ae.run λn o g=>by
 obtain⟨t,u,v,y,p,q,r,h,rfl,rfl,rfl,j,l⟩:=Fw g;rw[aW]at c hi d;exact LD h j l c e f hi d
variable {ρ:Hd}{T:Type}{f:T->AV}{kv:List (Int × T)}
theorem ad.look {k:Nat}{m:Int}(b:bG α.tm g=some true) (e:x.ev α.tm=.mp k) (j:S.get k=some (.mp (ρ.h (dW f) kv))) (hi:i.ev α.tm=.v (.int .i64 m))
  (o:∀v,aH kv m=some v->ad P w0 rd n Q (.bc false l K) (bP d α (if c then .aL [f v,.v (.bool true)] else f v)) S) (p:aH kv m=none->ad P w0 rd n Q (.bc false l K) (bP d α (if c then .aL [z,.v (.bool false)] else z)) S) :
  ad P w0 rd n Q (.bc false (⟨d,g,.look z c x i⟩::l) K) α S:=by
 have h:=ae.look (P:=P) (w0:=w0) (z:=z) (c:=c) e j (by rw[ρ.eq];exact rq) hi;rw[ρ.eq,x_]at h;refine ad.op (i:=⟨d,g,.look z c x i⟩) b h ?_;cases a:aH kv m with
 |some v=>exact o v a
 |none=>exact p a
theorem ad.oD {k:Nat}{m:Int}{v:T}(c:bG α.tm g=some true) (e:x.ev α.tm=.mp k) (j:S.get k=some (.mp (ρ.h (dW f) kv))) (hi:i.ev α.tm=.v (.int .i64 m)) (o:b.ev α.tm=f v)
  (p:∀a,a=iy kv m v->ad P w0 rd n Q (.bc false l K) (bP d α (.v undef)) (S.set k (some (.mp (ρ.h (dW f) a))))):ad P w0 rd n Q (.bc false (⟨d,g,.oD x i b⟩::l) K) α S:=by
 have h:=ae.oD (P:=P) (w0:=w0) e j (by rw[ρ.eq];exact rq) hi o;rw[ρ.eq,Fu,<-ρ.eq (dW f)]at h;exact ad.op (i:=⟨d,g,.oD x i b⟩) c h (p _ rfl)
theorem ad.kQ (ρ:Hd) (f:T->AV) (a:bG α.tm g=some true) (b:∀kv:List (Int × T),kv=[]->ad P w0 rd n Q (.bc false l K) (bP d α (.mp S.nx)) (S.new (.mp (ρ.h (dW f) kv)))):ad P w0 rd n Q (.bc false (⟨d,g,.kQ none⟩::l) K) α S:=by
 have h:=b [] rfl;rw[ρ.eq]at h;exact ad.op (i:=⟨d,g,.kQ none⟩) a ae.kQ h
end
section
variable {ι:Nat->Nat}{M:Nat}
theorem Rn.pure (h:Pure a):Rn ι M a a:=λg w x b=>aN.pure (g:=g) (g':=g.pre ι M) (λ_ _ h=>h) (λ_ _ _=>rfl) b h
theorem Rn.gr {j k sz len:Nat}(h:k=ι j) (b:Nat.blt j M=true):Rn ι M (.gr k sz len) (.gr j sz len):=λg w x c=>by
 subst h;cases c with
 |kO=>exact .kO
 |gr d e a=>exact .gr (g:=g.pre ι M) (k:=j) ⟨lk b,d⟩ e a
theorem Rn.nil:Rn ι M (.sl true []) (.gr j sz 0):=λg w x a=>by
 cases a with
 |nil b=>rw[b rfl];exact .kO
 |sl c=>exact absurd rfl c
theorem Rn.pt {j k sz i q:Nat}(h:k=ι j) (a:Nat.blt j M=true):Rn ι M (.pt k sz i q) (.pt j sz i q):=λg w x b=>by
 subst h;cases b with
 |pt c=>exact .pt (g:=g.pre ι M) (k:=j) ⟨lk a,c⟩
theorem Rn.mp {k:Nat}(h:k=ι j) (a:Nat.blt j M=true):Rn ι M (.mp k) (.mp j):=λg w x b=>by
 subst h;cases b with
 |mp c=>exact .mp (g:=g.pre ι M) (k:=j) ⟨lk a,c⟩
theorem Rn.yl {k:Nat}(h:k=ι j) (a:Nat.blt j M=true):Rn ι M (.yl k) (.yl j):=λg w x b=>by
 subst h;cases b with
 |yl c=>exact .yl (g:=g.pre ι M) (k:=j) ⟨lk a,c⟩
def wM (ι:Nat->Nat) (M:Nat):List AV->List AV->Prop
 |[],[]=>True
 |a::l,b::m=>Rn ι M a b/\wM ι M l m
 |_,_=>False
theorem wM.at:∀{l m:List AV},wM ι M l m->l.length=m.length/\∀(i:Nat) (b:AV),m[i]?=some b->∃a,l[i]?=some a/\Rn ι M a b
 |[],[],_=>⟨rfl,λi b h=>by grind⟩
 |a::l,b::m,e=>⟨by simp[e.2.at.1],λi c h=>by
  cases i with
  |zero=>simp at h;subst h;exact⟨a,rfl,e.1⟩
  |succ i=>simp at h;obtain⟨d,g,f⟩:=e.2.at.2 i c h;exact⟨d,by grind,f⟩⟩
 |[],_::_,h=>h.elim
 |_::_,[],h=>h.elim
theorem Rn.fn {f:Fn}{l m n o:List AV}(h:wM ι M l m) (k:wM ι M n o):Rn ι M (.fn f l n) (.fn f m o):=λg w x p=>by
 cases p with
 |fn q r s t =>
  refine .fn (q.trans h.at.1) (r.trans k.at.1) (λi b y c d=>?_) (λi b y c d=>?_)
  ·obtain⟨a,e,j⟩:=h.at.2 i b c;exact j g w y (s i a y e d)
  ·obtain⟨a,e,j⟩:=k.at.2 i b c;exact j g w y (t i a y e d)
theorem lj.pure {fz:Nat}(h:∀row ∈ rows,∀a ∈ row,Pure a):lj ι M (.arr sz rows fz ex) (.arr sz rows fz ex):=by
 refine⟨λg w b cp c=>?_,λJ h=>by grind⟩;obtain⟨cs,f,k,l,m,n,d,o,p⟩:=c;refine⟨cs,f,k,l,m,n,λi row c=>⟨(d i row c).1,λj a e=>?_⟩,o,p⟩;obtain⟨x,q,r⟩:=(d i row c).2 j a e;exact⟨x,q,Rn.pure (h _ (aa_ c) _ (aa_ e)) g w x r⟩
theorem lj.row {fz:Nat}{r0:List AV}(h:wM ι M r0 r1):lj ι M (.arr sz [r0] fz ex) (.arr sz [r1] fz ex):=by
 refine⟨λg w b cp c=>?_,λJ h=>by grind⟩;obtain⟨cs,d,e,f,k,l,m,n,o⟩:=c;refine⟨cs,d,e,f,k,l,λi row c=>?_,n,o⟩;cases i with
 |succ i=>simp at c
 |zero =>
  simp at c;subst c;obtain⟨q1,p⟩:=m 0 r0 rfl;refine⟨by rw[<-h.at.1];exact q1,λj a q=>?_⟩;obtain⟨a0,r,s⟩:=h.at.2 j a q;obtain⟨x,t,u⟩:=p j a0 r;exact⟨x,t,s g w x u⟩
theorem lj.mp (h:∀e ∈ es,Pure e.2):lj ι M (.mp es) (.mp es):=by
 refine⟨λg w b cp c=>?_,λJ h=>by grind⟩;obtain⟨entries,clock,f,j,l⟩:=c;refine⟨entries,clock,f,j,λi k a d=>?_⟩;obtain⟨e,m,n,c⟩:=l i k a d;exact⟨e,m,n,Rn.pure (h _ (aa_ d)) g w _ c⟩
theorem lj.fo {J:fG}:lj ι M (.fo J) (.fo J):=⟨λg w b cp a=>a,λc h=>h⟩
theorem Rb.pure (h:Pure a):Rb ι a a:=λgc g w x c d=>aN.pure (g:=gc) (g':=g) (λb q e=>by rw[c.fz];exact e) (λ_ _ _=>rfl) d h
theorem Rb.gr {j k sz len:Nat}(h:k=ι j):Rb ι (.gr j sz len) (.gr k sz len):=λgc g w x a d=>by
 subst h;cases d with
 |kO=>exact .kO
 |gr b e c=>rw[<-a.ob j b];exact .gr (a.al j b) (by rw[a.cp j b];exact e) c
theorem Rb.pt {j k sz i q:Nat}(h:k=ι j):Rb ι (.pt j sz i q) (.pt k sz i q):=λgc g w x a c=>by
 subst h;cases c with
 |pt b=>rw[<-a.ob j b];exact .pt (a.al j b)
theorem Rb.mp {k:Nat}(h:k=ι j):Rb ι (.mp j) (.mp k):=λgc g w x a c=>by
 subst h;cases c with
 |mp b=>rw[<-a.ob j b];exact .mp (a.al j b)
def PL (ι:Nat->Nat):List AV->List AV->Prop
 |[],[]=>True
 |a::l,b::m=>Rb ι a b/\PL ι l m
 |_,_=>False
theorem PL.at:∀{l m:List AV},PL ι l m->l.length=m.length/\∀(i:Nat) (b:AV),m[i]?=some b->∃a,l[i]?=some a/\Rb ι a b
 |[],[],_=>⟨rfl,λi b h=>by grind⟩
 |a::l,b::m,e=>⟨by simp[e.2.at.1],λi c h=>by
  cases i with
  |zero=>simp at h;subst h;exact⟨a,rfl,e.1⟩
  |succ i=>simp at h;obtain⟨d,g,f⟩:=e.2.at.2 i c h;exact⟨d,by grind,f⟩⟩
 |[],_::_,h=>h.elim
 |_::_,[],h=>h.elim
theorem me.pure {fz:Nat}(h:∀row ∈ rows,∀a ∈ row,Pure a):me ι (.arr sz rows fz ex) (.arr sz rows fz ex):=by
 refine⟨λgc g w b cp d _ c=>?_,λJ h=>by grind⟩;obtain⟨cs,k,l,m,n,o,e,p,q⟩:=c;refine⟨cs,k,l,m,n,o,λi row c=>⟨(e i row c).1,λj a f=>?_⟩,p,by rw[d.fz];exact q⟩;obtain⟨x,r,s⟩:=(e i row c).2 j a f;exact⟨x,r,Rb.pure (h _ (aa_ c) _ (aa_ f)) gc g w x d s⟩
theorem me.row {fz:Nat}{r0:List AV}(h:PL ι r0 r1):me ι (.arr sz [r0] fz ex) (.arr sz [r1] fz ex):=by
 refine⟨λgc g w b cp d _ c=>?_,λJ h=>by grind⟩;obtain⟨cs,e,f,k,l,m,n,o,p⟩:=c;refine⟨cs,e,f,k,l,m,λi row c=>?_,o,by rw[d.fz];exact p⟩;cases i with
 |succ i=>simp at c
 |zero =>
  simp at c;subst c;obtain⟨q1,q⟩:=n 0 r0 rfl;refine⟨by rw[<-h.at.1];exact q1,λj a r=>?_⟩;obtain⟨a0,s,t⟩:=h.at.2 j a r;obtain⟨x,u,v⟩:=q j a0 s;exact⟨x,u,t gc g w x d v⟩
theorem me.mp (h:∀e ∈ es,Pure e.2):me ι (.mp es) (.mp es):=by
 refine⟨λgc g w b cp f _ c=>?_,λJ h=>by grind⟩;obtain⟨entries,clock,j,l,m⟩:=c;refine⟨entries,clock,j,l,λi k a d=>?_⟩;obtain⟨e,n,o,c⟩:=m i k a d;exact⟨e,n,o,Rb.pure (h _ (aa_ d)) gc g w _ f c⟩
theorem me.fo {J:fG}:me ι (.fo J) (.fo J):=⟨λgc g w b cp c d a=>⟨by rw[c.fz,d J rfl];exact a.1,a.2⟩,λe h=>h⟩
end
def vj (f:Nat->Nat):List Nat->Bool
 |[]=>true
 |j::l=>l.all (λi=>!Nat.beq (f i) (f j)) && vj f l
theorem PM {f:Nat->Nat}:∀{l:List Nat},vj f l=true->∀i j,i ∈ l->j ∈ l->f i=f j->i=j
 |[],_,i,j,h,_,_=>by grind
 |a::l,b,i,j,g,k,e=>by
  simp only[vj,al_,aP_,bO_]at b;have ne:∀x ∈ l,f x ≠ f a:=λx m h=>by
   have:=b.1 x m;rw[h,bp_]at this;cases this
  rcases ad_.1 g with c|c
  ·grind
  ·rcases ad_.1 k with d|d
   ·grind
   ·exact PM b.2 i j c d e
def jF (ι:Nat->Nat) (M:Nat) (T:af):List (Nat × Ob)->Prop
 |[]=>True
 |p::l=>(∃a,T.get (ι p.1)=some a/\lj ι M a p.2)/\jF ι M T l
def gT (o:Nat->Nat) (so:List (Nat × Ob)):List (Nat × Option Ob)->Prop
 |[]=>True
 |(k,none)::l=>gT o so l
 |(k,some a)::l=>(∃j p,o j=k/\fb so j=some p/\me o p a)/\gT o so l
theorem jF.mem {ι:Nat->Nat}{M:Nat}{T:af}:∀{l:List (Nat × Ob)},jF ι M T l->∀p ∈ l,∃a,T.get (ι p.1)=some a/\lj ι M a p.2
 |[],_,p,h=>by grind
 |q::l,b,p,h=>by
  rcases ad_.1 h with rfl|h
  ·exact b.1
  ·exact b.2.mem p h
theorem gT.mem {o:Nat->Nat}{so:List (Nat × Ob)}:∀{l:List (Nat × Option Ob)},gT o so l->∀k c,(k,some c) ∈ l->∃j p,o j=k/\fb so j=some p/\me o p c
 |[],_,k,c,h=>by grind
 |(a,none)::l,d,k,c,h=>by
  rcases ad_.1 h with h|h
  ·grind
  ·exact gT.mem (l:=l) d k c h
 |(a,some b)::l,d,k,c,h=>by
  rcases ad_.1 h with h|h
  ·injection h with f e;injection e with e;subst f e;exact d.1
  ·exact gT.mem (l:=l) d.2 k c h
def za:List (Nat × Ob)->Bool
 |[]=>true
 |(_,.fo _)::_=>false
 |_::l=>za l
theorem PN:∀{l:List (Nat × Ob)}{j:Nat}{J:fG},za l=true->fb l j ≠ some (.fo J)
 |[],j,J,_,h=>by cases h
 |(a,o)::l,j,J,b,h=>by
  have c:za l=true:=by cases o<;>first|exact b|cases b
  simp only[fb]at h;split at h
  ·obtain rfl:=oJ_ h;cases b
  ·exact PN c h
section
variable {P:Program}{w0:World}{rd:Bool}{n:Nat}{α:AA}{T:af}{Q:Exit->AA->af->Prop}{K:List f_}{l:List QI}
theorem LF (hi:vj (aU m) (List.range N)=true) (g:(List.range N).all (λj=>Nat.blt (aU m j) T.nx)=true)
  (n:jF (aU m) N T so) (q:gT (dz (aU m) N T.nx) so' to) (r:(List.range N).all (λj=>(to.map (·.1)).contains (aU m j))=true) (x:to.all (λp=>true)=true) (s:∀k o,T.get k=some o->k < T.nx) :
  r8 (aU m) (aq so N) (aq so' N') T ⟨er T.get to,T.nx+N'⟩:=by
 refine⟨λi j c b e=>PM hi i j (aI_.2 c) (aI_.2 b) e,λj d=>lk (aP_.1 g j (aI_.2 d)),λj o t=>n.mem _ (fp t),λk a f=>?_,.inl rfl⟩
 ·have f:er T.get to k=some a:=f;have key:∀{l:List (Nat × Option Ob)},er T.get l k=some a->(k,some a) ∈ l\/(k ∉ l.map (·.1)/\T.get k=some a):=by
   intro l
   induction l with
   |nil=>exactλh=>.inr ⟨by simp,h⟩
   |cons p l y =>
    intro h;rw[er]at h;by_cases e:k=p.1
    ·grind[aJ]
    ·grind[aO]
  rcases key f with h|⟨c,b⟩
  ·obtain⟨j,p,u,v,w⟩:=q.mem k a h;exact .inl ⟨j,p,u,v,w⟩
  ·refine .inr ⟨s k a b,λj d e=>c ?_,b⟩;have:=aP_.1 r j (aI_.2 d);rw[<-e];simpa using this
theorem PO (hi:vj (aU m) (List.range N)=true) (a:(List.range N).all (λj=>Nat.blt (aU m j) T.nx)=true)
  (b:jF (aU m) N T so) (c:gT (dz (aU m) N T.nx) so' to) (d:(List.range N).all (λj=>(to.map (·.1)).contains (aU m j))=true) (e:to.all (λp=>true)=true) (f:∀k o,T.get k=some o->k < T.nx)
  (g:(∀k J,T.get k=some (.fo J)->∃j,j < N/\aU m j=k)\/za so'=true):Fits (aU m) (aq so N) (aq so' N') T ⟨er T.get to,T.nx+N'⟩:=by
 have h:=LF (N':=N') hi a b c d e f;refine⟨h.inj,h.lt,h.hS,h.hT,h.nx,?_⟩;rcases g with h|h
 ·exact .inl h
 ·exact .inr λj J=>PN h
theorem ae.mY {f:QO}{aZ9:List QO}{g:FuncId}{args args₀:List AV}{r r₀:AV}(l:aG P w0 g args (aq so N) r (aq so' N'))
  (h:eV (f.ev α.tm) (aZ9.map (·.ev α.tm))=some (g,args₀)) (c:wM (aU m) N args₀ args) (n:Rb (dz (aU m) N T.nx) r r₀)
  (hi:vj (aU m) (List.range N)=true) (p:(List.range N).all (λj=>Nat.blt (aU m j) T.nx)=true) (q:jF (aU m) N T so) (s:gT (dz (aU m) N T.nx) so' to) (t:(List.range N).all (λj=>(to.map (·.1)).contains (aU m j))=true)
  (u:∀k o,T.get k=some o->k < T.nx) (v:(∀k J,T.get k=some (.fo J)->∃j,j < N/\aU m j=k)\/za so'=true):ae P w0 false (.call f aZ9) α T r₀ ⟨er T.get to,T.nx+N'⟩ :=
 ae.call h (l.frame (PO hi p q s t (by simp) u v) c.at.1 (λi a b d w=>by
  obtain⟨z,x,y⟩:=c.at.2 i b w;rw[x]at d;rw[<-oJ_ d];exact y) n) λe=>by grind
theorem Cv.canon {B:Nat}{l:List (Nat × AV)}(d:Nat.ble T.nx B=true) (b:Canon B N m α T l ds so):Cv w0 n α T (jd l ds) (aq so N):=by
 intro A g a w c e;refine⟨_,b.st c,b.RM e,(Ext.refl A g w).jc (aq_ b.bn) λk f=>?_⟩;exact au_ (c.al k f) (aq_ d)
end
section
variable {P:Program}{w0:World}{rd:Bool}{n:Nat}{α:AA}{S:af}{Q Q':Exit->AA->af->Prop}{K:List f_}{l:List QI}{dr:Bool}
theorem j7.mono {c:QC}(a:∀ex α S,Q ex α S->Q' ex α S) (h:j7 P w0 rd n c Q α S):j7 P w0 rd n c Q' α S:=by
 intro c0 b d;obtain⟨ex,e,f,g,i⟩:=h c0 b d;exact⟨ex,e,f,g,a _ _ _ i⟩
theorem dS.mono (a:∀ex α S,Q ex α S->Q' ex α S):∀(K:List f_) (ex:Exit) (α:AA) (S:af),dS P w0 rd n Q K ex α S->dS P w0 rd n Q' K ex α S
 |[],ex,α,S,h=>a _ _ _ h
 |.seq b::K,ex,α,S,h=>by
  cases ex with
  |normal=>exact j7.mono (dS.mono a K) h
  |_=>exact dS.mono a K _ _ _ h
 |.yb id::K,ex,α,S,h=>by
  cases ex with
  |exit j =>
   simp only[dS]at h ⊢;cases c:Nat.beq j id with
   |true=>rw[c]at h;exact dS.mono a K _ _ _ h
   |false=>rw[c]at h;exact dS.mono a K _ _ _ h
  |_=>exact dS.mono a K _ _ _ h
 |.LG::K,ex,α,S,h=>by
  cases ex with
  |goto l=>exact h
  |_=>exact dS.mono a K _ _ _ h
theorem yc:∀(K L:List f_),dS P w0 rd n Q (K++L)=dS P w0 rd n (dS P w0 rd n Q L) K
 |[],L=>rfl
 |.seq b::K,L=>by
  rw[aR_,dS,dS,yc K L]
 |.yb id::K,L=>by
  rw[aR_,dS,dS,yc K L]
 |.LG::K,L=>by
  rw[aR_,dS,dS,yc K L]
theorem jB.mono {Q Q':AA->af->Prop}{E g:List PanicEntry->AA->af->Prop}(i:∀α S,Q α S->Q' α S) (k:∀e α S,E e α S->g e α S) (h:jB P w0 n dr l Q E α S):jB P w0 n dr l Q' g α S:=by
 intro ops rest m;have h:=h ops rest m;cases dr with
 |false=>exactλj f=>(h j f).imp (λ⟨a,b,c,d⟩=>⟨a,b,c,i _ _ d⟩) λ⟨e,a,b,c,d⟩=>⟨e,a,b,c,k _ _ _ d⟩
 |true =>
  intro j f;obtain⟨a,b,c,d⟩:=h j f;exact⟨a,b,c,i _ _ d⟩
def RW {σ:Type}(P:Program) (w0:World) (rd:Bool) (n B N:Nat) (st:σ->List (Nat × AV)) (ds:List DE) (so:σ->List (Nat × Ob)) (I:σ->Prop) (Q:Exit->AA->af->Prop) (K:List f_):Exit->AA->af->Prop :=
 λex α S=>match ex with|.normal=>∃s m,I s/\Nat.ble S.nx B=true/\Canon B N m α S (st s) ds (so s)|e=>ad P w0 rd n Q (.out e K) α S
theorem ad.amn {σ:Type}(j B N:Nat) (st:σ->List (Nat × AV)) (ds:List DE) (so:σ->List (Nat × Ob)) (I:σ->Prop) {b:QC}{c:List f_}(d:K.drop j=.seq b::c)
  (h:ad P w0 rd n (RW P w0 rd n B N st ds so I Q (.seq b::c)) (.bc dr l (K.take j)) α S) (k:∀s,I s->ad P w0 rd n Q (.run b c) (jd (st s) ds) (aq (so s) N)):ad P w0 rd n Q (.bc dr l K) α S:=by
 rw[<-dc_ j K,d];have key:∀ex α S,dS P w0 rd n (RW P w0 rd n B N st ds so I Q (.seq b::c)) (K.take j) ex α S->dS P w0 rd n Q (K.take j++.seq b::c) ex α S:=?_
 ·exact jB.mono (λα S a=>key _ _ _ a) (λi α S a=>key _ _ _ a) h
 intro ex α S a;rw[yc];refine dS.mono (λex α S a=>?_) _ _ _ _ a;cases ex with
 |normal =>
  obtain⟨s,m,e,f,g⟩:=a;exact ad.BS (Cv.canon f g) (k s e)
 |_=>exact a
theorem ad.adu {σ:Type}{B:Nat}{st:σ->List (Nat × AV)}{so:σ->List (Nat × Ob)}{I:σ->Prop}(s:σ) (m:List (Nat × Nat)) (a:I s) (b:Nat.ble S.nx B=true) (c:Canon B N m α S (st s) ds (so s)) :
  ad P w0 rd n (RW P w0 rd n B N st ds so I Q K) (.out .normal []) α S:=⟨s,m,a,b,c⟩
end
def mB:List Nat->(Nat->AV)->Nat->AV
 |[],f=>λ_=>.u
 |t::G,f=>match f t with|.u=>mB G f|a=>bE (mB G f) t a
theorem Ct:∀(G:List Nat) (f:Nat->AV) (s:Nat),mB G f s=f s\/mB G f s=.u
 |[],f,s=>.inr rfl
 |t::G,f,s=>by
  have a:=Ct G f s;have key:mB (t::G) f=mB G f\/mB (t::G) f=bE (mB G f) t (f t):=by grind[mB]
  rcases key with h|h<;>rw[h]
  ·grind
  ·grind[aJ,aO]
def nh (G:List Nat):Nat->QF->AA->af->QF × AA × af
 |0,c,α,S=>(c,α,S)
 |m+1,c,α,S=>match c with
  |.out .normal (.seq b::K)=>match α with|⟨f,d⟩=>nh G m (.run b K) ⟨mB G f,d⟩ S
  |c=>match Cu c α S with
   |some (a,e,S')=>nh G m a e S'
   |none=>(c,α,S)
section
variable {P:Program}{w0:World}{rd:Bool}{n:Nat}{Q:Exit->AA->af->Prop}
theorem Cv.prune (G:List Nat) {α:AA}{S:af}:Cv w0 n α S ⟨mB G α.tm,α.df⟩ S:=by
 intro A g a w d b;refine⟨g,d,?_,Ext.refl A g w⟩;refine⟨b.size,λt c=>?_,λt c=>?_,b.df,b.wK⟩
 ·rcases Ct G α.tm t with h|h
  ·show aN g w (mB G α.tm t) _;rw[h];exact b.tm t c
  ·show aN g w (mB G α.tm t) _;rw[h];exact .u
 ·show mB G α.tm t=.u;rcases Ct G α.tm t with h|h
  ·rw[h];exact b.out t c
  ·grind
theorem AK (G:List Nat):∀{m:Nat}{a d:QF}{α e:AA}{S S':af},nh G m a α S=(d,e,S')->ad P w0 rd n Q d e S'->ad P w0 rd n Q a α S
 |0,a,d,α,e,S,S',h,k=>by grind[nh]
 |m+1,a,d,α,e,S,S',h,k=>by
  unfold nh at h;split at h
  ·rename_i b K;cases α;exact ad.cv (c:=b) (K:=K) (Cv.prune G) (AK (m:=m) G h k)
  ·split at h
   ·rename_i g i j f;exact TX f (AK G h k)
   ·grind
theorem ad.yd (G:List Nat) (m:Nat) {a b:QF}{α c:AA}{S S':af}(h:nh G m a α S=(b,c,S')) (k:ad P w0 rd n Q b c S'):ad P w0 rd n Q a α S:=AK G h k
end
section
variable {P:Program}{w0:World}{α:AA}{S:af}
theorem ae.raw {op:BinOp}{isB:BK}{y:QO}{k c:IntKind}{a b:Int}{r:Value}(h1:x.ev α.tm=.v (.int k a)) (h2:y.ev α.tm=.v (.int c b)) (i:op ≠ .eql) (j:op ≠ .neq)
  (h:∀(t:TypeId) (w:World),(binOp op t (.int k a) (.int c b)).run P w=.ok r w):ae P w0 false (.bin op isB x y) α S (.v r) S:=by
 refine ae.run λn o l=>?_;obtain⟨t,u,v,s,m,rfl,rfl,z⟩:=wB l;rw[aW]at h1 h2;refine a8.quiet λA g q w B d=>?_;have e:=d.ev u;have f:=d.ev v;rw[h1]at e;rw[h2]at f;refine⟨_,?_,.v⟩;have p:∀(u v:Operand) (x y:Value),eqGuard op t u v x y=pure ():=by
  intro u v x y;cases op<;>first|rfl|exact absurd rfl i|exact absurd rfl j
 simp[execOp,m,b_ e,b_ f,p,h]
end
section
variable {P:Program}{w0:World}{n:Nat}{S S':af}{f:FuncId}{args:List AV}{r r':AV}{B N:Nat}{m:List (Nat × Nat)}{so:List (Nat × Ob)}
theorem aG.canon (h:aG P w0 f args S r S') (i:Nat.ble S.nx B=true) (j:kf B m N r r') (l:fO B m N S' so) (n:qD B m (so.map (·.1))=true) (b:Nat.ble B N=true):aG P w0 f args S r' (aq so N):=by
 refine⟨h.1,λF o A g a w p c q=>(h.2 F o A g a w p c q).mono ?_⟩;rintro e C ⟨v,s,rfl,t,u,x⟩;have y:Canon B N m ⟨λ_=>.u,[]⟩ S' [] [] so:=⟨trivial,rfl,l,n,b,rfl⟩;have d:=aq_ b;exact⟨v,s.jc B N (aU m),rfl,kf.rep d j t,y.st u,x.jc d λk z=>au_ (c.al k z) (aq_ i)⟩
theorem oc.amo {q:QC × List QR}(B N:Nat) (so:List (Nat × Ob)) (F:oc P f q n) (a:args.length<=n) (b:Nat.ble S.nx B=true) (c:Nat.ble B N=true)
  (h:ad P w0 false n (sj q.2 λr S'=>∃m,kf B m N r r'/\fO B m N S' so/\qD B m (so.map (·.1))=true) (.run q.1 []) ⟨nI args,[]⟩ S):aG P w0 f args S r' (aq so N):=by
 obtain⟨r,S',d,m,e,g,i⟩:=oc.LH F a h;exact d.canon b e g i c
end
end Go.Proofs.YtbpabjmnhggajaaGreat
