import Derived.ChangeArms
import Derived.OpenShut
import Derived.ProofKit
import Derived.Test.YtbdcmpknicjopaaGreatRows
import Derived.Test.YtbdcmpknicjopaaGreatTp6
namespace Go.Proofs.YtbdcmpknicjopaaGreat
set_option linter.all false
open Go.RowKit
variable{A A':Nat->Prop}{B LQ M N N' b n sz:Nat}{FJ xs:List (List AV)}{IQ so so' so1:List (Nat×Ob)}{K:List gw}{L L':Loop}{O:Hd}{OG aE dK:AA}{P:Program}{Q Q':Exit->AA->ah->Prop}{S S' Xb eh:ah}{T0:Array Value}{V m:List (Nat×Nat)}{Y w w':World}{a:Act}{aZ9:List QO}{c dr:Bool}{cs:List Value}{ds:List DE}{es:List (Value×AV)}{gs:Gh}{j pJ:Option Code}{kT:List (Nat×AV)}{kk:IntKind}{o:Op}{ps:Array Tmp}{q:nV}{r r':AV}{r0 r1:List AV}{rs:List Nat}{sp:Nat->Bool}{to:List (Nat×Option Ob)}{ι:Nat->Nat}{σ:Type}
variable{z:AV}{ex:Bool}{rows:List (List AV)}{args first x:List AV}{t:Nat}{g:Option (Nat×Bool)}{d:Option Nat}{i:QO}{U:Type}{T:ah}
def g0(w:World):Gh:=⟨λ_=>0,λ_=>0,λ_=>False,λb _=>b<w.heap.size,λ_ _=>False⟩
def b_(P:Program)(n:Nat)(t:TypeId)(sz:Nat){U:Type}(lay:U->List AV)(μ:U->Nat):Prop :=∀(b:Type)(c:TypeId×Value->b)(w:World)(sp:Nat->Bool)(held:Bool)(m:Nat),m<n->∀(cs:List Value)(d:DataW b×List MemPlace),cs.length=sz->DataW.trod c P w 0 sp held m t cs=some d ->∃x,μ x<=Rows.uptoBulk d.1/\(lay x).length=sz/\∀(j:Nat)(a:AV)(v:Value),(lay x)[j]?=some a->cs[j]?=some v->aO (g0 w) w a v
def eR{U:Type}(μ:U->Nat):List U->Nat|[]=>0|x::l=>μ x+eR μ l
theorem U7{U a:Type}{μ:U->Nat}:∀{l:List U}{ds:List (DataW a×List MemPlace)},l.length=ds.length->(∀(i:Nat)(x:U)(e:DataW a×List MemPlace),l[i]?=some x->ds[i]?=some e->μ x<=Rows.uptoBulk e.1)->eR μ l<=Rows.uptoBulkAll (ds.map (·.1))|[],ds,_,_=>aF_ _|x::l,[],h,_=>X|x::l,e::ds,h,b=>by rw[eR,aH_,Rows.uptoBulkAll];have c:=b 0 x e rfl rfl;have d:=U7 (l:=l) (ds:=ds) X λi y z f g=>b (i+1) y z X X;omega
section
variable{t:TypeId}
def b_.less{lay:U->List AV}{μ:U->Nat}{m:Nat}(h:b_ P n t sz lay μ)(c:m<=n):b_ P m t sz lay μ:=λa b w sp held k d=>h a b w sp held k Z
theorem b_.int(e:P.underlying t=some (.int .i64)):b_ P n t 1 aV λ_=>1:=by intro f g w sp held m _ cs d i h;obtain⟨z,rfl,rfl,k⟩:=DataW.trod_int e h;refine⟨z,by simp only[Rows.uptoBulk];exact ad_ _,rfl,λj a v b c=>?_⟩;cases j with|zero=>simp[aV]at b c;subst b c;exact .v|succ j=>simp[aV]at b
theorem b_.str(e:P.underlying t=some .string):b_ P n t 1 (λs:ByteArray=>[AV.v (.string s)]) λs=>s.size+1:=by intro f g w sp held m _ cs d i h;obtain⟨z,rfl,rfl,k⟩:=DataW.trod_string e h;refine⟨z,by simp only[Rows.uptoBulk];exact ad_ _,rfl,λj a v b c=>?_⟩;cases j with|zero=>simp at b c;subst b c;exact .v|succ j=>simp at b
theorem b_.bool(f:P.underlying t=some .bool):b_ P n t 1 (λb:Bool=>[AV.v (.bool b)]) λ_=>1:=by intro g i w sp held m _ cs d k h;obtain⟨z,rfl,rfl⟩:=DataW.trod_bool f h;refine⟨z,by simp only[Rows.uptoBulk];exact ad_ _,rfl,λj a v c e=>?_⟩;cases j with|zero=>simp at c e;subst c e;exact .v|succ j=>simp at c
theorem b_.slice{lay:U->List AV}{μ:U->Nat}{e:TypeId}(ht:P.underlying t=some (.slice e))(S:P.cellsOf e=sz)(E9:0<sz)(Kf:b_ P n e sz lay μ):b_ P (n+1) t 1 (λl:List U=>[aY .plain lay false l]) λl=>eR μ l+1:=by
 have A:∀l:List U,aY .plain lay false l=.sl false (l.map lay):=λl=>bF;simp only[A];intro B C w sp held m hm cs d hl h;rcases DataW.trod_slice ht h with⟨f,E⟩|⟨a,len,cap,elems,F5,k,hk,f,E,_,hlc,oy,GL,T,_⟩;subst f;refine⟨[],by rw[E];simp only[Rows.uptoBulk,eR];exact ad_ _,rfl,λj b v c f=>?_⟩;cases j with|zero=>simp at c f;subst c f;exact .nil λh=>X|succ j=>simp at c
 have u:0<len->a.spot=none:=by intro F;have G:=T 0 F;rw[S]at G;have h4:elems[0]?=some (elems[0]'Z):=aw_ Z;rw[h4]at G;let⟨y,E5,_⟩:=cK_.1 G;let⟨_,Jx,J⟩:=World.cells?_some E5;have g:=J 0 E9;have h6:y[0]?=some (y[0]'Z):=aw_ Z;rw[h6]at g;simp only[bd_,Addr.add,if_true]at g;unfold World.cell? at g;split at g;split at g;grind;rename_i o;simpa using o;grind
 have key:∀i,i<len->∃x,(∀e,elems[i]?=some e->μ x<=Rows.uptoBulk e.1)/\(lay x).length=sz/\∀(j:Nat)(b:AV),(lay x)[j]?=some b->∃v,w.cell? ⟨a.block,a.off+i*sz+j,none⟩=some v/\aO (g0 w) w b v:=by
  intro i Zc;have p:=T i Zc;rw[S]at p;have V:elems[i]?=some (elems[i]'Z):=aw_ Z;rw[V]at p;let⟨cs,sF,K⟩:=cK_.1 p;let⟨_,jl,nO⟩:=World.cells?_some sF;let⟨x,z,n0,s⟩:=Kf B C w sp held k Z cs _ jl K;refine⟨x,λe W=>X,n0,λj b c=>?_⟩;have L:j<sz:=X;have f:cs[j]?=some (cs[j]'Z):=aw_ Z;have g:=nO j L;have o:=u Z;have M:(a.add (i*sz)).add j=⟨a.block,a.off+i*sz+j,none⟩:=by obtain⟨N,off,spot⟩:=a;simp only at o;subst o;unfold Addr.add;by_cases hz:i*sz=0<;>by_cases L:j=0<;>simp[hz,L]
  rw[M,f]at g;exact⟨_,g,s j b _ c f⟩
 let⟨l,jE,dI⟩:∃l:List U,l.length=len/\∀i x,l[i]?=some x->(∀e,elems[i]?=some e->μ x<=Rows.uptoBulk e.1)/\(lay x).length=sz/\∀(j:Nat)(b:AV),(lay x)[j]?=some b->∃v,w.cell? ⟨a.block,a.off+i*sz+j,none⟩=some v/\aO (g0 w) w b v:=by refine⟨(List.range len).attach.map λi=>Classical.choose (key i.1 X),aB,λi x z=>?_⟩;simp only[aY_,bb_]at z;obtain⟨q,hq,rfl⟩:=z;have Q:q.1=i:=X;rw[<-Q];exact Classical.choose_spec (key q.1 X)
 have No:cs=[.slice (some a) len cap]:=X;subst No;refine⟨l,?_,rfl,λj b v c f=>?_⟩;rw[E];have:=U7 (μ:=μ) (l:=l) (ds:=elems) Z λi x e z W=>(dI i x z).1 e W;simp only[Rows.uptoBulk];omega;cases j with|succ j=>simp at c|zero =>simp at c f;subst c f;by_cases F:l=[];subst F;simp at jE;subst jE;exact .nil λh=>X;have o:=u X;let⟨N,off,spot⟩:=a;simp only at o;subst o;have R:len=(l.map lay).length:=X;have row:∀(i:Nat)(row:List AV),(l.map lay)[i]?=some row->row.length=sz/\∀(j:Nat)(b:AV),row[j]?=some b->∃v,w.cell? ⟨N,off+i*sz+j,none⟩=some v/\aO (g0 w) w b v:=X;rw[R];refine .sl (sz:=sz) (val:=λi j=>(w.cell? ⟨N,off+(i*sz+j),none⟩).getD undef) X (λh=>X) X (λi r s=>(row i r s).1) (λi j r b s c=>?_) λi j r b s c=>?_;let⟨v,p,V⟩:=(row i r s).2 j b c;rw[bL_]at p;exact⟨block_lt_of_cell p,X⟩;grind
theorem b_.fields{a:Type}{enc:TypeId×Value->a}{held:Bool}{fs:Array Field}(e:P.underlying t=some (.struct fs)){fuel:Nat}{d:DataW a×List MemPlace}(h:DataW.trod enc P w 0 sp held fuel t cs=some d):∃(n:Nat) (xs:List (DataW a×List MemPlace)),fuel=n+1/\xs.length=fs.size/\Rows.uptoBulk d.1=Rows.uptoBulkAll (xs.map (·.1))+1/\∀(i ty off:Nat),fs[i]?.map (λf=>(f.type,f.offset))=some (ty,off)->∃y,xs[i]?=some y/\DataW.trod enc P w 0 sp held n ty ((cs.drop off).take (P.cellsOf ty))=some y:=by let⟨xs,n,g,j,_,k,l⟩:=DataW.trod_struct e h;refine⟨n,xs,g,k,by rw[j];simp only[Rows.uptoBulk],λi ty off m=>?_⟩;let⟨f,b,c⟩:=bb_.1 m;simp only[pI_]at c;obtain⟨rfl,rfl⟩:=c;have o:i<fs.size:=(cz_.1 b).1;exact⟨xs[i]'Z,aw_ Z,(l i f b).trans (aw_ Z)⟩
theorem b_.part{b:Type}{enc:TypeId×Value->b}{held:Bool}{lay:U->List AV}{μ:U->Nat}{m ty k off i:Nat}{xs:List (DataW b×List MemPlace)}(c:b_ P n ty k lay μ)(d:m<n)(e:P.cellsOf ty=k)(q:off+k<=cs.length)(h:∃y,xs[i]?=some y/\DataW.trod enc P w 0 sp held m ty ((cs.drop off).take (P.cellsOf ty))=some y):∃x,μ x<=(xs[i]?.map λy=>Rows.uptoBulk y.1).getD 0/\(lay x).length=k/\∀(j:Nat)(a:AV)(v:Value),(lay x)[j]?=some a->cs[off+j]?=some v->aO (g0 w) w a v:=by let⟨y,r,h⟩:=h;rw[e]at h;let⟨x,s,f,g⟩:=c b enc w sp held m d _ y X h;refine⟨x,X,f,λj a v l o=>g j a v l ?_⟩;have p:j<k:=X;rw[bK_,if_pos p,cL_];exact o
def nU{a:Type}(xs:List (DataW a×List MemPlace)):Nat->Nat|0=>0|k+1=>nU xs k+(xs[k]?.map λy=>Rows.uptoBulk y.1).getD 0
theorem Ld{a:Type}{y:DataW a×List MemPlace}{xs:List (DataW a×List MemPlace)}:∀k,nU (y::xs) (k+1)=Rows.uptoBulk y.1+nU xs k|0=>by simp[nU]|k+1=>by rw[nU,Ld k,nU];simp only[cO_];omega
theorem lK{a:Type}:∀{xs:List (DataW a×List MemPlace)},nU xs xs.length=Rows.uptoBulkAll (xs.map (·.1))|[]=>rfl|y::xs=>by rw[aC_,Ld,lK,aH_,Rows.uptoBulkAll]
end
structure Ha(z:Nat)(A:Nat->Prop)(g:Gh)(S:ah)(w:World):Prop where
 up:∀b,w.heap.size<=b->A b
 lo:∀b,A b->z<=b
 al:∀k,g.al k->k<S.nx
 cX:∀k o,S.get k=some o->g.al k->A (g.ob k)/\g.ob k<w.heap.size/\fj g w (g.ob k) (g.cp k) o
 inj:∀j k o p,S.get j=some o->S.get k=some p->g.al j->g.al k->g.ob j=g.ob k->j=k
 dL:∀b o,g.fz b o->b<w.heap.size
 tW:∀b o,b<z->g.fz b o
 lS:∀k J,S.get k=some (.fo J)->g.al k->∀c,g.fo (g.ob k) c->A c/\c<w.heap.size
 oM:∀k J j o,S.get k=some (.fo J)->g.al k->S.get j=some o->g.al j->j≠k->¬g.fo (g.ob k) (g.ob j)qS:∀j k J J',S.get j=some (.fo J)->S.get k=some (.fo J')->g.al j->g.al k->j=k
def Gh.Sw(g:Gh)(a:Nat->Nat->Prop):Gh:=⟨g.ob,g.cp,g.al,a,g.fo⟩
section
variable{z:Nat}{g:Gh}
theorem St.free(h:St Y A g S w):Ha Y.heap.size A g S w:=⟨h.up,h.lo,h.al,h.cX,h.inj,h.dL,h.tW,h.lS,h.oM,h.qS⟩
theorem Ha.st(h:Ha Y.heap.size A g S w)(a:Below Y.heap.size Y w):St Y A g S w:=⟨a,h.up,h.lo,h.al,h.cX,h.inj,h.dL,h.tW,h.lS,h.oM,h.qS⟩
theorem Ha.move(h:Ha z A g S w)(a:Nat->Nat->Prop)(hs:w.heap.size<=w'.heap.size)(up:∀b,w'.heap.size<=b->A' b)(lo:∀b,A' b->z<=b)(l:∀c,A c->c<w.heap.size->((∃k o,S.get k=some o/\g.al k/\c=g.ob k)\/∃k J,S.get k=some (.fo J)/\g.al k/\g.fo (g.ob k) c)->A' c/\w'.heap[c]?=w.heap[c]?/\∀q,a c q->g.fz c q)(d:∀b q,g.fz b q->w'.cell? ⟨b,q,none⟩=w.cell? ⟨b,q,none⟩)(n:∀b q,g.fz b q->a b q)(m:∀b q,a b q->b<w'.heap.size):Later g w (g.Sw a) w'/\Ha z A' (g.Sw a) S w':=by have p:Later g w (g.Sw a) w':=⟨λ_ h=>h,λ_ _=>rfl,λ_ _=>rfl,n,d⟩;refine⟨p,up,lo,h.al,λk o e f=>?_,h.inj,m,λb q t=>n b q (h.tW b q t),λk J e f c d=>?_,h.oM,h.qS⟩;let⟨u,r,v⟩:=h.cX k o e f;let⟨x,y,B⟩:=l _ u r (.inl ⟨k,o,e,f,rfl⟩);refine⟨x,aE_ r hs,v.later p y B λJ s=>⟨rfl,hs,λc d=>?_,λc q d C=>?_⟩⟩;subst s;let⟨j,i⟩:=h.lS k J e f c d;exact(l c j i (.inr ⟨k,J,e,f,d⟩)).2.1;subst s;let⟨j,i⟩:=h.lS k J e f c d;exact(l c j i (.inr ⟨k,J,e,f,d⟩)).2.2 q C;let⟨j,i⟩:=h.lS k J e f c d;exact⟨(l c j i (.inr ⟨k,J,e,f,d⟩)).1,aE_ i hs⟩
theorem Ha.inA(h:Ha z A g S w){c:Nat}(d:(∃k o,S.get k=some o/\g.al k/\c=g.ob k)\/∃k J,S.get k=some (.fo J)/\g.al k/\g.fo (g.ob k) c):A c/\c<w.heap.size:=by rcases d with⟨k,o,a,b,rfl⟩|⟨k,J,a,b,e⟩;exact⟨(h.cX k o a b).1,(h.cX k o a b).2.1⟩;exact h.lS k J a b c e
end
structure zx9(gs gb:Gh):Prop where
 al:∀k,gs.al k->gb.al k
 ob:∀k,gs.al k->gb.ob k=gs.ob k
 cp:∀k,gs.al k->gb.cp k=gs.cp k
 fz:∀b q,gs.fz b q->gb.fz b q
def LJ(z:Nat)(A:Nat->Prop)(gs:Gh)(n:Nat)(T0:Array Value)(st:LoopState)(pJ:Option Code)(ps:Array Tmp)(assign body:Code)(f0:Nat->AV)(S:ah):Nat->(Nat->Nat->Prop)->(Nat->Prop)->World->Prop :=λb a B w=>∃(d:Gh) (L:Loop),Ha z (λc=>B c/\c≠b\/w.heap.size<=c) d S w/\B b/\(∀c,B c->A c/\c<w.heap.size) /\(w.heap[b]?=some (.loop L)/\L.state=st/\L.pending=pJ/\L.params=ps/\L.assign=assign/\L.body=body/\L.tmps=T0)/\cN d w n ⟨f0,[]⟩ {tmps:=T0,defers:=[] }/\(∀c q,d.fz c q->a c q\/B c)/\(∀c q,B c->a c q->d.fz c q)/\zx9 gs d/\∀c,w.heap.size<=c->A c
section
variable{z:Nat}{st:LoopState}{assign body:Code}{f0:Nat->AV}
theorem LJ.ok:Vo (LJ z A gs n T0 st pJ ps assign body f0 S):=by rintro b u K B w w'⟨i,L,j,o,p,r,v,s,x,y,C⟩E k l F e;have a:∀c q,i.fz c q->w'.cell? ⟨c,q,none⟩=w.cell? ⟨c,q,none⟩:=λc q d=>(s c q d).elim (F c q) λg=>World.cell?_of_block (l c g);have f:∀c,B c/\c≠b\/w.heap.size<=c->c<w.heap.size->B c/\c≠b:=λc a m=>a.resolve_right Z;let⟨G,J⟩:=j.move (w':=w') (A':=λc=>B c/\c≠b\/w'.heap.size<=c) i.fz e (λc a=>.inr a) (λc a=>j.lo c (a.imp id λh=>aA_ e h)) (λc t m _=>⟨.inl (f c t m),l c (f c t m).1,λ_ h=>h⟩) a (λ_ _ h=>h) λc q d=>aE_ (j.dL c q d) e;exact⟨i,L,J,o,λc a=>⟨(p c a).1,aE_ (p c a).2 e⟩,⟨(l b o).trans r.1,r.2⟩,v.later G,λc q d=>(s c q d).imp (E c q) id,λc q g d=>x c q g (k c q g d),y,λc a=>C c (aA_ e a)⟩
end
def Ek(f:Nat->AV):List (Nat×AV)->Nat->AV|[]=>f|p::l=>Ek (bJ f p.1 p.2) l
section
variable{assign body:Code}{f0:Nat->AV}{ex:Exit}{x:List AV}
theorem Sx{g:Gh}{w:World}:∀{l:List (Nat×AV)}{ys:List (Nat×Value)}{f:Nat->AV}{T:Array Value},cN g w n ⟨f,[]⟩ {tmps:=T,defers:=[] }->l.map (·.1)=ys.map (·.1)->(∀p∈l,p.1<n) ->(∀(i:Nat)(p:Nat×AV)(y:Nat×Value),l[i]?=some p->ys[i]?=some y->aO g w p.2 y.2)->cN g w n ⟨Ek f l,[]⟩ {tmps:=ys.foldl (λT (t,a)=>T.setIfInBounds t a) T,defers:=[] }|[],[],f,T,h,_,_,_=>h|p::l,y::ys,f,T,h,b,c,d=>by simp only[aH_,List.cons.injEq]at b;have j:cN g w n ⟨bJ f p.1 p.2,[]⟩ {tmps:=T.setIfInBounds p.1 y.2,defers:=[] }:=h.put (c p aB) (d 0 p y rfl rfl);have e:cN g w n ⟨bJ f p.1 p.2,[]⟩ {tmps:=T.setIfInBounds y.1 y.2,defers:=[] }:=X;rw[Ek,dk_];exact Sx e b.2 (λq k=>c q X) λi q v m o=>d (i+1) q v X X|[],y::ys,f,T,h,b,_,_=>X|p::l,[],f,T,h,b,_,_=>X
def Le:Exit->Option (Option Code)|.normal=>some none|.ret=>some (some .ret)|.exit id=>some (some (.exit id))|_=>none
def sQ(j:Option Code):LoopState:=match j with|none=>.ready|some _=>.done
theorem run_getLoop(h:w.heap[b]?=some (.loop L)):(Instr.getLoop b).run P w=.ok L w:=by simp[Instr.getLoop,getObj,Sem.run,h]
def World.rec(w:World)(b:Nat)(L:Loop):World:={w with heap:=w.heap.setIfInBounds b (.loop L) }
theorem oD:(World.rec w b L).heap.size=w.heap.size:=by simp[World.rec]
theorem mX{c:Nat}(h:c≠b):(World.rec w b L).heap[c]?=w.heap[c]?:=by grind[World.rec]
theorem JL(h:b<w.heap.size):(World.rec w b L).heap[b]?=some (.loop L):=by grind[World.rec]
theorem JM(h:w.heap[b]?=some (.loop L'))(c q:Nat):(World.rec w b L).cell? ⟨c,q,none⟩=w.cell? ⟨c,q,none⟩:=by by_cases e:c=b;subst e;have a:c<w.heap.size:=X;simp[World.cell?,JL a,h];exact World.cell?_of_block (mX e)
theorem El(h:w.heap[b]?=some (.loop L')):(setObj b (.loop L)).run P w=.ok () (World.rec w b L):=by simp[setObj,Sem.run,h,World.rec]
def Ext.mono{A':Nat->Prop}{g g':Gh}{w':World}(h:Ext A g w g' w')(hs:∀b,A b->A' b):Ext A' g w g' w' :={h.toLater with size:=h.size,aQ:=λb a c=>h.aQ b a λh=>c (hs b h),lI:=λb q d=>(h.lI b q d).imp id (hs b) }
theorem St.al6{g:Gh}(h:St Y A g S w)(d:w.heap[b]?=some (.loop L'))(f:¬A b)(h0:Y.heap.size<=b):Later g w g (World.rec w b L)/\St Y A g S (World.rec w b L):=by let⟨i,j⟩:=h.free.move (w':=World.rec w b L) (A':=A) g.fz (by grind[oD]) (λc a=>h.up c (by grind[oD])) h.lo (λc a _ _=>⟨a,mX λe=>f X,λ_ h=>h⟩) (λc q _=>JM d c q) (λ_ _ h=>h) (λc q l=>by rw[oD];exact h.dL c q l);exact⟨i,j.st ⟨h.base.os,h.base.tape,h.base.output,by grind[oD],λk m=>(mX Z).trans (h.base.block k m)⟩⟩
theorem Er.rnd(ha:ep P Y true n assign ⟨Ek f0 (ps.toList.zip x),[]⟩ S .normal dK eh)(hb:ep P Y true n body dK eh ex OG Xb)(hC:Canon B N m OG Xb [] [] so)(hj:Le ex=some j)(hx:x.length=ps.size)(hp:∀a∈x,Pure a)(Nh:∀t∈ps,t<n)(Zf:∀t,eC B (f0 t)){gs:Gh}(hB:∀k,gs.al k->k<B){k:Nat}(hT:T.get k=some (.fo (LJ Y.heap.size A gs n T0 .ready none ps assign body f0 S))):Er P Y k x T (.v (.bool j.isNone)) (T.set k (some (.fo (LJ Y.heap.size A gs n T0 (sQ j) j ps assign body f0 (aw so N))))):=by
 intro F mm A2 g E w hF s aR Q;let⟨k2,k3,⟨gb,L,h1,h2,h3,⟨hL1,hL2,hL3,hL4,hL5,hL6,hL7⟩,h5,h6,h7,h8,h9⟩,_⟩:=s.cX k _ hT aR;let⟨b,V⟩:∃b,g.ob k=b:=⟨_,rfl⟩;rw[V]at k2 k3 h1 h2 h3 hL1 h6 h7;let⟨Bf,hBf⟩:∃Bf,g.fo b=Bf:=⟨_,rfl⟩;rw[hBf]at h1 h2 h3 h6 h7;have Zn:Y.heap.size<=b:=s.lo b k2;have au:b<w.heap.size:=k3;have al9:∀c,Bf c->A2 c/\c<w.heap.size:=λc f=>s.lS k _ hT aR c X;let⟨u,hZ⟩:∃u:Nat->Nat->Prop,u=λc q=>gb.fz c q\/g.fz c q:=⟨_,rfl⟩;let⟨R,U8⟩:∃R:Nat->Prop,R=λc=>Bf c/\c≠b\/w.heap.size<=c:=⟨_,rfl⟩;rw[<-U8]at h1;have auv:∀c,R c->c<w.heap.size->Bf c/\c≠b:=λc f au=>X;have tf:¬R b:=X;let⟨m1,m2⟩:=h1.move (w':=w) (A':=R) u (ad_ _) h1.up h1.lo (λc f au _=>⟨f,rfl,λq C=>X⟩) (λ_ _ _=>rfl) (λ_ _ h=>X) (λc q C=>by rw[hZ]at C;exact C.elim (h1.dL c q) (s.dL c q));have dF:=m2.st s.base;have axQ:(gb.Sw u).fz=u:=rfl;have yh:cN (gb.Sw u) w n ⟨Ek f0 (ps.toList.zip x),[]⟩ {tmps:=(ps.toList.zip E.toList).foldl (λT (t,a)=>T.setIfInBounds t a) T0,defers:=[] }:=by
  refine Sx (h5.later m1) ?_ (λp hp=>Nh _ (by simpa using(cA_ hp).1)) λi p y hp' hy=>?_;have e1:E.toList.length=x.length:=by rw[bo_];exact Q.1
  rw[List.map_fst_zip X,List.map_fst_zip X];rw[cB_]at hp' hy;have hr:=Q.2 i p.2 y.2 hp'.2 X;exact aO.pure (g:=g) (λc q C=>X) (λ_ _ _=>rfl) hr (hp _ (as_ hp'.2))
 have cF:E.size=L.params.size:=by rw[Q.1,hx,hL4]
 refine⟨b,L.fn,(ps.toList.zip E.toList).foldl (λT (t,a)=>T.setIfInBounds t a) T0,assign,body,?_,?_⟩;rw[V];simp only[Instr.yield,Sem.run_bind,run_getLoop hL1,Result.andThen_ok,cF,ne_eq,not_true_eq_false,if_false,Sem.run_pure,hL5,hL6,hL7,hL4];congr 3;rw[<-dl_,Array.toList_zip];have hF':ml (F.inRound b):=hF.inRound b;have Ij:(F.inRound b).round.isSome=true:=rfl;refine roundIn_of_wpIn (hF.1 _) ?_;refine wpIn_mono (ha (F.inRound b) mm R _ _ w hF' Ij dF yh) ?_;rintro e1 a1 w1⟨rfl,g1,s1,r1,x1⟩;have bS:w1.heap[b]?=some (.loop L):=(x1.aQ b au tf).trans hL1;have adf:b<w1.heap.size:=aE_ au x1.size;refine⟨World.rec w1 b {L with state:=.busy },?_,?_⟩;simp only[Instr.beginRound,Sem.run_bind,run_getLoop bS,Result.andThen_ok,El bS,hL2,Sem.run_pure];let⟨y1,y2⟩:=s1.al6 (L:={L with state:=.busy }) bS tf Zn;refine wpIn_mono (hb (F.inRound b) mm R g1 a1 _ hF' Ij y2 (r1.later y1)) ?_;rintro e2 a2 w2⟨rfl,g2,s2,r2,x2⟩;have bY:w2.heap[b]?=some (.loop {L with state:=.busy }):=(x2.aQ b (by grind[oD]) tf).trans (JL adf);have Sy:w.heap.size<=w2.heap.size:=aA_ x1.size (by have:=x2.size;rw[oD]at this;exact this);let⟨z,hw3⟩:∃z,World.rec w2 b {L with state:=sQ j,pending:=j }=z:=⟨_,rfl⟩;let⟨u1,u2⟩:=s2.al6 (L:={L with state:=sQ j,pending:=j }) bY tf Zn;rw[hw3]at u1 u2;have axR:z.heap.size=w2.heap.size:=by grind[oD]
 have qH:(Instr.endRound b j).run P w2=.ok (.bool j.isNone) z:=by rw[<-hw3];cases j<;>simp only[Instr.endRound,Sem.run_bind,run_getLoop bY,Result.andThen_ok,Sem.run_pure,El bY]<;>rfl
 have post:∃v K,Ending.returned (.bool j.isNone)=.returned v/\aO K z (.v (.bool j.isNone)) v/\St Y A2 K (T.set k (some (.fo (LJ Y.heap.size A gs n T0 (sQ j) j ps assign body f0 (aw so N))))) z/\Ext A2 g w K z:=by
  have nO:∀c q,g.fz c q->z.cell? ⟨c,q,none⟩=w.cell? ⟨c,q,none⟩:=λc q C=>by have hZq:(gb.Sw u).fz c q:=X;rw[u1.cell c q (x2.fz c q (y1.fz c q (x1.fz c q hZq))),x2.cell c q (y1.fz c q (x1.fz c q hZq)),y1.cell c q (x1.fz c q hZq),x1.cell c q hZq]
  have afx:∀c,c<w.heap.size->¬R c->c≠b->z.heap[c]?=w.heap[c]?:=λc f Q dh=>by rw[<-hw3,mX dh,x2.aQ c (by rw[oD];exact aE_ f x1.size) Q,mX dh,x1.aQ c f Q]
  let⟨B',hB'⟩:∃B':Nat->Prop,B'=λc=>Bf c\/w.heap.size<=c/\c<z.heap.size:=⟨_,rfl⟩;let⟨K,nZ⟩:∃K:Gh,K=⟨g.ob,g.cp,g.al,g.fz,λd c=>d=b/\B' c\/d≠b/\g.fo d c⟩:=⟨_,rfl⟩;have adg:K.fo b=B':=by rw[nZ];funext c;exact propext ⟨λh=>h.elim (·.2) λh=>absurd rfl h.1,λh=>.inl ⟨rfl,h⟩⟩
  have axA:∀d,d≠b->K.fo d=g.fo d:=λd hd=>by rw[nZ];funext c;exact propext ⟨λh=>h.elim (λh=>absurd h.1 hd) (·.2),λh=>.inr ⟨hd,h⟩⟩
  have hL':Later g w K z:=by rw[nZ];exact⟨λ_ h=>h,λ_ _=>rfl,λ_ _=>rfl,λ_ _ h=>h,nO⟩
  have hE':Ext A2 g w K z:={hL' with
   size:=X
   aQ:=λc f Q=>afx c f (λh=>Q (al9 c (auv c h f).1).1) λe=>Q X
   lI:=λc q C=>by rw[nZ]at C;exact .inl C };have sub:∀c,R c->c<z.heap.size->B' c/\c≠b:=λc f sL=>X;have tL:LJ Y.heap.size A gs n T0 (sQ j) j ps assign body f0 (aw so N) b K.fz (K.fo b) z/\Vo (LJ Y.heap.size A gs n T0 (sQ j) j ps assign body f0 (aw so N)):=by refine⟨?_,LJ.ok⟩;rw[adg];have zF:=hC.st u2;have hBN:=ay_ hC.bn;let⟨v1,v2⟩:=zF.free.move (w':=z) (A':=λc=>B' c/\c≠b\/z.heap.size<=c) (g2.kh B N (aW m)).fz (ad_ _) (λc f=>.inr f) λc f=>by rcases f with f|f;rw[hB']at f;rcases f.1 with h|h;exact s.lo c (al9 c h).1;grind;have h1:=s.base.size;omega (λc f au _=>⟨.inl (sub c f au),rfl,λ_ h=>h⟩) (λ_ _ _=>rfl) (λ_ _ h=>h) λc q C=>zF.dL c q C;have qN:Ext (λc=>R c\/c=b) (gb.Sw u) w g2 z:=((x1.mono λ_ h=>.inl h).trans (g2:=g1) {y1 with size:=by grind[oD],aQ:=λc _ Q=>mX λe=>Q (.inr e),lI:=λ_ _ h=>.inl h }).trans ((x2.mono λ_ h=>.inl h).trans {u1 with size:=X,aQ:=λc _ Q=>by grind[mX],lI:=λ_ _ h=>.inl h });have sN:∀c,R c\/c=b->c<z.heap.size->B' c:=λc f sL=>f.elim (λh=>(sub c h sL).1) λe=>X;refine⟨g2.kh B N (aW m),{L with state:=sQ j,pending:=j },v2,X,λc f=>?_,⟨by grind[JL],rfl,rfl,hL4,hL5,hL6,hL7⟩,?_,λc q C=>?_,λc q f C=>?_,?_,λc f=>h9 c Z⟩;grind;have h5':=(h5.later m1).later qN.toLater;exact⟨h5'.size,λt ht=>(h5'.tm t ht).kh hBN (Zf t),h5'.out,rfl,λk M=>X⟩;have Fl:g2.fz c q:=C;have sL:=u2.dL c q Fl;rw[nZ];rcases qN.lI c q Fl with h|h;grind;grind;rw[nZ]at C;have:u c q:=X;exact qN.fz c q this;have e0:∀k,gs.al k->eZ B (aW m) k=k:=λk M=>sm (hB k M);refine⟨λk M=>⟨X,?_⟩,λk M=>?_,λk M=>?_,λc q C=>qN.fz c q (by show u c q;rw[hZ];exact .inl (h8.fz c q C))⟩;rw[e0 k M];exact qN.al k (h8.al k M);show g2.ob (eZ B (aW m) k)=gs.ob k;rw[e0 k M,qN.ob k (h8.al k M)];exact h8.ob k M;show g2.cp (eZ B (aW m) k)=gs.cp k;rw[e0 k M,qN.cp k (h8.al k M)];exact h8.cp k M
  have key:∀l r,(T.set k (some (.fo (LJ Y.heap.size A gs n T0 (sQ j) j ps assign body f0 (aw so N))))).get l=some r->l=k/\r=.fo (LJ Y.heap.size A gs n T0 (sQ j) j ps assign body f0 (aw so N))\/l≠k/\T.get l=some r:=by intro l r hl;have hl:bJ T.get k (some (.fo (LJ Y.heap.size A gs n T0 (sQ j) j ps assign body f0 (aw so N)))) l=some r:=hl;by_cases e:l=k;grind[aG];grind[aN]
  have adh:∀l r,(T.set k (some (.fo (LJ Y.heap.size A gs n T0 (sQ j) j ps assign body f0 (aw so N))))).get l=some r->∃r',T.get l=some r':=λl r hl=>(key l r hl).elim (λe=>⟨.fo (LJ Y.heap.size A gs n T0 .ready none ps assign body f0 S),e.1.symm ▸ hT⟩) λe=>⟨r,e.2⟩;have Sz:∀i,K.ob i=g.ob i:=λi=>by rw[nZ]
  have W:∀i,K.al i=g.al i:=λi=>by rw[nZ]
  have Qx:K.fz=g.fz:=X;refine⟨_,K,rfl,.v,⟨u2.base,λc f=>s.up c Z,s.lo,λi G=>s.al i X,λi o G pI=>?_,λi l o p G hl ai al e=>?_,λc q C=>by rw[Qx]at C;have:=s.dL c q C;omega,λc q f=>by rw[Qx];exact s.tW c q f,λi J G pI c f=>?_,λi J l o G pI hl xH dh f=>?_,λi l J J' G hl ai al=>?_⟩,hE'⟩;rw[W]at pI;rcases key i o G with⟨rfl,rfl⟩|⟨dh,G⟩;rw[Sz,V];exact⟨k2,Z,tL⟩;let⟨q1,q2,q3⟩:=s.cX i o G pI;have hib:g.ob i≠b:=λe=>dh (s.inj i k o _ G hT pI aR X);have hnA:¬R (g.ob i):=λh=>s.oM k _ i o hT aR G pI dh X;have AD:K.cp i=g.cp i:=by rw[nZ]
  rw[Sz,AD];refine⟨q1,Z,q3.later hL' (afx _ q2 hnA hib) (λq C=>X) λJ hJ=>?_⟩;subst hJ;exact absurd (s.qS i k J _ G hT pI aR) dh;rw[W]at ai al;rw[Sz,Sz]at e;let⟨_,lW⟩:=adh i o G;let⟨_,oQ⟩:=adh l p hl;exact s.inj i l _ _ lW oQ ai al e;rw[W]at pI;rcases key i _ G with⟨rfl,_⟩|⟨dh,G⟩;rw[Sz,V,adg,hB']at f;rcases f with f|f;grind;exact⟨s.up c f.1,f.2⟩;exact absurd (s.qS i k J _ G hT pI aR) dh;rw[W]at pI xH;rcases key i _ G with⟨rfl,_⟩|⟨auw,G⟩;rw[Sz,V,adg,hB',Sz]at f;let⟨_,oQ⟩:=adh l o hl;rcases f with f|f;exact s.oM i _ l _ hT aR oQ xH dh X;have:=(s.cX l _ oQ xH).2.1;omega;exact absurd (s.qS i k J _ G hT pI aR) auw;rw[W]at ai al;have to:∀x J,(T.set k (some (.fo (LJ Y.heap.size A gs n T0 (sQ j) j ps assign body f0 (aw so N))))).get x=some (.fo J)->g.al x->x=k:=λx J hx ax=>(key x _ hx).elim (·.1) λe=>s.qS x k J _ e.2 hT ax aR;rw[to i J G ai,to l J' hl al]
 cases e2 with|normal=>cases oJ_ hj;exact⟨_,z,qH,post⟩|ret=>cases oJ_ hj;exact⟨_,z,qH,post⟩|exit id=>cases oJ_ hj;exact⟨_,z,qH,post⟩|_=>cases hj
theorem FM{g:Gh}{f:Fn}{l m:List AV}{v:Value}(h:aO g w (.fn f l m) v):∃cs ds,v=.func f cs ds/\nC g w l cs/\nC g w m ds:=by cases h with|fn a b c d=>exact⟨_,_,rfl,⟨a,c⟩,⟨b,d⟩⟩
theorem tV{J:Nat->(Nat->Nat->Prop)->(Nat->Prop)->World->Prop}{k:Nat}{o:Ob}(h:(aw [(0,.fo J)] 1).get k=some o):k=0/\o=.fo J:=by have h:fH [(0,.fo J)] k=some o:=h;have:=fT h;simp only[ar_,pI_]at this;exact this
structure RIn(P:Program)(Y:World)(n:Nat)(A:Nat->Prop)(g0:Gh)(U:AA)(S:ah)(a:Act)(w:World)(B:Nat)(fn:FuncId)(ps:Array Tmp)(assign body:Code)(f0:Nat->AV)(T:ah)(gs gi:Gh)(w1 w2:World)(b:Nat)(a1:Act):Prop where
 dZ:{a with defers:=[{target:=.collected w.heap.size,args:=#[] }]++a.defers }=a1
 qN:Ext A g0 w gs w1
 Bc:∀k,gs.al k->k<B
 Cy:cN gs w1 n ⟨U.tm,S.nx::U.df⟩ a1
 hb:w1.heap.size=b
 Sy:w2.heap.size=b+1hold:∀c,c<b->w2.heap[c]?=w1.heap[c]?FG:(Instr.enterLoop fn a.tmps ps assign body none).run P w=.ok (b,[{target:=.collected w.heap.size,args:=#[] }]) w2
 U8:A b
 lo:∀c,A c->Y.heap.size<=c
 hSi:St Y A gi (aw [(0,.fo (LJ Y.heap.size A gs n a.tmps .ready none ps assign body f0 T))] 1) w2
 ob:gi.ob 0=b
 al:gi.al 0fz1:∀c q,gs.fz c q->gi.fz c q
 fz2:∀c q,gi.fz c q->gs.fz c q\/A c
 au:∀c q,gs.fz c q->c<w1.heap.size
theorem RIn.of{U:AA}{g0:Gh}(hS:St Y A g0 S w)(hA:cN g0 w n U a)(hC:Canon B N m ⟨U.tm,S.nx::U.df⟩ (S.new .df) kT (S.nx::U.df) IQ)(hB:S.nx+1<=B)(fn:FuncId):∃gs t s f b E,RIn P Y n A g0 U S a w B fn ps assign body (jn kT []).tm (aw IQ N) gs t s f b E:=by
 let⟨W,T⟩:=hS.new (.deferred (some [])) .df 0 (λJ=>aB) λhL=>eg;let⟨gs,v⟩:∃gs,g0.new S.nx w.heap.size 0=gs:=⟨_,rfl⟩;let⟨s,Io⟩:∃s,w.alloc (.deferred (some []))=s:=⟨_,rfl⟩;rw[v,Io]at W T;have lU:gs.ob S.nx=w.heap.size:=by rw[<-v];exact aG _ _ _
 have aR:gs.al S.nx:=by rw[<-v];exact .inr rfl
 have Bc:∀k,gs.al k->k<B:=λk d=>by have:=T.al k d;have:k<S.nx+1:=this;omega
 have Cy:cN gs s n ⟨U.tm,S.nx::U.df⟩ {a with defers:=({target:=.collected w.heap.size,args:=#[] }:Deferred)::a.defers }:=by have h:=hA.later W.toLater;refine⟨h.size,h.tm,h.out,?_,λk d=>?_⟩;show _=({target:=.collected (gs.ob S.nx),args:=#[] }:Deferred)::_;rw[lU,<-h.df];rcases al_.1 d with rfl|d;exact aR;exact h.yb k d
 let⟨E,dZ⟩:∃E:Act,{a with defers:=({target:=.collected w.heap.size,args:=#[] }:Deferred)::a.defers }=E:=⟨_,rfl⟩;rw[dZ]at Cy;have hBN:=ay_ hC.bn;have l:=hC.st T;have F:=hC.W_ Cy;let⟨gc,G⟩:∃gc,gs.kh B N (aW m)=gc:=⟨_,rfl⟩;have C:Ext A gs s gc s:=by rw[<-G];exact(Ext.refl A gs s).kh hBN Bc
 rw[G]at l F;let⟨L,hLd⟩:∃L:Loop,{state:=.ready,pending:=none,fn,tmps:=a.tmps,params:=ps,assign,body,defers:=w.heap.size }=L:=⟨_,rfl⟩;let⟨f,V⟩:∃f,s.alloc (.loop L)=f:=⟨_,rfl⟩;let⟨b,hb⟩:∃b,s.heap.size=b:=⟨_,rfl⟩;have Sy:f.heap.size=b+1:=by grind[size_alloc]
 have hold:∀c,c<b->f.heap[c]?=s.heap[c]?:=λc g=>by grind[jW]
 have AE:f.heap[b]?=some (.loop L):=by grind[eg]
 have FG:(Instr.enterLoop fn a.tmps ps assign body none).run P w=.ok (b,[{target:=.collected w.heap.size,args:=#[] }]) f:=by rw[<-V,<-Io,<-hb,<-Io,<-hLd];simp only[Instr.enterLoop,newObj,Sem.run_bind,Sem.run,Result.andThen_ok,Sem.run_pure];rfl
 let⟨x,r⟩:=l.free.move (w':=f) (A':=A) gc.fz Z (λc g=>l.up c Z) l.lo (λc g au _=>⟨g,hold c Z,λ_ h=>h⟩) (λc q j=>World.cell?_of_block (hold c (by rw[<-hb];exact l.dL c q j))) (λ_ _ h=>h) (λc q j=>by have:=l.dL c q j;omega);have r:Ha Y.heap.size A gc (aw IQ N) f:=r;have x:Later gc s gc f:=x;have amg:Below Y.heap.size Y f:=by refine⟨?_,?_,?_,by have:=l.base.size;omega,λk d=>(hold k (by have:=l.base.size;omega)).trans (l.base.block k d)⟩;rw[<-V];exact l.base.os;rw[<-V];exact l.base.tape;rw[<-V];exact l.base.output
 have U8:A b:=l.up b Z;let⟨u,hBf⟩:∃u:Nat->Prop,u=λc=>c=b\/(∃k o,(aw IQ N).get k=some o/\gc.al k/\c=gc.ob k)\/∃k J,(aw IQ N).get k=some (.fo J)/\gc.al k/\gc.fo (gc.ob k) c:=⟨_,rfl⟩;have y:∀c,u c->A c/\c<f.heap.size:=λc g=>by rw[hBf]at g;rcases g with rfl|g;grind;exact r.inA g
 have auy:u b:=X;have hLJ:LJ Y.heap.size A gs n a.tmps .ready none ps assign body (jn kT []).tm (aw IQ N) b gc.fz u f:=by let⟨v1,v2⟩:=r.move (w':=f) (A':=λc=>u c/\c≠b\/f.heap.size<=c) gc.fz (ad_ _) (λc g=>.inr g) (λc g=>g.elim (λh=>r.lo c (y c h.1).1) λh=>r.lo c (r.up c h)) (λc g au h=>⟨.inl ⟨X,λe=>by have:=l.free.inA h;omega⟩,rfl,λ_ h=>h⟩) (λ_ _ _=>rfl) (λ_ _ h=>h) r.dL;refine⟨gc,L,v2,auy,y,⟨AE,X,X,X,X,X,X⟩,?_,λc q j=>.inl j,λc q _ j=>j,⟨C.al,C.ob,C.cp,C.fz⟩,λc g=>r.up c g⟩;have h:=F.later x;have h1:=h.size;have h2:=h.tm;rw[<-dZ]at h1 h2;exact⟨h1,h2,h.out,rfl,λk d=>X⟩
 let⟨t,z⟩:∃t:Gh,t=⟨λ_=>b,λ_=>0,λk=>k=0,gc.fz,λ_=>u⟩:=⟨_,rfl⟩;let⟨K,M⟩:∃K,LJ Y.heap.size A gs n a.tmps .ready none ps assign body (jn kT []).tm (aw IQ N)=K:=⟨_,rfl⟩;have Q:St Y A t (aw [(0,.fo K)] 1) f:=by
  have e1:∀k,t.ob k=b:=λk=>by rw[z]
  have e2:∀k,t.fo k=u:=λk=>by rw[z]
  have e3:t.fz=gc.fz:=X;have e4:∀k,t.al k->k=0:=λk d=>by rw[z]at d;exact d
  refine⟨amg,r.up,r.lo,λk d=>by rw[e4 k d];exact Nat.one_pos,λk o d ha=>?_,λi k o p R d _ _ _=>(tV R).1.trans (tV d).1.symm,λc q j=>r.dL c q X,λc q g=>by rw[e3];exact r.tW c q g,λk J d ha c g=>y c X,λk J i o d _ R _ dh=>absurd ((tV R).1.trans (tV d).1.symm) dh,λi k J J' R d _ _=>(tV R).1.trans (tV d).1.symm⟩;obtain⟨rfl,rfl⟩:=tV d;rw[e1];refine⟨U8,Z,?_⟩;show K b t.fz (t.fo b) f/\Vo K;rw[e2,e3,<-M];exact⟨hLJ,LJ.ok⟩
 rw[<-M]at Q;exact⟨gs,t,s,f,b,E,dZ,W,Bc,Cy,hb,Sy,hold,FG,U8,r.lo,Q,by rw[z],by rw[z],λc q j=>by rw[z];exact C.fz c q j,λc q j=>by rw[z]at j;exact C.lI c q j,λc q j=>T.dL c q j⟩
theorem RIn.out{U:AA}{g0:Gh}{fn:FuncId}{S1:ah}{gs M f:Gh}{Q R g:World}{r:Act}(h:RIn P Y n A g0 U S a w B fn ps assign body (jn kT []).tm T gs M Q R b r)(y:∀c q,gs.fz c q->c<Q.heap.size)(z:S1.get 0=some (.fo (LJ Y.heap.size A gs n a.tmps (sQ j) j ps assign body (jn kT []).tm (aw so1 N))))(s:St Y A f S1 g)(m:Ext A M R f g):∃d,(Instr.endLoop b).run P g=.ok j d/\∀ex,th Y n A g0 w ex (jn kT (S.nx::U.df)) (aw so1 N) ex r d:=by
 have V:=h.al;have gp:f.ob 0=b:=(m.ob 0 V).trans h.ob;let⟨_,sL,⟨i,W,x,p2,p3,⟨q1,q2,q3,q4,q5,q6,q7⟩,p5,C,p7,o,p9⟩,_⟩:=s.cX 0 _ z (m.al 0 V);rw[gp]at x p2 p3 q1 C p7 sL;let⟨B3,E⟩:∃B3,f.fo b=B3:=⟨_,rfl⟩;rw[E]at x p2 p3 C p7;let⟨d,l⟩:∃d,World.rec g b {W with state:=.exhausted }=d:=⟨_,rfl⟩;have F:d.heap.size=g.heap.size:=by grind[oD]
 have qH:(Instr.endLoop b).run P g=.ok j d:=by
  have:(W.state == .busy)=false:=by rw[q2];cases j<;>rfl
  rw[<-l];simp only[Instr.endLoop,Sem.run_bind,run_getLoop q1,Result.andThen_ok,this,bw_,if_false,El q1,Sem.run_pure,q3]
 let⟨z1,G⟩:=x.move (w':=d) (A':=A) i.fz Z (λc hc=>p9 c Z) h.lo λc hc au h=>by grind[mX] λc q _=>by grind[JM] (λ_ _ h=>h) (λc q p=>by rw[F];exact x.dL c q p);have G:Ha Y.heap.size A i (aw so1 N) d:=G;have Zn:Y.heap.size<=b:=h.lo b h.U8;have J:Below Y.heap.size Y d:=by refine⟨?_,?_,?_,X,λk u=>?_⟩;rw[<-l];exact s.base.os;rw[<-l];exact s.base.tape;rw[<-l];exact s.base.output;rw[<-l];exact(mX Z).trans (s.base.block k u)
 have BJ:Ext A g0 w i d:=by refine h.qN.trans ⟨⟨o.al,o.ob,o.cp,o.fz,λc q p=>?_⟩,by have:=m.size;have:=h.Sy;have:=h.hb;omega,λc hc v=>?_,λc q p=>?_⟩;rw[<-l,JM q1,m.cell c q (h.fz1 c q p)];exact World.cell?_of_block (h.hold c (by rw[<-h.hb];exact y c q p));have:=h.Sy;have:=h.hb;rw[<-l,mX λe=>v X,m.aQ c Z v,h.hold c Z];rcases C c q p with h1|h1;rcases m.lI c q h1 with h2|h2;exact h.fz2 c q h2;grind;grind
 have K:cN i d n (jn kT (S.nx::U.df)) r:=by
  have L:=p5.later (z1:Later i g i d);have e1:r.tmps=a.tmps:=by rw[<-h.dZ]
  refine⟨by rw[e1];exact L.size,λt ht=>by rw[e1];exact L.tm t ht,L.out,?_,λk u=>?_⟩;show r.defers=(DE.ob S.nx::U.df).map _;rw[h.Cy.df];exact aQ_ λk u=>(E1 (o.ob _ (h.Cy.yb k u))).symm;exact o.al _ (h.Cy.yb k u)
 exact⟨d,qH,λex=>⟨rfl,i,G.st J,K,BJ⟩⟩
theorem ep.range{U:AA}{g:Operand}{gid:FuncId}{cap:List AV}(hf:U.ev g=.fn (.func gid) first cap)(G:∀a∈first,Pure a)(J:∀a∈cap,Pure a)(hC:Canon B N m ⟨U.tm,S.nx::U.df⟩ (S.new .df) kT (S.nx::U.df) IQ)(hB:S.nx+1<=B)(z:Le ex=some j)(hI:∀(A:Nat->Prop) (gs:Gh) (T0:Array Value),(∀k,gs.al k->k<B)->∃r S1,aF P Y gid (first++[.yl 0]++cap) (aw [(0,.fo (LJ Y.heap.size A gs n T0 .ready none ps assign body (jn kT []).tm (aw IQ N)))] 1) r S1 /\S1.get 0=some (.fo (LJ Y.heap.size A gs n T0 (sQ j) j ps assign body (jn kT []).tm (aw so1 N)))):ep P Y false n (.rangeFunc g ps assign body) U S ex (jn kT (S.nx::U.df)) (aw so1 N):=by
 intro F mm A g0 a w K T V W;have jX:F.round=none:=by cases h:F.round with|none=>rfl|some l=>rw[h]at T;cases T
 refine wpIn_rangeFunc λfn PN=>?_;let⟨gs,C,w1,d,b,a1,h⟩:=RIn.of (P:=P) (ps:=ps) (assign:=assign) (body:=body) V W hC hB fn;let⟨r,S1,cJ,L⟩:=hI A gs a.tmps h.Bc;have o:=W.ev g;rw[hf]at o;let⟨cs,ds,M,sF,Q⟩:=FM o;have p:∀{l:List AV}{xs:Array Value},(∀a∈l,Pure a)->nC g0 w l xs->nC C d l xs:=λhp h1=>⟨h1.1,λi a x f s=>aO.pure (g:=g0) (λc q E=>h.fz1 c q (h.qN.fz c q E)) (λc q E=>by have au:=V.dL c q E;have:=h.qN.size;rw[<-h.qN.cell c q E];exact World.cell?_of_block (h.hold c (by rw[<-h.hb];omega))) (h1.2 i a x f s) (hp a (as_ f))⟩;let⟨t,u⟩:∃t:Array Value,t=#[.func (.yield b) #[] #[]]:=⟨_,rfl⟩;have R:nC C d (first++[.yl 0]++cap) (cs++t++ds):=by refine mV (mV (p G sF) ⟨X,λi a x f s=>?_⟩) (p J Q);match i with|0 =>rw[u]at s;simp at f s;subst f s;have:=aO.yl (g:=C) (w:=d) (k:=0) h.al;rw[h.ob]at this;exact this|i+1=>simp at f
 have cP:(resolve a.eval (rangeCall g b) 0).run P d=.ok {target:=.fn (.func gid) ds,args:=cs++t } d:=by
  rw[u];have e1:(rangeCall g b).args.map a.eval=#[.func (.yield b) #[] #[]]:=by simp[rangeCall,Act.eval]
  simp only[resolve,e1,M,Deferred.ofValue];rfl
 refine⟨b,_,d,_,d,gid,cs++t++ds,d,by rw[jX];exact h.FG,cP,λf' _=>K.1 f',cJ.1 _ d,λhd=>(by rw[K.2.1]at hd;cases hd),(cJ.2 F (mm-1) A C _ d K h.hSi R).mono ?_⟩;rintro e w3⟨v,gi',rfl,hr3,EA,u5⟩;let⟨w4,qH,y⟩:=h.out (j:=j) h.au L EA u5;rw[h.dZ];refine⟨j,w4,qH,?_⟩;have y:=y ex;cases ex with|normal=>cases oJ_ z;exact y|ret=>cases oJ_ z;exact wpIn_ret y|exit id=>cases oJ_ z;exact wpIn_exit y|_=>cases z
end
abbrev iA:=Nat->(Nat->Nat->Prop)->(Nat->Prop)->World->Prop
inductive Ys(P:Program)(Y:World):iA->List (List AV)->Bool->iA->Prop where|nil (J:iA):Ys P Y J [] true J|cons {J J1 J':iA}{x:List AV}{xs:List (List AV)}{b:Bool}(h:∀(T:ah)(k:Nat),T.get k=some (.fo J)->Er P Y k x T (.v (.bool true)) (T.set k (some (.fo J1)))) (t:Ys P Y J1 xs b J'):Ys P Y J (x::xs) b J'|stop {J J':iA}{x:List AV}{xs:List (List AV)}(h:∀(T:ah)(k:Nat),T.get k=some (.fo J)->Er P Y k x T (.v (.bool false)) (T.set k (some (.fo J')))):Ys P Y J (x::xs) false J'
def Iter(P:Program)(Y:World)(gid:FuncId)(first cap:List AV)(xs:List (List AV)):Prop :=∀(J:iA)(b:Bool)(a:iA),Ys P Y J xs b a->∃r c,aF P Y gid (first++[.yl 0]++cap) (aw [(0,.fo J)] 1) r c/\c.get 0=some (.fo a)
theorem Ys.split{ys:List (List AV)}{b:Bool}{J c:iA}(h:Ys P Y J (xs++ys) b c):b=false/\Ys P Y J xs false c\/∃a,Ys P Y J xs true a/\Ys P Y a ys b c:=by induction xs generalizing J with|nil=>exact .inr ⟨J,.nil J,h⟩|cons x xs f =>cases h with|cons h t =>rcases f t with⟨d,e⟩|⟨a,d,e⟩;exact .inl ⟨d,.cons h e⟩;exact .inr ⟨a,.cons h d,e⟩|stop h=>exact .inl ⟨rfl,.stop h⟩
theorem Ys.one{b:Bool}{J a:iA}(h:Ys P Y J [x] b a):∀(T:ah)(k:Nat),T.get k=some (.fo J)->Er P Y k x T (.v (.bool b)) (T.set k (some (.fo a))):=by cases h with|cons h t=>cases t;exact h|stop h=>exact h
theorem Ys.head{b:Bool}{J a:iA}(h:Ys P Y J (x::xs) b a):∃d c,(∀(T:ah)(k:Nat),T.get k=some (.fo J)->Er P Y k x T (.v (.bool d)) (T.set k (some (.fo c))))/\(d=true/\Ys P Y c xs b a\/d=false/\b=false/\c=a):=by cases h with|cons h t=>exact⟨true,_,h,.inl ⟨rfl,t⟩⟩|stop h=>exact⟨false,_,h,.inr ⟨rfl,rfl,rfl⟩⟩
theorem Ys.O9{b:Bool}{J a:iA}(h:Ys P Y J [] b a):b=true/\a=J:=by cases h;exact⟨rfl,rfl⟩
section
variable{U:AA}
theorem D.yl{f:QO}{k:Nat}{b:Bool}{a:Ob}(h:f.ev U.tm=.yl k)(d:aZ9.map (·.ev U.tm)=args)(e:Er P Y k args S (.v (.bool b)) (S.set k (some a))):D P Y false (.call f aZ9) U S (.v (.bool b)) (S.set k (some a)):=by intro n o g;obtain⟨c,u,i,j,rfl,rfl⟩:=mq g;rw[jG]at d;rw[aT]at h;subst d;exact L8 i j h e
end
def adk:QC->Option (Bool×List QI)|.skip=>some (false,[])|.bj dr l=>some (dr,l)|_=>none
theorem SB{B:Nat}:∀{l:List (Nat×AV)},(∀p∈l,eC B p.2)->∀t,eC B (wS (λ_=>.u) l t)|[],_,_=>.u|p::l,h,t=>by show eC B (bJ (wS (λ_=>.u) l) p.1 p.2 t);by_cases e:t=p.1;grind[aG];rw[aN _ _ e];exact SB (λq a=>h q X) t
section
variable{U:AA}{ex:Exit}
def O8{σ T:Type}(P:Program)(Y:World)(n B N:Nat)(kT:List (Nat×AV))(ds:List DE)(so:σ->List (Nat×Ob))(a:List T->σ->Prop)(Q:Exit->AA->ah->Prop)(K:List gw)(c:List T):Exit->AA->ah->Prop :=λex U S=>match ex with|.normal=>∃b m,a c b/\Canon B N m U S [] [] (so b)|.ret=>∃so' m,Canon B N m U S [] [] so'/\H P Y false n Q (.out .ret K) (jn kT ds) (aw so' N)|.exit id=>∃so' m,Canon B N m U S [] [] so'/\H P Y false n Q (.out (.exit id) K) (jn kT ds) (aw so' N)|_=>False
theorem H.range{T:Type}{x:QO}{ps:List Nat}{qa qb:QC}{dr:Bool}{l:List QI}{gid:FuncId}{cap:List AV}(enc:T->List AV)(L:List T)(B N:Nat)(m0:List (Nat×Nat))(kT:List (Nat×AV))(so:σ->List (Nat×Ob))(e:List T->σ->Prop)(M:σ)(hx:x.ev U.tm=.fn (.func gid) first cap)(V:∀a∈first,Pure a)(W:∀a∈cap,Pure a)(Es:Iter P Y gid first cap (L.map enc))(i:adk qa=some (dr,l))(h0:e L M)(d:Nat.ble (S.nx+1) B=true)(hk:∀p∈kT,eC B p.2)(Nh:ps.all (Nat.blt · n)=true)(zY:∀x,(enc x).length=ps.length/\∀a∈enc x,Pure a)(hC:Canon B N m0 ⟨U.tm,S.nx::U.df⟩ (S.new .df) kT (S.nx::U.df) (so M))(Xc:∀(x:T) (G:List T) (s:σ),e (x::G) s->H P Y true n (O8 P Y n B N kT (S.nx::U.df) so e Q K G) (.bj dr l [.seq qb]) ⟨Ek (wS (λ_=>.u) kT) (ps.zip (enc x)),[]⟩ (aw (so s) N))(qH:∀s,e [] s->H P Y false n Q (.out .normal K) (jn kT (S.nx::U.df)) (aw (so s) N)):H P Y false n Q (.run (.RQ x ps qa qb) K) U S:=by
 intro c hc hd;obtain⟨y,pt,z,u,rfl,rfl,rfl,fQ,dG⟩:=aaa hc;simp only[gL,au_]at hd;rw[aT]at hx;have Zf:∀t,eC B ((jn kT []).tm t):=λt=>SB hk t;have auA:∀t∈pt,t<n:=λt ht=>by have:=aZ_.1 Nh t X;exact nb this
 have auB:∀(R:AA->ah->Prop)(E:List PanicEntry->AA->ah->Prop)(β:AA)(T:ah),(∀J U S,¬E J U S)->lq P Y n dr l R E β T->∃dK eh,ep P Y true n z β T .normal dK eh/\R dK eh:=by
  intro R E β T hE h;unfold adk at i;split at i;injection i with i;injection i with o q;subst o q;let⟨dK,eh,r,v⟩:=(h [] [] rfl 0 rfl).resolve_right λ⟨J,aE,S',_,b⟩=>hE _ _ _ b;refine⟨dK,eh,?_,v⟩;intro F m A g a w hF hR hS hA;exact(yP.1 fQ).wp (r F m A g a w (th Y n A g w .normal dK eh) hF hS hA λa' w' g' o q r=>⟨rfl,g',o,q,r⟩);injection i with i;injection i with o q;subst o q;rename_i dr' l';obtain⟨id,LU,rfl,r,qL⟩:=Sr fQ;have v:=h _ _ r;cases dr' with|false =>let⟨aE,S',f,b⟩:=(v 0 rfl).resolve_right λ⟨J,aE,S',_,b⟩=>hE _ _ _ b;rw[bo_,<-ci_]at f;exact⟨aE,S',ep.region f,b⟩|true =>let⟨aE,S',f,b⟩:=v 0 rfl;rw[bo_,<-ci_]at f;have wV:=hd.1;simp only[gL,au_]at wV;exact⟨aE,S',ep.draw wV.1 ((au_ _ _).mp ((au_ _ _).mp (qL rfl)).1).1 f,b⟩
  grind
 have key:∀(L:List T)(s:σ),e L s->∃ex j so',Le ex=some j/\H P Y false n Q (.out ex K) (jn kT (S.nx::U.df)) (aw so' N) /\∀(A:Nat->Prop)(gs:Gh)(T0:Array Value),(∀k,gs.al k->k<B)->Ys P Y (LJ Y.heap.size A gs n T0 .ready none pt z u (jn kT []).tm (aw (so s) N)) (L.map enc) j.isNone (LJ Y.heap.size A gs n T0 (sQ j) j pt z u (jn kT []).tm (aw so' N)):=by intro L;induction L with|nil=>exactλs hs=>⟨.normal,none,so s,rfl,qH s hs,λA gs T0 _=>.nil _⟩|cons x G ih =>intro s hs;have o:=Xc x G s hs;let⟨dK,eh,q,r⟩:=auB _ _ _ _ (λJ U S h=>h) o;let⟨ex,OG,Xb,v,f⟩:Wp P Y true n u _ dK eh:=r u dG hd.2;have rn:∀{j:Option Code}{so':List (Nat×Ob)}{m:List (Nat×Nat)},Le ex=some j->Canon B N m OG Xb [] [] so'->∀(A:Nat->Prop)(gs:Gh)(T0:Array Value),(∀k,gs.al k->k<B)->∀(T:ah)(k:Nat),T.get k=some (.fo (LJ Y.heap.size A gs n T0 .ready none pt z u (jn kT []).tm (aw (so s) N))) ->Er P Y k (enc x) T (.v (.bool j.isNone)) (T.set k (some (.fo (LJ Y.heap.size A gs n T0 (sQ j) j pt z u (jn kT []).tm (aw so' N))))):=λhj hC A gs T0 d T k hT =>Er.rnd q v hC hj X (zY x).2 auA Zf d hT;cases ex with|normal =>let⟨s',m,b,C⟩:=f;let⟨ex,j,so',k1,k2,k3⟩:=ih s' b;exact⟨ex,j,so',k1,k2,λA gs T0 d=>.cons (rn rfl C A gs T0 d) (k3 A gs T0 d)⟩|ret =>let⟨so',m,b,C⟩:=f;exact⟨.ret,_,so',rfl,C,λA gs T0 d=>.stop (rn rfl b A gs T0 d)⟩|exit id =>let⟨so',m,b,C⟩:=f;exact⟨.exit id,_,so',rfl,C,λA gs T0 d=>.stop (rn rfl b A gs T0 d)⟩|_=>exact f.elim
 let⟨ex,j,so',k1,k2,k3⟩:=key L M h0;refine⟨ex,_,_,ep.range (ex:=ex) (so1:=so') hx V W hC (ay_ d) k1 λA gs T0 d=>Es _ _ _ (k3 A gs T0 d),k2⟩
end
section
variable{rd:Bool}{U:AA}{i:QI}{l:List QI}{lg:List (List Nat×List Nat×Bool)}{d:Dt}
theorem H.gD(a:bC U.tm i.g=some true)(h:bm P Y B i.q U S r d)(k:H P Y rd n Q (.kC B V (lg++[d.ns]) rs l K) (bU i.d U r) (eX S d.W d.m)):H P Y rd n Q (.kC B V lg rs (i::l) K) U S :=λb c=>sP.op c a h (k b (by grind[gK]))
def isB:nV->Bool|.bin ..|.conv ..|.afr ..|.neg _|.yJ ..|.Ku ..|.PL ..|.I0 ..|.slice ..|.len ..|.min ..|.max ..|.call ..|.mv ..|.pick ..|.build ..|.rows ..|.not _|.OC ..|.field ..|.extract ..|.W4 ..|.OD _=>true|_=>false
theorem bm.pure(h:∀T,D P Y true q U T r T):bm P Y B q U S r ⟨[],[],false⟩:=by refineλn o a=>⟨λ_=>rfl,show iC S [] fromλp b=>X,λT _ _ _=>?_⟩;rw[show eX T [] false=T from lM];exact(h T n o a).1
theorem H.eK(a:bC U.tm i.g=some true)(h:∀T,D P Y true i.q U T r T)(k:H P Y rd n Q (.kC B V (lg++[([],[],false)]) rs l K) (bU i.d U r) S):H P Y rd n Q (.kC B V lg rs (i::l) K) U S :=H.gD a (bm.pure h) (by rw[show eX S [] false=S from lM];exact k)
theorem H.acr{e:Bool}(a:bC U.tm i.g=some true)(h:∀T,D P Y true i.q U T (.v (.bool e)) T)(b:e=true->H P Y rd n Q (.kC B V (lg++[([],[],false)]) rs l K) (bU i.d U (.v (.bool true))) S)(c:e=false->H P Y rd n Q (.kC B V (lg++[([],[],false)]) rs l K) (bU i.d U (.v (.bool false))) S):H P Y rd n Q (.kC B V lg rs (i::l) K) U S:=by refine H.eK a h ?_;cases e with|true=>exact b rfl|false=>exact c rfl
def H.asR{a:IntKind}{e:Int}(b:bC U.tm i.g=some true)(h:∀T,D P Y true i.q U T (.v (.int a e)) T)(k:∀d,d=e->H P Y rd n Q (.kC B V (lg++[([],[],false)]) rs l K) (bU i.d U (.v (.int a d))) S):H P Y rd n Q (.kC B V lg rs (i::l) K) U S:=H.eK b h (k e rfl)
def Cv(Y:World)(n:Nat)(U:AA)(S:ah)(aE:AA)(S':ah):Prop :=∀(A:Nat->Prop)(g:Gh)(a:Act)(w:World),St Y A g S w->cN g w n U a->∃b,St Y A b S' w/\cN b w n aE a/\Ext A g w b w
theorem ep.cv{c:Code}{ex:Exit}{dK:AA}{eh:ah}(h:Cv Y n U S aE S')(k:ep P Y rd n c aE S' ex dK eh):ep P Y rd n c U S ex dK eh:=by intro F m A g a w b d f i;let⟨j,l,o,p⟩:=h A g a w f i;exact wpIn_mono (k F m A j a w b d l o) λe a w q=>th.ext p q
theorem H.cv{c:QC}(h:Cv Y n U S aE S')(k:H P Y rd n Q (.run c K) aE S'):H P Y rd n Q (.run c K) U S:=by intro a b d;let⟨ex,dK,eh,e,f⟩:=k a b d;exact⟨ex,dK,eh,e.cv h,f⟩
theorem H.B6(h:Cv Y n U S aE S')(k:H P Y rd n Q (.bj false l K) aE S'):H P Y rd n Q (.bj false l K) U S:=by intro v x y j z;refine(k v x y j z).imp (λ⟨dK,eh,b,c⟩=>⟨dK,eh,λF m A g a w R d e f i=>?_,c⟩) λ⟨B,dK,eh,b,c⟩=>⟨B,dK,eh,λF m A g a w R d e f i=>?_,c⟩;let⟨o,p,q,k3⟩:=h A g a w e f;exact b F m A o a w R d p q λr w' s q1 t u=>i r w' s q1 t (k3.trans u);let⟨o,p,q,k3⟩:=h A g a w e f;exact b F m A o a w R d p q λr w' s q1 t u=>i r w' s q1 t (k3.trans u)
def H.CE{b:QC}(h:Cv Y n U S aE S')(k:H P Y rd n Q (.out .normal (.seq b::K)) aE S'):H P Y rd n Q (.out .normal (.seq b::K)) U S:=H.cv (c:=b) h k
theorem Cv.freeze{k fz m:Nat}{a:AV}(W:S.get k=some (.arr sz rows fz ex))(P:U.tm t=a)(E:a=.gr k sz m\/∃c,a=.ob k sz 0 m c)(hm:m=rows.length)(yc:fz<=m):Cv Y n U S ⟨bJ U.tm t (.sl false rows),U.df⟩ (S.set k none):=by
 subst hm;intro A g q w F G;have J:∀{r:Gh}{o:Option Ob},St Y A r (S.set k o) w->St Y A r (S.set k none) w:=λ{_ o}h=>h.forget (ad_ _) λj p b _=>by have b:bJ S.get k none j=some p:=b;by_cases e:j=k;grind[aG];rw[aN _ _ e]at b;show bJ S.get k o j=some p;rw[aN _ _ e];exact b
 have put:∀{r:Gh},Later g w r w->(t<n->aO r w (.sl false rows) (q.tmps.getD t undef))->cN r w n ⟨bJ U.tm t (.sl false rows),U.df⟩ q:=by intro r hL f;have d:=G.later hL;refine⟨d.size,λs B=>?_,λs B=>?_,d.df,d.yb⟩;show aO r w (bJ U.tm t _ s) _;by_cases e:s=t;grind[aG];rw[aN _ _ e];exact d.tm s B;show bJ U.tm t _ s=.u;by_cases e:s=t;subst e;have y:=G.out s B;rw[P]at y;rcases E with h|⟨c,h⟩<;>(rw[h]at y;cases y);rw[aN _ _ e];exact d.out s B
 by_cases Q:t<n;have f:=G.tm t Q;rw[P]at f;by_cases K:g.al k;let⟨d,y⟩:=F.freeze W K yc Z;refine⟨_,J y,put d.toLater λ_=>?_,d⟩;have zJ:=f.later d.toLater;let⟨k2,k3,cs,ty,p1,p2,p3,p4,L,p6,p7⟩:=y.cX k (.arr sz rows rows.length ex) (aG _ _ _) (d.al k K);have key:∀c,rows.length<=c->aO (g.Xu (g.ob k) (rows.length*sz)) w (.sl false rows) (.slice (some ⟨g.ob k,0,none⟩) rows.length c):=by intro c R;by_cases T:rows=[];subst T;exact .nil λh=>X;refine .sl (sz:=sz) (val:=λi j=>cs.getD (i*sz+j) undef) T (λh=>X) Z (λi row z=>(L i row z).1) (λi j row a z b=>?_) λi j row a z b=>?_;let⟨q1,M⟩:=L i row z;let⟨x,u,V⟩:=M j a b;have mQ:j<sz:=X;have iu:=(aB_.1 z).1;refine⟨.inr ⟨rfl,?_⟩,?_⟩;rw[aG_];exact nj iu mQ;rw[aG_];rw[cell_of_row w (g.ob k) _ cs ty (0,0) p1,u];simp[be_,u];let⟨q1,M⟩:=L i row z;let⟨x,u,V⟩:=M j a b;simp only[be_,u,bO_];exact V
 let⟨v,N⟩:∃v,q.tmps.getD t undef=v:=⟨_,rfl⟩;rw[N]at f⊢;rcases E with rfl|⟨c,rfl⟩;rcases sU f with⟨h,A',rfl⟩|⟨C,c,rfl,u,l⟩;have:rows=[]:=bP_.1 h;subst this;exact .nil λh=>X;grind;cases f with|ob C R hp u l=>rw[bd_];exact key _ l
 refine⟨g,F.forget (ad_ _) λj p b _=>?_,put (Later.refl g w) λ_=>?_,Ext.refl ..⟩;have b:bJ S.get k none j=some p:=b;by_cases e:j=k;grind;grind[aN];let⟨v,N⟩:∃v,q.tmps.getD t undef=v:=⟨_,rfl⟩;rw[N]at f⊢;rcases E with rfl|⟨c,rfl⟩;rcases sU f with⟨h,A',rfl⟩|⟨C,c,rfl,u,l⟩;have:rows=[]:=bP_.1 h;subst this;exact .nil λh=>X;grind;cases f with|ob C R hp u l=>exact absurd C K
 refine⟨g,F.forget (ad_ _) λj p b _=>?_,put (Later.refl g w) λh=>absurd h Q,Ext.refl ..⟩;have b:bJ S.get k none j=some p:=b;by_cases e:j=k;grind[aG];grind[aN]
def Rv(Y:World)(r:AV)(S:ah)(r':AV)(S':ah):Prop:=∀(A:Nat->Prop)(g0 g:Gh)(b w:World)(v:Value),St Y A g S w->aO g w r v->∃a,St Y A a S' w/\aO a w r' v/\Ext A g w a w
theorem D.rv{r':AV}{S1:ah}(h:D P Y false q U S r S')(k:Rv Y r S' r' S1):D P Y false q U S r' S1:=by intro n o b F m A g a w c R d e f i;refine h n o b F m A g a w c R d e f λv w' j l p s=>?_;let⟨t,u,x,k3⟩:=k A g j w w' v p l;exact i v w' t x u (s.trans k3)
theorem cN.slot{g:Gh}{b:AV}(h:cN g w n U a)(f:U.tm t≠.u)(i:aO g w b (a.tmps.getD t undef)):cN g w n ⟨bJ U.tm t b,U.df⟩ a:=by
 have j:t<n:=by rcases bF_ t n with d|d;grind;exact absurd (h.out t d) f
 refine⟨h.size,λs c=>?_,λs c=>?_,h.df,h.yb⟩;show aO g w (bJ U.tm t b s) _;by_cases e:s=t;grind[aG];rw[aN _ _ e];exact h.tm s c;show bJ U.tm t b s=.u;rw[aN _ _ Z];exact h.out s c
theorem Pp{k len:Nat}{b:QO}{o:Oper}(B:res P.toTables o.op=some (.append sz LQ (.t t) b))(h1:U.tm t=.gr k sz len)(Q:S.get k=some (.arr sz rows 0 ex))(hn:len=rows.length)(hb:∀c,b.ev (bJ U.tm t c)=b.ev U.tm)(hm:iB S (b.ev U.tm)=some (x::FJ))(iL:iB (S.set k none) (b.ev U.tm)=some (x::FJ))(h3:∀row∈x::FJ,row.length=sz/\row.all db=true)(h4:(len+(x::FJ).length)*LQ<=35184372088832):jO P Y n o U S (.gr S.nx sz (len+(x::FJ).length)) ((S.set k none).new (.arr sz (rows++x::FJ) 0 false)):=by
 intro F C A g a w E R G J f K;have T:t<n:=by rcases bF_ t n with h|h;grind;have:=f.out t h;rw[h1]at this;cases this
 have d:=f.tm t T;rw[h1]at d;let⟨v,l⟩:∃v,a.tmps.getD t undef=v:=⟨_,rfl⟩;have L:U.tm t≠.u:=X;rw[l]at d;rcases sU d with⟨h,A',rfl⟩|⟨V,c,rfl,hx,q⟩;have W:rows=[]:=bP_.1 Z;subst W;have r:cN g w n ⟨bJ U.tm t (.sl true []),U.df⟩ a:=f.slot L (by rw[l];exact .nil λ_=>rfl);have ye:St Y A g (S.set k none) w:=J.forget (ad_ _) λj p M _=>by have M:bJ S.get k none j=some p:=M;by_cases e:j=k;grind[aG];grind[aN]
 have i:=D.Po (P:=P) (Y:=Y) (dr:=false) (U:=⟨bJ U.tm t (.sl true []),U.df⟩) (S:=S.set k none) (sz:=sz) (LQ:=LQ) (a:=.t t) (b:=b) (rows:=[]) (aG _ _ _) X aB (λrow d=>(h3 row d).1) X n o B;refine i F C A g a w E R G ye r λv w' s u y k3=>K v w' s ?_ y k3;subst h;cases u with|ob q1 q2 q3 N z=>rw[bd_];exact .gr q1 (by have h:=N rfl;rw[aG_]at h;exact h) z
 have r:cN g w n ⟨bJ U.tm t (.ob k sz 0 len none),U.df⟩ a:=f.slot L (by rw[l];have:=aO.ob (g:=g) (w:=w) (k:=k) (sz:=sz) (off:=0) (len:=len) (c:=c) (cx:=none) V (λm h=>X) Z (λ_=>Z) q;rwa[bd_]at this);have i:=D.aur (P:=P) (Y:=Y) (dr:=false) (U:=⟨bJ U.tm t (.ob k sz 0 len none),U.df⟩) (S:=S) (sz:=sz) (LQ:=LQ) (a:=.t t) (b:=b) (k:=k) (fz:=0) (ex:=ex) (rows:=rows) (aG _ _ _) Q X (aF_ _) Z h3 h4 n o B;rw[aX_ Z]at i;refine i F C A g a w E R G J r λv w' s u y k3=>K v w' s ?_ y k3;cases u with|ob q1 q2 q3 N z=>rw[bd_];exact .gr q1 X z
theorem D.gy{k len:Nat}{b:QO}(h1:U.tm t=.gr k sz len)(a:S.get k=some (.arr sz rows 0 ex))(d:len=rows.length)(e:∀c,b.ev (bJ U.tm t c)=b.ev U.tm)(f:iB S (b.ev U.tm)=some (x::FJ))(g:iB (S.set k none) (b.ev U.tm)=some (x::FJ))(h3:∀row∈x::FJ,row.length=sz/\row.all db=true)(h4:(len+(x::FJ).length)*LQ<=35184372088832):D P Y false (.append sz LQ (.t t) b) U S (.gr S.nx sz (len+(x::FJ).length)) ((S.set k none).new (.arr sz (rows++x::FJ) 0 false)) :=λn o h=>Pp h h1 a d e f g h3 h4
section
variable{T:Type}{f:T->List AV}{LR:List T}{x:T}
theorem H.app{a:Option Nat}{d:Option (Nat×Bool)}{b:QO}{k len:Nat}(m:bC U.tm d=some true)(h1:U.tm t=.gr k sz len)(o:S.get k=some (.arr sz (O.h (List.map f) LR) 0 ex))(s:len=LR.length)(p:∀c,b.ev (bJ U.tm t c)=b.ev U.tm)(q:iB S (b.ev U.tm)=some [f x])(r:iB (S.set k none) (b.ev U.tm)=some [f x])(u:(f x).length=sz)(v:(f x).all db=true)(w:(len+1)*LQ<=35184372088832)(kk:∀g j,g=LR++[x]->j=g.length->H P Y rd n Q (.bj false l K) (bU a U (.gr S.nx sz j)) ((S.set k none).new (.arr sz (O.h (List.map f) g) 0 false))):H P Y rd n Q (.bj false (⟨a,d,.append sz LQ (.t t) b⟩::l) K) U S:=by
 have y:(O.h (List.map f) LR).length=LR.length:=az;have h:=kk _ _ rfl rfl;have e:O.h (List.map f) LR++[f x]=O.h (List.map f) (LR++[x]):=by rw[O.eq,O.eq,ba_];rfl
 rw[<-e,show(LR++[x]).length=len+[f x].length by grind]at h;exact H.op (i:=⟨a,d,.append sz LQ (.t t) b⟩) m (D.gy h1 o Z p q r X X) h
theorem aI.grow{S:ah}{k len:Nat}(c:S.get k=some (.arr sz (O.h (List.map f) LR) 0 ex))(l:len=LR.length):aI S (.gr k sz len) (aY O f false LR):=by rw[bF];rw[O.eq]at c;refine .gr c X X (λi row g b d=>?_) λi j row g a m b d h e=>?_;grind;rw[d]at b;rw[oJ_ b,h]at e;rw[oJ_ e];exact .refl _
end
end
def dT{T:Type}(f:T->AV)(l:List (Int×T)):List (Value×AV):=l.map λp=>(dD p.1,f p.2)
def aH{T:Type}:List (Int×T)->Int->Option T|[],_=>none|p::l,i=>if p.1=i then some p.2 else aH l i
def gU{T:Type}:List (Int×T)->Int->T->List (Int×T)|[],i,v=>[(i,v)]|p::l,i,v=>if p.1=i then(i,v)::l else p::gU l i v
theorem c9{T:Type}{l:List (Int×T)}{i j:Int}{v:T}:aH (gU l i v) j=if i=j then some v else aH l j:=by induction l with|nil=>simp[gU,aH]|cons p l a =>simp only[gU];by_cases h:p.1=i;grind[aH];grind[aH]
section
variable{T:Type}{f:T->AV}{l:List (Int×T)}
theorem uh:qF (dT f l):=λp a=>by obtain⟨q,_,rfl⟩:=aD_.1 a;exact⟨_,rfl⟩
theorem AG(i:Int):uW (dT f l) i=(aH l i).map f:=by induction l with|nil=>rfl|cons p l a =>simp only[dT,aH_,uW,nh,dD,aH]at a⊢;by_cases h:p.1=i;grind;grind
theorem I3(i:Int)(v:T):Ds (dT f l) i (f v)=dT f (gU l i v):=by induction l with|nil=>rfl|cons p l a =>simp only[dT,aH_,Ds,nh,dD,gU]at a⊢;by_cases h:p.1=i;grind;grind
end
section
variable{rd:Bool}{U:AA}{l:List QI}{lg:List (List Nat×List Nat×Bool)}
theorem Fx{x:Option QO}(h:res P.toTables o=some (.kN x)):∃t y a b,o=.makeMap t y/\x=y.map qo/\P.underlying t=some (.map a b):=by cases o with|makeMap t y =>simp only[res,cM]at h;split at h;grind;grind|_ =>
  simp only[res]at h;repeat' split at h
  all_goals cases h
theorem D.kN:D P Y false (.kN none) U S (.mp S.nx) (S.new (.mp [])):=D.run λn o a=>by let⟨t,y,d,e,b,c,f⟩:=Fx a;cases y with|some y=>cases c|none=>exact Z4 b
theorem D.PI{x:QO}{m:Int}(a:x.ev U.tm=.v (.int kk m)):D P Y false (.kN (some x)) U S (.mp S.nx) (S.new (.mp [])):=D.run λn o c=>by let⟨t,y,f,g,d,b,e⟩:=Fx c;cases y with|none=>cases b|some y =>cases oJ_ b;rw[aT]at a;exact W3 d e a
theorem I4{x:QO}(h:res P.toTables o=some (.look z c x i)):∃t u v a b kk d,o=.lookup t u v c/\x=qo u/\i=qo v/\P.underlying t=some (.map a b)/\P.underlying a=some (.int kk)/\eu P b=some d/\z=lift d:=by cases o with
 |lookup t u v j =>
  simp only[res,cM,kV]at h;split at h;·rename_i a b e;split at h;rename_i kk d f g;simp only[oI_,nV.look.injEq]at h;obtain⟨rfl,rfl,rfl,rfl⟩:=h;exact⟨_,_,_,_,_,_,_,rfl,rfl,rfl,e,f,g,rfl⟩;all_goals cases h
  grind|_ =>
  simp only[res]at h;repeat' split at h
  all_goals cases h
theorem D.look{x:QO}{k:Nat}{m:Int}(b:x.ev U.tm=.mp k)(d:S.get k=some (.mp es))(e:qF es)(hi:i.ev U.tm=.v (.int .i64 m)):D P Y false (.look z c x i) U S (match uW es m with|some a=>if c then .aL [a,.v (.bool true)] else a|none=>if c then .aL [z,.v (.bool false)] else z) S:=D.run λn o f=>by obtain⟨t,u,v,p,q,kk,r,g,rfl,rfl,h,j,l,rfl⟩:=I4 f;rw[aT]at b hi;exact ac6 g h j l b d e hi
theorem I2{x b:QO}(h:res P.toTables o=some (.oW x i b)):∃t u v y a c kk,o=.mapUpdate t u v y/\x=qo u/\i=qo v/\b=qo y/\P.underlying t=some (.map a c)/\P.underlying a=some (.int kk):=by cases o with|mapUpdate t u v y =>simp only[res,cM]at h;split at h;grind;grind|_ =>
  simp only[res]at h;repeat' split at h
  all_goals cases h
theorem D.oW{x b:QO}{k:Nat}{m:Int}{a:AV}(c:x.ev U.tm=.mp k)(e:S.get k=some (.mp es))(f:qF es)(hi:i.ev U.tm=.v (.int .i64 m))(d:b.ev U.tm=a):D P Y false (.oW x i b) U S (.v undef) (S.set k (some (.mp (Ds es m a)))):=D.run λn o g=>by obtain⟨t,u,v,y,p,q,kk,h,rfl,rfl,rfl,j,l⟩:=I2 g;rw[aT]at c hi d;exact PF h j l c e f hi d
variable{T:Type}{f:T->AV}{kv:List (Int×T)}
theorem H.look{x:QO}{k:Nat}{m:Int}(b:bC U.tm g=some true)(e:x.ev U.tm=.mp k)(j:S.get k=some (.mp (O.h (dT f) kv)))(hi:i.ev U.tm=.v (.int .i64 m))(o:∀v,aH kv m=some v->H P Y rd n Q (.bj false l K) (bU d U (if c then .aL [f v,.v (.bool true)] else f v)) S)(p:aH kv m=none->H P Y rd n Q (.bj false l K) (bU d U (if c then .aL [z,.v (.bool false)] else z)) S):H P Y rd n Q (.bj false (⟨d,g,.look z c x i⟩::l) K) U S:=by have h:=D.look (P:=P) (Y:=Y) (z:=z) (c:=c) e j (by rw[O.eq];exact uh) hi;rw[O.eq,AG]at h;refine H.op (i:=⟨d,g,.look z c x i⟩) b h ?_;cases a:aH kv m with|some v=>exact o v a|none=>exact p a
theorem H.oW{x b:QO}{k:Nat}{m:Int}{v:T}(c:bC U.tm g=some true)(e:x.ev U.tm=.mp k)(j:S.get k=some (.mp (O.h (dT f) kv)))(hi:i.ev U.tm=.v (.int .i64 m))(o:b.ev U.tm=f v)(p:∀a,a=gU kv m v->H P Y rd n Q (.bj false l K) (bU d U (.v undef)) (S.set k (some (.mp (O.h (dT f) a))))):H P Y rd n Q (.bj false (⟨d,g,.oW x i b⟩::l) K) U S:=by have h:=D.oW (P:=P) (Y:=Y) e j (by rw[O.eq];exact uh) hi o;rw[O.eq,I3,<-O.eq (dT f)]at h;exact H.op (i:=⟨d,g,.oW x i b⟩) c h (p _ rfl)
theorem H.kN(O:Hd)(f:T->AV)(a:bC U.tm g=some true)(b:∀kv:List (Int×T),kv=[]->H P Y rd n Q (.bj false l K) (bU d U (.mp S.nx)) (S.new (.mp (O.h (dT f) kv)))):H P Y rd n Q (.bj false (⟨d,g,.kN none⟩::l) K) U S:=by have h:=b [] rfl;rw[O.eq]at h;exact H.op (i:=⟨d,g,.kN none⟩) a D.kN h
theorem H.PI{x:QO}{m:Int}(O:Hd)(f:T->AV)(a:bC U.tm g=some true)(b:x.ev U.tm=.v (.int kk m))(c:∀kv:List (Int×T),kv=[]->H P Y rd n Q (.bj false l K) (bU d U (.mp S.nx)) (S.new (.mp (O.h (dT f) kv)))):H P Y rd n Q (.bj false (⟨d,g,.kN (some x)⟩::l) K) U S:=by have h:=c [] rfl;rw[O.eq]at h;exact H.op (i:=⟨d,g,.kN (some x)⟩) a (D.PI b) h
end
def Rn.pure{a:AV}(h:Pure a):Rn ι M a a:=λg w x b=>aO.pure (g:=g) (g':=g.pre ι M) (λ_ _ h=>h) (λ_ _ _=>rfl) b h
theorem Rn.gr{j k sz len:Nat}(h:k=ι j)(b:Nat.blt j M=true):Rn ι M (.gr k sz len) (.gr j sz len):=λg w x c=>by subst h;cases c with|lH=>exact .lH|gr d e a=>exact .gr (g:=g.pre ι M) (k:=j) ⟨nb b,d⟩ e a
theorem Rn.nil{j:Nat}:Rn ι M (.sl true []) (.gr j sz 0):=λg w x a=>by cases a with|nil b=>rw[b rfl];exact .lH|sl c=>exact absurd rfl c
theorem Rn.pt{j k sz i q:Nat}(h:k=ι j)(a:Nat.blt j M=true):Rn ι M (.pt k sz i q) (.pt j sz i q):=λg w x b=>by subst h;cases b with|pt c=>exact .pt (g:=g.pre ι M) (k:=j) ⟨nb a,c⟩
theorem Rn.mp{j k:Nat}(h:k=ι j)(a:Nat.blt j M=true):Rn ι M (.mp k) (.mp j):=λg w x b=>by subst h;cases b with|mp c=>exact .mp (g:=g.pre ι M) (k:=j) ⟨nb a,c⟩
theorem Rn.yl{j k:Nat}(h:k=ι j)(a:Nat.blt j M=true):Rn ι M (.yl k) (.yl j):=λg w x b=>by subst h;cases b with|yl c=>exact .yl (g:=g.pre ι M) (k:=j) ⟨nb a,c⟩
def zt(ι:Nat->Nat)(M:Nat):List AV->List AV->Prop|[],[]=>True|a::l,b::m=>Rn ι M a b/\zt ι M l m|_,_=>False
theorem zt.at:∀{l m:List AV},zt ι M l m->l.length=m.length/\∀(i:Nat)(b:AV),m[i]?=some b->∃a,l[i]?=some a/\Rn ι M a b|[],[],_=>⟨rfl,λi b h=>X⟩|a::l,b::m,e=>⟨by simp[e.2.at.1],λi c h=>by cases i with|zero=>simp at h;subst h;exact⟨a,rfl,e.1⟩|succ i=>simp at h;let⟨d,g,f⟩:=e.2.at.2 i c h;exact⟨d,X,f⟩⟩|[],_::_,h=>h.elim|_::_,[],h=>h.elim
theorem Rn.fn{f:Fn}{l m n o:List AV}(h:zt ι M l m)(k:zt ι M n o):Rn ι M (.fn f l n) (.fn f m o):=λg w x p=>by cases p with|fn q r s t =>refine .fn (q.trans h.at.1) (r.trans k.at.1) (λi b y c d=>?_) λi b y c d=>?_;let⟨a,e,j⟩:=h.at.2 i b c;exact j g w y (s i a y e d);let⟨a,e,j⟩:=k.at.2 i b c;exact j g w y (t i a y e d)
theorem lJ.pure{fz:Nat}(h:∀row∈rows,∀a∈row,Pure a):lJ ι M (.arr sz rows fz ex) (.arr sz rows fz ex):=by refine⟨λg w b s c=>?_,λJ h=>X⟩;let⟨cs,f,k,l,m,n,d,o,p⟩:=c;refine⟨cs,f,k,l,m,n,λi row c=>⟨(d i row c).1,λj a e=>?_⟩,o,p⟩;let⟨x,q,r⟩:=(d i row c).2 j a e;exact⟨x,q,Rn.pure (h _ (as_ c) _ (as_ e)) g w x r⟩
theorem lJ.row{fz:Nat}(h:zt ι M r0 r1):lJ ι M (.arr sz [r0] fz ex) (.arr sz [r1] fz ex):=by refine⟨λg w b y c=>?_,λJ h=>X⟩;let⟨cs,d,e,f,k,l,m,n,o⟩:=c;refine⟨cs,d,e,f,k,l,λi row c=>?_,n,o⟩;cases i with|succ i=>simp at c|zero =>simp at c;subst c;let⟨q1,p⟩:=m 0 r0 rfl;refine⟨by rw[<-h.at.1];exact q1,λj a q=>?_⟩;let⟨r,s,t⟩:=h.at.2 j a q;let⟨x,u,v⟩:=p j r s;exact⟨x,u,t g w x v⟩
theorem lJ.mp(h:∀e∈es,Pure e.2):lJ ι M (.mp es) (.mp es):=by refine⟨λg w b o c=>?_,λJ h=>X⟩;let⟨entries,clock,f,j,l⟩:=c;refine⟨entries,clock,f,j,λi k a d=>?_⟩;let⟨e,m,n,c⟩:=l i k a d;exact⟨e,m,n,Rn.pure (h _ (as_ d)) g w _ c⟩
def lJ.fo{J:iA}:lJ ι M (.fo J) (.fo J):=⟨λg w b c a=>a,λd h=>h⟩
theorem Rb.pure{a:AV}(h:Pure a):Rb ι a a:=λgc g w x c d=>aO.pure (g:=gc) (g':=g) (λb q e=>by rw[c.fz];exact e) (λ_ _ _=>rfl) d h
theorem Rb.gr{j k sz len:Nat}(h:k=ι j):Rb ι (.gr j sz len) (.gr k sz len):=λgc g w x a d=>by subst h;cases d with|lH=>exact .lH|gr b e c=>rw[<-a.ob j b];exact .gr (a.al j b) (by rw[a.cp j b];exact e) c
theorem Rb.pt{j k sz i q:Nat}(h:k=ι j):Rb ι (.pt j sz i q) (.pt k sz i q):=λgc g w x a c=>by subst h;cases c with|pt b=>rw[<-a.ob j b];exact .pt (a.al j b)
theorem Rb.mp{j k:Nat}(h:k=ι j):Rb ι (.mp j) (.mp k):=λgc g w x a c=>by subst h;cases c with|mp b=>rw[<-a.ob j b];exact .mp (a.al j b)
def RbL(ι:Nat->Nat):List AV->List AV->Prop|[],[]=>True|a::l,b::m=>Rb ι a b/\RbL ι l m|_,_=>False
theorem RbL.at:∀{l m:List AV},RbL ι l m->l.length=m.length/\∀(i:Nat)(b:AV),m[i]?=some b->∃a,l[i]?=some a/\Rb ι a b|[],[],_=>⟨rfl,λi b h=>X⟩|a::l,b::m,e=>⟨by simp[e.2.at.1],λi c h=>by cases i with|zero=>simp at h;subst h;exact⟨a,rfl,e.1⟩|succ i=>simp at h;let⟨d,g,f⟩:=e.2.at.2 i c h;exact⟨d,X,f⟩⟩|[],_::_,h=>h.elim|_::_,[],h=>h.elim
theorem mP.pure{fz:Nat}(h:∀row∈rows,∀a∈row,Pure a):mP ι (.arr sz rows fz ex) (.arr sz rows fz ex):=by refine⟨λgc g w b t d _ c=>?_,λJ h=>X⟩;let⟨cs,k,l,m,n,o,e,p,q⟩:=c;refine⟨cs,k,l,m,n,o,λi row c=>⟨(e i row c).1,λj a f=>?_⟩,p,by rw[d.fz];exact q⟩;let⟨x,r,s⟩:=(e i row c).2 j a f;exact⟨x,r,Rb.pure (h _ (as_ c) _ (as_ f)) gc g w x d s⟩
theorem mP.row{fz:Nat}(h:RbL ι r0 r1):mP ι (.arr sz [r0] fz ex) (.arr sz [r1] fz ex):=by refine⟨λgc g w b z d _ c=>?_,λJ h=>X⟩;let⟨cs,e,f,k,l,m,n,o,p⟩:=c;refine⟨cs,e,f,k,l,m,λi row c=>?_,o,by rw[d.fz];exact p⟩;cases i with|succ i=>simp at c|zero =>simp at c;subst c;let⟨q1,q⟩:=n 0 r0 rfl;refine⟨by rw[<-h.at.1];exact q1,λj a r=>?_⟩;let⟨s,t,u⟩:=h.at.2 j a r;let⟨x,v,y⟩:=q j s t;exact⟨x,v,u gc g w x d y⟩
theorem mP.mp(h:∀e∈es,Pure e.2):mP ι (.mp es) (.mp es):=by refine⟨λgc g w b p f _ c=>?_,λJ h=>X⟩;let⟨entries,clock,j,l,m⟩:=c;refine⟨entries,clock,j,l,λi k a d=>?_⟩;let⟨e,n,o,c⟩:=m i k a d;exact⟨e,n,o,Rb.pure (h _ (as_ d)) gc g w _ f c⟩
theorem mP.fo{J:iA}:mP ι (.fo J) (.fo J):=⟨λgc g w b e c d a=>⟨by rw[c.fz,d J rfl];exact a.1,a.2⟩,λf h=>h⟩
def xM(f:Nat->Nat):List Nat->Bool|[]=>true|j::l=>l.all (λi=>!Nat.beq (f i) (f j))&&xM f l
theorem U_{f:Nat->Nat}:∀{l:List Nat},xM f l=true->∀i j,i∈l->j∈l->f i=f j->i=j
 |[],_,i,j,h,_,_=>X|a::l,b,i,j,g,k,e=>by
  simp only[xM,au_,aZ_,cg_]at b;have ne:∀x∈l,f x≠f a:=λx m h=>by have:=b.1 x m;rw[h,bE_]at this;cases this
  rcases al_.1 g with c|c;grind;rcases al_.1 k with d|d;grind;exact U_ b.2 i j c d e
def kP(ι:Nat->Nat)(M:Nat)(T:ah):List (Nat×Ob)->Prop|[]=>True|p::l=>(∃a,T.get (ι p.1)=some a/\lJ ι M a p.2)/\kP ι M T l
def ix(o:Nat->Nat)(so:List (Nat×Ob)):List (Nat×Option Ob)->Prop|[]=>True|(k,none)::l=>ix o so l|(k,some a)::l=>(∃j p,o j=k/\fH so j=some p/\mP o p a)/\ix o so l
theorem kP.mem{ι:Nat->Nat}{M:Nat}:∀{l:List (Nat×Ob)},kP ι M T l->∀p∈l,∃a,T.get (ι p.1)=some a/\lJ ι M a p.2|[],_,p,h=>X|q::l,b,p,h=>by rcases al_.1 h with rfl|h;exact b.1;exact b.2.mem p h
theorem ix.mem{o:Nat->Nat}{so:List (Nat×Ob)}:∀{l:List (Nat×Option Ob)},ix o so l->∀k c,(k,some c)∈l->∃j p,o j=k/\fH so j=some p/\mP o p c|[],_,k,c,h=>X|(a,none)::l,d,k,c,h=>by rcases al_.1 h with h|h;grind;exact ix.mem (l:=l) d k c h|(a,some b)::l,d,k,c,h=>by rcases al_.1 h with h|h;injection h with f e;injection e with e;subst f e;exact d.1;exact ix.mem (l:=l) d.2 k c h
def BB:List (Nat×Ob)->Bool|[]=>true|(_,.fo _)::_=>false|_::l=>BB l
theorem Va:∀{l:List (Nat×Ob)}{j:Nat}{J:iA},BB l=true->fH l j≠some (.fo J)
 |[],j,J,_,h=>by cases h|(a,o)::l,j,J,b,h=>by
  have c:BB l=true:=by cases o<;>first|exact b|cases b
  simp only[fH]at h;split at h;cases oJ_ h;cases b;exact Va c h
section
variable{rd:Bool}{U:AA}{T:ah}{l:List QI}
theorem RP(hi:xM (aW m) (List.range N)=true)(g:(List.range N).all (λj=>Nat.blt (aW m j) T.nx)=true)(n:kP (aW m) N T so)(q:ix (dP (aW m) N T.nx) so' to)(r:(List.range N).all (λj=>(to.map (·.1)).contains (aW m j))=true)(x:to.all (λp=>true)=true)(s:∀k o,T.get k=some o->k<T.nx):vI (aW m) (aw so N) (aw so' N') T ⟨eE T.get to,T.nx+N'⟩:=by
 refine⟨λi j c b e=>U_ hi i j (aU_.2 c) (aU_.2 b) e,λj d=>nb (aZ_.1 g j (aU_.2 d)),λj o t=>n.mem _ (fT t),λk a f=>?_,.inl rfl⟩;have f:eE T.get to k=some a:=f;have key:∀{l:List (Nat×Option Ob)},eE T.get l k=some a->(k,some a)∈l\/(k∉l.map (·.1)/\T.get k=some a):=by intro l;induction l with|nil=>exactλh=>.inr ⟨aB,h⟩|cons p l y =>intro h;rw[eE]at h;by_cases e:k=p.1;grind[aG];grind[aN]
 rcases key f with h|⟨c,b⟩;let⟨j,p,u,v,w⟩:=q.mem k a h;exact .inl ⟨j,p,u,v,w⟩;refine .inr ⟨s k a b,λj d e=>c ?_,b⟩;have:=aZ_.1 r j (aU_.2 d);rw[<-e];simpa using this
theorem Uk(hi:xM (aW m) (List.range N)=true)(a:(List.range N).all (λj=>Nat.blt (aW m j) T.nx)=true)(b:kP (aW m) N T so)(c:ix (dP (aW m) N T.nx) so' to)(d:(List.range N).all (λj=>(to.map (·.1)).contains (aW m j))=true)(e:to.all (λp=>true)=true)(f:∀k o,T.get k=some o->k<T.nx)(g:(∀k J,T.get k=some (.fo J)->∃j,j<N/\aW m j=k)\/BB so'=true):Fits (aW m) (aw so N) (aw so' N') T ⟨eE T.get to,T.nx+N'⟩:=by have h:=RP (N':=N') hi a b c d e f;refine⟨h.inj,h.lt,h.hS,h.hT,h.nx,?_⟩;rcases g with h|h;exact .inl h;exact .inr λj J=>Va h
theorem D.nS{f:QO}{g:FuncId}{PZ:List AV}{r r₀:AV}(l:aF P Y g args (aw so N) r (aw so' N'))(h:fk (f.ev U.tm) (aZ9.map (·.ev U.tm))=some (g,PZ))(c:zt (aW m) N PZ args)(n:Rb (dP (aW m) N T.nx) r r₀)(hi:xM (aW m) (List.range N)=true)(p:(List.range N).all (λj=>Nat.blt (aW m j) T.nx)=true)(q:kP (aW m) N T so)(s:ix (dP (aW m) N T.nx) so' to)(t:(List.range N).all (λj=>(to.map (·.1)).contains (aW m j))=true)(u:∀k o,T.get k=some o->k<T.nx)(v:(∀k J,T.get k=some (.fo J)->∃j,j<N/\aW m j=k)\/BB so'=true):D P Y false (.call f aZ9) U T r₀ ⟨eE T.get to,T.nx+N'⟩ :=D.call h (l.frame (Uk hi p q s t aB u v) c.at.1 (λi a b d w=>by let⟨z,x,y⟩:=c.at.2 i b w;rw[x]at d;rw[<-oJ_ d];exact y) n) λe=>X
theorem Cv.canon{B:Nat}{l:List (Nat×AV)}(c:Nat.ble T.nx B=true)(hC:Canon B N m U T l ds so):Cv Y n U T (jn l ds) (aw so N):=by intro A g a w b d;refine⟨_,hC.st b,hC.W_ d,(Ext.refl A g w).kh (ay_ hC.bn) λk e=>?_⟩;exact aE_ (b.al k e) (ay_ c)
end
section
variable{rd:Bool}{U:AA}{l:List QI}
theorem ly.mono{c:QC}(a:∀ex U S,Q ex U S->Q' ex U S)(h:ly P Y rd n c Q U S):ly P Y rd n c Q' U S:=by intro b d e;let⟨ex,dK,eh,f,g⟩:=h b d e;exact⟨ex,dK,eh,f,a _ _ _ g⟩
theorem eF.mono(a:∀ex U S,Q ex U S->Q' ex U S):∀(K:List gw)(ex:Exit)(U:AA)(S:ah),eF P Y rd n Q K ex U S->eF P Y rd n Q' K ex U S
 |[],ex,U,S,h=>a _ _ _ h|.seq b::K,ex,U,S,h=>by cases ex with|normal=>exact ly.mono (eF.mono a K) h|_=>exact eF.mono a K _ _ _ h
 |.A5 id::K,ex,U,S,h=>by cases ex with
  |exit j =>simp only[eF]at h⊢;cases c:Nat.beq j id with|true=>rw[c]at h;exact eF.mono a K _ _ _ h|false=>rw[c]at h;exact eF.mono a K _ _ _ h
  |_=>exact eF.mono a K _ _ _ h
 |.RT::K,ex,U,S,h=>by cases ex with|goto l=>exact h|_=>exact eF.mono a K _ _ _ h
theorem Bt:∀(K L:List gw),eF P Y rd n Q (K++L)=eF P Y rd n (eF P Y rd n Q L) K|[],L=>rfl|.seq b::K,L=>by rw[aP_,eF,eF,Bt K L]|.A5 id::K,L=>by rw[aP_,eF,eF,Bt K L]|.RT::K,L=>by rw[aP_,eF,eF,Bt K L]
theorem lq.mono{Q Q':AA->ah->Prop}{E e:List PanicEntry->AA->ah->Prop}(f:∀U S,Q U S->Q' U S)(g:∀c U S,E c U S->e c U S)(h:lq P Y n dr l Q E U S):lq P Y n dr l Q' e U S:=by intro i k m;have h:=h i k m;cases dr with|false=>exactλj d=>(h j d).imp (λ⟨dK,eh,a,b⟩=>⟨dK,eh,a,f _ _ b⟩) λ⟨c,dK,eh,a,b⟩=>⟨c,dK,eh,a,g _ _ _ b⟩|true =>intro j d;let⟨dK,eh,a,b⟩:=h j d;exact⟨dK,eh,a,f _ _ b⟩
def VB{σ:Type}(P:Program)(Y:World)(rd:Bool)(n B N:Nat)(st:σ->List (Nat×AV))(ds:List DE)(so:σ->List (Nat×Ob))(a:σ->Prop)(Q:Exit->AA->ah->Prop)(K:List gw):Exit->AA->ah->Prop :=λex U S=>match ex with|.normal=>∃s m,a s/\Nat.ble S.nx B=true/\Canon B N m U S (st s) ds (so s)|e=>H P Y rd n Q (.out e K) U S
theorem H.asS(j B N:Nat)(st:σ->List (Nat×AV))(ds:List DE)(so:σ->List (Nat×Ob))(c:σ->Prop){b:QC}{d:List gw}(e:K.drop j=.seq b::d)(h:H P Y rd n (VB P Y rd n B N st ds so c Q (.seq b::d)) (.bj dr l (K.take j)) U S)(k:∀s,c s->H P Y rd n Q (.run b d) (jn (st s) ds) (aw (so s) N)):H P Y rd n Q (.bj dr l K) U S:=by rw[<-du_ j K,e];have key:∀ex U S,eF P Y rd n (VB P Y rd n B N st ds so c Q (.seq b::d)) (K.take j) ex U S->eF P Y rd n Q (K.take j++.seq b::d) ex U S:=?_;exact lq.mono (λU S a=>key _ _ _ a) (λo U S a=>key _ _ _ a) h;intro ex U S a;rw[Bt];refine eF.mono (λex U S a=>?_) _ _ _ _ a;cases ex with|normal =>let⟨s,m,f,g,i⟩:=a;exact H.CE (Cv.canon g i) (k s f)|_=>exact a
def H.aji{B:Nat}{st:σ->List (Nat×AV)}{so:σ->List (Nat×Ob)}{a:σ->Prop}(s:σ)(m:List (Nat×Nat))(b:a s)(c:Nat.ble S.nx B=true)(hC:Canon B N m U S (st s) ds (so s)):H P Y rd n (VB P Y rd n B N st ds so a Q K) (.out .normal []) U S:=⟨s,m,b,c,hC⟩
end
def om:List Nat->(Nat->AV)->Nat->AV|[],f=>λ_=>.u|t::G,f=>match f t with|.u=>om G f|a=>bJ (om G f) t a
theorem Hb:∀(G:List Nat)(f:Nat->AV)(s:Nat),om G f s=f s\/om G f s=.u
 |[],f,s=>.inr rfl|t::G,f,s=>by
  have a:=Hb G f s;have key:om (t::G) f=om G f\/om (t::G) f=bJ (om G f) t (f t):=by grind[om]
  rcases key with h|h<;>rw[h];grind;grind[aG,aN]
def nI(G:List Nat):Nat->QF->AA->ah->QF×AA×ah|0,c,U,S=>(c,U,S)|m+1,c,U,S=>match c with
  |.out .normal (.seq b::K)=>match U with|⟨f,d⟩=>nI G m (.run b K) ⟨om G f,d⟩ S
  |c=>match G7 c U S with|some (a,aE,S')=>nI G m a aE S'|none=>(c,U,S)
section
variable{rd:Bool}
theorem Cv.prune(G:List Nat){U:AA}{S:ah}:Cv Y n U S ⟨om G U.tm,U.df⟩ S:=by intro A g a w d b;refine⟨g,d,?_,Ext.refl A g w⟩;refine⟨b.size,λt c=>?_,λt c=>?_,b.df,b.yb⟩;rcases Hb G U.tm t with h|h;show aO g w (om G U.tm t) _;rw[h];exact b.tm t c;show aO g w (om G U.tm t) _;rw[h];exact .u;show om G U.tm t=.u;rcases Hb G U.tm t with h|h;rw[h];exact b.out t c;grind
theorem Em(G:List Nat):∀{m:Nat}{a d:QF}{U aE:AA}{S S':ah},nI G m a U S=(d,aE,S')->H P Y rd n Q d aE S'->H P Y rd n Q a U S|0,a,d,U,aE,S,S',h,k=>by grind[nI]|m+1,a,d,U,aE,S,S',h,k=>by unfold nI at h;split at h;rename_i b K;cases U;exact H.cv (c:=b) (K:=K) (Cv.prune G) (Em (m:=m) G h k);split at h;rename_i f g i e;exact aab e (Em G h k);grind
def H.xy(G:List Nat)(m:Nat){a b:QF}{U aE:AA}{S S':ah}(h:nI G m a U S=(b,aE,S'))(k:H P Y rd n Q b aE S'):H P Y rd n Q a U S:=Em G h k
end
section
variable{U:AA}
theorem D.raw{op:BinOp}{isB:BK}{x y:QO}{k c:IntKind}{a b:Int}{r:Value}(h1:x.ev U.tm=.v (.int k a))(h2:y.ev U.tm=.v (.int c b))(i:op≠.eql)(j:op≠.neq)(h:∀(t:TypeId) (w:World),(binOp op t (.int k a) (.int c b)).run P w=.ok r w):D P Y false (.bin op isB x y) U S (.v r) S:=by
 refine D.run λn o l=>?_;obtain⟨t,u,v,s,m,rfl,rfl,z⟩:=y5 l;rw[aT]at h1 h2;refine a_.quiet λA g q w B d=>?_;have e:=d.ev u;have f:=d.ev v;rw[h1]at e;rw[h2]at f;refine⟨_,?_,.v⟩;have p:∀(u v:Operand)(x y:Value),eqGuard op t u v x y=pure ():=by intro u v x y;cases op<;>first|rfl|exact absurd rfl i|exact absurd rfl j
 simp[execOp,m,cA e,cA f,p,h]
end
section
variable{f:FuncId}{args:List AV}
theorem aF.canon(h:aF P Y f args S r S')(i:Nat.ble S.nx B=true)(j:lC B m N r r')(l:gH B m N S' so)(n:tu B m (so.map (·.1))=true)(b:Nat.ble B N=true):aF P Y f args S r' (aw so N):=by refine⟨h.1,λF o A g a w p c q=>(h.2 F o A g a w p c q).mono ?_⟩;rintro e w'⟨v,s,rfl,t,u,x⟩;have y:Canon B N m ⟨λ_=>.u,[]⟩ S' [] [] so:=⟨trivial,rfl,l,n,b,rfl⟩;have d:=ay_ b;exact⟨v,s.kh B N (aW m),rfl,lC.rep d j t,y.st u,x.kh d λk z=>aE_ (c.al k z) (ay_ i)⟩
theorem qg.auD{q:QC×List QR}(B N:Nat)(so:List (Nat×Ob))(F:qg P f q n)(a:args.length<=n)(b:Nat.ble S.nx B=true)(c:Nat.ble B N=true)(h:H P Y false n (vE q.2 λr S'=>∃m,lC B m N r r'/\gH B m N S' so/\tu B m (so.map (·.1))=true) (.run q.1 []) ⟨pO args,[]⟩ S):aF P Y f args S r' (aw so N):=by let⟨r,S',d,m,e,g,i⟩:=qg.Rw F a h;exact d.canon b e g i c
end
end Go.Proofs.YtbdcmpknicjopaaGreat
