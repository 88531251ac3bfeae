import Derived.ChangeArms
import Derived.OpenShut
import Derived.ProofKit
import Derived.Test.YtbdcmpknicjopaaGreatRows
import Derived.Test.YtbdcmpknicjopaaGreatTo6
namespace Go.Proofs.YtbdcmpknicjopaaGreat
set_option linter.all false
open Go.RowKit
variable{A A':Nat->Prop}{B M MO N N' b n sz:Nat}{GL:List (List AV)}{K:List iu}{L L':Loop}{O:Hd}{P:Program}{PA aI dT:AA}{Q Q':Exit->AA->ao->Prop}{S S' Yk eC:ao}{T0:Array Value}{U w w':World}{V m:List (Nat×Nat)}{a:Act}{aZ9:List QO}{c dr:Bool}{cs:List Value}{ds:List DE}{es:List (Value×AV)}{gs:Gh}{j pV:Option Code}{kk:IntKind}{me:List (Nat×AV)}{o:Op}{ps:Array Tmp}{q:n0}{r r':AV}{r1:List AV}{rs:List Nat}{so so':List (Nat×Ob)}{sp:Nat->Bool}{to:List (Nat×Option Ob)}{ι:Nat->Nat}{σ:Type}
variable{z:AV}{ex:Bool}{rows:List (List AV)}{args first x:List AV}{t:Nat}{g:Option (Nat×Bool)}{d:Option Nat}{i:QO}{Y:Type}{T:ao}
def g0(w:World):Gh:=⟨λ_=>0,λ_=>0,λ_=>False,λb _=>b<w.heap.size,λ_ _=>False⟩
def bY(P:Program)(n:Nat)(t:TypeId)(sz:Nat){Y:Type}(lay:Y->List AV)(μ:Y->Nat):Prop :=∀(b:Type)(c:TypeId×Value->b)(w:World)(sp:Nat->Bool)(held:Bool)(m:Nat),m<n->∀(cs:List Value)(d:DataW b×List MemPlace),cs.length=sz->DataW.trod c P w 0 sp held m t cs=some d ->∃x,μ x<=Rows.uptoBulk d.1/\(lay x).length=sz/\∀(j:Nat)(a:AV)(v:Value),(lay x)[j]?=some a->cs[j]?=some v->aT (g0 w) w a v
def fk{Y:Type}(μ:Y->Nat):List Y->Nat|[]=>0|x::l=>μ x+fk μ l
theorem Wa{Y a:Type}{μ:Y->Nat}:∀{l:List Y}{ds:List (DataW a×List MemPlace)},l.length=ds.length->(∀(i:Nat)(x:Y)(e:DataW a×List MemPlace),l[i]?=some x->ds[i]?=some e->μ x<=Rows.uptoBulk e.1)->fk μ l<=Rows.uptoBulkAll (ds.map (·.1))|[],ds,_,_=>aF_ _|x::l,[],h,_=>Z|x::l,e::ds,h,b=>by rw[fk,aK_,Rows.uptoBulkAll];have c:=b 0 x e rfl rfl;have d:=Wa (l:=l) (ds:=ds) Z λi y z f g=>b (i+1) y z Z Z;omega
section
variable{t:TypeId}
theorem bY.less{lay:Y->List AV}{μ:Y->Nat}{m:Nat}(h:bY P n t sz lay μ)(c:m<=n):bY P m t sz lay μ:=λa b w sp held k d=>h a b w sp held k X
theorem bY.int(e:P.underlying t=some (.int .i64)):bY P n t 1 aH λ_=>1:=by intro f g w sp held m _ cs d i h;obtain⟨z,rfl,rfl,k⟩:=DataW.trod_int e h;refine⟨z,by simp only[Rows.uptoBulk];exact aj_ _,rfl,λj a v b c=>?_⟩;cases j with|zero=>simp[aH]at b c;subst b c;exact .v|succ j=>simp[aH]at b
theorem bY.str(e:P.underlying t=some .string):bY P n t 1 (λs:ByteArray=>[AV.v (.string s)]) λs=>s.size+1:=by intro f g w sp held m _ cs d i h;obtain⟨z,rfl,rfl,k⟩:=DataW.trod_string e h;refine⟨z,by simp only[Rows.uptoBulk];exact aj_ _,rfl,λj a v b c=>?_⟩;cases j with|zero=>simp at b c;subst b c;exact .v|succ j=>simp at b
theorem bY.bool(f:P.underlying t=some .bool):bY P n t 1 (λb:Bool=>[AV.v (.bool b)]) λ_=>1:=by intro g i w sp held m _ cs d k h;obtain⟨z,rfl,rfl⟩:=DataW.trod_bool f h;refine⟨z,by simp only[Rows.uptoBulk];exact aj_ _,rfl,λj a v c e=>?_⟩;cases j with|zero=>simp at c e;subst c e;exact .v|succ j=>simp at c
theorem bY.slice{lay:Y->List AV}{μ:Y->Nat}{e:TypeId}(ht:P.underlying t=some (.slice e))(T:P.cellsOf e=sz)(FM:0<sz)(Jg:bY P n e sz lay μ):bY P (n+1) t 1 (λl:List Y=>[aQ .plain lay false l]) λl=>fk μ l+1:=by
 have A:∀l:List Y,aQ .plain lay false l=.sl false (l.map lay):=λl=>bN;simp only[A];intro B C w sp held m hm cs d hl h;rcases DataW.trod_slice ht h with⟨f,E⟩|⟨a,len,cap,elems,FJ,k,hk,f,E,_,hlc,Ka,Hf,V,_⟩;subst f;refine⟨[],by rw[E];simp only[Rows.uptoBulk,fk];exact aj_ _,rfl,λj b v c f=>?_⟩;cases j with|zero=>simp at c f;subst c f;exact .nil λh=>Z|succ j=>simp at c
 have u:0<len->a.spot=none:=by intro F;have G:=V 0 F;rw[T]at G;have h4:elems[0]?=some (elems[0]'X):=ax_ X;rw[h4]at G;let⟨y,FH,_⟩:=cQ_.1 G;let⟨_,Km,J⟩:=World.cells?_some FH;have g:=J 0 FM;have h6:y[0]?=some (y[0]'X):=ax_ X;rw[h6]at g;simp only[be_,Addr.add,if_true]at g;unfold World.cell? at g;split at g;split at g;grind;rename_i o;simpa using o;grind
 have key:∀i,i<len->∃x,(∀e,elems[i]?=some e->μ x<=Rows.uptoBulk e.1)/\(lay x).length=sz/\∀(j:Nat)(b:AV),(lay x)[j]?=some b->∃v,w.cell? ⟨a.block,a.off+i*sz+j,none⟩=some v/\aT (g0 w) w b v:=by
  intro i K;have p:=V i K;rw[T]at p;have W:elems[i]?=some (elems[i]'X):=ax_ X;rw[W]at p;let⟨cs,pU,L⟩:=cQ_.1 p;let⟨_,fe,pW⟩:=World.cells?_some pU;let⟨x,z,nC,s⟩:=Jg B C w sp held k X cs _ fe L;refine⟨x,λe he=>Z,nC,λj b c=>?_⟩;have M:j<sz:=Z;have f:cs[j]?=some (cs[j]'X):=ax_ X;have g:=pW j M;have o:=u X;have N:(a.add (i*sz)).add j=⟨a.block,a.off+i*sz+j,none⟩:=by obtain⟨Q,off,spot⟩:=a;simp only at o;subst o;unfold Addr.add;by_cases hz:i*sz=0<;>by_cases M:j=0<;>simp[hz,M]
  rw[N,f]at g;exact⟨_,g,s j b _ c f⟩
 let⟨l,jN,eJ⟩:∃l:List Y,l.length=len/\∀i x,l[i]?=some x->(∀e,elems[i]?=some e->μ x<=Rows.uptoBulk e.1)/\(lay x).length=sz/\∀(j:Nat)(b:AV),(lay x)[j]?=some b->∃v,w.cell? ⟨a.block,a.off+i*sz+j,none⟩=some v/\aT (g0 w) w b v:=by refine⟨(List.range len).attach.map λi=>Classical.choose (key i.1 Z),aE,λi x z=>?_⟩;simp only[bc_,bh_]at z;obtain⟨q,hq,rfl⟩:=z;have R:q.1=i:=Z;rw[<-R];exact Classical.choose_spec (key q.1 Z)
 have N8:cs=[.slice (some a) len cap]:=Z;subst N8;refine⟨l,?_,rfl,λj b v c f=>?_⟩;rw[E];have:=Wa (μ:=μ) (l:=l) (ds:=elems) X λi x e z he=>(eJ i x z).1 e he;simp only[Rows.uptoBulk];omega;cases j with|succ j=>simp at c|zero =>simp at c f;subst c f;by_cases F:l=[];subst F;simp at jN;subst jN;exact .nil λh=>Z;have o:=u Z;let⟨Q,off,spot⟩:=a;simp only at o;subst o;have S:len=(l.map lay).length:=Z;have row:∀(i:Nat)(row:List AV),(l.map lay)[i]?=some row->row.length=sz/\∀(j:Nat)(b:AV),row[j]?=some b->∃v,w.cell? ⟨Q,off+i*sz+j,none⟩=some v/\aT (g0 w) w b v:=Z;rw[S];refine .sl (sz:=sz) (val:=λi j=>(w.cell? ⟨Q,off+(i*sz+j),none⟩).getD undef) Z (λh=>Z) Z (λi r s=>(row i r s).1) (λi j r b s c=>?_) λi j r b s c=>?_;let⟨v,p,W⟩:=(row i r s).2 j b c;rw[bK_]at p;exact⟨block_lt_of_cell p,Z⟩;grind
theorem bY.fields{a:Type}{enc:TypeId×Value->a}{held:Bool}{fs:Array Field}(e:P.underlying t=some (.struct fs)){fuel:Nat}{d:DataW a×List MemPlace}(h:DataW.trod enc P w 0 sp held fuel t cs=some d):∃(n:Nat) (xs:List (DataW a×List MemPlace)),fuel=n+1/\xs.length=fs.size/\Rows.uptoBulk d.1=Rows.uptoBulkAll (xs.map (·.1))+1/\∀(i ty off:Nat),fs[i]?.map (λf=>(f.type,f.offset))=some (ty,off)->∃y,xs[i]?=some y/\DataW.trod enc P w 0 sp held n ty ((cs.drop off).take (P.cellsOf ty))=some y:=by let⟨xs,n,g,j,_,k,l⟩:=DataW.trod_struct e h;refine⟨n,xs,g,k,by rw[j];simp only[Rows.uptoBulk],λi ty off m=>?_⟩;let⟨f,b,c⟩:=bh_.1 m;simp only[pI_]at c;obtain⟨rfl,rfl⟩:=c;have o:i<fs.size:=(cF_.1 b).1;exact⟨xs[i]'X,ax_ X,(l i f b).trans (ax_ X)⟩
theorem bY.part{b:Type}{enc:TypeId×Value->b}{held:Bool}{lay:Y->List AV}{μ:Y->Nat}{m ty k off i:Nat}{xs:List (DataW b×List MemPlace)}(c:bY P n ty k lay μ)(d:m<n)(e:P.cellsOf ty=k)(q:off+k<=cs.length)(h:∃y,xs[i]?=some y/\DataW.trod enc P w 0 sp held m ty ((cs.drop off).take (P.cellsOf ty))=some y):∃x,μ x<=(xs[i]?.map λy=>Rows.uptoBulk y.1).getD 0/\(lay x).length=k/\∀(j:Nat)(a:AV)(v:Value),(lay x)[j]?=some a->cs[off+j]?=some v->aT (g0 w) w a v:=by let⟨y,r,h⟩:=h;rw[e]at h;let⟨x,s,f,g⟩:=c b enc w sp held m d _ y Z h;refine⟨x,Z,f,λj a v l o=>g j a v l ?_⟩;have p:j<k:=Z;rw[bJ_,if_pos p,cs_];exact o
def nw{a:Type}(xs:List (DataW a×List MemPlace)):Nat->Nat|0=>0|k+1=>nw xs k+(xs[k]?.map λy=>Rows.uptoBulk y.1).getD 0
theorem Me{a:Type}{y:DataW a×List MemPlace}{xs:List (DataW a×List MemPlace)}:∀k,nw (y::xs) (k+1)=Rows.uptoBulk y.1+nw xs k|0=>by simp[nw]|k+1=>by rw[nw,Me k,nw];simp only[cT_];omega
theorem kO{a:Type}:∀{xs:List (DataW a×List MemPlace)},nw xs xs.length=Rows.uptoBulkAll (xs.map (·.1))|[]=>rfl|y::xs=>by rw[aH_,Me,kO,aK_,Rows.uptoBulkAll]
end
structure H4(z:Nat)(A:Nat->Prop)(g:Gh)(S:ao)(w:World):Prop where
 up:∀b,w.heap.size<=b->A b
 lo:∀b,A b->z<=b
 al:∀k,g.al k->k<S.nx
 dh:∀k o,S.get k=some o->g.al k->A (g.ob k)/\g.ob k<w.heap.size/\fM g w (g.ob k) (g.cp k) o
 inj:∀j k o p,S.get j=some o->S.get k=some p->g.al j->g.al k->g.ob j=g.ob k->j=k
 dU:∀b o,g.fz b o->b<w.heap.size
 uA:∀b o,b<z->g.fz b o
 l9:∀k J,S.get k=some (.fo J)->g.al k->∀c,g.fo (g.ob k) c->A c/\c<w.heap.size
 oZ:∀k J j o,S.get k=some (.fo J)->g.al k->S.get j=some o->g.al j->j≠k->¬g.fo (g.ob k) (g.ob j)qY:∀j k J J',S.get j=some (.fo J)->S.get k=some (.fo J')->g.al j->g.al k->j=k
def Gh.TH(g:Gh)(a:Nat->Nat->Prop):Gh:=⟨g.ob,g.cp,g.al,a,g.fo⟩
section
variable{z:Nat}{g:Gh}
theorem St.free(h:St U A g S w):H4 U.heap.size A g S w:=⟨h.up,h.lo,h.al,h.dh,h.inj,h.dU,h.uA,h.l9,h.oZ,h.qY⟩
def H4.st(h:H4 U.heap.size A g S w)(a:Below U.heap.size U w):St U A g S w:=⟨a,h.up,h.lo,h.al,h.dh,h.inj,h.dU,h.uA,h.l9,h.oZ,h.qY⟩
theorem H4.move(h:H4 z A g S w)(a:Nat->Nat->Prop)(hs:w.heap.size<=w'.heap.size)(up:∀b,w'.heap.size<=b->A' b)(lo:∀b,A' b->z<=b)(l:∀c,A c->c<w.heap.size->((∃k o,S.get k=some o/\g.al k/\c=g.ob k)\/∃k J,S.get k=some (.fo J)/\g.al k/\g.fo (g.ob k) c)->A' c/\w'.heap[c]?=w.heap[c]?/\∀q,a c q->g.fz c q)(d:∀b q,g.fz b q->w'.cell? ⟨b,q,none⟩=w.cell? ⟨b,q,none⟩)(n:∀b q,g.fz b q->a b q)(m:∀b q,a b q->b<w'.heap.size):Later g w (g.TH a) w'/\H4 z A' (g.TH a) S w':=by have p:Later g w (g.TH a) w':=⟨λ_ h=>h,λ_ _=>rfl,λ_ _=>rfl,n,d⟩;refine⟨p,up,lo,h.al,λk o e f=>?_,h.inj,m,λb q t=>n b q (h.uA b q t),λk J e f c d=>?_,h.oZ,h.qY⟩;let⟨u,r,v⟩:=h.dh k o e f;let⟨x,y,B⟩:=l _ u r (.inl ⟨k,o,e,f,rfl⟩);refine⟨x,aG_ r hs,v.later p y B λJ s=>⟨rfl,hs,λc d=>?_,λc q d C=>?_⟩⟩;subst s;let⟨j,i⟩:=h.l9 k J e f c d;exact(l c j i (.inr ⟨k,J,e,f,d⟩)).2.1;subst s;let⟨j,i⟩:=h.l9 k J e f c d;exact(l c j i (.inr ⟨k,J,e,f,d⟩)).2.2 q C;let⟨j,i⟩:=h.l9 k J e f c d;exact⟨(l c j i (.inr ⟨k,J,e,f,d⟩)).1,aG_ i hs⟩
theorem H4.inA(h:H4 z A g S w){c:Nat}(d:(∃k o,S.get k=some o/\g.al k/\c=g.ob k)\/∃k J,S.get k=some (.fo J)/\g.al k/\g.fo (g.ob k) c):A c/\c<w.heap.size:=by rcases d with⟨k,o,a,b,rfl⟩|⟨k,J,a,b,e⟩;exact⟨(h.dh k o a b).1,(h.dh k o a b).2.1⟩;exact h.l9 k J a b c e
end
structure zy9(gs gb:Gh):Prop where
 al:∀k,gs.al k->gb.al k
 ob:∀k,gs.al k->gb.ob k=gs.ob k
 cp:∀k,gs.al k->gb.cp k=gs.cp k
 fz:∀b q,gs.fz b q->gb.fz b q
def LJ(z:Nat)(A:Nat->Prop)(gs:Gh)(n:Nat)(T0:Array Value)(st:LoopState)(pV:Option Code)(ps:Array Tmp)(assign body:Code)(f0:Nat->AV)(S:ao):Nat->(Nat->Nat->Prop)->(Nat->Prop)->World->Prop :=λb a B w=>∃(d:Gh) (L:Loop),H4 z (λc=>B c/\c≠b\/w.heap.size<=c) d S w/\B b/\(∀c,B c->A c/\c<w.heap.size) /\(w.heap[b]?=some (.loop L)/\L.state=st/\L.pending=pV/\L.params=ps/\L.assign=assign/\L.body=body/\L.tmps=T0)/\cR d w n ⟨f0,[]⟩ {tmps:=T0,defers:=[] }/\(∀c q,d.fz c q->a c q\/B c)/\(∀c q,B c->a c q->d.fz c q)/\zy9 gs d/\∀c,w.heap.size<=c->A c
section
variable{z:Nat}{st:LoopState}{assign body:Code}{f0:Nat->AV}
theorem LJ.ok:Wq (LJ z A gs n T0 st pV ps assign body f0 S):=by rintro b u K B w w'⟨i,L,j,o,p,r,v,s,x,y,C⟩E k l F e;have a:∀c q,i.fz c q->w'.cell? ⟨c,q,none⟩=w.cell? ⟨c,q,none⟩:=λc q d=>(s c q d).elim (F c q) λg=>World.cell?_of_block (l c g);have f:∀c,B c/\c≠b\/w.heap.size<=c->c<w.heap.size->B c/\c≠b:=λc a m=>a.resolve_right X;let⟨G,J⟩:=j.move (w':=w') (A':=λc=>B c/\c≠b\/w'.heap.size<=c) i.fz e (λc a=>.inr a) (λc a=>j.lo c (a.imp id λh=>aD_ e h)) (λc t m _=>⟨.inl (f c t m),l c (f c t m).1,λ_ h=>h⟩) a (λ_ _ h=>h) λc q d=>aG_ (j.dU c q d) e;exact⟨i,L,J,o,λc a=>⟨(p c a).1,aG_ (p c a).2 e⟩,⟨(l b o).trans r.1,r.2⟩,v.later G,λc q d=>(s c q d).imp (E c q) id,λc q g d=>x c q g (k c q g d),y,λc a=>C c (aD_ e a)⟩
end
def IW(f:Nat->AV):List (Nat×AV)->Nat->AV|[]=>f|p::l=>IW (bK f p.1 p.2) l
section
variable{assign body:Code}{f0:Nat->AV}{ex:Exit}{x:List AV}
theorem TI{g:Gh}{w:World}:∀{l:List (Nat×AV)}{ys:List (Nat×Value)}{f:Nat->AV}{T:Array Value},cR g w n ⟨f,[]⟩ {tmps:=T,defers:=[] }->l.map (·.1)=ys.map (·.1)->(∀p∈l,p.1<n) ->(∀(i:Nat)(p:Nat×AV)(y:Nat×Value),l[i]?=some p->ys[i]?=some y->aT g w p.2 y.2)->cR g w n ⟨IW f l,[]⟩ {tmps:=ys.foldl (λT (t,a)=>T.setIfInBounds t a) T,defers:=[] }|[],[],f,T,h,_,_,_=>h|p::l,y::ys,f,T,h,b,c,d=>by simp only[aK_,List.cons.injEq]at b;have j:cR g w n ⟨bK f p.1 p.2,[]⟩ {tmps:=T.setIfInBounds p.1 y.2,defers:=[] }:=h.put (c p aE) (d 0 p y rfl rfl);have e:cR g w n ⟨bK f p.1 p.2,[]⟩ {tmps:=T.setIfInBounds y.1 y.2,defers:=[] }:=Z;rw[IW,dn_];exact TI e b.2 (λq k=>c q Z) λi q v m o=>d (i+1) q v Z Z|[],y::ys,f,T,h,b,_,_=>Z|p::l,[],f,T,h,b,_,_=>Z
def Mf:Exit->Option (Option Code)|.normal=>some none|.ret=>some (some .ret)|.exit id=>some (some (.exit id))|_=>none
def tg(j:Option Code):LoopState:=match j with|none=>.ready|some _=>.done
theorem run_getLoop(h:w.heap[b]?=some (.loop L)):(Instr.getLoop b).run P w=.ok L w:=by simp[Instr.getLoop,getObj,Sem.run,h]
def World.rec(w:World)(b:Nat)(L:Loop):World:={w with heap:=w.heap.setIfInBounds b (.loop L) }
theorem oM:(World.rec w b L).heap.size=w.heap.size:=by simp[World.rec]
theorem na{c:Nat}(h:c≠b):(World.rec w b L).heap[c]?=w.heap[c]?:=by grind[World.rec]
theorem KF(h:b<w.heap.size):(World.rec w b L).heap[b]?=some (.loop L):=by grind[World.rec]
theorem KG(h:w.heap[b]?=some (.loop L'))(c q:Nat):(World.rec w b L).cell? ⟨c,q,none⟩=w.cell? ⟨c,q,none⟩:=by by_cases e:c=b;subst e;have a:c<w.heap.size:=Z;simp[World.cell?,KF a,h];exact World.cell?_of_block (na e)
theorem EY(h:w.heap[b]?=some (.loop L')):(setObj b (.loop L)).run P w=.ok () (World.rec w b L):=by simp[setObj,Sem.run,h,World.rec]
def Ext.mono{A':Nat->Prop}{g g':Gh}{w':World}(h:Ext A g w g' w')(hs:∀b,A b->A' b):Ext A' g w g' w' :={h.toLater with size:=h.size,aP:=λb a c=>h.aP b a λh=>c (hs b h),lN:=λb q d=>(h.lN b q d).imp id (hs b) }
theorem St.anC{g:Gh}(h:St U A g S w)(d:w.heap[b]?=some (.loop L'))(f:¬A b)(h0:U.heap.size<=b):Later g w g (World.rec w b L)/\St U A g S (World.rec w b L):=by let⟨i,j⟩:=h.free.move (w':=World.rec w b L) (A':=A) g.fz (by grind[oM]) (λc a=>h.up c (by grind[oM])) h.lo (λc a _ _=>⟨a,na λe=>f Z,λ_ h=>h⟩) (λc q _=>KG d c q) (λ_ _ h=>h) (λc q l=>by rw[oM];exact h.dU c q l);exact⟨i,j.st ⟨h.base.os,h.base.tape,h.base.output,by grind[oM],λk m=>(na X).trans (h.base.block k m)⟩⟩
theorem FE.rnd(ha:eE P U true n assign ⟨IW f0 (ps.toList.zip x),[]⟩ S .normal dT eC)(hb:eE P U true n body dT eC ex PA Yk)(hC:Canon B N m PA Yk [] [] so)(hj:Mf ex=some j)(hx:x.length=ps.size)(hp:∀a∈x,Pure a)(Vr:∀t∈ps,t<n)(x_:∀t,eI B (f0 t)){gs:Gh}(hB:∀k,gs.al k->k<B){k:Nat}(hT:T.get k=some (.fo (LJ U.heap.size A gs n T0 .ready none ps assign body f0 S))):FE P U k x T (.v (.bool j.isNone)) (T.set k (some (.fo (LJ U.heap.size A gs n T0 (tg j) j ps assign body f0 (aw so N))))):=by
 intro F mm A2 g E w hF s aV Q;let⟨k2,k3,⟨gb,L,h1,h2,h3,⟨hL1,hL2,hL3,hL4,hL5,hL6,hL7⟩,h5,h6,h7,h8,h9⟩,_⟩:=s.dh k _ hT aV;let⟨b,V⟩:∃b,g.ob k=b:=⟨_,rfl⟩;rw[V]at k2 k3 h1 h2 h3 hL1 h6 h7;let⟨Bf,hBf⟩:∃Bf,g.fo b=Bf:=⟨_,rfl⟩;rw[hBf]at h1 h2 h3 h6 h7;have hz0:U.heap.size<=b:=s.lo b k2;have az:b<w.heap.size:=k3;have anG:∀c,Bf c->A2 c/\c<w.heap.size:=λc f=>s.l9 k _ hT aV c Z;let⟨u,hZ⟩:∃u:Nat->Nat->Prop,u=λc q=>gb.fz c q\/g.fz c q:=⟨_,rfl⟩;let⟨R,Wb⟩:∃R:Nat->Prop,R=λc=>Bf c/\c≠b\/w.heap.size<=c:=⟨_,rfl⟩;rw[<-Wb]at h1;have awG:∀c,R c->c<w.heap.size->Bf c/\c≠b:=λc f az=>Z;have tK:¬R b:=Z;let⟨m1,m2⟩:=h1.move (w':=w) (A':=R) u (aj_ _) h1.up h1.lo (λc f az _=>⟨f,rfl,λq C=>Z⟩) (λ_ _ _=>rfl) (λ_ _ h=>Z) (λc q C=>by rw[hZ]at C;exact C.elim (h1.dU c q) (s.dU c q));have dR:=m2.st s.base;have azV:(gb.TH u).fz=u:=rfl;have yX:cR (gb.TH u) w n ⟨IW f0 (ps.toList.zip x),[]⟩ {tmps:=(ps.toList.zip E.toList).foldl (λT (t,a)=>T.setIfInBounds t a) T0,defers:=[] }:=by
  refine TI (h5.later m1) ?_ (λp hp=>Vr _ (by simpa using(cG_ hp).1)) λi p y hp' hy=>?_;have e1:E.toList.length=x.length:=by rw[bu_];exact Q.1
  rw[List.map_fst_zip Z,List.map_fst_zip Z];rw[cH_]at hp' hy;have hr:=Q.2 i p.2 y.2 hp'.2 Z;exact aT.pure (g:=g) (λc q C=>Z) (λ_ _ _=>rfl) hr (hp _ (as_ hp'.2))
 have cP:E.size=L.params.size:=by rw[Q.1,hx,hL4]
 refine⟨b,L.fn,(ps.toList.zip E.toList).foldl (λT (t,a)=>T.setIfInBounds t a) T0,assign,body,?_,?_⟩;rw[V];simp only[Instr.yield,Sem.run_bind,run_getLoop hL1,Result.andThen_ok,cP,ne_eq,not_true_eq_false,if_false,Sem.run_pure,hL5,hL6,hL7,hL4];congr 3;rw[<-do_,Array.toList_zip];have hF':mu (F.inRound b):=hF.inRound b;have Ja:(F.inRound b).round.isSome=true:=rfl;refine roundIn_of_wpIn (hF.1 _) ?_;refine wpIn_mono (ha (F.inRound b) mm R _ _ w hF' Ja dR yX) ?_;rintro e1 a1 w1⟨rfl,g1,s1,r1,x1⟩;have bD:w1.heap[b]?=some (.loop L):=(x1.aP b az tK).trans hL1;have aeE:b<w1.heap.size:=aG_ az x1.size;refine⟨World.rec w1 b {L with state:=.busy },?_,?_⟩;simp only[Instr.beginRound,Sem.run_bind,run_getLoop bD,Result.andThen_ok,EY bD,hL2,Sem.run_pure];let⟨y1,y2⟩:=s1.anC (L:={L with state:=.busy }) bD tK hz0;refine wpIn_mono (hb (F.inRound b) mm R g1 a1 _ hF' Ja y2 (r1.later y1)) ?_;rintro e2 a2 w2⟨rfl,g2,s2,r2,x2⟩;have cd:w2.heap[b]?=some (.loop {L with state:=.busy }):=(x2.aP b (by grind[oM]) tK).trans (KF aeE);have TJ:w.heap.size<=w2.heap.size:=aD_ x1.size (by have:=x2.size;rw[oM]at this;exact this);let⟨z,hw3⟩:∃z,World.rec w2 b {L with state:=tg j,pending:=j }=z:=⟨_,rfl⟩;let⟨u1,u2⟩:=s2.anC (L:={L with state:=tg j,pending:=j }) cd tK hz0;rw[hw3]at u1 u2;have azW:z.heap.size=w2.heap.size:=by grind[oM]
 have td:(Instr.endRound b j).run P w2=.ok (.bool j.isNone) z:=by rw[<-hw3];cases j<;>simp only[Instr.endRound,Sem.run_bind,run_getLoop cd,Result.andThen_ok,Sem.run_pure,EY cd]<;>rfl
 have post:∃v K,Ending.returned (.bool j.isNone)=.returned v/\aT K z (.v (.bool j.isNone)) v/\St U A2 K (T.set k (some (.fo (LJ U.heap.size A gs n T0 (tg j) j ps assign body f0 (aw so N))))) z/\Ext A2 g w K z:=by
  have pW:∀c q,g.fz c q->z.cell? ⟨c,q,none⟩=w.cell? ⟨c,q,none⟩:=λc q C=>by have hZq:(gb.TH u).fz c q:=Z;rw[u1.cell c q (x2.fz c q (y1.fz c q (x1.fz c q hZq))),x2.cell c q (y1.fz c q (x1.fz c q hZq)),y1.cell c q (x1.fz c q hZq),x1.cell c q hZq]
  have agZ:∀c,c<w.heap.size->¬R c->c≠b->z.heap[c]?=w.heap[c]?:=λc f Q dH=>by rw[<-hw3,na dH,x2.aP c (by rw[oM];exact aG_ f x1.size) Q,na dH,x1.aP c f Q]
  let⟨B',hB'⟩:∃B':Nat->Prop,B'=λc=>Bf c\/w.heap.size<=c/\c<z.heap.size:=⟨_,rfl⟩;let⟨K,oa⟩:∃K:Gh,K=⟨g.ob,g.cp,g.al,g.fz,λd c=>d=b/\B' c\/d≠b/\g.fo d c⟩:=⟨_,rfl⟩;have aeF:K.fo b=B':=by rw[oa];funext c;exact propext ⟨λh=>h.elim (·.2) λh=>absurd rfl h.1,λh=>.inl ⟨rfl,h⟩⟩
  have azE:∀d,d≠b->K.fo d=g.fo d:=λd hd=>by rw[oa];funext c;exact propext ⟨λh=>h.elim (λh=>absurd h.1 hd) (·.2),λh=>.inr ⟨hd,h⟩⟩
  have hL':Later g w K z:=by rw[oa];exact⟨λ_ h=>h,λ_ _=>rfl,λ_ _=>rfl,λ_ _ h=>h,pW⟩
  have hE':Ext A2 g w K z:={hL' with
   size:=Z
   aP:=λc f Q=>agZ c f (λh=>Q (anG c (awG c h f).1).1) λe=>Q Z
   lN:=λc q C=>by rw[oa]at C;exact .inl C };have sub:∀c,R c->c<z.heap.size->B' c/\c≠b:=λc f s8=>Z;have uo:LJ U.heap.size A gs n T0 (tg j) j ps assign body f0 (aw so N) b K.fz (K.fo b) z/\Wq (LJ U.heap.size A gs n T0 (tg j) j ps assign body f0 (aw so N)):=by refine⟨?_,LJ.ok⟩;rw[aeF];have Ao:=hC.st u2;have hBN:=aA_ hC.bn;let⟨v1,v2⟩:=Ao.free.move (w':=z) (A':=λc=>B' c/\c≠b\/z.heap.size<=c) (g2.kI B N (aU m)).fz (aj_ _) (λc f=>.inr f) λc f=>by rcases f with f|f;rw[hB']at f;rcases f.1 with h|h;exact s.lo c (anG c h).1;grind;have h1:=s.base.size;omega (λc f az _=>⟨.inl (sub c f az),rfl,λ_ h=>h⟩) (λ_ _ _=>rfl) (λ_ _ h=>h) λc q C=>Ao.dU c q C;have qT:Ext (λc=>R c\/c=b) (gb.TH u) w g2 z:=((x1.mono λ_ h=>.inl h).trans (g2:=g1) {y1 with size:=by grind[oM],aP:=λc _ Q=>na λe=>Q (.inr e),lN:=λ_ _ h=>.inl h }).trans ((x2.mono λ_ h=>.inl h).trans {u1 with size:=Z,aP:=λc _ Q=>by grind[na],lN:=λ_ _ h=>.inl h });have s9:∀c,R c\/c=b->c<z.heap.size->B' c:=λc f s8=>f.elim (λh=>(sub c h s8).1) λe=>Z;refine⟨g2.kI B N (aU m),{L with state:=tg j,pending:=j },v2,Z,λc f=>?_,⟨by grind[KF],rfl,rfl,hL4,hL5,hL6,hL7⟩,?_,λc q C=>?_,λc q f C=>?_,?_,λc f=>h9 c X⟩;grind;have h5':=(h5.later m1).later qT.toLater;exact⟨h5'.size,λt ht=>(h5'.tm t ht).kI hBN (x_ t),h5'.out,rfl,λk M=>Z⟩;have F_:g2.fz c q:=C;have s8:=u2.dU c q F_;rw[oa];rcases qT.lN c q F_ with h|h;grind;grind;rw[oa]at C;have:u c q:=Z;exact qT.fz c q this;have e0:∀k,gs.al k->fD B (aU m) k=k:=λk M=>sJ (hB k M);refine⟨λk M=>⟨Z,?_⟩,λk M=>?_,λk M=>?_,λc q C=>qT.fz c q (by show u c q;rw[hZ];exact .inl (h8.fz c q C))⟩;rw[e0 k M];exact qT.al k (h8.al k M);show g2.ob (fD B (aU m) k)=gs.ob k;rw[e0 k M,qT.ob k (h8.al k M)];exact h8.ob k M;show g2.cp (fD B (aU m) k)=gs.cp k;rw[e0 k M,qT.cp k (h8.al k M)];exact h8.cp k M
  have key:∀l r,(T.set k (some (.fo (LJ U.heap.size A gs n T0 (tg j) j ps assign body f0 (aw so N))))).get l=some r->l=k/\r=.fo (LJ U.heap.size A gs n T0 (tg j) j ps assign body f0 (aw so N))\/l≠k/\T.get l=some r:=by intro l r hl;have hl:bK T.get k (some (.fo (LJ U.heap.size A gs n T0 (tg j) j ps assign body f0 (aw so N)))) l=some r:=hl;by_cases e:l=k;grind[aK];grind[aR]
  have aeG:∀l r,(T.set k (some (.fo (LJ U.heap.size A gs n T0 (tg j) j ps assign body f0 (aw so N))))).get l=some r->∃r',T.get l=some r':=λl r hl=>(key l r hl).elim (λe=>⟨.fo (LJ U.heap.size A gs n T0 .ready none ps assign body f0 S),e.1.symm ▸ hT⟩) λe=>⟨r,e.2⟩;have TK:∀i,K.ob i=g.ob i:=λi=>by rw[oa]
  have W:∀i,K.al i=g.al i:=λi=>by rw[oa]
  have RE:K.fz=g.fz:=Z;refine⟨_,K,rfl,.v,⟨u2.base,λc f=>s.up c X,s.lo,λi G=>s.al i Z,λi o G pS=>?_,λi l o p G hl ai al e=>?_,λc q C=>by rw[RE]at C;have:=s.dU c q C;omega,λc q f=>by rw[RE];exact s.uA c q f,λi J G pS c f=>?_,λi J l o G pS hl yx dH f=>?_,λi l J J' G hl ai al=>?_⟩,hE'⟩;rw[W]at pS;rcases key i o G with⟨rfl,rfl⟩|⟨dH,G⟩;rw[TK,V];exact⟨k2,X,uo⟩;let⟨q1,q2,q3⟩:=s.dh i o G pS;have hib:g.ob i≠b:=λe=>dH (s.inj i k o _ G hT pS aV Z);have hnA:¬R (g.ob i):=λh=>s.oZ k _ i o hT aV G pS dH Z;have dy:K.cp i=g.cp i:=by rw[oa]
  rw[TK,dy];refine⟨q1,X,q3.later hL' (agZ _ q2 hnA hib) (λq C=>Z) λJ hJ=>?_⟩;subst hJ;exact absurd (s.qY i k J _ G hT pS aV) dH;rw[W]at ai al;rw[TK,TK]at e;let⟨_,mF⟩:=aeG i o G;let⟨_,nk⟩:=aeG l p hl;exact s.inj i l _ _ mF nk ai al e;rw[W]at pS;rcases key i _ G with⟨rfl,_⟩|⟨dH,G⟩;rw[TK,V,aeF,hB']at f;rcases f with f|f;grind;exact⟨s.up c f.1,f.2⟩;exact absurd (s.qY i k J _ G hT pS aV) dH;rw[W]at pS yx;rcases key i _ G with⟨rfl,_⟩|⟨awH,G⟩;rw[TK,V,aeF,hB',TK]at f;let⟨_,nk⟩:=aeG l o hl;rcases f with f|f;exact s.oZ i _ l _ hT aV nk yx dH Z;have:=(s.dh l _ nk yx).2.1;omega;exact absurd (s.qY i k J _ G hT pS aV) awH;rw[W]at ai al;have to:∀x J,(T.set k (some (.fo (LJ U.heap.size A gs n T0 (tg j) j ps assign body f0 (aw so N))))).get x=some (.fo J)->g.al x->x=k:=λx J hx ax=>(key x _ hx).elim (·.1) λe=>s.qY x k J _ e.2 hT ax aV;rw[to i J G ai,to l J' hl al]
 cases e2 with|normal=>cases oJ_ hj;exact⟨_,z,td,post⟩|ret=>cases oJ_ hj;exact⟨_,z,td,post⟩|exit id=>cases oJ_ hj;exact⟨_,z,td,post⟩|_=>cases hj
theorem Gy{g:Gh}{f:Fn}{l m:List AV}{v:Value}(h:aT g w (.fn f l m) v):∃cs ds,v=.func f cs ds/\nI g w l cs/\nI g w m ds:=by cases h with|fn a b c d=>exact⟨_,_,rfl,⟨a,c⟩,⟨b,d⟩⟩
theorem uz{J:Nat->(Nat->Nat->Prop)->(Nat->Prop)->World->Prop}{k:Nat}{o:Ob}(h:(aw [(0,.fo J)] 1).get k=some o):k=0/\o=.fo J:=by have h:fN [(0,.fo J)] k=some o:=h;have:=gy h;simp only[ae_,pI_]at this;exact this
structure RIn(P:Program)(U:World)(n:Nat)(A:Nat->Prop)(g0:Gh)(Y:AA)(S:ao)(a:Act)(w:World)(B:Nat)(fn:FuncId)(ps:Array Tmp)(assign body:Code)(f0:Nat->AV)(T:ao)(gs gi:Gh)(w1 w2:World)(b:Nat)(a1:Act):Prop where
 dZ:{a with defers:=[{target:=.collected w.heap.size,args:=#[] }]++a.defers }=a1
 qT:Ext A g0 w gs w1
 BR:∀k,gs.al k->k<B
 yW:cR gs w1 n ⟨Y.tm,S.nx::Y.df⟩ a1
 hb:w1.heap.size=b
 TJ:w2.heap.size=b+1hold:∀c,c<b->w2.heap[c]?=w1.heap[c]?Gr:(Instr.enterLoop fn a.tmps ps assign body none).run P w=.ok (b,[{target:=.collected w.heap.size,args:=#[] }]) w2
 Wb:A b
 lo:∀c,A c->U.heap.size<=c
 hSi:St U A gi (aw [(0,.fo (LJ U.heap.size A gs n a.tmps .ready none ps assign body f0 T))] 1) w2
 ob:gi.ob 0=b
 al:gi.al 0fz1:∀c q,gs.fz c q->gi.fz c q
 fz2:∀c q,gi.fz c q->gs.fz c q\/A c
 az:∀c q,gs.fz c q->c<w1.heap.size
theorem RIn.of{Y:AA}{iS:List (Nat×Ob)}{g0:Gh}(hS:St U A g0 S w)(hA:cR g0 w n Y a)(hC:Canon B N m ⟨Y.tm,S.nx::Y.df⟩ (S.new .df) me (S.nx::Y.df) iS)(hB:S.nx+1<=B)(fn:FuncId):∃gs t s f b F,RIn P U n A g0 Y S a w B fn ps assign body (jW me []).tm (aw iS N) gs t s f b F:=by
 let⟨W,V⟩:=hS.new (.deferred (some [])) .df 0 (λJ=>aE) λhL=>eB;let⟨gs,x⟩:∃gs,g0.new S.nx w.heap.size 0=gs:=⟨_,rfl⟩;let⟨s,Jh⟩:∃s,w.alloc (.deferred (some []))=s:=⟨_,rfl⟩;rw[x,Jh]at W V;have l_:gs.ob S.nx=w.heap.size:=by rw[<-x];exact aK _ _ _
 have aV:gs.al S.nx:=by rw[<-x];exact .inr rfl
 have BR:∀k,gs.al k->k<B:=λk d=>by have:=V.al k d;have:k<S.nx+1:=this;omega
 have yW:cR gs s n ⟨Y.tm,S.nx::Y.df⟩ {a with defers:=({target:=.collected w.heap.size,args:=#[] }:Deferred)::a.defers }:=by have h:=hA.later W.toLater;refine⟨h.size,h.tm,h.out,?_,λk d=>?_⟩;show _=({target:=.collected (gs.ob S.nx),args:=#[] }:Deferred)::_;rw[l_,<-h.df];rcases al_.1 d with rfl|d;exact aV;exact h.yN k d
 let⟨F,dZ⟩:∃F:Act,{a with defers:=({target:=.collected w.heap.size,args:=#[] }:Deferred)::a.defers }=F:=⟨_,rfl⟩;rw[dZ]at yW;have hBN:=aA_ hC.bn;have l:=hC.st V;have G:=hC.Yj yW;let⟨gc,K⟩:∃gc,gs.kI B N (aU m)=gc:=⟨_,rfl⟩;have E:Ext A gs s gc s:=by rw[<-K];exact(Ext.refl A gs s).kI hBN BR
 rw[K]at l G;let⟨L,hLd⟩:∃L:Loop,{state:=.ready,pending:=none,fn,tmps:=a.tmps,params:=ps,assign,body,defers:=w.heap.size }=L:=⟨_,rfl⟩;let⟨f,u⟩:∃f,s.alloc (.loop L)=f:=⟨_,rfl⟩;let⟨b,hb⟩:∃b,s.heap.size=b:=⟨_,rfl⟩;have TJ:f.heap.size=b+1:=by grind[size_alloc]
 have hold:∀c,c<b->f.heap[c]?=s.heap[c]?:=λc g=>by grind[kg]
 have Bl:f.heap[b]?=some (.loop L):=by grind[eB]
 have Gr:(Instr.enterLoop fn a.tmps ps assign body none).run P w=.ok (b,[{target:=.collected w.heap.size,args:=#[] }]) f:=by rw[<-u,<-Jh,<-hb,<-Jh,<-hLd];simp only[Instr.enterLoop,newObj,Sem.run_bind,Sem.run,Result.andThen_ok,Sem.run_pure];rfl
 let⟨y,r⟩:=l.free.move (w':=f) (A':=A) gc.fz X (λc g=>l.up c X) l.lo (λc g az _=>⟨g,hold c X,λ_ h=>h⟩) (λc q j=>World.cell?_of_block (hold c (by rw[<-hb];exact l.dU c q j))) (λ_ _ h=>h) (λc q j=>by have:=l.dU c q j;omega);have r:H4 U.heap.size A gc (aw iS N) f:=r;have y:Later gc s gc f:=y;have anN:Below U.heap.size U f:=by refine⟨?_,?_,?_,by have:=l.base.size;omega,λk d=>(hold k (by have:=l.base.size;omega)).trans (l.base.block k d)⟩;rw[<-u];exact l.base.os;rw[<-u];exact l.base.tape;rw[<-u];exact l.base.output
 have Wb:A b:=l.up b X;let⟨v,hBf⟩:∃v:Nat->Prop,v=λc=>c=b\/(∃k o,(aw iS N).get k=some o/\gc.al k/\c=gc.ob k)\/∃k J,(aw iS N).get k=some (.fo J)/\gc.al k/\gc.fo (gc.ob k) c:=⟨_,rfl⟩;have z:∀c,v c->A c/\c<f.heap.size:=λc g=>by rw[hBf]at g;rcases g with rfl|g;grind;exact r.inA g
 have awI:v b:=Z;have hLJ:LJ U.heap.size A gs n a.tmps .ready none ps assign body (jW me []).tm (aw iS N) b gc.fz v f:=by let⟨v1,v2⟩:=r.move (w':=f) (A':=λc=>v c/\c≠b\/f.heap.size<=c) gc.fz (aj_ _) (λc g=>.inr g) (λc g=>g.elim (λh=>r.lo c (z c h.1).1) λh=>r.lo c (r.up c h)) (λc g az h=>⟨.inl ⟨Z,λe=>by have:=l.free.inA h;omega⟩,rfl,λ_ h=>h⟩) (λ_ _ _=>rfl) (λ_ _ h=>h) r.dU;refine⟨gc,L,v2,awI,z,⟨Bl,Z,Z,Z,Z,Z,Z⟩,?_,λc q j=>.inl j,λc q _ j=>j,⟨E.al,E.ob,E.cp,E.fz⟩,λc g=>r.up c g⟩;have h:=G.later y;have h1:=h.size;have h2:=h.tm;rw[<-dZ]at h1 h2;exact⟨h1,h2,h.out,rfl,λk d=>Z⟩
 let⟨t,C⟩:∃t:Gh,t=⟨λ_=>b,λ_=>0,λk=>k=0,gc.fz,λ_=>v⟩:=⟨_,rfl⟩;let⟨M,Q⟩:∃M,LJ U.heap.size A gs n a.tmps .ready none ps assign body (jW me []).tm (aw iS N)=M:=⟨_,rfl⟩;have R:St U A t (aw [(0,.fo M)] 1) f:=by
  have e1:∀k,t.ob k=b:=λk=>by rw[C]
  have e2:∀k,t.fo k=v:=λk=>by rw[C]
  have e3:t.fz=gc.fz:=Z;have e4:∀k,t.al k->k=0:=λk d=>by rw[C]at d;exact d
  refine⟨anN,r.up,r.lo,λk d=>by rw[e4 k d];exact Nat.one_pos,λk o d ha=>?_,λi k o p T d _ _ _=>(uz T).1.trans (uz d).1.symm,λc q j=>r.dU c q Z,λc q g=>by rw[e3];exact r.uA c q g,λk J d ha c g=>z c Z,λk J i o d _ T _ dH=>absurd ((uz T).1.trans (uz d).1.symm) dH,λi k J J' T d _ _=>(uz T).1.trans (uz d).1.symm⟩;obtain⟨rfl,rfl⟩:=uz d;rw[e1];refine⟨Wb,X,?_⟩;show M b t.fz (t.fo b) f/\Wq M;rw[e2,e3,<-Q];exact⟨hLJ,LJ.ok⟩
 rw[<-Q]at R;exact⟨gs,t,s,f,b,F,dZ,W,BR,yW,hb,TJ,hold,Gr,Wb,r.lo,R,by rw[C],by rw[C],λc q j=>by rw[C];exact E.fz c q j,λc q j=>by rw[C]at j;exact E.lN c q j,λc q j=>V.dU c q j⟩
theorem RIn.out{Y:AA}{so1:List (Nat×Ob)}{g0:Gh}{fn:FuncId}{S1:ao}{gs M f:Gh}{Q R g:World}{r:Act}(h:RIn P U n A g0 Y S a w B fn ps assign body (jW me []).tm T gs M Q R b r)(y:∀c q,gs.fz c q->c<Q.heap.size)(z:S1.get 0=some (.fo (LJ U.heap.size A gs n a.tmps (tg j) j ps assign body (jW me []).tm (aw so1 N))))(s:St U A f S1 g)(m:Ext A M R f g):∃d,(Instr.endLoop b).run P g=.ok j d/\∀ex,tM U n A g0 w ex (jW me (S.nx::Y.df)) (aw so1 N) ex r d:=by
 have V:=h.al;have gJ:f.ob 0=b:=(m.ob 0 V).trans h.ob;let⟨_,s8,⟨i,W,x,p2,p3,⟨q1,q2,q3,q4,q5,q6,q7⟩,p5,C,p7,o,p9⟩,_⟩:=s.dh 0 _ z (m.al 0 V);rw[gJ]at x p2 p3 q1 C p7 s8;let⟨B3,E⟩:∃B3,f.fo b=B3:=⟨_,rfl⟩;rw[E]at x p2 p3 C p7;let⟨d,l⟩:∃d,World.rec g b {W with state:=.exhausted }=d:=⟨_,rfl⟩;have F:d.heap.size=g.heap.size:=by grind[oM]
 have td:(Instr.endLoop b).run P g=.ok j d:=by
  have:(W.state == .busy)=false:=by rw[q2];cases j<;>rfl
  rw[<-l];simp only[Instr.endLoop,Sem.run_bind,run_getLoop q1,Result.andThen_ok,this,bz_,if_false,EY q1,Sem.run_pure,q3]
 let⟨z1,G⟩:=x.move (w':=d) (A':=A) i.fz X (λc hc=>p9 c X) h.lo λc hc az h=>by grind[na] λc q _=>by grind[KG] (λ_ _ h=>h) (λc q p=>by rw[F];exact x.dU c q p);have G:H4 U.heap.size A i (aw so1 N) d:=G;have hz0:U.heap.size<=b:=h.lo b h.Wb;have J:Below U.heap.size U d:=by refine⟨?_,?_,?_,Z,λk u=>?_⟩;rw[<-l];exact s.base.os;rw[<-l];exact s.base.tape;rw[<-l];exact s.base.output;rw[<-l];exact(na X).trans (s.base.block k u)
 have Cn:Ext A g0 w i d:=by refine h.qT.trans ⟨⟨o.al,o.ob,o.cp,o.fz,λc q p=>?_⟩,by have:=m.size;have:=h.TJ;have:=h.hb;omega,λc hc v=>?_,λc q p=>?_⟩;rw[<-l,KG q1,m.cell c q (h.fz1 c q p)];exact World.cell?_of_block (h.hold c (by rw[<-h.hb];exact y c q p));have:=h.TJ;have:=h.hb;rw[<-l,na λe=>v Z,m.aP c X v,h.hold c X];rcases C c q p with h1|h1;rcases m.lN c q h1 with h2|h2;exact h.fz2 c q h2;grind;grind
 have K:cR i d n (jW me (S.nx::Y.df)) r:=by
  have L:=p5.later (z1:Later i g i d);have e1:r.tmps=a.tmps:=by rw[<-h.dZ]
  refine⟨by rw[e1];exact L.size,λt ht=>by rw[e1];exact L.tm t ht,L.out,?_,λk u=>?_⟩;show r.defers=(DE.ob S.nx::Y.df).map _;rw[h.yW.df];exact aQ_ λk u=>(FD (o.ob _ (h.yW.yN k u))).symm;exact o.al _ (h.yW.yN k u)
 exact⟨d,td,λex=>⟨rfl,i,G.st J,K,Cn⟩⟩
theorem eE.range{Y:AA}{g:Operand}{gid:FuncId}{cap:List AV}{iS so1:List (Nat×Ob)}(hf:Y.ev g=.fn (.func gid) first cap)(G:∀a∈first,Pure a)(J:∀a∈cap,Pure a)(hC:Canon B N m ⟨Y.tm,S.nx::Y.df⟩ (S.new .df) me (S.nx::Y.df) iS)(hB:S.nx+1<=B)(z:Mf ex=some j)(hI:∀(A:Nat->Prop) (gs:Gh) (T0:Array Value),(∀k,gs.al k->k<B)->∃r S1,aG P U gid (first++[.yl 0]++cap) (aw [(0,.fo (LJ U.heap.size A gs n T0 .ready none ps assign body (jW me []).tm (aw iS N)))] 1) r S1 /\S1.get 0=some (.fo (LJ U.heap.size A gs n T0 (tg j) j ps assign body (jW me []).tm (aw so1 N)))):eE P U false n (.rangeFunc g ps assign body) Y S ex (jW me (S.nx::Y.df)) (aw so1 N):=by
 intro F mm A g0 a w K T V W;have jF:F.round=none:=by cases h:F.round with|none=>rfl|some l=>rw[h]at T;cases T
 refine wpIn_rangeFunc λfn QN=>?_;let⟨gs,C,w1,d,b,a1,h⟩:=RIn.of (P:=P) (ps:=ps) (assign:=assign) (body:=body) V W hC hB fn;let⟨r,S1,cM,L⟩:=hI A gs a.tmps h.BR;have o:=W.ev g;rw[hf]at o;let⟨cs,ds,M,pU,Q⟩:=Gy o;have p:∀{l:List AV}{xs:Array Value},(∀a∈l,Pure a)->nI g0 w l xs->nI C d l xs:=λhp h1=>⟨h1.1,λi a x f s=>aT.pure (g:=g0) (λc q E=>h.fz1 c q (h.qT.fz c q E)) (λc q E=>by have az:=V.dU c q E;have:=h.qT.size;rw[<-h.qT.cell c q E];exact World.cell?_of_block (h.hold c (by rw[<-h.hb];omega))) (h1.2 i a x f s) (hp a (as_ f))⟩;let⟨t,u⟩:∃t:Array Value,t=#[.func (.yield b) #[] #[]]:=⟨_,rfl⟩;have R:nI C d (first++[.yl 0]++cap) (cs++t++ds):=by refine m9 (m9 (p G pU) ⟨Z,λi a x f s=>?_⟩) (p J Q);match i with|0 =>rw[u]at s;simp at f s;subst f s;have:=aT.yl (g:=C) (w:=d) (k:=0) h.al;rw[h.ob]at this;exact this|i+1=>simp at f
 have c9:(resolve a.eval (rangeCall g b) 0).run P d=.ok {target:=.fn (.func gid) ds,args:=cs++t } d:=by
  rw[u];have e1:(rangeCall g b).args.map a.eval=#[.func (.yield b) #[] #[]]:=by simp[rangeCall,Act.eval]
  simp only[resolve,e1,M,Deferred.ofValue];rfl
 refine⟨b,_,d,_,d,gid,cs++t++ds,d,by rw[jF];exact h.Gr,c9,λf' _=>K.1 f',cM.1 _ d,λhd=>(by rw[K.2.1]at hd;cases hd),(cM.2 F (mm-1) A C _ d K h.hSi R).mono ?_⟩;rintro e w3⟨v,gi',rfl,hr3,E7,Br⟩;let⟨w4,td,y⟩:=h.out (j:=j) h.az L E7 Br;rw[h.dZ];refine⟨j,w4,td,?_⟩;have y:=y ex;cases ex with|normal=>cases oJ_ z;exact y|ret=>cases oJ_ z;exact wpIn_ret y|exit id=>cases oJ_ z;exact wpIn_exit y|_=>cases z
end
abbrev eU:=Nat->(Nat->Nat->Prop)->(Nat->Prop)->World->Prop
inductive Ys(P:Program)(U:World):eU->List (List AV)->Bool->eU->Prop where|nil (J:eU):Ys P U J [] true J|cons {J J1 J':eU}{x:List AV}{xs:List (List AV)}{b:Bool}(h:∀(T:ao)(k:Nat),T.get k=some (.fo J)->FE P U k x T (.v (.bool true)) (T.set k (some (.fo J1)))) (t:Ys P U J1 xs b J'):Ys P U J (x::xs) b J'|stop {J J':eU}{x:List AV}{xs:List (List AV)}(h:∀(T:ao)(k:Nat),T.get k=some (.fo J)->FE P U k x T (.v (.bool false)) (T.set k (some (.fo J')))):Ys P U J (x::xs) false J'
def Iter(P:Program)(U:World)(gid:FuncId)(first cap:List AV)(xs:List (List AV)):Prop :=∀(J:eU)(b:Bool)(a:eU),Ys P U J xs b a->∃r c,aG P U gid (first++[.yl 0]++cap) (aw [(0,.fo J)] 1) r c/\c.get 0=some (.fo a)
theorem Ys.split{xs ys:List (List AV)}{b:Bool}{J c:eU}(h:Ys P U J (xs++ys) b c):b=false/\Ys P U J xs false c\/∃a,Ys P U J xs true a/\Ys P U a ys b c:=by induction xs generalizing J with|nil=>exact .inr ⟨J,.nil J,h⟩|cons x xs f =>cases h with|cons h t =>rcases f t with⟨d,e⟩|⟨a,d,e⟩;exact .inl ⟨d,.cons h e⟩;exact .inr ⟨a,.cons h d,e⟩|stop h=>exact .inl ⟨rfl,.stop h⟩
theorem Ys.one{b:Bool}{J a:eU}(h:Ys P U J [x] b a):∀(T:ao)(k:Nat),T.get k=some (.fo J)->FE P U k x T (.v (.bool b)) (T.set k (some (.fo a))):=by cases h with|cons h t=>cases t;exact h|stop h=>exact h
theorem Ys.Mz{b:Bool}{J a:eU}(h:Ys P U J [] b a):b=true/\a=J:=by cases h;exact⟨rfl,rfl⟩
section
variable{Y:AA}
theorem D.yl{f:QO}{k:Nat}{b:Bool}{a:Ob}(h:f.ev Y.tm=.yl k)(d:aZ9.map (·.ev Y.tm)=args)(e:FE P U k args S (.v (.bool b)) (S.set k (some a))):D P U false (.call f aZ9) Y S (.v (.bool b)) (S.set k (some a)):=by intro n o g;obtain⟨c,u,i,j,rfl,rfl⟩:=my g;rw[jQ]at d;rw[aY]at h;subst d;exact Na i j h e
end
def anS:QC->Option (Bool×List QI)|.skip=>some (false,[])|.bp dr l=>some (dr,l)|_=>none
theorem TM{B:Nat}:∀{l:List (Nat×AV)},(∀p∈l,eI B p.2)->∀t,eI B (zo (λ_=>.u) l t)|[],_,_=>.u|p::l,h,t=>by show eI B (bK (zo (λ_=>.u) l) p.1 p.2 t);by_cases e:t=p.1;grind[aK];rw[aR _ _ e];exact TM (λq a=>h q Z) t
section
variable{Y:AA}{ex:Exit}
def ab6{σ T:Type}(P:Program)(U:World)(n B N:Nat)(me:List (Nat×AV))(ds:List DE)(so:σ->List (Nat×Ob))(a:List T->σ->Prop)(Q:Exit->AA->ao->Prop)(K:List iu)(c:List T):Exit->AA->ao->Prop :=λex Y S=>match ex with|.normal=>∃b m,a c b/\Canon B N m Y S [] [] (so b)|.ret=>∃so' m,Canon B N m Y S [] [] so'/\I P U false n Q (.out .ret K) (jW me ds) (aw so' N)|.exit id=>∃so' m,Canon B N m Y S [] [] so'/\I P U false n Q (.out (.exit id) K) (jW me ds) (aw so' N)|_=>False
theorem I.range{T:Type}{x:QO}{ps:List Nat}{qa qb:QC}{dr:Bool}{l:List QI}{gid:FuncId}{cap:List AV}(enc:T->List AV)(L:List T)(B N:Nat)(m0:List (Nat×Nat))(me:List (Nat×AV))(so:σ->List (Nat×Ob))(e:List T->σ->Prop)(s0:σ)(hx:x.ev Y.tm=.fn (.func gid) first cap)(M:∀a∈first,Pure a)(V:∀a∈cap,Pure a)(Ux:Iter P U gid first cap (L.map enc))(i:anS qa=some (dr,l))(h0:e L s0)(d:Nat.ble (S.nx+1) B=true)(hk:∀p∈me,eI B p.2)(Vr:ps.all (Nat.blt · n)=true)(AL:∀x,(enc x).length=ps.length/\∀a∈enc x,Pure a)(hC:Canon B N m0 ⟨Y.tm,S.nx::Y.df⟩ (S.new .df) me (S.nx::Y.df) (so s0))(W:∀(x:T) (G:List T) (s:σ),e (x::G) s->I P U true n (ab6 P U n B N me (S.nx::Y.df) so e Q K G) (.bp dr l [.seq qb]) ⟨IW (zo (λ_=>.u) me) (ps.zip (enc x)),[]⟩ (aw (so s) N))(td:∀s,e [] s->I P U false n Q (.out .normal K) (jW me (S.nx::Y.df)) (aw (so s) N)):I P U false n Q (.run (.XC x ps qa qb) K) Y S:=by
 intro c hc hd;obtain⟨y,pt,z,u,rfl,rfl,rfl,fh,cV⟩:=abj hc;simp only[im,aw_]at hd;rw[aY]at hx;have x_:∀t,eI B ((jW me []).tm t):=λt=>TM hk t;have awK:∀t∈pt,t<n:=λt ht=>by have:=bb_.1 Vr t Z;exact nn this
 have awL:∀(R:AA->ao->Prop)(E:List PanicEntry->AA->ao->Prop)(β:AA)(T:ao),(∀J Y S,¬E J Y S)->lz P U n dr l R E β T->∃dT eC,eE P U true n z β T .normal dT eC/\R dT eC:=by
  intro R E β T hE h;unfold anS at i;split at i;injection i with i;injection i with o q;subst o q;let⟨dT,eC,r,v⟩:=(h [] [] rfl 0 rfl).resolve_right λ⟨J,aI,S',_,b⟩=>hE _ _ _ b;refine⟨dT,eC,?_,v⟩;intro F m A g a w hF hR hS hA;exact(zn.1 fh).wp (r F m A g a w (tM U n A g w .normal dT eC) hF hS hA λa' w' g' o q r=>⟨rfl,g',o,q,r⟩);injection i with i;injection i with o q;subst o q;rename_i dr' l';obtain⟨id,MQ,rfl,r,mY⟩:=TB fh;have v:=h _ _ r;cases dr' with|false =>let⟨aI,S',f,b⟩:=(v 0 rfl).resolve_right λ⟨J,aI,S',_,b⟩=>hE _ _ _ b;rw[bu_,<-ci_]at f;exact⟨aI,S',eE.region f,b⟩|true =>let⟨aI,S',f,b⟩:=v 0 rfl;rw[bu_,<-ci_]at f;have xC:=hd.1;simp only[im,aw_]at xC;exact⟨aI,S',eE.draw xC.1 ((aw_ _ _).mp ((aw_ _ _).mp (mY rfl)).1).1 f,b⟩
  grind
 have key:∀(L:List T)(s:σ),e L s->∃ex j so',Mf ex=some j/\I P U false n Q (.out ex K) (jW me (S.nx::Y.df)) (aw so' N) /\∀(A:Nat->Prop)(gs:Gh)(T0:Array Value),(∀k,gs.al k->k<B)->Ys P U (LJ U.heap.size A gs n T0 .ready none pt z u (jW me []).tm (aw (so s) N)) (L.map enc) j.isNone (LJ U.heap.size A gs n T0 (tg j) j pt z u (jW me []).tm (aw so' N)):=by intro L;induction L with|nil=>exactλs hs=>⟨.normal,none,so s,rfl,td s hs,λA gs T0 _=>.nil _⟩|cons x G ih =>intro s hs;have o:=W x G s hs;let⟨dT,eC,q,r⟩:=awL _ _ _ _ (λJ Y S h=>h) o;let⟨ex,PA,Yk,v,f⟩:Wp P U true n u _ dT eC:=r u cV hd.2;have rn:∀{j:Option Code}{so':List (Nat×Ob)}{m:List (Nat×Nat)},Mf ex=some j->Canon B N m PA Yk [] [] so'->∀(A:Nat->Prop)(gs:Gh)(T0:Array Value),(∀k,gs.al k->k<B)->∀(T:ao)(k:Nat),T.get k=some (.fo (LJ U.heap.size A gs n T0 .ready none pt z u (jW me []).tm (aw (so s) N))) ->FE P U k (enc x) T (.v (.bool j.isNone)) (T.set k (some (.fo (LJ U.heap.size A gs n T0 (tg j) j pt z u (jW me []).tm (aw so' N))))):=λhj hC A gs T0 d T k hT =>FE.rnd q v hC hj Z (AL x).2 awK x_ d hT;cases ex with|normal =>let⟨s',m,b,C⟩:=f;let⟨ex,j,so',k1,k2,k3⟩:=ih s' b;exact⟨ex,j,so',k1,k2,λA gs T0 d=>.cons (rn rfl C A gs T0 d) (k3 A gs T0 d)⟩|ret =>let⟨so',m,b,C⟩:=f;exact⟨.ret,_,so',rfl,C,λA gs T0 d=>.stop (rn rfl b A gs T0 d)⟩|exit id =>let⟨so',m,b,C⟩:=f;exact⟨.exit id,_,so',rfl,C,λA gs T0 d=>.stop (rn rfl b A gs T0 d)⟩|_=>exact f.elim
 let⟨ex,j,so',k1,k2,k3⟩:=key L s0 h0;refine⟨ex,_,_,eE.range (ex:=ex) (so1:=so') hx M V hC (aA_ d) k1 λA gs T0 d=>Ux _ _ _ (k3 A gs T0 d),k2⟩
end
section
variable{rd:Bool}{Y:AA}{i:QI}{l:List QI}{lg:List (List Nat×List Nat×Bool)}{d:Dt}
theorem I.eV(a:bJ Y.tm i.g=some true)(h:bj P U B i.q Y S r d)(k:I P U rd n Q (.kM B V (lg++[d.ns]) rs l K) (bX i.d Y r) (fA S d.W d.m)):I P U rd n Q (.kM B V lg rs (i::l) K) Y S :=λb c=>tf.op c a h (k b (by grind[ij]))
def isB:n0->Bool|.bin ..|.conv ..|.agS ..|.neg _|.y9 ..|.Lq ..|.Re ..|.Cj ..|.slice ..|.len ..|.min ..|.max ..|.call ..|.mv ..|.pick ..|.build ..|.rows ..|.not _|.Pw ..|.field ..|.extract ..|.Ye ..|.Px _=>true|_=>false
theorem bj.pure(h:∀T,D P U true q Y T r T):bj P U B q Y S r ⟨[],[],false⟩:=by refineλn o a=>⟨λ_=>rfl,show gQ S [] fromλp b=>Z,λT _ _ _=>?_⟩;rw[show fA T [] false=T from lR];exact(h T n o a).1
theorem I.dF(a:bJ Y.tm i.g=some true)(h:∀T,D P U true i.q Y T r T)(k:I P U rd n Q (.kM B V (lg++[([],[],false)]) rs l K) (bX i.d Y r) S):I P U rd n Q (.kM B V lg rs (i::l) K) Y S :=I.eV a (bj.pure h) (by rw[show fA S [] false=S from lR];exact k)
theorem I.adC{e:Bool}(a:bJ Y.tm i.g=some true)(h:∀T,D P U true i.q Y T (.v (.bool e)) T)(b:e=true->I P U rd n Q (.kM B V (lg++[([],[],false)]) rs l K) (bX i.d Y (.v (.bool true))) S)(c:e=false->I P U rd n Q (.kM B V (lg++[([],[],false)]) rs l K) (bX i.d Y (.v (.bool false))) S):I P U rd n Q (.kM B V lg rs (i::l) K) Y S:=by refine I.dF a h ?_;cases e with|true=>exact b rfl|false=>exact c rfl
def I.acH{a:IntKind}{e:Int}(b:bJ Y.tm i.g=some true)(h:∀T,D P U true i.q Y T (.v (.int a e)) T)(k:∀d,d=e->I P U rd n Q (.kM B V (lg++[([],[],false)]) rs l K) (bX i.d Y (.v (.int a d))) S):I P U rd n Q (.kM B V lg rs (i::l) K) Y S:=I.dF b h (k e rfl)
def Cv(U:World)(n:Nat)(Y:AA)(S:ao)(aI:AA)(S':ao):Prop :=∀(A:Nat->Prop)(g:Gh)(a:Act)(w:World),St U A g S w->cR g w n Y a->∃b,St U A b S' w/\cR b w n aI a/\Ext A g w b w
theorem eE.cv{c:Code}{ex:Exit}{dT:AA}{eC:ao}(h:Cv U n Y S aI S')(k:eE P U rd n c aI S' ex dT eC):eE P U rd n c Y S ex dT eC:=by intro F m A g a w b d f i;let⟨j,l,o,p⟩:=h A g a w f i;exact wpIn_mono (k F m A j a w b d l o) λe a w q=>tM.ext p q
theorem I.cv{c:QC}(h:Cv U n Y S aI S')(k:I P U rd n Q (.run c K) aI S'):I P U rd n Q (.run c K) Y S:=by intro a b d;let⟨ex,dT,eC,e,f⟩:=k a b d;exact⟨ex,dT,eC,e.cv h,f⟩
theorem I.Aj(h:Cv U n Y S aI S')(k:I P U rd n Q (.bp false l K) aI S'):I P U rd n Q (.bp false l K) Y S:=by intro v x y j z;refine(k v x y j z).imp (λ⟨dT,eC,b,c⟩=>⟨dT,eC,λF m A g a w R d e f i=>?_,c⟩) λ⟨B,dT,eC,b,c⟩=>⟨B,dT,eC,λF m A g a w R d e f i=>?_,c⟩;let⟨o,p,q,k3⟩:=h A g a w e f;exact b F m A o a w R d p q λr w' s q1 t u=>i r w' s q1 t (k3.trans u);let⟨o,p,q,k3⟩:=h A g a w e f;exact b F m A o a w R d p q λr w' s q1 t u=>i r w' s q1 t (k3.trans u)
def I.Fj{b:QC}(h:Cv U n Y S aI S')(k:I P U rd n Q (.out .normal (.seq b::K)) aI S'):I P U rd n Q (.out .normal (.seq b::K)) Y S:=I.cv (c:=b) h k
theorem Cv.freeze{k fz m:Nat}{a:AV}(W:S.get k=some (.arr sz rows fz ex))(P:Y.tm t=a)(E:a=.gr k sz m\/∃c,a=.ob k sz 0 m c)(hm:m=rows.length)(yQ:fz<=m):Cv U n Y S ⟨bK Y.tm t (.sl false rows),Y.df⟩ (S.set k none):=by
 subst hm;intro A g q w F G;have J:∀{r:Gh}{o:Option Ob},St U A r (S.set k o) w->St U A r (S.set k none) w:=λ{_ o}h=>h.forget (aj_ _) λj p b _=>by have b:bK S.get k none j=some p:=b;by_cases e:j=k;grind[aK];rw[aR _ _ e]at b;show bK S.get k o j=some p;rw[aR _ _ e];exact b
 have put:∀{r:Gh},Later g w r w->(t<n->aT r w (.sl false rows) (q.tmps.getD t undef))->cR r w n ⟨bK Y.tm t (.sl false rows),Y.df⟩ q:=by intro r hL f;have d:=G.later hL;refine⟨d.size,λs B=>?_,λs B=>?_,d.df,d.yN⟩;show aT r w (bK Y.tm t _ s) _;by_cases e:s=t;grind[aK];rw[aR _ _ e];exact d.tm s B;show bK Y.tm t _ s=.u;by_cases e:s=t;subst e;have y:=G.out s B;rw[P]at y;rcases E with h|⟨c,h⟩<;>(rw[h]at y;cases y);rw[aR _ _ e];exact d.out s B
 by_cases Q:t<n;have f:=G.tm t Q;rw[P]at f;by_cases K:g.al k;let⟨d,y⟩:=F.freeze W K yQ X;refine⟨_,J y,put d.toLater λ_=>?_,d⟩;have yS:=f.later d.toLater;let⟨k2,k3,cs,ty,p1,p2,p3,p4,L,p6,p7⟩:=y.dh k (.arr sz rows rows.length ex) (aK _ _ _) (d.al k K);have key:∀c,rows.length<=c->aT (g.YF (g.ob k) (rows.length*sz)) w (.sl false rows) (.slice (some ⟨g.ob k,0,none⟩) rows.length c):=by intro c R;by_cases T:rows=[];subst T;exact .nil λh=>Z;refine .sl (sz:=sz) (val:=λi j=>cs.getD (i*sz+j) undef) T (λh=>Z) X (λi row z=>(L i row z).1) (λi j row a z b=>?_) λi j row a z b=>?_;let⟨q1,M⟩:=L i row z;let⟨x,u,V⟩:=M j a b;have mV:j<sz:=Z;have iX:=(aC_.1 z).1;refine⟨.inr ⟨rfl,?_⟩,?_⟩;rw[aJ_];exact oe iX mV;rw[aJ_];rw[cell_of_row w (g.ob k) _ cs ty (0,0) p1,u];simp[bg_,u];let⟨q1,M⟩:=L i row z;let⟨x,u,V⟩:=M j a b;simp only[bg_,u,bR_];exact V
 let⟨v,N⟩:∃v,q.tmps.getD t undef=v:=⟨_,rfl⟩;rw[N]at f⊢;rcases E with rfl|⟨c,rfl⟩;rcases tr f with⟨h,A',rfl⟩|⟨C,c,rfl,u,l⟩;have:rows=[]:=bT_.1 h;subst this;exact .nil λh=>Z;grind;cases f with|ob C R hp u l=>rw[be_];exact key _ l
 refine⟨g,F.forget (aj_ _) λj p b _=>?_,put (Later.refl g w) λ_=>?_,Ext.refl ..⟩;have b:bK S.get k none j=some p:=b;by_cases e:j=k;grind;grind[aR];let⟨v,N⟩:∃v,q.tmps.getD t undef=v:=⟨_,rfl⟩;rw[N]at f⊢;rcases E with rfl|⟨c,rfl⟩;rcases tr f with⟨h,A',rfl⟩|⟨C,c,rfl,u,l⟩;have:rows=[]:=bT_.1 h;subst this;exact .nil λh=>Z;grind;cases f with|ob C R hp u l=>exact absurd C K
 refine⟨g,F.forget (aj_ _) λj p b _=>?_,put (Later.refl g w) λh=>absurd h Q,Ext.refl ..⟩;have b:bK S.get k none j=some p:=b;by_cases e:j=k;grind[aK];grind[aR]
def Rv(U:World)(r:AV)(S:ao)(r':AV)(S':ao):Prop:=∀(A:Nat->Prop)(g0 g:Gh)(b w:World)(v:Value),St U A g S w->aT g w r v->∃a,St U A a S' w/\aT a w r' v/\Ext A g w a w
theorem D.rv{r':AV}{S1:ao}(h:D P U false q Y S r S')(k:Rv U r S' r' S1):D P U false q Y S r' S1:=by intro n o b F m A g a w c R d e f i;refine h n o b F m A g a w c R d e f λv w' j l p s=>?_;let⟨t,u,x,k3⟩:=k A g j w w' v p l;exact i v w' t x u (s.trans k3)
theorem cR.slot{g:Gh}{b:AV}(h:cR g w n Y a)(f:Y.tm t≠.u)(i:aT g w b (a.tmps.getD t undef)):cR g w n ⟨bK Y.tm t b,Y.df⟩ a:=by
 have j:t<n:=by rcases bF_ t n with d|d;grind;exact absurd (h.out t d) f
 refine⟨h.size,λs c=>?_,λs c=>?_,h.df,h.yN⟩;show aT g w (bK Y.tm t b s) _;by_cases e:s=t;grind[aK];rw[aR _ _ e];exact h.tm s c;show bK Y.tm t b s=.u;rw[aR _ _ X];exact h.out s c
theorem Qm{k len:Nat}{b:QO}{o:Oper}(B:res P.toTables o.op=some (.append sz MO (.t t) b))(h1:Y.tm t=.gr k sz len)(Q:S.get k=some (.arr sz rows 0 ex))(hn:len=rows.length)(hb:∀c,b.ev (bK Y.tm t c)=b.ev Y.tm)(hm:iN S (b.ev Y.tm)=some (x::GL))(iW:iN (S.set k none) (b.ev Y.tm)=some (x::GL))(h3:∀row∈x::GL,row.length=sz/\row.all dv=true)(h4:(len+(x::GL).length)*MO<=35184372088832):jZ P U n o Y S (.gr S.nx sz (len+(x::GL).length)) ((S.set k none).new (.arr sz (rows++x::GL) 0 false)):=by
 intro F C A g a w E R G J f K;have T:t<n:=by rcases bF_ t n with h|h;grind;have:=f.out t h;rw[h1]at this;cases this
 have d:=f.tm t T;rw[h1]at d;let⟨v,l⟩:∃v,a.tmps.getD t undef=v:=⟨_,rfl⟩;have L:Y.tm t≠.u:=Z;rw[l]at d;rcases tr d with⟨h,A',rfl⟩|⟨V,c,rfl,hx,q⟩;have W:rows=[]:=bT_.1 X;subst W;have r:cR g w n ⟨bK Y.tm t (.sl true []),Y.df⟩ a:=f.slot L (by rw[l];exact .nil λ_=>rfl);have yR:St U A g (S.set k none) w:=J.forget (aj_ _) λj p M _=>by have M:bK S.get k none j=some p:=M;by_cases e:j=k;grind[aK];grind[aR]
 have i:=D.Ql (P:=P) (U:=U) (dr:=false) (Y:=⟨bK Y.tm t (.sl true []),Y.df⟩) (S:=S.set k none) (sz:=sz) (MO:=MO) (a:=.t t) (b:=b) (rows:=[]) (aK _ _ _) Z aE (λrow d=>(h3 row d).1) Z n o B;refine i F C A g a w E R G yR r λv w' s u y k3=>K v w' s ?_ y k3;subst h;cases u with|ob q1 q2 q3 N z=>rw[be_];exact .gr q1 (by have h:=N rfl;rw[aJ_]at h;exact h) z
 have r:cR g w n ⟨bK Y.tm t (.ob k sz 0 len none),Y.df⟩ a:=f.slot L (by rw[l];have:=aT.ob (g:=g) (w:=w) (k:=k) (sz:=sz) (off:=0) (len:=len) (c:=c) (cx:=none) V (λm h=>Z) X (λ_=>X) q;rwa[be_]at this);have i:=D.awC (P:=P) (U:=U) (dr:=false) (Y:=⟨bK Y.tm t (.ob k sz 0 len none),Y.df⟩) (S:=S) (sz:=sz) (MO:=MO) (a:=.t t) (b:=b) (k:=k) (fz:=0) (ex:=ex) (rows:=rows) (aK _ _ _) Q Z (aF_ _) X h3 h4 n o B;rw[aW_ X]at i;refine i F C A g a w E R G J r λv w' s u y k3=>K v w' s ?_ y k3;cases u with|ob q1 q2 q3 N z=>rw[be_];exact .gr q1 Z z
theorem D.gM{k len:Nat}{b:QO}(h1:Y.tm t=.gr k sz len)(a:S.get k=some (.arr sz rows 0 ex))(d:len=rows.length)(e:∀c,b.ev (bK Y.tm t c)=b.ev Y.tm)(f:iN S (b.ev Y.tm)=some (x::GL))(g:iN (S.set k none) (b.ev Y.tm)=some (x::GL))(h3:∀row∈x::GL,row.length=sz/\row.all dv=true)(h4:(len+(x::GL).length)*MO<=35184372088832):D P U false (.append sz MO (.t t) b) Y S (.gr S.nx sz (len+(x::GL).length)) ((S.set k none).new (.arr sz (rows++x::GL) 0 false)) :=λn o h=>Qm h h1 a d e f g h3 h4
section
variable{T:Type}{f:T->List AV}{MP:List T}{x:T}
theorem I.app{a:Option Nat}{d:Option (Nat×Bool)}{b:QO}{k len:Nat}(m:bJ Y.tm d=some true)(h1:Y.tm t=.gr k sz len)(o:S.get k=some (.arr sz (O.h (List.map f) MP) 0 ex))(s:len=MP.length)(p:∀c,b.ev (bK Y.tm t c)=b.ev Y.tm)(q:iN S (b.ev Y.tm)=some [f x])(r:iN (S.set k none) (b.ev Y.tm)=some [f x])(u:(f x).length=sz)(v:(f x).all dv=true)(w:(len+1)*MO<=35184372088832)(kk:∀g j,g=MP++[x]->j=g.length->I P U rd n Q (.bp false l K) (bX a Y (.gr S.nx sz j)) ((S.set k none).new (.arr sz (O.h (List.map f) g) 0 false))):I P U rd n Q (.bp false (⟨a,d,.append sz MO (.t t) b⟩::l) K) Y S:=by
 have y:(O.h (List.map f) MP).length=MP.length:=aA;have h:=kk _ _ rfl rfl;have e:O.h (List.map f) MP++[f x]=O.h (List.map f) (MP++[x]):=by rw[O.eq,O.eq,ba_];rfl
 rw[<-e,show(MP++[x]).length=len+[f x].length by grind]at h;exact I.op (i:=⟨a,d,.append sz MO (.t t) b⟩) m (D.gM h1 o X p q r Z Z) h
theorem aL.grow{S:ao}{k len:Nat}(c:S.get k=some (.arr sz (O.h (List.map f) MP) 0 ex))(l:len=MP.length):aL S (.gr k sz len) (aQ O f false MP):=by rw[bN];rw[O.eq]at c;refine .gr c Z Z (λi row g b d=>?_) λi j row g a m b d h e=>?_;grind;rw[d]at b;rw[oJ_ b,h]at e;rw[oJ_ e];exact .refl _
end
end
def ec{T:Type}(f:T->AV)(l:List (Int×T)):List (Value×AV):=l.map λp=>(dM p.1,f p.2)
def aN{T:Type}:List (Int×T)->Int->Option T|[],_=>none|p::l,i=>if p.1=i then some p.2 else aN l i
def iA{T:Type}:List (Int×T)->Int->T->List (Int×T)|[],i,v=>[(i,v)]|p::l,i,v=>if p.1=i then(i,v)::l else p::iA l i v
theorem dm{T:Type}{l:List (Int×T)}{i j:Int}{v:T}:aN (iA l i v) j=if i=j then some v else aN l j:=by induction l with|nil=>simp[iA,aN]|cons p l a =>simp only[iA];by_cases h:p.1=i;grind[aN];grind[aN]
section
variable{T:Type}{f:T->AV}{l:List (Int×T)}
theorem uF:qM (ec f l):=λp a=>by obtain⟨q,_,rfl⟩:=aE_.1 a;exact⟨_,rfl⟩
theorem Bn(i:Int):vo (ec f l) i=(aN l i).map f:=by induction l with|nil=>rfl|cons p l a =>simp only[ec,aK_,vo,nr,dM,aN]at a⊢;by_cases h:p.1=i;grind;grind
theorem JX(i:Int)(v:T):DY (ec f l) i (f v)=ec f (iA l i v):=by induction l with|nil=>rfl|cons p l a =>simp only[ec,aK_,DY,nr,dM,iA]at a⊢;by_cases h:p.1=i;grind;grind
end
section
variable{rd:Bool}{Y:AA}{l:List QI}{lg:List (List Nat×List Nat×Bool)}
theorem Gm{x:Option QO}(h:res P.toTables o=some (.kY x)):∃t y a b,o=.makeMap t y/\x=y.map qo/\P.underlying t=some (.map a b):=by cases o with|makeMap t y =>simp only[res,cU]at h;split at h;grind;grind|_ =>
  simp only[res]at h;repeat' split at h
  all_goals cases h
theorem D.kY:D P U false (.kY none) Y S (.mp S.nx) (S.new (.mp [])):=D.run λn o a=>by let⟨t,y,d,e,b,c,f⟩:=Gm a;cases y with|some y=>cases c|none=>exact abc b
theorem D.QZ{x:QO}{m:Int}(a:x.ev Y.tm=.v (.int kk m)):D P U false (.kY (some x)) Y S (.mp S.nx) (S.new (.mp [])):=D.run λn o c=>by let⟨t,y,f,g,d,b,e⟩:=Gm c;cases y with|none=>cases b|some y =>cases oJ_ b;rw[aY]at a;exact Yd d e a
theorem J3{x:QO}(h:res P.toTables o=some (.look z c x i)):∃t u v a b kk d,o=.lookup t u v c/\x=qo u/\i=qo v/\P.underlying t=some (.map a b)/\P.underlying a=some (.int kk)/\eL P b=some d/\z=lift d:=by cases o with
 |lookup t u v j =>
  simp only[res,cU,lS]at h;split at h;·rename_i a b e;split at h;rename_i kk d f g;simp only[oI_,n0.look.injEq]at h;obtain⟨rfl,rfl,rfl,rfl⟩:=h;exact⟨_,_,_,_,_,_,_,rfl,rfl,rfl,e,f,g,rfl⟩;all_goals cases h
  grind|_ =>
  simp only[res]at h;repeat' split at h
  all_goals cases h
theorem D.look{x:QO}{k:Nat}{m:Int}(b:x.ev Y.tm=.mp k)(d:S.get k=some (.mp es))(e:qM es)(hi:i.ev Y.tm=.v (.int .i64 m)):D P U false (.look z c x i) Y S (match vo es m with|some a=>if c then .aM [a,.v (.bool true)] else a|none=>if c then .aM [z,.v (.bool false)] else z) S:=D.run λn o f=>by obtain⟨t,u,v,p,q,kk,r,g,rfl,rfl,h,j,l,rfl⟩:=J3 f;rw[aY]at b hi;exact aew g h j l b d e hi
theorem JW{x b:QO}(h:res P.toTables o=some (.pj x i b)):∃t u v y a c kk,o=.mapUpdate t u v y/\x=qo u/\i=qo v/\b=qo y/\P.underlying t=some (.map a c)/\P.underlying a=some (.int kk):=by cases o with|mapUpdate t u v y =>simp only[res,cU]at h;split at h;grind;grind|_ =>
  simp only[res]at h;repeat' split at h
  all_goals cases h
theorem D.pj{x b:QO}{k:Nat}{m:Int}{a:AV}(c:x.ev Y.tm=.mp k)(e:S.get k=some (.mp es))(f:qM es)(hi:i.ev Y.tm=.v (.int .i64 m))(d:b.ev Y.tm=a):D P U false (.pj x i b) Y S (.v undef) (S.set k (some (.mp (DY es m a)))):=D.run λn o g=>by obtain⟨t,u,v,y,p,q,kk,h,rfl,rfl,rfl,j,l⟩:=JW g;rw[aY]at c hi d;exact Qt h j l c e f hi d
variable{T:Type}{f:T->AV}{kv:List (Int×T)}
theorem I.look{x:QO}{k:Nat}{m:Int}(b:bJ Y.tm g=some true)(e:x.ev Y.tm=.mp k)(j:S.get k=some (.mp (O.h (ec f) kv)))(hi:i.ev Y.tm=.v (.int .i64 m))(o:∀v,aN kv m=some v->I P U rd n Q (.bp false l K) (bX d Y (if c then .aM [f v,.v (.bool true)] else f v)) S)(p:aN kv m=none->I P U rd n Q (.bp false l K) (bX d Y (if c then .aM [z,.v (.bool false)] else z)) S):I P U rd n Q (.bp false (⟨d,g,.look z c x i⟩::l) K) Y S:=by have h:=D.look (P:=P) (U:=U) (z:=z) (c:=c) e j (by rw[O.eq];exact uF) hi;rw[O.eq,Bn]at h;refine I.op (i:=⟨d,g,.look z c x i⟩) b h ?_;cases a:aN kv m with|some v=>exact o v a|none=>exact p a
theorem I.pj{x b:QO}{k:Nat}{m:Int}{v:T}(c:bJ Y.tm g=some true)(e:x.ev Y.tm=.mp k)(j:S.get k=some (.mp (O.h (ec f) kv)))(hi:i.ev Y.tm=.v (.int .i64 m))(o:b.ev Y.tm=f v)(p:∀a,a=iA kv m v->I P U rd n Q (.bp false l K) (bX d Y (.v undef)) (S.set k (some (.mp (O.h (ec f) a))))):I P U rd n Q (.bp false (⟨d,g,.pj x i b⟩::l) K) Y S:=by have h:=D.pj (P:=P) (U:=U) e j (by rw[O.eq];exact uF) hi o;rw[O.eq,JX,<-O.eq (ec f)]at h;exact I.op (i:=⟨d,g,.pj x i b⟩) c h (p _ rfl)
theorem I.kY(O:Hd)(f:T->AV)(a:bJ Y.tm g=some true)(b:∀kv:List (Int×T),kv=[]->I P U rd n Q (.bp false l K) (bX d Y (.mp S.nx)) (S.new (.mp (O.h (ec f) kv)))):I P U rd n Q (.bp false (⟨d,g,.kY none⟩::l) K) Y S:=by have h:=b [] rfl;rw[O.eq]at h;exact I.op (i:=⟨d,g,.kY none⟩) a D.kY h
theorem I.QZ{x:QO}{m:Int}(O:Hd)(f:T->AV)(a:bJ Y.tm g=some true)(b:x.ev Y.tm=.v (.int kk m))(c:∀kv:List (Int×T),kv=[]->I P U rd n Q (.bp false l K) (bX d Y (.mp S.nx)) (S.new (.mp (O.h (ec f) kv)))):I P U rd n Q (.bp false (⟨d,g,.kY (some x)⟩::l) K) Y S:=by have h:=c [] rfl;rw[O.eq]at h;exact I.op (i:=⟨d,g,.kY (some x)⟩) a (D.QZ b) h
end
def Rn.pure{a:AV}(h:Pure a):Rn ι M a a:=λg w x b=>aT.pure (g:=g) (g':=g.pre ι M) (λ_ _ h=>h) (λ_ _ _=>rfl) b h
theorem Rn.gr{j k sz len:Nat}(h:k=ι j)(b:Nat.blt j M=true):Rn ι M (.gr k sz len) (.gr j sz len):=λg w x c=>by subst h;cases c with|lM=>exact .lM|gr d e a=>exact .gr (g:=g.pre ι M) (k:=j) ⟨nn b,d⟩ e a
theorem Rn.nil{j:Nat}:Rn ι M (.sl true []) (.gr j sz 0):=λg w x a=>by cases a with|nil b=>rw[b rfl];exact .lM|sl c=>exact absurd rfl c
theorem Rn.pt{j k sz i q:Nat}(h:k=ι j)(a:Nat.blt j M=true):Rn ι M (.pt k sz i q) (.pt j sz i q):=λg w x b=>by subst h;cases b with|pt c=>exact .pt (g:=g.pre ι M) (k:=j) ⟨nn a,c⟩
theorem Rn.mp{j k:Nat}(h:k=ι j)(a:Nat.blt j M=true):Rn ι M (.mp k) (.mp j):=λg w x b=>by subst h;cases b with|mp c=>exact .mp (g:=g.pre ι M) (k:=j) ⟨nn a,c⟩
theorem Rn.yl{j k:Nat}(h:k=ι j)(a:Nat.blt j M=true):Rn ι M (.yl k) (.yl j):=λg w x b=>by subst h;cases b with|yl c=>exact .yl (g:=g.pre ι M) (k:=j) ⟨nn a,c⟩
def Ad(ι:Nat->Nat)(M:Nat):List AV->List AV->Prop|[],[]=>True|a::l,b::m=>Rn ι M a b/\Ad ι M l m|_,_=>False
theorem Ad.at:∀{l m:List AV},Ad ι M l m->l.length=m.length/\∀(i:Nat)(b:AV),m[i]?=some b->∃a,l[i]?=some a/\Rn ι M a b|[],[],_=>⟨rfl,λi b h=>Z⟩|a::l,b::m,e=>⟨by simp[e.2.at.1],λi c h=>by cases i with|zero=>simp at h;subst h;exact⟨a,rfl,e.1⟩|succ i=>simp at h;let⟨d,g,f⟩:=e.2.at.2 i c h;exact⟨d,Z,f⟩⟩|[],_::_,h=>h.elim|_::_,[],h=>h.elim
theorem Rn.fn{f:Fn}{l m n o:List AV}(h:Ad ι M l m)(k:Ad ι M n o):Rn ι M (.fn f l n) (.fn f m o):=λg w x p=>by cases p with|fn q r s t =>refine .fn (q.trans h.at.1) (r.trans k.at.1) (λi b y c d=>?_) λi b y c d=>?_;let⟨a,e,j⟩:=h.at.2 i b c;exact j g w y (s i a y e d);let⟨a,e,j⟩:=k.at.2 i b c;exact j g w y (t i a y e d)
theorem lO.pure{fz:Nat}(h:∀row∈rows,∀a∈row,Pure a):lO ι M (.arr sz rows fz ex) (.arr sz rows fz ex):=by refine⟨λg w b s c=>?_,λJ h=>Z⟩;let⟨cs,f,k,l,m,n,d,o,p⟩:=c;refine⟨cs,f,k,l,m,n,λi row c=>⟨(d i row c).1,λj a e=>?_⟩,o,p⟩;let⟨x,q,r⟩:=(d i row c).2 j a e;exact⟨x,q,Rn.pure (h _ (as_ c) _ (as_ e)) g w x r⟩
theorem lO.row{fz:Nat}{r0:List AV}(h:Ad ι M r0 r1):lO ι M (.arr sz [r0] fz ex) (.arr sz [r1] fz ex):=by refine⟨λg w b v c=>?_,λJ h=>Z⟩;let⟨cs,d,e,f,k,l,m,n,o⟩:=c;refine⟨cs,d,e,f,k,l,λi row c=>?_,n,o⟩;cases i with|succ i=>simp at c|zero =>simp at c;subst c;let⟨q1,p⟩:=m 0 r0 rfl;refine⟨by rw[<-h.at.1];exact q1,λj a q=>?_⟩;let⟨a0,r,s⟩:=h.at.2 j a q;let⟨x,t,u⟩:=p j a0 r;exact⟨x,t,s g w x u⟩
theorem lO.mp(h:∀e∈es,Pure e.2):lO ι M (.mp es) (.mp es):=by refine⟨λg w b o c=>?_,λJ h=>Z⟩;let⟨entries,clock,f,j,l⟩:=c;refine⟨entries,clock,f,j,λi k a d=>?_⟩;let⟨e,m,n,c⟩:=l i k a d;exact⟨e,m,n,Rn.pure (h _ (as_ d)) g w _ c⟩
def lO.fo{J:eU}:lO ι M (.fo J) (.fo J):=⟨λg w b c a=>a,λd h=>h⟩
theorem Rb.pure{a:AV}(h:Pure a):Rb ι a a:=λgc g w x c d=>aT.pure (g:=gc) (g':=g) (λb q e=>by rw[c.fz];exact e) (λ_ _ _=>rfl) d h
theorem Rb.gr{j k sz len:Nat}(h:k=ι j):Rb ι (.gr j sz len) (.gr k sz len):=λgc g w x a d=>by subst h;cases d with|lM=>exact .lM|gr b e c=>rw[<-a.ob j b];exact .gr (a.al j b) (by rw[a.cp j b];exact e) c
theorem Rb.pt{j k sz i q:Nat}(h:k=ι j):Rb ι (.pt j sz i q) (.pt k sz i q):=λgc g w x a c=>by subst h;cases c with|pt b=>rw[<-a.ob j b];exact .pt (a.al j b)
theorem Rb.mp{j k:Nat}(h:k=ι j):Rb ι (.mp j) (.mp k):=λgc g w x a c=>by subst h;cases c with|mp b=>rw[<-a.ob j b];exact .mp (a.al j b)
def VM(ι:Nat->Nat):List AV->List AV->Prop|[],[]=>True|a::l,b::m=>Rb ι a b/\VM ι l m|_,_=>False
theorem VM.at:∀{l m:List AV},VM ι l m->l.length=m.length/\∀(i:Nat)(b:AV),m[i]?=some b->∃a,l[i]?=some a/\Rb ι a b|[],[],_=>⟨rfl,λi b h=>Z⟩|a::l,b::m,e=>⟨by simp[e.2.at.1],λi c h=>by cases i with|zero=>simp at h;subst h;exact⟨a,rfl,e.1⟩|succ i=>simp at h;let⟨d,g,f⟩:=e.2.at.2 i c h;exact⟨d,Z,f⟩⟩|[],_::_,h=>h.elim|_::_,[],h=>h.elim
theorem mW.pure{fz:Nat}(h:∀row∈rows,∀a∈row,Pure a):mW ι (.arr sz rows fz ex) (.arr sz rows fz ex):=by refine⟨λgc g w b t d _ c=>?_,λJ h=>Z⟩;let⟨cs,k,l,m,n,o,e,p,q⟩:=c;refine⟨cs,k,l,m,n,o,λi row c=>⟨(e i row c).1,λj a f=>?_⟩,p,by rw[d.fz];exact q⟩;let⟨x,r,s⟩:=(e i row c).2 j a f;exact⟨x,r,Rb.pure (h _ (as_ c) _ (as_ f)) gc g w x d s⟩
theorem mW.row{fz:Nat}{r0:List AV}(h:VM ι r0 r1):mW ι (.arr sz [r0] fz ex) (.arr sz [r1] fz ex):=by refine⟨λgc g w b y d _ c=>?_,λJ h=>Z⟩;let⟨cs,e,f,k,l,m,n,o,p⟩:=c;refine⟨cs,e,f,k,l,m,λi row c=>?_,o,by rw[d.fz];exact p⟩;cases i with|succ i=>simp at c|zero =>simp at c;subst c;let⟨q1,q⟩:=n 0 r0 rfl;refine⟨by rw[<-h.at.1];exact q1,λj a r=>?_⟩;let⟨a0,s,t⟩:=h.at.2 j a r;let⟨x,u,v⟩:=q j a0 s;exact⟨x,u,t gc g w x d v⟩
theorem mW.mp(h:∀e∈es,Pure e.2):mW ι (.mp es) (.mp es):=by refine⟨λgc g w b p f _ c=>?_,λJ h=>Z⟩;let⟨entries,clock,j,l,m⟩:=c;refine⟨entries,clock,j,l,λi k a d=>?_⟩;let⟨e,n,o,c⟩:=m i k a d;exact⟨e,n,o,Rb.pure (h _ (as_ d)) gc g w _ f c⟩
theorem mW.fo{J:eU}:mW ι (.fo J) (.fo J):=⟨λgc g w b e c d a=>⟨by rw[c.fz,d J rfl];exact a.1,a.2⟩,λf h=>h⟩
def yB(f:Nat->Nat):List Nat->Bool|[]=>true|j::l=>l.all (λi=>!Nat.beq (f i) (f j))&&yB f l
theorem Wd{f:Nat->Nat}:∀{l:List Nat},yB f l=true->∀i j,i∈l->j∈l->f i=f j->i=j
 |[],_,i,j,h,_,_=>Z|a::l,b,i,j,g,k,e=>by
  simp only[yB,aw_,bb_,cg_]at b;have ne:∀x∈l,f x≠f a:=λx m h=>by have:=b.1 x m;rw[h,bD_]at this;cases this
  rcases al_.1 g with c|c;grind;rcases al_.1 k with d|d;grind;exact Wd b.2 i j c d e
def jE(ι:Nat->Nat)(M:Nat)(T:ao):List (Nat×Ob)->Prop|[]=>True|p::l=>(∃a,T.get (ι p.1)=some a/\lO ι M a p.2)/\jE ι M T l
def fW(o:Nat->Nat)(so:List (Nat×Ob)):List (Nat×Option Ob)->Prop|[]=>True|(k,none)::l=>fW o so l|(k,some a)::l=>(∃j p,o j=k/\fN so j=some p/\mW o p a)/\fW o so l
theorem jE.mem{ι:Nat->Nat}{M:Nat}:∀{l:List (Nat×Ob)},jE ι M T l->∀p∈l,∃a,T.get (ι p.1)=some a/\lO ι M a p.2|[],_,p,h=>Z|q::l,b,p,h=>by rcases al_.1 h with rfl|h;exact b.1;exact b.2.mem p h
theorem fW.mem{o:Nat->Nat}{so:List (Nat×Ob)}:∀{l:List (Nat×Option Ob)},fW o so l->∀k c,(k,some c)∈l->∃j p,o j=k/\fN so j=some p/\mW o p c|[],_,k,c,h=>Z|(a,none)::l,d,k,c,h=>by rcases al_.1 h with h|h;grind;exact fW.mem (l:=l) d k c h|(a,some b)::l,d,k,c,h=>by rcases al_.1 h with h|h;injection h with f e;injection e with e;subst f e;exact d.1;exact fW.mem (l:=l) d.2 k c h
def Ch:List (Nat×Ob)->Bool|[]=>true|(_,.fo _)::_=>false|_::l=>Ch l
theorem We:∀{l:List (Nat×Ob)}{j:Nat}{J:eU},Ch l=true->fN l j≠some (.fo J)
 |[],j,J,_,h=>by cases h|(a,o)::l,j,J,b,h=>by
  have c:Ch l=true:=by cases o<;>first|exact b|cases b
  simp only[fN]at h;split at h;cases oJ_ h;cases b;exact We c h
section
variable{rd:Bool}{Y:AA}{T:ao}{l:List QI}
theorem SJ(hi:yB (aU m) (List.range N)=true)(g:(List.range N).all (λj=>Nat.blt (aU m j) T.nx)=true)(n:jE (aU m) N T so)(q:fW (dL (aU m) N T.nx) so' to)(r:(List.range N).all (λj=>(to.map (·.1)).contains (aU m j))=true)(x:to.all (λp=>true)=true)(s:∀k o,T.get k=some o->k<T.nx):wb (aU m) (aw so N) (aw so' N') T ⟨eD T.get to,T.nx+N'⟩:=by
 refine⟨λi j c b e=>Wd hi i j (aU_.2 c) (aU_.2 b) e,λj d=>nn (bb_.1 g j (aU_.2 d)),λj o t=>n.mem _ (gy t),λk a f=>?_,.inl rfl⟩;have f:eD T.get to k=some a:=f;have key:∀{l:List (Nat×Option Ob)},eD T.get l k=some a->(k,some a)∈l\/(k∉l.map (·.1)/\T.get k=some a):=by intro l;induction l with|nil=>exactλh=>.inr ⟨aE,h⟩|cons p l y =>intro h;rw[eD]at h;by_cases e:k=p.1;grind[aK];grind[aR]
 rcases key f with h|⟨c,b⟩;let⟨j,p,u,v,w⟩:=q.mem k a h;exact .inl ⟨j,p,u,v,w⟩;refine .inr ⟨s k a b,λj d e=>c ?_,b⟩;have:=bb_.1 r j (aU_.2 d);rw[<-e];simpa using this
theorem Vl(hi:yB (aU m) (List.range N)=true)(a:(List.range N).all (λj=>Nat.blt (aU m j) T.nx)=true)(b:jE (aU m) N T so)(c:fW (dL (aU m) N T.nx) so' to)(d:(List.range N).all (λj=>(to.map (·.1)).contains (aU m j))=true)(e:to.all (λp=>true)=true)(f:∀k o,T.get k=some o->k<T.nx)(g:(∀k J,T.get k=some (.fo J)->∃j,j<N/\aU m j=k)\/Ch so'=true):Fits (aU m) (aw so N) (aw so' N') T ⟨eD T.get to,T.nx+N'⟩:=by have h:=SJ (N':=N') hi a b c d e f;refine⟨h.inj,h.lt,h.hS,h.hT,h.nx,?_⟩;rcases g with h|h;exact .inl h;exact .inr λj J=>We h
theorem D.nZ{f:QO}{g:FuncId}{Q6:List AV}{r r₀:AV}(l:aG P U g args (aw so N) r (aw so' N'))(h:fO (f.ev Y.tm) (aZ9.map (·.ev Y.tm))=some (g,Q6))(c:Ad (aU m) N Q6 args)(n:Rb (dL (aU m) N T.nx) r r₀)(hi:yB (aU m) (List.range N)=true)(p:(List.range N).all (λj=>Nat.blt (aU m j) T.nx)=true)(q:jE (aU m) N T so)(s:fW (dL (aU m) N T.nx) so' to)(t:(List.range N).all (λj=>(to.map (·.1)).contains (aU m j))=true)(u:∀k o,T.get k=some o->k<T.nx)(v:(∀k J,T.get k=some (.fo J)->∃j,j<N/\aU m j=k)\/Ch so'=true):D P U false (.call f aZ9) Y T r₀ ⟨eD T.get to,T.nx+N'⟩ :=D.call h (l.frame (Vl hi p q s t aE u v) c.at.1 (λi a b d w=>by let⟨z,x,y⟩:=c.at.2 i b w;rw[x]at d;rw[<-oJ_ d];exact y) n) λe=>Z
theorem Cv.canon{B:Nat}{l:List (Nat×AV)}(c:Nat.ble T.nx B=true)(hC:Canon B N m Y T l ds so):Cv U n Y T (jW l ds) (aw so N):=by intro A g a w b d;refine⟨_,hC.st b,hC.Yj d,(Ext.refl A g w).kI (aA_ hC.bn) λk e=>?_⟩;exact aG_ (b.al k e) (aA_ c)
end
section
variable{rd:Bool}{Y:AA}{l:List QI}
theorem lF.mono{c:QC}(a:∀ex Y S,Q ex Y S->Q' ex Y S)(h:lF P U rd n c Q Y S):lF P U rd n c Q' Y S:=by intro b d e;let⟨ex,dT,eC,f,g⟩:=h b d e;exact⟨ex,dT,eC,f,a _ _ _ g⟩
theorem eO.mono(a:∀ex Y S,Q ex Y S->Q' ex Y S):∀(K:List iu)(ex:Exit)(Y:AA)(S:ao),eO P U rd n Q K ex Y S->eO P U rd n Q' K ex Y S
 |[],ex,Y,S,h=>a _ _ _ h|.seq b::K,ex,Y,S,h=>by cases ex with|normal=>exact lF.mono (eO.mono a K) h|_=>exact eO.mono a K _ _ _ h
 |.BM id::K,ex,Y,S,h=>by cases ex with
  |exit j =>simp only[eO]at h⊢;cases c:Nat.beq j id with|true=>rw[c]at h;exact eO.mono a K _ _ _ h|false=>rw[c]at h;exact eO.mono a K _ _ _ h
  |_=>exact eO.mono a K _ _ _ h
 |.SX::K,ex,Y,S,h=>by cases ex with|goto l=>exact h|_=>exact eO.mono a K _ _ _ h
theorem B9:∀(K L:List iu),eO P U rd n Q (K++L)=eO P U rd n (eO P U rd n Q L) K|[],L=>rfl|.seq b::K,L=>by rw[aX_,eO,eO,B9 K L]|.BM id::K,L=>by rw[aX_,eO,eO,B9 K L]|.SX::K,L=>by rw[aX_,eO,eO,B9 K L]
theorem lz.mono{Q Q':AA->ao->Prop}{E e:List PanicEntry->AA->ao->Prop}(f:∀Y S,Q Y S->Q' Y S)(g:∀c Y S,E c Y S->e c Y S)(h:lz P U n dr l Q E Y S):lz P U n dr l Q' e Y S:=by intro i k m;have h:=h i k m;cases dr with|false=>exactλj d=>(h j d).imp (λ⟨dT,eC,a,b⟩=>⟨dT,eC,a,f _ _ b⟩) λ⟨c,dT,eC,a,b⟩=>⟨c,dT,eC,a,g _ _ _ b⟩|true =>intro j d;let⟨dT,eC,a,b⟩:=h j d;exact⟨dT,eC,a,f _ _ b⟩
def WD{σ:Type}(P:Program)(U:World)(rd:Bool)(n B N:Nat)(st:σ->List (Nat×AV))(ds:List DE)(so:σ->List (Nat×Ob))(a:σ->Prop)(Q:Exit->AA->ao->Prop)(K:List iu):Exit->AA->ao->Prop :=λex Y S=>match ex with|.normal=>∃s m,a s/\Nat.ble S.nx B=true/\Canon B N m Y S (st s) ds (so s)|e=>I P U rd n Q (.out e K) Y S
theorem I.au6(j B N:Nat)(st:σ->List (Nat×AV))(ds:List DE)(so:σ->List (Nat×Ob))(c:σ->Prop){b:QC}{d:List iu}(e:K.drop j=.seq b::d)(h:I P U rd n (WD P U rd n B N st ds so c Q (.seq b::d)) (.bp dr l (K.take j)) Y S)(k:∀s,c s->I P U rd n Q (.run b d) (jW (st s) ds) (aw (so s) N)):I P U rd n Q (.bp dr l K) Y S:=by rw[<-dw_ j K,e];have key:∀ex Y S,eO P U rd n (WD P U rd n B N st ds so c Q (.seq b::d)) (K.take j) ex Y S->eO P U rd n Q (K.take j++.seq b::d) ex Y S:=?_;exact lz.mono (λY S a=>key _ _ _ a) (λo Y S a=>key _ _ _ a) h;intro ex Y S a;rw[B9];refine eO.mono (λex Y S a=>?_) _ _ _ _ a;cases ex with|normal =>let⟨s,m,f,g,i⟩:=a;exact I.Fj (Cv.canon g i) (k s f)|_=>exact a
def I.akD{B:Nat}{st:σ->List (Nat×AV)}{so:σ->List (Nat×Ob)}{a:σ->Prop}(s:σ)(m:List (Nat×Nat))(b:a s)(c:Nat.ble S.nx B=true)(hC:Canon B N m Y S (st s) ds (so s)):I P U rd n (WD P U rd n B N st ds so a Q K) (.out .normal []) Y S:=⟨s,m,b,c,hC⟩
end
def oA:List Nat->(Nat->AV)->Nat->AV|[],f=>λ_=>.u|t::G,f=>match f t with|.u=>oA G f|a=>bK (oA G f) t a
theorem H5:∀(G:List Nat)(f:Nat->AV)(s:Nat),oA G f s=f s\/oA G f s=.u
 |[],f,s=>.inr rfl|t::G,f,s=>by
  have a:=H5 G f s;have key:oA (t::G) f=oA G f\/oA (t::G) f=bK (oA G f) t (f t):=by grind[oA]
  rcases key with h|h<;>rw[h];grind;grind[aK,aR]
def nN(G:List Nat):Nat->QF->AA->ao->QF×AA×ao|0,c,Y,S=>(c,Y,S)|m+1,c,Y,S=>match c with
  |.out .normal (.seq b::K)=>match Y with|⟨f,d⟩=>nN G m (.run b K) ⟨oA G f,d⟩ S
  |c=>match HZ c Y S with|some (a,aI,S')=>nN G m a aI S'|none=>(c,Y,S)
section
variable{rd:Bool}
theorem Cv.prune(G:List Nat){Y:AA}{S:ao}:Cv U n Y S ⟨oA G Y.tm,Y.df⟩ S:=by intro A g a w d b;refine⟨g,d,?_,Ext.refl A g w⟩;refine⟨b.size,λt c=>?_,λt c=>?_,b.df,b.yN⟩;rcases H5 G Y.tm t with h|h;show aT g w (oA G Y.tm t) _;rw[h];exact b.tm t c;show aT g w (oA G Y.tm t) _;rw[h];exact .u;show oA G Y.tm t=.u;rcases H5 G Y.tm t with h|h;rw[h];exact b.out t c;grind
theorem EZ(G:List Nat):∀{m:Nat}{a d:QF}{Y aI:AA}{S S':ao},nN G m a Y S=(d,aI,S')->I P U rd n Q d aI S'->I P U rd n Q a Y S|0,a,d,Y,aI,S,S',h,k=>by grind[nN]|m+1,a,d,Y,aI,S,S',h,k=>by unfold nN at h;split at h;rename_i b K;cases Y;exact I.cv (c:=b) (K:=K) (Cv.prune G) (EZ (m:=m) G h k);split at h;rename_i f g i e;exact abk e (EZ G h k);grind
def I.wi(G:List Nat)(m:Nat){a b:QF}{Y aI:AA}{S S':ao}(h:nN G m a Y S=(b,aI,S'))(k:I P U rd n Q b aI S'):I P U rd n Q a Y S:=EZ G h k
end
section
variable{Y:AA}
theorem D.raw{op:BinOp}{isB:BK}{x y:QO}{k c:IntKind}{a b:Int}{r:Value}(h1:x.ev Y.tm=.v (.int k a))(h2:y.ev Y.tm=.v (.int c b))(i:op≠.eql)(j:op≠.neq)(h:∀(t:TypeId) (w:World),(binOp op t (.int k a) (.int c b)).run P w=.ok r w):D P U false (.bin op isB x y) Y S (.v r) S:=by
 refine D.run λn o l=>?_;obtain⟨t,u,v,s,m,rfl,rfl,z⟩:=zE l;rw[aY]at h1 h2;refine bt.quiet λA g q w B d=>?_;have e:=d.ev u;have f:=d.ev v;rw[h1]at e;rw[h2]at f;refine⟨_,?_,.v⟩;have p:∀(u v:Operand)(x y:Value),eqGuard op t u v x y=pure ():=by intro u v x y;cases op<;>first|rfl|exact absurd rfl i|exact absurd rfl j
 simp[execOp,m,cF e,cF f,p,h]
end
section
variable{f:FuncId}{args:List AV}
theorem aG.canon(h:aG P U f args S r S')(i:Nat.ble S.nx B=true)(j:lK B m N r r')(l:g7 B m N S' so)(n:tV B m (so.map (·.1))=true)(b:Nat.ble B N=true):aG P U f args S r' (aw so N):=by refine⟨h.1,λF o A g a w p c q=>(h.2 F o A g a w p c q).mono ?_⟩;rintro e w'⟨v,s,rfl,t,u,x⟩;have y:Canon B N m ⟨λ_=>.u,[]⟩ S' [] [] so:=⟨trivial,rfl,l,n,b,rfl⟩;have d:=aA_ b;exact⟨v,s.kI B N (aU m),rfl,lK.rep d j t,y.st u,x.kI d λk z=>aG_ (c.al k z) (aA_ i)⟩
theorem qx.awN{q:QC×List QR}(B N:Nat)(so:List (Nat×Ob))(F:qx P f q n)(a:args.length<=n)(b:Nat.ble S.nx B=true)(c:Nat.ble B N=true)(h:I P U false n (vp q.2 λr S'=>∃m,lK B m N r r'/\g7 B m N S' so/\tV B m (so.map (·.1))=true) (.run q.1 []) ⟨qc args,[]⟩ S):aG P U f args S r' (aw so N):=by let⟨r,S',d,m,e,g,i⟩:=qx.QU F a h;exact d.canon b e g i c
end
end Go.Proofs.YtbdcmpknicjopaaGreat
