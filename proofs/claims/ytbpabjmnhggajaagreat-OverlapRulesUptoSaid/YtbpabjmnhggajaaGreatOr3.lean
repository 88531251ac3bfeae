import Derived.Test.YtbpabjmnhggajaaGreatOr2
namespace Go.Proofs.YtbpabjmnhggajaaGreat
set_option linter.all false
open Go.RowKit
variable {a:AV}{parts:Array (Nat × Operand)}{fs:Array Field}{cs:Array Value}{ex:Bool}{s:ByteArray}{c:Call}{fd:Field}{g:Gh}{kd:IntKind}{more rows:List (List AV)}{l:List AV}{news:List Value}{b c2 f i j m off q sz:Nat}{A:Nat->Prop}{x:Operand}{B:Option Addr}{e e2 t t2 ty:TypeId}{v z:Value}{w:World}
section
variable (P:Program) (w0:World) (n:Nat)
def a8 (o:Oper) (α:AA) (S:af) (r:AV) (S':af):Prop :=
 ∀(A:Nat->Prop) (g:Gh) (a:Act) (w:World),St w0 A g S w->cA g w n α a->∃(v:Value) (b:World) (c:Gh),
  ((execOp a.eval o).run P w=.ok (.value v) b\/((execOp a.eval o).run P w=.ok .skip b/\v=undef))/\aN c b r v/\St w0 A c S' b/\Ext A g w c b
def iY (o:Oper) (α:AA) (S:af) (r:AV) (S':af):Prop :=
 ∀(F:Fence) (m:Nat) (A:Nat->Prop) (g:Gh) (a:Act) (w:World) (next:Act->World->Prop) (Q:Exit->Act->World->Prop),kW F->St w0 A g S w->cA g w n α a ->
  (∀(v:Value) (b:World) (c:Gh),aN c b r v->St w0 A c S' b->Ext A g w c b->next (a.put o.dst v) b)->o.uponIn F m P a next Q ((o.semAt F.round a.eval).run P w)
end
section
variable {P:Program}{w0:World}{n:Nat}{o:Oper}{α:AA}{S S':af}{r:AV}
theorem a8.ops (h:a8 P w0 n o α S r S') (l:∀c,o.op ≠ .defer c):iY P w0 n o α S r S':=by
 intro F m A g a w next Q s p q d
 obtain⟨v,e,f,b,i,j,k⟩:=h A g a w p q;rw[Oper.semAt_eq _ _ _ l];rcases b with b|⟨b,rfl⟩
 ·rw[b];exact d v e f i j k
 ·rw[b];exact d undef e f i j k
theorem a8.quiet (h:∀(A:Nat->Prop) (g:Gh) (a:Act) (w:World),St w0 A g S w->cA g w n α a->∃v,(execOp a.eval o).run P w=.ok (.value v) w/\aN g w r v):a8 P w0 n o α S r S:=by
 intro A g a w b c;obtain⟨v,d,e⟩:=h A g a w b c;exact⟨v,w,g,.inl d,e,b,Ext.refl ..⟩
theorem run_move (b:o.op=.move x\/o.op=.assign x):a8 P w0 n o α S (α.ev x) S :=
 a8.quiet λA g a w d c=>⟨a.eval x,by rcases b with b|b<;>simp[execOp,b],c.ev x⟩
theorem XK {c y:Operand}{t:Bool}(d:o.op=.pick c x y) (h:α.ev c=.v (.bool t)):a8 P w0 n o α S (if t then α.ev x else α.ev y) S :=
 a8.quiet λA g a w i b=>by
  have e:=b.ev c;rw[h]at e;have f:=Ma e;cases t with
  |true=>exact⟨a.eval x,by simp[execOp,d,f,asBool],b.ev x⟩
  |false=>exact⟨a.eval y,by simp[execOp,d,f,asBool],b.ev y⟩
theorem C6 {cs:List AV}{cells:Array Value}(c:St w0 A g S w) (h:qR g w cs cells) :
  ∃g',aN g' (w.alloc (.cells cells ty)) (.pt S.nx cs.length 0 0) (.pointer (some ⟨w.heap.size,0,none⟩))/\St w0 A g' (nr S cs).2 (w.alloc (.cells cells ty))/\Ext A g w g' (w.alloc (.cells cells ty)):=by
 obtain⟨f,l⟩:=c.new (.cells cells ty) (.arr cs.length [cs] 0 true) 1 (λJ=>by simp) (λm=>by
  refine⟨cells,ty,dZ,by rw[h.1];simp,by simp,λ_=>rfl,λi row b=>?_,ax_ _,λq=>⟨λd=>?_,λd=>by grind⟩⟩
  ·cases i with
   |succ i=>simp at b
   |zero =>
    simp at b;subst b;refine⟨rfl,λj a e=>?_⟩;have n:j < cells.size:=by rw[h.1];exact (ar_.1 e).1
    exact⟨cells[j],by simp,(h.2 j a _ e (aG_ n)).later m⟩
  ·exact absurd (c.dw _ _ d) (by omega))
 refine⟨_,?_,l,f⟩;have:=aN.pt (g:=g.new S.nx w.heap.size 1) (w:=w.alloc (.cells cells ty)) (k:=S.nx) (sz:=cs.length) (i:=0) (j:=0) (.inr rfl);rw[show (g.new S.nx w.heap.size 1).ob S.nx=w.heap.size from aJ _ _ _]at this;simpa using this
theorem UP (b:o.op=.alloc e) (c:d_ P e=some z):a8 P w0 n o α S (nr S (z.cells.toList.map cK)).1 (nr S (z.cells.toList.map cK)).2:=by
 intro A g a w d k;obtain⟨f,h,i,j⟩:=C6 (ty:=e) d (qR.cK z.cells);refine⟨_,_,f,.inl ?_,h,i,j⟩;simp[execOp,b,Instr.alloc,o8 c,newVar,newRow]
theorem abV (b:o.op=.box e x) (c:(a7 (α.ev x)).all dh=true):a8 P w0 n o α S (nr S (a7 (α.ev x))).1 (nr S (a7 (α.ev x))).2:=by
 intro A g a w d f;obtain⟨h,c2,m⟩:=sE c (f.ev x);obtain⟨i,j,k,l⟩:=C6 (ty:=e) d ⟨h,c2⟩;refine⟨_,_,i,.inl ?_,j,k,l⟩;simp[execOp,b,Instr.box,newVar,newRow]
theorem Sp (b:o.op=.build t parts) (h:w5 P t (parts.toList.map λ(i,x)=>(i,α.ev x))=some r):a8 P w0 n o α S r S :=
 a8.quiet λA g a w f c=>by
  obtain⟨v,d,e⟩:=O7 (w:=w) c h;exact⟨v,by simp only[execOp,b,Sem.run_bind];rw[d];rfl,e⟩
theorem UQ (c:o.op=.load t x) (h:yh P S t (α.ev x)=some r):a8 P w0 n o α S r S :=
 a8.quiet λA g a w d e=>by
  obtain⟨b,q,v,f,i,j⟩:=ET d h (e.ev x);exact⟨v,by simp[execOp,c,Instr.loadAt,f,Instr.sureAddr,i],j⟩
theorem Sq {b:Operand}(e:o.op=.store t x b) (h:sD P S t (α.ev b) (α.ev x)=some S'):a8 P w0 n o α S (.v undef) S':=by
 intro A g a w f d;obtain⟨c,q,i,j,k,p,l,m⟩:=CH f h (d.ev x) (d.ev b);exact⟨undef,i,g,.inr ⟨by simp[execOp,e,Instr.storeAt,j,Instr.sureAddr,k],rfl⟩,.v,m,l⟩
theorem XL {op:BinOp}{y:Operand}{a b:Value}(h:vp P op t a b=some v):(do eqGuard op t x y a b;binOp op t a b:Sem Value).run P w=.ok v w:=by
 unfold vp at h;split at h
 ·rename_i k i l j;split at h
  ·rename_i f;obtain rfl:=of_decide_eq_true f;cases op<;>simp_all[eqGuard,binOp,Op.intCmp]
  ·grind
 ·cases op<;>simp_all[eqGuard,binOp,Op.stringOp]
 ·rename_i p q;split at h
  ·rename_i g;have c:(Op.equal t (.bool p) (.bool q)).run P w=.ok (p == q) w:=by
    show (Op.equalIn (9999+1) t (.bool p) (.bool q)).run P w=_;rw[Op.equalIn];simp only[Sem.run_bind,run_underlying g,Result.andThen_ok]
    rfl
   have d:∀op:BinOp,(eqGuard op t x y (.bool p) (.bool q)).run P w=.ok () w:=by
    intro op;cases op<;>rfl
   split at h
   ·obtain rfl:=oJ_ h;simp only[Sem.run_bind,d,Result.andThen_ok];have e:binOp .eql t (.bool p) (.bool q)=(do pure (Value.bool (<-Op.equal t (.bool p) (.bool q))):Sem Value):=rfl;rw[e];simp only[Sem.run_bind,c,Result.andThen_ok]
    rfl
   ·obtain rfl:=oJ_ h;simp only[Sem.run_bind,d,Result.andThen_ok];have e:binOp .neq t (.bool p) (.bool q)=(do pure (Value.bool (!(<-Op.equal t (.bool p) (.bool q)))):Sem Value):=rfl;rw[e];simp only[Sem.run_bind,c,Result.andThen_ok]
    rfl
   ·grind
  ·grind
 ·grind
theorem FU {op:BinOp}{y:Operand}{a b:Value}(i:o.op=.binOp op t x y ty) (j:α.ev x=.v a) (k:α.ev y=.v b) (h:vp P op t a b=some v):a8 P w0 n o α S (.v v) S :=
 a8.quiet λA g c w l d=>by
  have e:=d.ev x;have f:=d.ev y;rw[j]at e;rw[k]at f;have:=XL (x:=x) (y:=y) (w:=w) h;simp only[Sem.run_bind]at this;refine⟨v,?_,.v⟩;simp only[execOp,i,b_ e,b_ f,Sem.run_bind];rw[this]
  rfl
theorem UR {op:BinOp}{y:Operand}{k:IntKind}{a b c:Int}(i:o.op=.binOp op t x y ty) (j:α.ev x=.v (.int k a)) (l:α.ev y=.v (.int k b)) (h:arith op a b=some c) :
  a8 P w0 n o α S (.v (.int k (k.wrap c))) S :=
 a8.quiet λA g q w m d=>by
  have e:=d.ev x;have f:=d.ev y;rw[j]at e;rw[l]at f;refine⟨_,?_,.v⟩;cases op<;>simp_all[arith]<;>simp[execOp,i,b_ e,b_ f,eqGuard,binOp,Op.intArith,h]
theorem Sr {y:Operand}{a b:ByteArray}(f:o.op=.binOp .add t x y ty) (i:α.ev x=.v (.string a)) (j:α.ev y=.v (.string b)) (h:a.size+b.size<=9223372036854775807) :
  a8 P w0 n o α S (.v (.string (a++b))) S :=
 a8.quiet λA g q w k c=>by
  have d:=c.ev x;have e:=c.ev y;rw[i]at d;rw[j]at e;refine⟨_,?_,.v⟩;have:¬ (((a.size+b.size:Nat):Int) > IntKind.i64.max):=by
   have:IntKind.i64.max=9223372036854775807:=by rfl
   rw[this];omega
  simp only[execOp,f,b_ d,b_ e,eqGuard,binOp,Op.stringOp,Sem.run_bind,if_neg this]
  rfl
theorem abW {b:Bool}(c:o.op=.unOp .not t x) (d:α.ev x=.v (.bool b)):a8 P w0 n o α S (.v (.bool (!b))) S :=
 a8.quiet λA g q w f e=>by
  have a:=e.ev x;rw[d]at a;exact⟨_,by simp[execOp,c,b_ a,Op.unary],.v⟩
theorem abX {k:IntKind}{a:Int}(c:o.op=.unOp .neg t x) (d:α.ev x=.v (.int k a)):a8 P w0 n o α S (.v (.int k (k.wrap (0 - a)))) S :=
 a8.quiet λA g q w f e=>by
  have b:=e.ev x;rw[d]at b;exact⟨_,by simp[execOp,c,b_ b,Op.unary,Op.intArith],.v⟩
theorem Pa {src b:TypeId}{k0 k d:IntKind}{a:Int}(e:o.op=.convert src b x) (f:P.underlying src=some (.int k0)) (h:P.underlying b=some (.int k)) (i:α.ev x=.v (.int d a)) :
  a8 P w0 n o α S (.v (.int k (k.wrap a))) S :=
 a8.quiet λA g q w l j=>by
  have c:=j.ev x;rw[i]at c;exact⟨_,by simp[execOp,e,b_ c,convert,run_underlying f,run_underlying h,Conv.intToInt],.v⟩
theorem Pb {src a:TypeId}(c:o.op=.convert src a x) (d:P.underlying src=some .string) (e:P.underlying a=some .string) (f:α.ev x=.v (.string s)) :
  a8 P w0 n o α S (.v (.string s)) S :=
 a8.quiet λA g q w i h=>by
  have b:=h.ev x;rw[f]at b;exact⟨_,by simp[execOp,c,b_ b,convert,run_underlying d,run_underlying e],.v⟩
theorem MK {row:List AV}(h:aN g w (.ip row) (.pointer (some ⟨b,q,none⟩))) (j:Nat):aN g w (.ip (row.drop j)) (.pointer (some ⟨b,q+j,none⟩)):=by
 cases h with
 |@ip _ _ _ val h d =>
  refine .ip (val:=λi=>val (j+i)) (λi a c=>?_) (λi a c=>?_)
  ·grind
  ·grind
theorem zY {f:Field}(h:ep P f.type=some (m+1)):(fieldPlace ⟨b,q,none⟩ f).run P w=.ok ⟨b,q+f.offset,none⟩ w:=by
 simp[fieldPlace,c6 h,jh]
theorem Pc {s:TypeId}{row:List AV}(c:o.op=.fieldAddr s x f) (d:P.underlying s=some (.struct fs)) (h:fs[f]?=some fd) (i:ep P fd.type=some (m+1))
  (j:α.ev x=.ip row):a8 P w0 n o α S (.ip (row.drop fd.offset)) S :=
 a8.quiet λA g q w l k=>by
  have a:=k.ev x;rw[j]at a;obtain⟨b,p,e,_⟩:=FG a;rw[e]at a;exact⟨_,by simp[execOp,c,Instr.fieldAt,run_underlying d,h,e,Instr.sureAddr,zY i],MK a _⟩
theorem Pd {s:TypeId}{k:Nat}(c:o.op=.fieldAddr s x f) (d:P.underlying s=some (.struct fs)) (e:fs[f]?=some fd) (h:ep P fd.type=some (m+1))
  (l:α.ev x=.pt k sz i j):a8 P w0 n o α S (.pt k sz i (j+fd.offset)) S :=
 a8.quiet λA g q w t p=>by
  have a:=p.ev x;rw[l]at a;obtain⟨y,b⟩:∃y,q.eval x=y:=⟨_,rfl⟩;rw[b]at a;cases a with
  |pt r=>exact⟨_,by simp[execOp,c,Instr.fieldAt,run_underlying d,e,b,Instr.sureAddr,zY h];rfl,by rw[bx_];exact .pt r⟩
theorem Hq (h:pP P t l j=some r) (c:qR g w l cs):∃v,(part t cs j).run P w=.ok v w/\aN g w r v:=by
 unfold pP at h;split at h
 ·rename_i m e n;split at h
  ·rename_i a;have a:=aq_ a;obtain rfl:=oJ_ h;rw[P5];refine⟨.agg (cs.extract j (j+m)),by simp[part,A1 e,c6 n],.agg ?_ (λi b x d f=>?_)⟩
   ·simp[c.1];omega
   ·rw[bG_]at d;split at d
    ·rename_i o;rw[bY_]at d;rw[Array.getElem?_extract]at f;split at f
     ·exact c.2 _ b x d f
     ·grind
    ·grind
  ·grind
 ·rename_i e;have k:j < cs.size:=by rw[c.1];exact (ar_.1 h).1
  exact⟨cs[j],by simp[part,A1 e,aG_ k],c.2 j r _ h (aG_ k)⟩
 ·grind
theorem IU (h:aN g w (.agg l) v):∃cs,v=.agg cs/\qR g w l cs:=by
 cases h with
 |agg a h=>exact⟨_,rfl,a,h⟩
theorem Ss (b:o.op=.field t x f) (c:P.underlying t=some (.struct fs)) (d:fs[f]?=some fd) (i:α.ev x=.agg l) (h:pP P fd.type l fd.offset=some r) :
  a8 P w0 n o α S r S :=
 a8.quiet λA g q w s j=>by
  have a:=j.ev x;rw[i]at a;obtain⟨cs,e,k⟩:=IU a;obtain⟨v,m,p⟩:=Hq (w:=w) h k;exact⟨v,by simp[execOp,b,Instr.field,run_underlying c,d,e,asAgg,m],p⟩
theorem Pe (d:o.op=.extract x i) (e:α.ev x=.aL l) (h:l[i]?=some r):a8 P w0 n o α S r S :=
 a8.quiet λA g q w k f=>by
  have a:=f.ev x;rw[e]at a;obtain⟨y,b⟩:∃y,q.eval x=y:=⟨_,rfl⟩;rw[b]at a;cases a with
  |@aL _ cs m j =>
   have c:i < cs.size:=by grind
   exact⟨cs[i],by simp[execOp,d,b,Instr.extract,aG_ c],j i r _ h (aG_ c)⟩
theorem qQ {a:Act}(f:cA g w m α a) (l:Array Operand):(l.map a.eval).size=(l.toList.map α.ev).length/\∀(i:Nat) (b:AV) (x:Value),(l.toList.map α.ev)[i]?=some b->(l.map a.eval)[i]?=some x->aN g w b x:=by
 refine⟨by simp,λi b x d c=>?_⟩;simp only[aS_,ba_]at d;obtain⟨y,e,rfl⟩:=d;rw[bZ_]at c;rw[bd_]at e;rw[e]at c;simp at c;subst c;exact f.ev y
theorem ML {f:Fn}{first cap:Array Operand}(b:o.op=.makeFunc f first cap):a8 P w0 n o α S (.fn f (first.toList.map α.ev) (cap.toList.map α.ev)) S :=
 a8.quiet λA g q w i a=>by
  obtain⟨c,d⟩:=qQ a first
  obtain⟨e,h⟩:=qQ a cap;exact⟨_,by simp[execOp,b,Instr.makeFunc],.fn c e d h⟩
theorem JT (e:o.op=.nilCheck x) (a:(∃c,α.ev x=.ip c)\/∃k sz i j,α.ev x=.pt k sz i j):a8 P w0 n o α S (α.ev x) S :=
 a8.quiet λA g q w h f=>by
  have b:=f.ev x;refine⟨q.eval x,?_,b⟩;obtain⟨y,d⟩:∃y,q.eval x=y:=⟨_,rfl⟩;rw[d]at b;rcases a with ⟨c,a⟩|⟨k,sz,i,j,a⟩<;>rw[a]at b<;>cases b<;>simp[execOp,e,d]
end
section
variable {P:Program}{w0:World}{n:Nat}{o:Oper}{α:AA}{S S':af}{r:AV}
def Hr (g:Gh) (w:World) (sz:Nat) (rows:List (List AV)) (cs:Array Value):Prop :=
 cs.size=rows.length*sz/\∀(i:Nat) (row:List AV),rows[i]?=some row->row.length=sz/\∀(j:Nat) (a:AV),row[j]?=some a->∃x,cs[i*sz+j]?=some x/\aN g w a x
theorem o3 (hi:i < m) (a:j < sz):i*sz+j < m*sz:=by
 have:=aO_ sz (show i+1<=m from hi);rw[aJ_,br_]at this;omega
theorem zk {g:Gh}{w:World}{sz:Nat}:∀{parts:List (Nat × AV)}{u:List (Nat × Value)}{rows m:List (List AV)}{cs:Array Value},v8 sz rows parts=some m->Hr g w sz rows cs ->
  II (λ(p:Nat × AV) (q:Nat × Value)=>p.1=q.1/\aN g w p.2 q.2) parts u->∃cs',Instr.fill (λi=>some (i*sz,sz)) cs u=some cs'/\Hr g w sz m cs'/\m.length=rows.length
 |[],_,rows,m,cs,h,k,r=>by
  cases r;obtain rfl:=oJ_ h;exact⟨cs,rfl,k,rfl⟩
 |(i,a)::rest,_,rows,m,cs,h,k,r=>by
  cases r with
  |@cons _ q _ M C D =>
   obtain⟨j,x⟩:=q;obtain⟨e,v⟩:=C;simp only at e v;subst e;simp only[v8]at h;split at h
   ·rename_i z;simp only[al_]at z;obtain⟨⟨n,e2⟩,E⟩:=z;have n:=aH_ n;have e2:i < rows.length:=aq_ e2;obtain⟨A,c2,N⟩:=sE E v;have f:=CJ (i*sz) x.cells.toList 0 cs;have F:i*sz+sz<=rows.length*sz:=by
     have:=aO_ sz (show i+1<=rows.length from e2)
     rwa [aJ_,br_]at this
    have O:i*sz+x.cells.size<=cs.size:=by rw[k.1,A,n];exact F
    have f2:=f.2 (by grind);have G:Hr g w sz (rows.set i (a7 a)) ((x.cells.toList.zipIdx 0).foldl (λcs (p:Value × Nat)=>cs.setIfInBounds (i*sz+p.2) p.1) cs):=by
     refine⟨by rw[f.1,k.1];simp,λd s l=>?_⟩;by_cases e:d=i
     ·subst e;rw[cQ_ e2]at l;obtain rfl:=oJ_ l;refine⟨n,λb t o=>?_⟩;have H:b < (a7 a).length:=(ar_.1 o).1;have B:b < x.cells.size:=by grind
      refine⟨x.cells[b],?_,c2 b t _ o (aG_ B)⟩;rw[f2];simp only[bs_,bh_,bd_];rw[if_neg (by omega),if_pos (by omega),show d*sz+b - d*sz=b by omega];exact aG_ B
     ·rw[dl_ (Ne.symm e)]at l;refine⟨(k.2 d s l).1,λb t o=>?_⟩;obtain⟨y,I,J⟩:=(k.2 d s l).2 b t o;have H:b < sz:=by rw[<-(k.2 d s l).1];exact (ar_.1 o).1
      refine⟨y,?_,J⟩;rw[f2];simp only[bs_,bh_,bd_,A,n];rcases Nat.lt_or_gt_of_ne e with c|c
      ·grind[o3]
      ·have:i*sz+sz<=d*sz:=by
        have:=aO_ sz (show i+1<=d from c)
        rwa [aJ_,br_]at this
       rw[if_neg (by omega),if_neg (by omega)];exact I
    obtain⟨cs',K,L,P⟩:=zk h G D;refine⟨cs',?_,L,by grind⟩;rw[<-K];simp only[Instr.fill];rw[if_neg (by grind)];congr 1;rw[<-cS_,dm_]
   ·grind
theorem JU {b:Array Value}{len:Nat}(h:0 < b.size):Hr g w b.size (List.replicate len (b.toList.map cK)) ((Array.range (len*b.size)).map (b[· % b.size]!)):=by
 refine⟨by simp,λi row d=>?_⟩;rw[cU_]at d;split at d
 ·rename_i f;obtain rfl:=oJ_ d;refine⟨by simp,λj a k=>?_⟩;have l:=qR.cK (g:=g) (w:=w) b;have c:j < b.size:=by grind
  refine⟨b[j],?_,l.2 j a _ k (aG_ c)⟩;have m:=o3 f c;rw[bZ_,cr_,if_pos m];have e:(i*b.size+j) % b.size=j:=by rw[cs_,ct_,cu_ c]
  simp[e,c]
 ·grind
theorem Pf {c:Nat}(h:Hr g w sz rows cs) (n:w.heap[b]?=some (.cells cs ty (0,0))) (o:∀q,g.fz b q) (l:ex=true->c=rows.length) (f:rows.length<=c) :
  aN g w (.sl ex rows) (.slice (some ⟨b,0,none⟩) rows.length c):=by
 cases rows with
 |nil=>exact .nil l
 |cons r p =>
  refine .sl (sz:=sz) (val:=λi j=>cs.getD (i*sz+j) undef) (by simp) l f (λi row d=>(h.2 i row d).1) (λi j row a d k=>⟨o _,?_⟩) (λi j row a d k=>?_)
  ·obtain⟨x,e,m⟩:=(h.2 i row d).2 j a k;rw[cell_of_row _ _ _ cs ty (0,0) n,aD_,e];simp[aT_,e]
  ·obtain⟨x,e,m⟩:=(h.2 i row d).2 j a k;simp only[aT_,e,bz_];exact m
theorem IV {len:Nat}(s:o.op=.buildSlice t len parts) (u:P.underlying t=some (.slice e)) (v:d_ P e=some z) (y:ep P e=some sz)
  (h1:len*sz<=16777216) (h2:z.cells.size=sz) (h3:0 < sz) (h:v8 sz (List.replicate len (z.cells.toList.map cK)) (parts.toList.map λ(i,x)=>(i,α.ev x))=some rows):a8 P w0 n o α S (.sl true rows) S:=by
 intro A g a w B C;obtain⟨cs,d,k,m⟩:=zk h (by rw[<-h2];exact JU (by omega)) (yj C parts.toList);rw[bH_]at m;obtain⟨p,D⟩:=B.Jl (.cells cs e);refine⟨.slice (some ⟨w.heap.size,0,none⟩) len len,w.alloc (.cells cs e),g.Jl w.heap.size,.inl ?_,?_,D,p⟩
 ·have E:¬ (len*sz > 2 ^ 24):=by omega
  rw[h2]at d;simp only[execOp,s,Instr.buildSlice,Sem.run_bind,run_underlying u,Result.andThen_ok,c6 y,if_neg E];by_cases c:len*sz=0
  ·have e0:∀f:Nat->Value,(Array.range (len*sz)).map f=#[]:=λf=>by grind
   rw[e0]at d;have l:Instr.fill (λi=>some (i*sz,sz)) ((Array.range (len*sz)).map λx=>(#[]:Array Value)[x % (#[]:Array Value).size]!) (Array.map (λx=>(x.fst,a.eval x.snd)) parts).toList=some cs:=by
    rw[e0,bM_];exact d
   rw[if_pos c];simp only[Sem.run_bind,Sem.run_pure,Result.andThen_ok,l,newRow,run_newObj]
   rfl
  ·have l:Instr.fill (λi=>some (i*sz,sz)) ((Array.range (len*sz)).map λx=>z.cells[x % z.cells.size]!) (Array.map (λx=>(x.fst,a.eval x.snd)) parts).toList=some cs:=by
    rw[bM_,h2];exact d
   rw[if_neg c];simp only[Sem.run_bind,o8 v,Sem.run_pure,Result.andThen_ok,l,newRow,run_newObj]
   rfl
 ·have:=Pf (ex:=true) (c:=rows.length) (b:=w.heap.size) (ty:=e) (g:=g.Jl w.heap.size) (w:=w.alloc (.cells cs e)) (sz:=sz) (rows:=rows) (cs:=cs)
   ⟨k.1,λi row r=>⟨(k.2 i row r).1,λj b F=>let ⟨x,G,H⟩:=(k.2 i row r).2 j b F;⟨x,G,H.later p.toLater⟩⟩⟩ dZ (λq=>.inr rfl) (λ_=>rfl) (ac_ _)
  rwa [m]at this
theorem abY {row:List AV}(h:aN g w (.sl ex rows) v) (n:∀r ∈ rows,r.length=sz) (hi:rows[i]?=some row) :
  ∃b q c,v=.slice (some ⟨b,q,none⟩) rows.length c/\aN g w (.ip row) (.pointer (some ⟨b,q+i*sz,none⟩)):=by
 cases h with
 |nil k=>simp at hi
 |@sl _ _ b q d c val o k l p h m =>
  have e:d=sz:=by grind
  subst e;refine⟨b,q,c,rfl,.ip (val:=λj=>val i j) (λj a f=>?_) (λj a f=>m i j row a hi f)⟩;rw[bx_];exact h i j row a hi f
theorem MN {β:Type}{rows:List β}{k:Int}{x:β}(h:idx rows k=some x):0<=k/\rows[k.toNat]?=some x/\k < rows.length:=by grind[idx]
theorem Ph {y:Operand}{k:IntKind}{i:Int}{row:List AV}(j:o.op=.indexAddr t x y) (l:P.underlying t=some (.slice e)) (m:α.ev x=.sl ex rows) (s:α.ev y=.v (.int k i))
  (a:ep P e=some sz) (hi:idx rows i=some row) (u:∀r ∈ rows,r.length=sz):a8 P w0 n o α S (.ip row) S :=
 a8.quiet λA g q w E d=>by
  have f:=d.ev x;have h:=d.ev y;rw[m]at f;rw[s]at h;obtain⟨v,z,B⟩:=MN hi;obtain⟨b,p,c,C,D⟩:=abY f u z;refine⟨_,?_,D⟩;simp only[execOp,j,C,b_ h,Instr.indexAt,asIntOf,Sem.run_bind,run_underlying l,c6 a,Result.andThen_ok,Sem.run_pure];rw[if_pos ⟨v,B⟩];simp[c6 a,jh]
theorem Pj {y:Operand}{k len:Nat}{cx:Option Nat}{i:Int}(h:o.op=.indexAddr t x y) (l:P.underlying t=some (.slice e)) (m:α.ev x=.ob k sz off len cx) (p:α.ev y=.v (.int kd i))
  (b:ep P e=some sz) (h0:0<=i) (r:i < len):a8 P w0 n o α S (.pt k sz (off+i.toNat) 0) S :=
 a8.quiet λA g q w B c=>by
  have a:=c.ev x;have d:=c.ev y;rw[m]at a;rw[p]at d;obtain⟨v,f⟩:∃v,q.eval x=v:=⟨_,rfl⟩;rw[f]at a;cases a with
  |ob s C D u z =>
   have:=aN.pt (g:=g) (w:=w) (sz:=sz) (i:=off+i.toNat) (j:=0) s;refine⟨_,?_,this⟩;simp only[execOp,h,f,b_ d,Instr.indexAt,asIntOf,Sem.run_bind,run_underlying l,c6 b,Result.andThen_ok,Sem.run_pure];rw[if_pos ⟨h0,r⟩];simp[c6 b,jh,aJ_]
theorem IW {y:Operand}{k len:Nat}{q:Int}(l:o.op=.indexAddr t x y) (p:P.underlying t=some (.array len e)) (r:α.ev x=.pt k sz i j) (s:α.ev y=.v (.int kd q))
  (b:ep P e=some m) (h0:0<=q) (u:q < len):a8 P w0 n o α S (.pt k sz i (j+q.toNat*m)) S :=
 a8.quiet λA g c w B d=>by
  have a:=d.ev x;have f:=d.ev y;rw[r]at a;rw[s]at f;obtain⟨v,h⟩:∃v,c.eval x=v:=⟨_,rfl⟩;rw[h]at a;cases a with
  |pt z =>
   refine⟨_,?_,.pt z⟩;simp only[execOp,l,h,b_ f,Instr.indexAt,asIntOf,Instr.sureAddr,Sem.run_bind,run_underlying p,c6 b,Result.andThen_ok,Sem.run_pure];rw[if_pos ⟨h0,u⟩];simp[c6 b,jh,bx_]
theorem IX {y:Operand}{row:List AV}{len:Nat}{q:Int}(j:o.op=.indexAddr t x y) (k:P.underlying t=some (.array len e)) (l:α.ev x=.ip row) (r:α.ev y=.v (.int kd q))
  (d:ep P e=some m) (h0:0<=q) (s:q < len):a8 P w0 n o α S (.ip (row.drop (q.toNat*m))) S :=
 a8.quiet λA g c w u f=>by
  have a:=f.ev x;have h:=f.ev y;rw[l]at a;rw[r]at h;obtain⟨b,p,i,_⟩:=FG a;rw[i]at a;refine⟨_,?_,MK a _⟩;simp only[execOp,j,i,b_ h,Instr.indexAt,asIntOf,Instr.sureAddr,Sem.run_bind,run_underlying k,c6 d,Result.andThen_ok,Sem.run_pure];rw[if_pos ⟨h0,s⟩];simp[c6 d,jh]
theorem MO {y:Operand}{k:IntKind}{i:Int}{b:UInt8}(h:o.op=.index t x y) (j:P.underlying t=some .string) (l:α.ev x=.v (.string s)) (m:α.ev y=.v (.int k i)) (hi:idx s.data.toList i=some b) :
  a8 P w0 n o α S (.v (.int .u8 b.toNat)) S :=
 a8.quiet λA g q w v a=>by
  have c:=a.ev x;have d:=a.ev y;rw[l]at c;rw[m]at d;obtain⟨p,r,z⟩:=MN hi;refine⟨_,?_,.v⟩;have u:i.toNat < s.size:=by
   have:=(ar_.1 r).1;simpa using this
  have e:s[i.toNat]?=some b:=by
   rw[getElem?_pos s i.toNat u];have f:s.data[i.toNat]?=some b:=by grind
   rw[aG_ (by grind)]at f;exact f
  simp only[execOp,h,b_ c,b_ d,Instr.index,asIntOf,Sem.run_bind,run_underlying j,Result.andThen_ok,Sem.run_pure,if_pos p,e]
theorem MP {y:Operand}{len:Nat}{q:Int}(f:o.op=.index t x y) (i:P.underlying t=some (.array len e)) (j:α.ev x=.agg l) (k:α.ev y=.v (.int kd q))
  (p:ep P e=some m) (h:pP P e l (q.toNat*m)=some r) (h0:0<=q) (s:q < len):a8 P w0 n o α S r S :=
 a8.quiet λA g c w D a=>by
  have b:=a.ev x;have d:=a.ev y;rw[j]at b;rw[k]at d;obtain⟨cs,u,z⟩:=IU b;obtain⟨v,B,C⟩:=Hq (w:=w) h z;refine⟨v,?_,C⟩;simp only[execOp,f,u,b_ d,Instr.index,asIntOf,Sem.run_bind,run_underlying i,Result.andThen_ok,Sem.run_pure];rw[if_pos ⟨h0,s⟩];simp[c6 p,B]
theorem MQ (h:qg a=some m) (b:aN g w a v):(∃A c,v=.slice A m c)\/∃s,v=.string s/\s.size=m:=by
 unfold qg at h;split at h
 ·obtain rfl:=oJ_ h;cases b with
  |nil=>exact .inl ⟨_,_,rfl⟩
  |sl=>exact .inl ⟨_,_,rfl⟩
 ·obtain rfl:=oJ_ h;cases b with
  |ob=>exact .inl ⟨_,_,rfl⟩
 ·obtain rfl:=oJ_ h;cases b with
  |v=>exact .inr ⟨_,rfl,rfl⟩
 ·grind
theorem toList_one {α:Type}{l:Array α}{x:α}(h:l.toList=[x]):l=#[x]:=by grind
theorem toList_two {α:Type}{l:Array α}{x y:α}(h:l.toList=[x,y]):l=#[x,y]:=by grind
theorem Qu {d:TypeDesc}(i:o.op=.call c) (j:c.callee=.builtin .len) (l:c.argTypes=#[t]) (p:c.args=#[x]) (u:α.ev x=a) (f:qg a=some m) (r:P.underlying t=some d)
  (v:(∃e,d=.slice e/\∀s,a ≠ .v (.string s))\/(d=.string/\∃s,a=.v (.string s))):a8 P w0 n o α S (.v (.int .i64 (m:Int))) S :=
 a8.quiet λA g q w z y=>by
  have b:=y.ev x;rw[u]at b;refine⟨_,?_,.v⟩;rcases v with ⟨e,rfl,C⟩|⟨rfl,s,rfl⟩
  ·rcases MQ f b with ⟨B,k,h⟩|⟨s,h,_⟩
   ·simp[execOp,i,resolve,j,p,l,h,invoke,builtin,Builtin.len_,run_underlying r,goInt]
   ·exfalso;rw[h]at b;unfold qg at f;split at f
    ·cases b
    ·cases b
    ·grind
    ·grind
  ·have h:=b_ b;simp only[qg,oI_]at f;subst f;simp[execOp,i,resolve,j,p,l,h,invoke,builtin,Builtin.len_,run_underlying r,goInt]
theorem abZ {k:IntKind}{i j:Int}(e:o.op=.call c) (f:c.callee=.builtin .min) {y:Operand}(h:c.args=#[x,y]) (l:α.ev x=.v (.int k i)) (m:α.ev y=.v (.int k j)):a8 P w0 n o α S (.v (.int k (min i j))) S :=
 a8.quiet λA g q w p a=>by
  have b:=a.ev x;have d:=a.ev y;rw[l]at b;rw[m]at d;refine⟨_,?_,.v⟩;have:(if j < i then j else i)=min i j:=by omega
  simp[execOp,e,resolve,f,h,b_ b,b_ d,invoke,builtin,Builtin.min_,Builtin.min2,this]
theorem ab0 {k:IntKind}{i j:Int}(e:o.op=.call c) (f:c.callee=.builtin .max) {y:Operand}(h:c.args=#[x,y]) (l:α.ev x=.v (.int k i)) (m:α.ev y=.v (.int k j)):a8 P w0 n o α S (.v (.int k (max i j))) S :=
 a8.quiet λA g q w p a=>by
  have b:=a.ev x;have d:=a.ev y;rw[l]at b;rw[m]at d;refine⟨_,?_,.v⟩;have:(if j > i then j else i)=max i j:=by omega
  simp[execOp,e,resolve,f,h,b_ b,b_ d,invoke,builtin,Builtin.max_,Builtin.max2,this]
end
section
variable {P:Program}{w0:World}{n:Nat}{o:Oper}{α:AA}{S S':af}{r:AV}
theorem XM (h:∀r ∈ rows,r.length=sz):rows.flatten.length=rows.length*sz:=by
 induction rows with
 |nil=>simp
 |cons r b a =>
  rw[cv_,af_,a (λx c=>h x (by grind)),h r (by simp),aw_,aJ_,br_,Nat.add_comm]
theorem MR {sz j:Nat}:∀{rows:List (List AV)}{i:Nat}{row:List AV},(∀r ∈ rows,r.length=sz)->rows[i]?=some row->j < sz->rows.flatten[i*sz+j]?=row[j]?
 |[],i,row,_,a,_=>by grind
 |r::c,0,row,h,a,b=>by grind
 |r::c,i+1,row,h,a,b=>by
  simp at a;have d:=h r (by simp);rw[cv_,be_ (by grind),d,show (i+1)*sz+j - sz=i*sz+j by grind];exact MR (λx e=>h x (by grind)) a b
theorem MS {sz:Nat}:∀{rows:List (List AV)}{q:Nat}{a:AV},(∀r ∈ rows,r.length=sz)->rows.flatten[q]?=some a->∃i j row,rows[i]?=some row/\row[j]?=some a/\q=i*sz+j
 |[],q,a,_,b=>by grind
 |r::g,q,a,h,b=>by
  have d:=h r (by simp);by_cases c:q < sz
  ·rw[cv_,bb_ (by omega)]at b;exact⟨0,q,r,rfl,b,by omega⟩
  ·rw[cv_,be_ (by omega),d]at b;obtain⟨i,j,row,e,f,k⟩:=MS (λx l=>h x (by grind)) b;exact⟨i+1,j,row,e,f,by grind⟩
def Src (g:Gh) (w:World) (sz:Nat) (rows:List (List AV)) (a:Addr) (news:List Value):Prop :=
 news.length=rows.length*sz/\(∀j u,news[j]?=some u->w.cell? (a.add j)=some u)/\∀(i:Nat) (row:List AV),rows[i]?=some row->∀(j:Nat) (a:AV),row[j]?=some a->∃x,news[i*sz+j]?=some x/\aN g w a x
theorem sQ (c:∀r ∈ rows,r.length=sz) (h:∀(i j:Nat) (row:List AV) (a:AV),rows[i]?=some row->row[j]?=some a->∃x,w.cell? ⟨b,q+(i*sz+j),none⟩=some x/\aN g w a x) :
  ∃news,Src g w sz rows ⟨b,q,none⟩ news:=by
 obtain⟨cs,m,t,n⟩:=Cells.list (g:=g) (w:=w) (b:=b) (row:=rows.flatten) (o:=q) (λp a d=>by
  obtain⟨i,j,row,f,k,e⟩:=MS c d;rw[e];exact h i j row a f k)
 refine⟨cs,m.trans (XM c),λj u v=>by grind[jh],λi row f j a d=>?_⟩;have k:j < sz:=by grind
 have s:=MR c f k;have l:i*sz+j < cs.length:=by grind
 exact⟨cs[i*sz+j],ai_ l,n _ a _ (s.trans d) (ai_ l)⟩
theorem nt {k len:Nat}{cx:Option Nat}(h:aN g w (.ob k sz off len cx) v):∃c,v=.slice (some ⟨g.ob k,off*sz,none⟩) len c/\g.al k/\(∀m,cx=some m->c=m)/\off+c<=g.cp k/\(cx=none->off+c=g.cp k)/\len<=c:=by
 cases h with
 |ob b d e f a=>exact⟨_,rfl,b,d,e,f,a⟩
theorem vw {β:Type}{rows:List β}{len:Nat}{row:β}(h:((rows.drop off).take len)[i]?=some row):i < len/\rows[off+i]?=some row:=by grind
theorem sM (C:St w0 A g S w) (h:rowsOf S a=some rows) (y:aN g w a v) (o:rows ≠ []) (l:∀r ∈ rows,r.length=sz) (hlen:qg a=some rows.length) :
  ∃b q c news,v=.slice (some ⟨b,q,none⟩) rows.length c/\rows.length<=c/\Src g w sz rows ⟨b,q,none⟩ news:=by
 unfold rowsOf at h;split at h
 ·rename_i ex p;obtain rfl:=oJ_ h;cases y with
  |nil=>exact absurd rfl o
  |@sl _ _ b q d c val N D f E s z =>
   have e:d=sz:=by
    obtain⟨r0,F,rfl⟩:=dn_ o;have G:=E 0 r0 rfl;have H:=l r0 (by simp);omega
   subst e;obtain⟨news,t⟩:=sQ (g:=g) (w:=w) (b:=b) (q:=q) l (λi j row a m n=>⟨_,(s i j row a m n).2,z i j row a m n⟩);exact⟨b,q,c,news,rfl,f,t⟩
 ·rename_i k d off len cx;split at h
  ·rename_i O p fz ex I;split at h
   ·rename_i u;have u:=aH_ u;subst u;obtain rfl:=oJ_ h;obtain⟨c,rfl,J,D,P,Q,f⟩:=nt y;obtain⟨R,k3,cs,ty,s,z,G,H,B,T,U⟩:=C.cT k _ I J;have e:d=sz:=by
     obtain⟨r0,F,e0⟩:=dn_ o;have K:((p.drop off).take len)[0]?=some r0:=by grind
     have V:=(B _ r0 (vw K).2).1;have W:=l r0 (by grind);omega
    subst e;obtain⟨news,t⟩:=sQ (g:=g) (w:=w) (b:=g.ob k) (q:=off*d) l (λi j row a m n=>by
     obtain⟨x,L,M⟩:=(B _ row (vw m).2).2 j a n;refine⟨x,?_,M⟩;rw[cell_of_row _ _ _ cs ty (0,0) s,<-L,aJ_,bx_])
    have e2:len=((p.drop off).take len).length:=by grind[qg]
    exact⟨_,_,c,news,by grind,by grind,t⟩
   ·grind
  ·grind
 ·grind
theorem Su (hlen:qg a=some 0) (h:rowsOf S a=some []) (b:aN g w a v):∃B c,v=.slice B 0 c:=by
 rcases MQ hlen b with ⟨B,c,e⟩|⟨s,e,_⟩
 ·grind
 ·rw[e]at b;cases b with
  |v=>simp[rowsOf]at h
  |u=>simp[rowsOf]at h
theorem sN {x y:Value}(a:P.underlying t=some (.slice e)) (b:P.underlying t2=some (.slice e2)):(Builtin.append_ #[t,t2] ty #[x,y]).run P w=(Builtin.append_ #[t,t] ty #[x,y]).run P w:=by
 simp only[Builtin.append_,cq_,cw_,cx_,Sem.run_bind,run_underlying a,run_underlying b,Result.andThen_ok];cases x<;>first|rfl|simp only[Sem.run_bind,run_underlying a,run_underlying b,Result.andThen_ok,Sem.run_pure]
theorem xx (w:World) (t ty e h:TypeId) (i:TypeInfo) (l:P.underlying t=some (.slice e)) (hi:P.info? e=some i)
  (g q d sCap:Nat) (b:Array Value) (n:w.heap[g]?=some (.cells b h (0,0)))
  (a:Addr) (m c:Nat) (news:List Value) (o:news.length=m*i.size) (f:∀j u,news[j]?=some u->w.cell? (a.add j)=some u) (h1:∀u ∈ news,u.oneCell'=true)
  (p:d+m<=sCap) (s:q+d*i.size+news.length<=b.size) :
  (Builtin.append_ #[t,t] ty #[.slice (some ⟨g,q,none⟩) d sCap,.slice (some a) m c]).run P w =
   .ok (.slice (some ⟨g,q,none⟩) (d+m) sCap) (w.setRow g (b.toList.take (q+d*i.size)++news++b.toList.drop (q+d*i.size+news.length)).toArray):=by
 have r:=run_firstCells_some (P:=P) w i.size m a m c news o f;have k:=run_storeCells_at P g (q+d*i.size) h news 0 b w n (by grind) h1;simp only[bs_]at k;simp[Builtin.append_,run_underlying l,sizeOf,typeInfo,hi,Builtin.lenOf,p,r,jh,k]
theorem E1 {b m:Addr}{k:List Value}{rest:Array Value}(h1:Src g w sz rows b k) (h2:Src g w sz more m news) (p:∀r ∈ rows,r.length=sz) (q:∀r ∈ more,r.length=sz) :
  ∀(i:Nat) (row:List AV),(rows++more)[i]?=some row->row.length=sz/\∀(j:Nat) (a:AV),row[j]?=some a->∃x,(k.toArray++news.toArray++rest)[i*sz+j]?=some x/\aN g w a x:=by
 intro i row f;refine⟨?_,λj a l=>?_⟩
 ·grind
 ·have s:∀n:row.length=sz,j < sz:=λn=>by grind
  by_cases c:i < rows.length
  ·rw[bb_ c]at f;obtain⟨x,d,h⟩:=h1.2.2 i row f j a l;refine⟨x,?_,h⟩;have o:=(ar_.1 d).1;rw[Array.append_assoc,ca_ (by grind)];simpa using d
  ·rw[be_ (by omega)]at f;obtain⟨x,d,h⟩:=h2.2.2 _ row f j a l;refine⟨x,?_,h⟩;have o:=(ar_.1 d).1;have e:i*sz=rows.length*sz+(i - rows.length)*sz:=by rw[<-aJ_];congr 1;omega
   rw[ca_ (by simp[h1.1];omega),do_ (by simp[h1.1];omega)];simp only[bA_,h1.1,cq_];rw[show i*sz+j - rows.length*sz=(i - rows.length)*sz+j by omega];exact d
theorem Bc {by_:Nat}(F:St w0 A g S w) (s:P.underlying t=some (.slice e)) (N:P.underlying t2=some (.slice e2)) (hz:d_ P e=some z) (O:ep P e=some sz) (pe:ku P e=some by_) (Q:z.cells.size=sz)
  {sCap:Nat}{l n:Nat}(hold:(B=none/\rows=[]/\sCap=0)\/∃b d,B=some b/\Src g w sz rows b d) (f:Src g w sz more ⟨l,n,none⟩ news) (G:∀r ∈ rows,r.length=sz) (H:∀r ∈ more,r.length=sz)
  (R:more ≠ []) (I:sCap < rows.length+more.length) (T:(rows.length+more.length)*by_<=35184372088832) (U:0 < by_) :
  ∃v w' g',(Builtin.append_ #[t,t2] ty #[.slice B rows.length sCap,.slice (some ⟨l,n,none⟩) more.length c2]).run P w=.ok v w'/\aN g' w' (.ob S.nx sz 0 (rows.length+more.length) none) v/\St w0 A g' (S.new (.arr sz (rows++more) 0 false)) w'/\Ext A g w g' w':=by
 obtain⟨i,y,C⟩:=o7 O;have K:i.zero=some z:=by grind[d_]
 have BY:i.bytes=by_:=by grind[ku]
 have V:0 < more.length:=dp_.2 R;have hmul:rows.length+more.length<=35184372088832:=ay_ (cV_ _ U) T;have W:=grownCap_ge w (rows.length+more.length) sCap e
 obtain⟨d,L,D⟩:∃d:List Value,(∀rest,∀(i:Nat) (row:List AV),(rows++more)[i]?=some row->row.length=sz/\∀(j:Nat) (a:AV),row[j]?=some a->∃x,(d.toArray++news.toArray++rest)[i*sz+j]?=some x/\aN g w a x) /\
   (d.length=rows.length*sz/\(Builtin.append_ #[t,t] ty #[.slice B rows.length sCap,.slice (some ⟨l,n,none⟩) more.length c2]).run P w =
   .ok (.slice (some ⟨w.heap.size,0,none⟩) (rows.length+more.length) (grownCap w (rows.length+more.length) sCap e)) (w.drew.alloc (.cells (d.toArray++news.toArray++Builtin.zeroCells z.cells (grownCap w (rows.length+more.length) sCap e - (rows.length+more.length))) e))):=by
  rcases hold with ⟨rfl,rfl,rfl⟩|⟨b,d,rfl,p⟩
  ·refine⟨[],λrest=>E1 (b:=⟨0,0,none⟩) ⟨by simp,λj u hu=>by grind,λi row y=>by grind⟩ f G H,by simp,?_⟩;have:=run_append_nil (P:=P) w t ty e i z s y K ⟨l,n,none⟩ more.length c2 news (by rw[f.1,C]) f.2.1 V (by omega) (by grind);simpa using this
  ·refine⟨d,λrest=>E1 p f G H,p.1,?_⟩;have E:=Go.Room.nextslicecap_le' I
   exact run_append_grow (P:=P) w t ty e i z s y K b rows.length sCap d (by rw[p.1,C]) p.2.1 ⟨l,n,none⟩ more.length c2 news (by rw[f.1,C]) f.2.1 I (by omega)
    (ay_ (aO_ _ E) (by grind))
 obtain⟨hlen,D⟩:=D;obtain⟨o,X⟩:=F.drew;have Y:∀q,¬ g.fz w.heap.size q:=λq Z=>absurd (F.dw _ _ Z) (bK_ _);obtain⟨hE,eC⟩:=X.new (.cells (d.toArray++news.toArray++Builtin.zeroCells z.cells (grownCap w (rows.length+more.length) sCap e - (rows.length+more.length))) e) (.arr sz (rows++more) 0 false) (grownCap w (rows.length+more.length) sCap e) (λJ=>by simp) (λhL=>by
  refine⟨_,e,dZ,?_,by grind,λh=>by grind,λi row M=>⟨(L #[] i row M).1,λj a ha=>?_⟩,ax_ _,λq=>⟨λh=>absurd h (Y q),λh=>by grind⟩⟩
  ·simp only[Array.size_append,bA_,hlen,f.1,size_zeroCells,Q];rw[<-aJ_,<-aJ_];congr 1;omega
  ·obtain⟨x,hx,fm⟩:=(L _ i row M).2 j a ha;exact⟨x,hx,(fm.later o.toLater).later hL⟩)
 refine⟨_,_,_,(sN s N).trans D,?_,eC,o.trans hE⟩
 have:=aN.ob (g:=g.new S.nx w.drew.heap.size (grownCap w (rows.length+more.length) sCap e)) (w:=w.drew.alloc (.cells (d.toArray++news.toArray++Builtin.zeroCells z.cells (grownCap w (rows.length+more.length) sCap e - (rows.length+more.length))) e))
  (k:=S.nx) (sz:=sz) (off:=0) (len:=rows.length+more.length) (c:=grownCap w (rows.length+more.length) sCap e) (cx:=none) (.inr rfl) (λm h=>by grind) (by rw[aD_];exact bN_ (aJ _ _ _).symm) (λ_=>by rw[aD_];exact (aJ _ _ _).symm) W
 rw[show (g.new S.nx w.drew.heap.size (grownCap w (rows.length+more.length) sCap e)).ob S.nx=w.heap.size from aJ _ _ _,aW_]at this;exact this
theorem St.rename {k:Nat}{ob:Ob}(b:St w0 A g S w) (o:S.get k=some ob) (r:g.al k) (t:∀J,ob ≠ .fo J):Ext A g w (g.new S.nx (g.ob k) (g.cp k)) w/\St w0 A (g.new S.nx (g.ob k) (g.cp k)) ((S.set k none).new ob) w:=by
 have x:∀j,g.al j->j ≠ S.nx:=λj a e=>absurd (b.al j a) (by omega);have m:∀j,g.al j->(g.new S.nx (g.ob k) (g.cp k)).ob j=g.ob j:=λj a=>aO _ _ (x j a);have y:∀j,g.al j->(g.new S.nx (g.ob k) (g.cp k)).cp j=g.cp j:=λj a=>aO _ _ (x j a);have u:(g.new S.nx (g.ob k) (g.cp k)).ob S.nx=g.ob k:=aJ _ _ _;have e2:(g.new S.nx (g.ob k) (g.cp k)).cp S.nx=g.cp k:=aJ _ _ _;have v:Later g w (g.new S.nx (g.ob k) (g.cp k)) w:=⟨λj a=>.inl a,m,y,λ_ _ h=>h,λ_ _ _=>rfl⟩;have z:Ext A g w (g.new S.nx (g.ob k) (g.cp k)) w:={ v with size:=ac_ _,aM:=λ_ _ _=>rfl,kr:=λ_ _ h=>.inl h };have key:∀j p,((S.set k none).new ob).get j=some p->(j=S.nx/\p=ob)\/(j ≠ S.nx/\j ≠ k/\S.get j=some p):=by
  intro j p a;have a:bE (bE S.get k none) S.nx (some ob) j=some p:=a;by_cases c:j=S.nx
  ·grind[aJ]
  ·grind[aO,aJ]
 obtain⟨E,k3,k4⟩:=b.cT k ob o r;refine⟨z,b.next z rfl rfl rfl (λj a=>a.elim (λh=>bX_ (b.al j h)) λe=>by rw[e];exact aX_ _) (λj p a f=>?_) (λi j p q F a B f e=>?_) b.dw rfl (λj J a f=>(key j _ a).elim (λe=>absurd e.2.symm (t J)) λe=>⟨e.2.2,f.resolve_right e.1⟩) (λj p a f=>.inr ((key j p a).elim (λe=>⟨k,ob,r,o,by grind,.inr t⟩) λe=>⟨j,p,f.resolve_right e.1,e.2.2,m j (f.resolve_right e.1),.inl rfl⟩))⟩
 ·rcases key j p a with ⟨rfl,rfl⟩|⟨c,d,s⟩
  ·rw[u,e2];exact⟨E,k3,k4.later v rfl (λ_ h=>h) λJ G=>absurd G (t J)⟩
  ·have l:g.al j:=f.resolve_right c;obtain⟨H,I,K⟩:=b.cT j p s l;rw[m j l,y j l];exact⟨H,I,K.later v rfl (λ_ h=>h) λ_ _=>⟨rfl,ac_ _,λ_ _=>rfl,λ_ _ _ h=>h⟩⟩
 ·rcases key i p F with ⟨rfl,rfl⟩|⟨c,d,C⟩<;>rcases key j q a with ⟨rfl,rfl⟩|⟨D,L,s⟩
  ·rfl
  ·have l:g.al j:=f.resolve_right D;rw[u,m j l]at e;exact absurd (b.inj k j _ q o s r l e) (Ne.symm L)
  ·have n:g.al i:=B.resolve_right c;rw[u,m i n]at e;exact absurd (b.inj i k p _ C o n r e) d
  ·have n:g.al i:=B.resolve_right c;have l:g.al j:=f.resolve_right D;rw[m i n,m j l]at e;exact b.inj i j p q C s n l e
end
section
variable {P:Program}{w0:World}{n:Nat}{o:Oper}{α:AA}{S S':af}{r:AV}
theorem MF (h:Src g w sz more ⟨b,q,none⟩ news) (f:∀row ∈ more,row.length=sz/\row.all dh=true):∀u ∈ news,u.oneCell'=true:=by
 intro u i;obtain⟨p,a⟩:=cb_ i;have j:=(ar_.1 a).1;rw[h.1]at j;have k:0 < sz:=by grind
 have c:p / sz < more.length:=Nat.div_lt_of_lt_mul (by grind);have r:p % sz < sz:=Nat.mod_lt _ k;have l:=ai_ c;obtain⟨s,m⟩:=f _ (cp_ c);have d:p % sz < (more[p / sz]).length:=by omega
 have n:=ai_ d;obtain⟨x,e,o⟩:=h.2.2 _ _ l _ _ n;rw[Nat.div_add_mod' p sz,a]at e;obtain rfl:=oJ_ e;exact A3 (aP_.1 m _ (cp_ d)) o
theorem MU {k len c n o:Nat}{fz:Nat}(C:St w0 A g S w) (D:P.underlying t=some (.slice e)) (Q:P.underlying t2=some (.slice e2)) (R:ep P e=some sz)
  (E:S.get k=some (.arr sz rows fz ex)) (p:g.al k) (F:c=g.cp k) (ZJ:len<=c) (T:fz<=len) (hlen:len<=rows.length) (f:Src g w sz more ⟨n,o,none⟩ news) (G:∀row ∈ more,row.length=sz/\row.all dh=true) (H:len+more.length<=c) :
  ∃v w' g',(Builtin.append_ #[t,t2] ty #[.slice (some ⟨g.ob k,0,none⟩) len c,.slice (some ⟨n,o,none⟩) more.length c2]).run P w=.ok v w'/\aN g' w' (.ob S.nx sz 0 (len+more.length) none) v/\St w0 A g' ((S.set k none).new (.arr sz (rows.take len++more) fz false)) w'/\Ext A g w g' w':=by
 obtain⟨i,U,r⟩:=o7 R;obtain⟨k2,k3,cs,s,u,I,h3,h4,K,h6,L⟩:=C.cT k _ E p;have hm:len*sz+more.length*sz<=g.cp k*sz:=by rw[<-aJ_];exact aO_ sz (by omega)
 have M:0+len*i.size+news.length<=cs.size:=by rw[f.1,I,r];omega
 have y:=xx (P:=P) w t ty e s i D U (g.ob k) 0 len c cs u ⟨n,o,none⟩ more.length c2 news (by rw[f.1,r]) f.2.1 (MF f G) H M;simp only[aD_,r]at y M;obtain⟨b,V⟩:∃b,b=(cs.toList.take (len*sz)++news++cs.toList.drop (len*sz+news.length)).toArray:=⟨_,rfl⟩;rw[<-V]at y;have W:∀q,b[q]?=if q < len*sz then cs[q]? else if q < len*sz+news.length then news[q - len*sz]? else cs[q]?:=by grind
 have X:b.size=cs.size:=by grind
 have Y:len*sz<=rows.length*sz:=aO_ sz hlen;obtain⟨Z,eC⟩:=C.row E p u (cs':=b) (ob:=.arr sz (rows.take len++more) fz false) (λJ=>⟨by simp,by simp⟩) (λq hq=>by
  rw[W];rw[if_pos (au_ ((L q).1 hq) (aO_ sz T))]) (λN=>by
  refine⟨b,s,setRow_heap w _ cs b s (0,0) u,X.trans I,by grind,λh=>by grind,λi row d=>?_,by grind,L⟩
  ·by_cases c1:i < len
   ·rw[bb_ (by grind),bG_,if_pos c1]at d;refine⟨(K i row d).1,λj a z=>?_⟩;obtain⟨x,O,B⟩:=(K i row d).2 j a z;have hj:j < sz:=by grind
    exact⟨x,by grind[o3],B.later N⟩
   ·rw[be_ (by grind)]at d;have e1:min len rows.length=len:=by omega
    simp only[aZ_,e1]at d;have ic:=(G row (aa_ d)).1;refine⟨ic,λj a z=>?_⟩;obtain⟨x,O,B⟩:=f.2.2 _ row d j a z;have aw:=(ar_.1 O).1;have e:i*sz=len*sz+(i - len)*sz:=by rw[<-aJ_];congr 1;omega
    exact⟨x,by grind,B.later N⟩)
 have jL:(S.set k (some (.arr sz (rows.take len++more) fz false))).get k=some (.arr sz (rows.take len++more) fz false):=aJ _ _ _;obtain⟨zQ,l⟩:=eC.rename jL p (λJ=>by simp);have e:((S.set k (some (.arr sz (rows.take len++more) fz false))).set k none).new (.arr sz (rows.take len++more) fz false)=(S.set k none).new (.arr sz (rows.take len++more) fz false):=by
  have:bE (bE S.get k (some (.arr sz (rows.take len++more) fz false))) k none=bE S.get k none:=by grind[aJ,aO]
  simp only[af.set,af.new,this]
 rw[e]at l;refine⟨_,_,_,(sN D Q).trans y,?_,l,Z.trans zQ⟩
 have:=aN.ob (g:=g.new S.nx (g.ob k) (g.cp k)) (w:=w.setRow (g.ob k) b) (k:=S.nx) (sz:=sz) (off:=0) (len:=len+more.length) (c:=c) (cx:=none) (.inr rfl) (λm h=>by grind)
  (by rw[aD_,F];exact bN_ (aJ _ _ _).symm) (λ_=>by rw[aD_,F];exact (aJ _ _ _).symm) H
 rw[show (g.new S.nx (g.ob k) (g.cp k)).ob S.nx=g.ob k from aJ _ _ _,aW_]at this;exact this
theorem E2 {C:Option Addr}{c:Nat}(d:P.underlying t=some (.slice e)) (f:P.underlying t2=some (.slice e2)) (g:ep P e=some sz) (a:m<=c) :
  (Builtin.append_ #[t,t2] ty #[.slice B m c,.slice C 0 c2]).run P w=.ok (.slice B m c) w:=by
 rw[sN d f];have i:(Builtin.firstCells sz 0 (.slice C 0 c2)).run P w=.ok #[] w:=by
  cases C with
  |none=>simp[Builtin.firstCells]
  |some b=>simpa using run_firstCells_some (P:=P) (w:=w) sz 0 b 0 c2 [] (by simp) (λj v h=>by grind)
 cases B<;>simp[Builtin.append_,run_underlying d,c6 g,Builtin.lenOf,a,i,storeCells]
theorem sR (h:aN g w (.sl ex rows) v):∃B c,v=.slice B rows.length c/\rows.length<=c/\(ex=true->c=rows.length):=by
 cases h with
 |nil a=>exact⟨_,_,rfl,ax_ _,a⟩
 |sl d a b e h f=>exact⟨_,_,rfl,b,a⟩
theorem Pk {y:Operand}{b:AV}{K:AV->af->Prop}(ho:o.op=.call c) (hc:c.callee=.builtin .append) (oM:c.argTypes=#[t,t2]) (cO:c.args=#[x,y])
  (hx:α.ev x=a) (hy:α.ev y=b) (ht:P.underlying t=some (.slice e)) (jg:P.underlying t2=some (.slice e2)) (hm:rowsOf S b=some more) (hlen:qg b=some more.length) (hz:d_ P e=some z) (hs:ep P e=some sz) (xu:z.cells.size=sz) (h:pH P e K S more a) :
  ∃r S',a8 P w0 n o α S r S'/\K r S':=by
 have dF:∀(q:Act) (w:World),(execOp q.eval o).run P w=((Builtin.append_ #[t,t2] o.type #[q.eval x,q.eval y]).run P w).andThen λv J=>.ok (.value v) J:=by
  intro q w;simp[execOp,ho,resolve,hc,oM,cO,invoke,builtin]
 have same:∀{r:AV}{m cc:Nat},more=[]->α.ev x=r->(∀(g:Gh) (w:World) (v:Value),aN g w r v->∃B m cc,v=.slice B m cc/\m<=cc)->a8 P w0 n o α S r S:=by
  intro r m cc xy hxr d;refine a8.quiet λA g q w s E=>?_;have C:=E.ev x;have F:=E.ev y;rw[hxr]at C;rw[hy]at F;subst xy;obtain⟨B,c1,H⟩:=Su (S:=S) hlen hm F;obtain⟨B',m',cc',e2,l⟩:=d g w _ C;refine⟨q.eval x,?_,C⟩;rw[dF,H,e2,E2 ht jg hs l]
  rfl
 unfold pH at h;split at h
 ·rename_i rows;split at h
  ·exact⟨_,_,same (m:=0) (cc:=0) rfl hx (λg w v d=>let ⟨B,c,e,l,_⟩:=sR d;⟨B,_,c,e,l⟩),h⟩
  ·rename_i N O;split at h
   ·rename_i L by_ jl pe;split at h
    ·rename_i T;obtain⟨Q,M,o9,hK⟩:=h;have e0:L=sz:=by grind
     subst e0;refine⟨_,_,?_,hK⟩;intro A g q w s E;have C:=E.ev x;have F:=E.ev y;rw[hx]at C;rw[hy]at F;obtain⟨b2,q2,c2,news,e2,Sm,tT⟩:=sM s hm F (by simp) M hlen;obtain⟨B,cc,H,amX,U⟩:=sR C;have hcc:=U rfl;have hold:(B=none/\rows=[]/\cc=0)\/∃b G,B=some b/\Src g w L rows b G:=by
      by_cases Qv:rows=[]
      ·subst Qv;cases B with
       |none=>exact .inl ⟨rfl,rfl,by grind⟩
       |some bb=>exact .inr ⟨bb,[],rfl,by simp,λj u hu=>by grind,λi row I=>by grind⟩
      ·obtain⟨b,q,c',G,e3,_,Jw⟩:=sM (a:=.sl true rows) s rfl C Qv Q rfl;rw[H]at e3;injection e3 with e4;exact .inr ⟨_,G,e4,Jw⟩
     obtain⟨v,J,V,d,R,W,X⟩:=Bc (ty:=o.type) (c2:=c2) s ht jg hz hs pe xu hold tT Q M (by simp) (by grind) o9 (au_ cc_ (aq_ T));refine⟨v,J,V,.inl ?_,R,W,X⟩;rw[dF,H,e2,d]
     rfl
    ·grind
   ·grind
 ·rename_i k szk len;unfold bC at h;split at h
  ·rename_i Y XN;obtain⟨L,rows,fz,ex⟩:=Y;have hk:=G2 XN;dsimp only at h;split at h
   ·exact⟨_,_,same (m:=0) (cc:=0) rfl hx (λg w v d=>let ⟨c,e,_,_,_,_,l⟩:=nt d;⟨_,_,c,e,l⟩),h⟩
   ·rename_i N O;split at h
    ·rename_i D by_ jl pe;split at h
     ·rename_i T;simp only[al_]at T;obtain⟨⟨Z,bf⟩,dQ⟩:=T;have Z:=aH_ Z;have bf:=aH_ bf;have e0:D=sz:=by grind
      subst Z bf e0;obtain⟨zt,hlr,M,o9,hK⟩:=h;refine⟨_,_,?_,hK⟩;intro A g q w s E;have C:=E.ev x;have F:=E.ev y;rw[hx]at C;rw[hy]at F;obtain⟨b2,q2,c2,news,e2,Sm,tT⟩:=sM s hm F (by simp) (λr d=>(M r d).1) hlen;obtain⟨cc,H,aT,_,cU,U,ZJ⟩:=nt C;have U:=U rfl;simp only[aD_]at U cU;simp only[aW_]at H;by_cases mZ:len+(N::O).length<=cc
      ·obtain⟨v,J,V,d,R,W,X⟩:=MU (ty:=o.type) (c2:=c2) s ht jg hs hk aT U ZJ zt hlr tT M mZ;refine⟨v,J,V,.inl ?_,R,W,X⟩;rw[dF,H,e2,d]
       rfl
      ·obtain⟨k2,k3,cs,vN,p1,p2,p3,p4,p5,p6,p7⟩:=s.cT k _ hk aT;have vL:(rows.take len).length=len:=by grind
       have Q:∀r ∈ rows.take len,r.length=D:=by
        intro r d;obtain⟨i,I⟩:=cb_ (cy_ d);exact (p5 i r I).1
       have hold:∃G,Src g w D (rows.take len) ⟨g.ob k,0,none⟩ G:=by
        refine sQ Q (λi j row a I hj=>?_);rw[bG_]at I;split at I
        ·obtain⟨u,hu,hru⟩:=(p5 i row I).2 j a hj;exact⟨u,by rw[cell_of_row _ _ _ cs vN (0,0) p1,aD_];exact hu,hru⟩
        ·grind
       obtain⟨G,hold⟩:=hold;have mP:St w0 A g (S.set k none) w:=s.forget (ac_ _) (λj p hj ha=>by
        have hj:bE S.get k none j=some p:=hj;by_cases c:j=k
        ·grind[aJ]
        ·rwa [aO _ _ c]at hj)
       have MV:=Bc (ty:=o.type) (c2:=c2) (sCap:=cc) mP ht jg hz hs pe xu (rows:=rows.take len) (more:=N::O) (B:=some ⟨g.ob k,0,none⟩) (news:=news) (.inr ⟨_,G,rfl,hold⟩) tT Q (λr d=>(M r d).1) (by simp) (by grind) (by grind)
        (au_ cc_ (aq_ dQ))
       rw[vL]at MV;obtain⟨v,J,V,d,R,W,X⟩:=MV;have vi:V.al S.nx:=by
        obtain⟨_,_,aT,_⟩:=nt R;exact aT
       obtain⟨hE6,hS6⟩:=W.freeze (k:=S.nx) (aJ _ _ _) vi (m:=fz) (ax_ _) (by grind);refine⟨v,J,_,.inl ?_,R.later hE6.toLater,?_,X.trans hE6⟩
       ·rw[dF,H,e2,d]
        rfl
       ·have e:((((S.set k none).new (.arr D (rows.take len++N::O) 0 false)).set S.nx (some (.arr D (rows.take len++N::O) fz false))))=(S.set k none).new (.arr D (rows.take len++N::O) fz false):=by
         have:∀(f:Nat->Option Ob) (a b:Option Ob),bE (bE f S.nx a) S.nx b=bE f S.nx b:=by grind[aJ,aO]
         simp only[af.set,af.new,this]
        rw[<-e];exact hS6
     ·grind
    ·grind
  ·grind
 ·rename_i k szk off len cc0;unfold bC at h;split at h
  ·rename_i Y XN;obtain⟨L,rows,fz,ex⟩:=Y;have hk:=G2 XN;dsimp only at h;split at h
   ·exact⟨_,_,same (m:=0) (cc:=0) rfl hx (λg w v d=>let ⟨c,e,_,_,_,_,l⟩:=nt d;⟨_,_,c,e,l⟩),h⟩
   ·rename_i N O;split at h
    ·rename_i D by_ jl pe;split at h
     ·rename_i T;simp only[al_]at T;obtain⟨⟨Z,bf⟩,dQ⟩:=T;have Z:=aH_ Z;have bf:=aH_ bf;have e0:D=sz:=by grind
      subst Z bf e0;obtain⟨eZ,hlr,M,o9,hK⟩:=h;refine⟨_,_,?_,hK⟩;intro A g q w s E;have C:=E.ev x;have F:=E.ev y;rw[hx]at C;rw[hy]at F;obtain⟨b2,q2,c2,news,e2,Sm,tT⟩:=sM s hm F (by simp) M hlen;obtain⟨cc,H,aT,xh,cU,U,ZJ⟩:=nt C;have xh:=xh _ rfl;obtain⟨k2,k3,cs,vN,p1,p2,p3,p4,p5,p6,p7⟩:=s.cT k _ hk aT;have vL:((rows.drop off).take len).length=len:=by grind
      have Q:∀r ∈ (rows.drop off).take len,r.length=D:=by
       intro r d;obtain⟨i,I⟩:=cb_ (List.mem_of_mem_drop (cy_ d));exact (p5 i r I).1
      have hold:∃G,Src g w D ((rows.drop off).take len) ⟨g.ob k,off*D,none⟩ G:=by
       refine sQ Q (λi j row a I hj=>?_);obtain⟨u,hu,hru⟩:=(p5 _ row (vw I).2).2 j a hj;exact⟨u,by rw[cell_of_row _ _ _ cs vN (0,0) p1,<-hu,aJ_,bx_],hru⟩
      obtain⟨G,hold⟩:=hold
      have MV:=Bc (ty:=o.type) (c2:=c2) (sCap:=cc) s ht jg hz hs pe xu (rows:=(rows.drop off).take len) (more:=N::O) (B:=some ⟨g.ob k,off*D,none⟩) (news:=news) (.inr ⟨_,G,rfl,hold⟩) tT Q M (by simp) (by grind) (by grind)
       (au_ cc_ (aq_ dQ))
      rw[vL]at MV;obtain⟨v,J,V,d,R,W,X⟩:=MV;refine⟨v,J,V,.inl ?_,R,W,X⟩;rw[dF,H,e2,d]
      rfl
     ·grind
    ·grind
  ·grind
 ·grind
end
end Go.Proofs.YtbpabjmnhggajaaGreat
