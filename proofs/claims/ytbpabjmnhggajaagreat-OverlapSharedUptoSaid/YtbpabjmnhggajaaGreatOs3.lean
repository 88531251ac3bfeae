import Derived.Test.YtbpabjmnhggajaaGreatOs2
namespace Go.Proofs.YtbpabjmnhggajaaGreat
set_option linter.unusedVariables false
set_option linter.unusedSimpArgs false
open Go.RowKit
section
variable (P:Program) (w0:World) (n:Nat)
def aQ (o:Oper) (α:AA) (S:ae) (r:AV) (S':ae):Prop :=
 ∀ (A:Nat->Prop) (g:Gh) (a:Act) (w:World),St w0 A g S w->bR g w n α a->∃ (v:Value) (w':World) (g':Gh),
  ((execOp a.eval o).run P w=.ok (.value v) w'\/((execOp a.eval o).run P w=.ok .skip w'/\v=undef))/\aF g' w' r v/\St w0 A g' S' w'/\Ext A g w g' w'
def ez (o:Oper) (α:AA) (S:ae) (r:AV) (S':ae):Prop :=
 ∀ (F:Fence) (m:Nat) (A:Nat->Prop) (g:Gh) (a:Act) (w:World) (next:Act->World->Prop) (Q:Exit->Act->World->Prop),ir F->St w0 A g S w->bR g w n α a ->
  (∀ (v:Value) (w':World) (g':Gh),aF g' w' r v->St w0 A g' S' w'->Ext A g w g' w'->next (a.put o.dst v) w')->o.uponIn F m P a next Q ((o.semAt F.round a.eval).run P w)
end
section
variable {P:Program}{w0:World}{n:Nat}{o:Oper}{α:AA}{S S':ae}{r:AV}
theorem aQ.ops (h:aQ P w0 n o α S r S') (hd:∀ c,o.op ≠ .defer c):ez P w0 n o α S r S':=by
 intro F m A g a w next Q hF hS hA oC
 obtain⟨v,w',g',bZ,hr,fk,hE⟩:=h A g a w hS hA;rw[Oper.semAt_eq _ _ _ hd];rcases bZ with bZ|⟨bZ,rfl⟩
 ·rw[bZ];exact oC v w' g' hr fk hE
 ·rw[bZ];exact oC undef w' g' hr fk hE
theorem aQ.quiet (h:∀ (A:Nat->Prop) (g:Gh) (a:Act) (w:World),St w0 A g S w->bR g w n α a->∃ v,(execOp a.eval o).run P w=.ok (.value v) w/\aF g w r v):aQ P w0 n o α S r S:=by
 intro A g a w hS hA;obtain⟨v,h1,h2⟩:=h A g a w hS hA;exact⟨v,w,g,.inl h1,h2,hS,Ext.refl ..⟩
theorem run_move {x:Operand}(ho:o.op=.move x\/o.op=.assign x):aQ P w0 n o α S (α.ev x) S :=
 aQ.quiet fun A g a w hS hA=>⟨a.eval x,by rcases ho with ho|ho<;>simp[execOp,ho],hA.ev x⟩
theorem SW {c x y:Operand}{t:Bool}(ho:o.op=.pick c x y) (hc:α.ev c=.v (.bool t)):aQ P w0 n o α S (if t then α.ev x else α.ev y) S :=
 aQ.quiet fun A g a w hS hA=>by
  have h1:=hA.ev c;rw[hc] at h1;have h2:=H4 h1;cases t with
  |true=>exact⟨a.eval x,by simp[execOp,ho,h2,asBool],hA.ev x⟩
  |false=>exact⟨a.eval y,by simp[execOp,ho,h2,asBool],hA.ev y⟩
theorem wa {A:Nat->Prop}{g:Gh}{w:World}{cs:List AV}{cells:Array Value}{ty:TypeId}(hS:St w0 A g S w) (h:oL g w cs cells) :
  ∃ g',aF g' (w.alloc (.cells cells ty)) (.pt S.nx cs.length 0 0) (.pointer (some ⟨w.heap.size,0,none⟩))/\St w0 A g' (jF S cs).2 (w.alloc (.cells cells ty))/\Ext A g w g' (w.alloc (.cells cells ty)):=by
 obtain⟨hE,cZ⟩:=hS.new (.cells cells ty) (.arr cs.length [cs] 0 true) 1 (fun J=>by simp) (fun hL=>by
  refine⟨cells,ty,dw,by rw[h.1];simp,by simp,fun _=>rfl,fun i row hr=>?_,Nat.zero_le _,fun q=>⟨fun hf=>?_,fun hf=>by grind⟩⟩
  ·cases i with
   |succ i=>simp at hr
   |zero =>
    simp at hr;subst hr;refine⟨rfl,fun j a ha=>?_⟩;have hj:j < cells.size:=by rw[h.1];exact (List.getElem?_eq_some_iff.1 ha).1
    exact⟨cells[j],by simp,(h.2 j a _ ha (Array.getElem?_eq_getElem hj)).later hL⟩
  ·exact absurd (hS.cK _ _ hf) (by omega))
 refine⟨_,?_,cZ,hE⟩;have:=aF.pt (g:=g.new S.nx w.heap.size 1) (w:=w.alloc (.cells cells ty)) (k:=S.nx) (sz:=cs.length) (i:=0) (j:=0) (.inr rfl);rw[show (g.new S.nx w.heap.size 1).ob S.nx=w.heap.size from az _ _ _] at this;simpa using this
theorem PN {e:TypeId}{z:Value}(ho:o.op=.alloc e) (hz:de P e=some z):aQ P w0 n o α S (jF S (z.cells.toList.map bJ)).1 (jF S (z.cells.toList.map bJ)).2:=by
 intro A g a w hS hA;obtain⟨g',h1,h2,h3⟩:=wa (ty:=e) hS (oL.bJ z.cells);refine⟨_,_,g',.inl ?_,h1,h2,h3⟩;simp[execOp,ho,Instr.alloc,lN hz,newVar,newRow]
theorem W0 {e:TypeId}{x:Operand}(ho:o.op=.box e x) (hx:(aL (α.ev x)).all bO=true):aQ P w0 n o α S (jF S (aL (α.ev x))).1 (jF S (aL (α.ev x))).2:=by
 intro A g a w hS hA;obtain⟨c1,c2,c3⟩:=pA hx (hA.ev x);obtain⟨g',h1,h2,h3⟩:=wa (ty:=e) hS ⟨c1,c2⟩;refine⟨_,_,g',.inl ?_,h1,h2,h3⟩;simp[execOp,ho,Instr.box,newVar,newRow]
theorem M8 {t:TypeId}{parts:Array (Nat × Operand)}(ho:o.op=.build t parts) (h:tv P t (parts.toList.map fun (i,x)=>(i,α.ev x))=some r):aQ P w0 n o α S r S :=
 aQ.quiet fun A g a w hS hA=>by
  obtain⟨v,h1,h2⟩:=KB (w:=w) hA h;exact⟨v,by simp only[execOp,ho,Sem.run_bind];rw[h1];rfl,h2⟩
theorem PO {t:TypeId}{x:Operand}(ho:o.op=.load t x) (h:uK P S t (α.ev x)=some r):aQ P w0 n o α S r S :=
 aQ.quiet fun A g a w hS hA=>by
  obtain⟨b,q,v,h1,h2,h3⟩:=Bs hS h (hA.ev x);exact⟨v,by simp[execOp,ho,Instr.loadAt,h1,Instr.sureAddr,h2],h3⟩
theorem M9 {t:TypeId}{x b:Operand}(ho:o.op=.store t x b) (h:ml P S t (α.ev b) (α.ev x)=some S'):aQ P w0 n o α S (.v undef) S':=by
 intro A g a w hS hA;obtain⟨c,q,w',h1,h2,h3,h4,h5⟩:=tw hS h (hA.ev x) (hA.ev b);exact⟨undef,w',g,.inr ⟨by simp[execOp,ho,Instr.storeAt,h1,Instr.sureAddr,h2],rfl⟩,.v,h5,h4⟩
theorem SX {op:BinOp}{t:TypeId}{x y:Operand}{a b v:Value}{w:World}(h:rG P op t a b=some v):(do eqGuard op t x y a b;binOp op t a b:Sem Value).run P w=.ok v w:=by
 unfold rG at h;split at h
 ·rename_i k i k' j;split at h
  ·rename_i hk;obtain rfl:=of_decide_eq_true hk;cases op<;>simp_all[eqGuard,binOp,Op.intCmp]
  ·grind
 ·cases op<;>simp_all[eqGuard,binOp,Op.stringOp]
 ·rename_i p q;split at h
  ·rename_i hu;have he:(Op.equal t (.bool p) (.bool q)).run P w=.ok (p == q) w:=by
    show (Op.equalIn (9999+1) t (.bool p) (.bool q)).run P w=_;rw[Op.equalIn];simp only[Sem.run_bind,run_underlying hu,Result.andThen_ok]
    rfl
   have hg:∀ op:BinOp,(eqGuard op t x y (.bool p) (.bool q)).run P w=.ok () w:=by
    intro op;cases op<;>rfl
   split at h
   ·obtain rfl:=oJ_ h;simp only[Sem.run_bind,hg,Result.andThen_ok];have e:binOp .eql t (.bool p) (.bool q)=(do pure (Value.bool (<-Op.equal t (.bool p) (.bool q))):Sem Value):=rfl;rw[e];simp only[Sem.run_bind,he,Result.andThen_ok]
    rfl
   ·obtain rfl:=oJ_ h;simp only[Sem.run_bind,hg,Result.andThen_ok];have e:binOp .neq t (.bool p) (.bool q)=(do pure (Value.bool (!(<-Op.equal t (.bool p) (.bool q)))):Sem Value):=rfl;rw[e];simp only[Sem.run_bind,he,Result.andThen_ok]
    rfl
   ·grind
  ·grind
 ·grind
theorem Ck {op:BinOp}{t ty:TypeId}{x y:Operand}{a b v:Value}(ho:o.op=.binOp op t x y ty) (hx:α.ev x=.v a) (hy:α.ev y=.v b) (h:rG P op t a b=some v):aQ P w0 n o α S (.v v) S :=
 aQ.quiet fun A g c w hS hA=>by
  have h1:=hA.ev x;have h2:=hA.ev y;rw[hx] at h1;rw[hy] at h2;have:=SX (x:=x) (y:=y) (w:=w) h;simp only[Sem.run_bind] at this;refine⟨v,?_,.v⟩;simp only[execOp,ho,bI h1,bI h2,Sem.run_bind];rw[this]
  rfl
theorem PQ {op:BinOp}{t ty:TypeId}{x y:Operand}{k:IntKind}{a b c:Int}(ho:o.op=.binOp op t x y ty) (hx:α.ev x=.v (.int k a)) (hy:α.ev y=.v (.int k b)) (h:arith op a b=some c) :
  aQ P w0 n o α S (.v (.int k (k.wrap c))) S :=
 aQ.quiet fun A g q w hS hA=>by
  have h1:=hA.ev x;have h2:=hA.ev y;rw[hx] at h1;rw[hy] at h2;refine⟨_,?_,.v⟩;cases op<;>simp_all[arith]<;>simp[execOp,ho,bI h1,bI h2,eqGuard,binOp,Op.intArith,h]
theorem M_ {t ty:TypeId}{x y:Operand}{a b:ByteArray}(ho:o.op=.binOp .add t x y ty) (hx:α.ev x=.v (.string a)) (hy:α.ev y=.v (.string b)) (h:a.size+b.size<=9223372036854775807) :
  aQ P w0 n o α S (.v (.string (a++b))) S :=
 aQ.quiet fun A g q w hS hA=>by
  have h1:=hA.ev x;have h2:=hA.ev y;rw[hx] at h1;rw[hy] at h2;refine⟨_,?_,.v⟩;have:¬ (((a.size+b.size:Nat):Int) > IntKind.i64.max):=by
   have:IntKind.i64.max=9223372036854775807:=by rfl
   rw[this];omega
  simp only[execOp,ho,bI h1,bI h2,eqGuard,binOp,Op.stringOp,Sem.run_bind,if_neg this]
  rfl
theorem W1 {t:TypeId}{x:Operand}{b:Bool}(ho:o.op=.unOp .not t x) (hx:α.ev x=.v (.bool b)):aQ P w0 n o α S (.v (.bool (!b))) S :=
 aQ.quiet fun A g q w hS hA=>by
  have h1:=hA.ev x;rw[hx] at h1;exact⟨_,by simp[execOp,ho,bI h1,Op.unary],.v⟩
theorem W2 {t:TypeId}{x:Operand}{k:IntKind}{a:Int}(ho:o.op=.unOp .neg t x) (hx:α.ev x=.v (.int k a)):aQ P w0 n o α S (.v (.int k (k.wrap (0 - a)))) S :=
 aQ.quiet fun A g q w hS hA=>by
  have h1:=hA.ev x;rw[hx] at h1;exact⟨_,by simp[execOp,ho,bI h1,Op.unary,Op.intArith],.v⟩
theorem KG {src dst:TypeId}{x:Operand}{k0 k k':IntKind}{a:Int}(ho:o.op=.convert src dst x) (hs:P.underlying src=some (.int k0)) (hd:P.underlying dst=some (.int k)) (hx:α.ev x=.v (.int k' a)) :
  aQ P w0 n o α S (.v (.int k (k.wrap a))) S :=
 aQ.quiet fun A g q w hS hA=>by
  have h1:=hA.ev x;rw[hx] at h1;exact⟨_,by simp[execOp,ho,bI h1,convert,run_underlying hs,run_underlying hd,Conv.intToInt],.v⟩
theorem KH {src dst:TypeId}{x:Operand}{s:ByteArray}(ho:o.op=.convert src dst x) (hs:P.underlying src=some .string) (hd:P.underlying dst=some .string) (hx:α.ev x=.v (.string s)) :
  aQ P w0 n o α S (.v (.string s)) S :=
 aQ.quiet fun A g q w hS hA=>by
  have h1:=hA.ev x;rw[hx] at h1;exact⟨_,by simp[execOp,ho,bI h1,convert,run_underlying hs,run_underlying hd],.v⟩
theorem Is {g:Gh}{w:World}{row:List AV}{b q:Nat}(h:aF g w (.ip row) (.pointer (some ⟨b,q,none⟩))) (j:Nat):aF g w (.ip (row.drop j)) (.pointer (some ⟨b,q+j,none⟩)):=by
 cases h with
 |@ip _ _ _ val h hr =>
  refine .ip (val:=fun i=>val (j+i)) (fun i a ha=>?_) (fun i a ha=>?_)
  ·grind
  ·grind
theorem wb {w:World}{b q:Nat}{f:Field}{m:Nat}(h:cY P f.type=some (m+1)):(fieldPlace ⟨b,q,none⟩ f).run P w=.ok ⟨b,q+f.offset,none⟩ w:=by
 simp[fieldPlace,ct h,fF]
theorem KI {s:TypeId}{x:Operand}{f:Nat}{fs:Array Field}{fd:Field}{m:Nat}{row:List AV}(ho:o.op=.fieldAddr s x f) (hu:P.underlying s=some (.struct fs)) (hf:fs[f]?=some fd) (hs:cY P fd.type=some (m+1))
  (hx:α.ev x=.ip row):aQ P w0 n o α S (.ip (row.drop fd.offset)) S :=
 aQ.quiet fun A g q w hS hA=>by
  have h1:=hA.ev x;rw[hx] at h1;obtain⟨b,p,e,_⟩:=Cb h1;rw[e] at h1;exact⟨_,by simp[execOp,ho,Instr.fieldAt,run_underlying hu,hf,e,Instr.sureAddr,wb hs],Is h1 _⟩
theorem KJ {s:TypeId}{x:Operand}{f:Nat}{fs:Array Field}{fd:Field}{m k sz i j:Nat}(ho:o.op=.fieldAddr s x f) (hu:P.underlying s=some (.struct fs)) (hf:fs[f]?=some fd) (hs:cY P fd.type=some (m+1))
  (hx:α.ev x=.pt k sz i j):aQ P w0 n o α S (.pt k sz i (j+fd.offset)) S :=
 aQ.quiet fun A g q w hS hA=>by
  have h1:=hA.ev x;rw[hx] at h1;obtain⟨y,hy⟩:∃ y,q.eval x=y:=⟨_,rfl⟩;rw[hy] at h1;cases h1 with
  |pt hk=>exact⟨_,by simp[execOp,ho,Instr.fieldAt,run_underlying hu,hf,hy,Instr.sureAddr,wb hs];rfl,by rw[Nat.add_assoc];exact .pt hk⟩
theorem Dq {g:Gh}{w:World}{t:TypeId}{l:List AV}{cs:Array Value}{j:Nat}(h:nC P t l j=some r) (hl:oL g w l cs):∃ v,(part t cs j).run P w=.ok v w/\aF g w r v:=by
 unfold nC at h;split at h
 ·rename_i m ha hs;split at h
  ·rename_i hle;have hle:=Nat.le_of_ble_eq_true hle;obtain rfl:=oJ_ h;rw[Ll];refine⟨.agg (cs.extract j (j+m)),by simp[part,w5 ha,ct hs],.agg ?_ (fun i b x h1 h2=>?_)⟩
   ·simp[hl.1];omega
   ·rw[List.getElem?_take] at h1;split at h1
    ·rename_i hi;rw[List.getElem?_drop] at h1;rw[Array.getElem?_extract] at h2;split at h2
     ·exact hl.2 _ b x h1 h2
     ·grind
    ·grind
  ·grind
 ·rename_i ha;have hj:j < cs.size:=by rw[hl.1];exact (List.getElem?_eq_some_iff.1 h).1
  exact⟨cs[j],by simp[part,w5 ha,Array.getElem?_eq_getElem hj],hl.2 j r _ h (Array.getElem?_eq_getElem hj)⟩
 ·grind
theorem EU {g:Gh}{w:World}{l:List AV}{v:Value}(h:aF g w (.agg l) v):∃ cs,v=.agg cs/\oL g w l cs:=by
 cases h with
 |agg hs h=>exact⟨_,rfl,hs,h⟩
theorem Na {t:TypeId}{x:Operand}{f:Nat}{fs:Array Field}{fd:Field}{l:List AV}(ho:o.op=.field t x f) (hu:P.underlying t=some (.struct fs)) (hf:fs[f]?=some fd) (hx:α.ev x=.agg l) (h:nC P fd.type l fd.offset=some r) :
  aQ P w0 n o α S r S :=
 aQ.quiet fun A g q w hS hA=>by
  have h1:=hA.ev x;rw[hx] at h1;obtain⟨cs,e,hl⟩:=EU h1;obtain⟨v,h2,h3⟩:=Dq (w:=w) h hl;exact⟨v,by simp[execOp,ho,Instr.field,run_underlying hu,hf,e,asAgg,h2],h3⟩
theorem KK {x:Operand}{i:Nat}{l:List AV}(ho:o.op=.extract x i) (hx:α.ev x=.aG l) (h:l[i]?=some r):aQ P w0 n o α S r S :=
 aQ.quiet fun A g q w hS hA=>by
  have h1:=hA.ev x;rw[hx] at h1;obtain⟨y,hy⟩:∃ y,q.eval x=y:=⟨_,rfl⟩;rw[hy] at h1;cases h1 with
  |@aG _ cs hs h' =>
   have hi:i < cs.size:=by grind
   exact⟨cs[i],by simp[execOp,ho,hy,Instr.extract,Array.getElem?_eq_getElem hi],h' i r _ h (Array.getElem?_eq_getElem hi)⟩
theorem oN {g:Gh}{w:World}{m:Nat}{a:Act}(hA:bR g w m α a) (l:Array Operand):(l.map a.eval).size=(l.toList.map α.ev).length/\∀ (i:Nat) (b:AV) (x:Value),(l.toList.map α.ev)[i]?=some b->(l.map a.eval)[i]?=some x->aF g w b x:=by
 refine⟨by simp,fun i b x h1 h2=>?_⟩;simp only[List.getElem?_map,Option.map_eq_some_iff] at h1;obtain⟨y,hy,rfl⟩:=h1;rw[Array.getElem?_map] at h2;rw[Array.getElem?_toList] at hy;rw[hy] at h2;simp at h2;subst h2;exact hA.ev y
theorem Iu {f:Fn}{first cap:Array Operand}(ho:o.op=.makeFunc f first cap):aQ P w0 n o α S (.fn f (first.toList.map α.ev) (cap.toList.map α.ev)) S :=
 aQ.quiet fun A g q w hS hA=>by
  obtain⟨h1,h2⟩:=oN hA first
  obtain⟨h3,h4⟩:=oN hA cap;exact⟨_,by simp[execOp,ho,Instr.makeFunc],.fn h1 h3 h2 h4⟩
theorem F3 {x:Operand}(ho:o.op=.nilCheck x) (hx:(∃ c,α.ev x=.ip c)\/∃ k sz i j,α.ev x=.pt k sz i j):aQ P w0 n o α S (α.ev x) S :=
 aQ.quiet fun A g q w hS hA=>by
  have h1:=hA.ev x;refine⟨q.eval x,?_,h1⟩;obtain⟨y,hy⟩:∃ y,q.eval x=y:=⟨_,rfl⟩;rw[hy] at h1;rcases hx with ⟨c,hx⟩|⟨k,sz,i,j,hx⟩<;>rw[hx] at h1<;>cases h1<;>simp[execOp,ho,hy]
end
section
variable {P:Program}{w0:World}{n:Nat}{o:Oper}{α:AA}{S S':ae}{r:AV}
def Dr (g:Gh) (w:World) (sz:Nat) (rows:List (List AV)) (cs:Array Value):Prop :=
 cs.size=rows.length*sz/\∀ (i:Nat) (row:List AV),rows[i]?=some row->row.length=sz/\∀ (j:Nat) (a:AV),row[j]?=some a->∃ x,cs[i*sz+j]?=some x/\aF g w a x
theorem mf {i m sz j:Nat}(hi:i < m) (hj:j < sz):i*sz+j < m*sz:=by
 have:=Nat.mul_le_mul_right sz (show i+1<=m from hi);rw[Nat.add_mul,Nat.one_mul] at this;omega
theorem vw {g:Gh}{w:World}{sz:Nat}:∀ {parts:List (Nat × AV)}{y5:List (Nat × Value)}{rows cV:List (List AV)}{cs:Array Value},sG sz rows parts=some cV->Dr g w sz rows cs ->
  EJ (fun (p:Nat × AV) (q:Nat × Value)=>p.1=q.1/\aF g w p.2 q.2) parts y5->∃ cs',Instr.fill (fun i=>some (i*sz,sz)) cs y5=some cs'/\Dr g w sz cV cs'/\cV.length=rows.length
 |[],_,rows,cV,cs,h,hl,hp=>by
  cases hp;obtain rfl:=oJ_ h;exact⟨cs,rfl,hl,rfl⟩
 |(i,a)::rest,_,rows,cV,cs,h,hl,hp=>by
  cases hp with
  |@cons _ q _ mN hq oA =>
   obtain⟨j,x⟩:=q;obtain⟨e,hx⟩:=hq;simp only at e hx;subst e;simp only[sG] at h;split at h
   ·rename_i hc;simp only[Bool.and_eq_true] at hc;obtain⟨⟨e1,e2⟩,e3⟩:=hc;have e1:=Nat.eq_of_beq_eq_true e1;have e2:i < rows.length:=Nat.le_of_ble_eq_true e2;obtain⟨c1,c2,c3⟩:=pA e3 hx;have f:=y4 (i*sz) x.cells.toList 0 cs;have iH:i*sz+sz<=rows.length*sz:=by
     have:=Nat.mul_le_mul_right sz (show i+1<=rows.length from e2)
     rwa [Nat.add_mul,Nat.one_mul] at this
    have j9:i*sz+x.cells.size<=cs.size:=by rw[hl.1,c1,e1];exact iH
    have f2:=f.2 (by grind);have nI:Dr g w sz (rows.set i (aL a)) ((x.cells.toList.zipIdx 0).foldl (fun cs (p:Value × Nat)=>cs.setIfInBounds (i*sz+p.2) p.1) cs):=by
     refine⟨by rw[f.1,hl.1];simp,fun i' bw f_=>?_⟩;by_cases e:i'=i
     ·subst e;rw[List.getElem?_set_self e2] at f_;obtain rfl:=oJ_ f_;refine⟨e1,fun j' a' cM=>?_⟩;have lx:j' < (aL a).length:=(List.getElem?_eq_some_iff.1 cM).1;have fc:j' < x.cells.size:=by grind
      refine⟨x.cells[j'],?_,c2 j' a' _ cM (Array.getElem?_eq_getElem fc)⟩;rw[f2];simp only[Nat.add_zero,Array.length_toList,Array.getElem?_toList];rw[if_neg (by omega),if_pos (by omega),show i'*sz+j' - i'*sz=j' by omega];exact Array.getElem?_eq_getElem fc
     ·rw[List.getElem?_set_ne (Ne.symm e)] at f_;refine⟨(hl.2 i' bw f_).1,fun j' a' cM=>?_⟩;obtain⟨y,hy,C_⟩:=(hl.2 i' bw f_).2 j' a' cM;have lx:j' < sz:=by rw[<-(hl.2 i' bw f_).1];exact (List.getElem?_eq_some_iff.1 cM).1
      refine⟨y,?_,C_⟩;rw[f2];simp only[Nat.add_zero,Array.length_toList,Array.getElem?_toList,c1,e1];rcases Nat.lt_or_gt_of_ne e with c|c
      ·grind[mf]
      ·have:i*sz+sz<=i'*sz:=by
        have:=Nat.mul_le_mul_right sz (show i+1<=i' from c)
        rwa [Nat.add_mul,Nat.one_mul] at this
       rw[if_neg (by omega),if_neg (by omega)];exact hy
    obtain⟨cs',h1,h2,h3⟩:=vw h nI oA;refine⟨cs',?_,h2,by grind⟩;rw[<-h1];simp only[Instr.fill];rw[if_neg (by grind)];congr 1;rw[<-Array.foldl_toList,Array.toList_zipIdx]
   ·grind
theorem F4 {g:Gh}{w:World}{zs:Array Value}{len:Nat}(h:0 < zs.size):Dr g w zs.size (List.replicate len (zs.toList.map bJ)) ((Array.range (len*zs.size)).map (zs[· % zs.size]!)):=by
 refine⟨by simp,fun i row hr=>?_⟩;rw[List.getElem?_replicate] at hr;split at hr
 ·rename_i hi;obtain rfl:=oJ_ hr;refine⟨by simp,fun j a ha=>?_⟩;have hl:=oL.bJ (g:=g) (w:=w) zs;have hj:j < zs.size:=by grind
  refine⟨zs[j],?_,hl.2 j a _ ha (Array.getElem?_eq_getElem hj)⟩;have aA:=mf hi hj;rw[Array.getElem?_map,Array.getElem?_range,if_pos aA];have e:(i*zs.size+j) % zs.size=j:=by rw[Nat.mul_comm,Nat.mul_add_mod,Nat.mod_eq_of_lt hj]
  simp[e,hj]
 ·grind
theorem KL {g:Gh}{w:World}{sz b c:Nat}{rows:List (List AV)}{cs:Array Value}{ty:TypeId}{ex:Bool}(h:Dr g w sz rows cs) (hb:w.heap[b]?=some (.cells cs ty (0,0))) (hz:∀ q,g.fz b q) (hc:ex=true->c=rows.length) (hle:rows.length<=c) :
  aF g w (.sl ex rows) (.slice (some ⟨b,0,none⟩) rows.length c):=by
 cases rows with
 |nil=>exact .nil hc
 |cons r rs =>
  refine .sl (sz:=sz) (val:=fun i j=>cs.getD (i*sz+j) undef) (by simp) hc hle (fun i row hr=>(h.2 i row hr).1) (fun i j row a hr ha=>⟨hz _,?_⟩) (fun i j row a hr ha=>?_)
  ·obtain⟨x,hx,dR⟩:=(h.2 i row hr).2 j a ha;rw[cell_of_row _ _ _ cs ty (0,0) hb,Nat.zero_add,hx];simp[Array.getD_eq_getD_getElem?,hx]
  ·obtain⟨x,hx,dR⟩:=(h.2 i row hr).2 j a ha;simp only[Array.getD_eq_getD_getElem?,hx,Option.getD_some];exact dR
theorem EV {t e:TypeId}{len sz:Nat}{parts:Array (Nat × Operand)}{z:Value}{rows:List (List AV)}(ho:o.op=.buildSlice t len parts) (hu:P.underlying t=some (.slice e)) (hz:de P e=some z) (hs:cY P e=some sz)
  (h1:len*sz<=16777216) (h2:z.cells.size=sz) (h3:0 < sz) (h:sG sz (List.replicate len (z.cells.toList.map bJ)) (parts.toList.map fun (i,x)=>(i,α.ev x))=some rows):aQ P w0 n o α S (.sl true rows) S:=by
 intro A g a w hS hA;obtain⟨cs,hf,hr,hl⟩:=vw h (by rw[<-h2];exact F4 (by omega)) (uL hA parts.toList);rw[List.length_replicate] at hl;obtain⟨hE,cZ⟩:=hS.Fq (.cells cs e);refine⟨.slice (some ⟨w.heap.size,0,none⟩) len len,w.alloc (.cells cs e),g.Fq w.heap.size,.inl ?_,?_,cZ,hE⟩
 ·have Iv:¬ (len*sz > 2 ^ 24):=by omega
  rw[h2] at hf;simp only[execOp,ho,Instr.buildSlice,Sem.run_bind,run_underlying hu,Result.andThen_ok,ct hs,if_neg Iv];by_cases c:len*sz=0
  ·have e0:∀ f:Nat->Value,(Array.range (len*sz)).map f=#[]:=fun f=>by grind
   rw[e0] at hf;have zq:Instr.fill (fun i=>some (i*sz,sz)) ((Array.range (len*sz)).map fun x=>(#[]:Array Value)[x % (#[]:Array Value).size]!) (Array.map (fun x=>(x.fst,a.eval x.snd)) parts).toList=some cs:=by
    rw[e0,Array.toList_map];exact hf
   rw[if_pos c];simp only[Sem.run_bind,Sem.run_pure,Result.andThen_ok,zq,newRow,run_newObj]
   rfl
  ·have zq:Instr.fill (fun i=>some (i*sz,sz)) ((Array.range (len*sz)).map fun x=>z.cells[x % z.cells.size]!) (Array.map (fun x=>(x.fst,a.eval x.snd)) parts).toList=some cs:=by
    rw[Array.toList_map,h2];exact hf
   rw[if_neg c];simp only[Sem.run_bind,lN hz,Sem.run_pure,Result.andThen_ok,zq,newRow,run_newObj]
   rfl
 ·have:=KL (ex:=true) (c:=rows.length) (b:=w.heap.size) (ty:=e) (g:=g.Fq w.heap.size) (w:=w.alloc (.cells cs e)) (sz:=sz) (rows:=rows) (cs:=cs)
   ⟨hr.1,fun i row hi=>⟨(hr.2 i row hi).1,fun j b hb=>let ⟨x,hx,dR⟩:=(hr.2 i row hi).2 j b hb;⟨x,hx,dR.later hE.toLater⟩⟩⟩ dw (fun q=>.inr rfl) (fun _=>rfl) (Nat.le_refl _)
  rwa [hl] at this
theorem W3 {g:Gh}{w:World}{ex:Bool}{rows:List (List AV)}{v:Value}{sz i:Nat}{row:List AV}(h:aF g w (.sl ex rows) v) (hl:∀ r ∈ rows,r.length=sz) (hi:rows[i]?=some row) :
  ∃ b q c,v=.slice (some ⟨b,q,none⟩) rows.length c/\aF g w (.ip row) (.pointer (some ⟨b,q+i*sz,none⟩)):=by
 cases h with
 |nil hc=>simp at hi
 |@sl _ _ b q sz' c val hn hc hle nI h hr =>
  have e:sz'=sz:=by grind
  subst e;refine⟨b,q,c,rfl,.ip (val:=fun j=>val i j) (fun j a ha=>?_) (fun j a ha=>hr i j row a hi ha)⟩;rw[Nat.add_assoc];exact h i j row a hi ha
theorem Iw {β:Type}{rows:List β}{k:Int}{x:β}(h:idx rows k=some x):0<=k/\rows[k.toNat]?=some x/\k < rows.length:=by grind[idx]
theorem KM {t e:TypeId}{x y:Operand}{ex:Bool}{rows:List (List AV)}{k:IntKind}{i:Int}{sz:Nat}{row:List AV}(ho:o.op=.indexAddr t x y) (hu:P.underlying t=some (.slice e)) (hx:α.ev x=.sl ex rows) (hy:α.ev y=.v (.int k i))
  (hs:cY P e=some sz) (hi:idx rows i=some row) (hl:∀ r ∈ rows,r.length=sz):aQ P w0 n o α S (.ip row) S :=
 aQ.quiet fun A g q w hS hA=>by
  have h1:=hA.ev x;have h2:=hA.ev y;rw[hx] at h1;rw[hy] at h2;obtain⟨h0,hr,aA⟩:=Iw hi;obtain⟨b,p,c,e1,oQ⟩:=W3 h1 hl hr;refine⟨_,?_,oQ⟩;simp only[execOp,ho,e1,bI h2,Instr.indexAt,asIntOf,Sem.run_bind,run_underlying hu,ct hs,Result.andThen_ok,Sem.run_pure];rw[if_pos ⟨h0,aA⟩];simp[ct hs,fF]
theorem KO {t e:TypeId}{x y:Operand}{k sz off len:Nat}{cx:Option Nat}{kd:IntKind}{i:Int}(ho:o.op=.indexAddr t x y) (hu:P.underlying t=some (.slice e)) (hx:α.ev x=.ob k sz off len cx) (hy:α.ev y=.v (.int kd i))
  (hs:cY P e=some sz) (h0:0<=i) (aA:i < len):aQ P w0 n o α S (.pt k sz (off+i.toNat) 0) S :=
 aQ.quiet fun A g q w hS hA=>by
  have h1:=hA.ev x;have h2:=hA.ev y;rw[hx] at h1;rw[hy] at h2;obtain⟨v,hv⟩:∃ v,q.eval x=v:=⟨_,rfl⟩;rw[hv] at h1;cases h1 with
  |ob hk hc hp hxx hle =>
   have:=aF.pt (g:=g) (w:=w) (sz:=sz) (i:=off+i.toNat) (j:=0) hk;refine⟨_,?_,this⟩;simp only[execOp,ho,hv,bI h2,Instr.indexAt,asIntOf,Sem.run_bind,run_underlying hu,ct hs,Result.andThen_ok,Sem.run_pure];rw[if_pos ⟨h0,aA⟩];simp[ct hs,fF,Nat.add_mul]
theorem EW {t e:TypeId}{x y:Operand}{k sz i j len m:Nat}{kd:IntKind}{q:Int}(ho:o.op=.indexAddr t x y) (hu:P.underlying t=some (.array len e)) (hx:α.ev x=.pt k sz i j) (hy:α.ev y=.v (.int kd q))
  (hs:cY P e=some m) (h0:0<=q) (aA:q < len):aQ P w0 n o α S (.pt k sz i (j+q.toNat*m)) S :=
 aQ.quiet fun A g c w hS hA=>by
  have h1:=hA.ev x;have h2:=hA.ev y;rw[hx] at h1;rw[hy] at h2;obtain⟨v,hv⟩:∃ v,c.eval x=v:=⟨_,rfl⟩;rw[hv] at h1;cases h1 with
  |pt hk =>
   refine⟨_,?_,.pt hk⟩;simp only[execOp,ho,hv,bI h2,Instr.indexAt,asIntOf,Instr.sureAddr,Sem.run_bind,run_underlying hu,ct hs,Result.andThen_ok,Sem.run_pure];rw[if_pos ⟨h0,aA⟩];simp[ct hs,fF,Nat.add_assoc]
theorem EX {t e:TypeId}{x y:Operand}{row:List AV}{len m:Nat}{kd:IntKind}{q:Int}(ho:o.op=.indexAddr t x y) (hu:P.underlying t=some (.array len e)) (hx:α.ev x=.ip row) (hy:α.ev y=.v (.int kd q))
  (hs:cY P e=some m) (h0:0<=q) (aA:q < len):aQ P w0 n o α S (.ip (row.drop (q.toNat*m))) S :=
 aQ.quiet fun A g c w hS hA=>by
  have h1:=hA.ev x;have h2:=hA.ev y;rw[hx] at h1;rw[hy] at h2;obtain⟨b,p,e1,_⟩:=Cb h1;rw[e1] at h1;refine⟨_,?_,Is h1 _⟩;simp only[execOp,ho,e1,bI h2,Instr.indexAt,asIntOf,Instr.sureAddr,Sem.run_bind,run_underlying hu,ct hs,Result.andThen_ok,Sem.run_pure];rw[if_pos ⟨h0,aA⟩];simp[ct hs,fF]
theorem Ix {t:TypeId}{x y:Operand}{s:ByteArray}{k:IntKind}{i:Int}{b:UInt8}(ho:o.op=.index t x y) (hu:P.underlying t=some .string) (hx:α.ev x=.v (.string s)) (hy:α.ev y=.v (.int k i)) (hi:idx s.data.toList i=some b) :
  aQ P w0 n o α S (.v (.int .u8 b.toNat)) S :=
 aQ.quiet fun A g q w hS hA=>by
  have h1:=hA.ev x;have h2:=hA.ev y;rw[hx] at h1;rw[hy] at h2;obtain⟨h0,hr,aA⟩:=Iw hi;refine⟨_,?_,.v⟩;have bS:i.toNat < s.size:=by
   have:=(List.getElem?_eq_some_iff.1 hr).1;simpa using this
  have e:s[i.toNat]?=some b:=by
   rw[getElem?_pos s i.toNat bS];have Yx:s.data[i.toNat]?=some b:=by grind
   rw[Array.getElem?_eq_getElem (by grind)] at Yx;exact Yx
  simp only[execOp,ho,bI h1,bI h2,Instr.index,asIntOf,Sem.run_bind,run_underlying hu,Result.andThen_ok,Sem.run_pure,if_pos h0,e]
theorem Iy {t e:TypeId}{x y:Operand}{l:List AV}{len m:Nat}{kd:IntKind}{q:Int}(ho:o.op=.index t x y) (hu:P.underlying t=some (.array len e)) (hx:α.ev x=.agg l) (hy:α.ev y=.v (.int kd q))
  (hs:cY P e=some m) (h:nC P e l (q.toNat*m)=some r) (h0:0<=q) (aA:q < len):aQ P w0 n o α S r S :=
 aQ.quiet fun A g c w hS hA=>by
  have h1:=hA.ev x;have h2:=hA.ev y;rw[hx] at h1;rw[hy] at h2;obtain⟨cs,e1,hl⟩:=EU h1;obtain⟨v,h3,h4⟩:=Dq (w:=w) h hl;refine⟨v,?_,h4⟩;simp only[execOp,ho,e1,bI h2,Instr.index,asIntOf,Sem.run_bind,run_underlying hu,Result.andThen_ok,Sem.run_pure];rw[if_pos ⟨h0,aA⟩];simp[ct hs,h3]
theorem Iz {g:Gh}{w:World}{a:AV}{v:Value}{m:Nat}(h:nR a=some m) (hr:aF g w a v):(∃ A c,v=.slice A m c)\/∃ s,v=.string s/\s.size=m:=by
 unfold nR at h;split at h
 ·obtain rfl:=oJ_ h;cases hr with
  |nil=>exact .inl ⟨_,_,rfl⟩
  |sl=>exact .inl ⟨_,_,rfl⟩
 ·obtain rfl:=oJ_ h;cases hr with
  |ob=>exact .inl ⟨_,_,rfl⟩
 ·obtain rfl:=oJ_ h;cases hr with
  |v=>exact .inr ⟨_,rfl,rfl⟩
 ·grind
theorem toList_one {α:Type}{l:Array α}{x:α}(h:l.toList=[x]):l=#[x]:=by grind
theorem toList_two {α:Type}{l:Array α}{x y:α}(h:l.toList=[x,y]):l=#[x,y]:=by grind
theorem LB {c:Call}{t:TypeId}{a:AV}{m:Nat}{d:TypeDesc}(ho:o.op=.call c) (hc:c.callee=.builtin .len) (ht:c.argTypes=#[t]) {x:Operand}(bj:c.args=#[x]) (hx:α.ev x=a) (hm:nR a=some m) (hu:P.underlying t=some d)
  (hd:(∃ e,d=.slice e/\∀ s,a ≠ .v (.string s))\/(d=.string/\∃ s,a=.v (.string s))):aQ P w0 n o α S (.v (.int .i64 (m:Int))) S :=
 aQ.quiet fun A g q w hS hA=>by
  have h1:=hA.ev x;rw[hx] at h1;refine⟨_,?_,.v⟩;rcases hd with ⟨e,rfl,bU⟩|⟨rfl,s,rfl⟩
  ·rcases Iz hm h1 with ⟨B,k,hv⟩|⟨s,hv,_⟩
   ·simp[execOp,ho,resolve,hc,bj,ht,hv,invoke,builtin,Builtin.len_,run_underlying hu,goInt]
   ·exfalso;rw[hv] at h1;unfold nR at hm;split at hm
    ·cases h1
    ·cases h1
    ·grind
    ·grind
  ·have hv:=bI h1;simp only[nR,oI_] at hm;subst hm;simp[execOp,ho,resolve,hc,bj,ht,hv,invoke,builtin,Builtin.len_,run_underlying hu,goInt]
theorem W4 {c:Call}{k:IntKind}{i j:Int}(ho:o.op=.call c) (hc:c.callee=.builtin .min) {x y:Operand}(bj:c.args=#[x,y]) (hx:α.ev x=.v (.int k i)) (hy:α.ev y=.v (.int k j)):aQ P w0 n o α S (.v (.int k (min i j))) S :=
 aQ.quiet fun A g q w hS hA=>by
  have h1:=hA.ev x;have h2:=hA.ev y;rw[hx] at h1;rw[hy] at h2;refine⟨_,?_,.v⟩;have:(if j < i then j else i)=min i j:=by omega
  simp[execOp,ho,resolve,hc,bj,bI h1,bI h2,invoke,builtin,Builtin.min_,Builtin.min2,this]
theorem W5 {c:Call}{k:IntKind}{i j:Int}(ho:o.op=.call c) (hc:c.callee=.builtin .max) {x y:Operand}(bj:c.args=#[x,y]) (hx:α.ev x=.v (.int k i)) (hy:α.ev y=.v (.int k j)):aQ P w0 n o α S (.v (.int k (max i j))) S :=
 aQ.quiet fun A g q w hS hA=>by
  have h1:=hA.ev x;have h2:=hA.ev y;rw[hx] at h1;rw[hy] at h2;refine⟨_,?_,.v⟩;have:(if j > i then j else i)=max i j:=by omega
  simp[execOp,ho,resolve,hc,bj,bI h1,bI h2,invoke,builtin,Builtin.max_,Builtin.max2,this]
end
end Go.Proofs.YtbpabjmnhggajaaGreat
