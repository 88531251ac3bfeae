import Derived.Test.YtbofilglphfceaaGreatQ2
namespace Go.Proofs.YtbofilglphfceaaGreat
set_option linter.unusedVariables false
set_option linter.unusedSimpArgs false
open Go.RowKit
section
variable (P:Program) (w0:World) (n:Nat)
def bf (o:Oper) (α:AA) (S:ae) (r:AV) (S':ae):Prop :=
 ∀ (A:Nat->Prop) (g:Gh) (a:Act) (w:World),St w0 A g S w->bY g w n α a->∃ (v:Value) (w':World) (g':Gh),
  ((execOp a.eval o).run P w=.ok (.value v) w'\/((execOp a.eval o).run P w=.ok .skip w'/\v=undef))/\aJ g' w' r v/\St w0 A g' S' w'/\Ext A g w g' w'
def ew (o:Oper) (α:AA) (S:ae) (r:AV) (S':ae):Prop :=
 ∀ (F:Fence) (m:Nat) (A:Nat->Prop) (g:Gh) (a:Act) (w:World) (next:Act->World->Prop) (Q:Exit->Act->World->Prop),g7 F->St w0 A g S w->bY g w n α a ->
  (∀ (v:Value) (w':World) (g':Gh),aJ g' w' r v->St w0 A g' S' w'->Ext A g w g' w'->next (a.put o.dst v) w')->o.uponIn F m P a next Q ((o.semAt F.round a.eval).run P w)
end
section
variable {P:Program}{w0:World}{n:Nat}{o:Oper}{α:AA}{S S':ae}{r:AV}
theorem bf.ops (h:bf P w0 n o α S r S') (hd:∀ c,o.op ≠ .defer c):ew P w0 n o α S r S':=by
 intro F m A g a w next Q hF hS hA lY
 obtain⟨v,w',g',cr,hr,gR,hE⟩:=h A g a w hS hA
 rw [Oper.semAt_eq _ _ _ hd]
 rcases cr with cr|⟨cr,rfl⟩
 ·rw [cr];exact lY v w' g' hr gR hE
 ·rw [cr];exact lY undef w' g' hr gR hE
theorem bf.quiet (h:∀ (A:Nat->Prop) (g:Gh) (a:Act) (w:World),St w0 A g S w->bY g w n α a->∃ v,(execOp a.eval o).run P w=.ok (.value v) w/\aJ g w r v):bf P w0 n o α S r S:=by
 intro A g a w hS hA
 obtain⟨v,h1,h2⟩:=h A g a w hS hA
 exact⟨v,w,g,.inl h1,h2,hS,Ext.refl ..⟩
theorem CL {x:Operand}(ho:o.op=.move x\/o.op=.assign x):bf P w0 n o α S (α.ev x) S :=
 bf.quiet fun A g a w hS hA=>⟨a.eval x,by rcases ho with ho|ho<;>simp [execOp,ho],hA.ev x⟩
theorem LQ {c x y:Operand}{t:Bool}(ho:o.op=.pick c x y) (hc:α.ev c=.v (.bool t)):bf P w0 n o α S (if t then α.ev x else α.ev y) S :=
 bf.quiet fun A g a w hS hA=>by
  have h1:=hA.ev c
  rw [hc] at h1
  have h2:=Cs h1
  cases t with
  |true=>exact⟨a.eval x,by simp [execOp,ho,h2,asBool],hA.ev x⟩
  |false=>exact⟨a.eval y,by simp [execOp,ho,h2,asBool],hA.ev y⟩
theorem sA {A:Nat->Prop}{g:Gh}{w:World}{cs:List AV}{cells:Array Value}{ty:TypeId}(hS:St w0 A g S w) (h:ma g w cs cells) :
  ∃ g',aJ g' (w.alloc (.cells cells ty)) (.pt S.nx cs.length 0 0) (.pointer (some ⟨w.heap.size,0,none⟩))/\St w0 A g' (ib S cs).2 (w.alloc (.cells cells ty))/\Ext A g w g' (w.alloc (.cells cells ty)):=by
 obtain⟨hE,dg⟩:=hS.new (.cells cells ty) (.arr cs.length [cs] 0 true) 1 (fun J=>by simp) (fun hL=>by
  refine⟨cells,ty,dk,by rw [h.1];simp,by simp,fun _=>rfl,fun i row hr=>?_,Nat.zero_le _,fun q=>⟨fun hf=>?_,fun hf=>by simp at hf⟩⟩
  ·cases i with
   |succ i=>simp at hr
   |zero =>
    simp at hr
    subst hr
    refine⟨rfl,fun j a ha=>?_⟩
    have hj:j < cells.size:=by rw [h.1];exact (List.getElem?_eq_some_iff.1 ha).1
    exact⟨cells[j],by simp,(h.2 j a _ ha (Array.getElem?_eq_getElem hj)).later hL⟩
  ·exact absurd (hS.cG _ _ hf) (by omega))
 refine⟨_,?_,dg,hE⟩
 have:=aJ.pt (g:=g.new S.nx w.heap.size 1) (w:=w.alloc (.cells cells ty)) (k:=S.nx) (sz:=cs.length) (i:=0) (j:=0) (.inr rfl)
 rw [show (g.new S.nx w.heap.size 1).ob S.nx=w.heap.size from aE _ _ _] at this
 simpa using this
theorem JL {e:TypeId}{z:Value}(ho:o.op=.alloc e) (hz:c_ P e=some z):bf P w0 n o α S (ib S (z.cells.toList.map bV)).1 (ib S (z.cells.toList.map bV)).2:=by
 intro A g a w hS hA
 obtain⟨g',h1,h2,h3⟩:=sA (ty:=e) hS (ma.bV z.cells)
 refine⟨_,_,g',.inl ?_,h1,h2,h3⟩
 simp [execOp,ho,Instr.alloc,mw hz,newVar,newRow]
theorem Rc {e:TypeId}{x:Operand}(ho:o.op=.box e x) (hx:(aZ (α.ev x)).all cn=true):bf P w0 n o α S (ib S (aZ (α.ev x))).1 (ib S (aZ (α.ev x))).2:=by
 intro A g a w hS hA
 obtain⟨c1,c2,c3⟩:=mS hx (hA.ev x)
 obtain⟨g',h1,h2,h3⟩:=sA (ty:=e) hS ⟨c1,c2⟩
 refine⟨_,_,g',.inl ?_,h1,h2,h3⟩
 simp [execOp,ho,Instr.box,newVar,newRow]
theorem Gf {t:TypeId}{parts:Array (Nat × Operand)}(ho:o.op=.build t parts) (h:pZ P t (parts.toList.map fun (i,x)=>(i,α.ev x))=some r):bf P w0 n o α S r S :=
 bf.quiet fun A g a w hS hA=>by
  obtain⟨v,h1,h2⟩:=D1 (w:=w) hA h
  exact⟨v,by simp only [execOp,ho,Sem.run_bind];rw [h1];rfl,h2⟩
theorem JM {t:TypeId}{x:Operand}(ho:o.op=.load t x) (h:q_ P S t (α.ev x)=some r):bf P w0 n o α S r S :=
 bf.quiet fun A g a w hS hA=>by
  obtain⟨b,q,v,h1,h2,h3⟩:=wg hS h (hA.ev x)
  exact⟨v,by simp [execOp,ho,Instr.loadAt,h1,Instr.sureAddr,h2],h3⟩
theorem Gg {t:TypeId}{x b:Operand}(ho:o.op=.store t x b) (h:kI P S t (α.ev b) (α.ev x)=some S'):bf P w0 n o α S (.v undef) S':=by
 intro A g a w hS hA
 obtain⟨c,q,w',h1,h2,h3,h4,h5⟩:=qd hS h (hA.ev x) (hA.ev b)
 exact⟨undef,w',g,.inr ⟨by simp [execOp,ho,Instr.storeAt,h1,Instr.sureAddr,h2],rfl⟩,.v,h5,h4⟩
theorem LR {op:BinOp}{t:TypeId}{x y:Operand}{a b v:Value}{w:World}(h:oQ P op t a b=some v):(do eqGuard op t x y a b;binOp op t a b:Sem Value).run P w=.ok v w:=by
 unfold oQ at h
 split at h
 ·rename_i k i k' j
  split at h
  ·rename_i hk
   obtain rfl:=of_decide_eq_true hk
   cases op<;>simp_all [eqGuard,binOp,Op.intCmp]
  ·cases h
 ·cases op<;>simp_all [eqGuard,binOp,Op.stringOp]
 ·rename_i p q
  split at h
  ·rename_i hu
   have he:(Op.equal t (.bool p) (.bool q)).run P w=.ok (p == q) w:=by
    show (Op.equalIn (9999+1) t (.bool p) (.bool q)).run P w=_
    rw [Op.equalIn]
    simp only [Sem.run_bind,run_underlying hu,Result.andThen_ok]
    rfl
   have hg:∀ op:BinOp,(eqGuard op t x y (.bool p) (.bool q)).run P w=.ok () w:=by
    intro op
    cases op<;>rfl
   split at h
   ·obtain rfl:=Option.some.inj h
    simp only [Sem.run_bind,hg,Result.andThen_ok]
    have e:binOp .eql t (.bool p) (.bool q)=(do pure (Value.bool (<-Op.equal t (.bool p) (.bool q))):Sem Value):=rfl
    rw [e]
    simp only [Sem.run_bind,he,Result.andThen_ok]
    rfl
   ·obtain rfl:=Option.some.inj h
    simp only [Sem.run_bind,hg,Result.andThen_ok]
    have e:binOp .neq t (.bool p) (.bool q)=(do pure (Value.bool (!(<-Op.equal t (.bool p) (.bool q)))):Sem Value):=rfl
    rw [e]
    simp only [Sem.run_bind,he,Result.andThen_ok]
    rfl
   ·cases h
  ·cases h
 ·cases h
theorem xf {op:BinOp}{t ty:TypeId}{x y:Operand}{a b v:Value}(ho:o.op=.binOp op t x y ty) (hx:α.ev x=.v a) (hy:α.ev y=.v b) (h:oQ P op t a b=some v):bf P w0 n o α S (.v v) S :=
 bf.quiet fun A g c w hS hA=>by
  have h1:=hA.ev x
  have h2:=hA.ev y
  rw [hx] at h1
  rw [hy] at h2
  have:=LR (x:=x) (y:=y) (w:=w) h
  simp only [Sem.run_bind] at this
  refine⟨v,?_,.v⟩
  simp only [execOp,ho,ca h1,ca h2,Sem.run_bind]
  rw [this]
  rfl
theorem JN {op:BinOp}{t ty:TypeId}{x y:Operand}{k:IntKind}{a b c:Int}(ho:o.op=.binOp op t x y ty) (hx:α.ev x=.v (.int k a)) (hy:α.ev y=.v (.int k b)) (h:arith op a b=some c) :
  bf P w0 n o α S (.v (.int k (k.wrap c))) S :=
 bf.quiet fun A g q w hS hA=>by
  have h1:=hA.ev x
  have h2:=hA.ev y
  rw [hx] at h1
  rw [hy] at h2
  refine⟨_,?_,.v⟩
  cases op<;>simp_all [arith]<;>simp [execOp,ho,ca h1,ca h2,eqGuard,binOp,Op.intArith,h]
theorem Gi {t ty:TypeId}{x y:Operand}{a b:ByteArray}(ho:o.op=.binOp .add t x y ty) (hx:α.ev x=.v (.string a)) (hy:α.ev y=.v (.string b)) (h:a.size+b.size<=9223372036854775807) :
  bf P w0 n o α S (.v (.string (a++b))) S :=
 bf.quiet fun A g q w hS hA=>by
  have h1:=hA.ev x
  have h2:=hA.ev y
  rw [hx] at h1
  rw [hy] at h2
  refine⟨_,?_,.v⟩
  have:¬ (((a.size+b.size:Nat):Int) > IntKind.i64.max):=by
   have:IntKind.i64.max=9223372036854775807:=by rfl
   rw [this]
   omega
  simp only [execOp,ho,ca h1,ca h2,eqGuard,binOp,Op.stringOp,Sem.run_bind,if_neg this]
  rfl
theorem Rd {t:TypeId}{x:Operand}{b:Bool}(ho:o.op=.unOp .not t x) (hx:α.ev x=.v (.bool b)):bf P w0 n o α S (.v (.bool (!b))) S :=
 bf.quiet fun A g q w hS hA=>by
  have h1:=hA.ev x
  rw [hx] at h1
  exact⟨_,by simp [execOp,ho,ca h1,Op.unary],.v⟩
theorem Re {t:TypeId}{x:Operand}{k:IntKind}{a:Int}(ho:o.op=.unOp .neg t x) (hx:α.ev x=.v (.int k a)):bf P w0 n o α S (.v (.int k (k.wrap (0 - a)))) S :=
 bf.quiet fun A g q w hS hA=>by
  have h1:=hA.ev x
  rw [hx] at h1
  exact⟨_,by simp [execOp,ho,ca h1,Op.unary,Op.intArith],.v⟩
theorem D2 {src dst:TypeId}{x:Operand}{k0 k k':IntKind}{a:Int}(ho:o.op=.convert src dst x) (hs:P.underlying src=some (.int k0)) (hd:P.underlying dst=some (.int k)) (hx:α.ev x=.v (.int k' a)) :
  bf P w0 n o α S (.v (.int k (k.wrap a))) S :=
 bf.quiet fun A g q w hS hA=>by
  have h1:=hA.ev x
  rw [hx] at h1
  exact⟨_,by simp [execOp,ho,ca h1,convert,run_underlying hs,run_underlying hd,Conv.intToInt],.v⟩
theorem D3 {src dst:TypeId}{x:Operand}{s:ByteArray}(ho:o.op=.convert src dst x) (hs:P.underlying src=some .string) (hd:P.underlying dst=some .string) (hx:α.ev x=.v (.string s)) :
  bf P w0 n o α S (.v (.string s)) S :=
 bf.quiet fun A g q w hS hA=>by
  have h1:=hA.ev x
  rw [hx] at h1
  exact⟨_,by simp [execOp,ho,ca h1,convert,run_underlying hs,run_underlying hd],.v⟩
theorem CM {g:Gh}{w:World}{row:List AV}{b q:Nat}(h:aJ g w (.ip row) (.pointer (some ⟨b,q,none⟩))) (j:Nat):aJ g w (.ip (row.drop j)) (.pointer (some ⟨b,q+j,none⟩)):=by
 cases h with
 |@ip _ _ _ val h hr =>
  refine .ip (val:=fun i=>val (j+i)) (fun i a ha=>?_) (fun i a ha=>?_)
  ·rw [List.getElem?_drop] at ha
   rw [Nat.add_assoc]
   exact h (j+i) a ha
  ·rw [List.getElem?_drop] at ha
   exact hr (j+i) a ha
theorem sB {w:World}{b q:Nat}{f:Field}{m:Nat}(h:cQ P f.type=some (m+1)):(fieldPlace ⟨b,q,none⟩ f).run P w=.ok ⟨b,q+f.offset,none⟩ w:=by
 simp [fieldPlace,cL h,fA]
theorem D4 {s:TypeId}{x:Operand}{f:Nat}{fs:Array Field}{fd:Field}{m:Nat}{row:List AV}(ho:o.op=.fieldAddr s x f) (hu:P.underlying s=some (.struct fs)) (hf:fs[f]?=some fd) (hs:cQ P fd.type=some (m+1))
  (hx:α.ev x=.ip row):bf P w0 n o α S (.ip (row.drop fd.offset)) S :=
 bf.quiet fun A g q w hS hA=>by
  have h1:=hA.ev x
  rw [hx] at h1
  obtain⟨b,p,e,_⟩:=w9 h1
  rw [e] at h1
  exact⟨_,by simp [execOp,ho,Instr.fieldAt,run_underlying hu,hf,e,Instr.sureAddr,sB hs],CM h1 _⟩
theorem D5 {s:TypeId}{x:Operand}{f:Nat}{fs:Array Field}{fd:Field}{m k sz i j:Nat}(ho:o.op=.fieldAddr s x f) (hu:P.underlying s=some (.struct fs)) (hf:fs[f]?=some fd) (hs:cQ P fd.type=some (m+1))
  (hx:α.ev x=.pt k sz i j):bf P w0 n o α S (.pt k sz i (j+fd.offset)) S :=
 bf.quiet fun A g q w hS hA=>by
  have h1:=hA.ev x
  rw [hx] at h1
  obtain⟨y,hy⟩:∃ y,q.eval x=y:=⟨_,rfl⟩
  rw [hy] at h1
  cases h1 with
  |pt hk=>exact⟨_,by simp [execOp,ho,Instr.fieldAt,run_underlying hu,hf,hy,Instr.sureAddr,sB hs];rfl,by rw [Nat.add_assoc];exact .pt hk⟩
theorem yj {g:Gh}{w:World}{t:TypeId}{l:List AV}{cs:Array Value}{j:Nat}(h:lf P t l j=some r) (hl:ma g w l cs):∃ v,(part t cs j).run P w=.ok v w/\aJ g w r v:=by
 unfold lf at h
 split at h
 ·rename_i m ha hs
  split at h
  ·rename_i hle
   have hle:=Nat.le_of_ble_eq_true hle
   obtain rfl:=Option.some.inj h
   rw [EP]
   refine⟨.agg (cs.extract j (j+m)),by simp [part,s_ ha,cL hs],.agg ?_ (fun i b x h1 h2=>?_)⟩
   ·simp [hl.1];omega
   ·rw [List.getElem?_take] at h1
    split at h1
    ·rename_i hi
     rw [List.getElem?_drop] at h1
     rw [Array.getElem?_extract] at h2
     split at h2
     ·exact hl.2 _ b x h1 h2
     ·cases h2
    ·cases h1
  ·cases h
 ·rename_i ha
  have hj:j < cs.size:=by rw [hl.1];exact (List.getElem?_eq_some_iff.1 h).1
  exact⟨cs[j],by simp [part,s_ ha,Array.getElem?_eq_getElem hj],hl.2 j r _ h (Array.getElem?_eq_getElem hj)⟩
 ·cases h
theorem zJ {g:Gh}{w:World}{l:List AV}{v:Value}(h:aJ g w (.agg l) v):∃ cs,v=.agg cs/\ma g w l cs:=by
 cases h with
 |agg hs h=>exact⟨_,rfl,hs,h⟩
theorem Gj {t:TypeId}{x:Operand}{f:Nat}{fs:Array Field}{fd:Field}{l:List AV}(ho:o.op=.field t x f) (hu:P.underlying t=some (.struct fs)) (hf:fs[f]?=some fd) (hx:α.ev x=.agg l) (h:lf P fd.type l fd.offset=some r) :
  bf P w0 n o α S r S :=
 bf.quiet fun A g q w hS hA=>by
  have h1:=hA.ev x
  rw [hx] at h1
  obtain⟨cs,e,hl⟩:=zJ h1
  obtain⟨v,h2,h3⟩:=yj (w:=w) h hl
  exact⟨v,by simp [execOp,ho,Instr.field,run_underlying hu,hf,e,asAgg,h2],h3⟩
theorem D6 {x:Operand}{i:Nat}{l:List AV}(ho:o.op=.extract x i) (hx:α.ev x=.bg l) (h:l[i]?=some r):bf P w0 n o α S r S :=
 bf.quiet fun A g q w hS hA=>by
  have h1:=hA.ev x
  rw [hx] at h1
  obtain⟨y,hy⟩:∃ y,q.eval x=y:=⟨_,rfl⟩
  rw [hy] at h1
  cases h1 with
  |@bg _ cs hs h' =>
   have hi:i < cs.size:=by rw [hs];exact (List.getElem?_eq_some_iff.1 h).1
   exact⟨cs[i],by simp [execOp,ho,hy,Instr.extract,Array.getElem?_eq_getElem hi],h' i r _ h (Array.getElem?_eq_getElem hi)⟩
theorem l_ {g:Gh}{w:World}{m:Nat}{a:Act}(hA:bY g w m α a) (l:Array Operand):(l.map a.eval).size=(l.toList.map α.ev).length/\∀ (i:Nat) (b:AV) (x:Value),(l.toList.map α.ev)[i]?=some b->(l.map a.eval)[i]?=some x->aJ g w b x:=by
 refine⟨by simp,fun i b x h1 h2=>?_⟩
 simp only [List.getElem?_map,Option.map_eq_some_iff] at h1
 obtain⟨y,hy,rfl⟩:=h1
 rw [Array.getElem?_map] at h2
 rw [Array.getElem?_toList] at hy
 rw [hy] at h2
 simp at h2
 subst h2
 exact hA.ev y
theorem CN {f:Fn}{first cap:Array Operand}(ho:o.op=.makeFunc f first cap):bf P w0 n o α S (.fn f (first.toList.map α.ev) (cap.toList.map α.ev)) S :=
 bf.quiet fun A g q w hS hA=>by
  obtain⟨h1,h2⟩:=l_ hA first
  obtain⟨h3,h4⟩:=l_ hA cap
  exact⟨_,by simp [execOp,ho,Instr.makeFunc],.fn h1 h3 h2 h4⟩
theorem AG {x:Operand}(ho:o.op=.nilCheck x) (hx:(∃ c,α.ev x=.ip c)\/∃ k sz i j,α.ev x=.pt k sz i j):bf P w0 n o α S (α.ev x) S :=
 bf.quiet fun A g q w hS hA=>by
  have h1:=hA.ev x
  refine⟨q.eval x,?_,h1⟩
  obtain⟨y,hy⟩:∃ y,q.eval x=y:=⟨_,rfl⟩
  rw [hy] at h1
  rcases hx with ⟨c,hx⟩|⟨k,sz,i,j,hx⟩<;>rw [hx] at h1<;>cases h1<;>simp [execOp,ho,hy]
end
section
variable {P:Program}{w0:World}{n:Nat}{o:Oper}{α:AA}{S S':ae}{r:AV}
def ym (g:Gh) (w:World) (sz:Nat) (rows:List (List AV)) (cs:Array Value):Prop :=
 cs.size=rows.length*sz/\∀ (i:Nat) (row:List AV),rows[i]?=some row->row.length=sz/\∀ (j:Nat) (a:AV),row[j]?=some a->∃ x,cs[i*sz+j]?=some x/\aJ g w a x
theorem jr {i m sz j:Nat}(hi:i < m) (hj:j < sz):i*sz+j < m*sz:=by
 have:=Nat.mul_le_mul_right sz (show i+1<=m from hi)
 rw [Nat.add_mul,Nat.one_mul] at this
 omega
theorem wj {g:Gh}{w:World}{sz:Nat}:∀ {parts:List (Nat × AV)}{ux:List (Nat × Value)}{rows cI:List (List AV)}{cs:Array Value},s8 sz rows parts=some cI->ym g w sz rows cs ->
  zC (fun (p:Nat × AV) (q:Nat × Value)=>p.1=q.1/\aJ g w p.2 q.2) parts ux->∃ cs',Instr.fill (fun i=>some (i*sz,sz)) cs ux=some cs'/\ym g w sz cI cs'/\cI.length=rows.length
 |[],_,rows,cI,cs,h,hl,hp=>by
  cases hp
  obtain rfl:=Option.some.inj h
  exact⟨cs,rfl,hl,rfl⟩
 |(i,a)::rest,_,rows,cI,cs,h,hl,hp=>by
  cases hp with
  |@cons _ q _ jT hq pn =>
   obtain⟨j,x⟩:=q
   obtain⟨e,hx⟩:=hq
   simp only at e hx
   subst e
   simp only [s8] at h
   split at h
   ·rename_i hc
    simp only [Bool.and_eq_true] at hc
    obtain⟨⟨e1,e2⟩,e3⟩:=hc
    have e1:=Nat.eq_of_beq_eq_true e1
    have e2:i < rows.length:=Nat.le_of_ble_eq_true e2
    obtain⟨c1,c2,c3⟩:=mS e3 hx
    have f:=uw (i*sz) x.cells.toList 0 cs
    have wo:i*sz+sz<=rows.length*sz:=by
     have:=Nat.mul_le_mul_right sz (show i+1<=rows.length from e2)
     rwa [Nat.add_mul,Nat.one_mul] at this
    have ee:i*sz+x.cells.size<=cs.size:=by rw [hl.1,c1,e1];exact wo
    have f2:=f.2 (by simpa using ee)
    have mM:ym g w sz (rows.set i (aZ a)) ((x.cells.toList.zipIdx 0).foldl (fun cs (p:Value × Nat)=>cs.setIfInBounds (i*sz+p.2) p.1) cs):=by
     refine⟨by rw [f.1,hl.1];simp,fun i' bB jg=>?_⟩
     by_cases e:i'=i
     ·subst e
      rw [List.getElem?_set_self e2] at jg
      obtain rfl:=Option.some.inj jg
      refine⟨e1,fun j' a' cA=>?_⟩
      have lC:j' < (aZ a).length:=(List.getElem?_eq_some_iff.1 cA).1
      have gY:j' < x.cells.size:=by rw [c1];exact lC
      refine⟨x.cells[j'],?_,c2 j' a' _ cA (Array.getElem?_eq_getElem gY)⟩
      rw [f2]
      simp only [Nat.add_zero,Array.length_toList,Array.getElem?_toList]
      rw [if_neg (by omega),if_pos (by omega),show i'*sz+j' - i'*sz=j' by omega]
      exact Array.getElem?_eq_getElem gY
     ·rw [List.getElem?_set_ne (Ne.symm e)] at jg
      refine⟨(hl.2 i' bB jg).1,fun j' a' cA=>?_⟩
      obtain⟨y,hy,x9⟩:=(hl.2 i' bB jg).2 j' a' cA
      have lC:j' < sz:=by rw [<-(hl.2 i' bB jg).1];exact (List.getElem?_eq_some_iff.1 cA).1
      refine⟨y,?_,x9⟩
      rw [f2]
      simp only [Nat.add_zero,Array.length_toList,Array.getElem?_toList,c1,e1]
      rcases Nat.lt_or_gt_of_ne e with c|c
      ·have:=jr c lC
       rw [if_pos (by omega)]
       exact hy
      ·have:i*sz+sz<=i'*sz:=by
        have:=Nat.mul_le_mul_right sz (show i+1<=i' from c)
        rwa [Nat.add_mul,Nat.one_mul] at this
       rw [if_neg (by omega),if_neg (by omega)]
       exact hy
    obtain⟨cs',h1,h2,h3⟩:=wj h mM pn
    refine⟨cs',?_,h2,by rw [h3];simp⟩
    rw [<-h1]
    simp only [Instr.fill]
    rw [if_neg (by simp only [Bool.or_eq_true,decide_eq_true_eq,not_or];omega)]
    congr 1
    rw [<-Array.foldl_toList,Array.toList_zipIdx]
   ·cases h
theorem JO {g:Gh}{w:World}{zs:Array Value}{len:Nat}(h:0 < zs.size):ym g w zs.size (List.replicate len (zs.toList.map bV)) ((Array.range (len*zs.size)).map (zs[· % zs.size]!)):=by
 refine⟨by simp,fun i row hr=>?_⟩
 rw [List.getElem?_replicate] at hr
 split at hr
 ·rename_i hi
  obtain rfl:=Option.some.inj hr
  refine⟨by simp,fun j a ha=>?_⟩
  have hl:=ma.bV (g:=g) (w:=w) zs
  have hj:j < zs.size:=by have:=(List.getElem?_eq_some_iff.1 ha).1;simpa using this
  refine⟨zs[j],?_,hl.2 j a _ ha (Array.getElem?_eq_getElem hj)⟩
  have au:=jr hi hj
  rw [Array.getElem?_map,Array.getElem?_range,if_pos au]
  have e:(i*zs.size+j) % zs.size=j:=by rw [Nat.mul_comm,Nat.mul_add_mod,Nat.mod_eq_of_lt hj]
  simp [e,hj]
 ·cases hr
theorem D7 {g:Gh}{w:World}{sz b c:Nat}{rows:List (List AV)}{cs:Array Value}{ty:TypeId}{ex:Bool}(h:ym g w sz rows cs) (hb:w.heap[b]?=some (.cells cs ty (0,0))) (hz:∀ q,g.fz b q) (hc:ex=true->c=rows.length) (hle:rows.length<=c) :
  aJ g w (.sl ex rows) (.slice (some ⟨b,0,none⟩) rows.length c):=by
 cases rows with
 |nil=>exact .nil hc
 |cons r rs =>
  refine .sl (sz:=sz) (val:=fun i j=>cs.getD (i*sz+j) undef) (by simp) hc hle (fun i row hr=>(h.2 i row hr).1) (fun i j row a hr ha=>⟨hz _,?_⟩) (fun i j row a hr ha=>?_)
  ·obtain⟨x,hx,dw⟩:=(h.2 i row hr).2 j a ha
   rw [cell_of_row _ _ _ cs ty (0,0) hb,Nat.zero_add,hx]
   simp [Array.getD_eq_getD_getElem?,hx]
  ·obtain⟨x,hx,dw⟩:=(h.2 i row hr).2 j a ha
   simp only [Array.getD_eq_getD_getElem?,hx,Option.getD_some]
   exact dw
theorem zK {t e:TypeId}{len sz:Nat}{parts:Array (Nat × Operand)}{z:Value}{rows:List (List AV)}(ho:o.op=.buildSlice t len parts) (hu:P.underlying t=some (.slice e)) (hz:c_ P e=some z) (hs:cQ P e=some sz)
  (h1:len*sz<=16777216) (h2:z.cells.size=sz) (h3:0 < sz) (h:s8 sz (List.replicate len (z.cells.toList.map bV)) (parts.toList.map fun (i,x)=>(i,α.ev x))=some rows):bf P w0 n o α S (.sl true rows) S:=by
 intro A g a w hS hA
 obtain⟨cs,hf,hr,hl⟩:=wj h (by rw [<-h2];exact JO (by omega)) (uy hA parts.toList)
 rw [List.length_replicate] at hl
 obtain⟨hE,dg⟩:=hS.Ak (.cells cs e)
 refine⟨.slice (some ⟨w.heap.size,0,none⟩) len len,w.alloc (.cells cs e),g.Ak w.heap.size,.inl ?_,?_,dg,hE⟩
 ·have CO:¬ (len*sz > 2 ^ 24):=by omega
  rw [h2] at hf
  simp only [execOp,ho,Instr.buildSlice,Sem.run_bind,run_underlying hu,Result.andThen_ok,cL hs,if_neg CO]
  by_cases c:len*sz=0
  ·have e0:∀ f:Nat->Value,(Array.range (len*sz)).map f=#[]:=fun f=>by rw [c];simp
   rw [e0] at hf
   have Ue:Instr.fill (fun i=>some (i*sz,sz)) ((Array.range (len*sz)).map fun x=>(#[]:Array Value)[x % (#[]:Array Value).size]!) (Array.map (fun x=>(x.fst,a.eval x.snd)) parts).toList=some cs:=by
    rw [e0,Array.toList_map]
    exact hf
   rw [if_pos c]
   simp only [Sem.run_bind,Sem.run_pure,Result.andThen_ok,Ue,newRow,run_newObj]
   rfl
  ·have Ue:Instr.fill (fun i=>some (i*sz,sz)) ((Array.range (len*sz)).map fun x=>z.cells[x % z.cells.size]!) (Array.map (fun x=>(x.fst,a.eval x.snd)) parts).toList=some cs:=by
    rw [Array.toList_map,h2]
    exact hf
   rw [if_neg c]
   simp only [Sem.run_bind,mw hz,Sem.run_pure,Result.andThen_ok,Ue,newRow,run_newObj]
   rfl
 ·have:=D7 (ex:=true) (c:=rows.length) (b:=w.heap.size) (ty:=e) (g:=g.Ak w.heap.size) (w:=w.alloc (.cells cs e)) (sz:=sz) (rows:=rows) (cs:=cs)
   ⟨hr.1,fun i row hi=>⟨(hr.2 i row hi).1,fun j b hb=>let ⟨x,hx,dw⟩:=(hr.2 i row hi).2 j b hb;⟨x,hx,dw.later hE.toLater⟩⟩⟩ dk (fun q=>.inr rfl) (fun _=>rfl) (Nat.le_refl _)
  rwa [hl] at this
theorem Rf {g:Gh}{w:World}{ex:Bool}{rows:List (List AV)}{v:Value}{sz i:Nat}{row:List AV}(h:aJ g w (.sl ex rows) v) (hl:∀ r ∈ rows,r.length=sz) (hi:rows[i]?=some row) :
  ∃ b q c,v=.slice (some ⟨b,q,none⟩) rows.length c/\aJ g w (.ip row) (.pointer (some ⟨b,q+i*sz,none⟩)):=by
 cases h with
 |nil hc=>simp at hi
 |@sl _ _ b q sz' c val hn hc hle mM h hr =>
  have e:sz'=sz:=by
   have h1:=mM i row hi
   have h2:=hl row (List.mem_of_getElem? hi)
   omega
  subst e
  refine⟨b,q,c,rfl,.ip (val:=fun j=>val i j) (fun j a ha=>?_) (fun j a ha=>hr i j row a hi ha)⟩
  rw [Nat.add_assoc]
  exact h i j row a hi ha
theorem CP {β:Type}{rows:List β}{k:Int}{x:β}(h:idx rows k=some x):0<=k/\rows[k.toNat]?=some x/\k < rows.length:=by
 unfold idx at h
 split at h
 ·rename_i h0
  have:=(List.getElem?_eq_some_iff.1 h).1
  exact⟨h0,h,by omega⟩
 ·cases h
theorem D8 {t e:TypeId}{x y:Operand}{ex:Bool}{rows:List (List AV)}{k:IntKind}{i:Int}{sz:Nat}{row:List AV}(ho:o.op=.indexAddr t x y) (hu:P.underlying t=some (.slice e)) (hx:α.ev x=.sl ex rows) (hy:α.ev y=.v (.int k i))
  (hs:cQ P e=some sz) (hi:idx rows i=some row) (hl:∀ r ∈ rows,r.length=sz):bf P w0 n o α S (.ip row) S :=
 bf.quiet fun A g q w hS hA=>by
  have h1:=hA.ev x
  have h2:=hA.ev y
  rw [hx] at h1
  rw [hy] at h2
  obtain⟨h0,hr,au⟩:=CP hi
  obtain⟨b,p,c,e1,w_⟩:=Rf h1 hl hr
  refine⟨_,?_,w_⟩
  simp only [execOp,ho,e1,ca h2,Instr.indexAt,asIntOf,Sem.run_bind,run_underlying hu,cL hs,Result.andThen_ok,Sem.run_pure]
  rw [if_pos ⟨h0,au⟩]
  simp [cL hs,fA]
theorem D9 {t e:TypeId}{x y:Operand}{k sz off len:Nat}{cx:Option Nat}{kd:IntKind}{i:Int}(ho:o.op=.indexAddr t x y) (hu:P.underlying t=some (.slice e)) (hx:α.ev x=.ob k sz off len cx) (hy:α.ev y=.v (.int kd i))
  (hs:cQ P e=some sz) (h0:0<=i) (au:i < len):bf P w0 n o α S (.pt k sz (off+i.toNat) 0) S :=
 bf.quiet fun A g q w hS hA=>by
  have h1:=hA.ev x
  have h2:=hA.ev y
  rw [hx] at h1
  rw [hy] at h2
  obtain⟨v,hv⟩:∃ v,q.eval x=v:=⟨_,rfl⟩
  rw [hv] at h1
  cases h1 with
  |ob hk hc hp hxx hle =>
   have:=aJ.pt (g:=g) (w:=w) (sz:=sz) (i:=off+i.toNat) (j:=0) hk
   refine⟨_,?_,this⟩
   simp only [execOp,ho,hv,ca h2,Instr.indexAt,asIntOf,Sem.run_bind,run_underlying hu,cL hs,Result.andThen_ok,Sem.run_pure]
   rw [if_pos ⟨h0,au⟩]
   simp [cL hs,fA,Nat.add_mul]
theorem zL {t e:TypeId}{x y:Operand}{k sz i j len m:Nat}{kd:IntKind}{q:Int}(ho:o.op=.indexAddr t x y) (hu:P.underlying t=some (.array len e)) (hx:α.ev x=.pt k sz i j) (hy:α.ev y=.v (.int kd q))
  (hs:cQ P e=some m) (h0:0<=q) (au:q < len):bf P w0 n o α S (.pt k sz i (j+q.toNat*m)) S :=
 bf.quiet fun A g c w hS hA=>by
  have h1:=hA.ev x
  have h2:=hA.ev y
  rw [hx] at h1
  rw [hy] at h2
  obtain⟨v,hv⟩:∃ v,c.eval x=v:=⟨_,rfl⟩
  rw [hv] at h1
  cases h1 with
  |pt hk =>
   refine⟨_,?_,.pt hk⟩
   simp only [execOp,ho,hv,ca h2,Instr.indexAt,asIntOf,Instr.sureAddr,Sem.run_bind,run_underlying hu,cL hs,Result.andThen_ok,Sem.run_pure]
   rw [if_pos ⟨h0,au⟩]
   simp [cL hs,fA,Nat.add_assoc]
theorem zM {t e:TypeId}{x y:Operand}{row:List AV}{len m:Nat}{kd:IntKind}{q:Int}(ho:o.op=.indexAddr t x y) (hu:P.underlying t=some (.array len e)) (hx:α.ev x=.ip row) (hy:α.ev y=.v (.int kd q))
  (hs:cQ P e=some m) (h0:0<=q) (au:q < len):bf P w0 n o α S (.ip (row.drop (q.toNat*m))) S :=
 bf.quiet fun A g c w hS hA=>by
  have h1:=hA.ev x
  have h2:=hA.ev y
  rw [hx] at h1
  rw [hy] at h2
  obtain⟨b,p,e1,_⟩:=w9 h1
  rw [e1] at h1
  refine⟨_,?_,CM h1 _⟩
  simp only [execOp,ho,e1,ca h2,Instr.indexAt,asIntOf,Instr.sureAddr,Sem.run_bind,run_underlying hu,cL hs,Result.andThen_ok,Sem.run_pure]
  rw [if_pos ⟨h0,au⟩]
  simp [cL hs,fA]
theorem CQ {t:TypeId}{x y:Operand}{s:ByteArray}{k:IntKind}{i:Int}{b:UInt8}(ho:o.op=.index t x y) (hu:P.underlying t=some .string) (hx:α.ev x=.v (.string s)) (hy:α.ev y=.v (.int k i)) (hi:idx s.data.toList i=some b) :
  bf P w0 n o α S (.v (.int .u8 b.toNat)) S :=
 bf.quiet fun A g q w hS hA=>by
  have h1:=hA.ev x
  have h2:=hA.ev y
  rw [hx] at h1
  rw [hy] at h2
  obtain⟨h0,hr,au⟩:=CP hi
  refine⟨_,?_,.v⟩
  have bH:i.toNat < s.size:=by
   have:=(List.getElem?_eq_some_iff.1 hr).1
   simpa using this
  have e:s[i.toNat]?=some b:=by
   rw [getElem?_pos s i.toNat bH]
   have Sn:s.data[i.toNat]?=some b:=by rw [<-Array.getElem?_toList];exact hr
   rw [Array.getElem?_eq_getElem (by simpa using bH)] at Sn
   exact Sn
  simp only [execOp,ho,ca h1,ca h2,Instr.index,asIntOf,Sem.run_bind,run_underlying hu,Result.andThen_ok,Sem.run_pure,if_pos h0,e]
theorem CR {t e:TypeId}{x y:Operand}{l:List AV}{len m:Nat}{kd:IntKind}{q:Int}(ho:o.op=.index t x y) (hu:P.underlying t=some (.array len e)) (hx:α.ev x=.agg l) (hy:α.ev y=.v (.int kd q))
  (hs:cQ P e=some m) (h:lf P e l (q.toNat*m)=some r) (h0:0<=q) (au:q < len):bf P w0 n o α S r S :=
 bf.quiet fun A g c w hS hA=>by
  have h1:=hA.ev x
  have h2:=hA.ev y
  rw [hx] at h1
  rw [hy] at h2
  obtain⟨cs,e1,hl⟩:=zJ h1
  obtain⟨v,h3,h4⟩:=yj (w:=w) h hl
  refine⟨v,?_,h4⟩
  simp only [execOp,ho,e1,ca h2,Instr.index,asIntOf,Sem.run_bind,run_underlying hu,Result.andThen_ok,Sem.run_pure]
  rw [if_pos ⟨h0,au⟩]
  simp [cL hs,h3]
theorem CS {g:Gh}{w:World}{a:AV}{v:Value}{m:Nat}(h:lL a=some m) (hr:aJ g w a v):(∃ A c,v=.slice A m c)\/∃ s,v=.string s/\s.size=m:=by
 unfold lL at h
 split at h
 ·obtain rfl:=Option.some.inj h
  cases hr with
  |nil=>exact .inl ⟨_,_,rfl⟩
  |sl=>exact .inl ⟨_,_,rfl⟩
 ·obtain rfl:=Option.some.inj h
  cases hr with
  |ob=>exact .inl ⟨_,_,rfl⟩
 ·obtain rfl:=Option.some.inj h
  cases hr with
  |v=>exact .inr ⟨_,rfl,rfl⟩
 ·cases h
theorem toList_one {α:Type}{l:Array α}{x:α}(h:l.toList=[x]):l=#[x]:=by cases l;simp at h;rw [h]
theorem toList_two {α:Type}{l:Array α}{x y:α}(h:l.toList=[x,y]):l=#[x,y]:=by cases l;simp at h;rw [h]
theorem E7 {c:Call}{t:TypeId}{a:AV}{m:Nat}{d:TypeDesc}(ho:o.op=.call c) (hc:c.callee=.builtin .len) (ht:c.argTypes=#[t]) {x:Operand}(bA:c.args=#[x]) (hx:α.ev x=a) (hm:lL a=some m) (hu:P.underlying t=some d)
  (hd:(∃ e,d=.slice e/\∀ s,a ≠ .v (.string s))\/(d=.string/\∃ s,a=.v (.string s))):bf P w0 n o α S (.v (.int .i64 (m:Int))) S :=
 bf.quiet fun A g q w hS hA=>by
  have h1:=hA.ev x
  rw [hx] at h1
  refine⟨_,?_,.v⟩
  rcases hd with ⟨e,rfl,bG⟩|⟨rfl,s,rfl⟩
  ·rcases CS hm h1 with ⟨B,k,hv⟩|⟨s,hv,_⟩
   ·simp [execOp,ho,resolve,hc,bA,ht,hv,invoke,builtin,Builtin.len_,run_underlying hu,goInt]
   ·exfalso
    rw [hv] at h1
    unfold lL at hm
    split at hm
    ·cases h1
    ·cases h1
    ·exact bG _ rfl
    ·cases hm
  ·have hv:=ca h1
   simp only [lL,Option.some.injEq] at hm
   subst hm
   simp [execOp,ho,resolve,hc,bA,ht,hv,invoke,builtin,Builtin.len_,run_underlying hu,goInt]
theorem Rg {c:Call}{k:IntKind}{i j:Int}(ho:o.op=.call c) (hc:c.callee=.builtin .min) {x y:Operand}(bA:c.args=#[x,y]) (hx:α.ev x=.v (.int k i)) (hy:α.ev y=.v (.int k j)):bf P w0 n o α S (.v (.int k (min i j))) S :=
 bf.quiet fun A g q w hS hA=>by
  have h1:=hA.ev x
  have h2:=hA.ev y
  rw [hx] at h1
  rw [hy] at h2
  refine⟨_,?_,.v⟩
  have:(if j < i then j else i)=min i j:=by omega
  simp [execOp,ho,resolve,hc,bA,ca h1,ca h2,invoke,builtin,Builtin.min_,Builtin.min2,this]
theorem Rh {c:Call}{k:IntKind}{i j:Int}(ho:o.op=.call c) (hc:c.callee=.builtin .max) {x y:Operand}(bA:c.args=#[x,y]) (hx:α.ev x=.v (.int k i)) (hy:α.ev y=.v (.int k j)):bf P w0 n o α S (.v (.int k (max i j))) S :=
 bf.quiet fun A g q w hS hA=>by
  have h1:=hA.ev x
  have h2:=hA.ev y
  rw [hx] at h1
  rw [hy] at h2
  refine⟨_,?_,.v⟩
  have:(if j > i then j else i)=max i j:=by omega
  simp [execOp,ho,resolve,hc,bA,ca h1,ca h2,invoke,builtin,Builtin.max_,Builtin.max2,this]
end
section
variable {P:Program}{w0:World}{n:Nat}{o:Oper}{α:AA}{S S':ae}{r:AV}
theorem CT {rows:List (List AV)}{sz:Nat}(h:∀ r ∈ rows,r.length=sz):rows.flatten.length=rows.length*sz:=by
 induction rows with
 |nil=>simp
 |cons r rs ih =>
  rw [List.flatten_cons,List.length_append,ih (fun x hx=>h x (by simp [hx])),h r (by simp),List.length_cons,Nat.add_mul,Nat.one_mul,Nat.add_comm]
theorem CU {sz j:Nat}:∀ {rows:List (List AV)}{i:Nat}{row:List AV},(∀ r ∈ rows,r.length=sz)->rows[i]?=some row->j < sz->rows.flatten[i*sz+j]?=row[j]?
 |[],i,row,_,hi,_=>by simp at hi
 |r::rs,0,row,h,hi,hj=>by
  simp at hi
  subst hi
  rw [List.flatten_cons,List.getElem?_append_left (by rw [h r (by simp)];omega)]
  simp
 |r::rs,i+1,row,h,hi,hj=>by
  simp at hi
  have hr:=h r (by simp)
  rw [List.flatten_cons,List.getElem?_append_right (by rw [hr,Nat.add_mul];omega),hr,show (i+1)*sz+j - sz=i*sz+j by rw [Nat.add_mul];omega]
  exact CU (fun x hx=>h x (by simp [hx])) hi hj
theorem CV {sz:Nat}:∀ {rows:List (List AV)}{q:Nat}{a:AV},(∀ r ∈ rows,r.length=sz)->rows.flatten[q]?=some a->∃ i j row,rows[i]?=some row/\row[j]?=some a/\q=i*sz+j
 |[],q,a,_,hq=>by simp at hq
 |r::rs,q,a,h,hq=>by
  have hr:=h r (by simp)
  by_cases c:q < sz
  ·rw [List.flatten_cons,List.getElem?_append_left (by omega)] at hq
   exact⟨0,q,r,rfl,hq,by omega⟩
  ·rw [List.flatten_cons,List.getElem?_append_right (by omega),hr] at hq
   obtain⟨i,j,row,h1,h2,h3⟩:=CV (fun x hx=>h x (by simp [hx])) hq
   exact⟨i+1,j,row,h1,h2,by rw [Nat.add_mul];omega⟩
def Src (g:Gh) (w:World) (sz:Nat) (rows:List (List AV)) (a:Addr) (news:List Value):Prop :=
 news.length=rows.length*sz/\(∀ j u,news[j]?=some u->w.cell? (a.add j)=some u)/\∀ (i:Nat) (row:List AV),rows[i]?=some row->∀ (j:Nat) (a:AV),row[j]?=some a->∃ x,news[i*sz+j]?=some x/\aJ g w a x
theorem m5 {g:Gh}{w:World}{sz b q:Nat}{rows:List (List AV)}(hl:∀ r ∈ rows,r.length=sz) (h:∀ (i j:Nat) (row:List AV) (a:AV),rows[i]?=some row->row[j]?=some a->∃ x,w.cell? ⟨b,q+(i*sz+j),none⟩=some x/\aJ g w a x) :
  ∃ news,Src g w sz rows ⟨b,q,none⟩ news:=by
 obtain⟨cs,h1,h2,h3⟩:=Cells.list (g:=g) (w:=w) (b:=b) (row:=rows.flatten) (o:=q) (fun p a ha=>by
  obtain⟨i,j,row,hi,hj,e⟩:=CV hl ha
  rw [e]
  exact h i j row a hi hj)
 refine⟨cs,h1.trans (CT hl),fun j u hu=>by rw [fA];exact h2 j u hu,fun i row hi j a ha=>?_⟩
 have hj:j < sz:=by rw [<-hl row (List.mem_of_getElem? hi)];exact (List.getElem?_eq_some_iff.1 ha).1
 have hf:=CU hl hi hj
 have au:i*sz+j < cs.length:=by rw [h1,CT hl];exact jr (List.getElem?_eq_some_iff.1 hi).1 hj
 exact⟨cs[i*sz+j],List.getElem?_eq_getElem au,h3 _ a _ (hf.trans ha) (List.getElem?_eq_getElem au)⟩
theorem fV {g:Gh}{w:World}{k sz off len:Nat}{cx:Option Nat}{v:Value}(h:aJ g w (.ob k sz off len cx) v):∃ c,v=.slice (some ⟨g.ob k,off*sz,none⟩) len c/\g.al k/\(∀ m,cx=some m->c=m)/\off+c<=g.cp k/\(cx=none->off+c=g.cp k)/\len<=c:=by
 cases h with
 |ob hk hc hp hx hle=>exact⟨_,rfl,hk,hc,hp,hx,hle⟩
theorem oT {β:Type}{rows:List β}{off len i:Nat}{row:β}(h:((rows.drop off).take len)[i]?=some row):i < len/\rows[off+i]?=some row:=by
 rw [List.getElem?_take] at h
 split at h
 ·rename_i hi
  rw [List.getElem?_drop] at h
  exact⟨hi,h⟩
 ·cases h
theorem lq {A:Nat->Prop}{g:Gh}{w:World}{a:AV}{v:Value}{rows:List (List AV)}{sz:Nat}(hS:St w0 A g S w) (h:rowsOf S a=some rows) (hr:aJ g w a v) (hn:rows ≠ []) (hl:∀ r ∈ rows,r.length=sz) (hlen:lL a=some rows.length) :
  ∃ b q c news,v=.slice (some ⟨b,q,none⟩) rows.length c/\rows.length<=c/\Src g w sz rows ⟨b,q,none⟩ news:=by
 unfold rowsOf at h
 split at h
 ·rename_i ex cI
  obtain rfl:=Option.some.inj h
  cases hr with
  |nil=>exact absurd rfl hn
  |@sl _ _ b q sz' c val Tq hc hle mM h1 h2 =>
   have e:sz'=sz:=by
    obtain⟨r0,rs,rfl⟩:=List.exists_cons_of_ne_nil hn
    have h3:=mM 0 r0 rfl
    have h4:=hl r0 (by simp)
    omega
   subst e
   obtain⟨news,hs⟩:=m5 (g:=g) (w:=w) (b:=b) (q:=q) hl (fun i j row a hi hj=>⟨_,(h1 i j row a hi hj).2,h2 i j row a hi hj⟩)
   exact⟨b,q,c,news,rfl,hle,hs⟩
 ·rename_i k sz' off len cx
  split at h
  ·rename_i fO cI fz ex hk
   split at h
   ·rename_i bH
    have bH:=Nat.eq_of_beq_eq_true bH
    subst bH
    obtain rfl:=Option.some.inj h
    obtain⟨c,rfl,bN,hc,hp,hx,hle⟩:=fV hr
    obtain⟨k2,k3,cs,ty,h1,h2,h3,h4,h5,h6,h7⟩:=hS.cC k _ hk bN
    have e:sz'=sz:=by
     obtain⟨r0,rs,e0⟩:=List.exists_cons_of_ne_nil hn
     have h8:((cI.drop off).take len)[0]?=some r0:=by rw [e0];rfl
     have h9:=(h5 _ r0 (oT h8).2).1
     have Ox:=hl r0 (by rw [e0];simp)
     omega
    subst e
    obtain⟨news,hs⟩:=m5 (g:=g) (w:=w) (b:=g.ob k) (q:=off*sz') hl (fun i j row a hi hj=>by
     obtain⟨x,gT,aO⟩:=(h5 _ row (oT hi).2).2 j a hj
     refine⟨x,?_,aO⟩
     rw [cell_of_row _ _ _ cs ty (0,0) h1,<-gT,Nat.add_mul,Nat.add_assoc])
    have e2:len=((cI.drop off).take len).length:=by simpa [lL] using hlen
    exact⟨_,_,c,news,by rw [<-e2],by rw [<-e2];exact hle,hs⟩
   ·cases h
  ·cases h
 ·cases h
theorem mZ {g:Gh}{w:World}{a:AV}{v:Value}(hlen:lL a=some 0) (h:rowsOf S a=some []) (hr:aJ g w a v):∃ B c,v=.slice B 0 c:=by
 rcases CS hlen hr with ⟨B,c,e⟩|⟨s,e,_⟩
 ·exact⟨B,c,e⟩
 ·rw [e] at hr
  cases hr with
  |v=>simp [rowsOf] at h
  |u=>simp [rowsOf] at h
theorem m6 {t t2 ty e e2:TypeId}{w:World}{x y:Value}(ht:P.underlying t=some (.slice e)) (eZ:P.underlying t2=some (.slice e2)):(Builtin.append_ #[t,t2] ty #[x,y]).run P w=(Builtin.append_ #[t,t] ty #[x,y]).run P w:=by
 simp only [Builtin.append_,List.getElem?_toArray,List.getElem?_cons_zero,List.getElem?_cons_succ,Sem.run_bind,run_underlying ht,run_underlying eZ,Result.andThen_ok]
 cases x<;>first|rfl|simp only [Sem.run_bind,run_underlying ht,run_underlying eZ,Result.andThen_ok,Sem.run_pure]
theorem qu (w:World) (t ty e lS:TypeId) (i:TypeInfo) (ht:P.underlying t=some (.slice e)) (hi:P.info? e=some i)
  (g q xg sCap:Nat) (cur:Array Value) (hg:w.heap[g]?=some (.cells cur lS (0,0)))
  (a:Addr) (m c:Nat) (news:List Value) (hl:news.length=m*i.size) (pw:∀ j u,news[j]?=some u->w.cell? (a.add j)=some u) (h1:∀ u ∈ news,u.oneCell'=true)
  (px:xg+m<=sCap) (ee:q+xg*i.size+news.length<=cur.size) :
  (Builtin.append_ #[t,t] ty #[.slice (some ⟨g,q,none⟩) xg sCap,.slice (some a) m c]).run P w =
   .ok (.slice (some ⟨g,q,none⟩) (xg+m) sCap) (w.setRow g (cur.toList.take (q+xg*i.size)++news++cur.toList.drop (q+xg*i.size+news.length)).toArray):=by
 have hf:=run_firstCells_some (P:=P) w i.size m a m c news hl pw
 have jf:=run_storeCells_at P g (q+xg*i.size) lS news 0 cur w hg (by simpa using ee) h1
 simp only [Nat.add_zero] at jf
 simp [Builtin.append_,run_underlying ht,sizeOf,typeInfo,hi,Builtin.lenOf,px,hf,fA,jf]
theorem wq {g:Gh}{w:World}{sz:Nat}{b b2:Addr}{rows more:List (List AV)}{fW news:List Value}{rest:Array Value}(h1:Src g w sz rows b fW) (h2:Src g w sz more b2 news) (hl:∀ r ∈ rows,r.length=sz) (eP:∀ r ∈ more,r.length=sz) :
  ∀ (i:Nat) (row:List AV),(rows++more)[i]?=some row->row.length=sz/\∀ (j:Nat) (a:AV),row[j]?=some a->∃ x,(fW.toArray++news.toArray++rest)[i*sz+j]?=some x/\aJ g w a x:=by
 intro i row hi
 refine⟨?_,fun j a ha=>?_⟩
 ·have:=List.mem_of_getElem? hi
  rcases List.mem_append.1 this with h|h
  ·exact hl _ h
  ·exact eP _ h
 ·have hj:∀ hm:row.length=sz,j < sz:=fun hm=>by rw [<-hm];exact (List.getElem?_eq_some_iff.1 ha).1
  by_cases c:i < rows.length
  ·rw [List.getElem?_append_left c] at hi
   obtain⟨x,hx,hr⟩:=h1.2.2 i row hi j a ha
   refine⟨x,?_,hr⟩
   have au:=(List.getElem?_eq_some_iff.1 hx).1
   rw [Array.append_assoc,Array.getElem?_append_left (by simpa using au)]
   simpa using hx
  ·rw [List.getElem?_append_right (by omega)] at hi
   obtain⟨x,hx,hr⟩:=h2.2.2 _ row hi j a ha
   refine⟨x,?_,hr⟩
   have au:=(List.getElem?_eq_some_iff.1 hx).1
   have e:i*sz=rows.length*sz+(i - rows.length)*sz:=by rw [<-Nat.add_mul];congr 1;omega
   rw [Array.getElem?_append_left (by simp [h1.1];omega),Array.getElem?_append_right (by simp [h1.1];omega)]
   simp only [List.size_toArray,h1.1,List.getElem?_toArray]
   rw [show i*sz+j - rows.length*sz=(i - rows.length)*sz+j by omega]
   exact hx
theorem tj {A:Nat->Prop}{g:Gh}{w:World}{t t2 ty e e2:TypeId}{z:Value}{sz by_:Nat}(hS:St w0 A g S w) (ht:P.underlying t=some (.slice e)) (eZ:P.underlying t2=some (.slice e2)) (hz:c_ P e=some z) (hs:cQ P e=some sz) (jH:fN P e=some by_) (kB:z.cells.size=sz)
  {rows more:List (List AV)}{B:Option Addr}{sCap:Nat}{b2 q2 c2:Nat}{news:List Value}(hold:(B=none/\rows=[]/\sCap=0)\/∃ b fW,B=some b/\Src g w sz rows b fW) (l5:Src g w sz more ⟨b2,q2,none⟩ news) (hl:∀ r ∈ rows,r.length=sz) (eP:∀ r ∈ more,r.length=sz)
  (hn:more ≠ []) (hg:sCap < rows.length+more.length) (ee:(rows.length+more.length)*by_<=35184372088832) (fL:0 < by_) :
  ∃ v w' g',(Builtin.append_ #[t,t2] ty #[.slice B rows.length sCap,.slice (some ⟨b2,q2,none⟩) more.length c2]).run P w=.ok v w'/\aJ g' w' (.ob S.nx sz 0 (rows.length+more.length) none) v/\St w0 A g' (S.new (.arr sz (rows++more) 0 false)) w'/\Ext A g w g' w':=by
 obtain⟨i,hi,bH⟩:=ic hs
 have o6:i.zero=some z:=by unfold c_ at hz;rw [hi] at hz;simpa using hz
 have AH:i.bytes=by_:=by unfold fN at jH;rw [hi] at jH;simpa using jH
 have Pe:0 < more.length:=List.length_pos_iff.2 hn
 have hmul:rows.length+more.length<=35184372088832:=Nat.le_trans (Nat.le_mul_of_pos_right _ fL) ee
 have uO:=grownCap_ge w (rows.length+more.length) sCap e
 obtain⟨fW,qX,cr⟩:∃ fW:List Value,(∀ rest,∀ (i:Nat) (row:List AV),(rows++more)[i]?=some row->row.length=sz/\∀ (j:Nat) (a:AV),row[j]?=some a->∃ x,(fW.toArray++news.toArray++rest)[i*sz+j]?=some x/\aJ g w a x) /\
   (fW.length=rows.length*sz/\(Builtin.append_ #[t,t] ty #[.slice B rows.length sCap,.slice (some ⟨b2,q2,none⟩) more.length c2]).run P w =
   .ok (.slice (some ⟨w.heap.size,0,none⟩) (rows.length+more.length) (grownCap w (rows.length+more.length) sCap e)) (w.drew.alloc (.cells (fW.toArray++news.toArray++Builtin.zeroCells z.cells (grownCap w (rows.length+more.length) sCap e - (rows.length+more.length))) e))):=by
  rcases hold with ⟨rfl,rfl,rfl⟩|⟨b,fW,rfl,ho⟩
  ·refine⟨[],fun rest=>wq (b:=⟨0,0,none⟩) ⟨by simp,fun j u hu=>by simp at hu,fun i row hi=>by simp at hi⟩ l5 hl eP,by simp,?_⟩
   have:=run_append_nil (P:=P) w t ty e i z ht hi o6 ⟨b2,q2,none⟩ more.length c2 news (by rw [l5.1,bH]) l5.2.1 Pe (by omega) (by rw [AH];simp at ee;omega)
   simpa using this
  ·refine⟨fW,fun rest=>wq ho l5 hl eP,ho.1,?_⟩
   have Uf:=Go.Room.nextslicecap_le' hg
   exact run_append_grow (P:=P) w t ty e i z ht hi o6 b rows.length sCap fW (by rw [ho.1,bH]) ho.2.1 ⟨b2,q2,none⟩ more.length c2 news (by rw [l5.1,bH]) l5.2.1 hg (by omega)
    (Nat.le_trans (Nat.mul_le_mul_right _ Uf) (by rw [AH,Nat.mul_assoc];omega))
 obtain⟨hlen,cr⟩:=cr
 obtain⟨Pf,Ug⟩:=hS.drew
 have qv:∀ q,¬ g.fz w.heap.size q:=fun q hf=>absurd (hS.cG _ _ hf) (Nat.lt_irrefl _)
 obtain⟨hE,dg⟩:=Ug.new (.cells (fW.toArray++news.toArray++Builtin.zeroCells z.cells (grownCap w (rows.length+more.length) sCap e - (rows.length+more.length))) e) (.arr sz (rows++more) 0 false) (grownCap w (rows.length+more.length) sCap e) (fun J=>by simp) (fun hL=>by
  refine⟨_,e,dk,?_,by simpa using uO,fun h=>by simp at h,fun i row hr=>⟨(qX #[] i row hr).1,fun j a ha=>?_⟩,Nat.zero_le _,fun q=>⟨fun h=>absurd h (qv q),fun h=>by simp at h⟩⟩
  ·simp only [Array.size_append,List.size_toArray,hlen,l5.1,size_zeroCells,kB]
   rw [<-Nat.add_mul,<-Nat.add_mul]
   congr 1
   omega
  ·obtain⟨x,hx,dw⟩:=(qX _ i row hr).2 j a ha
   exact⟨x,hx,(dw.later Pf.toLater).later hL⟩)
 refine⟨_,_,_,(m6 ht eZ).trans cr,?_,dg,Pf.trans hE⟩
 have:=aJ.ob (g:=g.new S.nx w.drew.heap.size (grownCap w (rows.length+more.length) sCap e)) (w:=w.drew.alloc (.cells (fW.toArray++news.toArray++Builtin.zeroCells z.cells (grownCap w (rows.length+more.length) sCap e - (rows.length+more.length))) e))
  (k:=S.nx) (sz:=sz) (off:=0) (len:=rows.length+more.length) (c:=grownCap w (rows.length+more.length) sCap e) (cx:=none) (.inr rfl) (fun m h=>by cases h) (by rw [Nat.zero_add];exact Nat.le_of_eq (aE _ _ _).symm) (fun _=>by rw [Nat.zero_add];exact (aE _ _ _).symm) uO
 rw [show (g.new S.nx w.drew.heap.size (grownCap w (rows.length+more.length) sCap e)).ob S.nx=w.heap.size from aE _ _ _,Nat.zero_mul] at this
 exact this
theorem St.rename {A:Nat->Prop}{g:Gh}{w:World}{k:Nat}{ob:Ob}(hS:St w0 A g S w) (hk:S.get k=some ob) (ha:g.al k) (tZ:∀ J,ob ≠ .fo J):Ext A g w (g.new S.nx (g.ob k) (g.cp k)) w/\St w0 A (g.new S.nx (g.ob k) (g.cp k)) ((S.set k none).new ob) w:=by
 have bG:∀ j,g.al j->j ≠ S.nx:=fun j hj e=>absurd (hS.al j hj) (by omega)
 have iZ:∀ j,g.al j->(g.new S.nx (g.ob k) (g.cp k)).ob j=g.ob j:=fun j hj=>aK _ _ (bG j hj)
 have BM:∀ j,g.al j->(g.new S.nx (g.ob k) (g.cp k)).cp j=g.cp j:=fun j hj=>aK _ _ (bG j hj)
 have e1:(g.new S.nx (g.ob k) (g.cp k)).ob S.nx=g.ob k:=aE _ _ _
 have e2:(g.new S.nx (g.ob k) (g.cp k)).cp S.nx=g.cp k:=aE _ _ _
 have hL:Later g w (g.new S.nx (g.ob k) (g.cp k)) w:=⟨fun j hj=>.inl hj,iZ,BM,fun _ _ h=>h,fun _ _ _=>rfl⟩
 have hE:Ext A g w (g.new S.nx (g.ob k) (g.cp k)) w:={ hL with size:=Nat.le_refl _,aV:=fun _ _ _=>rfl,f_:=fun _ _ h=>.inl h }
 have key:∀ j p,((S.set k none).new ob).get j=some p->(j=S.nx/\p=ob)\/(j ≠ S.nx/\j ≠ k/\S.get j=some p):=by
  intro j p hj
  have hj:bO (bO S.get k none) S.nx (some ob) j=some p:=hj
  by_cases c:j=S.nx
  ·subst c
   rw [aE] at hj
   exact .inl ⟨rfl,(Option.some.inj hj).symm⟩
  ·rw [aK _ _ c] at hj
   by_cases d:j=k
   ·subst d
    rw [aE] at hj
    cases hj
   ·rw [aK _ _ d] at hj
    exact .inr ⟨c,d,hj⟩
 obtain⟨k2,k3,k4⟩:=hS.cC k ob hk ha
 refine⟨hE,hS.next hE rfl rfl rfl (fun j hj=>hj.elim (fun h=>Nat.lt_succ_of_lt (hS.al j h)) fun e=>by rw [e];exact Nat.lt_succ_self _) (fun j p hj aj=>?_) (fun i j p q hi hj ai aj e=>?_) hS.cG rfl (fun j J hj aj=>(key j _ hj).elim (fun e=>absurd e.2.symm (tZ J)) fun e=>⟨e.2.2,aj.resolve_right e.1⟩) (fun j p hj aj=>.inr ((key j p hj).elim (fun e=>⟨k,ob,ha,hk,by rw [e.1];exact e1,.inr tZ⟩) fun e=>⟨j,p,aj.resolve_right e.1,e.2.2,iZ j (aj.resolve_right e.1),.inl rfl⟩))⟩
 ·rcases key j p hj with ⟨rfl,rfl⟩|⟨c,d,lC⟩
  ·rw [e1,e2]
   exact⟨k2,k3,k4.later hL rfl (fun _ h=>h) fun J hJ=>absurd hJ (tZ J)⟩
  ·have yp:g.al j:=aj.resolve_right c
   obtain⟨h2,h3,h4⟩:=hS.cC j p lC yp
   rw [iZ j yp,BM j yp]
   exact⟨h2,h3,h4.later hL rfl (fun _ h=>h) fun _ _=>⟨rfl,Nat.le_refl _,fun _ _=>rfl,fun _ _ _ h=>h⟩⟩
 ·rcases key i p hi with ⟨rfl,rfl⟩|⟨c,d,gC⟩<;>rcases key j q hj with ⟨rfl,rfl⟩|⟨c',d',lC⟩
  ·rfl
  ·have yp:g.al j:=aj.resolve_right c'
   rw [e1,iZ j yp] at e
   exact absurd (hS.inj k j _ q hk lC ha yp e) (Ne.symm d')
  ·have JP:g.al i:=ai.resolve_right c
   rw [e1,iZ i JP] at e
   exact absurd (hS.inj i k p _ gC hk JP ha e) d
  ·have JP:g.al i:=ai.resolve_right c
   have yp:g.al j:=aj.resolve_right c'
   rw [iZ i JP,iZ j yp] at e
   exact hS.inj i j p q gC lC JP yp e
end
section
variable {P:Program}{w0:World}{n:Nat}{o:Oper}{α:AA}{S S':ae}{r:AV}
theorem xe {g:Gh}{w:World}{sz b q:Nat}{more:List (List AV)}{news:List Value}(h:Src g w sz more ⟨b,q,none⟩ news) (hc:∀ row ∈ more,row.length=sz/\row.all cn=true):∀ u ∈ news,u.oneCell'=true:=by
 intro u hu
 obtain⟨p,hp⟩:=List.getElem?_of_mem hu
 have au:=(List.getElem?_eq_some_iff.1 hp).1
 rw [h.1] at au
 have bH:0 < sz:=by
  rcases Nat.eq_zero_or_pos sz with e|e
  ·rw [e] at au;simp at au
  ·exact e
 have hi:p / sz < more.length:=Nat.div_lt_of_lt_mul (by rw [Nat.mul_comm];exact au)
 have hj:p % sz < sz:=Nat.mod_lt _ bH
 have ig:=List.getElem?_eq_getElem hi
 obtain⟨hl,kK⟩:=hc _ (List.getElem_mem hi)
 have lC:p % sz < (more[p / sz]).length:=by omega
 have ha:=List.getElem?_eq_getElem lC
 obtain⟨x,hx,hr⟩:=h.2.2 _ _ ig _ _ ha
 rw [Nat.div_add_mod' p sz,hp] at hx
 obtain rfl:=Option.some.inj hx
 exact pk (List.all_eq_true.1 kK _ (List.getElem_mem lC)) hr
theorem CW {A:Nat->Prop}{g:Gh}{w:World}{t t2 ty e e2:TypeId}{sz k len c b2 q2 c2:Nat}{rows more:List (List AV)}{fz:Nat}{ex:Bool}{news:List Value}(hS:St w0 A g S w) (ht:P.underlying t=some (.slice e)) (eZ:P.underlying t2=some (.slice e2)) (hs:cQ P e=some sz)
  (hk:S.get k=some (.arr sz rows fz ex)) (ha:g.al k) (nr:c=g.cp k) (JQ:len<=c) (oX:fz<=len) (hlen:len<=rows.length) (l5:Src g w sz more ⟨b2,q2,none⟩ news) (eP:∀ row ∈ more,row.length=sz/\row.all cn=true) (px:len+more.length<=c) :
  ∃ v w' g',(Builtin.append_ #[t,t2] ty #[.slice (some ⟨g.ob k,0,none⟩) len c,.slice (some ⟨b2,q2,none⟩) more.length c2]).run P w=.ok v w'/\aJ g' w' (.ob S.nx sz 0 (len+more.length) none) v/\St w0 A g' ((S.set k none).new (.arr sz (rows.take len++more) fz false)) w'/\Ext A g w g' w':=by
 obtain⟨i,hi,bH⟩:=ic hs
 obtain⟨k2,k3,cs,lS,h1,h2,h3,h4,h5,h6,h7⟩:=hS.cC k _ hk ha
 have hm:len*sz+more.length*sz<=g.cp k*sz:=by rw [<-Nat.add_mul];exact Nat.mul_le_mul_right sz (by omega)
 have ee:0+len*i.size+news.length<=cs.size:=by rw [l5.1,h2,bH];omega
 have cr:=qu (P:=P) w t ty e lS i ht hi (g.ob k) 0 len c cs h1 ⟨b2,q2,none⟩ more.length c2 news (by rw [l5.1,bH]) l5.2.1 (xe l5 eP) px ee
 simp only [Nat.zero_add,bH] at cr ee
 obtain⟨cs',nL⟩:∃ cs',cs'=(cs.toList.take (len*sz)++news++cs.toList.drop (len*sz+news.length)).toArray:=⟨_,rfl⟩
 rw [<-nL] at cr
 have jS:∀ q,cs'[q]?=if q < len*sz then cs[q]? else if q < len*sz+news.length then news[q - len*sz]? else cs[q]?:=by
  intro q
  rw [nL,List.getElem?_toArray,pI _ _ _ (by simpa using ee)]
  simp only [Array.getElem?_toList]
 have Gd:cs'.size=cs.size:=by
  rw [nL]
  simp
  omega
 have Uh:len*sz<=rows.length*sz:=Nat.mul_le_mul_right sz hlen
 obtain⟨hE,dg⟩:=hS.row hk ha h1 (cs':=cs') (ob:=.arr sz (rows.take len++more) fz false) (fun J=>⟨by simp,by simp⟩) (fun q hq=>by
  rw [jS]
  rw [if_pos (Nat.lt_of_lt_of_le ((h7 q).1 hq) (Nat.mul_le_mul_right sz oX))]) (fun hL=>by
  refine⟨cs',lS,setRow_heap w _ cs cs' lS (0,0) h1,Gd.trans h2,by simp;omega,fun h=>by simp at h,fun i row hr=>?_,by simp;omega,h7⟩
  ·by_cases c1:i < len
   ·rw [List.getElem?_append_left (by simp;omega),List.getElem?_take,if_pos c1] at hr
    refine⟨(h5 i row hr).1,fun j a cA=>?_⟩
    obtain⟨x,hx,dw⟩:=(h5 i row hr).2 j a cA
    have hj:j < sz:=by rw [<-(h5 i row hr).1];exact (List.getElem?_eq_some_iff.1 cA).1
    exact⟨x,by rw [jS,if_pos (jr c1 hj)];exact hx,dw.later hL⟩
   ·rw [List.getElem?_append_right (by simp;omega)] at hr
    have e1:min len rows.length=len:=by omega
    simp only [List.length_take,e1] at hr
    have ji:=(eP row (List.mem_of_getElem? hr)).1
    refine⟨ji,fun j a cA=>?_⟩
    obtain⟨x,hx,dw⟩:=l5.2.2 _ row hr j a cA
    have au:=(List.getElem?_eq_some_iff.1 hx).1
    have e:i*sz=len*sz+(i - len)*sz:=by rw [<-Nat.add_mul];congr 1;omega
    exact⟨x,by rw [jS,if_neg (by omega),if_pos (by omega),show i*sz+j - len*sz=(i - len)*sz+j by omega];exact hx,dw.later hL⟩)
 have jh:(S.set k (some (.arr sz (rows.take len++more) fz false))).get k=some (.arr sz (rows.take len++more) fz false):=aE _ _ _
 obtain⟨qw,Ui⟩:=dg.rename jh ha (fun J=>by simp)
 have e:((S.set k (some (.arr sz (rows.take len++more) fz false))).set k none).new (.arr sz (rows.take len++more) fz false)=(S.set k none).new (.arr sz (rows.take len++more) fz false):=by
  have:bO (bO S.get k (some (.arr sz (rows.take len++more) fz false))) k none=bO S.get k none:=by
   funext j
   by_cases c:j=k
   ·subst c;rw [aE,aE]
   ·rw [aK _ _ c,aK _ _ c,aK _ _ c]
  simp only [ae.set,ae.new,this]
 rw [e] at Ui
 refine⟨_,_,_,(m6 ht eZ).trans cr,?_,Ui,hE.trans qw⟩
 have:=aJ.ob (g:=g.new S.nx (g.ob k) (g.cp k)) (w:=w.setRow (g.ob k) cs') (k:=S.nx) (sz:=sz) (off:=0) (len:=len+more.length) (c:=c) (cx:=none) (.inr rfl) (fun m h=>by cases h)
  (by rw [Nat.zero_add,nr];exact Nat.le_of_eq (aE _ _ _).symm) (fun _=>by rw [Nat.zero_add,nr];exact (aE _ _ _).symm) px
 rw [show (g.new S.nx (g.ob k) (g.cp k)).ob S.nx=g.ob k from aE _ _ _,Nat.zero_mul] at this
 exact this
theorem rV {t t2 ty e e2:TypeId}{w:World}{B C:Option Addr}{m c c2:Nat}{sz:Nat}(ht:P.underlying t=some (.slice e)) (eZ:P.underlying t2=some (.slice e2)) (hs:cQ P e=some sz) (hle:m<=c) :
  (Builtin.append_ #[t,t2] ty #[.slice B m c,.slice C 0 c2]).run P w=.ok (.slice B m c) w:=by
 rw [m6 ht eZ]
 have hf:(Builtin.firstCells sz 0 (.slice C 0 c2)).run P w=.ok #[] w:=by
  cases C with
  |none=>simp [Builtin.firstCells]
  |some b=>simpa using run_firstCells_some (P:=P) (w:=w) sz 0 b 0 c2 [] (by simp) (fun j v h=>by simp at h)
 cases B<;>simp [Builtin.append_,run_underlying ht,cL hs,Builtin.lenOf,hle,hf,storeCells]
theorem m7 {g:Gh}{w:World}{ex:Bool}{rows:List (List AV)}{v:Value}(h:aJ g w (.sl ex rows) v):∃ B c,v=.slice B rows.length c/\rows.length<=c/\(ex=true->c=rows.length):=by
 cases h with
 |nil hc=>exact⟨_,_,rfl,Nat.zero_le _,hc⟩
 |sl hn hc hle hl h hr=>exact⟨_,_,rfl,hle,hc⟩
theorem D_ {c:Call}{t t2 e e2:TypeId}{x y:Operand}{a b:AV}{more:List (List AV)}{z:Value}{sz:Nat}{K:AV->ae->Prop}(ho:o.op=.call c) (hc:c.callee=.builtin .append) (fe:c.argTypes=#[t,t2]) (bA:c.args=#[x,y])
  (hx:α.ev x=a) (hy:α.ev y=b) (ht:P.underlying t=some (.slice e)) (eZ:P.underlying t2=some (.slice e2)) (hm:rowsOf S b=some more) (hlen:lL b=some more.length) (hz:c_ P e=some z) (hs:cQ P e=some sz) (kB:z.cells.size=sz) (h:iM P e K S more a) :
  ∃ r S',bf P w0 n o α S r S'/\K r S':=by
 have cr:∀ (q:Act) (w:World),(execOp q.eval o).run P w=((Builtin.append_ #[t,t2] o.type #[q.eval x,q.eval y]).run P w).andThen fun v w'=>.ok (.value v) w':=by
  intro q w
  simp [execOp,ho,resolve,hc,fe,bA,invoke,builtin]
 have same:∀ {r:AV}{m cc:Nat},more=[]->α.ev x=r->(∀ (g:Gh) (w:World) (v:Value),aJ g w r v->∃ B m cc,v=.slice B m cc/\m<=cc)->bf P w0 n o α S r S:=by
  intro r m cc kO E8 hr
  refine bf.quiet fun A g q w hS hA=>?_
  have h1:=hA.ev x
  have h2:=hA.ev y
  rw [E8] at h1
  rw [hy] at h2
  subst kO
  obtain⟨B,c1,e1⟩:=mZ (S:=S) hlen hm h2
  obtain⟨B',m',cc',e2,hle⟩:=hr g w _ h1
  refine⟨q.eval x,?_,h1⟩
  rw [cr,e1,e2,rV ht eZ hs hle]
  rfl
 unfold iM at h
 split at h
 ·rename_i rows
  split at h
  ·exact⟨_,_,same (m:=0) (cc:=0) rfl hx (fun g w v hr=>let ⟨B,c,e,hle,_⟩:=m7 hr;⟨B,_,c,e,hle⟩),h⟩
  ·rename_i m1 ms
   split at h
   ·rename_i sz' by_ mV jH
    split at h
    ·rename_i hb
     obtain⟨hl,eP,ee,hK⟩:=h
     have e0:sz'=sz:=by rw [hs] at mV;exact (Option.some.inj mV).symm
     subst e0
     refine⟨_,_,?_,hK⟩
     intro A g q w hS hA
     have h1:=hA.ev x
     have h2:=hA.ev y
     rw [hx] at h1
     rw [hy] at h2
     obtain⟨b2,q2,c2,news,e2,Ge,jA⟩:=lq hS hm h2 (by simp) eP hlen
     obtain⟨B,cc,e1,aeS,lE⟩:=m7 h1
     have hcc:=lE rfl
     have hold:(B=none/\rows=[]/\cc=0)\/∃ b fW,B=some b/\Src g w sz' rows b fW:=by
      by_cases wu:rows=[]
      ·subst wu
       cases B with
       |none=>exact .inl ⟨rfl,rfl,by simpa using hcc⟩
       |some bb=>exact .inr ⟨bb,[],rfl,by simp,fun j u hu=>by simp at hu,fun i row hi=>by simp at hi⟩
      ·obtain⟨b,q,c',fW,e3,_,hs3⟩:=lq (a:=.sl true rows) hS rfl h1 wu hl rfl
       rw [e1] at e3
       injection e3 with e4
       exact .inr ⟨_,fW,e4,hs3⟩
     obtain⟨v,w',g',hr,h3,h4,h5⟩:=tj (ty:=o.type) (c2:=c2) hS ht eZ hz hs jH kB hold jA hl eP (by simp) (by rw [hcc];simp) ee (Nat.lt_of_lt_of_le Nat.zero_lt_one (Nat.le_of_ble_eq_true hb))
     refine⟨v,w',g',.inl ?_,h3,h4,h5⟩
     rw [cr,e1,e2,hr]
     rfl
    ·exact h.elim
   ·exact h.elim
 ·rename_i k szk len
  unfold bm at h
  split at h
  ·rename_i Uj LS
   obtain⟨sz',rows,fz,ex⟩:=Uj
   have hk:=x8 LS
   dsimp only at h
   split at h
   ·exact⟨_,_,same (m:=0) (cc:=0) rfl hx (fun g w v hr=>let ⟨c,e,_,_,_,_,hle⟩:=fV hr;⟨_,_,c,e,hle⟩),h⟩
   ·rename_i m1 ms
    split at h
    ·rename_i fO by_ mV jH
     split at h
     ·rename_i hb
      simp only [Bool.and_eq_true] at hb
      obtain⟨⟨eU,e9⟩,mj⟩:=hb
      have eU:=Nat.eq_of_beq_eq_true eU
      have e9:=Nat.eq_of_beq_eq_true e9
      have e0:fO=sz:=by rw [hs] at mV;exact (Option.some.inj mV).symm
      subst eU e9 e0
      obtain⟨oX,hlr,eP,ee,hK⟩:=h
      refine⟨_,_,?_,hK⟩
      intro A g q w hS hA
      have h1:=hA.ev x
      have h2:=hA.ev y
      rw [hx] at h1
      rw [hy] at h2
      obtain⟨b2,q2,c2,news,e2,Ge,jA⟩:=lq hS hm h2 (by simp) (fun r hr=>(eP r hr).1) hlen
      obtain⟨cc,e1,bN,_,nr,lE,JQ⟩:=fV h1
      have lE:=lE rfl
      simp only [Nat.zero_add] at lE nr
      simp only [Nat.zero_mul] at e1
      by_cases px:len+(m1::ms).length<=cc
      ·obtain⟨v,w',g',hr,h3,h4,h5⟩:=CW (ty:=o.type) (c2:=c2) hS ht eZ hs hk bN lE JQ oX hlr jA eP px
       refine⟨v,w',g',.inl ?_,h3,h4,h5⟩
       rw [cr,e1,e2,hr]
       rfl
      ·obtain⟨k2,k3,cs,lS,p1,p2,p3,p4,p5,p6,p7⟩:=hS.cC k _ hk bN
       have ur:(rows.take len).length=len:=by simp;omega
       have hl:∀ r ∈ rows.take len,r.length=fO:=by
        intro r hr
        obtain⟨i,hi⟩:=List.getElem?_of_mem (List.mem_of_mem_take hr)
        exact (p5 i r hi).1
       have hold:∃ fW,Src g w fO (rows.take len) ⟨g.ob k,0,none⟩ fW:=by
        refine m5 hl (fun i j row a hi hj=>?_)
        rw [List.getElem?_take] at hi
        split at hi
        ·obtain⟨u,hu,Uk⟩:=(p5 i row hi).2 j a hj
         exact⟨u,by rw [cell_of_row _ _ _ cs lS (0,0) p1,Nat.zero_add];exact hu,Uk⟩
        ·cases hi
       obtain⟨fW,hold⟩:=hold
       have eV:St w0 A g (S.set k none) w:=hS.forget (Nat.le_refl _) (fun j p hj ha=>by
        have hj:bO S.get k none j=some p:=hj
        by_cases c:j=k
        ·subst c;rw [aE] at hj;cases hj
        ·rwa [aK _ _ c] at hj)
       have CX:=tj (ty:=o.type) (c2:=c2) (sCap:=cc) eV ht eZ hz hs jH kB (rows:=rows.take len) (more:=m1::ms) (B:=some ⟨g.ob k,0,none⟩) (news:=news) (.inr ⟨_,fW,rfl,hold⟩) jA hl (fun r hr=>(eP r hr).1) (by simp) (by rw [ur];omega) (by rw [ur];exact ee)
        (Nat.lt_of_lt_of_le Nat.zero_lt_one (Nat.le_of_ble_eq_true mj))
       rw [ur] at CX
       obtain⟨v,w',g',hr,h3,h4,h5⟩:=CX
       have zl:g'.al S.nx:=by
        obtain⟨_,_,bN,_⟩:=fV h3
        exact bN
       obtain⟨hE6,hS6⟩:=h4.freeze (k:=S.nx) (aE _ _ _) zl (m:=fz) (Nat.zero_le _) (by simp;omega)
       refine⟨v,w',_,.inl ?_,h3.later hE6.toLater,?_,h5.trans hE6⟩
       ·rw [cr,e1,e2,hr]
        rfl
       ·have e:((((S.set k none).new (.arr fO (rows.take len++m1::ms) 0 false)).set S.nx (some (.arr fO (rows.take len++m1::ms) fz false))))=(S.set k none).new (.arr fO (rows.take len++m1::ms) fz false):=by
         have:∀ (f:Nat->Option Ob) (a b:Option Ob),bO (bO f S.nx a) S.nx b=bO f S.nx b:=by
          intro f a b
          funext j
          by_cases c:j=S.nx
          ·subst c;rw [aE,aE]
          ·rw [aK _ _ c,aK _ _ c,aK _ _ c]
         simp only [ae.set,ae.new,this]
        rw [<-e]
        exact hS6
     ·exact h.elim
    ·exact h.elim
  ·exact h.elim
 ·rename_i k szk off len cc0
  unfold bm at h
  split at h
  ·rename_i Uj LS
   obtain⟨sz',rows,fz,ex⟩:=Uj
   have hk:=x8 LS
   dsimp only at h
   split at h
   ·exact⟨_,_,same (m:=0) (cc:=0) rfl hx (fun g w v hr=>let ⟨c,e,_,_,_,_,hle⟩:=fV hr;⟨_,_,c,e,hle⟩),h⟩
   ·rename_i m1 ms
    split at h
    ·rename_i fO by_ mV jH
     split at h
     ·rename_i hb
      simp only [Bool.and_eq_true] at hb
      obtain⟨⟨eU,e9⟩,mj⟩:=hb
      have eU:=Nat.eq_of_beq_eq_true eU
      have e9:=Nat.eq_of_beq_eq_true e9
      have e0:fO=sz:=by rw [hs] at mV;exact (Option.some.inj mV).symm
      subst eU e9 e0
      obtain⟨hcl,hlr,eP,ee,hK⟩:=h
      refine⟨_,_,?_,hK⟩
      intro A g q w hS hA
      have h1:=hA.ev x
      have h2:=hA.ev y
      rw [hx] at h1
      rw [hy] at h2
      obtain⟨b2,q2,c2,news,e2,Ge,jA⟩:=lq hS hm h2 (by simp) eP hlen
      obtain⟨cc,e1,bN,wi,nr,lE,JQ⟩:=fV h1
      have wi:=wi _ rfl
      obtain⟨k2,k3,cs,lS,p1,p2,p3,p4,p5,p6,p7⟩:=hS.cC k _ hk bN
      have ur:((rows.drop off).take len).length=len:=by simp;omega
      have hl:∀ r ∈ (rows.drop off).take len,r.length=fO:=by
       intro r hr
       obtain⟨i,hi⟩:=List.getElem?_of_mem (List.mem_of_mem_drop (List.mem_of_mem_take hr))
       exact (p5 i r hi).1
      have hold:∃ fW,Src g w fO ((rows.drop off).take len) ⟨g.ob k,off*fO,none⟩ fW:=by
       refine m5 hl (fun i j row a hi hj=>?_)
       obtain⟨u,hu,Uk⟩:=(p5 _ row (oT hi).2).2 j a hj
       exact⟨u,by rw [cell_of_row _ _ _ cs lS (0,0) p1,<-hu,Nat.add_mul,Nat.add_assoc],Uk⟩
      obtain⟨fW,hold⟩:=hold
      have CX:=tj (ty:=o.type) (c2:=c2) (sCap:=cc) hS ht eZ hz hs jH kB (rows:=(rows.drop off).take len) (more:=m1::ms) (B:=some ⟨g.ob k,off*fO,none⟩) (news:=news) (.inr ⟨_,fW,rfl,hold⟩) jA hl eP (by simp) (by rw [ur];simp;omega) (by rw [ur];exact ee)
       (Nat.lt_of_lt_of_le Nat.zero_lt_one (Nat.le_of_ble_eq_true mj))
      rw [ur] at CX
      obtain⟨v,w',g',hr,h3,h4,h5⟩:=CX
      refine⟨v,w',g',.inl ?_,h3,h4,h5⟩
      rw [cr,e1,e2,hr]
      rfl
     ·exact h.elim
    ·exact h.elim
  ·exact h.elim
 ·exact h.elim
end
end Go.Proofs.YtbofilglphfceaaGreat
