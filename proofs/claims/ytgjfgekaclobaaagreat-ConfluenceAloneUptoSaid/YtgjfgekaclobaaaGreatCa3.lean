import Derived.Test.YtgjfgekaclobaaaGreatCa2
namespace Go.Proofs.YtgjfgekaclobaaaGreat
set_option linter.unusedVariables false
set_option linter.unusedSimpArgs false
open Go.RowKit
section
variable (P:Program) (w0:World) (n:Nat)
def aS (o:Oper) (α:AA) (S:ad) (r:AV) (S':ad):Prop :=
 ∀ (A:Nat->Prop) (g:Gh) (a:Act) (w:World),St w0 A g S w->bN g w n α a->∃ (v:Value) (w':World) (g':Gh),
  ((execOp a.eval o).run P w=.ok (.value v) w'\/((execOp a.eval o).run P w=.ok .skip w'/\v=undef))/\aH g' w' r v/\St w0 A g' S' w'/\Ext A g w g' w'
def ef (o:Oper) (α:AA) (S:ad) (r:AV) (S':ad):Prop :=
 ∀ (F:Fence) (m:Nat) (A:Nat->Prop) (g:Gh) (a:Act) (w:World) (next:Act->World->Prop) (Q:Exit->Act->World->Prop),gU F->St w0 A g S w->bN g w n α a ->
  (∀ (v:Value) (w':World) (g':Gh),aH g' w' r v->St w0 A g' S' w'->Ext A g w g' w'->next (a.put o.dst v) w')->o.uponIn F m P a next Q ((o.semAt F.round a.eval).run P w)
end
section
variable {P:Program}{w0:World}{n:Nat}{o:Oper}{α:AA}{S S':ad}{r:AV}
theorem aS.ops (h:aS P w0 n o α S r S') (hd:∀ c,o.op ≠ .defer c):ef P w0 n o α S r S':=by
 intro F m A g a w next Q hF hS hA nC
 obtain⟨v,w',g',bY,hr,eR,hE⟩:=h A g a w hS hA
 rw [Oper.semAt_eq _ _ _ hd]
 rcases bY with bY|⟨bY,rfl⟩
 ·rw [bY];exact nC v w' g' hr eR hE
 ·rw [bY];exact nC undef w' g' hr eR hE
theorem aS.quiet (h:∀ (A:Nat->Prop) (g:Gh) (a:Act) (w:World),St w0 A g S w->bN g w n α a->∃ v,(execOp a.eval o).run P w=.ok (.value v) w/\aH g w r v):aS P w0 n o α S r S:=by
 intro A g a w hS hA
 obtain⟨v,h1,h2⟩:=h A g a w hS hA
 exact⟨v,w,g,.inl h1,h2,hS,Ext.refl ..⟩
theorem run_move {x:Operand}(ho:o.op=.move x\/o.op=.assign x):aS P w0 n o α S (α.ev x) S :=
 aS.quiet fun A g a w hS hA=>⟨a.eval x,by rcases ho with ho|ho<;>simp [execOp,ho],hA.ev x⟩
theorem Ru {c x y:Operand}{t:Bool}(ho:o.op=.pick c x y) (hc:α.ev c=.v (.bool t)):aS P w0 n o α S (if t then α.ev x else α.ev y) S :=
 aS.quiet fun A g a w hS hA=>by
  have h1:=hA.ev c
  rw [hc] at h1
  have h2:=FQ h1
  cases t with
  |true=>exact⟨a.eval x,by simp [execOp,ho,h2,asBool],hA.ev x⟩
  |false=>exact⟨a.eval y,by simp [execOp,ho,h2,asBool],hA.ev y⟩
theorem uo {A:Nat->Prop}{g:Gh}{w:World}{cs:List AV}{cells:Array Value}{ty:TypeId}(hS:St w0 A g S w) (h:nM g w cs cells) :
  ∃ g',aH g' (w.alloc (.cells cells ty)) (.pt S.nx cs.length 0 0) (.pointer (some ⟨w.heap.size,0,none⟩))/\St w0 A g' (jh S cs).2 (w.alloc (.cells cells ty))/\Ext A g w g' (w.alloc (.cells cells ty)):=by
 obtain⟨hE,cQ⟩:=hS.new (.cells cells ty) (.arr cs.length [cs] 0 true) 1 (fun J=>by simp) (fun hL=>by
  refine⟨cells,ty,c_,by rw [h.1];simp,by simp,fun _=>rfl,fun i row hr=>?_,Nat.zero_le _,fun q=>⟨fun hf=>?_,fun hf=>by simp at hf⟩⟩
  ·cases i with
   |succ i=>simp at hr
   |zero =>
    simp at hr
    subst hr
    refine⟨rfl,fun j a ha=>?_⟩
    have hj:j < cells.size:=by rw [h.1];exact (List.getElem?_eq_some_iff.1 ha).1
    exact⟨cells[j],by simp,(h.2 j a _ ha (Array.getElem?_eq_getElem hj)).later hL⟩
  ·exact absurd (hS.cC _ _ hf) (by omega))
 refine⟨_,?_,cQ,hE⟩
 have:=aH.pt (g:=g.new S.nx w.heap.size 1) (w:=w.alloc (.cells cells ty)) (k:=S.nx) (sz:=cs.length) (i:=0) (j:=0) (.inr rfl)
 rw [show (g.new S.nx w.heap.size 1).ob S.nx=w.heap.size from aq _ _ _] at this
 simpa using this
theorem OU {e:TypeId}{z:Value}(ho:o.op=.alloc e) (hz:cU P e=some z):aS P w0 n o α S (jh S (z.cells.toList.map bJ)).1 (jh S (z.cells.toList.map bJ)).2:=by
 intro A g a w hS hA
 obtain⟨g',h1,h2,h3⟩:=uo (ty:=e) hS (nM.bJ z.cells)
 refine⟨_,_,g',.inl ?_,h1,h2,h3⟩
 simp [execOp,ho,Instr.alloc,kG hz,newVar,newRow]
theorem Yb {e:TypeId}{x:Operand}(ho:o.op=.box e x) (hx:(aP (α.ev x)).all bQ=true):aS P w0 n o α S (jh S (aP (α.ev x))).1 (jh S (aP (α.ev x))).2:=by
 intro A g a w hS hA
 obtain⟨c1,c2,c3⟩:=oA hx (hA.ev x)
 obtain⟨g',h1,h2,h3⟩:=uo (ty:=e) hS ⟨c1,c2⟩
 refine⟨_,_,g',.inl ?_,h1,h2,h3⟩
 simp [execOp,ho,Instr.box,newVar,newRow]
theorem Kk {t:TypeId}{parts:Array (Nat × Operand)}(ho:o.op=.build t parts) (h:rP P t (parts.toList.map fun (i,x)=>(i,α.ev x))=some r):aS P w0 n o α S r S :=
 aS.quiet fun A g a w hS hA=>by
  obtain⟨v,h1,h2⟩:=HR (w:=w) hA h
  exact⟨v,by simp only [execOp,ho,Sem.run_bind];rw [h1];rfl,h2⟩
theorem OV {t:TypeId}{x:Operand}(ho:o.op=.load t x) (h:sW P S t (α.ev x)=some r):aS P w0 n o α S r S :=
 aS.quiet fun A g a w hS hA=>by
  obtain⟨b,q,v,h1,h2,h3⟩:=zr hS h (hA.ev x)
  exact⟨v,by simp [execOp,ho,Instr.loadAt,h1,Instr.sureAddr,h2],h3⟩
theorem Kl {t:TypeId}{x b:Operand}(ho:o.op=.store t x b) (h:lu P S t (α.ev b) (α.ev x)=some S'):aS P w0 n o α S (.v undef) S':=by
 intro A g a w hS hA
 obtain⟨c,q,w',h1,h2,h3,h4,h5⟩:=rQ hS h (hA.ev x) (hA.ev b)
 exact⟨undef,w',g,.inr ⟨by simp [execOp,ho,Instr.storeAt,h1,Instr.sureAddr,h2],rfl⟩,.v,h5,h4⟩
theorem Rw {op:BinOp}{t:TypeId}{x y:Operand}{a b v:Value}{w:World}(h:qe P op t a b=some v):(do eqGuard op t x y a b;binOp op t a b:Sem Value).run P w=.ok v w:=by
 unfold qe at h
 split at h
 ·rename_i k i k' j
  split at h
  ·rename_i hk
   obtain rfl:=of_decide_eq_true hk
   cases op<;>simp_all [eqGuard,binOp,Op.intCmp]
  ·cases h
 ·cases op<;>simp_all [eqGuard,binOp,Op.stringOp]
 ·rename_i p q
  split at h
  ·rename_i hu
   have he:(Op.equal t (.bool p) (.bool q)).run P w=.ok (p == q) w:=by
    show (Op.equalIn (9999+1) t (.bool p) (.bool q)).run P w=_
    rw [Op.equalIn]
    simp only [Sem.run_bind,run_underlying hu,Result.andThen_ok]
    rfl
   have hg:∀ op:BinOp,(eqGuard op t x y (.bool p) (.bool q)).run P w=.ok () w:=by
    intro op
    cases op<;>rfl
   split at h
   ·obtain rfl:=oJ_ h
    simp only [Sem.run_bind,hg,Result.andThen_ok]
    have e:binOp .eql t (.bool p) (.bool q)=(do pure (Value.bool (<-Op.equal t (.bool p) (.bool q))):Sem Value):=rfl
    rw [e]
    simp only [Sem.run_bind,he,Result.andThen_ok]
    rfl
   ·obtain rfl:=oJ_ h
    simp only [Sem.run_bind,hg,Result.andThen_ok]
    have e:binOp .neq t (.bool p) (.bool q)=(do pure (Value.bool (!(<-Op.equal t (.bool p) (.bool q)))):Sem Value):=rfl
    rw [e]
    simp only [Sem.run_bind,he,Result.andThen_ok]
    rfl
   ·cases h
  ·cases h
 ·cases h
theorem Ar {op:BinOp}{t ty:TypeId}{x y:Operand}{a b v:Value}(ho:o.op=.binOp op t x y ty) (hx:α.ev x=.v a) (hy:α.ev y=.v b) (h:qe P op t a b=some v):aS P w0 n o α S (.v v) S :=
 aS.quiet fun A g c w hS hA=>by
  have h1:=hA.ev x
  have h2:=hA.ev y
  rw [hx] at h1
  rw [hy] at h2
  have:=Rw (x:=x) (y:=y) (w:=w) h
  simp only [Sem.run_bind] at this
  refine⟨v,?_,.v⟩
  simp only [execOp,ho,bO h1,bO h2,Sem.run_bind]
  rw [this]
  rfl
theorem OW {op:BinOp}{t ty:TypeId}{x y:Operand}{k:IntKind}{a b c:Int}(ho:o.op=.binOp op t x y ty) (hx:α.ev x=.v (.int k a)) (hy:α.ev y=.v (.int k b)) (h:arith op a b=some c) :
  aS P w0 n o α S (.v (.int k (k.wrap c))) S :=
 aS.quiet fun A g q w hS hA=>by
  have h1:=hA.ev x
  have h2:=hA.ev y
  rw [hx] at h1
  rw [hy] at h2
  refine⟨_,?_,.v⟩
  cases op<;>simp_all [arith]<;>simp [execOp,ho,bO h1,bO h2,eqGuard,binOp,Op.intArith,h]
theorem Km {t ty:TypeId}{x y:Operand}{a b:ByteArray}(ho:o.op=.binOp .add t x y ty) (hx:α.ev x=.v (.string a)) (hy:α.ev y=.v (.string b)) (h:a.size+b.size<=9223372036854775807) :
  aS P w0 n o α S (.v (.string (a++b))) S :=
 aS.quiet fun A g q w hS hA=>by
  have h1:=hA.ev x
  have h2:=hA.ev y
  rw [hx] at h1
  rw [hy] at h2
  refine⟨_,?_,.v⟩
  have:¬ (((a.size+b.size:Nat):Int) > IntKind.i64.max):=by
   have:IntKind.i64.max=9223372036854775807:=by rfl
   rw [this]
   omega
  simp only [execOp,ho,bO h1,bO h2,eqGuard,binOp,Op.stringOp,Sem.run_bind,if_neg this]
  rfl
theorem Yc {t:TypeId}{x:Operand}{b:Bool}(ho:o.op=.unOp .not t x) (hx:α.ev x=.v (.bool b)):aS P w0 n o α S (.v (.bool (!b))) S :=
 aS.quiet fun A g q w hS hA=>by
  have h1:=hA.ev x
  rw [hx] at h1
  exact⟨_,by simp [execOp,ho,bO h1,Op.unary],.v⟩
theorem Yd {t:TypeId}{x:Operand}{k:IntKind}{a:Int}(ho:o.op=.unOp .neg t x) (hx:α.ev x=.v (.int k a)):aS P w0 n o α S (.v (.int k (k.wrap (0 - a)))) S :=
 aS.quiet fun A g q w hS hA=>by
  have h1:=hA.ev x
  rw [hx] at h1
  exact⟨_,by simp [execOp,ho,bO h1,Op.unary,Op.intArith],.v⟩
theorem HW {src dst:TypeId}{x:Operand}{k0 k k':IntKind}{a:Int}(ho:o.op=.convert src dst x) (hs:P.underlying src=some (.int k0)) (hd:P.underlying dst=some (.int k)) (hx:α.ev x=.v (.int k' a)) :
  aS P w0 n o α S (.v (.int k (k.wrap a))) S :=
 aS.quiet fun A g q w hS hA=>by
  have h1:=hA.ev x
  rw [hx] at h1
  exact⟨_,by simp [execOp,ho,bO h1,convert,run_underlying hs,run_underlying hd,Conv.intToInt],.v⟩
theorem HX {src dst:TypeId}{x:Operand}{s:ByteArray}(ho:o.op=.convert src dst x) (hs:P.underlying src=some .string) (hd:P.underlying dst=some .string) (hx:α.ev x=.v (.string s)) :
  aS P w0 n o α S (.v (.string s)) S :=
 aS.quiet fun A g q w hS hA=>by
  have h1:=hA.ev x
  rw [hx] at h1
  exact⟨_,by simp [execOp,ho,bO h1,convert,run_underlying hs,run_underlying hd],.v⟩
theorem F9 {g:Gh}{w:World}{row:List AV}{b q:Nat}(h:aH g w (.ip row) (.pointer (some ⟨b,q,none⟩))) (j:Nat):aH g w (.ip (row.drop j)) (.pointer (some ⟨b,q+j,none⟩)):=by
 cases h with
 |@ip _ _ _ val h hr =>
  refine .ip (val:=fun i=>val (j+i)) (fun i a ha=>?_) (fun i a ha=>?_)
  ·rw [List.getElem?_drop] at ha
   rw [Nat.add_assoc]
   exact h (j+i) a ha
  ·rw [List.getElem?_drop] at ha
   exact hr (j+i) a ha
theorem uq {w:World}{b q:Nat}{f:Field}{m:Nat}(h:cP P f.type=some (m+1)):(fieldPlace ⟨b,q,none⟩ f).run P w=.ok ⟨b,q+f.offset,none⟩ w:=by
 simp [fieldPlace,cA h,fh]
theorem HY {s:TypeId}{x:Operand}{f:Nat}{fs:Array Field}{fd:Field}{m:Nat}{row:List AV}(ho:o.op=.fieldAddr s x f) (hu:P.underlying s=some (.struct fs)) (hf:fs[f]?=some fd) (hs:cP P fd.type=some (m+1))
  (hx:α.ev x=.ip row):aS P w0 n o α S (.ip (row.drop fd.offset)) S :=
 aS.quiet fun A g q w hS hA=>by
  have h1:=hA.ev x
  rw [hx] at h1
  obtain⟨b,p,e,_⟩:=Am h1
  rw [e] at h1
  exact⟨_,by simp [execOp,ho,Instr.fieldAt,run_underlying hu,hf,e,Instr.sureAddr,uq hs],F9 h1 _⟩
theorem HZ {s:TypeId}{x:Operand}{f:Nat}{fs:Array Field}{fd:Field}{m k sz i j:Nat}(ho:o.op=.fieldAddr s x f) (hu:P.underlying s=some (.struct fs)) (hf:fs[f]?=some fd) (hs:cP P fd.type=some (m+1))
  (hx:α.ev x=.pt k sz i j):aS P w0 n o α S (.pt k sz i (j+fd.offset)) S :=
 aS.quiet fun A g q w hS hA=>by
  have h1:=hA.ev x
  rw [hx] at h1
  obtain⟨y,hy⟩:∃ y,q.eval x=y:=⟨_,rfl⟩
  rw [hy] at h1
  cases h1 with
  |pt hk=>exact⟨_,by simp [execOp,ho,Instr.fieldAt,run_underlying hu,hf,hy,Instr.sureAddr,uq hs];rfl,by rw [Nat.add_assoc];exact .pt hk⟩
theorem BA {g:Gh}{w:World}{t:TypeId}{l:List AV}{cs:Array Value}{j:Nat}(h:mL P t l j=some r) (hl:nM g w l cs):∃ v,(part t cs j).run P w=.ok v w/\aH g w r v:=by
 unfold mL at h
 split at h
 ·rename_i m ha hs
  split at h
  ·rename_i hle
   have hle:=Nat.le_of_ble_eq_true hle
   obtain rfl:=oJ_ h
   rw [IL]
   refine⟨.agg (cs.extract j (j+m)),by simp [part,vj ha,cA hs],.agg ?_ (fun i b x h1 h2=>?_)⟩
   ·simp [hl.1];omega
   ·rw [List.getElem?_take] at h1
    split at h1
    ·rename_i hi
     rw [List.getElem?_drop] at h1
     rw [Array.getElem?_extract] at h2
     split at h2
     ·exact hl.2 _ b x h1 h2
     ·cases h2
    ·cases h1
  ·cases h
 ·rename_i ha
  have hj:j < cs.size:=by rw [hl.1];exact (List.getElem?_eq_some_iff.1 h).1
  exact⟨cs[j],by simp [part,vj ha,Array.getElem?_eq_getElem hj],hl.2 j r _ h (Array.getElem?_eq_getElem hj)⟩
 ·cases h
theorem CT {g:Gh}{w:World}{l:List AV}{v:Value}(h:aH g w (.agg l) v):∃ cs,v=.agg cs/\nM g w l cs:=by
 cases h with
 |agg hs h=>exact⟨_,rfl,hs,h⟩
theorem Kn {t:TypeId}{x:Operand}{f:Nat}{fs:Array Field}{fd:Field}{l:List AV}(ho:o.op=.field t x f) (hu:P.underlying t=some (.struct fs)) (hf:fs[f]?=some fd) (hx:α.ev x=.agg l) (h:mL P fd.type l fd.offset=some r) :
  aS P w0 n o α S r S :=
 aS.quiet fun A g q w hS hA=>by
  have h1:=hA.ev x
  rw [hx] at h1
  obtain⟨cs,e,hl⟩:=CT h1
  obtain⟨v,h2,h3⟩:=BA (w:=w) h hl
  exact⟨v,by simp [execOp,ho,Instr.field,run_underlying hu,hf,e,asAgg,h2],h3⟩
theorem H0 {x:Operand}{i:Nat}{l:List AV}(ho:o.op=.extract x i) (hx:α.ev x=.aE l) (h:l[i]?=some r):aS P w0 n o α S r S :=
 aS.quiet fun A g q w hS hA=>by
  have h1:=hA.ev x
  rw [hx] at h1
  obtain⟨y,hy⟩:∃ y,q.eval x=y:=⟨_,rfl⟩
  rw [hy] at h1
  cases h1 with
  |@aE _ cs hs h' =>
   have hi:i < cs.size:=by rw [hs];exact (List.getElem?_eq_some_iff.1 h).1
   exact⟨cs[i],by simp [execOp,ho,hy,Instr.extract,Array.getElem?_eq_getElem hi],h' i r _ h (Array.getElem?_eq_getElem hi)⟩
theorem nL {g:Gh}{w:World}{m:Nat}{a:Act}(hA:bN g w m α a) (l:Array Operand):(l.map a.eval).size=(l.toList.map α.ev).length/\∀ (i:Nat) (b:AV) (x:Value),(l.toList.map α.ev)[i]?=some b->(l.map a.eval)[i]?=some x->aH g w b x:=by
 refine⟨by simp,fun i b x h1 h2=>?_⟩
 simp only [List.getElem?_map,Option.map_eq_some_iff] at h1
 obtain⟨y,hy,rfl⟩:=h1
 rw [Array.getElem?_map] at h2
 rw [Array.getElem?_toList] at hy
 rw [hy] at h2
 simp at h2
 subst h2
 exact hA.ev y
theorem F_ {f:Fn}{first cap:Array Operand}(ho:o.op=.makeFunc f first cap):aS P w0 n o α S (.fn f (first.toList.map α.ev) (cap.toList.map α.ev)) S :=
 aS.quiet fun A g q w hS hA=>by
  obtain⟨h1,h2⟩:=nL hA first
  obtain⟨h3,h4⟩:=nL hA cap
  exact⟨_,by simp [execOp,ho,Instr.makeFunc],.fn h1 h3 h2 h4⟩
theorem D5 {x:Operand}(ho:o.op=.nilCheck x) (hx:(∃ c,α.ev x=.ip c)\/∃ k sz i j,α.ev x=.pt k sz i j):aS P w0 n o α S (α.ev x) S :=
 aS.quiet fun A g q w hS hA=>by
  have h1:=hA.ev x
  refine⟨q.eval x,?_,h1⟩
  obtain⟨y,hy⟩:∃ y,q.eval x=y:=⟨_,rfl⟩
  rw [hy] at h1
  rcases hx with ⟨c,hx⟩|⟨k,sz,i,j,hx⟩<;>rw [hx] at h1<;>cases h1<;>simp [execOp,ho,hy]
end
section
variable {P:Program}{w0:World}{n:Nat}{o:Oper}{α:AA}{S S':ad}{r:AV}
def BB (g:Gh) (w:World) (sz:Nat) (rows:List (List AV)) (cs:Array Value):Prop :=
 cs.size=rows.length*sz/\∀ (i:Nat) (row:List AV),rows[i]?=some row->row.length=sz/\∀ (j:Nat) (a:AV),row[j]?=some a->∃ x,cs[i*sz+j]?=some x/\aH g w a x
theorem kr {i m sz j:Nat}(hi:i < m) (hj:j < sz):i*sz+j < m*sz:=by
 have:=Nat.mul_le_mul_right sz (show i+1<=m from hi)
 rw [Nat.add_mul,Nat.one_mul] at this
 omega
theorem tE {g:Gh}{w:World}{sz:Nat}:∀ {parts:List (Nat × AV)}{xe:List (Nat × Value)}{rows cJ:List (List AV)}{cs:Array Value},qP sz rows parts=some cJ->BB g w sz rows cs ->
  CI (fun (p:Nat × AV) (q:Nat × Value)=>p.1=q.1/\aH g w p.2 q.2) parts xe->∃ cs',Instr.fill (fun i=>some (i*sz,sz)) cs xe=some cs'/\BB g w sz cJ cs'/\cJ.length=rows.length
 |[],_,rows,cJ,cs,h,hl,hp=>by
  cases hp
  obtain rfl:=oJ_ h
  exact⟨cs,rfl,hl,rfl⟩
 |(i,a)::rest,_,rows,cJ,cs,h,hl,hp=>by
  cases hp with
  |@cons _ q _ kK hq nD =>
   obtain⟨j,x⟩:=q
   obtain⟨e,hx⟩:=hq
   simp only at e hx
   subst e
   simp only [qP] at h
   split at h
   ·rename_i hc
    simp only [Bool.and_eq_true] at hc
    obtain⟨⟨e1,e2⟩,e3⟩:=hc
    have e1:=Nat.eq_of_beq_eq_true e1
    have e2:i < rows.length:=Nat.le_of_ble_eq_true e2
    obtain⟨c1,c2,c3⟩:=oA e3 hx
    have f:=xd (i*sz) x.cells.toList 0 cs
    have l4:i*sz+sz<=rows.length*sz:=by
     have:=Nat.mul_le_mul_right sz (show i+1<=rows.length from e2)
     rwa [Nat.add_mul,Nat.one_mul] at this
    have ep:i*sz+x.cells.size<=cs.size:=by rw [hl.1,c1,e1];exact l4
    have f2:=f.2 (by simpa using ep)
    have l8:BB g w sz (rows.set i (aP a)) ((x.cells.toList.zipIdx 0).foldl (fun cs (p:Value × Nat)=>cs.setIfInBounds (i*sz+p.2) p.1) cs):=by
     refine⟨by rw [f.1,hl.1];simp,fun i' aV eK=>?_⟩
     by_cases e:i'=i
     ·subst e
      rw [List.getElem?_set_self e2] at eK
      obtain rfl:=oJ_ eK
      refine⟨e1,fun j' a' cz=>?_⟩
      have gp:j' < (aP a).length:=(List.getElem?_eq_some_iff.1 cz).1
      have eN:j' < x.cells.size:=by rw [c1];exact gp
      refine⟨x.cells[j'],?_,c2 j' a' _ cz (Array.getElem?_eq_getElem eN)⟩
      rw [f2]
      simp only [Nat.add_zero,Array.length_toList,Array.getElem?_toList]
      rw [if_neg (by omega),if_pos (by omega),show i'*sz+j' - i'*sz=j' by omega]
      exact Array.getElem?_eq_getElem eN
     ·rw [List.getElem?_set_ne (Ne.symm e)] at eK
      refine⟨(hl.2 i' aV eK).1,fun j' a' cz=>?_⟩
      obtain⟨y,hy,Bp⟩:=(hl.2 i' aV eK).2 j' a' cz
      have gp:j' < sz:=by rw [<-(hl.2 i' aV eK).1];exact (List.getElem?_eq_some_iff.1 cz).1
      refine⟨y,?_,Bp⟩
      rw [f2]
      simp only [Nat.add_zero,Array.length_toList,Array.getElem?_toList,c1,e1]
      rcases Nat.lt_or_gt_of_ne e with c|c
      ·have:=kr c gp
       rw [if_pos (by omega)]
       exact hy
      ·have:i*sz+sz<=i'*sz:=by
        have:=Nat.mul_le_mul_right sz (show i+1<=i' from c)
        rwa [Nat.add_mul,Nat.one_mul] at this
       rw [if_neg (by omega),if_neg (by omega)]
       exact hy
    obtain⟨cs',h1,h2,h3⟩:=tE h l8 nD
    refine⟨cs',?_,h2,by rw [h3];simp⟩
    rw [<-h1]
    simp only [Instr.fill]
    rw [if_neg (by simp only [Bool.or_eq_true,decide_eq_true_eq,not_or];omega)]
    congr 1
    rw [<-Array.foldl_toList,Array.toList_zipIdx]
   ·cases h
theorem D6 {g:Gh}{w:World}{zs:Array Value}{len:Nat}(h:0 < zs.size):BB g w zs.size (List.replicate len (zs.toList.map bJ)) ((Array.range (len*zs.size)).map (zs[· % zs.size]!)):=by
 refine⟨by simp,fun i row hr=>?_⟩
 rw [List.getElem?_replicate] at hr
 split at hr
 ·rename_i hi
  obtain rfl:=oJ_ hr
  refine⟨by simp,fun j a ha=>?_⟩
  have hl:=nM.bJ (g:=g) (w:=w) zs
  have hj:j < zs.size:=by have:=(List.getElem?_eq_some_iff.1 ha).1;simpa using this
  refine⟨zs[j],?_,hl.2 j a _ ha (Array.getElem?_eq_getElem hj)⟩
  have aA:=kr hi hj
  rw [Array.getElem?_map,Array.getElem?_range,if_pos aA]
  have e:(i*zs.size+j) % zs.size=j:=by rw [Nat.mul_comm,Nat.mul_add_mod,Nat.mod_eq_of_lt hj]
  simp [e,hj]
 ·cases hr
theorem H2 {g:Gh}{w:World}{sz b c:Nat}{rows:List (List AV)}{cs:Array Value}{ty:TypeId}{ex:Bool}(h:BB g w sz rows cs) (hb:w.heap[b]?=some (.cells cs ty (0,0))) (hz:∀ q,g.fz b q) (hc:ex=true->c=rows.length) (hle:rows.length<=c) :
  aH g w (.sl ex rows) (.slice (some ⟨b,0,none⟩) rows.length c):=by
 cases rows with
 |nil=>exact .nil hc
 |cons r rs =>
  refine .sl (sz:=sz) (val:=fun i j=>cs.getD (i*sz+j) undef) (by simp) hc hle (fun i row hr=>(h.2 i row hr).1) (fun i j row a hr ha=>⟨hz _,?_⟩) (fun i j row a hr ha=>?_)
  ·obtain⟨x,hx,dH⟩:=(h.2 i row hr).2 j a ha
   rw [cell_of_row _ _ _ cs ty (0,0) hb,Nat.zero_add,hx]
   simp [Array.getD_eq_getD_getElem?,hx]
  ·obtain⟨x,hx,dH⟩:=(h.2 i row hr).2 j a ha
   simp only [Array.getD_eq_getD_getElem?,hx,Option.getD_some]
   exact dH
theorem CU {t e:TypeId}{len sz:Nat}{parts:Array (Nat × Operand)}{z:Value}{rows:List (List AV)}(ho:o.op=.buildSlice t len parts) (hu:P.underlying t=some (.slice e)) (hz:cU P e=some z) (hs:cP P e=some sz)
  (h1:len*sz<=16777216) (h2:z.cells.size=sz) (h3:0 < sz) (h:qP sz (List.replicate len (z.cells.toList.map bJ)) (parts.toList.map fun (i,x)=>(i,α.ev x))=some rows):aS P w0 n o α S (.sl true rows) S:=by
 intro A g a w hS hA
 obtain⟨cs,hf,hr,hl⟩:=tE h (by rw [<-h2];exact D6 (by omega)) (sX hA parts.toList)
 rw [List.length_replicate] at hl
 obtain⟨hE,cQ⟩:=hS.Dw (.cells cs e)
 refine⟨.slice (some ⟨w.heap.size,0,none⟩) len len,w.alloc (.cells cs e),g.Dw w.heap.size,.inl ?_,?_,cQ,hE⟩
 ·have As:¬ (len*sz > 2 ^ 24):=by omega
  rw [h2] at hf
  simp only [execOp,ho,Instr.buildSlice,Sem.run_bind,run_underlying hu,Result.andThen_ok,cA hs,if_neg As]
  by_cases c:len*sz=0
  ·have e0:∀ f:Nat->Value,(Array.range (len*sz)).map f=#[]:=fun f=>by rw [c];simp
   rw [e0] at hf
   have xA:Instr.fill (fun i=>some (i*sz,sz)) ((Array.range (len*sz)).map fun x=>(#[]:Array Value)[x % (#[]:Array Value).size]!) (Array.map (fun x=>(x.fst,a.eval x.snd)) parts).toList=some cs:=by
    rw [e0,Array.toList_map]
    exact hf
   rw [if_pos c]
   simp only [Sem.run_bind,Sem.run_pure,Result.andThen_ok,xA,newRow,run_newObj]
   rfl
  ·have xA:Instr.fill (fun i=>some (i*sz,sz)) ((Array.range (len*sz)).map fun x=>z.cells[x % z.cells.size]!) (Array.map (fun x=>(x.fst,a.eval x.snd)) parts).toList=some cs:=by
    rw [Array.toList_map,h2]
    exact hf
   rw [if_neg c]
   simp only [Sem.run_bind,kG hz,Sem.run_pure,Result.andThen_ok,xA,newRow,run_newObj]
   rfl
 ·have:=H2 (ex:=true) (c:=rows.length) (b:=w.heap.size) (ty:=e) (g:=g.Dw w.heap.size) (w:=w.alloc (.cells cs e)) (sz:=sz) (rows:=rows) (cs:=cs)
   ⟨hr.1,fun i row hi=>⟨(hr.2 i row hi).1,fun j b hb=>let ⟨x,hx,dH⟩:=(hr.2 i row hi).2 j b hb;⟨x,hx,dH.later hE.toLater⟩⟩⟩ c_ (fun q=>.inr rfl) (fun _=>rfl) (Nat.le_refl _)
  rwa [hl] at this
theorem Ye {g:Gh}{w:World}{ex:Bool}{rows:List (List AV)}{v:Value}{sz i:Nat}{row:List AV}(h:aH g w (.sl ex rows) v) (hl:∀ r ∈ rows,r.length=sz) (hi:rows[i]?=some row) :
  ∃ b q c,v=.slice (some ⟨b,q,none⟩) rows.length c/\aH g w (.ip row) (.pointer (some ⟨b,q+i*sz,none⟩)):=by
 cases h with
 |nil hc=>simp at hi
 |@sl _ _ b q sz' c val hn hc hle l8 h hr =>
  have e:sz'=sz:=by
   have h1:=l8 i row hi
   have h2:=hl row (List.mem_of_getElem? hi)
   omega
  subst e
  refine⟨b,q,c,rfl,.ip (val:=fun j=>val i j) (fun j a ha=>?_) (fun j a ha=>hr i j row a hi ha)⟩
  rw [Nat.add_assoc]
  exact h i j row a hi ha
theorem Ga {β:Type}{rows:List β}{k:Int}{x:β}(h:idx rows k=some x):0<=k/\rows[k.toNat]?=some x/\k < rows.length:=by
 unfold idx at h
 split at h
 ·rename_i h0
  have:=(List.getElem?_eq_some_iff.1 h).1
  exact⟨h0,h,by omega⟩
 ·cases h
theorem H3 {t e:TypeId}{x y:Operand}{ex:Bool}{rows:List (List AV)}{k:IntKind}{i:Int}{sz:Nat}{row:List AV}(ho:o.op=.indexAddr t x y) (hu:P.underlying t=some (.slice e)) (hx:α.ev x=.sl ex rows) (hy:α.ev y=.v (.int k i))
  (hs:cP P e=some sz) (hi:idx rows i=some row) (hl:∀ r ∈ rows,r.length=sz):aS P w0 n o α S (.ip row) S :=
 aS.quiet fun A g q w hS hA=>by
  have h1:=hA.ev x
  have h2:=hA.ev y
  rw [hx] at h1
  rw [hy] at h2
  obtain⟨h0,hr,aA⟩:=Ga hi
  obtain⟨b,p,c,e1,nQ⟩:=Ye h1 hl hr
  refine⟨_,?_,nQ⟩
  simp only [execOp,ho,e1,bO h2,Instr.indexAt,asIntOf,Sem.run_bind,run_underlying hu,cA hs,Result.andThen_ok,Sem.run_pure]
  rw [if_pos ⟨h0,aA⟩]
  simp [cA hs,fh]
theorem H4 {t e:TypeId}{x y:Operand}{k sz off len:Nat}{cx:Option Nat}{kd:IntKind}{i:Int}(ho:o.op=.indexAddr t x y) (hu:P.underlying t=some (.slice e)) (hx:α.ev x=.ob k sz off len cx) (hy:α.ev y=.v (.int kd i))
  (hs:cP P e=some sz) (h0:0<=i) (aA:i < len):aS P w0 n o α S (.pt k sz (off+i.toNat) 0) S :=
 aS.quiet fun A g q w hS hA=>by
  have h1:=hA.ev x
  have h2:=hA.ev y
  rw [hx] at h1
  rw [hy] at h2
  obtain⟨v,hv⟩:∃ v,q.eval x=v:=⟨_,rfl⟩
  rw [hv] at h1
  cases h1 with
  |ob hk hc hp hxx hle =>
   have:=aH.pt (g:=g) (w:=w) (sz:=sz) (i:=off+i.toNat) (j:=0) hk
   refine⟨_,?_,this⟩
   simp only [execOp,ho,hv,bO h2,Instr.indexAt,asIntOf,Sem.run_bind,run_underlying hu,cA hs,Result.andThen_ok,Sem.run_pure]
   rw [if_pos ⟨h0,aA⟩]
   simp [cA hs,fh,Nat.add_mul]
theorem CV {t e:TypeId}{x y:Operand}{k sz i j len m:Nat}{kd:IntKind}{q:Int}(ho:o.op=.indexAddr t x y) (hu:P.underlying t=some (.array len e)) (hx:α.ev x=.pt k sz i j) (hy:α.ev y=.v (.int kd q))
  (hs:cP P e=some m) (h0:0<=q) (aA:q < len):aS P w0 n o α S (.pt k sz i (j+q.toNat*m)) S :=
 aS.quiet fun A g c w hS hA=>by
  have h1:=hA.ev x
  have h2:=hA.ev y
  rw [hx] at h1
  rw [hy] at h2
  obtain⟨v,hv⟩:∃ v,c.eval x=v:=⟨_,rfl⟩
  rw [hv] at h1
  cases h1 with
  |pt hk =>
   refine⟨_,?_,.pt hk⟩
   simp only [execOp,ho,hv,bO h2,Instr.indexAt,asIntOf,Instr.sureAddr,Sem.run_bind,run_underlying hu,cA hs,Result.andThen_ok,Sem.run_pure]
   rw [if_pos ⟨h0,aA⟩]
   simp [cA hs,fh,Nat.add_assoc]
theorem CW {t e:TypeId}{x y:Operand}{row:List AV}{len m:Nat}{kd:IntKind}{q:Int}(ho:o.op=.indexAddr t x y) (hu:P.underlying t=some (.array len e)) (hx:α.ev x=.ip row) (hy:α.ev y=.v (.int kd q))
  (hs:cP P e=some m) (h0:0<=q) (aA:q < len):aS P w0 n o α S (.ip (row.drop (q.toNat*m))) S :=
 aS.quiet fun A g c w hS hA=>by
  have h1:=hA.ev x
  have h2:=hA.ev y
  rw [hx] at h1
  rw [hy] at h2
  obtain⟨b,p,e1,_⟩:=Am h1
  rw [e1] at h1
  refine⟨_,?_,F9 h1 _⟩
  simp only [execOp,ho,e1,bO h2,Instr.indexAt,asIntOf,Instr.sureAddr,Sem.run_bind,run_underlying hu,cA hs,Result.andThen_ok,Sem.run_pure]
  rw [if_pos ⟨h0,aA⟩]
  simp [cA hs,fh]
theorem Gb {t:TypeId}{x y:Operand}{s:ByteArray}{k:IntKind}{i:Int}{b:UInt8}(ho:o.op=.index t x y) (hu:P.underlying t=some .string) (hx:α.ev x=.v (.string s)) (hy:α.ev y=.v (.int k i)) (hi:idx s.data.toList i=some b) :
  aS P w0 n o α S (.v (.int .u8 b.toNat)) S :=
 aS.quiet fun A g q w hS hA=>by
  have h1:=hA.ev x
  have h2:=hA.ev y
  rw [hx] at h1
  rw [hy] at h2
  obtain⟨h0,hr,aA⟩:=Ga hi
  refine⟨_,?_,.v⟩
  have bh:i.toNat < s.size:=by
   have:=(List.getElem?_eq_some_iff.1 hr).1
   simpa using this
  have e:s[i.toNat]?=some b:=by
   rw [getElem?_pos s i.toNat bh]
   have Zo:s.data[i.toNat]?=some b:=by rw [<-Array.getElem?_toList];exact hr
   rw [Array.getElem?_eq_getElem (by simpa using bh)] at Zo
   exact Zo
  simp only [execOp,ho,bO h1,bO h2,Instr.index,asIntOf,Sem.run_bind,run_underlying hu,Result.andThen_ok,Sem.run_pure,if_pos h0,e]
theorem Gc {t e:TypeId}{x y:Operand}{l:List AV}{len m:Nat}{kd:IntKind}{q:Int}(ho:o.op=.index t x y) (hu:P.underlying t=some (.array len e)) (hx:α.ev x=.agg l) (hy:α.ev y=.v (.int kd q))
  (hs:cP P e=some m) (h:mL P e l (q.toNat*m)=some r) (h0:0<=q) (aA:q < len):aS P w0 n o α S r S :=
 aS.quiet fun A g c w hS hA=>by
  have h1:=hA.ev x
  have h2:=hA.ev y
  rw [hx] at h1
  rw [hy] at h2
  obtain⟨cs,e1,hl⟩:=CT h1
  obtain⟨v,h3,h4⟩:=BA (w:=w) h hl
  refine⟨v,?_,h4⟩
  simp only [execOp,ho,e1,bO h2,Instr.index,asIntOf,Sem.run_bind,run_underlying hu,Result.andThen_ok,Sem.run_pure]
  rw [if_pos ⟨h0,aA⟩]
  simp [cA hs,h3]
theorem Gd {g:Gh}{w:World}{a:AV}{v:Value}{m:Nat}(h:m7 a=some m) (hr:aH g w a v):(∃ A c,v=.slice A m c)\/∃ s,v=.string s/\s.size=m:=by
 unfold m7 at h
 split at h
 ·obtain rfl:=oJ_ h
  cases hr with
  |nil=>exact .inl ⟨_,_,rfl⟩
  |sl=>exact .inl ⟨_,_,rfl⟩
 ·obtain rfl:=oJ_ h
  cases hr with
  |ob=>exact .inl ⟨_,_,rfl⟩
 ·obtain rfl:=oJ_ h
  cases hr with
  |v=>exact .inr ⟨_,rfl,rfl⟩
 ·cases h
theorem toList_one {α:Type}{l:Array α}{x:α}(h:l.toList=[x]):l=#[x]:=by cases l;simp at h;rw [h]
theorem toList_two {α:Type}{l:Array α}{x y:α}(h:l.toList=[x,y]):l=#[x,y]:=by cases l;simp at h;rw [h]
theorem I3 {c:Call}{t:TypeId}{a:AV}{m:Nat}{d:TypeDesc}(ho:o.op=.call c) (hc:c.callee=.builtin .len) (ht:c.argTypes=#[t]) {x:Operand}(aY:c.args=#[x]) (hx:α.ev x=a) (hm:m7 a=some m) (hu:P.underlying t=some d)
  (hd:(∃ e,d=.slice e/\∀ s,a ≠ .v (.string s))\/(d=.string/\∃ s,a=.v (.string s))):aS P w0 n o α S (.v (.int .i64 (m:Int))) S :=
 aS.quiet fun A g q w hS hA=>by
  have h1:=hA.ev x
  rw [hx] at h1
  refine⟨_,?_,.v⟩
  rcases hd with ⟨e,rfl,a_⟩|⟨rfl,s,rfl⟩
  ·rcases Gd hm h1 with ⟨B,k,hv⟩|⟨s,hv,_⟩
   ·simp [execOp,ho,resolve,hc,aY,ht,hv,invoke,builtin,Builtin.len_,run_underlying hu,goInt]
   ·exfalso
    rw [hv] at h1
    unfold m7 at hm
    split at hm
    ·cases h1
    ·cases h1
    ·exact a_ _ rfl
    ·cases hm
  ·have hv:=bO h1
   simp only [m7,oI_] at hm
   subst hm
   simp [execOp,ho,resolve,hc,aY,ht,hv,invoke,builtin,Builtin.len_,run_underlying hu,goInt]
theorem Yf {c:Call}{k:IntKind}{i j:Int}(ho:o.op=.call c) (hc:c.callee=.builtin .min) {x y:Operand}(aY:c.args=#[x,y]) (hx:α.ev x=.v (.int k i)) (hy:α.ev y=.v (.int k j)):aS P w0 n o α S (.v (.int k (min i j))) S :=
 aS.quiet fun A g q w hS hA=>by
  have h1:=hA.ev x
  have h2:=hA.ev y
  rw [hx] at h1
  rw [hy] at h2
  refine⟨_,?_,.v⟩
  have:(if j < i then j else i)=min i j:=by omega
  simp [execOp,ho,resolve,hc,aY,bO h1,bO h2,invoke,builtin,Builtin.min_,Builtin.min2,this]
theorem Yg {c:Call}{k:IntKind}{i j:Int}(ho:o.op=.call c) (hc:c.callee=.builtin .max) {x y:Operand}(aY:c.args=#[x,y]) (hx:α.ev x=.v (.int k i)) (hy:α.ev y=.v (.int k j)):aS P w0 n o α S (.v (.int k (max i j))) S :=
 aS.quiet fun A g q w hS hA=>by
  have h1:=hA.ev x
  have h2:=hA.ev y
  rw [hx] at h1
  rw [hy] at h2
  refine⟨_,?_,.v⟩
  have:(if j > i then j else i)=max i j:=by omega
  simp [execOp,ho,resolve,hc,aY,bO h1,bO h2,invoke,builtin,Builtin.max_,Builtin.max2,this]
end
end Go.Proofs.YtgjfgekaclobaaaGreat
