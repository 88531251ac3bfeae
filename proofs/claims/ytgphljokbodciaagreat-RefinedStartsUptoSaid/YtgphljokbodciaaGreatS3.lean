import Derived.Test.YtgphljokbodciaaGreatS2
namespace Go.Proofs.YtgphljokbodciaaGreat
set_option linter.unusedVariables false
set_option linter.unusedSimpArgs false
open Go.RowKit
section
variable (P:Program) (w0:World) (n:Nat)
def bg (o:Oper) (α:AA) (S:ae) (r:AV) (S':ae):Prop :=
 ∀ (A:Nat->Prop) (g:Gh) (a:Act) (w:World),St w0 A g S w->b7 g w n α a->∃ (v:Value) (w':World) (g':Gh),
  ((execOp a.eval o).run P w=.ok (.value v) w'\/((execOp a.eval o).run P w=.ok .skip w'/\v=undef))/\aL g' w' r v/\St w0 A g' S' w'/\Ext A g w g' w'
def eB (o:Oper) (α:AA) (S:ae) (r:AV) (S':ae):Prop :=
 ∀ (F:Fence) (m:Nat) (A:Nat->Prop) (g:Gh) (a:Act) (w:World) (next:Act->World->Prop) (Q:Exit->Act->World->Prop),iF F->St w0 A g S w->b7 g w n α a ->
  (∀ (v:Value) (w':World) (g':Gh),aL g' w' r v->St w0 A g' S' w'->Ext A g w g' w'->next (a.put o.dst v) w')->o.uponIn F m P a next Q ((o.semAt F.round a.eval).run P w)
end
section
variable {P:Program}{w0:World}{n:Nat}{o:Oper}{α:AA}{S S':ae}{r:AV}
theorem bg.ops (h:bg P w0 n o α S r S') (hd:∀ c,o.op ≠ .defer c):eB P w0 n o α S r S':=by
 intro F m A g a w next Q hF hS hA mB
 obtain⟨v,w',g',cu,hr,iu,hE⟩:=h A g a w hS hA
 rw [Oper.semAt_eq _ _ _ hd]
 rcases cu with cu|⟨cu,rfl⟩
 ·rw [cu];exact mB v w' g' hr iu hE
 ·rw [cu];exact mB undef w' g' hr iu hE
theorem bg.quiet (h:∀ (A:Nat->Prop) (g:Gh) (a:Act) (w:World),St w0 A g S w->b7 g w n α a->∃ v,(execOp a.eval o).run P w=.ok (.value v) w/\aL g w r v):bg P w0 n o α S r S:=by
 intro A g a w hS hA
 obtain⟨v,h1,h2⟩:=h A g a w hS hA
 exact⟨v,w,g,.inl h1,h2,hS,Ext.refl ..⟩
theorem DG {x:Operand}(ho:o.op=.move x\/o.op=.assign x):bg P w0 n o α S (α.ev x) S :=
 bg.quiet fun A g a w hS hA=>⟨a.eval x,by rcases ho with ho|ho<;>simp [execOp,ho],hA.ev x⟩
theorem NG {c x y:Operand}{t:Bool}(ho:o.op=.pick c x y) (hc:α.ev c=.v (.bool t)):bg P w0 n o α S (if t then α.ev x else α.ev y) S :=
 bg.quiet fun A g a w hS hA=>by
  have h1:=hA.ev c
  rw [hc] at h1
  have h2:=Db h1
  cases t with
  |true=>exact⟨a.eval x,by simp [execOp,ho,h2,asBool],hA.ev x⟩
  |false=>exact⟨a.eval y,by simp [execOp,ho,h2,asBool],hA.ev y⟩
theorem tp {A:Nat->Prop}{g:Gh}{w:World}{cs:List AV}{cells:Array Value}{ty:TypeId}(hS:St w0 A g S w) (h:mI g w cs cells) :
  ∃ g',aL g' (w.alloc (.cells cells ty)) (.pt S.nx cs.length 0 0) (.pointer (some ⟨w.heap.size,0,none⟩))/\St w0 A g' (iH S cs).2 (w.alloc (.cells cells ty))/\Ext A g w g' (w.alloc (.cells cells ty)):=by
 obtain⟨hE,cZ⟩:=hS.new (.cells cells ty) (.arr cs.length [cs] 0 true) 1 (fun J=>by simp) (fun hL=>by
  refine⟨cells,ty,dy,by rw [h.1];simp,by simp,fun _=>rfl,fun i row hr=>?_,Nat.zero_le _,fun q=>⟨fun hf=>?_,fun hf=>by simp at hf⟩⟩
  ·cases i with
   |succ i=>simp at hr
   |zero =>
    simp at hr
    subst hr
    refine⟨rfl,fun j a ha=>?_⟩
    have hj:j < cells.size:=by rw [h.1];exact (List.getElem?_eq_some_iff.1 ha).1
    exact⟨cells[j],by simp,(h.2 j a _ ha (Array.getElem?_eq_getElem hj)).later hL⟩
  ·exact absurd (hS.cK _ _ hf) (by omega))
 refine⟨_,?_,cZ,hE⟩
 have:=aL.pt (g:=g.new S.nx w.heap.size 1) (w:=w.alloc (.cells cells ty)) (k:=S.nx) (sz:=cs.length) (i:=0) (j:=0) (.inr rfl)
 rw [show (g.new S.nx w.heap.size 1).ob S.nx=w.heap.size from aG _ _ _] at this
 simpa using this
theorem Lf {e:TypeId}{z:Value}(ho:o.op=.alloc e) (hz:cY P e=some z):bg P w0 n o α S (iH S (z.cells.toList.map bV)).1 (iH S (z.cells.toList.map bV)).2:=by
 intro A g a w hS hA
 obtain⟨g',h1,h2,h3⟩:=tp (ty:=e) hS (mI.bV z.cells)
 refine⟨_,_,g',.inl ?_,h1,h2,h3⟩
 simp [execOp,ho,Instr.alloc,m7 hz,newVar,newRow]
theorem T6 {e:TypeId}{x:Operand}(ho:o.op=.box e x) (hx:(a_ (α.ev x)).all cn=true):bg P w0 n o α S (iH S (a_ (α.ev x))).1 (iH S (a_ (α.ev x))).2:=by
 intro A g a w hS hA
 obtain⟨c1,c2,c3⟩:=nA hx (hA.ev x)
 obtain⟨g',h1,h2,h3⟩:=tp (ty:=e) hS ⟨c1,c2⟩
 refine⟨_,_,g',.inl ?_,h1,h2,h3⟩
 simp [execOp,ho,Instr.box,newVar,newRow]
theorem HI {t:TypeId}{parts:Array (Nat × Operand)}(ho:o.op=.build t parts) (h:qS P t (parts.toList.map fun (i,x)=>(i,α.ev x))=some r):bg P w0 n o α S r S :=
 bg.quiet fun A g a w hS hA=>by
  obtain⟨v,h1,h2⟩:=EV (w:=w) hA h
  exact⟨v,by simp only [execOp,ho,Sem.run_bind];rw [h1];rfl,h2⟩
theorem Lg {t:TypeId}{x:Operand}(ho:o.op=.load t x) (h:r7 P S t (α.ev x)=some r):bg P w0 n o α S r S :=
 bg.quiet fun A g a w hS hA=>by
  obtain⟨b,q,v,h1,h2,h3⟩:=w9 hS h (hA.ev x)
  exact⟨v,by simp [execOp,ho,Instr.loadAt,h1,Instr.sureAddr,h2],h3⟩
theorem HJ {t:TypeId}{x b:Operand}(ho:o.op=.store t x b) (h:lv P S t (α.ev b) (α.ev x)=some S'):bg P w0 n o α S (.v undef) S':=by
 intro A g a w hS hA
 obtain⟨c,q,w',h1,h2,h3,h4,h5⟩:=qU hS h (hA.ev x) (hA.ev b)
 exact⟨undef,w',g,.inr ⟨by simp [execOp,ho,Instr.storeAt,h1,Instr.sureAddr,h2],rfl⟩,.v,h5,h4⟩
theorem NH {op:BinOp}{t:TypeId}{x y:Operand}{a b v:Value}{w:World}(h:px P op t a b=some v):(do eqGuard op t x y a b;binOp op t a b:Sem Value).run P w=.ok v w:=by
 unfold px at h
 split at h
 ·rename_i k i k' j
  split at h
  ·rename_i hk
   obtain rfl:=of_decide_eq_true hk
   cases op<;>simp_all [eqGuard,binOp,Op.intCmp]
  ·cases h
 ·cases op<;>simp_all [eqGuard,binOp,Op.stringOp]
 ·rename_i p q
  split at h
  ·rename_i hu
   have he:(Op.equal t (.bool p) (.bool q)).run P w=.ok (p == q) w:=by
    show (Op.equalIn (9999+1) t (.bool p) (.bool q)).run P w=_
    rw [Op.equalIn]
    simp only [Sem.run_bind,run_underlying hu,Result.andThen_ok]
    rfl
   have hg:∀ op:BinOp,(eqGuard op t x y (.bool p) (.bool q)).run P w=.ok () w:=by
    intro op
    cases op<;>rfl
   split at h
   ·obtain rfl:=Option.some.inj h
    simp only [Sem.run_bind,hg,Result.andThen_ok]
    have e:binOp .eql t (.bool p) (.bool q)=(do pure (Value.bool (<-Op.equal t (.bool p) (.bool q))):Sem Value):=rfl
    rw [e]
    simp only [Sem.run_bind,he,Result.andThen_ok]
    rfl
   ·obtain rfl:=Option.some.inj h
    simp only [Sem.run_bind,hg,Result.andThen_ok]
    have e:binOp .neq t (.bool p) (.bool q)=(do pure (Value.bool (!(<-Op.equal t (.bool p) (.bool q)))):Sem Value):=rfl
    rw [e]
    simp only [Sem.run_bind,he,Result.andThen_ok]
    rfl
   ·cases h
  ·cases h
 ·cases h
theorem x_ {op:BinOp}{t ty:TypeId}{x y:Operand}{a b v:Value}(ho:o.op=.binOp op t x y ty) (hx:α.ev x=.v a) (hy:α.ev y=.v b) (h:px P op t a b=some v):bg P w0 n o α S (.v v) S :=
 bg.quiet fun A g c w hS hA=>by
  have h1:=hA.ev x
  have h2:=hA.ev y
  rw [hx] at h1
  rw [hy] at h2
  have:=NH (x:=x) (y:=y) (w:=w) h
  simp only [Sem.run_bind] at this
  refine⟨v,?_,.v⟩
  simp only [execOp,ho,cd h1,cd h2,Sem.run_bind]
  rw [this]
  rfl
theorem Lh {op:BinOp}{t ty:TypeId}{x y:Operand}{k:IntKind}{a b c:Int}(ho:o.op=.binOp op t x y ty) (hx:α.ev x=.v (.int k a)) (hy:α.ev y=.v (.int k b)) (h:arith op a b=some c) :
  bg P w0 n o α S (.v (.int k (k.wrap c))) S :=
 bg.quiet fun A g q w hS hA=>by
  have h1:=hA.ev x
  have h2:=hA.ev y
  rw [hx] at h1
  rw [hy] at h2
  refine⟨_,?_,.v⟩
  cases op<;>simp_all [arith]<;>simp [execOp,ho,cd h1,cd h2,eqGuard,binOp,Op.intArith,h]
theorem HK {t ty:TypeId}{x y:Operand}{a b:ByteArray}(ho:o.op=.binOp .add t x y ty) (hx:α.ev x=.v (.string a)) (hy:α.ev y=.v (.string b)) (h:a.size+b.size<=9223372036854775807) :
  bg P w0 n o α S (.v (.string (a++b))) S :=
 bg.quiet fun A g q w hS hA=>by
  have h1:=hA.ev x
  have h2:=hA.ev y
  rw [hx] at h1
  rw [hy] at h2
  refine⟨_,?_,.v⟩
  have:¬ (((a.size+b.size:Nat):Int) > IntKind.i64.max):=by
   have:IntKind.i64.max=9223372036854775807:=by rfl
   rw [this]
   omega
  simp only [execOp,ho,cd h1,cd h2,eqGuard,binOp,Op.stringOp,Sem.run_bind,if_neg this]
  rfl
theorem T7 {t:TypeId}{x:Operand}{b:Bool}(ho:o.op=.unOp .not t x) (hx:α.ev x=.v (.bool b)):bg P w0 n o α S (.v (.bool (!b))) S :=
 bg.quiet fun A g q w hS hA=>by
  have h1:=hA.ev x
  rw [hx] at h1
  exact⟨_,by simp [execOp,ho,cd h1,Op.unary],.v⟩
theorem T8 {t:TypeId}{x:Operand}{k:IntKind}{a:Int}(ho:o.op=.unOp .neg t x) (hx:α.ev x=.v (.int k a)):bg P w0 n o α S (.v (.int k (k.wrap (0 - a)))) S :=
 bg.quiet fun A g q w hS hA=>by
  have h1:=hA.ev x
  rw [hx] at h1
  exact⟨_,by simp [execOp,ho,cd h1,Op.unary,Op.intArith],.v⟩
theorem EX {src dst:TypeId}{x:Operand}{k0 k k':IntKind}{a:Int}(ho:o.op=.convert src dst x) (hs:P.underlying src=some (.int k0)) (hd:P.underlying dst=some (.int k)) (hx:α.ev x=.v (.int k' a)) :
  bg P w0 n o α S (.v (.int k (k.wrap a))) S :=
 bg.quiet fun A g q w hS hA=>by
  have h1:=hA.ev x
  rw [hx] at h1
  exact⟨_,by simp [execOp,ho,cd h1,convert,run_underlying hs,run_underlying hd,Conv.intToInt],.v⟩
theorem EY {src dst:TypeId}{x:Operand}{s:ByteArray}(ho:o.op=.convert src dst x) (hs:P.underlying src=some .string) (hd:P.underlying dst=some .string) (hx:α.ev x=.v (.string s)) :
  bg P w0 n o α S (.v (.string s)) S :=
 bg.quiet fun A g q w hS hA=>by
  have h1:=hA.ev x
  rw [hx] at h1
  exact⟨_,by simp [execOp,ho,cd h1,convert,run_underlying hs,run_underlying hd],.v⟩
theorem DH {g:Gh}{w:World}{row:List AV}{b q:Nat}(h:aL g w (.ip row) (.pointer (some ⟨b,q,none⟩))) (j:Nat):aL g w (.ip (row.drop j)) (.pointer (some ⟨b,q+j,none⟩)):=by
 cases h with
 |@ip _ _ _ val h hr =>
  refine .ip (val:=fun i=>val (j+i)) (fun i a ha=>?_) (fun i a ha=>?_)
  ·rw [List.getElem?_drop] at ha
   rw [Nat.add_assoc]
   exact h (j+i) a ha
  ·rw [List.getElem?_drop] at ha
   exact hr (j+i) a ha
theorem tq {w:World}{b q:Nat}{f:Field}{m:Nat}(h:cS P f.type=some (m+1)):(fieldPlace ⟨b,q,none⟩ f).run P w=.ok ⟨b,q+f.offset,none⟩ w:=by
 simp [fieldPlace,cP h,fS]
theorem EZ {s:TypeId}{x:Operand}{f:Nat}{fs:Array Field}{fd:Field}{m:Nat}{row:List AV}(ho:o.op=.fieldAddr s x f) (hu:P.underlying s=some (.struct fs)) (hf:fs[f]?=some fd) (hs:cS P fd.type=some (m+1))
  (hx:α.ev x=.ip row):bg P w0 n o α S (.ip (row.drop fd.offset)) S :=
 bg.quiet fun A g q w hS hA=>by
  have h1:=hA.ev x
  rw [hx] at h1
  obtain⟨b,p,e,_⟩:=xW h1
  rw [e] at h1
  exact⟨_,by simp [execOp,ho,Instr.fieldAt,run_underlying hu,hf,e,Instr.sureAddr,tq hs],DH h1 _⟩
theorem E0 {s:TypeId}{x:Operand}{f:Nat}{fs:Array Field}{fd:Field}{m k sz i j:Nat}(ho:o.op=.fieldAddr s x f) (hu:P.underlying s=some (.struct fs)) (hf:fs[f]?=some fd) (hs:cS P fd.type=some (m+1))
  (hx:α.ev x=.pt k sz i j):bg P w0 n o α S (.pt k sz i (j+fd.offset)) S :=
 bg.quiet fun A g q w hS hA=>by
  have h1:=hA.ev x
  rw [hx] at h1
  obtain⟨y,hy⟩:∃ y,q.eval x=y:=⟨_,rfl⟩
  rw [hy] at h1
  cases h1 with
  |pt hk=>exact⟨_,by simp [execOp,ho,Instr.fieldAt,run_underlying hu,hf,hy,Instr.sureAddr,tq hs];rfl,by rw [Nat.add_assoc];exact .pt hk⟩
theorem ze {g:Gh}{w:World}{t:TypeId}{l:List AV}{cs:Array Value}{j:Nat}(h:lS P t l j=some r) (hl:mI g w l cs):∃ v,(part t cs j).run P w=.ok v w/\aL g w r v:=by
 unfold lS at h
 split at h
 ·rename_i m ha hs
  split at h
  ·rename_i hle
   have hle:=Nat.le_of_ble_eq_true hle
   obtain rfl:=Option.some.inj h
   rw [FF]
   refine⟨.agg (cs.extract j (j+m)),by simp [part,tX ha,cP hs],.agg ?_ (fun i b x h1 h2=>?_)⟩
   ·simp [hl.1];omega
   ·rw [List.getElem?_take] at h1
    split at h1
    ·rename_i hi
     rw [List.getElem?_drop] at h1
     rw [Array.getElem?_extract] at h2
     split at h2
     ·exact hl.2 _ b x h1 h2
     ·cases h2
    ·cases h1
  ·cases h
 ·rename_i ha
  have hj:j < cs.size:=by rw [hl.1];exact (List.getElem?_eq_some_iff.1 h).1
  exact⟨cs[j],by simp [part,tX ha,Array.getElem?_eq_getElem hj],hl.2 j r _ h (Array.getElem?_eq_getElem hj)⟩
 ·cases h
theorem AF {g:Gh}{w:World}{l:List AV}{v:Value}(h:aL g w (.agg l) v):∃ cs,v=.agg cs/\mI g w l cs:=by
 cases h with
 |agg hs h=>exact⟨_,rfl,hs,h⟩
theorem HL {t:TypeId}{x:Operand}{f:Nat}{fs:Array Field}{fd:Field}{l:List AV}(ho:o.op=.field t x f) (hu:P.underlying t=some (.struct fs)) (hf:fs[f]?=some fd) (hx:α.ev x=.agg l) (h:lS P fd.type l fd.offset=some r) :
  bg P w0 n o α S r S :=
 bg.quiet fun A g q w hS hA=>by
  have h1:=hA.ev x
  rw [hx] at h1
  obtain⟨cs,e,hl⟩:=AF h1
  obtain⟨v,h2,h3⟩:=ze (w:=w) h hl
  exact⟨v,by simp [execOp,ho,Instr.field,run_underlying hu,hf,e,asAgg,h2],h3⟩
theorem E1 {x:Operand}{i:Nat}{l:List AV}(ho:o.op=.extract x i) (hx:α.ev x=.bc l) (h:l[i]?=some r):bg P w0 n o α S r S :=
 bg.quiet fun A g q w hS hA=>by
  have h1:=hA.ev x
  rw [hx] at h1
  obtain⟨y,hy⟩:∃ y,q.eval x=y:=⟨_,rfl⟩
  rw [hy] at h1
  cases h1 with
  |@bc _ cs hs h' =>
   have hi:i < cs.size:=by rw [hs];exact (List.getElem?_eq_some_iff.1 h).1
   exact⟨cs[i],by simp [execOp,ho,hy,Instr.extract,Array.getElem?_eq_getElem hi],h' i r _ h (Array.getElem?_eq_getElem hi)⟩
theorem mG {g:Gh}{w:World}{m:Nat}{a:Act}(hA:b7 g w m α a) (l:Array Operand):(l.map a.eval).size=(l.toList.map α.ev).length/\∀ (i:Nat) (b:AV) (x:Value),(l.toList.map α.ev)[i]?=some b->(l.map a.eval)[i]?=some x->aL g w b x:=by
 refine⟨by simp,fun i b x h1 h2=>?_⟩
 simp only [List.getElem?_map,Option.map_eq_some_iff] at h1
 obtain⟨y,hy,rfl⟩:=h1
 rw [Array.getElem?_map] at h2
 rw [Array.getElem?_toList] at hy
 rw [hy] at h2
 simp at h2
 subst h2
 exact hA.ev y
theorem DI {f:Fn}{first cap:Array Operand}(ho:o.op=.makeFunc f first cap):bg P w0 n o α S (.fn f (first.toList.map α.ev) (cap.toList.map α.ev)) S :=
 bg.quiet fun A g q w hS hA=>by
  obtain⟨h1,h2⟩:=mG hA first
  obtain⟨h3,h4⟩:=mG hA cap
  exact⟨_,by simp [execOp,ho,Instr.makeFunc],.fn h1 h3 h2 h4⟩
theorem By {x:Operand}(ho:o.op=.nilCheck x) (hx:(∃ c,α.ev x=.ip c)\/∃ k sz i j,α.ev x=.pt k sz i j):bg P w0 n o α S (α.ev x) S :=
 bg.quiet fun A g q w hS hA=>by
  have h1:=hA.ev x
  refine⟨q.eval x,?_,h1⟩
  obtain⟨y,hy⟩:∃ y,q.eval x=y:=⟨_,rfl⟩
  rw [hy] at h1
  rcases hx with ⟨c,hx⟩|⟨k,sz,i,j,hx⟩<;>rw [hx] at h1<;>cases h1<;>simp [execOp,ho,hy]
end
section
variable {P:Program}{w0:World}{n:Nat}{o:Oper}{α:AA}{S S':ae}{r:AV}
def zf (g:Gh) (w:World) (sz:Nat) (rows:List (List AV)) (cs:Array Value):Prop :=
 cs.size=rows.length*sz/\∀ (i:Nat) (row:List AV),rows[i]?=some row->row.length=sz/\∀ (j:Nat) (a:AV),row[j]?=some a->∃ x,cs[i*sz+j]?=some x/\aL g w a x
theorem jQ {i m sz j:Nat}(hi:i < m) (hj:j < sz):i*sz+j < m*sz:=by
 have:=Nat.mul_le_mul_right sz (show i+1<=m from hi)
 rw [Nat.add_mul,Nat.one_mul] at this
 omega
theorem xe {g:Gh}{w:World}{sz:Nat}:∀ {parts:List (Nat × AV)}{vj:List (Nat × Value)}{rows cL:List (List AV)}{cs:Array Value},tV sz rows parts=some cL->zf g w sz rows cs ->
  Am (fun (p:Nat × AV) (q:Nat × Value)=>p.1=q.1/\aL g w p.2 q.2) parts vj->∃ cs',Instr.fill (fun i=>some (i*sz,sz)) cs vj=some cs'/\zf g w sz cL cs'/\cL.length=rows.length
 |[],_,rows,cL,cs,h,hl,hp=>by
  cases hp
  obtain rfl:=Option.some.inj h
  exact⟨cs,rfl,hl,rfl⟩
 |(i,a)::rest,_,rows,cL,cs,h,hl,hp=>by
  cases hp with
  |@cons _ q _ km hq kn =>
   obtain⟨j,x⟩:=q
   obtain⟨e,hx⟩:=hq
   simp only at e hx
   subst e
   simp only [tV] at h
   split at h
   ·rename_i hc
    simp only [Bool.and_eq_true] at hc
    obtain⟨⟨e1,e2⟩,e3⟩:=hc
    have e1:=Nat.eq_of_beq_eq_true e1
    have e2:i < rows.length:=Nat.le_of_ble_eq_true e2
    obtain⟨c1,c2,c3⟩:=nA e3 hx
    have f:=vi (i*sz) x.cells.toList 0 cs
    have xf:i*sz+sz<=rows.length*sz:=by
     have:=Nat.mul_le_mul_right sz (show i+1<=rows.length from e2)
     rwa [Nat.add_mul,Nat.one_mul] at this
    have en:i*sz+x.cells.size<=cs.size:=by rw [hl.1,c1,e1];exact xf
    have f2:=f.2 (by simpa using en)
    have nB:zf g w sz (rows.set i (a_ a)) ((x.cells.toList.zipIdx 0).foldl (fun cs (p:Value × Nat)=>cs.setIfInBounds (i*sz+p.2) p.1) cs):=by
     refine⟨by rw [f.1,hl.1];simp,fun i' bA iZ=>?_⟩
     by_cases e:i'=i
     ·subst e
      rw [List.getElem?_set_self e2] at iZ
      obtain rfl:=Option.some.inj iZ
      refine⟨e1,fun j' a' cC=>?_⟩
      have lZ:j' < (a_ a).length:=(List.getElem?_eq_some_iff.1 cC).1
      have iE:j' < x.cells.size:=by rw [c1];exact lZ
      refine⟨x.cells[j'],?_,c2 j' a' _ cC (Array.getElem?_eq_getElem iE)⟩
      rw [f2]
      simp only [Nat.add_zero,Array.length_toList,Array.getElem?_toList]
      rw [if_neg (by omega),if_pos (by omega),show i'*sz+j' - i'*sz=j' by omega]
      exact Array.getElem?_eq_getElem iE
     ·rw [List.getElem?_set_ne (Ne.symm e)] at iZ
      refine⟨(hl.2 i' bA iZ).1,fun j' a' cC=>?_⟩
      obtain⟨y,hy,yS⟩:=(hl.2 i' bA iZ).2 j' a' cC
      have lZ:j' < sz:=by rw [<-(hl.2 i' bA iZ).1];exact (List.getElem?_eq_some_iff.1 cC).1
      refine⟨y,?_,yS⟩
      rw [f2]
      simp only [Nat.add_zero,Array.length_toList,Array.getElem?_toList,c1,e1]
      rcases Nat.lt_or_gt_of_ne e with c|c
      ·have:=jQ c lZ
       rw [if_pos (by omega)]
       exact hy
      ·have:i*sz+sz<=i'*sz:=by
        have:=Nat.mul_le_mul_right sz (show i+1<=i' from c)
        rwa [Nat.add_mul,Nat.one_mul] at this
       rw [if_neg (by omega),if_neg (by omega)]
       exact hy
    obtain⟨cs',h1,h2,h3⟩:=xe h nB kn
    refine⟨cs',?_,h2,by rw [h3];simp⟩
    rw [<-h1]
    simp only [Instr.fill]
    rw [if_neg (by simp only [Bool.or_eq_true,decide_eq_true_eq,not_or];omega)]
    congr 1
    rw [<-Array.foldl_toList,Array.toList_zipIdx]
   ·cases h
theorem Li {g:Gh}{w:World}{zs:Array Value}{len:Nat}(h:0 < zs.size):zf g w zs.size (List.replicate len (zs.toList.map bV)) ((Array.range (len*zs.size)).map (zs[· % zs.size]!)):=by
 refine⟨by simp,fun i row hr=>?_⟩
 rw [List.getElem?_replicate] at hr
 split at hr
 ·rename_i hi
  obtain rfl:=Option.some.inj hr
  refine⟨by simp,fun j a ha=>?_⟩
  have hl:=mI.bV (g:=g) (w:=w) zs
  have hj:j < zs.size:=by have:=(List.getElem?_eq_some_iff.1 ha).1;simpa using this
  refine⟨zs[j],?_,hl.2 j a _ ha (Array.getElem?_eq_getElem hj)⟩
  have au:=jQ hi hj
  rw [Array.getElem?_map,Array.getElem?_range,if_pos au]
  have e:(i*zs.size+j) % zs.size=j:=by rw [Nat.mul_comm,Nat.mul_add_mod,Nat.mod_eq_of_lt hj]
  simp [e,hj]
 ·cases hr
theorem E2 {g:Gh}{w:World}{sz b c:Nat}{rows:List (List AV)}{cs:Array Value}{ty:TypeId}{ex:Bool}(h:zf g w sz rows cs) (hb:w.heap[b]?=some (.cells cs ty (0,0))) (hz:∀ q,g.fz b q) (hc:ex=true->c=rows.length) (hle:rows.length<=c) :
  aL g w (.sl ex rows) (.slice (some ⟨b,0,none⟩) rows.length c):=by
 cases rows with
 |nil=>exact .nil hc
 |cons r rs =>
  refine .sl (sz:=sz) (val:=fun i j=>cs.getD (i*sz+j) undef) (by simp) hc hle (fun i row hr=>(h.2 i row hr).1) (fun i j row a hr ha=>⟨hz _,?_⟩) (fun i j row a hr ha=>?_)
  ·obtain⟨x,hx,dO⟩:=(h.2 i row hr).2 j a ha
   rw [cell_of_row _ _ _ cs ty (0,0) hb,Nat.zero_add,hx]
   simp [Array.getD_eq_getD_getElem?,hx]
  ·obtain⟨x,hx,dO⟩:=(h.2 i row hr).2 j a ha
   simp only [Array.getD_eq_getD_getElem?,hx,Option.getD_some]
   exact dO
theorem AG {t e:TypeId}{len sz:Nat}{parts:Array (Nat × Operand)}{z:Value}{rows:List (List AV)}(ho:o.op=.buildSlice t len parts) (hu:P.underlying t=some (.slice e)) (hz:cY P e=some z) (hs:cS P e=some sz)
  (h1:len*sz<=16777216) (h2:z.cells.size=sz) (h3:0 < sz) (h:tV sz (List.replicate len (z.cells.toList.map bV)) (parts.toList.map fun (i,x)=>(i,α.ev x))=some rows):bg P w0 n o α S (.sl true rows) S:=by
 intro A g a w hS hA
 obtain⟨cs,hf,hr,hl⟩:=xe h (by rw [<-h2];exact Li (by omega)) (vk hA parts.toList)
 rw [List.length_replicate] at hl
 obtain⟨hE,cZ⟩:=hS.A5 (.cells cs e)
 refine⟨.slice (some ⟨w.heap.size,0,none⟩) len len,w.alloc (.cells cs e),g.A5 w.heap.size,.inl ?_,?_,cZ,hE⟩
 ·have DJ:¬ (len*sz > 2 ^ 24):=by omega
  rw [h2] at hf
  simp only [execOp,ho,Instr.buildSlice,Sem.run_bind,run_underlying hu,Result.andThen_ok,cP hs,if_neg DJ]
  by_cases c:len*sz=0
  ·have e0:∀ f:Nat->Value,(Array.range (len*sz)).map f=#[]:=fun f=>by rw [c];simp
   rw [e0] at hf
   have Wr:Instr.fill (fun i=>some (i*sz,sz)) ((Array.range (len*sz)).map fun x=>(#[]:Array Value)[x % (#[]:Array Value).size]!) (Array.map (fun x=>(x.fst,a.eval x.snd)) parts).toList=some cs:=by
    rw [e0,Array.toList_map]
    exact hf
   rw [if_pos c]
   simp only [Sem.run_bind,Sem.run_pure,Result.andThen_ok,Wr,newRow,run_newObj]
   rfl
  ·have Wr:Instr.fill (fun i=>some (i*sz,sz)) ((Array.range (len*sz)).map fun x=>z.cells[x % z.cells.size]!) (Array.map (fun x=>(x.fst,a.eval x.snd)) parts).toList=some cs:=by
    rw [Array.toList_map,h2]
    exact hf
   rw [if_neg c]
   simp only [Sem.run_bind,m7 hz,Sem.run_pure,Result.andThen_ok,Wr,newRow,run_newObj]
   rfl
 ·have:=E2 (ex:=true) (c:=rows.length) (b:=w.heap.size) (ty:=e) (g:=g.A5 w.heap.size) (w:=w.alloc (.cells cs e)) (sz:=sz) (rows:=rows) (cs:=cs)
   ⟨hr.1,fun i row hi=>⟨(hr.2 i row hi).1,fun j b hb=>let ⟨x,hx,dO⟩:=(hr.2 i row hi).2 j b hb;⟨x,hx,dO.later hE.toLater⟩⟩⟩ dy (fun q=>.inr rfl) (fun _=>rfl) (Nat.le_refl _)
  rwa [hl] at this
theorem T9 {g:Gh}{w:World}{ex:Bool}{rows:List (List AV)}{v:Value}{sz i:Nat}{row:List AV}(h:aL g w (.sl ex rows) v) (hl:∀ r ∈ rows,r.length=sz) (hi:rows[i]?=some row) :
  ∃ b q c,v=.slice (some ⟨b,q,none⟩) rows.length c/\aL g w (.ip row) (.pointer (some ⟨b,q+i*sz,none⟩)):=by
 cases h with
 |nil hc=>simp at hi
 |@sl _ _ b q sz' c val hn hc hle nB h hr =>
  have e:sz'=sz:=by
   have h1:=nB i row hi
   have h2:=hl row (List.mem_of_getElem? hi)
   omega
  subst e
  refine⟨b,q,c,rfl,.ip (val:=fun j=>val i j) (fun j a ha=>?_) (fun j a ha=>hr i j row a hi ha)⟩
  rw [Nat.add_assoc]
  exact h i j row a hi ha
theorem DK {β:Type}{rows:List β}{k:Int}{x:β}(h:idx rows k=some x):0<=k/\rows[k.toNat]?=some x/\k < rows.length:=by
 unfold idx at h
 split at h
 ·rename_i h0
  have:=(List.getElem?_eq_some_iff.1 h).1
  exact⟨h0,h,by omega⟩
 ·cases h
theorem E3 {t e:TypeId}{x y:Operand}{ex:Bool}{rows:List (List AV)}{k:IntKind}{i:Int}{sz:Nat}{row:List AV}(ho:o.op=.indexAddr t x y) (hu:P.underlying t=some (.slice e)) (hx:α.ev x=.sl ex rows) (hy:α.ev y=.v (.int k i))
  (hs:cS P e=some sz) (hi:idx rows i=some row) (hl:∀ r ∈ rows,r.length=sz):bg P w0 n o α S (.ip row) S :=
 bg.quiet fun A g q w hS hA=>by
  have h1:=hA.ev x
  have h2:=hA.ev y
  rw [hx] at h1
  rw [hy] at h2
  obtain⟨h0,hr,au⟩:=DK hi
  obtain⟨b,p,c,e1,xY⟩:=T9 h1 hl hr
  refine⟨_,?_,xY⟩
  simp only [execOp,ho,e1,cd h2,Instr.indexAt,asIntOf,Sem.run_bind,run_underlying hu,cP hs,Result.andThen_ok,Sem.run_pure]
  rw [if_pos ⟨h0,au⟩]
  simp [cP hs,fS]
theorem E4 {t e:TypeId}{x y:Operand}{k sz off len:Nat}{cx:Option Nat}{kd:IntKind}{i:Int}(ho:o.op=.indexAddr t x y) (hu:P.underlying t=some (.slice e)) (hx:α.ev x=.ob k sz off len cx) (hy:α.ev y=.v (.int kd i))
  (hs:cS P e=some sz) (h0:0<=i) (au:i < len):bg P w0 n o α S (.pt k sz (off+i.toNat) 0) S :=
 bg.quiet fun A g q w hS hA=>by
  have h1:=hA.ev x
  have h2:=hA.ev y
  rw [hx] at h1
  rw [hy] at h2
  obtain⟨v,hv⟩:∃ v,q.eval x=v:=⟨_,rfl⟩
  rw [hv] at h1
  cases h1 with
  |ob hk hc hp hxx hle =>
   have:=aL.pt (g:=g) (w:=w) (sz:=sz) (i:=off+i.toNat) (j:=0) hk
   refine⟨_,?_,this⟩
   simp only [execOp,ho,hv,cd h2,Instr.indexAt,asIntOf,Sem.run_bind,run_underlying hu,cP hs,Result.andThen_ok,Sem.run_pure]
   rw [if_pos ⟨h0,au⟩]
   simp [cP hs,fS,Nat.add_mul]
theorem AH {t e:TypeId}{x y:Operand}{k sz i j len m:Nat}{kd:IntKind}{q:Int}(ho:o.op=.indexAddr t x y) (hu:P.underlying t=some (.array len e)) (hx:α.ev x=.pt k sz i j) (hy:α.ev y=.v (.int kd q))
  (hs:cS P e=some m) (h0:0<=q) (au:q < len):bg P w0 n o α S (.pt k sz i (j+q.toNat*m)) S :=
 bg.quiet fun A g c w hS hA=>by
  have h1:=hA.ev x
  have h2:=hA.ev y
  rw [hx] at h1
  rw [hy] at h2
  obtain⟨v,hv⟩:∃ v,c.eval x=v:=⟨_,rfl⟩
  rw [hv] at h1
  cases h1 with
  |pt hk =>
   refine⟨_,?_,.pt hk⟩
   simp only [execOp,ho,hv,cd h2,Instr.indexAt,asIntOf,Instr.sureAddr,Sem.run_bind,run_underlying hu,cP hs,Result.andThen_ok,Sem.run_pure]
   rw [if_pos ⟨h0,au⟩]
   simp [cP hs,fS,Nat.add_assoc]
theorem AI {t e:TypeId}{x y:Operand}{row:List AV}{len m:Nat}{kd:IntKind}{q:Int}(ho:o.op=.indexAddr t x y) (hu:P.underlying t=some (.array len e)) (hx:α.ev x=.ip row) (hy:α.ev y=.v (.int kd q))
  (hs:cS P e=some m) (h0:0<=q) (au:q < len):bg P w0 n o α S (.ip (row.drop (q.toNat*m))) S :=
 bg.quiet fun A g c w hS hA=>by
  have h1:=hA.ev x
  have h2:=hA.ev y
  rw [hx] at h1
  rw [hy] at h2
  obtain⟨b,p,e1,_⟩:=xW h1
  rw [e1] at h1
  refine⟨_,?_,DH h1 _⟩
  simp only [execOp,ho,e1,cd h2,Instr.indexAt,asIntOf,Instr.sureAddr,Sem.run_bind,run_underlying hu,cP hs,Result.andThen_ok,Sem.run_pure]
  rw [if_pos ⟨h0,au⟩]
  simp [cP hs,fS]
theorem DL {t:TypeId}{x y:Operand}{s:ByteArray}{k:IntKind}{i:Int}{b:UInt8}(ho:o.op=.index t x y) (hu:P.underlying t=some .string) (hx:α.ev x=.v (.string s)) (hy:α.ev y=.v (.int k i)) (hi:idx s.data.toList i=some b) :
  bg P w0 n o α S (.v (.int .u8 b.toNat)) S :=
 bg.quiet fun A g q w hS hA=>by
  have h1:=hA.ev x
  have h2:=hA.ev y
  rw [hx] at h1
  rw [hy] at h2
  obtain⟨h0,hr,au⟩:=DK hi
  refine⟨_,?_,.v⟩
  have bI:i.toNat < s.size:=by
   have:=(List.getElem?_eq_some_iff.1 hr).1
   simpa using this
  have e:s[i.toNat]?=some b:=by
   rw [getElem?_pos s i.toNat bI]
   have Ws:s.data[i.toNat]?=some b:=by rw [<-Array.getElem?_toList];exact hr
   rw [Array.getElem?_eq_getElem (by simpa using bI)] at Ws
   exact Ws
  simp only [execOp,ho,cd h1,cd h2,Instr.index,asIntOf,Sem.run_bind,run_underlying hu,Result.andThen_ok,Sem.run_pure,if_pos h0,e]
theorem DM {t e:TypeId}{x y:Operand}{l:List AV}{len m:Nat}{kd:IntKind}{q:Int}(ho:o.op=.index t x y) (hu:P.underlying t=some (.array len e)) (hx:α.ev x=.agg l) (hy:α.ev y=.v (.int kd q))
  (hs:cS P e=some m) (h:lS P e l (q.toNat*m)=some r) (h0:0<=q) (au:q < len):bg P w0 n o α S r S :=
 bg.quiet fun A g c w hS hA=>by
  have h1:=hA.ev x
  have h2:=hA.ev y
  rw [hx] at h1
  rw [hy] at h2
  obtain⟨cs,e1,hl⟩:=AF h1
  obtain⟨v,h3,h4⟩:=ze (w:=w) h hl
  refine⟨v,?_,h4⟩
  simp only [execOp,ho,e1,cd h2,Instr.index,asIntOf,Sem.run_bind,run_underlying hu,Result.andThen_ok,Sem.run_pure]
  rw [if_pos ⟨h0,au⟩]
  simp [cP hs,h3]
theorem DN {g:Gh}{w:World}{a:AV}{v:Value}{m:Nat}(h:l_ a=some m) (hr:aL g w a v):(∃ A c,v=.slice A m c)\/∃ s,v=.string s/\s.size=m:=by
 unfold l_ at h
 split at h
 ·obtain rfl:=Option.some.inj h
  cases hr with
  |nil=>exact .inl ⟨_,_,rfl⟩
  |sl=>exact .inl ⟨_,_,rfl⟩
 ·obtain rfl:=Option.some.inj h
  cases hr with
  |ob=>exact .inl ⟨_,_,rfl⟩
 ·obtain rfl:=Option.some.inj h
  cases hr with
  |v=>exact .inr ⟨_,rfl,rfl⟩
 ·cases h
theorem toList_one {α:Type}{l:Array α}{x:α}(h:l.toList=[x]):l=#[x]:=by cases l;simp at h;rw [h]
theorem toList_two {α:Type}{l:Array α}{x y:α}(h:l.toList=[x,y]):l=#[x,y]:=by cases l;simp at h;rw [h]
theorem F4 {c:Call}{t:TypeId}{a:AV}{m:Nat}{d:TypeDesc}(ho:o.op=.call c) (hc:c.callee=.builtin .len) (ht:c.argTypes=#[t]) {x:Operand}(bD:c.args=#[x]) (hx:α.ev x=a) (hm:l_ a=some m) (hu:P.underlying t=some d)
  (hd:(∃ e,d=.slice e/\∀ s,a ≠ .v (.string s))\/(d=.string/\∃ s,a=.v (.string s))):bg P w0 n o α S (.v (.int .i64 (m:Int))) S :=
 bg.quiet fun A g q w hS hA=>by
  have h1:=hA.ev x
  rw [hx] at h1
  refine⟨_,?_,.v⟩
  rcases hd with ⟨e,rfl,bH⟩|⟨rfl,s,rfl⟩
  ·rcases DN hm h1 with ⟨B,k,hv⟩|⟨s,hv,_⟩
   ·simp [execOp,ho,resolve,hc,bD,ht,hv,invoke,builtin,Builtin.len_,run_underlying hu,goInt]
   ·exfalso
    rw [hv] at h1
    unfold l_ at hm
    split at hm
    ·cases h1
    ·cases h1
    ·exact bH _ rfl
    ·cases hm
  ·have hv:=cd h1
   simp only [l_,Option.some.injEq] at hm
   subst hm
   simp [execOp,ho,resolve,hc,bD,ht,hv,invoke,builtin,Builtin.len_,run_underlying hu,goInt]
theorem T_ {c:Call}{k:IntKind}{i j:Int}(ho:o.op=.call c) (hc:c.callee=.builtin .min) {x y:Operand}(bD:c.args=#[x,y]) (hx:α.ev x=.v (.int k i)) (hy:α.ev y=.v (.int k j)):bg P w0 n o α S (.v (.int k (min i j))) S :=
 bg.quiet fun A g q w hS hA=>by
  have h1:=hA.ev x
  have h2:=hA.ev y
  rw [hx] at h1
  rw [hy] at h2
  refine⟨_,?_,.v⟩
  have:(if j < i then j else i)=min i j:=by omega
  simp [execOp,ho,resolve,hc,bD,cd h1,cd h2,invoke,builtin,Builtin.min_,Builtin.min2,this]
theorem Ua {c:Call}{k:IntKind}{i j:Int}(ho:o.op=.call c) (hc:c.callee=.builtin .max) {x y:Operand}(bD:c.args=#[x,y]) (hx:α.ev x=.v (.int k i)) (hy:α.ev y=.v (.int k j)):bg P w0 n o α S (.v (.int k (max i j))) S :=
 bg.quiet fun A g q w hS hA=>by
  have h1:=hA.ev x
  have h2:=hA.ev y
  rw [hx] at h1
  rw [hy] at h2
  refine⟨_,?_,.v⟩
  have:(if j > i then j else i)=max i j:=by omega
  simp [execOp,ho,resolve,hc,bD,cd h1,cd h2,invoke,builtin,Builtin.max_,Builtin.max2,this]
end
section
variable {P:Program}{w0:World}{n:Nat}{o:Oper}{α:AA}{S S':ae}{r:AV}
theorem DO {rows:List (List AV)}{sz:Nat}(h:∀ r ∈ rows,r.length=sz):rows.flatten.length=rows.length*sz:=by
 induction rows with
 |nil=>simp
 |cons r rs ih =>
  rw [List.flatten_cons,List.length_append,ih (fun x hx=>h x (by simp [hx])),h r (by simp),List.length_cons,Nat.add_mul,Nat.one_mul,Nat.add_comm]
theorem DP {sz j:Nat}:∀ {rows:List (List AV)}{i:Nat}{row:List AV},(∀ r ∈ rows,r.length=sz)->rows[i]?=some row->j < sz->rows.flatten[i*sz+j]?=row[j]?
 |[],i,row,_,hi,_=>by simp at hi
 |r::rs,0,row,h,hi,hj=>by
  simp at hi
  subst hi
  rw [List.flatten_cons,List.getElem?_append_left (by rw [h r (by simp)];omega)]
  simp
 |r::rs,i+1,row,h,hi,hj=>by
  simp at hi
  have hr:=h r (by simp)
  rw [List.flatten_cons,List.getElem?_append_right (by rw [hr,Nat.add_mul];omega),hr,show (i+1)*sz+j - sz=i*sz+j by rw [Nat.add_mul];omega]
  exact DP (fun x hx=>h x (by simp [hx])) hi hj
theorem DQ {sz:Nat}:∀ {rows:List (List AV)}{q:Nat}{a:AV},(∀ r ∈ rows,r.length=sz)->rows.flatten[q]?=some a->∃ i j row,rows[i]?=some row/\row[j]?=some a/\q=i*sz+j
 |[],q,a,_,hq=>by simp at hq
 |r::rs,q,a,h,hq=>by
  have hr:=h r (by simp)
  by_cases c:q < sz
  ·rw [List.flatten_cons,List.getElem?_append_left (by omega)] at hq
   exact⟨0,q,r,rfl,hq,by omega⟩
  ·rw [List.flatten_cons,List.getElem?_append_right (by omega),hr] at hq
   obtain⟨i,j,row,h1,h2,h3⟩:=DQ (fun x hx=>h x (by simp [hx])) hq
   exact⟨i+1,j,row,h1,h2,by rw [Nat.add_mul];omega⟩
def Src (g:Gh) (w:World) (sz:Nat) (rows:List (List AV)) (a:Addr) (news:List Value):Prop :=
 news.length=rows.length*sz/\(∀ j u,news[j]?=some u->w.cell? (a.add j)=some u)/\∀ (i:Nat) (row:List AV),rows[i]?=some row->∀ (j:Nat) (a:AV),row[j]?=some a->∃ x,news[i*sz+j]?=some x/\aL g w a x
theorem nM {g:Gh}{w:World}{sz b q:Nat}{rows:List (List AV)}(hl:∀ r ∈ rows,r.length=sz) (h:∀ (i j:Nat) (row:List AV) (a:AV),rows[i]?=some row->row[j]?=some a->∃ x,w.cell? ⟨b,q+(i*sz+j),none⟩=some x/\aL g w a x) :
  ∃ news,Src g w sz rows ⟨b,q,none⟩ news:=by
 obtain⟨cs,h1,h2,h3⟩:=Cells.list (g:=g) (w:=w) (b:=b) (row:=rows.flatten) (o:=q) (fun p a ha=>by
  obtain⟨i,j,row,hi,hj,e⟩:=DQ hl ha
  rw [e]
  exact h i j row a hi hj)
 refine⟨cs,h1.trans (DO hl),fun j u hu=>by rw [fS];exact h2 j u hu,fun i row hi j a ha=>?_⟩
 have hj:j < sz:=by rw [<-hl row (List.mem_of_getElem? hi)];exact (List.getElem?_eq_some_iff.1 ha).1
 have hf:=DP hl hi hj
 have au:i*sz+j < cs.length:=by rw [h1,DO hl];exact jQ (List.getElem?_eq_some_iff.1 hi).1 hj
 exact⟨cs[i*sz+j],List.getElem?_eq_getElem au,h3 _ a _ (hf.trans ha) (List.getElem?_eq_getElem au)⟩
theorem gA {g:Gh}{w:World}{k sz off len:Nat}{cx:Option Nat}{v:Value}(h:aL g w (.ob k sz off len cx) v):∃ c,v=.slice (some ⟨g.ob k,off*sz,none⟩) len c/\g.al k/\(∀ m,cx=some m->c=m)/\off+c<=g.cp k/\(cx=none->off+c=g.cp k)/\len<=c:=by
 cases h with
 |ob hk hc hp hx hle=>exact⟨_,rfl,hk,hc,hp,hx,hle⟩
theorem pC {β:Type}{rows:List β}{off len i:Nat}{row:β}(h:((rows.drop off).take len)[i]?=some row):i < len/\rows[off+i]?=some row:=by
 rw [List.getElem?_take] at h
 split at h
 ·rename_i hi
  rw [List.getElem?_drop] at h
  exact⟨hi,h⟩
 ·cases h
theorem lU {A:Nat->Prop}{g:Gh}{w:World}{a:AV}{v:Value}{rows:List (List AV)}{sz:Nat}(hS:St w0 A g S w) (h:rowsOf S a=some rows) (hr:aL g w a v) (hn:rows ≠ []) (hl:∀ r ∈ rows,r.length=sz) (hlen:l_ a=some rows.length) :
  ∃ b q c news,v=.slice (some ⟨b,q,none⟩) rows.length c/\rows.length<=c/\Src g w sz rows ⟨b,q,none⟩ news:=by
 unfold rowsOf at h
 split at h
 ·rename_i ex cL
  obtain rfl:=Option.some.inj h
  cases hr with
  |nil=>exact absurd rfl hn
  |@sl _ _ b q sz' c val Vv hc hle nB h1 h2 =>
   have e:sz'=sz:=by
    obtain⟨r0,rs,rfl⟩:=List.exists_cons_of_ne_nil hn
    have h3:=nB 0 r0 rfl
    have h4:=hl r0 (by simp)
    omega
   subst e
   obtain⟨news,hs⟩:=nM (g:=g) (w:=w) (b:=b) (q:=q) hl (fun i j row a hi hj=>⟨_,(h1 i j row a hi hj).2,h2 i j row a hi hj⟩)
   exact⟨b,q,c,news,rfl,hle,hs⟩
 ·rename_i k sz' off len cx
  split at h
  ·rename_i gn cL fz ex hk
   split at h
   ·rename_i bI
    have bI:=Nat.eq_of_beq_eq_true bI
    subst bI
    obtain rfl:=Option.some.inj h
    obtain⟨c,rfl,bG,hc,hp,hx,hle⟩:=gA hr
    obtain⟨k2,k3,cs,ty,h1,h2,h3,h4,h5,h6,h7⟩:=hS.cH k _ hk bG
    have e:sz'=sz:=by
     obtain⟨r0,rs,e0⟩:=List.exists_cons_of_ne_nil hn
     have h8:((cL.drop off).take len)[0]?=some r0:=by rw [e0];rfl
     have h9:=(h5 _ r0 (pC h8).2).1
     have P8:=hl r0 (by rw [e0];simp)
     omega
    subst e
    obtain⟨news,hs⟩:=nM (g:=g) (w:=w) (b:=g.ob k) (q:=off*sz') hl (fun i j row a hi hj=>by
     obtain⟨x,fO,aQ⟩:=(h5 _ row (pC hi).2).2 j a hj
     refine⟨x,?_,aQ⟩
     rw [cell_of_row _ _ _ cs ty (0,0) h1,<-fO,Nat.add_mul,Nat.add_assoc])
    have e2:len=((cL.drop off).take len).length:=by simpa [l_] using hlen
    exact⟨_,_,c,news,by rw [<-e2],by rw [<-e2];exact hle,hs⟩
   ·cases h
  ·cases h
 ·cases h
theorem nG {g:Gh}{w:World}{a:AV}{v:Value}(hlen:l_ a=some 0) (h:rowsOf S a=some []) (hr:aL g w a v):∃ B c,v=.slice B 0 c:=by
 rcases DN hlen hr with ⟨B,c,e⟩|⟨s,e,_⟩
 ·exact⟨B,c,e⟩
 ·rw [e] at hr
  cases hr with
  |v=>simp [rowsOf] at h
  |u=>simp [rowsOf] at h
theorem nH {t t2 ty e e2:TypeId}{w:World}{x y:Value}(ht:P.underlying t=some (.slice e)) (fh:P.underlying t2=some (.slice e2)):(Builtin.append_ #[t,t2] ty #[x,y]).run P w=(Builtin.append_ #[t,t] ty #[x,y]).run P w:=by
 simp only [Builtin.append_,List.getElem?_toArray,List.getElem?_cons_zero,List.getElem?_cons_succ,Sem.run_bind,run_underlying ht,run_underlying fh,Result.andThen_ok]
 cases x<;>first|rfl|simp only [Sem.run_bind,run_underlying ht,run_underlying fh,Result.andThen_ok,Sem.run_pure]
theorem rj (w:World) (t ty e mi:TypeId) (i:TypeInfo) (ht:P.underlying t=some (.slice e)) (hi:P.info? e=some i)
  (g q yb sCap:Nat) (cur:Array Value) (hg:w.heap[g]?=some (.cells cur mi (0,0)))
  (a:Addr) (m c:Nat) (news:List Value) (hl:news.length=m*i.size) (p_:∀ j u,news[j]?=some u->w.cell? (a.add j)=some u) (h1:∀ u ∈ news,u.oneCell'=true)
  (qc:yb+m<=sCap) (en:q+yb*i.size+news.length<=cur.size) :
  (Builtin.append_ #[t,t] ty #[.slice (some ⟨g,q,none⟩) yb sCap,.slice (some a) m c]).run P w =
   .ok (.slice (some ⟨g,q,none⟩) (yb+m) sCap) (w.setRow g (cur.toList.take (q+yb*i.size)++news++cur.toList.drop (q+yb*i.size+news.length)).toArray):=by
 have hf:=run_firstCells_some (P:=P) w i.size m a m c news hl p_
 have jI:=run_storeCells_at P g (q+yb*i.size) mi news 0 cur w hg (by simpa using en) h1
 simp only [Nat.add_zero] at jI
 simp [Builtin.append_,run_underlying ht,sizeOf,typeInfo,hi,Builtin.lenOf,qc,hf,fS,jI]
theorem xg {g:Gh}{w:World}{sz:Nat}{b b2:Addr}{rows more:List (List AV)}{gD news:List Value}{rest:Array Value}(h1:Src g w sz rows b gD) (h2:Src g w sz more b2 news) (hl:∀ r ∈ rows,r.length=sz) (ef:∀ r ∈ more,r.length=sz) :
  ∀ (i:Nat) (row:List AV),(rows++more)[i]?=some row->row.length=sz/\∀ (j:Nat) (a:AV),row[j]?=some a->∃ x,(gD.toArray++news.toArray++rest)[i*sz+j]?=some x/\aL g w a x:=by
 intro i row hi
 refine⟨?_,fun j a ha=>?_⟩
 ·have:=List.mem_of_getElem? hi
  rcases List.mem_append.1 this with h|h
  ·exact hl _ h
  ·exact ef _ h
 ·have hj:∀ hm:row.length=sz,j < sz:=fun hm=>by rw [<-hm];exact (List.getElem?_eq_some_iff.1 ha).1
  by_cases c:i < rows.length
  ·rw [List.getElem?_append_left c] at hi
   obtain⟨x,hx,hr⟩:=h1.2.2 i row hi j a ha
   refine⟨x,?_,hr⟩
   have au:=(List.getElem?_eq_some_iff.1 hx).1
   rw [Array.append_assoc,Array.getElem?_append_left (by simpa using au)]
   simpa using hx
  ·rw [List.getElem?_append_right (by omega)] at hi
   obtain⟨x,hx,hr⟩:=h2.2.2 _ row hi j a ha
   refine⟨x,?_,hr⟩
   have au:=(List.getElem?_eq_some_iff.1 hx).1
   have e:i*sz=rows.length*sz+(i - rows.length)*sz:=by rw [<-Nat.add_mul];congr 1;omega
   rw [Array.getElem?_append_left (by simp [h1.1];omega),Array.getElem?_append_right (by simp [h1.1];omega)]
   simp only [List.size_toArray,h1.1,List.getElem?_toArray]
   rw [show i*sz+j - rows.length*sz=(i - rows.length)*sz+j by omega]
   exact hx
theorem uh {A:Nat->Prop}{g:Gh}{w:World}{t t2 ty e e2:TypeId}{z:Value}{sz by_:Nat}(hS:St w0 A g S w) (ht:P.underlying t=some (.slice e)) (fh:P.underlying t2=some (.slice e2)) (hz:cY P e=some z) (hs:cS P e=some sz) (j4:gm P e=some by_) (ld:z.cells.size=sz)
  {rows more:List (List AV)}{B:Option Addr}{sCap:Nat}{b2 q2 c2:Nat}{news:List Value}(hold:(B=none/\rows=[]/\sCap=0)\/∃ b gD,B=some b/\Src g w sz rows b gD) (mM:Src g w sz more ⟨b2,q2,none⟩ news) (hl:∀ r ∈ rows,r.length=sz) (ef:∀ r ∈ more,r.length=sz)
  (hn:more ≠ []) (hg:sCap < rows.length+more.length) (en:(rows.length+more.length)*by_<=35184372088832) (gj:0 < by_) :
  ∃ v w' g',(Builtin.append_ #[t,t2] ty #[.slice B rows.length sCap,.slice (some ⟨b2,q2,none⟩) more.length c2]).run P w=.ok v w'/\aL g' w' (.ob S.nx sz 0 (rows.length+more.length) none) v/\St w0 A g' (S.new (.arr sz (rows++more) 0 false)) w'/\Ext A g w g' w':=by
 obtain⟨i,hi,bI⟩:=iI hs
 have pK:i.zero=some z:=by unfold cY at hz;rw [hi] at hz;simpa using hz
 have Bn:i.bytes=by_:=by unfold gm at j4;rw [hi] at j4;simpa using j4
 have Rg:0 < more.length:=List.length_pos_iff.2 hn
 have hmul:rows.length+more.length<=35184372088832:=Nat.le_trans (Nat.le_mul_of_pos_right _ gj) en
 have vF:=grownCap_ge w (rows.length+more.length) sCap e
 obtain⟨gD,sc,cu⟩:∃ gD:List Value,(∀ rest,∀ (i:Nat) (row:List AV),(rows++more)[i]?=some row->row.length=sz/\∀ (j:Nat) (a:AV),row[j]?=some a->∃ x,(gD.toArray++news.toArray++rest)[i*sz+j]?=some x/\aL g w a x) /\
   (gD.length=rows.length*sz/\(Builtin.append_ #[t,t] ty #[.slice B rows.length sCap,.slice (some ⟨b2,q2,none⟩) more.length c2]).run P w =
   .ok (.slice (some ⟨w.heap.size,0,none⟩) (rows.length+more.length) (grownCap w (rows.length+more.length) sCap e)) (w.drew.alloc (.cells (gD.toArray++news.toArray++Builtin.zeroCells z.cells (grownCap w (rows.length+more.length) sCap e - (rows.length+more.length))) e))):=by
  rcases hold with ⟨rfl,rfl,rfl⟩|⟨b,gD,rfl,ho⟩
  ·refine⟨[],fun rest=>xg (b:=⟨0,0,none⟩) ⟨by simp,fun j u hu=>by simp at hu,fun i row hi=>by simp at hi⟩ mM hl ef,by simp,?_⟩
   have:=run_append_nil (P:=P) w t ty e i z ht hi pK ⟨b2,q2,none⟩ more.length c2 news (by rw [mM.1,bI]) mM.2.1 Rg (by omega) (by rw [Bn];simp at en;omega)
   simpa using this
  ·refine⟨gD,fun rest=>xg ho mM hl ef,ho.1,?_⟩
   have Wi:=Go.Room.nextslicecap_le' hg
   exact run_append_grow (P:=P) w t ty e i z ht hi pK b rows.length sCap gD (by rw [ho.1,bI]) ho.2.1 ⟨b2,q2,none⟩ more.length c2 news (by rw [mM.1,bI]) mM.2.1 hg (by omega)
    (Nat.le_trans (Nat.mul_le_mul_right _ Wi) (by rw [Bn,Nat.mul_assoc];omega))
 obtain⟨hlen,cu⟩:=cu
 obtain⟨Rh,Wl⟩:=hS.drew
 have ri:∀ q,¬ g.fz w.heap.size q:=fun q hf=>absurd (hS.cK _ _ hf) (Nat.lt_irrefl _)
 obtain⟨hE,cZ⟩:=Wl.new (.cells (gD.toArray++news.toArray++Builtin.zeroCells z.cells (grownCap w (rows.length+more.length) sCap e - (rows.length+more.length))) e) (.arr sz (rows++more) 0 false) (grownCap w (rows.length+more.length) sCap e) (fun J=>by simp) (fun hL=>by
  refine⟨_,e,dy,?_,by simpa using vF,fun h=>by simp at h,fun i row hr=>⟨(sc #[] i row hr).1,fun j a ha=>?_⟩,Nat.zero_le _,fun q=>⟨fun h=>absurd h (ri q),fun h=>by simp at h⟩⟩
  ·simp only [Array.size_append,List.size_toArray,hlen,mM.1,size_zeroCells,ld]
   rw [<-Nat.add_mul,<-Nat.add_mul]
   congr 1
   omega
  ·obtain⟨x,hx,dO⟩:=(sc _ i row hr).2 j a ha
   exact⟨x,hx,(dO.later Rh.toLater).later hL⟩)
 refine⟨_,_,_,(nH ht fh).trans cu,?_,cZ,Rh.trans hE⟩
 have:=aL.ob (g:=g.new S.nx w.drew.heap.size (grownCap w (rows.length+more.length) sCap e)) (w:=w.drew.alloc (.cells (gD.toArray++news.toArray++Builtin.zeroCells z.cells (grownCap w (rows.length+more.length) sCap e - (rows.length+more.length))) e))
  (k:=S.nx) (sz:=sz) (off:=0) (len:=rows.length+more.length) (c:=grownCap w (rows.length+more.length) sCap e) (cx:=none) (.inr rfl) (fun m h=>by cases h) (by rw [Nat.zero_add];exact Nat.le_of_eq (aG _ _ _).symm) (fun _=>by rw [Nat.zero_add];exact (aG _ _ _).symm) vF
 rw [show (g.new S.nx w.drew.heap.size (grownCap w (rows.length+more.length) sCap e)).ob S.nx=w.heap.size from aG _ _ _,Nat.zero_mul] at this
 exact this
theorem St.rename {A:Nat->Prop}{g:Gh}{w:World}{k:Nat}{ob:Ob}(hS:St w0 A g S w) (hk:S.get k=some ob) (ha:g.al k) (uS:∀ J,ob ≠ .fo J):Ext A g w (g.new S.nx (g.ob k) (g.cp k)) w/\St w0 A (g.new S.nx (g.ob k) (g.cp k)) ((S.set k none).new ob) w:=by
 have bH:∀ j,g.al j->j ≠ S.nx:=fun j hj e=>absurd (hS.al j hj) (by omega)
 have jw:∀ j,g.al j->(g.new S.nx (g.ob k) (g.cp k)).ob j=g.ob j:=fun j hj=>aN _ _ (bH j hj)
 have CA:∀ j,g.al j->(g.new S.nx (g.ob k) (g.cp k)).cp j=g.cp j:=fun j hj=>aN _ _ (bH j hj)
 have e1:(g.new S.nx (g.ob k) (g.cp k)).ob S.nx=g.ob k:=aG _ _ _
 have e2:(g.new S.nx (g.ob k) (g.cp k)).cp S.nx=g.cp k:=aG _ _ _
 have hL:Later g w (g.new S.nx (g.ob k) (g.cp k)) w:=⟨fun j hj=>.inl hj,jw,CA,fun _ _ h=>h,fun _ _ _=>rfl⟩
 have hE:Ext A g w (g.new S.nx (g.ob k) (g.cp k)) w:={ hL with size:=Nat.le_refl _,aT:=fun _ _ _=>rfl,gH:=fun _ _ h=>.inl h }
 have key:∀ j p,((S.set k none).new ob).get j=some p->(j=S.nx/\p=ob)\/(j ≠ S.nx/\j ≠ k/\S.get j=some p):=by
  intro j p hj
  have hj:bP (bP S.get k none) S.nx (some ob) j=some p:=hj
  by_cases c:j=S.nx
  ·subst c
   rw [aG] at hj
   exact .inl ⟨rfl,(Option.some.inj hj).symm⟩
  ·rw [aN _ _ c] at hj
   by_cases d:j=k
   ·subst d
    rw [aG] at hj
    cases hj
   ·rw [aN _ _ d] at hj
    exact .inr ⟨c,d,hj⟩
 obtain⟨k2,k3,k4⟩:=hS.cH k ob hk ha
 refine⟨hE,hS.next hE rfl rfl rfl (fun j hj=>hj.elim (fun h=>Nat.lt_succ_of_lt (hS.al j h)) fun e=>by rw [e];exact Nat.lt_succ_self _) (fun j p hj aj=>?_) (fun i j p q hi hj ai aj e=>?_) hS.cK rfl (fun j J hj aj=>(key j _ hj).elim (fun e=>absurd e.2.symm (uS J)) fun e=>⟨e.2.2,aj.resolve_right e.1⟩) (fun j p hj aj=>.inr ((key j p hj).elim (fun e=>⟨k,ob,ha,hk,by rw [e.1];exact e1,.inr uS⟩) fun e=>⟨j,p,aj.resolve_right e.1,e.2.2,jw j (aj.resolve_right e.1),.inl rfl⟩))⟩
 ·rcases key j p hj with ⟨rfl,rfl⟩|⟨c,d,lZ⟩
  ·rw [e1,e2]
   exact⟨k2,k3,k4.later hL rfl (fun _ h=>h) fun J hJ=>absurd hJ (uS J)⟩
  ·have zg:g.al j:=aj.resolve_right c
   obtain⟨h2,h3,h4⟩:=hS.cH j p lZ zg
   rw [jw j zg,CA j zg]
   exact⟨h2,h3,h4.later hL rfl (fun _ h=>h) fun _ _=>⟨rfl,Nat.le_refl _,fun _ _=>rfl,fun _ _ _ h=>h⟩⟩
 ·rcases key i p hi with ⟨rfl,rfl⟩|⟨c,d,gY⟩<;>rcases key j q hj with ⟨rfl,rfl⟩|⟨c',d',lZ⟩
  ·rfl
  ·have zg:g.al j:=aj.resolve_right c'
   rw [e1,jw j zg] at e
   exact absurd (hS.inj k j _ q hk lZ ha zg e) (Ne.symm d')
  ·have Lj:g.al i:=ai.resolve_right c
   rw [e1,jw i Lj] at e
   exact absurd (hS.inj i k p _ gY hk Lj ha e) d
  ·have Lj:g.al i:=ai.resolve_right c
   have zg:g.al j:=aj.resolve_right c'
   rw [jw i Lj,jw j zg] at e
   exact hS.inj i j p q gY lZ Lj zg e
end
section
variable {P:Program}{w0:World}{n:Nat}{o:Oper}{α:AA}{S S':ae}{r:AV}
theorem x7 {g:Gh}{w:World}{sz b q:Nat}{more:List (List AV)}{news:List Value}(h:Src g w sz more ⟨b,q,none⟩ news) (hc:∀ row ∈ more,row.length=sz/\row.all cn=true):∀ u ∈ news,u.oneCell'=true:=by
 intro u hu
 obtain⟨p,hp⟩:=List.getElem?_of_mem hu
 have au:=(List.getElem?_eq_some_iff.1 hp).1
 rw [h.1] at au
 have bI:0 < sz:=by
  rcases Nat.eq_zero_or_pos sz with e|e
  ·rw [e] at au;simp at au
  ·exact e
 have hi:p / sz < more.length:=Nat.div_lt_of_lt_mul (by rw [Nat.mul_comm];exact au)
 have hj:p % sz < sz:=Nat.mod_lt _ bI
 have iJ:=List.getElem?_eq_getElem hi
 obtain⟨hl,lx⟩:=hc _ (List.getElem_mem hi)
 have lZ:p % sz < (more[p / sz]).length:=by omega
 have ha:=List.getElem?_eq_getElem lZ
 obtain⟨x,hx,hr⟩:=h.2.2 _ _ iJ _ _ ha
 rw [Nat.div_add_mod' p sz,hp] at hx
 obtain rfl:=Option.some.inj hx
 exact pZ (List.all_eq_true.1 lx _ (List.getElem_mem lZ)) hr
theorem DR {A:Nat->Prop}{g:Gh}{w:World}{t t2 ty e e2:TypeId}{sz k len c b2 q2 c2:Nat}{rows more:List (List AV)}{fz:Nat}{ex:Bool}{news:List Value}(hS:St w0 A g S w) (ht:P.underlying t=some (.slice e)) (fh:P.underlying t2=some (.slice e2)) (hs:cS P e=some sz)
  (hk:S.get k=some (.arr sz rows fz ex)) (ha:g.al k) (m8:c=g.cp k) (Lk:len<=c) (pL:fz<=len) (hlen:len<=rows.length) (mM:Src g w sz more ⟨b2,q2,none⟩ news) (ef:∀ row ∈ more,row.length=sz/\row.all cn=true) (qc:len+more.length<=c) :
  ∃ v w' g',(Builtin.append_ #[t,t2] ty #[.slice (some ⟨g.ob k,0,none⟩) len c,.slice (some ⟨b2,q2,none⟩) more.length c2]).run P w=.ok v w'/\aL g' w' (.ob S.nx sz 0 (len+more.length) none) v/\St w0 A g' ((S.set k none).new (.arr sz (rows.take len++more) fz false)) w'/\Ext A g w g' w':=by
 obtain⟨i,hi,bI⟩:=iI hs
 obtain⟨k2,k3,cs,mi,h1,h2,h3,h4,h5,h6,h7⟩:=hS.cH k _ hk ha
 have hm:len*sz+more.length*sz<=g.cp k*sz:=by rw [<-Nat.add_mul];exact Nat.mul_le_mul_right sz (by omega)
 have en:0+len*i.size+news.length<=cs.size:=by rw [mM.1,h2,bI];omega
 have cu:=rj (P:=P) w t ty e mi i ht hi (g.ob k) 0 len c cs h1 ⟨b2,q2,none⟩ more.length c2 news (by rw [mM.1,bI]) mM.2.1 (x7 mM ef) qc en
 simp only [Nat.zero_add,bI] at cu en
 obtain⟨cs',oz⟩:∃ cs',cs'=(cs.toList.take (len*sz)++news++cs.toList.drop (len*sz+news.length)).toArray:=⟨_,rfl⟩
 rw [<-oz] at cu
 have kl:∀ q,cs'[q]?=if q < len*sz then cs[q]? else if q < len*sz+news.length then news[q - len*sz]? else cs[q]?:=by
  intro q
  rw [oz,List.getElem?_toArray,qt _ _ _ (by simpa using en)]
  simp only [Array.getElem?_toList]
 have Hp:cs'.size=cs.size:=by
  rw [oz]
  simp
  omega
 have Wt:len*sz<=rows.length*sz:=Nat.mul_le_mul_right sz hlen
 obtain⟨hE,cZ⟩:=hS.row hk ha h1 (cs':=cs') (ob:=.arr sz (rows.take len++more) fz false) (fun J=>⟨by simp,by simp⟩) (fun q hq=>by
  rw [kl]
  rw [if_pos (Nat.lt_of_lt_of_le ((h7 q).1 hq) (Nat.mul_le_mul_right sz pL))]) (fun hL=>by
  refine⟨cs',mi,setRow_heap w _ cs cs' mi (0,0) h1,Hp.trans h2,by simp;omega,fun h=>by simp at h,fun i row hr=>?_,by simp;omega,h7⟩
  ·by_cases c1:i < len
   ·rw [List.getElem?_append_left (by simp;omega),List.getElem?_take,if_pos c1] at hr
    refine⟨(h5 i row hr).1,fun j a cC=>?_⟩
    obtain⟨x,hx,dO⟩:=(h5 i row hr).2 j a cC
    have hj:j < sz:=by rw [<-(h5 i row hr).1];exact (List.getElem?_eq_some_iff.1 cC).1
    exact⟨x,by rw [kl,if_pos (jQ c1 hj)];exact hx,dO.later hL⟩
   ·rw [List.getElem?_append_right (by simp;omega)] at hr
    have e1:min len rows.length=len:=by omega
    simp only [List.length_take,e1] at hr
    have gZ:=(ef row (List.mem_of_getElem? hr)).1
    refine⟨gZ,fun j a cC=>?_⟩
    obtain⟨x,hx,dO⟩:=mM.2.2 _ row hr j a cC
    have au:=(List.getElem?_eq_some_iff.1 hx).1
    have e:i*sz=len*sz+(i - len)*sz:=by rw [<-Nat.add_mul];congr 1;omega
    exact⟨x,by rw [kl,if_neg (by omega),if_pos (by omega),show i*sz+j - len*sz=(i - len)*sz+j by omega];exact hx,dO.later hL⟩)
 have ir:(S.set k (some (.arr sz (rows.take len++more) fz false))).get k=some (.arr sz (rows.take len++more) fz false):=aG _ _ _
 obtain⟨rC,Wu⟩:=cZ.rename ir ha (fun J=>by simp)
 have e:((S.set k (some (.arr sz (rows.take len++more) fz false))).set k none).new (.arr sz (rows.take len++more) fz false)=(S.set k none).new (.arr sz (rows.take len++more) fz false):=by
  have:bP (bP S.get k (some (.arr sz (rows.take len++more) fz false))) k none=bP S.get k none:=by
   funext j
   by_cases c:j=k
   ·subst c;rw [aG,aG]
   ·rw [aN _ _ c,aN _ _ c,aN _ _ c]
  simp only [ae.set,ae.new,this]
 rw [e] at Wu
 refine⟨_,_,_,(nH ht fh).trans cu,?_,Wu,hE.trans rC⟩
 have:=aL.ob (g:=g.new S.nx (g.ob k) (g.cp k)) (w:=w.setRow (g.ob k) cs') (k:=S.nx) (sz:=sz) (off:=0) (len:=len+more.length) (c:=c) (cx:=none) (.inr rfl) (fun m h=>by cases h)
  (by rw [Nat.zero_add,m8];exact Nat.le_of_eq (aG _ _ _).symm) (fun _=>by rw [Nat.zero_add,m8];exact (aG _ _ _).symm) qc
 rw [show (g.new S.nx (g.ob k) (g.cp k)).ob S.nx=g.ob k from aG _ _ _,Nat.zero_mul] at this
 exact this
theorem sT {t t2 ty e e2:TypeId}{w:World}{B C:Option Addr}{m c c2:Nat}{sz:Nat}(ht:P.underlying t=some (.slice e)) (fh:P.underlying t2=some (.slice e2)) (hs:cS P e=some sz) (hle:m<=c) :
  (Builtin.append_ #[t,t2] ty #[.slice B m c,.slice C 0 c2]).run P w=.ok (.slice B m c) w:=by
 rw [nH ht fh]
 have hf:(Builtin.firstCells sz 0 (.slice C 0 c2)).run P w=.ok #[] w:=by
  cases C with
  |none=>simp [Builtin.firstCells]
  |some b=>simpa using run_firstCells_some (P:=P) (w:=w) sz 0 b 0 c2 [] (by simp) (fun j v h=>by simp at h)
 cases B<;>simp [Builtin.append_,run_underlying ht,cP hs,Builtin.lenOf,hle,hf,storeCells]
theorem nJ {g:Gh}{w:World}{ex:Bool}{rows:List (List AV)}{v:Value}(h:aL g w (.sl ex rows) v):∃ B c,v=.slice B rows.length c/\rows.length<=c/\(ex=true->c=rows.length):=by
 cases h with
 |nil hc=>exact⟨_,_,rfl,Nat.zero_le _,hc⟩
 |sl hn hc hle hl h hr=>exact⟨_,_,rfl,hle,hc⟩
theorem E5 {c:Call}{t t2 e e2:TypeId}{x y:Operand}{a b:AV}{more:List (List AV)}{z:Value}{sz:Nat}{K:AV->ae->Prop}(ho:o.op=.call c) (hc:c.callee=.builtin .append) (fC:c.argTypes=#[t,t2]) (bD:c.args=#[x,y])
  (hx:α.ev x=a) (hy:α.ev y=b) (ht:P.underlying t=some (.slice e)) (fh:P.underlying t2=some (.slice e2)) (hm:rowsOf S b=some more) (hlen:l_ b=some more.length) (hz:cY P e=some z) (hs:cS P e=some sz) (ld:z.cells.size=sz) (h:jm P e K S more a) :
  ∃ r S',bg P w0 n o α S r S'/\K r S':=by
 have cu:∀ (q:Act) (w:World),(execOp q.eval o).run P w=((Builtin.append_ #[t,t2] o.type #[q.eval x,q.eval y]).run P w).andThen fun v w'=>.ok (.value v) w':=by
  intro q w
  simp [execOp,ho,resolve,hc,fC,bD,invoke,builtin]
 have same:∀ {r:AV}{m cc:Nat},more=[]->α.ev x=r->(∀ (g:Gh) (w:World) (v:Value),aL g w r v->∃ B m cc,v=.slice B m cc/\m<=cc)->bg P w0 n o α S r S:=by
  intro r m cc o7 FZ hr
  refine bg.quiet fun A g q w hS hA=>?_
  have h1:=hA.ev x
  have h2:=hA.ev y
  rw [FZ] at h1
  rw [hy] at h2
  subst o7
  obtain⟨B,c1,e1⟩:=nG (S:=S) hlen hm h2
  obtain⟨B',m',cc',e2,hle⟩:=hr g w _ h1
  refine⟨q.eval x,?_,h1⟩
  rw [cu,e1,e2,sT ht fh hs hle]
  rfl
 unfold jm at h
 split at h
 ·rename_i rows
  split at h
  ·exact⟨_,_,same (m:=0) (cc:=0) rfl hx (fun g w v hr=>let ⟨B,c,e,hle,_⟩:=nJ hr;⟨B,_,c,e,hle⟩),h⟩
  ·rename_i m1 ms
   split at h
   ·rename_i sz' by_ iK j4
    split at h
    ·rename_i hb
     obtain⟨hl,ef,en,hK⟩:=h
     have e0:sz'=sz:=by rw [hs] at iK;exact (Option.some.inj iK).symm
     subst e0
     refine⟨_,_,?_,hK⟩
     intro A g q w hS hA
     have h1:=hA.ev x
     have h2:=hA.ev y
     rw [hx] at h1
     rw [hy] at h2
     obtain⟨b2,q2,c2,news,e2,Hq,jS⟩:=lU hS hm h2 (by simp) ef hlen
     obtain⟨B,cc,e1,aiG,l4⟩:=nJ h1
     have hcc:=l4 rfl
     have hold:(B=none/\rows=[]/\cc=0)\/∃ b gD,B=some b/\Src g w sz' rows b gD:=by
      by_cases xh:rows=[]
      ·subst xh
       cases B with
       |none=>exact .inl ⟨rfl,rfl,by simpa using hcc⟩
       |some bb=>exact .inr ⟨bb,[],rfl,by simp,fun j u hu=>by simp at hu,fun i row hi=>by simp at hi⟩
      ·obtain⟨b,q,c',gD,e3,_,hs3⟩:=lU (a:=.sl true rows) hS rfl h1 xh hl rfl
       rw [e1] at e3
       injection e3 with e4
       exact .inr ⟨_,gD,e4,hs3⟩
     obtain⟨v,w',g',hr,h3,h4,h5⟩:=uh (ty:=o.type) (c2:=c2) hS ht fh hz hs j4 ld hold jS hl ef (by simp) (by rw [hcc];simp) en (Nat.lt_of_lt_of_le Nat.zero_lt_one (Nat.le_of_ble_eq_true hb))
     refine⟨v,w',g',.inl ?_,h3,h4,h5⟩
     rw [cu,e1,e2,hr]
     rfl
    ·exact h.elim
   ·exact h.elim
 ·rename_i k szk len
  unfold bp at h
  split at h
  ·rename_i Wv NI
   obtain⟨sz',rows,fz,ex⟩:=Wv
   have hk:=yR NI
   dsimp only at h
   split at h
   ·exact⟨_,_,same (m:=0) (cc:=0) rfl hx (fun g w v hr=>let ⟨c,e,_,_,_,_,hle⟩:=gA hr;⟨_,_,c,e,hle⟩),h⟩
   ·rename_i m1 ms
    split at h
    ·rename_i gn by_ iK j4
     split at h
     ·rename_i hb
      simp only [Bool.and_eq_true] at hb
      obtain⟨⟨fc,ft⟩,mY⟩:=hb
      have fc:=Nat.eq_of_beq_eq_true fc
      have ft:=Nat.eq_of_beq_eq_true ft
      have e0:gn=sz:=by rw [hs] at iK;exact (Option.some.inj iK).symm
      subst fc ft e0
      obtain⟨pL,Rk,ef,en,hK⟩:=h
      refine⟨_,_,?_,hK⟩
      intro A g q w hS hA
      have h1:=hA.ev x
      have h2:=hA.ev y
      rw [hx] at h1
      rw [hy] at h2
      obtain⟨b2,q2,c2,news,e2,Hq,jS⟩:=lU hS hm h2 (by simp) (fun r hr=>(ef r hr).1) hlen
      obtain⟨cc,e1,bG,_,m8,l4,Lk⟩:=gA h1
      have l4:=l4 rfl
      simp only [Nat.zero_add] at l4 m8
      simp only [Nat.zero_mul] at e1
      by_cases qc:len+(m1::ms).length<=cc
      ·obtain⟨v,w',g',hr,h3,h4,h5⟩:=DR (ty:=o.type) (c2:=c2) hS ht fh hs hk bG l4 Lk pL Rk jS ef qc
       refine⟨v,w',g',.inl ?_,h3,h4,h5⟩
       rw [cu,e1,e2,hr]
       rfl
      ·obtain⟨k2,k3,cs,mi,p1,p2,p3,p4,p5,p6,p7⟩:=hS.cH k _ hk bG
       have vc:(rows.take len).length=len:=by simp;omega
       have hl:∀ r ∈ rows.take len,r.length=gn:=by
        intro r hr
        obtain⟨i,hi⟩:=List.getElem?_of_mem (List.mem_of_mem_take hr)
        exact (p5 i r hi).1
       have hold:∃ gD,Src g w gn (rows.take len) ⟨g.ob k,0,none⟩ gD:=by
        refine nM hl (fun i j row a hi hj=>?_)
        rw [List.getElem?_take] at hi
        split at hi
        ·obtain⟨u,hu,Ww⟩:=(p5 i row hi).2 j a hj
         exact⟨u,by rw [cell_of_row _ _ _ cs mi (0,0) p1,Nat.zero_add];exact hu,Ww⟩
        ·cases hi
       obtain⟨gD,hold⟩:=hold
       have fm:St w0 A g (S.set k none) w:=hS.forget (Nat.le_refl _) (fun j p hj ha=>by
        have hj:bP S.get k none j=some p:=hj
        by_cases c:j=k
        ·subst c;rw [aG] at hj;cases hj
        ·rwa [aN _ _ c] at hj)
       have DS:=uh (ty:=o.type) (c2:=c2) (sCap:=cc) fm ht fh hz hs j4 ld (rows:=rows.take len) (more:=m1::ms) (B:=some ⟨g.ob k,0,none⟩) (news:=news) (.inr ⟨_,gD,rfl,hold⟩) jS hl (fun r hr=>(ef r hr).1) (by simp) (by rw [vc];omega) (by rw [vc];exact en)
        (Nat.lt_of_lt_of_le Nat.zero_lt_one (Nat.le_of_ble_eq_true mY))
       rw [vc] at DS
       obtain⟨v,w',g',hr,h3,h4,h5⟩:=DS
       have Aj:g'.al S.nx:=by
        obtain⟨_,_,bG,_⟩:=gA h3
        exact bG
       obtain⟨hE6,hS6⟩:=h4.freeze (k:=S.nx) (aG _ _ _) Aj (m:=fz) (Nat.zero_le _) (by simp;omega)
       refine⟨v,w',_,.inl ?_,h3.later hE6.toLater,?_,h5.trans hE6⟩
       ·rw [cu,e1,e2,hr]
        rfl
       ·have e:((((S.set k none).new (.arr gn (rows.take len++m1::ms) 0 false)).set S.nx (some (.arr gn (rows.take len++m1::ms) fz false))))=(S.set k none).new (.arr gn (rows.take len++m1::ms) fz false):=by
         have:∀ (f:Nat->Option Ob) (a b:Option Ob),bP (bP f S.nx a) S.nx b=bP f S.nx b:=by
          intro f a b
          funext j
          by_cases c:j=S.nx
          ·subst c;rw [aG,aG]
          ·rw [aN _ _ c,aN _ _ c,aN _ _ c]
         simp only [ae.set,ae.new,this]
        rw [<-e]
        exact hS6
     ·exact h.elim
    ·exact h.elim
  ·exact h.elim
 ·rename_i k szk off len cc0
  unfold bp at h
  split at h
  ·rename_i Wv NI
   obtain⟨sz',rows,fz,ex⟩:=Wv
   have hk:=yR NI
   dsimp only at h
   split at h
   ·exact⟨_,_,same (m:=0) (cc:=0) rfl hx (fun g w v hr=>let ⟨c,e,_,_,_,_,hle⟩:=gA hr;⟨_,_,c,e,hle⟩),h⟩
   ·rename_i m1 ms
    split at h
    ·rename_i gn by_ iK j4
     split at h
     ·rename_i hb
      simp only [Bool.and_eq_true] at hb
      obtain⟨⟨fc,ft⟩,mY⟩:=hb
      have fc:=Nat.eq_of_beq_eq_true fc
      have ft:=Nat.eq_of_beq_eq_true ft
      have e0:gn=sz:=by rw [hs] at iK;exact (Option.some.inj iK).symm
      subst fc ft e0
      obtain⟨hcl,Rk,ef,en,hK⟩:=h
      refine⟨_,_,?_,hK⟩
      intro A g q w hS hA
      have h1:=hA.ev x
      have h2:=hA.ev y
      rw [hx] at h1
      rw [hy] at h2
      obtain⟨b2,q2,c2,news,e2,Hq,jS⟩:=lU hS hm h2 (by simp) ef hlen
      obtain⟨cc,e1,bG,xb,m8,l4,Lk⟩:=gA h1
      have xb:=xb _ rfl
      obtain⟨k2,k3,cs,mi,p1,p2,p3,p4,p5,p6,p7⟩:=hS.cH k _ hk bG
      have vc:((rows.drop off).take len).length=len:=by simp;omega
      have hl:∀ r ∈ (rows.drop off).take len,r.length=gn:=by
       intro r hr
       obtain⟨i,hi⟩:=List.getElem?_of_mem (List.mem_of_mem_drop (List.mem_of_mem_take hr))
       exact (p5 i r hi).1
      have hold:∃ gD,Src g w gn ((rows.drop off).take len) ⟨g.ob k,off*gn,none⟩ gD:=by
       refine nM hl (fun i j row a hi hj=>?_)
       obtain⟨u,hu,Ww⟩:=(p5 _ row (pC hi).2).2 j a hj
       exact⟨u,by rw [cell_of_row _ _ _ cs mi (0,0) p1,<-hu,Nat.add_mul,Nat.add_assoc],Ww⟩
      obtain⟨gD,hold⟩:=hold
      have DS:=uh (ty:=o.type) (c2:=c2) (sCap:=cc) hS ht fh hz hs j4 ld (rows:=(rows.drop off).take len) (more:=m1::ms) (B:=some ⟨g.ob k,off*gn,none⟩) (news:=news) (.inr ⟨_,gD,rfl,hold⟩) jS hl ef (by simp) (by rw [vc];simp;omega) (by rw [vc];exact en)
       (Nat.lt_of_lt_of_le Nat.zero_lt_one (Nat.le_of_ble_eq_true mY))
      rw [vc] at DS
      obtain⟨v,w',g',hr,h3,h4,h5⟩:=DS
      refine⟨v,w',g',.inl ?_,h3,h4,h5⟩
      rw [cu,e1,e2,hr]
      rfl
     ·exact h.elim
    ·exact h.elim
  ·exact h.elim
 ·exact h.elim
end
end Go.Proofs.YtgphljokbodciaaGreat
