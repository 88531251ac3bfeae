import Derived.Test.YtbofilglphfceaaGreatD3
namespace Go.Proofs.YtbofilglphfceaaGreat
set_option linter.unusedVariables false
set_option linter.unusedSimpArgs false
open Go.RowKit
section
variable (P:Program) (w0:World) (n:Nat)
def aC (o:Oper) (α:AA) (S:U) (r:AV) (S':U):Prop :=
 ∀ (A:Nat->Prop) (g:Gh) (a:Act) (w:World),St w0 A g S w->aX g w n α a->∃ (v:Value) (w':World) (g':Gh),
  ((execOp a.eval o).run P w=.ok (.value v) w'\/((execOp a.eval o).run P w=.ok .skip w'/\v=undef))/\ao g' w' r v/\St w0 A g' S' w'/\Ext A g w g' w'
def cP (o:Oper) (α:AA) (S:U) (r:AV) (S':U):Prop :=
 ∀ (F:Fence) (m:Nat) (A:Nat->Prop) (g:Gh) (a:Act) (w:World) (next:Act->World->Prop) (Q:Exit->Act->World->Prop),fM F->St w0 A g S w->aX g w n α a ->
  (∀ (v:Value) (w':World) (g':Gh),ao g' w' r v->St w0 A g' S' w'->Ext A g w g' w'->next (a.put o.dst v) w')->o.uponIn F m P a next Q ((o.semAt F.round a.eval).run P w)
end
section
variable {P:Program}{w0:World}{n:Nat}{o:Oper}{α:AA}{S S':U}{r:AV}
theorem aC.ops (h:aC P w0 n o α S r S') (hd:∀ c,o.op ≠ .defer c):cP P w0 n o α S r S':=by
 intro F m A g a w next Q hF hS hA me
 obtain⟨v,w',g',bm,hr,ew,hE⟩:=h A g a w hS hA
 rw [Oper.semAt_eq _ _ _ hd]
 rcases bm with bm|⟨bm,rfl⟩
 ·rw [bm];exact me v w' g' hr ew hE
 ·rw [bm];exact me undef w' g' hr ew hE
theorem aC.quiet (h:∀ (A:Nat->Prop) (g:Gh) (a:Act) (w:World),St w0 A g S w->aX g w n α a->∃ v,(execOp a.eval o).run P w=.ok (.value v) w/\ao g w r v):aC P w0 n o α S r S:=by
 intro A g a w hS hA
 obtain⟨v,h1,h2⟩:=h A g a w hS hA
 exact⟨v,w,g,.inl h1,h2,hS,Ext.refl ..⟩
theorem vT {x:Operand}(ho:o.op=.move x\/o.op=.assign x):aC P w0 n o α S (α.ev x) S :=
 aC.quiet fun A g a w hS hA=>⟨a.eval x,by rcases ho with ho|ho<;>simp [execOp,ho],hA.ev x⟩
theorem E_ {c x y:Operand}{t:Bool}(ho:o.op=.pick c x y) (hc:α.ev c=.v (.bool t)):aC P w0 n o α S (if t then α.ev x else α.ev y) S :=
 aC.quiet fun A g a w hS hA=>by
  have h1:=hA.ev c
  rw [hc] at h1
  have h2:=u5 h1
  cases t with
  |true=>exact⟨a.eval x,by simp [execOp,ho,h2,asBool],hA.ev x⟩
  |false=>exact⟨a.eval y,by simp [execOp,ho,h2,asBool],hA.ev y⟩
theorem vR {A:Nat->Prop}{g:Gh}{w:World}{cs:List AV}{cells:Array Value}{ty:TypeId}(hS:St w0 A g S w) (h:iG g w cs cells) :
  ∃ g',ao g' (w.alloc (.cells cells ty)) (.pt S.nx cs.length 0 0) (.pointer (some ⟨w.heap.size,0,none⟩))/\St w0 A g' (jd S cs).2 (w.alloc (.cells cells ty))/\Ext A g w g' (w.alloc (.cells cells ty)):=by
 obtain⟨hE,cz⟩:=hS.new (.cells cells ty) (.arr cs.length [cs] 0 true) 1 (fun J=>by simp) (fun hL=>by
  refine⟨cells,ty,bZ,by rw [h.1];simp,by simp,fun _=>rfl,fun i row hr=>?_,Nat.zero_le _,fun q=>⟨fun hf=>?_,fun hf=>by simp at hf⟩⟩
  ·cases i with
   |succ i=>simp at hr
   |zero =>
    simp at hr
    subst hr
    refine⟨rfl,fun j a ha=>?_⟩
    have hj:j < cells.size:=by rw [h.1];exact (List.getElem?_eq_some_iff.1 ha).1
    exact⟨cells[j],by simp,(h.2 j a _ ha (Array.getElem?_eq_getElem hj)).later hL⟩
  ·exact absurd (hS.bM _ _ hf) (by omega))
 refine⟨_,?_,cz,hE⟩
 have:=ao.pt (g:=g.new S.nx w.heap.size 1) (w:=w.alloc (.cells cells ty)) (k:=S.nx) (sz:=cs.length) (i:=0) (j:=0) (.inr rfl)
 rw [show (g.new S.nx w.heap.size 1).ob S.nx=w.heap.size from ah _ _ _] at this
 simpa using this
theorem C9 {e:TypeId}{z:Value}(ho:o.op=.alloc e) (hz:bY P e=some z):aC P w0 n o α S (jd S (z.cells.toList.map aO)).1 (jd S (z.cells.toList.map aO)).2:=by
 intro A g a w hS hA
 obtain⟨g',h1,h2,h3⟩:=vR (ty:=e) hS (iG.aO z.cells)
 refine⟨_,_,g',.inl ?_,h1,h2,h3⟩
 simp [execOp,ho,Instr.alloc,iT hz,newVar,newRow]
theorem HX {e:TypeId}{x:Operand}(ho:o.op=.box e x) (hx:(aA (α.ev x)).all bp=true):aC P w0 n o α S (jd S (aA (α.ev x))).1 (jd S (aA (α.ev x))).2:=by
 intro A g a w hS hA
 obtain⟨c1,c2,c3⟩:=jo hx (hA.ev x)
 obtain⟨g',h1,h2,h3⟩:=vR (ty:=e) hS ⟨c1,c2⟩
 refine⟨_,_,g',.inl ?_,h1,h2,h3⟩
 simp [execOp,ho,Instr.box,newVar,newRow]
theorem BC {t:TypeId}{parts:Array (Nat × Operand)}(ho:o.op=.build t parts) (h:ln P t (parts.toList.map fun (i,x)=>(i,α.ev x))=some r):aC P w0 n o α S r S :=
 aC.quiet fun A g a w hS hA=>by
  obtain⟨v,h1,h2⟩:=wD (w:=w) hA h
  exact⟨v,by simp only [execOp,ho,Sem.run_bind];rw [h1];rfl,h2⟩
theorem C_ {t:TypeId}{x:Operand}(ho:o.op=.load t x) (h:lX P S t (α.ev x)=some r):aC P w0 n o α S r S :=
 aC.quiet fun A g a w hS hA=>by
  obtain⟨b,q,v,h1,h2,h3⟩:=qc hS h (hA.ev x)
  exact⟨v,by simp [execOp,ho,Instr.loadAt,h1,Instr.sureAddr,h2],h3⟩
theorem BD {t:TypeId}{x b:Operand}(ho:o.op=.store t x b) (h:iq P S t (α.ev b) (α.ev x)=some S'):aC P w0 n o α S (.v undef) S':=by
 intro A g a w hS hA
 obtain⟨c,q,w',h1,h2,h3,h4,h5⟩:=oR hS h (hA.ev x) (hA.ev b)
 exact⟨undef,w',g,.inr ⟨by simp [execOp,ho,Instr.storeAt,h1,Instr.sureAddr,h2],rfl⟩,.v,h5,h4⟩
theorem Fb {op:BinOp}{t:TypeId}{x y:Operand}{a b v:Value}{w:World}(h:kB P op t a b=some v):(do eqGuard op t x y a b;binOp op t a b:Sem Value).run P w=.ok v w:=by
 unfold kB at h
 split at h
 ·rename_i k i k' j
  split at h
  ·rename_i hk
   obtain rfl:=of_decide_eq_true hk
   cases op<;>simp_all [eqGuard,binOp,Op.intCmp]
  ·cases h
 ·cases op<;>simp_all [eqGuard,binOp,Op.stringOp]
 ·rename_i p q
  split at h
  ·rename_i hu
   have he:(Op.equal t (.bool p) (.bool q)).run P w=.ok (p == q) w:=by
    show (Op.equalIn (9999+1) t (.bool p) (.bool q)).run P w=_
    rw [Op.equalIn]
    simp only [Sem.run_bind,run_underlying hu,Result.andThen_ok]
    rfl
   have hg:∀ op:BinOp,(eqGuard op t x y (.bool p) (.bool q)).run P w=.ok () w:=by
    intro op
    cases op<;>rfl
   split at h
   ·obtain rfl:=Option.some.inj h
    simp only [Sem.run_bind,hg,Result.andThen_ok]
    have e:binOp .eql t (.bool p) (.bool q)=(do pure (Value.bool (<-Op.equal t (.bool p) (.bool q))):Sem Value):=rfl
    rw [e]
    simp only [Sem.run_bind,he,Result.andThen_ok]
    rfl
   ·obtain rfl:=Option.some.inj h
    simp only [Sem.run_bind,hg,Result.andThen_ok]
    have e:binOp .neq t (.bool p) (.bool q)=(do pure (Value.bool (!(<-Op.equal t (.bool p) (.bool q)))):Sem Value):=rfl
    rw [e]
    simp only [Sem.run_bind,he,Result.andThen_ok]
    rfl
   ·cases h
  ·cases h
 ·cases h
theorem qS {op:BinOp}{t ty:TypeId}{x y:Operand}{a b v:Value}(ho:o.op=.binOp op t x y ty) (hx:α.ev x=.v a) (hy:α.ev y=.v b) (h:kB P op t a b=some v):aC P w0 n o α S (.v v) S :=
 aC.quiet fun A g c w hS hA=>by
  have h1:=hA.ev x
  have h2:=hA.ev y
  rw [hx] at h1
  rw [hy] at h2
  have:=Fb (x:=x) (y:=y) (w:=w) h
  simp only [Sem.run_bind] at this
  refine⟨v,?_,.v⟩
  simp only [execOp,ho,a_ h1,a_ h2,Sem.run_bind]
  rw [this]
  rfl
theorem Da {op:BinOp}{t ty:TypeId}{x y:Operand}{k:IntKind}{a b c:Int}(ho:o.op=.binOp op t x y ty) (hx:α.ev x=.v (.int k a)) (hy:α.ev y=.v (.int k b)) (h:arith op a b=some c) :
  aC P w0 n o α S (.v (.int k (k.wrap c))) S :=
 aC.quiet fun A g q w hS hA=>by
  have h1:=hA.ev x
  have h2:=hA.ev y
  rw [hx] at h1
  rw [hy] at h2
  refine⟨_,?_,.v⟩
  cases op<;>simp_all [arith]<;>simp [execOp,ho,a_ h1,a_ h2,eqGuard,binOp,Op.intArith,h]
theorem BE {t ty:TypeId}{x y:Operand}{a b:ByteArray}(ho:o.op=.binOp .add t x y ty) (hx:α.ev x=.v (.string a)) (hy:α.ev y=.v (.string b)) (h:a.size+b.size<=9223372036854775807) :
  aC P w0 n o α S (.v (.string (a++b))) S :=
 aC.quiet fun A g q w hS hA=>by
  have h1:=hA.ev x
  have h2:=hA.ev y
  rw [hx] at h1
  rw [hy] at h2
  refine⟨_,?_,.v⟩
  have:¬ (((a.size+b.size:Nat):Int) > IntKind.i64.max):=by
   have:IntKind.i64.max=9223372036854775807:=by rfl
   rw [this]
   omega
  simp only [execOp,ho,a_ h1,a_ h2,eqGuard,binOp,Op.stringOp,Sem.run_bind,if_neg this]
  rfl
theorem HY {t:TypeId}{x:Operand}{b:Bool}(ho:o.op=.unOp .not t x) (hx:α.ev x=.v (.bool b)):aC P w0 n o α S (.v (.bool (!b))) S :=
 aC.quiet fun A g q w hS hA=>by
  have h1:=hA.ev x
  rw [hx] at h1
  exact⟨_,by simp [execOp,ho,a_ h1,Op.unary],.v⟩
theorem HZ {t:TypeId}{x:Operand}{k:IntKind}{a:Int}(ho:o.op=.unOp .neg t x) (hx:α.ev x=.v (.int k a)):aC P w0 n o α S (.v (.int k (k.wrap (0 - a)))) S :=
 aC.quiet fun A g q w hS hA=>by
  have h1:=hA.ev x
  rw [hx] at h1
  exact⟨_,by simp [execOp,ho,a_ h1,Op.unary,Op.intArith],.v⟩
theorem wH {src dst:TypeId}{x:Operand}{k0 k k':IntKind}{a:Int}(ho:o.op=.convert src dst x) (hs:P.underlying src=some (.int k0)) (hd:P.underlying dst=some (.int k)) (hx:α.ev x=.v (.int k' a)) :
  aC P w0 n o α S (.v (.int k (k.wrap a))) S :=
 aC.quiet fun A g q w hS hA=>by
  have h1:=hA.ev x
  rw [hx] at h1
  exact⟨_,by simp [execOp,ho,a_ h1,convert,run_underlying hs,run_underlying hd,Conv.intToInt],.v⟩
theorem wI {src dst:TypeId}{x:Operand}{s:ByteArray}(ho:o.op=.convert src dst x) (hs:P.underlying src=some .string) (hd:P.underlying dst=some .string) (hx:α.ev x=.v (.string s)) :
  aC P w0 n o α S (.v (.string s)) S :=
 aC.quiet fun A g q w hS hA=>by
  have h1:=hA.ev x
  rw [hx] at h1
  exact⟨_,by simp [execOp,ho,a_ h1,convert,run_underlying hs,run_underlying hd],.v⟩
theorem vU {g:Gh}{w:World}{row:List AV}{b q:Nat}(h:ao g w (.ip row) (.pointer (some ⟨b,q,none⟩))) (j:Nat):ao g w (.ip (row.drop j)) (.pointer (some ⟨b,q+j,none⟩)):=by
 cases h with
 |@ip _ _ _ val h hr =>
  refine .ip (val:=fun i=>val (j+i)) (fun i a ha=>?_) (fun i a ha=>?_)
  ·rw [List.getElem?_drop] at ha
   rw [Nat.add_assoc]
   exact h (j+i) a ha
  ·rw [List.getElem?_drop] at ha
   exact hr (j+i) a ha
theorem mU {w:World}{b q:Nat}{f:Field}{m:Nat}(h:bV P f.type=some (m+1)):(fieldPlace ⟨b,q,none⟩ f).run P w=.ok ⟨b,q+f.offset,none⟩ w:=by
 simp [fieldPlace,bJ h,dB]
theorem wJ {s:TypeId}{x:Operand}{f:Nat}{fs:Array Field}{fd:Field}{m:Nat}{row:List AV}(ho:o.op=.fieldAddr s x f) (hu:P.underlying s=some (.struct fs)) (hf:fs[f]?=some fd) (hs:bV P fd.type=some (m+1))
  (hx:α.ev x=.ip row):aC P w0 n o α S (.ip (row.drop fd.offset)) S :=
 aC.quiet fun A g q w hS hA=>by
  have h1:=hA.ev x
  rw [hx] at h1
  obtain⟨b,p,e,_⟩:=qM h1
  rw [e] at h1
  exact⟨_,by simp [execOp,ho,Instr.fieldAt,run_underlying hu,hf,e,Instr.sureAddr,mU hs],vU h1 _⟩
theorem wK {s:TypeId}{x:Operand}{f:Nat}{fs:Array Field}{fd:Field}{m k sz i j:Nat}(ho:o.op=.fieldAddr s x f) (hu:P.underlying s=some (.struct fs)) (hf:fs[f]?=some fd) (hs:bV P fd.type=some (m+1))
  (hx:α.ev x=.pt k sz i j):aC P w0 n o α S (.pt k sz i (j+fd.offset)) S :=
 aC.quiet fun A g q w hS hA=>by
  have h1:=hA.ev x
  rw [hx] at h1
  obtain⟨y,hy⟩:∃ y,q.eval x=y:=⟨_,rfl⟩
  rw [hy] at h1
  cases h1 with
  |pt hk=>exact⟨_,by simp [execOp,ho,Instr.fieldAt,run_underlying hu,hf,hy,Instr.sureAddr,mU hs];rfl,by rw [Nat.add_assoc];exact .pt hk⟩
theorem sb {g:Gh}{w:World}{t:TypeId}{l:List AV}{cs:Array Value}{j:Nat}(h:g7 P t l j=some r) (hl:iG g w l cs):∃ v,(part t cs j).run P w=.ok v w/\ao g w r v:=by
 unfold g7 at h
 split at h
 ·rename_i m ha hs
  split at h
  ·rename_i hle
   have hle:=Nat.le_of_ble_eq_true hle
   obtain rfl:=Option.some.inj h
   rw [xL]
   refine⟨.agg (cs.extract j (j+m)),by simp [part,nE ha,bJ hs],.agg ?_ (fun i b x h1 h2=>?_)⟩
   ·simp [hl.1];omega
   ·rw [List.getElem?_take] at h1
    split at h1
    ·rename_i hi
     rw [List.getElem?_drop] at h1
     rw [Array.getElem?_extract] at h2
     split at h2
     ·exact hl.2 _ b x h1 h2
     ·cases h2
    ·cases h1
  ·cases h
 ·rename_i ha
  have hj:j < cs.size:=by rw [hl.1];exact (List.getElem?_eq_some_iff.1 h).1
  exact⟨cs[j],by simp [part,nE ha,Array.getElem?_eq_getElem hj],hl.2 j r _ h (Array.getElem?_eq_getElem hj)⟩
 ·cases h
theorem sY {g:Gh}{w:World}{l:List AV}{v:Value}(h:ao g w (.agg l) v):∃ cs,v=.agg cs/\iG g w l cs:=by
 cases h with
 |agg hs h=>exact⟨_,rfl,hs,h⟩
theorem BF {t:TypeId}{x:Operand}{f:Nat}{fs:Array Field}{fd:Field}{l:List AV}(ho:o.op=.field t x f) (hu:P.underlying t=some (.struct fs)) (hf:fs[f]?=some fd) (hx:α.ev x=.agg l) (h:g7 P fd.type l fd.offset=some r) :
  aC P w0 n o α S r S :=
 aC.quiet fun A g q w hS hA=>by
  have h1:=hA.ev x
  rw [hx] at h1
  obtain⟨cs,e,hl⟩:=sY h1
  obtain⟨v,h2,h3⟩:=sb (w:=w) h hl
  exact⟨v,by simp [execOp,ho,Instr.field,run_underlying hu,hf,e,asAgg,h2],h3⟩
theorem wL {x:Operand}{i:Nat}{l:List AV}(ho:o.op=.extract x i) (hx:α.ev x=.aL l) (h:l[i]?=some r):aC P w0 n o α S r S :=
 aC.quiet fun A g q w hS hA=>by
  have h1:=hA.ev x
  rw [hx] at h1
  obtain⟨y,hy⟩:∃ y,q.eval x=y:=⟨_,rfl⟩
  rw [hy] at h1
  cases h1 with
  |@aL _ cs hs h' =>
   have hi:i < cs.size:=by rw [hs];exact (List.getElem?_eq_some_iff.1 h).1
   exact⟨cs[i],by simp [execOp,ho,hy,Instr.extract,Array.getElem?_eq_getElem hi],h' i r _ h (Array.getElem?_eq_getElem hi)⟩
theorem lO {g:Gh}{w:World}{m:Nat}{a:Act}(hA:aX g w m α a) (l:Array Operand):(l.map a.eval).size=(l.toList.map α.ev).length/\∀ (i:Nat) (b:AV) (x:Value),(l.toList.map α.ev)[i]?=some b->(l.map a.eval)[i]?=some x->ao g w b x:=by
 refine⟨by simp,fun i b x h1 h2=>?_⟩
 simp only [List.getElem?_map,Option.map_eq_some_iff] at h1
 obtain⟨y,hy,rfl⟩:=h1
 rw [Array.getElem?_map] at h2
 rw [Array.getElem?_toList] at hy
 rw [hy] at h2
 simp at h2
 subst h2
 exact hA.ev y
theorem vV {f:Fn}{first cap:Array Operand}(ho:o.op=.makeFunc f first cap):aC P w0 n o α S (.fn f (first.toList.map α.ev) (cap.toList.map α.ev)) S :=
 aC.quiet fun A g q w hS hA=>by
  obtain⟨h1,h2⟩:=lO hA first
  obtain⟨h3,h4⟩:=lO hA cap
  exact⟨_,by simp [execOp,ho,Instr.makeFunc],.fn h1 h3 h2 h4⟩
theorem ue {x:Operand}(ho:o.op=.nilCheck x) (hx:(∃ c,α.ev x=.ip c)\/∃ k sz i j,α.ev x=.pt k sz i j):aC P w0 n o α S (α.ev x) S :=
 aC.quiet fun A g q w hS hA=>by
  have h1:=hA.ev x
  refine⟨q.eval x,?_,h1⟩
  obtain⟨y,hy⟩:∃ y,q.eval x=y:=⟨_,rfl⟩
  rw [hy] at h1
  rcases hx with ⟨c,hx⟩|⟨k,sz,i,j,hx⟩<;>rw [hx] at h1<;>cases h1<;>simp [execOp,ho,hy]
end
section
variable {P:Program}{w0:World}{n:Nat}{o:Oper}{α:AA}{S S':U}{r:AV}
def sc (g:Gh) (w:World) (sz:Nat) (rows:List (List AV)) (cs:Array Value):Prop :=
 cs.size=rows.length*sz/\∀ (i:Nat) (row:List AV),rows[i]?=some row->row.length=sz/\∀ (j:Nat) (a:AV),row[j]?=some a->∃ x,cs[i*sz+j]?=some x/\ao g w a x
theorem fD {i m sz j:Nat}(hi:i < m) (hj:j < sz):i*sz+j < m*sz:=by
 have:=Nat.mul_le_mul_right sz (show i+1<=m from hi)
 rw [Nat.add_mul,Nat.one_mul] at this
 omega
theorem qj {g:Gh}{w:World}{sz:Nat}:∀ {parts:List (Nat × AV)}{oT:List (Nat × Value)}{rows bF:List (List AV)}{cs:Array Value},m7 sz rows parts=some bF->sc g w sz rows cs ->
  sL (fun (p:Nat × AV) (q:Nat × Value)=>p.1=q.1/\ao g w p.2 q.2) parts oT->∃ cs',Instr.fill (fun i=>some (i*sz,sz)) cs oT=some cs'/\sc g w sz bF cs'/\bF.length=rows.length
 |[],_,rows,bF,cs,h,hl,hp=>by
  cases hp
  obtain rfl:=Option.some.inj h
  exact⟨cs,rfl,hl,rfl⟩
 |(i,a)::rest,_,rows,bF,cs,h,hl,hp=>by
  cases hp with
  |@cons _ q _ g_ hq yS =>
   obtain⟨j,x⟩:=q
   obtain⟨e,hx⟩:=hq
   simp only at e hx
   subst e
   simp only [m7] at h
   split at h
   ·rename_i hc
    simp only [Bool.and_eq_true] at hc
    obtain⟨⟨e1,e2⟩,e3⟩:=hc
    have e1:=Nat.eq_of_beq_eq_true e1
    have e2:i < rows.length:=Nat.le_of_ble_eq_true e2
    obtain⟨c1,c2,c3⟩:=jo e3 hx
    have f:=oS (i*sz) x.cells.toList 0 cs
    have pU:i*sz+sz<=rows.length*sz:=by
     have:=Nat.mul_le_mul_right sz (show i+1<=rows.length from e2)
     rwa [Nat.add_mul,Nat.one_mul] at this
    have cy:i*sz+x.cells.size<=cs.size:=by rw [hl.1,c1,e1];exact pU
    have f2:=f.2 (by simpa using cy)
    have jh:sc g w sz (rows.set i (aA a)) ((x.cells.toList.zipIdx 0).foldl (fun cs (p:Value × Nat)=>cs.setIfInBounds (i*sz+p.2) p.1) cs):=by
     refine⟨by rw [f.1,hl.1];simp,fun i' aG hY=>?_⟩
     by_cases e:i'=i
     ·subst e
      rw [List.getElem?_set_self e2] at hY
      obtain rfl:=Option.some.inj hY
      refine⟨e1,fun j' a' bU=>?_⟩
      have hO:j' < (aA a).length:=(List.getElem?_eq_some_iff.1 bU).1
      have dQ:j' < x.cells.size:=by rw [c1];exact hO
      refine⟨x.cells[j'],?_,c2 j' a' _ bU (Array.getElem?_eq_getElem dQ)⟩
      rw [f2]
      simp only [Nat.add_zero,Array.length_toList,Array.getElem?_toList]
      rw [if_neg (by omega),if_pos (by omega),show i'*sz+j' - i'*sz=j' by omega]
      exact Array.getElem?_eq_getElem dQ
     ·rw [List.getElem?_set_ne (Ne.symm e)] at hY
      refine⟨(hl.2 i' aG hY).1,fun j' a' bU=>?_⟩
      obtain⟨y,hy,rV⟩:=(hl.2 i' aG hY).2 j' a' bU
      have hO:j' < sz:=by rw [<-(hl.2 i' aG hY).1];exact (List.getElem?_eq_some_iff.1 bU).1
      refine⟨y,?_,rV⟩
      rw [f2]
      simp only [Nat.add_zero,Array.length_toList,Array.getElem?_toList,c1,e1]
      rcases Nat.lt_or_gt_of_ne e with c|c
      ·have:=fD c hO
       rw [if_pos (by omega)]
       exact hy
      ·have:i*sz+sz<=i'*sz:=by
        have:=Nat.mul_le_mul_right sz (show i+1<=i' from c)
        rwa [Nat.add_mul,Nat.one_mul] at this
       rw [if_neg (by omega),if_neg (by omega)]
       exact hy
    obtain⟨cs',h1,h2,h3⟩:=qj h jh yS
    refine⟨cs',?_,h2,by rw [h3];simp⟩
    rw [<-h1]
    simp only [Instr.fill]
    rw [if_neg (by simp only [Bool.or_eq_true,decide_eq_true_eq,not_or];omega)]
    congr 1
    rw [<-Array.foldl_toList,Array.toList_zipIdx]
   ·cases h
theorem Db {g:Gh}{w:World}{zs:Array Value}{len:Nat}(h:0 < zs.size):sc g w zs.size (List.replicate len (zs.toList.map aO)) ((Array.range (len*zs.size)).map (zs[· % zs.size]!)):=by
 refine⟨by simp,fun i row hr=>?_⟩
 rw [List.getElem?_replicate] at hr
 split at hr
 ·rename_i hi
  obtain rfl:=Option.some.inj hr
  refine⟨by simp,fun j a ha=>?_⟩
  have hl:=iG.aO (g:=g) (w:=w) zs
  have hj:j < zs.size:=by have:=(List.getElem?_eq_some_iff.1 ha).1;simpa using this
  refine⟨zs[j],?_,hl.2 j a _ ha (Array.getElem?_eq_getElem hj)⟩
  have au:=fD hi hj
  rw [Array.getElem?_map,Array.getElem?_range,if_pos au]
  have e:(i*zs.size+j) % zs.size=j:=by rw [Nat.mul_comm,Nat.mul_add_mod,Nat.mod_eq_of_lt hj]
  simp [e,hj]
 ·cases hr
theorem wM {g:Gh}{w:World}{sz b c:Nat}{rows:List (List AV)}{cs:Array Value}{ty:TypeId}{ex:Bool}(h:sc g w sz rows cs) (hb:w.heap[b]?=some (.cells cs ty (0,0))) (hz:∀ q,g.fz b q) (hc:ex=true->c=rows.length) (hle:rows.length<=c) :
  ao g w (.sl ex rows) (.slice (some ⟨b,0,none⟩) rows.length c):=by
 cases rows with
 |nil=>exact .nil hc
 |cons r rs =>
  refine .sl (sz:=sz) (val:=fun i j=>cs.getD (i*sz+j) undef) (by simp) hc hle (fun i row hr=>(h.2 i row hr).1) (fun i j row a hr ha=>⟨hz _,?_⟩) (fun i j row a hr ha=>?_)
  ·obtain⟨x,hx,dC⟩:=(h.2 i row hr).2 j a ha
   rw [cell_of_row _ _ _ cs ty (0,0) hb,Nat.zero_add,hx]
   simp [Array.getD_eq_getD_getElem?,hx]
  ·obtain⟨x,hx,dC⟩:=(h.2 i row hr).2 j a ha
   simp only [Array.getD_eq_getD_getElem?,hx,Option.getD_some]
   exact dC
theorem sZ {t e:TypeId}{len sz:Nat}{parts:Array (Nat × Operand)}{z:Value}{rows:List (List AV)}(ho:o.op=.buildSlice t len parts) (hu:P.underlying t=some (.slice e)) (hz:bY P e=some z) (hs:bV P e=some sz)
  (h1:len*sz<=16777216) (h2:z.cells.size=sz) (h3:0 < sz) (h:m7 sz (List.replicate len (z.cells.toList.map aO)) (parts.toList.map fun (i,x)=>(i,α.ev x))=some rows):aC P w0 n o α S (.sl true rows) S:=by
 intro A g a w hS hA
 obtain⟨cs,hf,hr,hl⟩:=qj h (by rw [<-h2];exact Db (by omega)) (oU hA parts.toList)
 rw [List.length_replicate] at hl
 obtain⟨hE,cz⟩:=hS.tf (.cells cs e)
 refine⟨.slice (some ⟨w.heap.size,0,none⟩) len len,w.alloc (.cells cs e),g.tf w.heap.size,.inl ?_,?_,cz,hE⟩
 ·have uD:¬ (len*sz > 2 ^ 24):=by omega
  rw [h2] at hf
  simp only [execOp,ho,Instr.buildSlice,Sem.run_bind,run_underlying hu,Result.andThen_ok,bJ hs,if_neg uD]
  by_cases c:len*sz=0
  ·have e0:∀ f:Nat->Value,(Array.range (len*sz)).map f=#[]:=fun f=>by rw [c];simp
   rw [e0] at hf
   have J7:Instr.fill (fun i=>some (i*sz,sz)) ((Array.range (len*sz)).map fun x=>(#[]:Array Value)[x % (#[]:Array Value).size]!) (Array.map (fun x=>(x.fst,a.eval x.snd)) parts).toList=some cs:=by
    rw [e0,Array.toList_map]
    exact hf
   rw [if_pos c]
   simp only [Sem.run_bind,Sem.run_pure,Result.andThen_ok,J7,newRow,run_newObj]
   rfl
  ·have J7:Instr.fill (fun i=>some (i*sz,sz)) ((Array.range (len*sz)).map fun x=>z.cells[x % z.cells.size]!) (Array.map (fun x=>(x.fst,a.eval x.snd)) parts).toList=some cs:=by
    rw [Array.toList_map,h2]
    exact hf
   rw [if_neg c]
   simp only [Sem.run_bind,iT hz,Sem.run_pure,Result.andThen_ok,J7,newRow,run_newObj]
   rfl
 ·have:=wM (ex:=true) (c:=rows.length) (b:=w.heap.size) (ty:=e) (g:=g.tf w.heap.size) (w:=w.alloc (.cells cs e)) (sz:=sz) (rows:=rows) (cs:=cs)
   ⟨hr.1,fun i row hi=>⟨(hr.2 i row hi).1,fun j b hb=>let ⟨x,hx,dC⟩:=(hr.2 i row hi).2 j b hb;⟨x,hx,dC.later hE.toLater⟩⟩⟩ bZ (fun q=>.inr rfl) (fun _=>rfl) (Nat.le_refl _)
  rwa [hl] at this
theorem H0 {g:Gh}{w:World}{ex:Bool}{rows:List (List AV)}{v:Value}{sz i:Nat}{row:List AV}(h:ao g w (.sl ex rows) v) (hl:∀ r ∈ rows,r.length=sz) (hi:rows[i]?=some row) :
  ∃ b q c,v=.slice (some ⟨b,q,none⟩) rows.length c/\ao g w (.ip row) (.pointer (some ⟨b,q+i*sz,none⟩)):=by
 cases h with
 |nil hc=>simp at hi
 |@sl _ _ b q sz' c val hn hc hle jh h hr =>
  have e:sz'=sz:=by
   have h1:=jh i row hi
   have h2:=hl row (List.mem_of_getElem? hi)
   omega
  subst e
  refine⟨b,q,c,rfl,.ip (val:=fun j=>val i j) (fun j a ha=>?_) (fun j a ha=>hr i j row a hi ha)⟩
  rw [Nat.add_assoc]
  exact h i j row a hi ha
theorem vW {β:Type}{rows:List β}{k:Int}{x:β}(h:idx rows k=some x):0<=k/\rows[k.toNat]?=some x/\k < rows.length:=by
 unfold idx at h
 split at h
 ·rename_i h0
  have:=(List.getElem?_eq_some_iff.1 h).1
  exact⟨h0,h,by omega⟩
 ·cases h
theorem wN {t e:TypeId}{x y:Operand}{ex:Bool}{rows:List (List AV)}{k:IntKind}{i:Int}{sz:Nat}{row:List AV}(ho:o.op=.indexAddr t x y) (hu:P.underlying t=some (.slice e)) (hx:α.ev x=.sl ex rows) (hy:α.ev y=.v (.int k i))
  (hs:bV P e=some sz) (hi:idx rows i=some row) (hl:∀ r ∈ rows,r.length=sz):aC P w0 n o α S (.ip row) S :=
 aC.quiet fun A g q w hS hA=>by
  have h1:=hA.ev x
  have h2:=hA.ev y
  rw [hx] at h1
  rw [hy] at h2
  obtain⟨h0,hr,au⟩:=vW hi
  obtain⟨b,p,c,e1,Ef⟩:=H0 h1 hl hr
  refine⟨_,?_,Ef⟩
  simp only [execOp,ho,e1,a_ h2,Instr.indexAt,asIntOf,Sem.run_bind,run_underlying hu,bJ hs,Result.andThen_ok,Sem.run_pure]
  rw [if_pos ⟨h0,au⟩]
  simp [bJ hs,dB]
theorem wO {t e:TypeId}{x y:Operand}{k sz off len:Nat}{cx:Option Nat}{kd:IntKind}{i:Int}(ho:o.op=.indexAddr t x y) (hu:P.underlying t=some (.slice e)) (hx:α.ev x=.ob k sz off len cx) (hy:α.ev y=.v (.int kd i))
  (hs:bV P e=some sz) (h0:0<=i) (au:i < len):aC P w0 n o α S (.pt k sz (off+i.toNat) 0) S :=
 aC.quiet fun A g q w hS hA=>by
  have h1:=hA.ev x
  have h2:=hA.ev y
  rw [hx] at h1
  rw [hy] at h2
  obtain⟨v,hv⟩:∃ v,q.eval x=v:=⟨_,rfl⟩
  rw [hv] at h1
  cases h1 with
  |ob hk hc hp Uw hle =>
   have:=ao.pt (g:=g) (w:=w) (sz:=sz) (i:=off+i.toNat) (j:=0) hk
   refine⟨_,?_,this⟩
   simp only [execOp,ho,hv,a_ h2,Instr.indexAt,asIntOf,Sem.run_bind,run_underlying hu,bJ hs,Result.andThen_ok,Sem.run_pure]
   rw [if_pos ⟨h0,au⟩]
   simp [bJ hs,dB,Nat.add_mul]
theorem s4 {t e:TypeId}{x y:Operand}{k sz i j len m:Nat}{kd:IntKind}{q:Int}(ho:o.op=.indexAddr t x y) (hu:P.underlying t=some (.array len e)) (hx:α.ev x=.pt k sz i j) (hy:α.ev y=.v (.int kd q))
  (hs:bV P e=some m) (h0:0<=q) (au:q < len):aC P w0 n o α S (.pt k sz i (j+q.toNat*m)) S :=
 aC.quiet fun A g c w hS hA=>by
  have h1:=hA.ev x
  have h2:=hA.ev y
  rw [hx] at h1
  rw [hy] at h2
  obtain⟨v,hv⟩:∃ v,c.eval x=v:=⟨_,rfl⟩
  rw [hv] at h1
  cases h1 with
  |pt hk =>
   refine⟨_,?_,.pt hk⟩
   simp only [execOp,ho,hv,a_ h2,Instr.indexAt,asIntOf,Instr.sureAddr,Sem.run_bind,run_underlying hu,bJ hs,Result.andThen_ok,Sem.run_pure]
   rw [if_pos ⟨h0,au⟩]
   simp [bJ hs,dB,Nat.add_assoc]
theorem s5 {t e:TypeId}{x y:Operand}{row:List AV}{len m:Nat}{kd:IntKind}{q:Int}(ho:o.op=.indexAddr t x y) (hu:P.underlying t=some (.array len e)) (hx:α.ev x=.ip row) (hy:α.ev y=.v (.int kd q))
  (hs:bV P e=some m) (h0:0<=q) (au:q < len):aC P w0 n o α S (.ip (row.drop (q.toNat*m))) S :=
 aC.quiet fun A g c w hS hA=>by
  have h1:=hA.ev x
  have h2:=hA.ev y
  rw [hx] at h1
  rw [hy] at h2
  obtain⟨b,p,e1,_⟩:=qM h1
  rw [e1] at h1
  refine⟨_,?_,vU h1 _⟩
  simp only [execOp,ho,e1,a_ h2,Instr.indexAt,asIntOf,Instr.sureAddr,Sem.run_bind,run_underlying hu,bJ hs,Result.andThen_ok,Sem.run_pure]
  rw [if_pos ⟨h0,au⟩]
  simp [bJ hs,dB]
theorem vX {t:TypeId}{x y:Operand}{s:ByteArray}{k:IntKind}{i:Int}{b:UInt8}(ho:o.op=.index t x y) (hu:P.underlying t=some .string) (hx:α.ev x=.v (.string s)) (hy:α.ev y=.v (.int k i)) (hi:idx s.data.toList i=some b) :
  aC P w0 n o α S (.v (.int .u8 b.toNat)) S :=
 aC.quiet fun A g q w hS hA=>by
  have h1:=hA.ev x
  have h2:=hA.ev y
  rw [hx] at h1
  rw [hy] at h2
  obtain⟨h0,hr,au⟩:=vW hi
  refine⟨_,?_,.v⟩
  have a7:i.toNat < s.size:=by
   have:=(List.getElem?_eq_some_iff.1 hr).1
   simpa using this
  have e:s[i.toNat]?=some b:=by
   rw [getElem?_pos s i.toNat a7]
   have GO:s.data[i.toNat]?=some b:=by rw [<-Array.getElem?_toList];exact hr
   rw [Array.getElem?_eq_getElem (by simpa using a7)] at GO
   exact GO
  simp only [execOp,ho,a_ h1,a_ h2,Instr.index,asIntOf,Sem.run_bind,run_underlying hu,Result.andThen_ok,Sem.run_pure,if_pos h0,e]
theorem vY {t e:TypeId}{x y:Operand}{l:List AV}{len m:Nat}{kd:IntKind}{q:Int}(ho:o.op=.index t x y) (hu:P.underlying t=some (.array len e)) (hx:α.ev x=.agg l) (hy:α.ev y=.v (.int kd q))
  (hs:bV P e=some m) (h:g7 P e l (q.toNat*m)=some r) (h0:0<=q) (au:q < len):aC P w0 n o α S r S :=
 aC.quiet fun A g c w hS hA=>by
  have h1:=hA.ev x
  have h2:=hA.ev y
  rw [hx] at h1
  rw [hy] at h2
  obtain⟨cs,e1,hl⟩:=sY h1
  obtain⟨v,h3,h4⟩:=sb (w:=w) h hl
  refine⟨v,?_,h4⟩
  simp only [execOp,ho,e1,a_ h2,Instr.index,asIntOf,Sem.run_bind,run_underlying hu,Result.andThen_ok,Sem.run_pure]
  rw [if_pos ⟨h0,au⟩]
  simp [bJ hs,h3]
theorem vZ {g:Gh}{w:World}{a:AV}{v:Value}{m:Nat}(h:ig a=some m) (hr:ao g w a v):(∃ A c,v=.slice A m c)\/∃ s,v=.string s/\s.size=m:=by
 unfold ig at h
 split at h
 ·obtain rfl:=Option.some.inj h
  cases hr with
  |nil=>exact .inl ⟨_,_,rfl⟩
  |sl=>exact .inl ⟨_,_,rfl⟩
 ·obtain rfl:=Option.some.inj h
  cases hr with
  |ob=>exact .inl ⟨_,_,rfl⟩
 ·obtain rfl:=Option.some.inj h
  cases hr with
  |v=>exact .inr ⟨_,rfl,rfl⟩
 ·cases h
theorem toList_one {α:Type}{l:Array α}{x:α}(h:l.toList=[x]):l=#[x]:=by cases l;simp at h;rw [h]
theorem toList_two {α:Type}{l:Array α}{x y:α}(h:l.toList=[x,y]):l=#[x,y]:=by cases l;simp at h;rw [h]
theorem xT {c:Call}{t:TypeId}{a:AV}{m:Nat}{d:TypeDesc}(ho:o.op=.call c) (hc:c.callee=.builtin .len) (ht:c.argTypes=#[t]) {x:Operand}(aH:c.args=#[x]) (hx:α.ev x=a) (hm:ig a=some m) (hu:P.underlying t=some d)
  (hd:(∃ e,d=.slice e/\∀ s,a ≠ .v (.string s))\/(d=.string/\∃ s,a=.v (.string s))):aC P w0 n o α S (.v (.int .i64 (m:Int))) S :=
 aC.quiet fun A g q w hS hA=>by
  have h1:=hA.ev x
  rw [hx] at h1
  refine⟨_,?_,.v⟩
  rcases hd with ⟨e,rfl,aM⟩|⟨rfl,s,rfl⟩
  ·rcases vZ hm h1 with ⟨B,k,hv⟩|⟨s,hv,_⟩
   ·simp [execOp,ho,resolve,hc,aH,ht,hv,invoke,builtin,Builtin.len_,run_underlying hu,goInt]
   ·exfalso
    rw [hv] at h1
    unfold ig at hm
    split at hm
    ·cases h1
    ·cases h1
    ·exact aM _ rfl
    ·cases hm
  ·have hv:=a_ h1
   simp only [ig,Option.some.injEq] at hm
   subst hm
   simp [execOp,ho,resolve,hc,aH,ht,hv,invoke,builtin,Builtin.len_,run_underlying hu,goInt]
theorem H2 {c:Call}{k:IntKind}{i j:Int}(ho:o.op=.call c) (hc:c.callee=.builtin .min) {x y:Operand}(aH:c.args=#[x,y]) (hx:α.ev x=.v (.int k i)) (hy:α.ev y=.v (.int k j)):aC P w0 n o α S (.v (.int k (min i j))) S :=
 aC.quiet fun A g q w hS hA=>by
  have h1:=hA.ev x
  have h2:=hA.ev y
  rw [hx] at h1
  rw [hy] at h2
  refine⟨_,?_,.v⟩
  have:(if j < i then j else i)=min i j:=by omega
  simp [execOp,ho,resolve,hc,aH,a_ h1,a_ h2,invoke,builtin,Builtin.min_,Builtin.min2,this]
theorem H3 {c:Call}{k:IntKind}{i j:Int}(ho:o.op=.call c) (hc:c.callee=.builtin .max) {x y:Operand}(aH:c.args=#[x,y]) (hx:α.ev x=.v (.int k i)) (hy:α.ev y=.v (.int k j)):aC P w0 n o α S (.v (.int k (max i j))) S :=
 aC.quiet fun A g q w hS hA=>by
  have h1:=hA.ev x
  have h2:=hA.ev y
  rw [hx] at h1
  rw [hy] at h2
  refine⟨_,?_,.v⟩
  have:(if j > i then j else i)=max i j:=by omega
  simp [execOp,ho,resolve,hc,aH,a_ h1,a_ h2,invoke,builtin,Builtin.max_,Builtin.max2,this]
end
end Go.Proofs.YtbofilglphfceaaGreat
