import Derived.Test.YtbofilglphfceaaGreatD11
namespace Go.Proofs.YtbofilglphfceaaGreat
set_option linter.unusedVariables false
set_option linter.unusedSimpArgs false
open Go.RowKit
inductive QO where
 |t (n:Nat)
 |c (a:AV)
def QO.ev (f:Nat->AV):QO->AV
 |.t n=>f n
 |.c a=>a
def qo:Operand->QO
 |.tmp t=>.t t
 |.const v=>.c (lift v)
 |.global g=>.c (.v (.pointer (some ⟨g,0,none⟩)))
 |.func f=>.c (.v (.func (.func f) #[] #[]))
theorem ay {α:AA}(x:Operand):(qo x).ev α.tm=α.ev x:=by cases x<;>rfl
inductive LK where
 |agg (n:Nat)
 |cell
inductive SK where
 |str
 |sl (n:Nat)
inductive BK where
 |b
 |s
 |o
inductive cj where
 |mv (x:QO)
 |pick (c a b:QO)
 |alloc (cs:List AV)
 |box (x:QO)
 |build (cs:List AV) (parts:List (Nat × Nat × QO))
 |rows (n:Nat) (rows:List (List AV)) (parts:List (Nat × QO))
 |load (k:LK) (x:QO)
 |store (n:Nat) (x b:QO)
 |bin (op:BinOp) (isB:BK) (x y:QO)
 |not (x:QO)
 |neg (x:QO)
 |conv (k:IntKind) (x:QO)
 |kS (x:QO)
 |pn (off:Nat) (x:QO)
 |field (k:LK) (off:Nat) (x:QO)
 |kT (n:Nat) (x i:QO)
 |j_ (len n:Nat) (x i:QO)
 |oq (x i:QO)
 |na (len n:Nat) (k:LK) (x i:QO)
 |slice (k:SK) (x:QO) (lo hi mx:Option QO)
 |extract (x:QO) (i:Nat)
 |eB (z:List AV) (by_:Nat) (l c:QO)
 |ot (x:QO)
 |po (x:QO)
 |uH (f:Fn) (first cap:List QO)
 |pq (x:QO)
 |call (f:QO) (args:List QO)
 |len (str:Bool) (x:QO)
 |append (sz by_:Nat) (a b:QO)
 |min (x y:QO)
 |max (x y:QO)
 |DA (x:QO)
 |jZ (x:Option QO)
 |look (z:AV) (c:Bool) (x i:QO)
 |mu (x i b:QO)
 |O1 (x:QO)
 |Il (t:Nat) (x:QO)
 |eqs (t:Nat) (x y:QO)
 |del (x i:QO)
 |copy (sz:Nat) (a b:QO)
 |mE (z:List AV) (a:QO)
 |Ch (a:QO)
 |cap (a:QO)
 |sr (z:List AV) (by_:Nat) (a m:QO)
 |fg (kt:Nat) (z:AV) (c:Bool) (x i:QO)
 |jf (kt:Nat) (x i b:QO)
 |Io (x i:QO)
 |Ip (x i b:QO)
 |assert (t:Nat) (c:Bool) (x:QO)
def db (T:Tables) (t:TypeId):Option TypeDesc :=
 match T.info? t with
 |some { desc:=.named _ u,.. }=>(T.info? u).map (·.desc)
 |some i=>some i.desc
 |none=>none
def O2 (T:Tables) (t:TypeId):Option Bool :=
 match db T t with
 |some (.struct _)|some (.array _ _)=>some true
 |some _=>some false
 |none=>none
def kJ (T:Tables) (t:TypeId):Option Nat:=(T.info? t).map (·.size)
def FD (T:Tables) (t:TypeId):Option Nat:=(T.info? t).map (·.bytes)
def rj (T:Tables) (t:TypeId):Option Value:=(T.info? t).bind (·.zero)
def uI (T:Tables) (t:TypeId):Option TypeId:=match db T t with|some (.slice e)=>some e|_=>none
def O3 (T:Tables) (fs:Array Field) (i:Nat):Option (Nat × Nat) :=
 match fs[i]? with
 |some f=>match kJ T f.type with|some n=>some (f.offset,n)|none=>none
 |none=>none
def uJ (T:Tables) (t:TypeId):Option LK:=match O2 T t,kJ T t with
 |some true,some n=>some (.agg n)
 |some false,_=>some .cell
 |_,_=>none
section
variable {P:Program}
theorem aZ (t:TypeId):db P.toTables t=P.underlying t:=rfl
theorem Iq (t:TypeId):O2 P.toTables t=yq P t:=rfl
theorem cA (t:TypeId):kJ P.toTables t=bV P t:=rfl
theorem fX (t:TypeId):FD P.toTables t=dk P t:=rfl
theorem dX (t:TypeId):rj P.toTables t=bY P t:=rfl
theorem fp (t:TypeId):uI P.toTables t=du P t:=rfl
theorem jg (fs:Array Field):O3 P.toTables fs=uK P fs:=rfl
end
def kc (k:LK) (row:List AV) (j:Nat):Option AV:=match k with
 |.agg n=>match Nat.ble (j+n) row.length with|true=>some (.agg (yt row j n))|false=>none
 |.cell=>row[j]?
theorem ou {P:Program}{t:TypeId}{k:LK}(h:uJ P.toTables t=some k) (row:List AV) (j:Nat):g7 P t row j=kc k row j:=by
 unfold uJ at h
 simp only [Iq,cA] at h
 unfold g7
 split at h
 ·rename_i n h1 h2;obtain rfl:=Option.some.inj h;rw [h1,h2];rfl
 ·rename_i h1;obtain rfl:=Option.some.inj h;rw [h1];rfl
 ·cases h
def fY (k:LK) (S:U):AV->Option AV
 |.ip row=>kc k row 0
 |.pt b sz i j=>match S.get b with
  |some (.arr sz' rows _ _)=>match Nat.beq sz sz' with
   |true=>match rows[i]? with
    |some row=>kc k row j
    |none=>none
   |false=>none
  |_=>none
 |_=>none
theorem tn {P:Program}{t:TypeId}{k:LK}(h:uJ P.toTables t=some k) (S:U) (a:AV):lX P S t a=fY k S a:=by
 unfold lX fY
 simp only [ou h]
 rfl
def uL (place:Nat->Option (Nat × Nat)):List (Nat × Operand)->Option (List (Nat × Nat × QO))
 |[]=>some []
 |(i,x)::rest=>match place i with
  |some (off,size)=>match uL place rest with
   |some l=>some ((off,size,qo x)::l)
   |none=>none
  |none=>none
def uq (f:Nat->AV):List AV->List (Nat × Nat × QO)->Option (List AV)
 |cells,[]=>some cells
 |cells,(off,size,x)::rest=>match Nat.beq (aA (x.ev f)).length size && Nat.ble (off+size) cells.length && (aA (x.ev f)).all bp with
  |true=>uq f (ib cells off (aA (x.ev f))) rest
  |false=>none
theorem qv {α:AA}{place:Nat->Option (Nat × Nat)}:∀ {l:List (Nat × Operand)}{l':List (Nat × Nat × QO)}{cells:List AV},uL place l=some l' ->
  nb place cells (l.map fun (i,x)=>(i,α.ev x))=uq α.tm cells l'
 |[],l',cells,h=>by obtain rfl:=Option.some.inj h;rfl
 |(i,x)::rest,l',cells,h=>by
  simp only [uL] at h
  split at h
  ·rename_i off size hp
   split at h
   ·rename_i l hl
    obtain rfl:=Option.some.inj h
    simp only [List.map_cons,nb,hp,uq,ay]
    cases hc:(Nat.beq (aA (α.ev x)).length size && Nat.ble (off+size) cells.length && (aA (α.ev x)).all bp) with
    |true=>simp only [];rw [qv hl]
    |false=>rfl
   ·cases h
  ·cases h
def res (T:Tables):Op->Option cj
 |.move x=>some (.mv (qo x))
 |.assign x=>some (.mv (qo x))
 |.pick c a b=>some (.pick (qo c) (qo a) (qo b))
 |.alloc e=>match rj T e with
  |some z=>some (.alloc (z.cells.toList.map aO))
  |none=>none
 |.box _ x=>some (.box (qo x))
 |.build t parts=>match rj T t with
  |some (.agg cs)=>match db T t with
   |some (.struct fs)=>match fs.toList.all fun f=>(kJ T f.type).isSome with
    |true=>match uL (O3 T fs) parts.toList with
     |some l=>some (.build (cs.toList.map aO) l)
     |none=>none
    |false=>none
   |some (.array _ e)=>match kJ T e with
    |some n=>match uL (fun i=>some (i*n,n)) parts.toList with
     |some l=>some (.build (cs.toList.map aO) l)
     |none=>none
    |none=>none
   |_=>none
  |_=>none
 |.buildSlice t len parts=>match uI T t with
  |some e=>match rj T e,kJ T e with
   |some z,some n=>match Nat.ble (len*n) 16777216 && Nat.beq z.cells.size n && Nat.blt 0 n with
    |true=>some (.rows n (List.replicate len (z.cells.toList.map aO)) (parts.toList.map fun (i,x)=>(i,qo x)))
    |false=>none
   |_,_=>none
  |none=>none
 |.load t x=>match uJ T t with
  |some k=>some (.load k (qo x))
  |none=>none
 |.store t x b=>match kJ T t with
  |some n=>some (.store n (qo x) (qo b))
  |none=>none
 |.binOp op t x y _=>match db T t with
  |some .bool=>some (.bin op .b (qo x) (qo y))
  |some (.slice _)=>some (.bin op .s (qo x) (qo y))
  |some (.struct _)=>match op with
   |.eql=>some (.eqs t (qo x) (qo y))
   |_=>none
  |_=>some (.bin op .o (qo x) (qo y))
 |.unOp op _ x=>match op with
  |.not=>some (.not (qo x))
  |.neg=>some (.neg (qo x))
  |_=>none
 |.convert src dst x=>match db T src,db T dst with
  |some (.int _),some (.int k)=>some (.conv k (qo x))
  |some .string,some .string=>some (.kS (qo x))
  |some (.slice e),some .string=>match db T e with
   |some (.int .u8)=>some (.DA (qo x))
   |_=>none
  |_,_=>none
 |.fieldAddr s x f=>match db T s with
  |some (.struct fs)=>match fs[f]? with
   |some fd=>match kJ T fd.type with
    |some (_+1)=>some (.pn fd.offset (qo x))
    |_=>none
   |none=>none
  |_=>none
 |.field t x f=>match db T t with
  |some (.struct fs)=>match fs[f]? with
   |some fd=>match uJ T fd.type with
    |some k=>some (.field k fd.offset (qo x))
    |none=>none
   |none=>none
  |_=>none
 |.indexAddr t x i=>match db T t with
  |some (.slice e)=>match kJ T e with
   |some n=>some (.kT n (qo x) (qo i))
   |none=>none
  |some (.array len e)=>match kJ T e with
   |some n=>some (.j_ len n (qo x) (qo i))
   |none=>none
  |_=>none
 |.index t x i=>match db T t with
  |some .string=>some (.oq (qo x) (qo i))
  |some (.array len e)=>match kJ T e,uJ T e with
   |some n,some k=>some (.na len n k (qo x) (qo i))
   |_,_=>none
  |_=>none
 |.slice t x lo hi mx=>match db T t with
  |some .string=>some (.slice .str (qo x) (lo.map qo) (hi.map qo) (mx.map qo))
  |some (.slice e)=>match kJ T e with
   |some n=>some (.slice (.sl n) (qo x) (lo.map qo) (hi.map qo) (mx.map qo))
   |none=>none
  |_=>none
 |.extract x i=>some (.extract (qo x) i)
 |.makeSlice t l c=>match uI T t with
  |some e=>match rj T e,kJ T e,FD T e with
   |some z,some sz,some by_=>match Nat.beq z.cells.size sz && Nat.blt 0 sz with
    |true=>some (.eB (z.cells.toList.map aO) by_ (qo l) (qo c))
    |false=>none
   |_,_,_=>none
  |none=>none
 |.range t x=>match db T t with
  |some .string=>some (.ot (qo x))
  |_=>none
 |.next x isStr=>match isStr with
  |true=>some (.po (qo x))
  |false=>none
 |.makeFunc f first cap=>some (.uH f (first.toList.map qo) (cap.toList.map qo))
 |.nilCheck x=>some (.pq (qo x))
 |.call c=>match c.callee with
  |.value f=>some (.call (qo f) (c.args.toList.map qo))
  |.builtin b=>match b,c.argTypes.toList,c.args.toList with
   |.len,[t],[x]=>match db T t with
    |some (.slice _)=>some (.len false (qo x))
    |some .string=>some (.len true (qo x))
    |_=>none
   |.append,[t,t2],[a,b]=>match uI T t,uI T t2 with
    |some e,some _=>match rj T e,kJ T e,FD T e with
     |some z,some sz,some by_=>match Nat.beq z.cells.size sz && Nat.blt 0 by_ with
      |true=>some (.append sz by_ (qo a) (qo b))
      |false=>none
     |_,_,_=>none
    |some e,none=>match db T t2 with
     |some (.int _)=>match rj T e,kJ T e,FD T e with
      |some z,some sz,some by_=>match Nat.beq z.cells.size sz && Nat.blt 0 by_ with
       |true=>some (.sr (z.cells.toList.map aO) by_ (qo a) (qo b))
       |false=>none
      |_,_,_=>none
     |_=>none
    |none,_=>none
   |.delete,[t,_],[x,i]=>match db T t with
    |some (.map kt _)=>match db T kt with
     |some (.int _)=>some (.del (qo x) (qo i))
     |_=>none
    |_=>none
   |.copy,[t,t2],[a,b]=>match uI T t,uI T t2 with
    |some e,some _=>match kJ T e with
     |some sz=>some (.copy sz (qo a) (qo b))
     |none=>none
    |_,_=>none
   |.clear,[t],[a]=>match db T t with
    |some (.slice e)=>match rj T e with
     |some z=>some (.mE (z.cells.toList.map aO) (qo a))
     |none=>none
    |some (.map _ _)=>some (.Ch (qo a))
    |_=>none
   |.cap,[t],[a]=>match db T t with
    |some (.slice _)=>some (.cap (qo a))
    |_=>none
   |.min,_,[x,y]=>some (.min (qo x) (qo y))
   |.max,_,[x,y]=>some (.max (qo x) (qo y))
   |_,_,_=>none
  |.invoke _ _=>none
 |.makeMap t r=>match db T t with
  |some (.map _ _)=>some (.jZ (r.map qo))
  |_=>none
 |.lookup t x i c=>match db T t with
  |some (.map kt et)=>match db T kt,rj T et with
   |some (.int _),some z=>some (.look (lift z) c (qo x) (qo i))
   |some (.struct _),some z=>some (.fg kt (lift z) c (qo x) (qo i))
   |some .string,some z=>some (.fg kt (lift z) c (qo x) (qo i))
   |_,_=>none
  |_=>none
 |.mapUpdate t x i y=>match db T t with
  |some (.map kt _)=>match db T kt with
   |some (.int _)=>some (.mu (qo x) (qo i) (qo y))
   |some (.struct _)=>some (.jf kt (qo x) (qo i) (qo y))
   |some .string=>some (.jf kt (qo x) (qo i) (qo y))
   |_=>none
  |_=>none
 |.mapEntry t x i=>match db T t with
  |some (.map kt _)=>match db T kt with
   |some (.int _)=>some (.Io (qo x) (qo i))
   |_=>none
  |_=>none
 |.entryStore t x i y=>match db T t with
  |some (.map kt _)=>match db T kt with
   |some (.int _)=>some (.Ip (qo x) (qo i) (qo y))
   |_=>none
  |_=>none
 |.typeAssert x _ t c=>match db T t with
  |some (.interface _)=>none
  |some _=>some (.assert t c (qo x))
  |none=>none
 |.panic x=>some (.O1 (qo x))
 |.makeInterface t x=>some (.Il t (qo x))
 |_=>none
def dY (q:cj) (f:Nat->AV) (S:U):Option (AV × U) :=
 match q with
 |.mv x=>some (x.ev f,S)
 |.pick c a b=>match c.ev f with
  |.v (.bool true)=>some (a.ev f,S)
  |.v (.bool false)=>some (b.ev f,S)
  |_=>none
 |.alloc cs=>sm S cs
 |.box x=>match (aA (x.ev f)).all bp with
  |true=>sm S (aA (x.ev f))
  |false=>none
 |.build cs parts=>match uq f cs parts with
  |some l=>some (.agg l,S)
  |none=>none
 |.rows n rows parts=>match m7 n rows (parts.map fun (i,x)=>(i,x.ev f)) with
  |some rows=>some (.sl true rows,S)
  |none=>none
 |.load k x=>match fY k S (x.ev f) with
  |some a=>some (a,S)
  |none=>none
 |.store n x b=>match b.ev f,x.ev f with
  |bv,.pt k sz 0 j=>match S.get k with
   |some (.arr sz' [row] 0 ex)=>match Nat.beq sz sz' && (aA bv).all bp && Nat.beq n (aA bv).length with
    |true=>match Nat.ble (j+(aA bv).length) row.length with
     |true=>match S with|⟨g,x⟩=>some (.v undef,⟨a6 g k (some (.arr sz [ib row j (aA bv)] 0 ex)),x⟩)
     |false=>none
    |false=>none
   |_=>none
  |_,_=>none
 |.not x=>match x.ev f with
  |.v (.bool true)=>some (.v (.bool false),S)
  |.v (.bool false)=>some (.v (.bool true),S)
  |_=>none
 |.pn off x=>match x.ev f with
  |.ip row=>some (.ip (row.drop off),S)
  |.pt k sz i j=>some (.pt k sz i (j+off),S)
  |_=>none
 |.field k off x=>match x.ev f with
  |.agg l=>match kc k l off with
   |some a=>some (a,S)
   |none=>none
  |_=>none
 |.extract x i=>match x.ev f with
  |.aL l=>match l[i]? with
   |some a=>some (a,S)
   |none=>none
  |_=>none
 |.uH g first cap=>some (.fn g (first.map (·.ev f)) (cap.map (·.ev f)),S)
 |.pq x=>match x.ev f with
  |.ip c=>some (.ip c,S)
  |.pt k sz i j=>some (.pt k sz i j,S)
  |_=>none
 |_=>none
def yu (op:BinOp) (isB:BK):AV->AV->Option Bool
 |.v (.int k a),.v (.int k' b)=>match decide (k=k') with
  |true=>match op with
   |.eql=>some (a == b)
   |.neq=>some (a != b)
   |.lss=>some (decide (a < b))
   |.leq=>some (decide (a<=b))
   |.gtr=>some (decide (a > b))
   |.geq=>some (decide (a>=b))
   |_=>none
  |false=>none
 |.v (.string a),.v (.string b)=>match op with
  |.eql=>some (a.toList == b.toList)
  |.neq=>some (!(a.toList == b.toList))
  |.lss=>some (Op.bytesLess a.toList b.toList)
  |.leq=>some (Op.bytesLess a.toList b.toList || a.toList == b.toList)
  |.gtr=>some (!(Op.bytesLess a.toList b.toList || a.toList == b.toList))
  |.geq=>some (!Op.bytesLess a.toList b.toList)
  |_=>none
 |.v (.bool a),.v (.bool b)=>match isB,op with
  |.b,.eql=>some (a == b)
  |.b,.neq=>some (!(a == b))
  |_,_=>none
 |_,_=>none
section
variable {P:Program}{w0:World}{n:Nat}{o:Op}{α:AA}{S S':U}{r:AV}{q:cj}{K:AV->U->Prop}
theorem kf (hr:res P.toTables o=some q) (h:dY q α.tm S=some (r,S')):aE P w0 o α S (nS r S'):=by
 have e:∀ {a:AV}{T:U},some (a,T)=some (r,S')->a=r/\T=S':=fun h=>by injection h with h;injection h with h1 h2;exact⟨h1,h2⟩
 have e2:∀ {q:AV × U},some q=some (r,S')->q.1=r/\q.2=S':=fun h=>by injection h with h;subst h;exact⟨rfl,rfl⟩
 have key:∀ {T:Program->Op->AA->U->Option (AV × U)},kI P o α S=some (r,S')->aE P w0 o α S (nS r S'):=fun h=>Cd h
 cases o with
 |move x=>obtain rfl:=Option.some.inj hr;rw [dY,ay] at h;exact e h
 |assign x=>obtain rfl:=Option.some.inj hr;rw [dY,ay] at h;exact e h
 |pick c a b =>
  obtain rfl:=Option.some.inj hr
  simp only [dY,ay] at h
  simp only [aE]
  split at h
  ·rename_i hc;rw [hc];exact e h
  ·rename_i hc;rw [hc];exact e h
  ·cases h
 |alloc t =>
  simp only [res,aZ,cA,fX,dX,fp,jg] at hr
  split at hr
  ·rename_i z hz
   obtain rfl:=Option.some.inj hr
   simp only [dY] at h
   simp only [aE,hz];rw [jJ] at h;exact e2 h
  ·cases hr
 |box t x =>
  obtain rfl:=Option.some.inj hr
  simp only [dY,ay] at h
  simp only [aE]
  split at h
  ·rename_i hx;rw [hx];rw [jJ] at h;exact e2 h
  ·cases h
 |build t parts =>
  simp only [res,aZ,cA,fX,dX,fp,jg] at hr
  split at hr
  ·rename_i cs hz
   split at hr
   ·rename_i fs hu
    split at hr
    ·rename_i gG
     split at hr
     ·rename_i l hl
      obtain rfl:=Option.some.inj hr
      simp only [dY] at h
      simp only [aE,ln,hz,hu,gG,qv hl]
      split at h
      ·rename_i l' jh;simp only [jh,Option.map_some];exact e h
      ·cases h
     ·cases hr
    ·cases hr
   ·rename_i le el hu
    split at hr
    ·rename_i m hm
     split at hr
     ·rename_i l hl
      obtain rfl:=Option.some.inj hr
      simp only [dY] at h
      simp only [aE,ln,hz,hu,hm,qv hl]
      split at h
      ·rename_i l' jh;simp only [jh,Option.map_some];exact e h
      ·cases h
     ·cases hr
    ·cases hr
   ·cases hr
  ·cases hr
 |buildSlice t len parts =>
  simp only [res,aZ,cA,fX,dX,fp,jg] at hr
  split at hr
  ·rename_i el he
   split at hr
   ·rename_i z m hz hs
    split at hr
    ·rename_i hb
     obtain rfl:=Option.some.inj hr
     have hm:(parts.toList.map fun (i,x)=>(i,qo x)).map (fun (i,x)=>(i,QO.ev α.tm x))=parts.toList.map fun (i,x)=>(i,α.ev x):=by
      rw [List.map_map]
      apply List.map_congr_left
      rintro⟨i,x⟩ _
      simp [ay]
     simp only [dY] at h
     rw [hm] at h
     simp only [aE,he,hz,hs,hb]
     split at h
     ·rename_i rows Se
      simp only [Se]
      exact e h
     ·cases h
    ·cases hr
   ·cases hr
  ·cases hr
 |load t x =>
  simp only [res,aZ,cA,fX,dX,fp,jg] at hr
  split at hr
  ·rename_i k hk
   obtain rfl:=Option.some.inj hr
   simp only [dY,ay] at h
   simp only [aE]
   split at h
   ·rename_i z hz;rw [<-tn hk] at hz;exact aD.mk hz (e h)
   ·cases h
  ·cases hr
 |store t x b =>
  simp only [res,aZ,cA,fX,dX,fp,jg] at hr
  split at hr
  ·rename_i m hm
   obtain rfl:=Option.some.inj hr
   simp only [dY,ay] at h
   have hs:og P S t (α.ev b) (α.ev x)=some S'/\AV.v undef=r:=by
    split at h
    ·rename_i k sz j hb
     unfold og
     rw [hb]
     split at h
     ·rename_i sz' row ex hk
      split at h
      ·rename_i hc
       split at h
       ·rename_i hl
        simp only [hk,hm,hc,hl,j8]
        obtain⟨h1,h2⟩:=e h
        exact⟨by rw [<-h2],h1⟩
       ·cases h
      ·cases h
     ·cases h
    ·cases h
   simp only [aE]
   exact aD.mk (oh hs.1) ⟨hs.2,rfl⟩
  ·cases hr
 |unOp op t x =>
  simp only [res,aZ,cA,fX,dX,fp,jg] at hr
  split at hr
  ·obtain rfl:=Option.some.inj hr
   simp only [dY,ay] at h
   simp only [aE]
   split at h
   ·rename_i hc;rw [hc];exact e h
   ·rename_i hc;rw [hc];exact e h
   ·cases h
  ·obtain rfl:=Option.some.inj hr
   cases h
  ·cases hr
 |fieldAddr s x f =>
  simp only [res,aZ,cA,fX,dX,fp,jg] at hr
  split at hr
  ·rename_i fs hu
   split at hr
   ·rename_i fd hf
    split at hr
    ·rename_i m hm
     obtain rfl:=Option.some.inj hr
     simp only [dY,ay] at h
     simp only [aE,hu,hf,hm]
     split at h
     ·rename_i row hx;simp only [hx];exact e h
     ·rename_i k sz i j hx;simp only [hx];exact e h
     ·cases h
    ·cases hr
   ·cases hr
  ·cases hr
 |field t x f =>
  simp only [res,aZ,cA,fX,dX,fp,jg] at hr
  split at hr
  ·rename_i fs hu
   split at hr
   ·rename_i fd hf
    split at hr
    ·rename_i k hk
     obtain rfl:=Option.some.inj hr
     simp only [dY,ay] at h
     simp only [aE,hu,hf]
     split at h
     ·rename_i l hx
      simp only [hx]
      split at h
      ·rename_i a ha;rw [<-ou hk] at ha;exact aD.mk ha (e h)
      ·cases h
     ·cases h
    ·cases hr
   ·cases hr
  ·cases hr
 |extract x i =>
  obtain rfl:=Option.some.inj hr
  simp only [dY,ay] at h
  simp only [aE]
  split at h
  ·rename_i l hx
   split at h
   ·rename_i a ha;simp only [hx,ha];exact e h
   ·cases h
  ·cases h
 |makeFunc f first cap =>
  obtain rfl:=Option.some.inj hr
  simp only [dY,List.map_map] at h
  have hm:∀ l:List Operand,l.map ((·.ev α.tm) ∘ qo)=l.map α.ev:=fun l=>List.map_congr_left fun x _=>ay x
  rw [hm,hm] at h
  exact e h
 |nilCheck x =>
  obtain rfl:=Option.some.inj hr
  simp only [dY,ay] at h
  simp only [aE]
  split at h
  ·rename_i c hx;rw [hx];exact e h
  ·rename_i c hx;rw [hx];exact e h
  ·cases h
 |_ =>
  simp only [res,aZ,cA,fX,dX,fp,jg] at hr
  repeat' split at hr
  all_goals first|(obtain rfl:=Option.some.inj hr;cases h)|cases hr
end
end Go.Proofs.YtbofilglphfceaaGreat
