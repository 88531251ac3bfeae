import Derived.Test.YtgjfgekaclobaaaGreatCm11
namespace Go.Proofs.YtgjfgekaclobaaaGreat
set_option linter.unusedVariables false
set_option linter.unusedSimpArgs false
open Go.RowKit
inductive QO where
 |t (n:Nat)
 |c (a:AV)
def QO.ev (f:Nat->AV):QO->AV
 |.t n=>f n
 |.c a=>a
def qo:Operand->QO
 |.tmp t=>.t t
 |.const v=>.c (lift v)
 |.global g=>.c (.v (.pointer (some ⟨g,0,none⟩)))
 |.func f=>.c (.v (.func (.func f) #[] #[]))
theorem aD {α:AA}(x:Operand):(qo x).ev α.tm=α.ev x:=by cases x<;>rfl
inductive LK where
 |agg (n:Nat)
 |cell
inductive SK where
 |str
 |sl (n:Nat)
inductive BK where
 |b
 |s
 |o
 |f
 |p
inductive cB where
 |mv (x:QO)
 |pick (c a b:QO)
 |alloc (cs:List AV)
 |box (x:QO)
 |build (cs:List AV) (parts:List (Nat × Nat × QO))
 |rows (n:Nat) (rows:List (List AV)) (parts:List (Nat × QO))
 |load (k:LK) (x:QO)
 |store (n:Nat) (x b:QO)
 |bin (op:BinOp) (isB:BK) (x y:QO)
 |not (x:QO)
 |neg (x:QO)
 |conv (k:IntKind) (x:QO)
 |oo (x:QO)
 |uE (off:Nat) (x:QO)
 |field (k:LK) (off:Nat) (x:QO)
 |lx (n:Nat) (x i:QO)
 |nj (len n:Nat) (x i:QO)
 |sR (x i:QO)
 |q_ (len n:Nat) (k:LK) (x i:QO)
 |slice (k:SK) (x:QO) (lo hi mx:Option QO)
 |extract (x:QO) (i:Nat)
 |g7 (z:List AV) (by_:Nat) (l c:QO)
 |sS (x:QO)
 |oq (x:QO)
 |A0 (f:Fn) (first cap:List QO)
 |uF (x:QO)
 |call (f:QO) (args:List QO)
 |len (str:Bool) (x:QO)
 |append (sz by_:Nat) (a b:QO)
 |min (x y:QO)
 |max (x y:QO)
 |KD (x:QO)
 |ft (x:Option QO)
 |look (z:AV) (c:Bool) (x i:QO)
 |gQ (x i b:QO)
 |YX (x:QO)
 |RE (t:Nat) (x:QO)
 |eqs (t:Nat) (x y:QO)
 |del (x i:QO)
 |copy (sz:Nat) (a b:QO)
 |qt (z:List AV) (a:QO)
 |nk (a:QO)
 |cap (a:QO)
 |yw (z:List AV) (by_:Nat) (a m:QO)
 |iI (kt:Nat) (z:AV) (c:Bool) (x i:QO)
 |l5 (kt:Nat) (x i b:QO)
 |rb (z:AV) (x i:QO)
 |re (x i b:QO)
 |assert (t:Nat) (c:Bool) (x:QO)
def dH (T:Tables) (t:TypeId):Option TypeDesc :=
 match T.info? t with
 |some { desc:=.named _ u,.. }=>(T.info? u).map (·.desc)
 |some i=>some i.desc
 |none=>none
def YY (T:Tables) (t:TypeId):Option Bool :=
 match dH T t with
 |some (.struct _)|some (.array _ _)=>some true
 |some _=>some false
 |none=>none
def nW (T:Tables) (t:TypeId):Option Nat:=(T.info? t).map (·.size)
def No (T:Tables) (t:TypeId):Option Nat:=(T.info? t).map (·.bytes)
def vl (T:Tables) (t:TypeId):Option Value:=(T.info? t).bind (·.zero)
def A1 (T:Tables) (t:TypeId):Option TypeId:=match dH T t with|some (.slice e)=>some e|_=>none
def YZ (T:Tables) (fs:Array Field) (i:Nat):Option (Nat × Nat) :=
 match fs[i]? with
 |some f=>match nW T f.type with|some n=>some (f.offset,n)|none=>none
 |none=>none
def A3 (T:Tables) (t:TypeId):Option LK:=match YY T t,nW T t with
 |some true,some n=>some (.agg n)
 |some false,_=>some .cell
 |_,_=>none
section
variable {P:Program}
theorem a7 (t:TypeId):dH P.toTables t=P.underlying t:=rfl
theorem RF (t:TypeId):YY P.toTables t=EZ P t:=rfl
theorem cL (t:TypeId):nW P.toTables t=bZ P t:=rfl
theorem jr (t:TypeId):No P.toTables t=fe P t:=rfl
theorem eK (t:TypeId):vl P.toTables t=b8 P t:=rfl
theorem ic (t:TypeId):A1 P.toTables t=eu P t:=rfl
theorem l6 (fs:Array Field):YZ P.toTables fs=A4 P fs:=rfl
end
def l7 (k:LK) (row:List AV) (j:Nat):Option AV:=match k with
 |.agg n=>match Nat.ble (j+n) row.length with|true=>some (.agg (E0 row j n))|false=>none
 |.cell=>row[j]?
theorem sT {P:Program}{t:TypeId}{k:LK}(h:A3 P.toTables t=some k) (row:List AV) (j:Nat):kr P t row j=l7 k row j:=by
 unfold A3 at h
 simp only [RF,cL] at h
 unfold kr
 split at h
 ·rename_i n h1 h2;obtain rfl:=Option.some.inj h;rw [h1,h2];rfl
 ·rename_i h1;obtain rfl:=Option.some.inj h;rw [h1];rfl
 ·cases h
def jt (k:LK) (S:aa):AV->Option AV
 |.ip row=>l7 k row 0
 |.pt b sz i j=>match S.get b with
  |some (.arr sz' rows _ _)=>match Nat.beq sz sz' with
   |true=>match rows[i]? with
    |some row=>l7 k row j
    |none=>none
   |false=>none
  |_=>none
 |_=>none
theorem zo {P:Program}{t:TypeId}{k:LK}(h:A3 P.toTables t=some k) (S:aa) (a:AV):pc P S t a=jt k S a:=by
 unfold pc jt
 simp only [sT h]
 rfl
def A5 (place:Nat->Option (Nat × Nat)):List (Nat × Operand)->Option (List (Nat × Nat × QO))
 |[]=>some []
 |(i,x)::rest=>match place i with
  |some (off,size)=>match A5 place rest with
   |some l=>some ((off,size,qo x)::l)
   |none=>none
  |none=>none
def AF (f:Nat->AV):List AV->List (Nat × Nat × QO)->Option (List AV)
 |cells,[]=>some cells
 |cells,(off,size,x)::rest=>match Nat.beq (aG (x.ev f)).length size && Nat.ble (off+size) cells.length && (aG (x.ev f)).all bl with
  |true=>AF f (kO cells off (aG (x.ev f))) rest
  |false=>none
theorem vT {α:AA}{place:Nat->Option (Nat × Nat)}:∀ {l:List (Nat × Operand)}{l':List (Nat × Nat × QO)}{cells:List AV},A5 place l=some l' ->
  rf place cells (l.map fun (i,x)=>(i,α.ev x))=AF α.tm cells l'
 |[],l',cells,h=>by obtain rfl:=Option.some.inj h;rfl
 |(i,x)::rest,l',cells,h=>by
  simp only [A5] at h
  split at h
  ·rename_i off size hp
   split at h
   ·rename_i l hl
    obtain rfl:=Option.some.inj h
    simp only [List.map_cons,rf,hp,AF,aD]
    cases hc:(Nat.beq (aG (α.ev x)).length size && Nat.ble (off+size) cells.length && (aG (α.ev x)).all bl) with
    |true=>simp only [];rw [vT hl]
    |false=>rfl
   ·cases h
  ·cases h
def res (T:Tables):Op->Option cB
 |.move x=>some (.mv (qo x))
 |.assign x=>some (.mv (qo x))
 |.pick c a b=>some (.pick (qo c) (qo a) (qo b))
 |.alloc e=>match vl T e with
  |some z=>some (.alloc (z.cells.toList.map a8))
  |none=>none
 |.box _ x=>some (.box (qo x))
 |.build t parts=>match vl T t with
  |some (.agg cs)=>match dH T t with
   |some (.struct fs)=>match fs.toList.all fun f=>(nW T f.type).isSome with
    |true=>match A5 (YZ T fs) parts.toList with
     |some l=>some (.build (cs.toList.map a8) l)
     |none=>none
    |false=>none
   |some (.array _ e)=>match nW T e with
    |some n=>match A5 (fun i=>some (i*n,n)) parts.toList with
     |some l=>some (.build (cs.toList.map a8) l)
     |none=>none
    |none=>none
   |_=>none
  |_=>none
 |.buildSlice t len parts=>match A1 T t with
  |some e=>match vl T e,nW T e with
   |some z,some n=>match Nat.ble (len*n) 16777216 && Nat.beq z.cells.size n && Nat.blt 0 n with
    |true=>some (.rows n (List.replicate len (z.cells.toList.map a8)) (parts.toList.map fun (i,x)=>(i,qo x)))
    |false=>none
   |_,_=>none
  |none=>none
 |.load t x=>match A3 T t with
  |some k=>some (.load k (qo x))
  |none=>none
 |.store t x b=>match nW T t with
  |some n=>some (.store n (qo x) (qo b))
  |none=>none
 |.binOp op t x y _=>match dH T t with
  |some .bool=>some (.bin op .b (qo x) (qo y))
  |some (.slice _)=>some (.bin op .s (qo x) (qo y))
  |some (.func ..)=>some (.bin op .f (qo x) (qo y))
  |some (.pointer _)=>some (.bin op .p (qo x) (qo y))
  |some (.struct _)=>match op with
   |.eql=>some (.eqs t (qo x) (qo y))
   |_=>none
  |_=>some (.bin op .o (qo x) (qo y))
 |.unOp op _ x=>match op with
  |.not=>some (.not (qo x))
  |.neg=>some (.neg (qo x))
  |_=>none
 |.convert src dst x=>match dH T src,dH T dst with
  |some (.int _),some (.int k)=>some (.conv k (qo x))
  |some .string,some .string=>some (.oo (qo x))
  |some (.slice e),some .string=>match dH T e with
   |some (.int .u8)=>some (.KD (qo x))
   |_=>none
  |_,_=>none
 |.fieldAddr s x f=>match dH T s with
  |some (.struct fs)=>match fs[f]? with
   |some fd=>match nW T fd.type with
    |some (_+1)=>some (.uE fd.offset (qo x))
    |_=>none
   |none=>none
  |_=>none
 |.field t x f=>match dH T t with
  |some (.struct fs)=>match fs[f]? with
   |some fd=>match A3 T fd.type with
    |some k=>some (.field k fd.offset (qo x))
    |none=>none
   |none=>none
  |_=>none
 |.indexAddr t x i=>match dH T t with
  |some (.slice e)=>match nW T e with
   |some n=>some (.lx n (qo x) (qo i))
   |none=>none
  |some (.array len e)=>match nW T e with
   |some n=>some (.nj len n (qo x) (qo i))
   |none=>none
  |_=>none
 |.index t x i=>match dH T t with
  |some .string=>some (.sR (qo x) (qo i))
  |some (.array len e)=>match nW T e,A3 T e with
   |some n,some k=>some (.q_ len n k (qo x) (qo i))
   |_,_=>none
  |_=>none
 |.slice t x lo hi mx=>match dH T t with
  |some .string=>some (.slice .str (qo x) (lo.map qo) (hi.map qo) (mx.map qo))
  |some (.slice e)=>match nW T e with
   |some n=>some (.slice (.sl n) (qo x) (lo.map qo) (hi.map qo) (mx.map qo))
   |none=>none
  |_=>none
 |.extract x i=>some (.extract (qo x) i)
 |.makeSlice t l c=>match A1 T t with
  |some e=>match vl T e,nW T e,No T e with
   |some z,some sz,some by_=>match Nat.beq z.cells.size sz && Nat.blt 0 sz with
    |true=>some (.g7 (z.cells.toList.map a8) by_ (qo l) (qo c))
    |false=>none
   |_,_,_=>none
  |none=>none
 |.range t x=>match dH T t with
  |some .string=>some (.sS (qo x))
  |_=>none
 |.next x isStr=>match isStr with
  |true=>some (.oq (qo x))
  |false=>none
 |.makeFunc f first cap=>some (.A0 f (first.toList.map qo) (cap.toList.map qo))
 |.nilCheck x=>some (.uF (qo x))
 |.call c=>match c.callee with
  |.value f=>some (.call (qo f) (c.args.toList.map qo))
  |.builtin b=>match b,c.argTypes.toList,c.args.toList with
   |.len,[t],[x]=>match dH T t with
    |some (.slice _)=>some (.len false (qo x))
    |some .string=>some (.len true (qo x))
    |_=>none
   |.append,[t,t2],[a,b]=>match A1 T t,A1 T t2 with
    |some e,some _=>match vl T e,nW T e,No T e with
     |some z,some sz,some by_=>match Nat.beq z.cells.size sz && Nat.blt 0 by_ with
      |true=>some (.append sz by_ (qo a) (qo b))
      |false=>none
     |_,_,_=>none
    |some e,none=>match dH T t2 with
     |some (.int _)=>match vl T e,nW T e,No T e with
      |some z,some sz,some by_=>match Nat.beq z.cells.size sz && Nat.blt 0 by_ with
       |true=>some (.yw (z.cells.toList.map a8) by_ (qo a) (qo b))
       |false=>none
      |_,_,_=>none
     |_=>none
    |none,_=>none
   |.delete,[t,_],[x,i]=>match dH T t with
    |some (.map kt _)=>match dH T kt with
     |some (.int _)=>some (.del (qo x) (qo i))
     |_=>none
    |_=>none
   |.copy,[t,t2],[a,b]=>match A1 T t,A1 T t2 with
    |some e,some _=>match nW T e with
     |some sz=>some (.copy sz (qo a) (qo b))
     |none=>none
    |_,_=>none
   |.clear,[t],[a]=>match dH T t with
    |some (.slice e)=>match vl T e with
     |some z=>some (.qt (z.cells.toList.map a8) (qo a))
     |none=>none
    |some (.map _ _)=>some (.nk (qo a))
    |_=>none
   |.cap,[t],[a]=>match dH T t with
    |some (.slice _)=>some (.cap (qo a))
    |_=>none
   |.min,_,[x,y]=>some (.min (qo x) (qo y))
   |.max,_,[x,y]=>some (.max (qo x) (qo y))
   |_,_,_=>none
  |.invoke _ _=>none
 |.makeMap t r=>match dH T t with
  |some (.map _ _)=>some (.ft (r.map qo))
  |_=>none
 |.lookup t x i c=>match dH T t with
  |some (.map kt et)=>match dH T kt,vl T et with
   |some (.int _),some z=>some (.look (lift z) c (qo x) (qo i))
   |some (.struct _),some z=>some (.iI kt (lift z) c (qo x) (qo i))
   |some .string,some z=>some (.iI kt (lift z) c (qo x) (qo i))
   |_,_=>none
  |_=>none
 |.mapUpdate t x i y=>match dH T t with
  |some (.map kt _)=>match dH T kt with
   |some (.int _)=>some (.gQ (qo x) (qo i) (qo y))
   |some (.struct _)=>some (.l5 kt (qo x) (qo i) (qo y))
   |some .string=>some (.l5 kt (qo x) (qo i) (qo y))
   |_=>none
  |_=>none
 |.mapEntry t x i=>match dH T t with
  |some (.map kt et)=>match dH T kt,vl T et with
   |some (.int _),some z=>some (.rb (lift z) (qo x) (qo i))
   |_,_=>none
  |_=>none
 |.entryStore t x i y=>match dH T t with
  |some (.map kt _)=>match dH T kt with
   |some (.int _)=>some (.re (qo x) (qo i) (qo y))
   |_=>none
  |_=>none
 |.typeAssert x _ t c=>match dH T t with
  |some (.interface _)=>none
  |some _=>some (.assert t c (qo x))
  |none=>none
 |.panic x=>some (.YX (qo x))
 |.makeInterface t x=>some (.RE t (qo x))
 |_=>none
def fT (q:cB) (f:Nat->AV) (S:aa):Option (AV × aa) :=
 match q with
 |.mv x=>some (x.ev f,S)
 |.pick c a b=>match c.ev f with
  |.v (.bool true)=>some (a.ev f,S)
  |.v (.bool false)=>some (b.ev f,S)
  |_=>none
 |.alloc cs=>yu S cs
 |.box x=>match (aG (x.ev f)).all bl with
  |true=>yu S (aG (x.ev f))
  |false=>none
 |.build cs parts=>match AF f cs parts with
  |some l=>some (.agg l,S)
  |none=>none
 |.rows n rows parts=>match oh n rows (parts.map fun (i,x)=>(i,x.ev f)) with
  |some rows=>some (.sl true rows,S)
  |none=>none
 |.load k x=>match jt k S (x.ev f) with
  |some a=>some (a,S)
  |none=>none
 |.store n x b=>match b.ev f,x.ev f with
  |bv,.pt k sz 0 j=>match S.get k with
   |some (.arr sz' [row] 0 ex)=>match Nat.beq sz sz' && (aG bv).all bl && Nat.beq n (aG bv).length with
    |true=>match Nat.ble (j+(aG bv).length) row.length with
     |true=>match S with|⟨g,x⟩=>some (.v undef,⟨aX g k (some (.arr sz [kO row j (aG bv)] 0 ex)),x⟩)
     |false=>none
    |false=>none
   |_=>none
  |_,_=>none
 |.not x=>match x.ev f with
  |.v (.bool true)=>some (.v (.bool false),S)
  |.v (.bool false)=>some (.v (.bool true),S)
  |_=>none
 |.uE off x=>match x.ev f with
  |.ip row=>some (.ip (row.drop off),S)
  |.pt k sz i j=>some (.pt k sz i (j+off),S)
  |_=>none
 |.field k off x=>match x.ev f with
  |.agg l=>match l7 k l off with
   |some a=>some (a,S)
   |none=>none
  |_=>none
 |.extract x i=>match x.ev f with
  |.aC l=>match l[i]? with
   |some a=>some (a,S)
   |none=>none
  |_=>none
 |.A0 g first cap=>some (.fn g (first.map (·.ev f)) (cap.map (·.ev f)),S)
 |.uF x=>match x.ev f with
  |.ip c=>some (.ip c,S)
  |.pt k sz i j=>some (.pt k sz i j,S)
  |_=>none
 |_=>none
def E1 (op:BinOp) (isB:BK):AV->AV->Option Bool
 |.v (.int k a),.v (.int k' b)=>match decide (k=k') with
  |true=>match op with
   |.eql=>some (a == b)
   |.neq=>some (a != b)
   |.lss=>some (decide (a < b))
   |.leq=>some (decide (a<=b))
   |.gtr=>some (decide (a > b))
   |.geq=>some (decide (a>=b))
   |_=>none
  |false=>none
 |.v (.string a),.v (.string b)=>match op with
  |.eql=>some (a.toList == b.toList)
  |.neq=>some (!(a.toList == b.toList))
  |.lss=>some (Op.bytesLess a.toList b.toList)
  |.leq=>some (Op.bytesLess a.toList b.toList || a.toList == b.toList)
  |.gtr=>some (!(Op.bytesLess a.toList b.toList || a.toList == b.toList))
  |.geq=>some (!Op.bytesLess a.toList b.toList)
  |_=>none
 |.v (.bool a),.v (.bool b)=>match isB,op with
  |.b,.eql=>some (a == b)
  |.b,.neq=>some (!(a == b))
  |_,_=>none
 |_,_=>none
section
variable {P:Program}{w0:World}{n:Nat}{o:Op}{α:AA}{S S':aa}{r:AV}{q:cB}{K:AV->aa->Prop}
theorem nm (hr:res P.toTables o=some q) (h:fT q α.tm S=some (r,S')):aK P w0 o α S (nT r S'):=by
 have e:∀ {a:AV}{T:aa},some (a,T)=some (r,S')->a=r/\T=S':=fun h=>by injection h with h;injection h with h1 h2;exact⟨h1,h2⟩
 have e2:∀ {q:AV × aa},some q=some (r,S')->q.1=r/\q.2=S':=fun h=>by injection h with h;subst h;exact⟨rfl,rfl⟩
 have key:∀ {T:Program->Op->AA->aa->Option (AV × aa)},mF P o α S=some (r,S')->aK P w0 o α S (nT r S'):=fun h=>sN h
 cases o with
 |move x=>obtain rfl:=Option.some.inj hr;rw [fT,aD] at h;exact e h
 |assign x=>obtain rfl:=Option.some.inj hr;rw [fT,aD] at h;exact e h
 |pick c a b =>
  obtain rfl:=Option.some.inj hr
  simp only [fT,aD] at h
  simp only [aK]
  split at h
  ·rename_i hc;rw [hc];exact e h
  ·rename_i hc;rw [hc];exact e h
  ·cases h
 |alloc t =>
  simp only [res,a7,cL,jr,eK,ic,l6] at hr
  split at hr
  ·rename_i z hz
   obtain rfl:=Option.some.inj hr
   simp only [fT] at h
   simp only [aK,hz];rw [mP] at h;exact e2 h
  ·cases hr
 |box t x =>
  obtain rfl:=Option.some.inj hr
  simp only [fT,aD] at h
  simp only [aK]
  split at h
  ·rename_i hx;rw [hx];rw [mP] at h;exact e2 h
  ·cases h
 |build t parts =>
  simp only [res,a7,cL,jr,eK,ic,l6] at hr
  split at hr
  ·rename_i cs hz
   split at hr
   ·rename_i fs hu
    split at hr
    ·rename_i jQ
     split at hr
     ·rename_i l hl
      obtain rfl:=Option.some.inj hr
      simp only [fT] at h
      simp only [aK,oF,hz,hu,jQ,vT hl]
      split at h
      ·rename_i l' jT;simp only [jT,Option.map_some];exact e h
      ·cases h
     ·cases hr
    ·cases hr
   ·rename_i le el hu
    split at hr
    ·rename_i m hm
     split at hr
     ·rename_i l hl
      obtain rfl:=Option.some.inj hr
      simp only [fT] at h
      simp only [aK,oF,hz,hu,hm,vT hl]
      split at h
      ·rename_i l' jT;simp only [jT,Option.map_some];exact e h
      ·cases h
     ·cases hr
    ·cases hr
   ·cases hr
  ·cases hr
 |buildSlice t len parts =>
  simp only [res,a7,cL,jr,eK,ic,l6] at hr
  split at hr
  ·rename_i el he
   split at hr
   ·rename_i z m hz hs
    split at hr
    ·rename_i hb
     obtain rfl:=Option.some.inj hr
     have hm:(parts.toList.map fun (i,x)=>(i,qo x)).map (fun (i,x)=>(i,QO.ev α.tm x))=parts.toList.map fun (i,x)=>(i,α.ev x):=by
      rw [List.map_map]
      apply List.map_congr_left
      rintro⟨i,x⟩ _
      simp [aD]
     simp only [fT] at h
     rw [hm] at h
     simp only [aK,he,hz,hs,hb]
     split at h
     ·rename_i rows vm
      simp only [vm]
      exact e h
     ·cases h
    ·cases hr
   ·cases hr
  ·cases hr
 |load t x =>
  simp only [res,a7,cL,jr,eK,ic,l6] at hr
  split at hr
  ·rename_i k hk
   obtain rfl:=Option.some.inj hr
   simp only [fT,aD] at h
   simp only [aK]
   split at h
   ·rename_i z hz;rw [<-zo hk] at hz;exact aL.mk hz (e h)
   ·cases h
  ·cases hr
 |store t x b =>
  simp only [res,a7,cL,jr,eK,ic,l6] at hr
  split at hr
  ·rename_i m hm
   obtain rfl:=Option.some.inj hr
   simp only [fT,aD] at h
   have hs:sL P S t (α.ev b) (α.ev x)=some S'/\AV.v undef=r:=by
    split at h
    ·rename_i k sz j hb
     unfold sL
     rw [hb]
     split at h
     ·rename_i sz' row ex hk
      split at h
      ·rename_i hc
       split at h
       ·rename_i hl
        simp only [hk,hm,hc,hl,lP]
        obtain⟨h1,h2⟩:=e h
        exact⟨by rw [<-h2],h1⟩
       ·cases h
      ·cases h
     ·cases h
    ·cases h
   simp only [aK]
   exact aL.mk (sM hs.1) ⟨hs.2,rfl⟩
  ·cases hr
 |unOp op t x =>
  simp only [res,a7,cL,jr,eK,ic,l6] at hr
  split at hr
  ·obtain rfl:=Option.some.inj hr
   simp only [fT,aD] at h
   simp only [aK]
   split at h
   ·rename_i hc;rw [hc];exact e h
   ·rename_i hc;rw [hc];exact e h
   ·cases h
  ·obtain rfl:=Option.some.inj hr
   cases h
  ·cases hr
 |fieldAddr s x f =>
  simp only [res,a7,cL,jr,eK,ic,l6] at hr
  split at hr
  ·rename_i fs hu
   split at hr
   ·rename_i fd hf
    split at hr
    ·rename_i m hm
     obtain rfl:=Option.some.inj hr
     simp only [fT,aD] at h
     simp only [aK,hu,hf,hm]
     split at h
     ·rename_i row hx;simp only [hx];exact e h
     ·rename_i k sz i j hx;simp only [hx];exact e h
     ·cases h
    ·cases hr
   ·cases hr
  ·cases hr
 |field t x f =>
  simp only [res,a7,cL,jr,eK,ic,l6] at hr
  split at hr
  ·rename_i fs hu
   split at hr
   ·rename_i fd hf
    split at hr
    ·rename_i k hk
     obtain rfl:=Option.some.inj hr
     simp only [fT,aD] at h
     simp only [aK,hu,hf]
     split at h
     ·rename_i l hx
      simp only [hx]
      split at h
      ·rename_i a ha;rw [<-sT hk] at ha;exact aL.mk ha (e h)
      ·cases h
     ·cases h
    ·cases hr
   ·cases hr
  ·cases hr
 |extract x i =>
  obtain rfl:=Option.some.inj hr
  simp only [fT,aD] at h
  simp only [aK]
  split at h
  ·rename_i l hx
   split at h
   ·rename_i a ha;simp only [hx,ha];exact e h
   ·cases h
  ·cases h
 |makeFunc f first cap =>
  obtain rfl:=Option.some.inj hr
  simp only [fT,List.map_map] at h
  have hm:∀ l:List Operand,l.map ((·.ev α.tm) ∘ qo)=l.map α.ev:=fun l=>List.map_congr_left fun x _=>aD x
  rw [hm,hm] at h
  exact e h
 |nilCheck x =>
  obtain rfl:=Option.some.inj hr
  simp only [fT,aD] at h
  simp only [aK]
  split at h
  ·rename_i c hx;rw [hx];exact e h
  ·rename_i c hx;rw [hx];exact e h
  ·cases h
 |_ =>
  simp only [res,a7,cL,jr,eK,ic,l6] at hr
  repeat' split at hr
  all_goals first|(obtain rfl:=Option.some.inj hr;cases h)|cases hr
end
end Go.Proofs.YtgjfgekaclobaaaGreat
