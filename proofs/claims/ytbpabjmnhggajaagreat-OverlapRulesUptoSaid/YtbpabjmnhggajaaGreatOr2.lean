import Derived.Laws.AppendOwn
import Derived.Laws.CopyRow
import Derived.RangeFuncLeaves
import Derived.Room.Entries
import Derived.Test.YtbpabjmnhggajaaGreatOr1
namespace Go.Proofs.YtbpabjmnhggajaaGreat
set_option linter.all false
open Go.RowKit
variable {r:AV}{a:Act}{ex:Bool}{Q:Exit->Act->World->Prop}{F:Fence}{g:Gh}{rows:List (List AV)}{cs:List AV}{b j n o sz:Nat}{A:Nat->Prop}{α:Type}{v x:Value}{K:Value->Prop}{w:World}{S:af}
inductive DE where
 |ob (k:Nat)
 |del (t:Target) (k:Nat) (i:Int)
def DE.k:DE->Nat
 |.ob k=>k
 |.del _ k _=>k
instance:Coe Nat DE:=⟨DE.ob⟩
def L_ (f:Nat->Nat):DE->Deferred
 |.ob k=>{ target:=.collected (f k),args:=#[] }
 |.del t k i=>{ target:=t,args:=#[.map (some (f k)),.int .i64 i] }
theorem Cp {f a:Nat->Nat}{d:DE}(h:a d.k=f d.k):L_ a d=L_ f d:=by
 cases d with
 |ob k=>have h:a k=f k:=h;simp only[L_,h]
 |del t k i=>have h:a k=f k:=h;simp only[L_,h]
structure AA where
 tm:Nat->AV
 df:List DE
def AA.put (α:AA):Option Tmp->AV->AA
 |some d,a=>⟨bE α.tm d a,α.df⟩
 |none,_=>α
def cK:Value->AV
 |.slice none 0 0=>.sl true []
 |x=>.v x
def lift:Value->AV
 |.agg cs=>.agg (cs.toList.map cK)
 |x=>cK x
def AA.ev (α:AA):Operand->AV
 |.tmp t=>α.tm t
 |.const v=>lift v
 |.global g=>.v (.pointer (some ⟨g,0,none⟩))
 |.func f=>.v (.func (.func f) #[] #[])
section
variable {g g':Gh}{w w':World}
theorem rE (x:Value):aN g w (cK x) x:=by
 unfold cK;split
 ·exact .nil (λ_=>rfl)
 ·exact .v
theorem wZ (x:Value):aN g w (lift x) x:=by
 unfold lift;split
 ·rename_i cs;refine .agg (by simp) (λi a x b c=>?_);simp only[aS_,ba_]at b;obtain⟨y,d,rfl⟩:=b;have:some x=some y:=by grind
  obtain rfl:=oJ_ this;exact rE x
 ·exact rE _
structure cA (g:Gh) (w:World) (n:Nat) (α:AA) (a:Act):Prop where
 size:a.tmps.size=n
 tm:∀t,t < n->aN g w (α.tm t) (a.tmps.getD t undef)
 out:∀t,n<=t->α.tm t=.u
 df:a.defers=α.df.map (L_ g.ob)
 wK:∀d ∈ α.df,g.al d.k
theorem cA.later {α:AA}(b:Later g w g' w') (h:cA g w n α a):cA g' w' n α a :=
 ⟨h.size,λt d=>(h.tm t d).later b,h.out,h.df.trans (aF_ λk c=>(Cp (b.ob _ (h.wK k c))).symm),λk c=>b.al _ (h.wK k c)⟩
theorem cA.ev {α:AA}(h:cA g w n α a) (o:Operand):aN g w (α.ev o) (a.eval o):=by
 cases o with
 |tmp t =>
  show aN g w (α.tm t) (a.tmps.getD t undef);by_cases b:t < n
  ·exact h.tm t b
  ·rw[h.out t (cO_ b)];exact .u
 |const v=>exact wZ v
 |global g=>exact .v
 |func f=>exact .v
theorem cA.put {α:AA}(h:cA g w n α a) {d:Tmp}(f:d < n) {b:AV}(i:aN g w b x):cA g w n (α.put (some d) b) (a.put (some d) x):=by
 refine⟨by simp[Act.put,h.size],λt c=>?_,λt c=>?_,h.df,h.wK⟩
 ·show aN g w (bE α.tm d b t) ((a.tmps.setIfInBounds d x).getD t undef);have e:(a.tmps.setIfInBounds d x).getD t undef=if t=d then x else a.tmps.getD t undef:=by
   simp only[aT_,cP_];by_cases e:d=t
   ·subst e;simp[h.size,f]
   ·grind
  rw[e];by_cases e:t=d
  ·grind[aJ]
  ·rw[aO _ _ e,if_neg e];exact h.tm t c
 ·show bE α.tm d b t=.u;rw[aO _ _ (Nat.ne_of_gt (au_ f c))];exact h.out t c
theorem cA.W9 {α:AA}(h:cA g w n α a) {b:AV}:cA g w n (α.put none b) (a.put none x):=h
end
def kW (F:Fence):Prop:=(∀f,F.fn f)/\F.depth=none/\F.alive=false
theorem kW.inRound (h:kW F) (l:Nat):kW (F.inRound l):=h
theorem kW.plain (h:kW F):kW F.plain:=h
theorem kW.wide:kW Fence.wide:=⟨λ_=>trivial,rfl,rfl⟩
section
variable (P:Program) (w0:World) (rd:Bool) (n:Nat)
def qC (A:Nat->Prop) (g:Gh) (w:World) (ex:Exit) (aE:AA) (S':af):Exit->Act->World->Prop :=
 λa b w'=>a=ex/\∃g',St w0 A g' S' w'/\cA g' w' n aE b/\Ext A g w g' w'
def dN (c:Code) (α:AA) (S:af) (ex:Exit) (aE:AA) (S':af):Prop :=
 ∀(F:Fence) (m:Nat) (A:Nat->Prop) (g:Gh) (a:Act) (w:World),kW F->F.round.isSome=rd->St w0 A g S w->cA g w n α a->c.wpIn F m P (qC w0 n A g w ex aE S') a w
end
section
variable {P:Program}{w0:World}{rd:Bool}{n:Nat}{α dp aE:AA}{S dL S':af}{ex:Exit}{c d:Code}
theorem qC.ext {a:Gh}{b:World}(c:Ext A g w a b) {ex':Exit}{a':Act}{w':World}(h:qC w0 n A a b ex aE S' ex' a' w'):qC w0 n A g w ex aE S' ex' a' w':=by
 obtain⟨d,g',e,f,i⟩:=h;exact⟨d,g',e,f,c.trans i⟩
def ZU (c:Code):Prop:=c=.skip\/∃l,c=.label l
theorem ZU.wp (h:ZU c) {m:Nat}(q:Q .normal a w):c.wpIn F m P Q a w:=by
 rcases h with rfl|⟨l,rfl⟩
 ·exact wpIn_skip q
 ·exact wpIn_label q
theorem dN.skip (h:ZU c):dN P w0 rd n c α S .normal α S:=λF m A g a w e f b d=>h.wp ⟨rfl,g,b,d,Ext.refl ..⟩
theorem dN.exit_ (id:Nat):dN P w0 rd n (.exit id) α S (.exit id) α S:=λF m A g a w d e b c=>wpIn_exit ⟨rfl,g,b,c,Ext.refl ..⟩
theorem dN.ret:dN P w0 rd n .ret α S .ret α S:=λF m A g a w d e b c=>wpIn_ret ⟨rfl,g,b,c,Ext.refl ..⟩
theorem dN.seq (h:dN P w0 rd n c α S .normal dp dL) (k:dN P w0 rd n d dp dL ex aE S'):dN P w0 rd n (.seq c d) α S ex aE S':=by
 intro F m A g a w b f i j;refine wpIn_seq (wpIn_mono (h F m A g a w b f i j) ?_);rintro e l o ⟨rfl,p,q,r,s⟩;exact wpIn_mono (k F m A p l o b f q r) λe a w t=>qC.ext s t
theorem dN.abF (h:dN P w0 rd n c α S ex aE S') (b:ex ≠ .normal):dN P w0 rd n (.seq c d) α S ex aE S':=by
 intro F m A g a w f i j k;refine wpIn_seq (wpIn_mono (h F m A g a w f i j k) ?_);rintro e o p ⟨rfl,l⟩;cases e with
 |normal=>exact absurd rfl b
 |_=>exact⟨rfl,l⟩
theorem Ma {b:Bool}(h:aN g w (.v (.bool b)) x):x=.bool b:=by cases h;rfl
theorem b_ {y:Value}(h:aN g w (.v y) x):x=y:=by cases h;rfl
theorem dN.cond {o:Operand}{t:Bool}(f:α.ev o=.v (.bool t)) (h:dN P w0 rd n (if t then c else d) α S ex aE S'):dN P w0 rd n (.cond o c d) α S ex aE S':=by
 intro F m A g a w i j k b;have e:=b.ev o;rw[f]at e;exact wpIn_cond (Ma e) (h F m A g a w i j k b)
theorem R6 {m:Nat}(h:c.wpIn F m P (λex a w=>(∀l,ex ≠ .goto l)/\Q ex a w) a w):(Code.scope c).wpIn F m P Q a w:=by
 intro b k cs r p q;have d:step P (lone (b.atR a (.code (.scope c)::k)) cs w)=.next (lone (b.atR a (.code c::.inScope c::k)) cs w):=step_lone_go (by simp[stepG,stepG.exec,Frame.atR]);have s:∀(a:Act) (w:World),step P (lone (b.atR a (.inScope c::k)) cs w)=.next (lone (b.atR a k) cs w):=λa w=>step_lone_go (by simp[stepG,stepG.exec,Frame.atR]);have f:(lone (b.atR a (.code (.scope c)::k)) cs w).fenced P F:=fenced_calm p q rfl;obtain⟨e,g,i,⟨t,n⟩,j⟩:=h b (.inScope c::k) cs r p q;cases e with
 |normal=>exact⟨.normal,g,i,n,.head f d (StepsIn.trans j (.one (fenced_calm p q rfl) (s g i)))⟩
 |exit id =>
  have A:exitTo id (.inScope c::k)=exitTo id k:=by simp[exitTo]
  exact⟨.exit id,g,i,n,λu v=>.head f d (j.1 u (by grind)),λx v=>let ⟨o,y,z⟩:=j.2 x (by grind);⟨o,y,.head f d z⟩⟩
 |goto l=>exact absurd rfl (t l)
 |ret=>exact⟨_,g,i,n,.of_steps (.one f d) j⟩
 |panic B=>exact⟨_,g,i,n,.of_steps (.one f d) j⟩
 |outgrown=>exact⟨_,g,i,n,.of_steps (.one f d) j⟩
theorem dN.scope (h:dN P w0 rd n c α S ex aE S') (b:∀l,ex ≠ .goto l):dN P w0 rd n (.scope c) α S ex aE S':=by
 intro F m A g a w d f i j;refine R6 (wpIn_mono (h F m A g a w d f i j) ?_);rintro e o p ⟨rfl,k⟩;exact⟨b,rfl,k⟩
theorem dN.block {id:Nat}(h:dN P w0 rd n c α S ex aE S') (d:ex ≠ .exit id):dN P w0 rd n (.block id c) α S ex aE S':=by
 intro F m A g a w f i k l;refine wpIn_block (wpIn_mono (h F m A g a w f i k l) ?_);rintro e o p ⟨rfl,b⟩;cases e with
 |exit j =>
  have:j ≠ id:=λe=>d (by rw[e]);simp only[Exit.inBlock,this,if_false];exact⟨rfl,b⟩
 |_=>exact⟨rfl,b⟩
theorem dN.R7 {id:Nat}(h:dN P w0 rd n c α S (.exit id) aE S'):dN P w0 rd n (.block id c) α S .normal aE S':=by
 intro F m A g a w b d f i;refine wpIn_block (wpIn_mono (h F m A g a w b d f i) ?_);rintro e k l ⟨rfl,j⟩;simp only[Exit.inBlock,if_true];exact⟨rfl,j⟩
def ze (P:Program) (w0:World) (rd:Bool) (n:Nat) (c:Code) (α:AA) (S:af) (ex:Exit) (aE:AA) (S':af):Prop :=
 ∀(F:Fence) (m:Nat) (A:Nat->Prop) (g:Gh) (a:Act) (w:World),kW F->F.round.isSome=rd->St w0 A g S w->cA g w n α a->∀(b:Frame) (k:List Item) (cs:List Frame),b.roundOf=F.round->F.fn b.fn->F.room (cs.length+1+m) ->
  ∃e d w',qC w0 n A g w ex aE S' e d w'/\ArrivesIn (Machine.fenced P F) P (lone (b.atR a (.code c::.inLoop c::k)) cs w) b k cs e d w'
theorem dN.loop (h:ze P w0 rd n c α S ex aE S'):dN P w0 rd n (.loop c) α S ex aE S':=by
 intro F m A g a w i j l o b k cs p d f;obtain⟨e,q,w',r,s⟩:=h F m A g a w i j l o b k cs p d f;exact⟨e,q,w',r,.of_steps (.one (fenced_calm d f rfl) stepR_loop) s⟩
theorem ze.step (h:dN P w0 rd n c α S .normal dp dL) (k:ze P w0 rd n c dp dL ex aE S'):ze P w0 rd n c α S ex aE S':=by
 intro F m A g a w i j p q b l cs o d f;obtain⟨e,r,s,t,u⟩:=h F m A g a w i j p q b (.inLoop c::l) cs o d f;obtain⟨rfl,v,x,y,z⟩:=t;obtain⟨B,C,D,E,G⟩:=k F m A v r s i j x y b l cs o d f;exact⟨B,C,D,qC.ext z E,.of_steps (StepsIn.trans u (.one (fenced_calm d f rfl) stepR_inLoop)) G⟩
theorem ze.done (h:dN P w0 rd n c α S ex aE S') (f:ex ≠ .normal):ze P w0 rd n c α S ex aE S':=by
 intro F m A g a w i j k o b l cs p q r;obtain⟨e,s,t,d,u⟩:=h F m A g a w i j k o b (.inLoop c::l) cs p q r;obtain⟨rfl,d⟩:=d;exact⟨e,s,t,⟨rfl,d⟩,.pass (x:=.inLoop c) rfl (λ_ _=>.inl f) u⟩
def aG (P:Program) (w0:World) (f:FuncId) (args:List AV) (S:af) (r:AV) (S':af):Prop :=
 (∀(b:Array Value) (w:World),(callFunc f b).run P w=.ok (.enter f b) w) /\
 ∀(F:Fence) (m:Nat) (A:Nat->Prop) (g:Gh) (a:Array Value) (w:World),kW F->St w0 A g S w->mj g w args a ->
  CallsIn F m P f a w λe w'=>∃v g',e=.returned v/\aN g' w' r v/\St w0 A g' S' w'/\Ext A g w g' w'
def BP (P:Program) (w0:World) (k:Nat) (args:List AV) (S:af) (r:AV) (S':af):Prop :=
 ∀(F:Fence) (m:Nat) (A:Nat->Prop) (g:Gh) (a:Array Value) (w:World),kW F->St w0 A g S w->g.al k->mj g w args a->∃l f tmps assign body,(Instr.yield (g.ob k) a).run P w=.ok (.round l f tmps assign body) w /\
  RoundIn F m P l f tmps assign body w λe w'=>∃v g',e=.returned v/\aN g' w' r v/\St w0 A g' S' w'/\Ext A g w g' w'
def ah (P:Program) (w0:World) (f:FuncId) (args:List AV) (r:AV):Prop :=
 Pure r/\∃S',aG P w0 f args af.none_ r S'
end
def bC {α:Type}(o:Option α) (K:α->Prop):Prop:=match o with|some a=>K a|none=>False
theorem bC.out {o:Option α}{K:α->Prop}(h:bC o K):∃a,o=some a/\K a:=by
 cases o with
 |none=>exact h.elim
 |some a=>exact⟨a,rfl,h⟩
theorem bC.mk {o:Option α}{K:α->Prop}{a:α}(h:o=some a) (k:K a):bC o K:=by subst h;exact k
def R9 (P:Program) (t:TypeId):Option Bool :=
 match P.underlying t with
 |some (.struct _)|some (.array _ _)=>some true
 |some _=>some false
 |none=>none
def ep (P:Program) (t:TypeId):Option Nat:=(P.info? t).map (·.size)
def ku (P:Program) (t:TypeId):Option Nat:=(P.info? t).map (·.bytes)
def d_ (P:Program) (t:TypeId):Option Value:=(P.info? t).bind (·.zero)
def R_ (row:List AV) (j n:Nat):List AV:=match j,Nat.beq n row.length with|0,true=>row|_,_=>(row.drop j).take n
def pP (P:Program) (t:TypeId) (row:List AV) (j:Nat):Option AV :=
 match R9 P t,ep P t with
 |some true,some n=>match Nat.ble (j+n) row.length with|true=>some (.agg (R_ row j n))|false=>none
 |some false,_=>row[j]?
 |_,_=>none
def yh (P:Program) (S:af) (t:TypeId):AV->Option AV
 |.ip row=>pP P t row 0
 |.pt k sz i j=>match S.get k with
  |some (.arr a rows _ _)=>match Nat.beq sz a with
   |true=>match rows[i]? with
    |some row=>pP P t row j
    |none=>none
   |false=>none
  |_=>none
 |_=>none
def a7:AV->List AV
 |.agg l=>l
 |a=>[a]
def dh:AV->Bool
 |.v x=>x.oneCell'
 |.agg _|.aL _|.u=>false
 |_=>true
def qk (row:List AV) (j:Nat) (cs:List AV):List AV:=match j,Nat.beq cs.length row.length with|0,true=>cs|_,_=>row.take j++cs++row.drop (j+cs.length)
def sD (P:Program) (S:af) (t:TypeId) (b:AV):AV->Option af
 |.pt k sz i j=>match S.get k with
  |some (.arr a rows 0 ex)=>match Nat.beq sz a && (a7 b).all dh && (match ep P t with|some n=>Nat.beq n (a7 b).length|none=>false) with
   |true=>match rows[i]? with
    |some row=>match Nat.ble (j+(a7 b).length) row.length with
     |true=>some (S.set k (some (.arr sz (rows.set i (qk row j (a7 b))) 0 ex)))
     |false=>none
    |none=>none
   |false=>none
  |_=>none
 |_=>none
def af.new (S:af) (o:Ob):af:=⟨bE S.get S.nx (some o),S.nx+1⟩
def nr (S:af) (cs:List AV):AV × af:=(.pt S.nx cs.length 0 0,S.new (Ob.arr cs.length [cs] 0 true))
def AZ (place:Nat->Option (Nat × Nat)):List AV->List (Nat × AV)->Option (List AV)
 |cells,[]=>some cells
 |cells,(i,a)::rest=>match place i with
  |some (off,size)=>match Nat.beq (a7 a).length size && Nat.ble (off+size) cells.length && (a7 a).all dh with
   |true=>AZ place (qk cells off (a7 a)) rest
   |false=>none
  |none=>none
def Mb (P:Program) (fs:Array Field) (i:Nat):Option (Nat × Nat) :=
 match fs[i]? with
 |some f=>match ep P f.type with|some n=>some (f.offset,n)|none=>none
 |none=>none
def w5 (P:Program) (t:TypeId) (parts:List (Nat × AV)):Option AV :=
 match d_ P t with
 |some (.agg cs)=>match P.underlying t with
  |some (.struct a)=>match a.toList.all λf=>(ep P f.type).isSome with
   |true=>(AZ (Mb P a) (cs.toList.map cK) parts).map .agg
   |false=>none
  |some (.array _ e)=>match ep P e with
   |some n=>(AZ (λi=>some (i*n,n)) (cs.toList.map cK) parts).map .agg
   |none=>none
  |_=>none
 |_=>none
def v8 (size:Nat):List (List AV)->List (Nat × AV)->Option (List (List AV))
 |rows,[]=>some rows
 |rows,(i,a)::rest=>match Nat.beq (a7 a).length size && Nat.blt i rows.length && (a7 a).all dh with
  |true=>v8 size (rows.set i (a7 a)) rest
  |false=>none
def idx {α:Type}(rows:List α) (i:Int):Option α:=if 0<=i then rows[i.toNat]? else none
theorem PV {rows:List α}{k:Nat}{x:α}(h:rows[k]?=some x):idx rows (k:Int)=some x:=by grind[idx]
def rowsOf (S:af):AV->Option (List (List AV))
 |.sl _ rows=>some rows
 |.ob k sz off len _=>match S.get k with
  |some (.arr a rows _ _)=>match Nat.beq sz a with
   |true=>some ((rows.drop off).take len)
   |false=>none
  |_=>none
 |_=>none
def qg:AV->Option Nat
 |.sl _ rows=>some rows.length
 |.ob _ _ _ len _=>some len
 |.v (.string s)=>some s.size
 |_=>none
def isStr:AV->Bool
 |.v (.string _)=>true
 |_=>false
def vp (P:Program) (op:BinOp) (t:TypeId):Value->Value->Option Value
 |.int k a,.int c b=>match decide (k=c) with
  |true=>match op with
   |.eql=>some (.bool (a == b))
   |.neq=>some (.bool (a != b))
   |.lss=>some (.bool (decide (a < b)))
   |.leq=>some (.bool (decide (a<=b)))
   |.gtr=>some (.bool (decide (a > b)))
   |.geq=>some (.bool (decide (a>=b)))
   |_=>none
  |false=>none
 |.string a,.string b=>match op with
  |.eql=>some (.bool (a.toList == b.toList))
  |.neq=>some (.bool (!(a.toList == b.toList)))
  |.lss=>some (.bool (Op.bytesLess a.toList b.toList))
  |.leq=>some (.bool (Op.bytesLess a.toList b.toList || a.toList == b.toList))
  |.gtr=>some (.bool (!(Op.bytesLess a.toList b.toList || a.toList == b.toList)))
  |.geq=>some (.bool (!Op.bytesLess a.toList b.toList))
  |_=>none
 |.bool a,.bool b=>match P.underlying t with
  |some .bool=>match op with
   |.eql=>some (.bool (a == b))
   |.neq=>some (.bool (!(a == b)))
   |_=>none
  |_=>none
 |_,_=>none
def arith:BinOp->Int->Int->Option Int
 |.add,a,b=>some (a+b)
 |.sub,a,b=>some (a - b)
 |.mul,a,b=>some (a*b)
 |_,_,_=>none
def lenOf (P:Program) (t:TypeId) (a:AV):Option Nat:=match P.underlying t,isStr a,qg a with
 |some (.slice _),false,some m=>some m
 |some .string,true,some m=>some m
 |_,_,_=>none
def Eh (S:af) (k:Nat):Option (Nat × List (List AV) × Nat × Bool):=match S.get k with
 |some (.arr sz rows fz ex)=>some (sz,rows,fz,ex)
 |_=>none
theorem G2 {k fz:Nat}(h:Eh S k=some (sz,rows,fz,ex)):S.get k=some (.arr sz rows fz ex):=by grind[Eh]
theorem Ll {k fz:Nat}(h:S.get k=some (.arr sz rows fz ex)):Eh S k=some (sz,rows,fz,ex):=by grind[Eh]
def Ei (P:Program) (w0:World) (K:AV->af->Prop) (S:af) (args:List AV):AV->Prop
 |.v (.func (.func g) first cap)=>match first.toList,cap.toList with
  |[],[]=>∃r S',aG P w0 g args S r S'/\K r S'
  |_,_=>False
 |.fn (.func g) first cap=>∃r S',aG P w0 g (first++args++cap) S r S'/\K r S'
 |.yl k=>∃r S',BP P w0 k args S r S'/\K r S'
 |_=>False
def pH (P:Program) (e:TypeId) (K:AV->af->Prop) (S:af) (more:List (List AV)):AV->Prop
 |.sl true rows=>match more with
  |[]=>K (.sl true rows) S
  |x::more=>match ep P e,ku P e with
   |some sz,some a=>match Nat.blt 0 a with
    |true=>(∀row ∈ rows,row.length=sz)/\(∀row ∈ x::more,row.length=sz)/\(rows.length+(x::more).length)*a<=35184372088832 /\
     K (.ob S.nx sz 0 (rows.length+(x::more).length) none) (S.new (.arr sz (rows++x::more) 0 false))
    |false=>False
   |_,_=>False
 |.ob k sz 0 len none=>bC (Eh S k) λo=>match o with
  |(b,rows,fz,ex)=>match more with
   |[]=>K (.ob k sz 0 len none) S
   |x::more=>match ep P e,ku P e with
    |some d,some a=>match Nat.beq b sz && Nat.beq d sz && Nat.blt 0 a with
     |true=>fz<=len/\len<=rows.length/\(∀row ∈ x::more,row.length=sz/\row.all dh=true)/\(len+(x::more).length)*a<=35184372088832 /\
      K (.ob S.nx sz 0 (len+(x::more).length) none) ((S.set k none).new (.arr sz (rows.take len++x::more) fz false))
     |false=>False
    |_,_=>False
 |.ob k sz off len (some c)=>bC (Eh S k) λo=>match o with
  |(b,rows,fz,ex)=>match more with
   |[]=>K (.ob k sz off len (some c)) S
   |x::more=>match ep P e,ku P e with
    |some d,some a=>match Nat.beq b sz && Nat.beq d sz && Nat.blt 0 a with
     |true=>c=len/\off+len<=rows.length/\(∀row ∈ x::more,row.length=sz)/\(len+(x::more).length)*a<=35184372088832 /\
      K (.ob S.nx sz 0 (len+(x::more).length) none) (S.new (.arr sz ((rows.drop off).take len++x::more) 0 false))
     |false=>False
    |_,_=>False
 |_=>False
def l9 (P:Program) (t:TypeId):Option TypeId:=match P.underlying t with|some (.slice e)=>some e|_=>none
def oY (P:Program) (K:AV->af->Prop) (S:af) (argTypes:List TypeId) (args:List AV):Builtin->Prop
 |.len=>match argTypes,args with
  |[t],[a]=>bC (lenOf P t a) λm=>K (.v (.int .i64 (m:Int))) S
  |_,_=>False
 |.append=>match argTypes,args with
  |[t,t2],[a,b]=>match l9 P t,l9 P t2 with
   |some e,some _=>match (match d_ P e,ep P e with|some z,some sz=>Nat.beq z.cells.size sz|_,_=>false) with
    |true=>bC (rowsOf S b) λmore=>qg b=some more.length/\pH P e K S more a
    |false=>False
   |_,_=>False
  |_,_=>False
 |.min=>match args with
  |[.v (.int k a),.v (.int c b)]=>match decide (k=c) with|true=>K (.v (.int k (min a b))) S|false=>False
  |_=>False
 |.max=>match args with
  |[.v (.int k a),.v (.int c b)]=>match decide (k=c) with|true=>K (.v (.int k (max a b))) S|false=>False
  |_=>False
 |_=>False
def mK:Option AV->Int->Option Int
 |none,d=>some d
 |some (.v (.int _ i)),_=>some i
 |_,_=>none
def r7 (P:Program) (t:TypeId) (K:AV->af->Prop) (S:af) (x:AV) (lo hi a:Option AV):Prop :=
 match x,a with
 |.v (.string s),none=>match P.underlying t,mK lo 0,mK hi s.size with
  |some .string,some l,some h=>0<=l/\l<=h/\h<=s.size/\K (.v (.string (s.extract l.toNat h.toNat))) S
  |_,_,_=>False
 |.sl ex rows,none=>match P.underlying t,mK lo 0,mK hi rows.length with
  |some (.slice e),some l,some h=>(∀row ∈ rows,ep P e=some row.length)/\(ep P e).isSome/\0<=l/\l<=h/\h<=rows.length/\K (.sl false ((rows.take h.toNat).drop l.toNat)) S
  |_,_,_=>False
 |.sl ex rows,some (.v (.int _ m))=>match P.underlying t,mK lo 0,hi with
  |some (.slice e),some l,some (.v (.int _ h))=>(∀row ∈ rows,ep P e=some row.length)/\(ep P e).isSome/\0<=l/\l<=h/\h=m/\h<=rows.length/\K (.sl true ((rows.take h.toNat).drop l.toNat)) S
  |_,_,_=>False
 |.ob k sz off len cx,none=>match P.underlying t,lo,mK hi len with
  |some (.slice e),none,some h=>ep P e=some sz/\0<=h/\h<=len/\K (.ob k sz off h.toNat cx) S
  |some (.slice e),some (.v (.int _ l)),some h=>ep P e=some sz/\0<=l/\l<=h/\h<=len/\(l=h->K (.sl false []) S)/\(l < h->K (.ob k sz (off+l.toNat) (h.toNat - l.toNat) (cx.map (· - l.toNat))) S)
  |_,_,_=>False
 |.ob k sz off len cx,some (.v (.int _ m))=>match P.underlying t,mK lo 0,hi with
  |some (.slice e),some l,some (.v (.int _ h))=>ep P e=some sz/\l=0/\h=m/\h<=len/\0<=h/\K (.ob k sz off h.toNat (some h.toNat)) S
  |_,_,_=>False
 |_,_=>False
def br (t:Bool) (X Y:Prop):Prop:=match t with|true=>X|false=>Y
def gd (want t:Bool) (X Y:Prop):Prop:=match want with|true=>br t X Y|false=>br t Y X
def Lm (S:af) (k:Nat):Option (ByteArray × Nat):=match S.get k with
 |some (.si s pos)=>some (s,pos)
 |_=>none
theorem Uc {k pos:Nat}{s:ByteArray}(h:Lm S k=some (s,pos)):S.get k=some (.si s pos):=by grind[Lm]
def w6 (v:Value) (K:Value->Prop):Prop:=match v with|.bool b=>∃d,b=d/\K (.bool d)|v=>K v
theorem w6.out (h:w6 v K):K v:=by
 unfold w6 at h;split at h
 ·grind
 ·grind
theorem w6.mk (h:K v):w6 v K:=by
 unfold w6;split
 ·grind
 ·grind
def bu (P:Program) (w0:World) (o:Op) (α:AA) (S:af) (K:AV->af->Prop):Prop :=
 match o with
 |.move x|.assign x=>K (α.ev x) S
 |.pick c a b=>match α.ev c with
  |.v (.bool t)=>br t (K (α.ev a) S) (K (α.ev b) S)
  |_=>False
 |.alloc e=>match d_ P e with
  |some z=>K (nr S (z.cells.toList.map cK)).1 (nr S (z.cells.toList.map cK)).2
  |none=>False
 |.box _ x=>match (a7 (α.ev x)).all dh with
  |true=>K (nr S (a7 (α.ev x))).1 (nr S (a7 (α.ev x))).2
  |false=>False
 |.build t parts=>match w5 P t (parts.toList.map λ(i,x)=>(i,α.ev x)) with
  |some a=>K a S
  |none=>False
 |.buildSlice t len parts=>match l9 P t with
  |some e=>match d_ P e,ep P e with
   |some z,some n=>match Nat.ble (len*n) 16777216 && Nat.beq z.cells.size n && Nat.blt 0 n with
    |true=>match v8 n (List.replicate len (z.cells.toList.map cK)) (parts.toList.map λ(i,x)=>(i,α.ev x)) with
     |some rows=>K (.sl true rows) S
     |none=>False
    |false=>False
   |_,_=>False
  |none=>False
 |.load t x=>bC (yh P S t (α.ev x)) λa=>K a S
 |.store t x b=>bC (sD P S t (α.ev b) (α.ev x)) λS'=>K (.v undef) S'
 |.binOp op t x y _=>match α.ev x,α.ev y with
  |.v (.int k a),.v (.int u b)=>match arith op a b with
   |some c=>match decide (k=u) with|true=>∃d,k.wrap c=d/\K (.v (.int k d)) S|false=>False
   |none=>match vp P op t (.int k a) (.int u b) with
    |some v=>w6 v λv=>K (.v v) S
    |none=>False
  |.v (.string a),.v (.string b)=>match op with
   |.add=>a.size+b.size<=9223372036854775807/\K (.v (.string (a++b))) S
   |_=>match vp P op t (.string a) (.string b) with
    |some v=>w6 v λv=>K (.v v) S
    |none=>False
  |.v a,.v b=>match vp P op t a b with
   |some v=>w6 v λv=>K (.v v) S
   |none=>False
  |_,_=>False
 |.unOp op _ x=>match op,α.ev x with
  |.not,.v (.bool b)=>K (.v (.bool (!b))) S
  |.neg,.v (.int k a)=>∃d,k.wrap (0 - a)=d/\K (.v (.int k d)) S
  |_,_=>False
 |.convert src h x=>match P.underlying src,P.underlying h,α.ev x with
  |some (.int _),some (.int k),.v (.int _ a)=>∃d,k.wrap a=d/\K (.v (.int k d)) S
  |some .string,some .string,.v (.string s)=>K (.v (.string s)) S
  |_,_,_=>False
 |.fieldAddr s x f=>match P.underlying s with
  |some (.struct m)=>match m[f]? with
   |some g=>match ep P g.type with
    |some (_+1)=>match α.ev x with
     |.ip row=>K (.ip (row.drop g.offset)) S
     |.pt k sz i j=>K (.pt k sz i (j+g.offset)) S
     |_=>False
    |_=>False
   |none=>False
  |_=>False
 |.field t x f=>match P.underlying t with
  |some (.struct m)=>match m[f]? with
   |some g=>match α.ev x with
    |.agg l=>bC (pP P g.type l g.offset) λa=>K a S
    |_=>False
   |none=>False
  |_=>False
 |.indexAddr t x i=>match P.underlying t,α.ev x,α.ev i with
  |some (.slice e),.sl _ rows,.v (.int _ k)=>match ep P e with
   |some n=>bC (idx rows k) λrow=>(∀r ∈ rows,r.length=n)/\K (.ip row) S
   |none=>False
  |some (.slice e),.ob k sz off len _,.v (.int _ i)=>ep P e=some sz/\0<=i/\i < len/\K (.pt k sz (off+i.toNat) 0) S
  |some (.array len e),.pt k sz i j,.v (.int _ q)=>match ep P e with
   |some n=>0<=q/\q < len/\K (.pt k sz i (j+q.toNat*n)) S
   |none=>False
  |some (.array len e),.ip row,.v (.int _ q)=>match ep P e with
   |some n=>0<=q/\q < len/\K (.ip (row.drop (q.toNat*n))) S
   |none=>False
  |_,_,_=>False
 |.index t x i=>match P.underlying t,α.ev x,α.ev i with
  |some .string,.v (.string s),.v (.int _ k)=>bC (idx s.data.toList k) λb=>K (.v (.int .u8 b.toNat)) S
  |some (.array len e),.agg l,.v (.int _ q)=>match ep P e with
   |some n=>bC (pP P e l (q.toNat*n)) λa=>0<=q/\q < len/\K a S
   |none=>False
  |_,_,_=>False
 |.slice t x w A B=>r7 P t K S (α.ev x) (w.map α.ev) (A.map α.ev) (B.map α.ev)
 |.extract x i=>match α.ev x with
  |.aL l=>match l[i]? with
   |some a=>K a S
   |none=>False
  |_=>False
 |.makeSlice t l c=>match l9 P t,α.ev l,α.ev c with
  |some e,.v (.int _ a),.v (.int _ b)=>match d_ P e,ep P e,ku P e with
   |some z,some sz,some p=>match Nat.beq z.cells.size sz && Nat.blt 0 sz with
    |true=>0<=a/\a=b/\a*p<=35184372088832/\a<=9223372036854775807/\K (.ob S.nx sz 0 a.toNat none) (S.new (.arr sz (List.replicate a.toNat (z.cells.toList.map cK)) 0 true))
    |false=>False
   |_,_,_=>False
  |_,_,_=>False
 |.range t x=>match P.underlying t,α.ev x with
  |some .string,.v (.string s)=>K (.pt S.nx 0 0 0) (S.new (.si s 0))
  |_,_=>False
 |.next x isStr=>match isStr,α.ev x with
  |true,.pt k _ 0 0=>bC (Lm S k) λo=>match o with
   |(s,pos)=>∃d,decide (pos < s.size)=d/\br d (K (.aL [.v (.bool true),.v (.int .i64 pos),.v (.int .i32 (Utf8.decode s pos).1)]) (S.set k (some (.si s (pos+(Utf8.decode s pos).2))))) (K (.aL [.v (.bool false)]) S)
  |_,_=>False
 |.makeFunc f first cap=>K (.fn f (first.toList.map α.ev) (cap.toList.map α.ev)) S
 |.nilCheck x=>match α.ev x with
  |.ip c=>K (.ip c) S
  |.pt k sz i j=>K (.pt k sz i j) S
  |_=>False
 |.call c=>match c.callee with
  |.value f=>Ei P w0 K S (c.args.toList.map α.ev) (α.ev f)
  |.builtin b=>oY P K S c.argTypes.toList (c.args.toList.map α.ev) b
  |.invoke _ _=>False
 |_=>False
def uG (ops:Array Oper) (α:AA) (j:Nat):Option (Option Bool) :=
 match (ops[j]?).bind (·.dst) with
 |some t=>match α.tm t with|.v (.bool b)=>some (some b)|.v (.tuple _)=>some none|_=>none
 |none=>none
def A0:List Oper->Nat->Option Tmp
 |[],_=>none
 |o::_,0=>o.dst
 |_::l,j+1=>A0 l j
theorem Mc:∀(l:List Oper) (j:Nat),A0 l j=(l[j]?).bind (·.dst)
 |[],j=>by simp[A0]
 |o::l,0=>by simp[A0]
 |o::l,j+1=>by simp[A0,Mc l j]
def ZV (ops:List Oper) (α:AA) (j:Nat):Option (Option Bool) :=
 match A0 ops j with
 |some t=>match α.tm t with|.v (.bool b)=>some (some b)|.v (.tuple _)=>some none|_=>none
 |none=>none
theorem CG {ops:Array Oper}{α:AA}:ZV ops.toList α j=uG ops α j:=by grind[ZV,uG,Mc]
def qE (n:Nat) (d:Option Tmp):Bool:=match d with|some d=>Nat.blt d n|none=>true
theorem jh (b o j:Nat):(⟨b,o,none⟩:Addr).add j=⟨b,o+j,none⟩:=by unfold Addr.add;split<;>simp_all
section
variable {P:Program}{g:Gh}{w:World}{S:af}{t:TypeId}
theorem o7 (h:ep P t=some n):∃i,P.info? t=some i/\i.size=n:=by
 unfold ep at h;obtain⟨i,a,e⟩:=ba_.1 h;exact⟨i,a,e⟩
theorem c6 (h:ep P t=some n):(sizeOf t).run P w=.ok n w:=by
 obtain⟨i,a,rfl⟩:=o7 h;simp[sizeOf,typeInfo,a]
theorem o8 {z:Value}(h:d_ P t=some z):(zeroValue t).run P w=.ok z w:=by
 unfold d_ at h;obtain⟨i,a,e⟩:=co_.1 h;simp[zeroValue,typeInfo,a,e]
theorem A1 {b:Bool}(h:R9 P t=some b):(isAgg t).run P w=.ok b w:=by
 unfold R9 at h;cases a:P.underlying t with
 |none=>rw[a]at h;cases h
 |some d =>
  rw[a]at h;simp only[isAgg,Sem.run_bind,run_underlying a,Result.andThen_ok];cases d<;>simp_all
def Cells (g:Gh) (w:World) (b o:Nat) (row:List AV):Prop:=∀(j:Nat) (a:AV),row[j]?=some a->∃x,w.cell? ⟨b,o+j,none⟩=some x/\aN g w a x
theorem Cells.list {b:Nat}:∀{row:List AV}{o:Nat},Cells g w b o row->∃cs:List Value,cs.length=row.length/\(∀j x,cs[j]?=some x->w.cell? ⟨b,o+j,none⟩=some x)/\∀(j:Nat) (a:AV) (x:Value),row[j]?=some a->cs[j]?=some x->aN g w a x
 |[],o,h=>⟨[],rfl,λj x e=>by grind,λj a x d=>by grind⟩
 |a::row,o,h=>by
  obtain⟨x,e,i⟩:=h 0 a rfl;obtain⟨cs,k,l,m⟩:=Cells.list (row:=row) (o:=o+1) (λj a d=>by
   obtain⟨y,c,f⟩:=h (j+1) a (by grind);exact⟨y,by rw[<-c];congr 2;omega,f⟩)
  refine⟨x::cs,by grind,λj y c=>?_,λj n y d c=>?_⟩
  ·grind
  ·grind
theorem Cells.drop {row:List AV}(h:Cells g w b o row) (j:Nat):Cells g w b (o+j) (row.drop j):=λi a c=>by
 rw[bY_]at c;obtain⟨x,e,d⟩:=h (j+i) a c;exact⟨x,by grind,d⟩
theorem Cells.take {row:List AV}(h:Cells g w b o row) (n:Nat):Cells g w b o (row.take n):=λi a c=>by
 rw[bG_]at c;split at c
 ·exact h i a c
 ·grind
theorem P5 (row:List AV) (j n:Nat):R_ row j n=(row.drop j).take n:=by
 unfold R_;split
 ·rename_i h;have:=aH_ h;subst this;simp
 ·rfl
theorem ES {row:List AV}(h:pP P t row j=some r) (e:Cells g w b o row):∃x,(loadVar t ⟨b,o+j,none⟩).run P w=.ok x w/\aN g w r x:=by
 unfold pP at h;split at h
 ·rename_i n c k;split at h
  ·rename_i d;have d:=aq_ d;obtain rfl:=oJ_ h;rw[P5];obtain⟨cs,q,s,l⟩:=((e.drop j).take n).list;have m:cs.length=n:=by grind
   refine⟨.agg cs.toArray,?_,.agg (by grind) (λi a x c f=>l i a x c (by grind))⟩;have:=run_loadCells_list (P:=P) (w:=w) ⟨b,o+j,none⟩ cs (λi v u=>by grind[jh]);simp only[loadVar,Sem.run_bind,A1 c,Result.andThen_ok,if_true,c6 k];rw[<-m,this]
   rfl
  ·grind
 ·rename_i c;obtain⟨x,f,p⟩:=e j r h;refine⟨x,?_,p⟩;simp only[loadVar,Sem.run_bind,A1 c,Result.andThen_ok,if_false,bn_,run_load,f]
 ·grind
theorem Ud {cp:Nat}{fz:Nat}(h:eU g w b cp (.arr sz rows fz ex)) {i:Nat}{row:List AV}(c:rows[i]?=some row):Cells g w b (i*sz) row:=by
 obtain⟨cs,d,e,n,o,p,f,q,r⟩:=h;intro j a k;obtain⟨x,l,m⟩:=(f i row c).2 j a k;exact⟨x,by rw[cell_of_row _ _ _ cs d (0,0) e];exact l,m⟩
theorem FG (h:aN g w (.ip cs) v):∃b o,v=.pointer (some ⟨b,o,none⟩)/\Cells g w b o cs:=by
 cases h with
 |ip h d=>exact⟨_,_,rfl,λj a c=>⟨_,(h j a c).2,d j a c⟩⟩
theorem ET {w0:World}{a:AV}(d:St w0 A g S w) (h:yh P S t a=some r) (e:aN g w a v):∃b o x,v=.pointer (some ⟨b,o,none⟩)/\(loadVar t ⟨b,o,none⟩).run P w=.ok x w/\aN g w r x:=by
 unfold yh at h;split at h
 ·grind[FG,ES]
 ·rename_i k sz i j;split at h
  ·rename_i f rows fz ex l;split at h
   ·rename_i c;have c:=aH_ c;subst c;split at h
    ·rename_i row m;cases e with
     |pt n =>
      obtain⟨x,p,q⟩:=ES h (Ud (d.cT k _ l n).2.2 m);exact⟨_,_,x,rfl,p,q⟩
    ·grind
   ·grind
  ·grind
 ·grind
theorem A3 {a:AV}(h:dh a=true) (b:aN g w a x):x.oneCell'=true:=by
 cases b<;>simp_all[dh,Value.oneCell']
theorem sE {a:AV}(h:(a7 a).all dh=true) (f:aN g w a x):x.cells.size=(a7 a).length/\(∀(i:Nat) (b:AV) (y:Value),(a7 a)[i]?=some b->x.cells[i]?=some y->aN g w b y)/\∀y ∈ x.cells.toList,y.oneCell'=true:=by
 have one:a7 a=[a]->x.cells.size=(a7 a).length/\(∀(i:Nat) (b:AV) (y:Value),(a7 a)[i]?=some b->x.cells[i]?=some y->aN g w b y):=by
  intro e;rw[e]at h ⊢;have c:x.oneCell'=true:=A3 (by grind) f;have k:x.cells=#[x]:=by cases x<;>simp_all[Value.cells,Value.oneCell']
  rw[k];refine⟨rfl,λi b y c d=>?_⟩;cases i with
  |zero=>simp at c d;subst c d;exact f
  |succ i=>simp at c
 have key:x.cells.size=(a7 a).length/\(∀(i:Nat) (b:AV) (y:Value),(a7 a)[i]?=some b->x.cells[i]?=some y->aN g w b y):=by
  cases a with
  |agg l=>cases f with|agg m n=>exact⟨m,n⟩
  |_=>exact one rfl
 refine⟨key.1,key.2,λy o=>?_⟩;obtain⟨i,p,rfl⟩:=List.getElem_of_mem o;have j:i < (a7 a).length:=by grind
 have c:(a7 a)[i]?=some (a7 a)[i]:=ai_ j;have d:x.cells[i]?=some x.cells.toList[i]:=by grind
 exact A3 (aP_.1 h _ (cp_ j)) (key.2 i _ _ c d)
theorem IH (row:List AV) (j:Nat) (cs:List AV):qk row j cs=row.take j++cs++row.drop (j+cs.length):=by
 unfold qk;split
 ·rename_i h;have:=aH_ h;simp[this]
 ·rfl
theorem EU {row:List AV}(h:j+cs.length<=row.length):(qk row j cs).length=row.length:=by grind[IH]
theorem zF (row cs:List α) (j:Nat) (h:j+cs.length<=row.length) (q:Nat):(row.take j++cs++row.drop (j+cs.length))[q]?=if q < j then row[q]? else if q < j+cs.length then cs[q - j]? else row[q]?:=by grind
theorem CH {w0:World}{a b:AV}{S':af}(O:St w0 A g S w) (h:sD P S t b a=some S') (hv:aN g w a v) (hx:aN g w b x) :
  ∃c o w',v=.pointer (some ⟨c,o,none⟩)/\(storeVar t ⟨c,o,none⟩ x).run P w=.ok () w'/\S'.nx=S.nx/\Ext A g w g w'/\St w0 A g S' w':=by
 unfold sD at h;split at h
 ·rename_i k sz i j;split at h
  ·rename_i sz' rows ex Q;split at h
   ·rename_i R;simp only[al_]at R;obtain⟨⟨H,nL⟩,D⟩:=R;have H:=aH_ H;subst H;split at D
    ·rename_i n hs;have D:=aH_ D;split at h
     ·rename_i row E;split at h
      ·rename_i m;have m:=aq_ m;obtain rfl:=oJ_ h;obtain⟨s,I,K⟩:=sE nL hx;cases hv with
       |pt T =>
        obtain⟨k2,k3,k4⟩:=O.cT k _ Q T;obtain⟨cs,L,M,h2,h3,h4,u,h6,U⟩:=k4;have V:i < rows.length:=(ar_.1 E).1;have ic:=(u i row E).1;have hmul:i*sz+sz<=rows.length*sz:=by
         have:=aO_ sz (show i+1<=rows.length from V)
         rwa [aJ_,br_]at this
        have arA:rows.length*sz<=g.cp k*sz:=aO_ sz h3;have o9:(i*sz+j)+0+x.cells.toList.length<=cs.size:=by grind
        have N:=run_storeCells_at P (g.ob k) (i*sz+j) L x.cells.toList 0 cs w M o9 K;simp only[bs_]at N;obtain⟨d,W⟩:∃d,d=(cs.toList.take (i*sz+j)++x.cells.toList++cs.toList.drop (i*sz+j+x.cells.toList.length)).toArray:=⟨_,rfl⟩;rw[<-W]at N;have X:∀q,d[q]?=if q < i*sz+j then cs[q]? else if q < i*sz+j+(a7 b).length then x.cells[q - (i*sz+j)]? else cs[q]?:=by
         intro q;rw[W,cq_,zF _ _ _ (by grind)];simp only[bd_,bh_,s]
        have hlen:d.size=cs.size:=by grind
        obtain⟨hE,eC⟩:=O.row Q T M (cs':=d) (ob:=.arr sz (rows.set i (qk row j (a7 b))) 0 ex) (λJ=>⟨by simp,by simp⟩) (λq hq=>absurd ((U q).1 hq) (by simp)) (λF=>by
         refine⟨d,L,setRow_heap w _ cs d L (0,0) M,hlen.trans h2,by grind,λhe=>by grind,λp Y z=>?_,ax_ _,U⟩;by_cases e:p=i
         ·subst e;rw[cQ_ V]at z;obtain rfl:=oJ_ z;refine⟨(EU m).trans ic,λf G l=>?_⟩;rw[IH,zF _ _ _ m]at l;rw[X];by_cases Z:f < j
          ·rw[if_pos Z]at l;rw[if_pos (by omega)];obtain⟨y,r,B⟩:=(u _ row E).2 f G l;exact⟨y,r,B.later F⟩
          ·rw[if_neg Z]at l;rw[if_neg (by omega)];by_cases c2:f < j+(a7 b).length
           ·rw[if_pos c2]at l;rw[if_pos (by omega),show p*sz+f - (p*sz+j)=f - j by omega];have C:f - j < x.cells.size:=by grind
            exact⟨x.cells[f - j],aG_ C,(I _ _ _ l (aG_ C)).later F⟩
           ·rw[if_neg c2]at l;rw[if_neg (by omega)];obtain⟨y,r,B⟩:=(u _ row E).2 f G l;exact⟨y,r,B.later F⟩
         ·rw[dl_ (Ne.symm e)]at z;refine⟨(u p Y z).1,λf G l=>?_⟩;obtain⟨y,r,B⟩:=(u p Y z).2 f G l;have lX:f < sz:=by grind
          refine⟨y,?_,B.later F⟩;rw[X];rcases Nat.lt_or_gt_of_ne e with c|c
          ·have:p*sz+sz<=i*sz:=by
            have:=aO_ sz (show p+1<=i from c)
            rwa [aJ_,br_]at this
           rw[if_pos (by omega)];exact r
          ·have:i*sz+sz<=p*sz:=by
            have:=aO_ sz (show i+1<=p from c)
            rwa [aJ_,br_]at this
           rw[if_neg (by omega),if_neg (by omega)];exact r)
        refine⟨_,_,_,rfl,?_,rfl,hE,eC⟩;have e:x.cells.size=n:=s.trans D.symm;simp only[storeVar,Sem.run_bind,c6 hs,Result.andThen_ok,e,ne_eq,not_true,if_false];exact N
      ·grind
     ·grind
    ·grind
   ·grind
  ·grind
 ·grind
end
inductive II {α β:Type}(R:α->β->Prop):List α->List β->Prop where
 |nil:II R [] []
 |cons {a:α}{b:β}{l:List α}{m:List β}(h:R a b) (t:II R l m):II R (a::l) (b::m)
section
variable {P:Program}{g:Gh}{w:World}{S:af}
theorem CJ (off:Nat):∀(l:List Value) (k:Nat) (cs:Array Value),((l.zipIdx k).foldl (λcs (p:Value × Nat)=>cs.setIfInBounds (off+p.2) p.1) cs).size=cs.size /\
  (off+k+l.length<=cs.size->∀q,((l.zipIdx k).foldl (λcs (p:Value × Nat)=>cs.setIfInBounds (off+p.2) p.1) cs)[q]?=if q < off+k then cs[q]? else if q < off+k+l.length then l[q - (off+k)]? else cs[q]?)
 |[],k,cs=>⟨rfl,λ_ q=>by simp only[aN_,bs_,List.zipIdx_nil,List.foldl_nil];split<;>first|rfl|(rename_i c;rw[if_neg c])⟩
 |v::l,k,cs=>by
  obtain⟨d,b⟩:=CJ off l (k+1) (cs.setIfInBounds (off+k) v);simp only[List.zipIdx_cons,cR_];refine⟨by grind,λa q=>?_⟩;simp only[aw_]at a;rw[b (by grind) q];simp only[cP_,aw_];by_cases e:q < off+k
  ·grind
  ·grind
def qR (g:Gh) (w:World) (l:List AV) (cs:Array Value):Prop:=cs.size=l.length/\∀(i:Nat) (a:AV) (x:Value),l[i]?=some a->cs[i]?=some x->aN g w a x
theorem qR.cK (cs:Array Value):qR g w (cs.toList.map cK) cs:=by
 refine⟨by simp,λi a x b c=>?_⟩;simp only[aS_,ba_]at b;obtain⟨y,d,rfl⟩:=b;have:some x=some y:=by grind
 obtain rfl:=oJ_ this;exact rE x
theorem qR.lay {l:List AV}{cs cs':Array Value}(h:qR g w l cs) {a:AV}(f:(a7 a).all dh=true) (j:aN g w a x) {off:Nat}(e:off+(a7 a).length<=l.length)
  (k:cs'.size=cs.size) (m:∀q,cs'[q]?=if q < off then cs[q]? else if q < off+x.cells.size then x.cells[q - off]? else cs[q]?):qR g w (qk l off (a7 a)) cs':=by
 obtain⟨n,o,p⟩:=sE f j;refine⟨by rw[k,h.1,EU e],λi b y c d=>?_⟩;rw[IH,zF _ _ _ e]at c;rw[m,n]at d;by_cases d1:i < off
 ·rw[if_pos d1]at c d;exact h.2 i b y c d
 ·rw[if_neg d1]at c d;by_cases d2:i < off+(a7 a).length
  ·grind
  ·rw[if_neg d2]at c d;exact h.2 i b y c d
theorem A4 {place:Nat->Option (Nat × Nat)}:∀{parts:List (Nat × AV)}{k:List (Nat × Value)}{l r:List AV}{cs:Array Value},AZ place l parts=some r->qR g w l cs ->
  II (λ(p:Nat × AV) (q:Nat × Value)=>p.1=q.1/\aN g w p.2 q.2) parts k->∃cs',Instr.fill place cs k=some cs'/\qR g w r cs'
 |[],_,l,r,cs,h,b,c=>by
  cases c;obtain rfl:=oJ_ h;exact⟨cs,rfl,b⟩
 |(i,a)::rest,_,l,r,cs,h,b,c=>by
  cases c with
  |@cons _ q _ C t u =>
   obtain⟨j,x⟩:=q;obtain⟨e,d⟩:=t;simp only at e d;subst e;simp only[AZ]at h;split at h
   ·rename_i off size v;split at h
    ·rename_i m;simp only[al_]at m;obtain⟨⟨n,o⟩,s⟩:=m;have n:=aH_ n;have o:=aq_ o;obtain⟨y,D,E⟩:=sE s d;have f:=CJ off x.cells.toList 0 cs;have F:off+x.cells.size<=cs.size:=by rw[b.1,y];omega
     have f2:=f.2 (by grind);have z:=b.lay (cs':=(x.cells.toList.zipIdx 0).foldl (λcs (p:Value × Nat)=>cs.setIfInBounds (off+p.2) p.1) cs) (off:=off) s d (by omega) f.1 (λq=>by grind);obtain⟨cs',A,B⟩:=A4 h z u;refine⟨cs',?_,B⟩;rw[<-A];simp only[Instr.fill,v];rw[if_neg (by grind)];congr 1;rw[<-cS_,dm_]
    ·grind
   ·grind
theorem yj {n:Nat}{α:AA}{a:Act}(b:cA g w n α a):∀(parts:List (Nat × Operand)),
  II (λ(p:Nat × AV) (q:Nat × Value)=>p.1=q.1/\aN g w p.2 q.2) (parts.map λ(i,x)=>(i,α.ev x)) (parts.map λ(i,x)=>(i,a.eval x))
 |[]=>.nil
 |(i,x)::rest=>.cons ⟨rfl,b.ev x⟩ (yj b rest)
theorem JA:∀(fs:List Field),(fs.all λ(f:Field)=>(ep P f.type).isSome)=true->∃pl:List (Nat × Nat),fs.mapM (λ(f:Field)=>(P.info? f.type).map λi=>(f.offset,i.size))=some pl /\
  ∀i:Nat,pl[i]?=match fs[i]? with|some f=>(match ep P f.type with|some n=>some (f.offset,n)|none=>none)|none=>none
 |[],_=>⟨[],by simp,λi=>by simp⟩
 |f::fs,h=>by
  simp only[aY_,al_]at h;obtain⟨n,a⟩:=cT_.1 h.1;obtain⟨pl,c,d⟩:=JA fs h.2;have b:=a;unfold ep at b;obtain⟨i,g,e⟩:=ba_.1 b;refine⟨(f.offset,n)::pl,by simp[List.mapM_cons,g,c,e],λi=>?_⟩;cases i with
  |zero=>simp[a]
  |succ i=>simpa using d i
theorem O7 {α:AA}{t:TypeId}{parts:Array (Nat × Operand)}(y:cA g w n α a) (h:w5 P t (parts.toList.map λ(i,x)=>(i,α.ev x))=some r) :
  ∃v,(Instr.build t (parts.map λ(i,x)=>(i,a.eval x))).run P w=.ok v w/\aN g w r v:=by
 have p:=yj y parts.toList;unfold w5 at h;split at h
 ·rename_i cs z;have c:=z;unfold d_ at c;obtain⟨it,q,s⟩:=co_.1 c;split at h
  ·rename_i u j;split at h
   ·rename_i A;obtain⟨l,k,rfl⟩:=ba_.1 h;obtain⟨b,f,d⟩:=A4 k (qR.cK cs) p;obtain⟨pl,B,C⟩:=JA u.toList A;refine⟨.agg b,run_build w t _ b ?_,.agg d.1 d.2⟩;have e:Mb P u=λx=>pl.toArray[x]?:=by
     funext i;rw[cq_,C i,bd_]
     rfl
    rw[e]at f;simp only[Program.built,q,j,s,B,bM_];exact f
   ·grind
  ·rename_i len e j;split at h
   ·rename_i m D;obtain⟨l,k,rfl⟩:=ba_.1 h;obtain⟨b,f,d⟩:=A4 k (qR.cK cs) p;refine⟨.agg b,run_build w t _ b ?_,.agg d.1 d.2⟩;obtain⟨E,o,rfl⟩:=o7 D;simp only[Program.built,q,j,s,o,bM_];exact f
   ·grind
  ·grind
 ·grind
end
end Go.Proofs.YtbpabjmnhggajaaGreat
