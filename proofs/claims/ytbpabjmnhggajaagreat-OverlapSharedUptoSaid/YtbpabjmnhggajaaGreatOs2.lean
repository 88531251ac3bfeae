import Derived.Laws.AppendOwn
import Derived.Laws.CopyRow
import Derived.RangeFuncLeaves
import Derived.Room.Entries
import Derived.Test.YtbpabjmnhggajaaGreatOs1
namespace Go.Proofs.YtbpabjmnhggajaaGreat
set_option linter.unusedVariables false
set_option linter.unusedSimpArgs false
open Go.RowKit
inductive DE where
 |ob (k:Nat)
 |del (t:Target) (k:Nat) (i:Int)
def DE.k:DE->Nat
 |.ob k=>k
 |.del _ k _=>k
instance:Coe Nat DE:=⟨DE.ob⟩
def H3 (f:Nat->Nat):DE->Deferred
 |.ob k=>{ target:=.collected (f k),args:=#[] }
 |.del t k i=>{ target:=t,args:=#[.map (some (f k)),.int .i64 i] }
theorem yC {f f':Nat->Nat}{d:DE}(h:f' d.k=f d.k):H3 f' d=H3 f d:=by
 cases d with
 |ob k=>have h:f' k=f k:=h;simp only[H3,h]
 |del t k i=>have h:f' k=f k:=h;simp only[H3,h]
structure AA where
 tm:Nat->AV
 df:List DE
def AA.put (α:AA):Option Tmp->AV->AA
 |some d,a=>⟨a7 α.tm d a,α.df⟩
 |none,_=>α
def bJ:Value->AV
 |.slice none 0 0=>.sl true []
 |x=>.v x
def lift:Value->AV
 |.agg cs=>.agg (cs.toList.map bJ)
 |x=>bJ x
def AA.ev (α:AA):Operand->AV
 |.tmp t=>α.tm t
 |.const v=>lift v
 |.global g=>.v (.pointer (some ⟨g,0,none⟩))
 |.func f=>.v (.func (.func f) #[] #[])
section
variable {g g':Gh}{w w':World}
theorem lM (x:Value):aF g w (bJ x) x:=by
 unfold bJ;split
 ·exact .nil (fun _=>rfl)
 ·exact .v
theorem tu (x:Value):aF g w (lift x) x:=by
 unfold lift;split
 ·rename_i cs;refine .agg (by simp) (fun i a x h1 h2=>?_);simp only[List.getElem?_map,Option.map_eq_some_iff] at h1;obtain⟨y,hy,rfl⟩:=h1;have:some x=some y:=by grind
  obtain rfl:=oJ_ this;exact lM x
 ·exact lM _
structure bR (g:Gh) (w:World) (n:Nat) (α:AA) (a:Act):Prop where
 size:a.tmps.size=n
 tm:∀ t,t < n->aF g w (α.tm t) (a.tmps.getD t undef)
 out:∀ t,n<=t->α.tm t=.u
 df:a.defers=α.df.map (H3 g.ob)
 rY:∀ d ∈ α.df,g.al d.k
theorem bR.later {n:Nat}{α:AA}{a:Act}(hL:Later g w g' w') (h:bR g w n α a):bR g' w' n α a :=
 ⟨h.size,fun t ht=>(h.tm t ht).later hL,h.out,h.df.trans (List.map_congr_left fun k hk=>(yC (hL.ob _ (h.rY k hk))).symm),fun k hk=>hL.al _ (h.rY k hk)⟩
theorem bR.ev {n:Nat}{α:AA}{a:Act}(h:bR g w n α a) (o:Operand):aF g w (α.ev o) (a.eval o):=by
 cases o with
 |tmp t =>
  show aF g w (α.tm t) (a.tmps.getD t undef);by_cases ht:t < n
  ·exact h.tm t ht
  ·rw[h.out t (Nat.le_of_not_lt ht)];exact .u
 |const v=>exact tu v
 |global g=>exact .v
 |func f=>exact .v
theorem bR.put {n:Nat}{α:AA}{a:Act}(h:bR g w n α a) {d:Tmp}(hd:d < n) {b:AV}{x:Value}(hx:aF g w b x):bR g w n (α.put (some d) b) (a.put (some d) x):=by
 refine⟨by simp[Act.put,h.size],fun t ht=>?_,fun t ht=>?_,h.df,h.rY⟩
 ·show aF g w (a7 α.tm d b t) ((a.tmps.setIfInBounds d x).getD t undef);have e:(a.tmps.setIfInBounds d x).getD t undef=if t=d then x else a.tmps.getD t undef:=by
   simp only[Array.getD_eq_getD_getElem?,Array.getElem?_setIfInBounds];by_cases e:d=t
   ·subst e;simp[h.size,hd]
   ·grind
  rw[e];by_cases e:t=d
  ·grind[az]
  ·rw[aD _ _ e,if_neg e];exact h.tm t ht
 ·show a7 α.tm d b t=.u;rw[aD _ _ (Nat.ne_of_gt (Nat.lt_of_lt_of_le hd ht))];exact h.out t ht
theorem bR.Sj {n:Nat}{α:AA}{a:Act}(h:bR g w n α a) {b:AV}{x:Value}:bR g w n (α.put none b) (a.put none x):=h
end
def ir (F:Fence):Prop:=(∀ f,F.fn f)/\F.depth=none/\F.alive=false
theorem ir.inRound {F:Fence}(h:ir F) (l:Nat):ir (F.inRound l):=h
theorem ir.plain {F:Fence}(h:ir F):ir F.plain:=h
theorem ir.wide:ir Fence.wide:=⟨fun _=>trivial,rfl,rfl⟩
section
variable (P:Program) (w0:World) (rd:Bool) (n:Nat)
def nv (A:Nat->Prop) (g:Gh) (w:World) (ex:Exit) (au:AA) (S':ae):Exit->Act->World->Prop :=
 fun ex' a' w'=>ex'=ex/\∃ g',St w0 A g' S' w'/\bR g' w' n au a'/\Ext A g w g' w'
def cC (c:Code) (α:AA) (S:ae) (ex:Exit) (au:AA) (S':ae):Prop :=
 ∀ (F:Fence) (m:Nat) (A:Nat->Prop) (g:Gh) (a:Act) (w:World),ir F->F.round.isSome=rd->St w0 A g S w->bR g w n α a->c.wpIn F m P (nv w0 n A g w ex au S') a w
end
section
variable {P:Program}{w0:World}{rd:Bool}{n:Nat}{α bF au:AA}{S bW S':ae}{ex:Exit}{c d:Code}
theorem nv.ext {A:Nat->Prop}{g BY:Gh}{w jx:World}(hE:Ext A g w BY jx) {ex':Exit}{a':Act}{w':World}(h:nv w0 n A BY jx ex au S' ex' a' w'):nv w0 n A g w ex au S' ex' a' w':=by
 obtain⟨h1,g',h2,h3,h4⟩:=h;exact⟨h1,g',h2,h3,hE.trans h4⟩
def Pn (c:Code):Prop:=c=.skip\/∃ l,c=.label l
theorem Pn.wp (h:Pn c) {F:Fence}{m:Nat}{Q:Exit->Act->World->Prop}{a:Act}{w:World}(q:Q .normal a w):c.wpIn F m P Q a w:=by
 rcases h with rfl|⟨l,rfl⟩
 ·exact wpIn_skip q
 ·exact wpIn_label q
theorem cC.skip (h:Pn c):cC P w0 rd n c α S .normal α S:=fun F m A g a w hF hR hS hA=>h.wp ⟨rfl,g,hS,hA,Ext.refl ..⟩
theorem cC.exit_ (id:Nat):cC P w0 rd n (.exit id) α S (.exit id) α S:=fun F m A g a w hF hR hS hA=>wpIn_exit ⟨rfl,g,hS,hA,Ext.refl ..⟩
theorem cC.ret:cC P w0 rd n .ret α S .ret α S:=fun F m A g a w hF hR hS hA=>wpIn_ret ⟨rfl,g,hS,hA,Ext.refl ..⟩
theorem cC.seq (h:cC P w0 rd n c α S .normal bF bW) (k:cC P w0 rd n d bF bW ex au S'):cC P w0 rd n (.seq c d) α S ex au S':=by
 intro F m A g a w hF hR hS hA;refine wpIn_seq (wpIn_mono (h F m A g a w hF hR hS hA) ?_);rintro e lk jx ⟨rfl,BY,CO,CP,hE⟩;exact wpIn_mono (k F m A BY lk jx hF hR CO CP) fun e a w hq=>nv.ext hE hq
theorem cC.WG (h:cC P w0 rd n c α S ex au S') (he:ex ≠ .normal):cC P w0 rd n (.seq c d) α S ex au S':=by
 intro F m A g a w hF hR hS hA;refine wpIn_seq (wpIn_mono (h F m A g a w hF hR hS hA) ?_);rintro e lk jx ⟨rfl,hq⟩;cases e with
 |normal=>exact absurd rfl he
 |_=>exact⟨rfl,hq⟩
theorem H4 {g:Gh}{w:World}{b:Bool}{x:Value}(h:aF g w (.v (.bool b)) x):x=.bool b:=by cases h;rfl
theorem bI {g:Gh}{w:World}{y x:Value}(h:aF g w (.v y) x):x=y:=by cases h;rfl
theorem cC.cond {o:Operand}{t:Bool}(ho:α.ev o=.v (.bool t)) (h:cC P w0 rd n (if t then c else d) α S ex au S'):cC P w0 rd n (.cond o c d) α S ex au S':=by
 intro F m A g a w hF hR hS hA;have h1:=hA.ev o;rw[ho] at h1;exact wpIn_cond (H4 h1) (h F m A g a w hF hR hS hA)
theorem MT {F:Fence}{m:Nat}{Q:Exit->Act->World->Prop}{a:Act}{w:World}(h:c.wpIn F m P (fun ex a w=>(∀ l,ex ≠ .goto l)/\Q ex a w) a w):(Code.scope c).wpIn F m P Q a w:=by
 intro b k cs kO hb hr;have s1:step P (lone (b.atR a (.code (.scope c)::k)) cs w)=.next (lone (b.atR a (.code c::.inScope c::k)) cs w):=step_lone_go (by simp[stepG,stepG.exec,Frame.atR]);have s2:∀ (a:Act) (w:World),step P (lone (b.atR a (.inScope c::k)) cs w)=.next (lone (b.atR a k) cs w):=fun a w=>step_lone_go (by simp[stepG,stepG.exec,Frame.atR]);have h0:(lone (b.atR a (.code (.scope c)::k)) cs w).fenced P F:=fenced_calm hb hr rfl;obtain⟨e,lk,jx,⟨hg,hq⟩,ll⟩:=h b (.inScope c::k) cs kO hb hr;cases e with
 |normal=>exact⟨.normal,lk,jx,hq,.head h0 s1 (StepsIn.trans ll (.one (fenced_calm hb hr rfl) (s2 lk jx)))⟩
 |exit id =>
  have hx:exitTo id (.inScope c::k)=exitTo id k:=by simp[exitTo]
  exact⟨.exit id,lk,jx,hq,fun k' hk=>.head h0 s1 (ll.1 k' (by grind)),fun f_ hk=>let ⟨k₁,h1,h2⟩:=ll.2 f_ (by grind);⟨k₁,h1,.head h0 s1 h2⟩⟩
 |goto l=>exact absurd rfl (hg l)
 |ret=>exact⟨_,lk,jx,hq,.of_steps (.one h0 s1) ll⟩
 |panic ch=>exact⟨_,lk,jx,hq,.of_steps (.one h0 s1) ll⟩
 |outgrown=>exact⟨_,lk,jx,hq,.of_steps (.one h0 s1) ll⟩
theorem cC.scope (h:cC P w0 rd n c α S ex au S') (he:∀ l,ex ≠ .goto l):cC P w0 rd n (.scope c) α S ex au S':=by
 intro F m A g a w hF hR hS hA;refine MT (wpIn_mono (h F m A g a w hF hR hS hA) ?_);rintro e lk jx ⟨rfl,hq⟩;exact⟨he,rfl,hq⟩
theorem cC.block {id:Nat}(h:cC P w0 rd n c α S ex au S') (he:ex ≠ .exit id):cC P w0 rd n (.block id c) α S ex au S':=by
 intro F m A g a w hF hR hS hA;refine wpIn_block (wpIn_mono (h F m A g a w hF hR hS hA) ?_);rintro e lk jx ⟨rfl,hq⟩;cases e with
 |exit j =>
  have:j ≠ id:=fun e=>he (by rw[e]);simp only[Exit.inBlock,this,if_false];exact⟨rfl,hq⟩
 |_=>exact⟨rfl,hq⟩
theorem cC.MU {id:Nat}(h:cC P w0 rd n c α S (.exit id) au S'):cC P w0 rd n (.block id c) α S .normal au S':=by
 intro F m A g a w hF hR hS hA;refine wpIn_block (wpIn_mono (h F m A g a w hF hR hS hA) ?_);rintro e lk jx ⟨rfl,hq⟩;simp only[Exit.inBlock,if_true];exact⟨rfl,hq⟩
def vn (P:Program) (w0:World) (rd:Bool) (n:Nat) (c:Code) (α:AA) (S:ae) (ex:Exit) (au:AA) (S':ae):Prop :=
 ∀ (F:Fence) (m:Nat) (A:Nat->Prop) (g:Gh) (a:Act) (w:World),ir F->F.round.isSome=rd->St w0 A g S w->bR g w n α a->∀ (b:Frame) (k:List Item) (cs:List Frame),b.roundOf=F.round->F.fn b.fn->F.room (cs.length+1+m) ->
  ∃ e a' w',nv w0 n A g w ex au S' e a' w'/\ArrivesIn (Machine.fenced P F) P (lone (b.atR a (.code c::.inLoop c::k)) cs w) b k cs e a' w'
theorem cC.loop (h:vn P w0 rd n c α S ex au S'):cC P w0 rd n (.loop c) α S ex au S':=by
 intro F m A g a w hF hR hS hA b k cs kO hb hr;obtain⟨e,a',w',hq,ll⟩:=h F m A g a w hF hR hS hA b k cs kO hb hr;exact⟨e,a',w',hq,.of_steps (.one (fenced_calm hb hr rfl) stepR_loop) ll⟩
theorem vn.step (h:cC P w0 rd n c α S .normal bF bW) (k:vn P w0 rd n c bF bW ex au S'):vn P w0 rd n c α S ex au S':=by
 intro F m A g a w hF hR hS hA b l cs kO hb hr;obtain⟨e,lk,jx,hq,ll⟩:=h F m A g a w hF hR hS hA b (.inLoop c::l) cs kO hb hr;obtain⟨rfl,BY,CO,CP,hE⟩:=hq;obtain⟨RR,RU,RV,MG,Er⟩:=k F m A BY lk jx hF hR CO CP b l cs kO hb hr;exact⟨RR,RU,RV,nv.ext hE MG,.of_steps (StepsIn.trans ll (.one (fenced_calm hb hr rfl) stepR_inLoop)) Er⟩
theorem vn.done (h:cC P w0 rd n c α S ex au S') (he:ex ≠ .normal):vn P w0 rd n c α S ex au S':=by
 intro F m A g a w hF hR hS hA b l cs kO hb hr;obtain⟨e,lk,jx,hq,ll⟩:=h F m A g a w hF hR hS hA b (.inLoop c::l) cs kO hb hr;obtain⟨rfl,hq⟩:=hq;exact⟨e,lk,jx,⟨rfl,hq⟩,.pass (x:=.inLoop c) rfl (fun _ _=>.inl he) ll⟩
def aC (P:Program) (w0:World) (f:FuncId) (args:List AV) (S:ae) (r:AV) (S':ae):Prop :=
 (∀ (xs:Array Value) (w:World),(callFunc f xs).run P w=.ok (.enter f xs) w) /\
 ∀ (F:Fence) (m:Nat) (A:Nat->Prop) (g:Gh) (args':Array Value) (w:World),ir F->St w0 A g S w->jc g w args args' ->
  CallsIn F m P f args' w fun e w'=>∃ v g',e=.returned v/\aF g' w' r v/\St w0 A g' S' w'/\Ext A g w g' w'
def qU (P:Program) (w0:World) (k:Nat) (args:List AV) (S:ae) (r:AV) (S':ae):Prop :=
 ∀ (F:Fence) (m:Nat) (A:Nat->Prop) (g:Gh) (args':Array Value) (w:World),ir F->St w0 A g S w->g.al k->jc g w args args'->∃ l f tmps assign body,(Instr.yield (g.ob k) args').run P w=.ok (.round l f tmps assign body) w /\
  RoundIn F m P l f tmps assign body w fun e w'=>∃ v g',e=.returned v/\aF g' w' r v/\St w0 A g' S' w'/\Ext A g w g' w'
def ah (P:Program) (w0:World) (f:FuncId) (args:List AV) (r:AV):Prop :=
 Pure r/\∃ S',aC P w0 f args ae.none_ r S'
end
def bc {α:Type}(o:Option α) (K:α->Prop):Prop:=match o with|some a=>K a|none=>False
theorem bc.out {α:Type}{o:Option α}{K:α->Prop}(h:bc o K):∃ a,o=some a/\K a:=by
 cases o with
 |none=>exact h.elim
 |some a=>exact⟨a,rfl,h⟩
theorem bc.mk {α:Type}{o:Option α}{K:α->Prop}{a:α}(h:o=some a) (k:K a):bc o K:=by subst h;exact k
def MV (P:Program) (t:TypeId):Option Bool :=
 match P.underlying t with
 |some (.struct _)|some (.array _ _)=>some true
 |some _=>some false
 |none=>none
def cY (P:Program) (t:TypeId):Option Nat:=(P.info? t).map (·.size)
def iu (P:Program) (t:TypeId):Option Nat:=(P.info? t).map (·.bytes)
def de (P:Program) (t:TypeId):Option Value:=(P.info? t).bind (·.zero)
def MW (row:List AV) (j n:Nat):List AV:=match j,Nat.beq n row.length with|0,true=>row|_,_=>(row.drop j).take n
def nC (P:Program) (t:TypeId) (row:List AV) (j:Nat):Option AV :=
 match MV P t,cY P t with
 |some true,some n=>match Nat.ble (j+n) row.length with|true=>some (.agg (MW row j n))|false=>none
 |some false,_=>row[j]?
 |_,_=>none
def uK (P:Program) (S:ae) (t:TypeId):AV->Option AV
 |.ip row=>nC P t row 0
 |.pt k sz i j=>match S.get k with
  |some (.arr sz' rows _ _)=>match Nat.beq sz sz' with
   |true=>match rows[i]? with
    |some row=>nC P t row j
    |none=>none
   |false=>none
  |_=>none
 |_=>none
def aL:AV->List AV
 |.agg l=>l
 |a=>[a]
def bO:AV->Bool
 |.v x=>x.oneCell'
 |.agg _|.aG _|.u=>false
 |_=>true
def mF (row:List AV) (j:Nat) (cs:List AV):List AV:=match j,Nat.beq cs.length row.length with|0,true=>cs|_,_=>row.take j++cs++row.drop (j+cs.length)
def ml (P:Program) (S:ae) (t:TypeId) (b:AV):AV->Option ae
 |.pt k sz i j=>match S.get k with
  |some (.arr sz' rows 0 ex)=>match Nat.beq sz sz' && (aL b).all bO && (match cY P t with|some n=>Nat.beq n (aL b).length|none=>false) with
   |true=>match rows[i]? with
    |some row=>match Nat.ble (j+(aL b).length) row.length with
     |true=>some (S.set k (some (.arr sz (rows.set i (mF row j (aL b))) 0 ex)))
     |false=>none
    |none=>none
   |false=>none
  |_=>none
 |_=>none
def ae.new (S:ae) (o:Ob):ae:=⟨a7 S.get S.nx (some o),S.nx+1⟩
def jF (S:ae) (cs:List AV):AV × ae:=(.pt S.nx cs.length 0 0,S.new (Ob.arr cs.length [cs] 0 true))
def wY (place:Nat->Option (Nat × Nat)):List AV->List (Nat × AV)->Option (List AV)
 |cells,[]=>some cells
 |cells,(i,a)::rest=>match place i with
  |some (off,size)=>match Nat.beq (aL a).length size && Nat.ble (off+size) cells.length && (aL a).all bO with
   |true=>wY place (mF cells off (aL a)) rest
   |false=>none
  |none=>none
def H5 (P:Program) (fs:Array Field) (i:Nat):Option (Nat × Nat) :=
 match fs[i]? with
 |some f=>match cY P f.type with|some n=>some (f.offset,n)|none=>none
 |none=>none
def tv (P:Program) (t:TypeId) (parts:List (Nat × AV)):Option AV :=
 match de P t with
 |some (.agg cs)=>match P.underlying t with
  |some (.struct fs)=>match fs.toList.all fun f=>(cY P f.type).isSome with
   |true=>(wY (H5 P fs) (cs.toList.map bJ) parts).map .agg
   |false=>none
  |some (.array _ e)=>match cY P e with
   |some n=>(wY (fun i=>some (i*n,n)) (cs.toList.map bJ) parts).map .agg
   |none=>none
  |_=>none
 |_=>none
def sG (size:Nat):List (List AV)->List (Nat × AV)->Option (List (List AV))
 |rows,[]=>some rows
 |rows,(i,a)::rest=>match Nat.beq (aL a).length size && Nat.blt i rows.length && (aL a).all bO with
  |true=>sG size (rows.set i (aL a)) rest
  |false=>none
def idx {α:Type}(rows:List α) (i:Int):Option α:=if 0<=i then rows[i.toNat]? else none
theorem WH {α:Type}{rows:List α}{k:Nat}{x:α}(h:rows[k]?=some x):idx rows (k:Int)=some x:=by grind[idx]
def rowsOf (S:ae):AV->Option (List (List AV))
 |.sl _ rows=>some rows
 |.ob k sz off len _=>match S.get k with
  |some (.arr sz' rows _ _)=>match Nat.beq sz sz' with
   |true=>some ((rows.drop off).take len)
   |false=>none
  |_=>none
 |_=>none
def nR:AV->Option Nat
 |.sl _ rows=>some rows.length
 |.ob _ _ _ len _=>some len
 |.v (.string s)=>some s.size
 |_=>none
def isStr:AV->Bool
 |.v (.string _)=>true
 |_=>false
def rG (P:Program) (op:BinOp) (t:TypeId):Value->Value->Option Value
 |.int k a,.int k' b=>match decide (k=k') with
  |true=>match op with
   |.eql=>some (.bool (a == b))
   |.neq=>some (.bool (a != b))
   |.lss=>some (.bool (decide (a < b)))
   |.leq=>some (.bool (decide (a<=b)))
   |.gtr=>some (.bool (decide (a > b)))
   |.geq=>some (.bool (decide (a>=b)))
   |_=>none
  |false=>none
 |.string a,.string b=>match op with
  |.eql=>some (.bool (a.toList == b.toList))
  |.neq=>some (.bool (!(a.toList == b.toList)))
  |.lss=>some (.bool (Op.bytesLess a.toList b.toList))
  |.leq=>some (.bool (Op.bytesLess a.toList b.toList || a.toList == b.toList))
  |.gtr=>some (.bool (!(Op.bytesLess a.toList b.toList || a.toList == b.toList)))
  |.geq=>some (.bool (!Op.bytesLess a.toList b.toList))
  |_=>none
 |.bool a,.bool b=>match P.underlying t with
  |some .bool=>match op with
   |.eql=>some (.bool (a == b))
   |.neq=>some (.bool (!(a == b)))
   |_=>none
  |_=>none
 |_,_=>none
def arith:BinOp->Int->Int->Option Int
 |.add,a,b=>some (a+b)
 |.sub,a,b=>some (a - b)
 |.mul,a,b=>some (a*b)
 |_,_,_=>none
def lenOf (P:Program) (t:TypeId) (a:AV):Option Nat:=match P.underlying t,isStr a,nR a with
 |some (.slice _),false,some m=>some m
 |some .string,true,some m=>some m
 |_,_,_=>none
def AO (S:ae) (k:Nat):Option (Nat × List (List AV) × Nat × Bool):=match S.get k with
 |some (.arr sz rows fz ex)=>some (sz,rows,fz,ex)
 |_=>none
theorem C9 {S:ae}{k sz fz:Nat}{rows:List (List AV)}{ex:Bool}(h:AO S k=some (sz,rows,fz,ex)):S.get k=some (.arr sz rows fz ex):=by grind[AO]
theorem te {S:ae}{k sz fz:Nat}{rows:List (List AV)}{ex:Bool}(h:S.get k=some (.arr sz rows fz ex)):AO S k=some (sz,rows,fz,ex):=by grind[AO]
def Ay (P:Program) (w0:World) (K:AV->ae->Prop) (S:ae) (args:List AV):AV->Prop
 |.v (.func (.func g) first cap)=>match first.toList,cap.toList with
  |[],[]=>∃ r S',aC P w0 g args S r S'/\K r S'
  |_,_=>False
 |.fn (.func g) first cap=>∃ r S',aC P w0 g (first++args++cap) S r S'/\K r S'
 |.yl k=>∃ r S',qU P w0 k args S r S'/\K r S'
 |_=>False
def j_ (P:Program) (e:TypeId) (K:AV->ae->Prop) (S:ae) (more:List (List AV)):AV->Prop
 |.sl true rows=>match more with
  |[]=>K (.sl true rows) S
  |x::more=>match cY P e,iu P e with
   |some sz,some by_=>match Nat.blt 0 by_ with
    |true=>(∀ row ∈ rows,row.length=sz)/\(∀ row ∈ x::more,row.length=sz)/\(rows.length+(x::more).length)*by_<=35184372088832 /\
     K (.ob S.nx sz 0 (rows.length+(x::more).length) none) (S.new (.arr sz (rows++x::more) 0 false))
    |false=>False
   |_,_=>False
 |.ob k sz 0 len none=>bc (AO S k) fun o=>match o with
  |(sz',rows,fz,ex)=>match more with
   |[]=>K (.ob k sz 0 len none) S
   |x::more=>match cY P e,iu P e with
    |some gw,some by_=>match Nat.beq sz' sz && Nat.beq gw sz && Nat.blt 0 by_ with
     |true=>fz<=len/\len<=rows.length/\(∀ row ∈ x::more,row.length=sz/\row.all bO=true)/\(len+(x::more).length)*by_<=35184372088832 /\
      K (.ob S.nx sz 0 (len+(x::more).length) none) ((S.set k none).new (.arr sz (rows.take len++x::more) fz false))
     |false=>False
    |_,_=>False
 |.ob k sz off len (some c)=>bc (AO S k) fun o=>match o with
  |(sz',rows,fz,ex)=>match more with
   |[]=>K (.ob k sz off len (some c)) S
   |x::more=>match cY P e,iu P e with
    |some gw,some by_=>match Nat.beq sz' sz && Nat.beq gw sz && Nat.blt 0 by_ with
     |true=>c=len/\off+len<=rows.length/\(∀ row ∈ x::more,row.length=sz)/\(len+(x::more).length)*by_<=35184372088832 /\
      K (.ob S.nx sz 0 (len+(x::more).length) none) (S.new (.arr sz ((rows.drop off).take len++x::more) 0 false))
     |false=>False
    |_,_=>False
 |_=>False
def fZ (P:Program) (t:TypeId):Option TypeId:=match P.underlying t with|some (.slice e)=>some e|_=>none
def mR (P:Program) (K:AV->ae->Prop) (S:ae) (argTypes:List TypeId) (args:List AV):Builtin->Prop
 |.len=>match argTypes,args with
  |[t],[a]=>bc (lenOf P t a) fun m=>K (.v (.int .i64 (m:Int))) S
  |_,_=>False
 |.append=>match argTypes,args with
  |[t,t2],[a,b]=>match fZ P t,fZ P t2 with
   |some e,some _=>match (match de P e,cY P e with|some z,some sz=>Nat.beq z.cells.size sz|_,_=>false) with
    |true=>bc (rowsOf S b) fun more=>nR b=some more.length/\j_ P e K S more a
    |false=>False
   |_,_=>False
  |_,_=>False
 |.min=>match args with
  |[.v (.int k a),.v (.int k' b)]=>match decide (k=k') with|true=>K (.v (.int k (min a b))) S|false=>False
  |_=>False
 |.max=>match args with
  |[.v (.int k a),.v (.int k' b)]=>match decide (k=k') with|true=>K (.v (.int k (max a b))) S|false=>False
  |_=>False
 |_=>False
def j6:Option AV->Int->Option Int
 |none,d=>some d
 |some (.v (.int _ i)),_=>some i
 |_,_=>none
def ln (P:Program) (t:TypeId) (K:AV->ae->Prop) (S:ae) (x:AV) (lo hi mx:Option AV):Prop :=
 match x,mx with
 |.v (.string s),none=>match P.underlying t,j6 lo 0,j6 hi s.size with
  |some .string,some l,some h=>0<=l/\l<=h/\h<=s.size/\K (.v (.string (s.extract l.toNat h.toNat))) S
  |_,_,_=>False
 |.sl ex rows,none=>match P.underlying t,j6 lo 0,j6 hi rows.length with
  |some (.slice e),some l,some h=>(∀ row ∈ rows,cY P e=some row.length)/\(cY P e).isSome/\0<=l/\l<=h/\h<=rows.length/\K (.sl false ((rows.take h.toNat).drop l.toNat)) S
  |_,_,_=>False
 |.sl ex rows,some (.v (.int _ m))=>match P.underlying t,j6 lo 0,hi with
  |some (.slice e),some l,some (.v (.int _ h))=>(∀ row ∈ rows,cY P e=some row.length)/\(cY P e).isSome/\0<=l/\l<=h/\h=m/\h<=rows.length/\K (.sl true ((rows.take h.toNat).drop l.toNat)) S
  |_,_,_=>False
 |.ob k sz off len cx,none=>match P.underlying t,lo,j6 hi len with
  |some (.slice e),none,some h=>cY P e=some sz/\0<=h/\h<=len/\K (.ob k sz off h.toNat cx) S
  |some (.slice e),some (.v (.int _ l)),some h=>cY P e=some sz/\0<=l/\l<=h/\h<=len/\(l=h->K (.sl false []) S)/\(l < h->K (.ob k sz (off+l.toNat) (h.toNat - l.toNat) (cx.map (· - l.toNat))) S)
  |_,_,_=>False
 |.ob k sz off len cx,some (.v (.int _ m))=>match P.underlying t,j6 lo 0,hi with
  |some (.slice e),some l,some (.v (.int _ h))=>cY P e=some sz/\l=0/\h=m/\h<=len/\0<=h/\K (.ob k sz off h.toNat (some h.toNat)) S
  |_,_,_=>False
 |_,_=>False
def br (t:Bool) (X Y:Prop):Prop:=match t with|true=>X|false=>Y
theorem br.t {t:Bool}{X Y:Prop}(e:t=true) (h:X):br t X Y:=by subst e;exact h
def gd (want t:Bool) (X Y:Prop):Prop:=match want with|true=>br t X Y|false=>br t Y X
def HB (S:ae) (k:Nat):Option (ByteArray × Nat):=match S.get k with
 |some (.si s pos)=>some (s,pos)
 |_=>none
theorem Po {S:ae}{k pos:Nat}{s:ByteArray}(h:HB S k=some (s,pos)):S.get k=some (.si s pos):=by grind[HB]
def s8 (v:Value) (K:Value->Prop):Prop:=match v with|.bool b=>∃ d,b=d/\K (.bool d)|v=>K v
theorem s8.out {v:Value}{K:Value->Prop}(h:s8 v K):K v:=by
 unfold s8 at h;split at h
 ·grind
 ·grind
theorem s8.mk {v:Value}{K:Value->Prop}(h:K v):s8 v K:=by
 unfold s8;split
 ·grind
 ·grind
def a8 (P:Program) (w0:World) (o:Op) (α:AA) (S:ae) (K:AV->ae->Prop):Prop :=
 match o with
 |.move x|.assign x=>K (α.ev x) S
 |.pick c a b=>match α.ev c with
  |.v (.bool t)=>br t (K (α.ev a) S) (K (α.ev b) S)
  |_=>False
 |.alloc e=>match de P e with
  |some z=>K (jF S (z.cells.toList.map bJ)).1 (jF S (z.cells.toList.map bJ)).2
  |none=>False
 |.box _ x=>match (aL (α.ev x)).all bO with
  |true=>K (jF S (aL (α.ev x))).1 (jF S (aL (α.ev x))).2
  |false=>False
 |.build t parts=>match tv P t (parts.toList.map fun (i,x)=>(i,α.ev x)) with
  |some a=>K a S
  |none=>False
 |.buildSlice t len parts=>match fZ P t with
  |some e=>match de P e,cY P e with
   |some z,some n=>match Nat.ble (len*n) 16777216 && Nat.beq z.cells.size n && Nat.blt 0 n with
    |true=>match sG n (List.replicate len (z.cells.toList.map bJ)) (parts.toList.map fun (i,x)=>(i,α.ev x)) with
     |some rows=>K (.sl true rows) S
     |none=>False
    |false=>False
   |_,_=>False
  |none=>False
 |.load t x=>bc (uK P S t (α.ev x)) fun a=>K a S
 |.store t x b=>bc (ml P S t (α.ev b) (α.ev x)) fun S'=>K (.v undef) S'
 |.binOp op t x y _=>match α.ev x,α.ev y with
  |.v (.int k a),.v (.int k' b)=>match arith op a b with
   |some c=>match decide (k=k') with|true=>∃ d,k.wrap c=d/\K (.v (.int k d)) S|false=>False
   |none=>match rG P op t (.int k a) (.int k' b) with
    |some v=>s8 v fun v=>K (.v v) S
    |none=>False
  |.v (.string a),.v (.string b)=>match op with
   |.add=>a.size+b.size<=9223372036854775807/\K (.v (.string (a++b))) S
   |_=>match rG P op t (.string a) (.string b) with
    |some v=>s8 v fun v=>K (.v v) S
    |none=>False
  |.v a,.v b=>match rG P op t a b with
   |some v=>s8 v fun v=>K (.v v) S
   |none=>False
  |_,_=>False
 |.unOp op _ x=>match op,α.ev x with
  |.not,.v (.bool b)=>K (.v (.bool (!b))) S
  |.neg,.v (.int k a)=>∃ d,k.wrap (0 - a)=d/\K (.v (.int k d)) S
  |_,_=>False
 |.convert src dst x=>match P.underlying src,P.underlying dst,α.ev x with
  |some (.int _),some (.int k),.v (.int _ a)=>∃ d,k.wrap a=d/\K (.v (.int k d)) S
  |some .string,some .string,.v (.string s)=>K (.v (.string s)) S
  |_,_,_=>False
 |.fieldAddr s x f=>match P.underlying s with
  |some (.struct fs)=>match fs[f]? with
   |some fd=>match cY P fd.type with
    |some (_+1)=>match α.ev x with
     |.ip row=>K (.ip (row.drop fd.offset)) S
     |.pt k sz i j=>K (.pt k sz i (j+fd.offset)) S
     |_=>False
    |_=>False
   |none=>False
  |_=>False
 |.field t x f=>match P.underlying t with
  |some (.struct fs)=>match fs[f]? with
   |some fd=>match α.ev x with
    |.agg l=>bc (nC P fd.type l fd.offset) fun a=>K a S
    |_=>False
   |none=>False
  |_=>False
 |.indexAddr t x i=>match P.underlying t,α.ev x,α.ev i with
  |some (.slice e),.sl _ rows,.v (.int _ k)=>match cY P e with
   |some n=>bc (idx rows k) fun row=>(∀ r ∈ rows,r.length=n)/\K (.ip row) S
   |none=>False
  |some (.slice e),.ob k sz off len _,.v (.int _ i)=>cY P e=some sz/\0<=i/\i < len/\K (.pt k sz (off+i.toNat) 0) S
  |some (.array len e),.pt k sz i j,.v (.int _ q)=>match cY P e with
   |some n=>0<=q/\q < len/\K (.pt k sz i (j+q.toNat*n)) S
   |none=>False
  |some (.array len e),.ip row,.v (.int _ q)=>match cY P e with
   |some n=>0<=q/\q < len/\K (.ip (row.drop (q.toNat*n))) S
   |none=>False
  |_,_,_=>False
 |.index t x i=>match P.underlying t,α.ev x,α.ev i with
  |some .string,.v (.string s),.v (.int _ k)=>bc (idx s.data.toList k) fun b=>K (.v (.int .u8 b.toNat)) S
  |some (.array len e),.agg l,.v (.int _ q)=>match cY P e with
   |some n=>bc (nC P e l (q.toNat*n)) fun a=>0<=q/\q < len/\K a S
   |none=>False
  |_,_,_=>False
 |.slice t x lo hi mx=>ln P t K S (α.ev x) (lo.map α.ev) (hi.map α.ev) (mx.map α.ev)
 |.extract x i=>match α.ev x with
  |.aG l=>match l[i]? with
   |some a=>K a S
   |none=>False
  |_=>False
 |.makeSlice t l c=>match fZ P t,α.ev l,α.ev c with
  |some e,.v (.int _ a),.v (.int _ b)=>match de P e,cY P e,iu P e with
   |some z,some sz,some by_=>match Nat.beq z.cells.size sz && Nat.blt 0 sz with
    |true=>0<=a/\a=b/\a*by_<=35184372088832/\a<=9223372036854775807/\K (.ob S.nx sz 0 a.toNat none) (S.new (.arr sz (List.replicate a.toNat (z.cells.toList.map bJ)) 0 true))
    |false=>False
   |_,_,_=>False
  |_,_,_=>False
 |.range t x=>match P.underlying t,α.ev x with
  |some .string,.v (.string s)=>K (.pt S.nx 0 0 0) (S.new (.si s 0))
  |_,_=>False
 |.next x isStr=>match isStr,α.ev x with
  |true,.pt k _ 0 0=>bc (HB S k) fun o=>match o with
   |(s,pos)=>∃ d,decide (pos < s.size)=d/\br d (K (.aG [.v (.bool true),.v (.int .i64 pos),.v (.int .i32 (Utf8.decode s pos).1)]) (S.set k (some (.si s (pos+(Utf8.decode s pos).2))))) (K (.aG [.v (.bool false)]) S)
  |_,_=>False
 |.makeFunc f first cap=>K (.fn f (first.toList.map α.ev) (cap.toList.map α.ev)) S
 |.nilCheck x=>match α.ev x with
  |.ip c=>K (.ip c) S
  |.pt k sz i j=>K (.pt k sz i j) S
  |_=>False
 |.call c=>match c.callee with
  |.value f=>Ay P w0 K S (c.args.toList.map α.ev) (α.ev f)
  |.builtin b=>mR P K S c.argTypes.toList (c.args.toList.map α.ev) b
  |.invoke _ _=>False
 |_=>False
def oX (ops:Array Oper) (α:AA) (j:Nat):Option (Option Bool) :=
 match (ops[j]?).bind (·.dst) with
 |some t=>match α.tm t with|.v (.bool b)=>some (some b)|.v (.tuple _)=>some none|_=>none
 |none=>none
def wZ:List Oper->Nat->Option Tmp
 |[],_=>none
 |o::_,0=>o.dst
 |_::l,j+1=>wZ l j
theorem H6:∀ (l:List Oper) (j:Nat),wZ l j=(l[j]?).bind (·.dst)
 |[],j=>by simp[wZ]
 |o::l,0=>by simp[wZ]
 |o::l,j+1=>by simp[wZ,H6 l j]
def U9 (ops:List Oper) (α:AA) (j:Nat):Option (Option Bool) :=
 match wZ ops j with
 |some t=>match α.tm t with|.v (.bool b)=>some (some b)|.v (.tuple _)=>some none|_=>none
 |none=>none
theorem y0 {ops:Array Oper}{α:AA}{j:Nat}:U9 ops.toList α j=oX ops α j:=by grind[U9,oX,H6]
def oz (n:Nat) (d:Option Tmp):Bool:=match d with|some d=>Nat.blt d n|none=>true
theorem fF (b o j:Nat):(⟨b,o,none⟩:Addr).add j=⟨b,o+j,none⟩:=by unfold Addr.add;split<;>simp_all
section
variable {P:Program}{g:Gh}{w:World}{S:ae}{t:TypeId}
theorem jG {n:Nat}(h:cY P t=some n):∃ i,P.info? t=some i/\i.size=n:=by
 unfold cY at h;obtain⟨i,hi,e⟩:=Option.map_eq_some_iff.1 h;exact⟨i,hi,e⟩
theorem ct {n:Nat}(h:cY P t=some n):(sizeOf t).run P w=.ok n w:=by
 obtain⟨i,hi,rfl⟩:=jG h;simp[sizeOf,typeInfo,hi]
theorem lN {z:Value}(h:de P t=some z):(zeroValue t).run P w=.ok z w:=by
 unfold de at h;obtain⟨i,hi,e⟩:=Option.bind_eq_some_iff.1 h;simp[zeroValue,typeInfo,hi,e]
theorem w5 {b:Bool}(h:MV P t=some b):(isAgg t).run P w=.ok b w:=by
 unfold MV at h;cases hd:P.underlying t with
 |none=>rw[hd] at h;cases h
 |some d =>
  rw[hd] at h;simp only[isAgg,Sem.run_bind,run_underlying hd,Result.andThen_ok];cases d<;>simp_all
def Cells (g:Gh) (w:World) (b o:Nat) (row:List AV):Prop:=∀ (j:Nat) (a:AV),row[j]?=some a->∃ x,w.cell? ⟨b,o+j,none⟩=some x/\aF g w a x
theorem Cells.list {b:Nat}:∀ {row:List AV}{o:Nat},Cells g w b o row->∃ cs:List Value,cs.length=row.length/\(∀ j x,cs[j]?=some x->w.cell? ⟨b,o+j,none⟩=some x)/\∀ (j:Nat) (a:AV) (x:Value),row[j]?=some a->cs[j]?=some x->aF g w a x
 |[],o,h=>⟨[],rfl,fun j x hx=>by grind,fun j a x ha=>by grind⟩
 |a::row,o,h=>by
  obtain⟨x,hx,hr⟩:=h 0 a rfl;obtain⟨cs,hl,h1,h2⟩:=Cells.list (row:=row) (o:=o+1) (fun j a ha=>by
   obtain⟨y,hy,C_⟩:=h (j+1) a (by grind);exact⟨y,by rw[<-hy];congr 2;omega,C_⟩)
  refine⟨x::cs,by grind,fun j y hy=>?_,fun j a' y ha hy=>?_⟩
  ·grind
  ·grind
theorem Cells.drop {b o:Nat}{row:List AV}(h:Cells g w b o row) (j:Nat):Cells g w b (o+j) (row.drop j):=fun i a ha=>by
 rw[List.getElem?_drop] at ha;obtain⟨x,hx,hr⟩:=h (j+i) a ha;exact⟨x,by grind,hr⟩
theorem Cells.take {b o:Nat}{row:List AV}(h:Cells g w b o row) (n:Nat):Cells g w b o (row.take n):=fun i a ha=>by
 rw[List.getElem?_take] at ha;split at ha
 ·exact h i a ha
 ·grind
theorem Ll (row:List AV) (j n:Nat):MW row j n=(row.drop j).take n:=by
 unfold MW;split
 ·rename_i h;have:=Nat.eq_of_beq_eq_true h;subst this;simp
 ·rfl
theorem Br {row:List AV}{j b o:Nat}{r:AV}(h:nC P t row j=some r) (hc:Cells g w b o row):∃ x,(loadVar t ⟨b,o+j,none⟩).run P w=.ok x w/\aF g w r x:=by
 unfold nC at h;split at h
 ·rename_i n ha hs;split at h
  ·rename_i hle;have hle:=Nat.le_of_ble_eq_true hle;obtain rfl:=oJ_ h;rw[Ll];obtain⟨cs,hl,h1,h2⟩:=((hc.drop j).take n).list;have hn:cs.length=n:=by grind
   refine⟨.agg cs.toArray,?_,.agg (by grind) (fun i a x ha hx=>h2 i a x ha (by grind))⟩;have:=run_loadCells_list (P:=P) (w:=w) ⟨b,o+j,none⟩ cs (fun i v hv=>by grind[fF]);simp only[loadVar,Sem.run_bind,w5 ha,Result.andThen_ok,if_true,ct hs];rw[<-hn,this]
   rfl
  ·grind
 ·rename_i ha;obtain⟨x,hx,hr⟩:=hc j r h;refine⟨x,?_,hr⟩;simp only[loadVar,Sem.run_bind,w5 ha,Result.andThen_ok,if_false,Bool.false_eq_true,run_load,hx]
 ·grind
theorem Pp {cp b sz:Nat}{rows:List (List AV)}{fz:Nat}{ex:Bool}(h:dJ g w b cp (.arr sz rows fz ex)) {i:Nat}{row:List AV}(hr:rows[i]?=some row):Cells g w b (i*sz) row:=by
 obtain⟨cs,ty,h1,h2,h3,h4,h5,h6,h7⟩:=h;intro j a ha;obtain⟨x,hx,dR⟩:=(h5 i row hr).2 j a ha;exact⟨x,by rw[cell_of_row _ _ _ cs ty (0,0) h1];exact hx,dR⟩
theorem Cb {cs:List AV}{v:Value}(h:aF g w (.ip cs) v):∃ b o,v=.pointer (some ⟨b,o,none⟩)/\Cells g w b o cs:=by
 cases h with
 |ip h hr=>exact⟨_,_,rfl,fun j a ha=>⟨_,(h j a ha).2,hr j a ha⟩⟩
theorem Bs {w0:World}{A:Nat->Prop}{a r:AV}{v:Value}(hS:St w0 A g S w) (h:uK P S t a=some r) (hv:aF g w a v):∃ b o x,v=.pointer (some ⟨b,o,none⟩)/\(loadVar t ⟨b,o,none⟩).run P w=.ok x w/\aF g w r x:=by
 unfold uK at h;split at h
 ·grind[Cb,Br]
 ·rename_i k sz i j;split at h
  ·rename_i sz' rows fz ex hk;split at h
   ·rename_i bS;have bS:=Nat.eq_of_beq_eq_true bS;subst bS;split at h
    ·rename_i row je;cases hv with
     |pt aA =>
      obtain⟨x,hx,hr⟩:=Br h (Pp (hS.bT k _ hk aA).2.2 je);exact⟨_,_,x,rfl,hx,hr⟩
    ·grind
   ·grind
  ·grind
 ·grind
theorem sH {a:AV}{x:Value}(h:bO a=true) (hr:aF g w a x):x.oneCell'=true:=by
 cases hr<;>simp_all[bO,Value.oneCell']
theorem pA {a:AV}{x:Value}(h:(aL a).all bO=true) (hr:aF g w a x):x.cells.size=(aL a).length/\(∀ (i:Nat) (b:AV) (y:Value),(aL a)[i]?=some b->x.cells[i]?=some y->aF g w b y)/\∀ y ∈ x.cells.toList,y.oneCell'=true:=by
 have one:aL a=[a]->x.cells.size=(aL a).length/\(∀ (i:Nat) (b:AV) (y:Value),(aL a)[i]?=some b->x.cells[i]?=some y->aF g w b y):=by
  intro e;rw[e] at h ⊢;have h1:x.oneCell'=true:=sH (by grind) hr;have e1:x.cells=#[x]:=by cases x<;>simp_all[Value.cells,Value.oneCell']
  rw[e1];refine⟨rfl,fun i b y h1 h2=>?_⟩;cases i with
  |zero=>simp at h1 h2;subst h1 h2;exact hr
  |succ i=>simp at h1
 have key:x.cells.size=(aL a).length/\(∀ (i:Nat) (b:AV) (y:Value),(aL a)[i]?=some b->x.cells[i]?=some y->aF g w b y):=by
  cases a with
  |agg l=>cases hr with|agg hs h'=>exact⟨hs,h'⟩
  |_=>exact one rfl
 refine⟨key.1,key.2,fun y hy=>?_⟩;obtain⟨i,hi,rfl⟩:=List.getElem_of_mem hy;have jV:i < (aL a).length:=by grind
 have h1:(aL a)[i]?=some (aL a)[i]:=List.getElem?_eq_getElem jV;have h2:x.cells[i]?=some x.cells.toList[i]:=by grind
 exact sH (List.all_eq_true.1 h _ (List.getElem_mem jV)) (key.2 i _ _ h1 h2)
theorem EI (row:List AV) (j:Nat) (cs:List AV):mF row j cs=row.take j++cs++row.drop (j+cs.length):=by
 unfold mF;split
 ·rename_i h;have:=Nat.eq_of_beq_eq_true h;simp[this]
 ·rfl
theorem Bt {row:List AV}{j:Nat}{cs:List AV}(h:j+cs.length<=row.length):(mF row j cs).length=row.length:=by grind[EI]
theorem vT {α:Type}(row cs:List α) (j:Nat) (h:j+cs.length<=row.length) (q:Nat):(row.take j++cs++row.drop (j+cs.length))[q]?=if q < j then row[q]? else if q < j+cs.length then cs[q - j]? else row[q]?:=by grind
theorem tw {w0:World}{A:Nat->Prop}{a b:AV}{v x:Value}{S':ae}(hS:St w0 A g S w) (h:ml P S t b a=some S') (hv:aF g w a v) (hx:aF g w b x) :
  ∃ c o w',v=.pointer (some ⟨c,o,none⟩)/\(storeVar t ⟨c,o,none⟩ x).run P w=.ok () w'/\S'.nx=S.nx/\Ext A g w g w'/\St w0 A g S' w':=by
 unfold ml at h;split at h
 ·rename_i k sz i j;split at h
  ·rename_i sz' rows ex hk;split at h
   ·rename_i hc;simp only[Bool.and_eq_true] at hc;obtain⟨⟨bS,mZ⟩,hn⟩:=hc;have bS:=Nat.eq_of_beq_eq_true bS;subst bS;split at hn
    ·rename_i n hs;have hn:=Nat.eq_of_beq_eq_true hn;split at h
     ·rename_i row je;split at h
      ·rename_i hle;have hle:=Nat.le_of_ble_eq_true hle;obtain rfl:=oJ_ h;obtain⟨Y3,ag5,ag6⟩:=pA mZ hx;cases hv with
       |pt aA =>
        obtain⟨k2,k3,k4⟩:=hS.bT k _ hk aA;obtain⟨cs,ty,h1,h2,h3,h4,h5,h6,h7⟩:=k4;have Lm:i < rows.length:=(List.getElem?_eq_some_iff.1 je).1;have jH:=(h5 i row je).1;have hmul:i*sz+sz<=rows.length*sz:=by
         have:=Nat.mul_le_mul_right sz (show i+1<=rows.length from Lm)
         rwa [Nat.add_mul,Nat.one_mul] at this
        have al7:rows.length*sz<=g.cp k*sz:=Nat.mul_le_mul_right sz h3;have j9:(i*sz+j)+0+x.cells.toList.length<=cs.size:=by grind
        have bZ:=run_storeCells_at P (g.ob k) (i*sz+j) ty x.cells.toList 0 cs w h1 j9 ag6;simp only[Nat.add_zero] at bZ;obtain⟨cs',yK⟩:∃ cs',cs'=(cs.toList.take (i*sz+j)++x.cells.toList++cs.toList.drop (i*sz+j+x.cells.toList.length)).toArray:=⟨_,rfl⟩;rw[<-yK] at bZ;have m7:∀ q,cs'[q]?=if q < i*sz+j then cs[q]? else if q < i*sz+j+(aL b).length then x.cells[q - (i*sz+j)]? else cs[q]?:=by
         intro q;rw[yK,List.getElem?_toArray,vT _ _ _ (by grind)];simp only[Array.getElem?_toList,Array.length_toList,Y3]
        have hlen:cs'.size=cs.size:=by grind
        obtain⟨hE,cZ⟩:=hS.row hk aA h1 (cs':=cs') (ob:=.arr sz (rows.set i (mF row j (aL b))) 0 ex) (fun J=>⟨by simp,by simp⟩) (fun q hq=>absurd ((h7 q).1 hq) (by simp)) (fun hL=>by
         refine⟨cs',ty,setRow_heap w _ cs cs' ty (0,0) h1,hlen.trans h2,by grind,fun he=>by grind,fun i' bw f_=>?_,Nat.zero_le _,h7⟩;by_cases e:i'=i
         ·subst e;rw[List.getElem?_set_self Lm] at f_;obtain rfl:=oJ_ f_;refine⟨(Bt hle).trans jH,fun j' a' cM=>?_⟩;rw[EI,vT _ _ _ hle] at cM;rw[m7];by_cases c1:j' < j
          ·rw[if_pos c1] at cM;rw[if_pos (by omega)];obtain⟨y,hy,C_⟩:=(h5 _ row je).2 j' a' cM;exact⟨y,hy,C_.later hL⟩
          ·rw[if_neg c1] at cM;rw[if_neg (by omega)];by_cases c2:j' < j+(aL b).length
           ·rw[if_pos c2] at cM;rw[if_pos (by omega),show i'*sz+j' - (i'*sz+j)=j' - j by omega];have Y4:j' - j < x.cells.size:=by grind
            exact⟨x.cells[j' - j],Array.getElem?_eq_getElem Y4,(ag5 _ _ _ cM (Array.getElem?_eq_getElem Y4)).later hL⟩
           ·rw[if_neg c2] at cM;rw[if_neg (by omega)];obtain⟨y,hy,C_⟩:=(h5 _ row je).2 j' a' cM;exact⟨y,hy,C_.later hL⟩
         ·rw[List.getElem?_set_ne (Ne.symm e)] at f_;refine⟨(h5 i' bw f_).1,fun j' a' cM=>?_⟩;obtain⟨y,hy,C_⟩:=(h5 i' bw f_).2 j' a' cM;have lx:j' < sz:=by grind
          refine⟨y,?_,C_.later hL⟩;rw[m7];rcases Nat.lt_or_gt_of_ne e with c|c
          ·have:i'*sz+sz<=i*sz:=by
            have:=Nat.mul_le_mul_right sz (show i'+1<=i from c)
            rwa [Nat.add_mul,Nat.one_mul] at this
           rw[if_pos (by omega)];exact hy
          ·have:i*sz+sz<=i'*sz:=by
            have:=Nat.mul_le_mul_right sz (show i+1<=i' from c)
            rwa [Nat.add_mul,Nat.one_mul] at this
           rw[if_neg (by omega),if_neg (by omega)];exact hy)
        refine⟨_,_,_,rfl,?_,rfl,hE,cZ⟩;have e:x.cells.size=n:=Y3.trans hn.symm;simp only[storeVar,Sem.run_bind,ct hs,Result.andThen_ok,e,ne_eq,not_true,if_false];exact bZ
      ·grind
     ·grind
    ·grind
   ·grind
  ·grind
 ·grind
end
inductive EJ {α β:Type}(R:α->β->Prop):List α->List β->Prop where
 |nil:EJ R [] []
 |cons {a:α}{b:β}{l:List α}{m:List β}(h:R a b) (t:EJ R l m):EJ R (a::l) (b::m)
section
variable {P:Program}{g:Gh}{w:World}{S:ae}
theorem y4 (off:Nat):∀ (l:List Value) (k:Nat) (cs:Array Value),((l.zipIdx k).foldl (fun cs (p:Value × Nat)=>cs.setIfInBounds (off+p.2) p.1) cs).size=cs.size /\
  (off+k+l.length<=cs.size->∀ q,((l.zipIdx k).foldl (fun cs (p:Value × Nat)=>cs.setIfInBounds (off+p.2) p.1) cs)[q]?=if q < off+k then cs[q]? else if q < off+k+l.length then l[q - (off+k)]? else cs[q]?)
 |[],k,cs=>⟨rfl,fun _ q=>by simp only[List.length_nil,Nat.add_zero,List.zipIdx_nil,List.foldl_nil];split<;>first|rfl|(rename_i c;rw[if_neg c])⟩
 |v::l,k,cs=>by
  obtain⟨h1,h2⟩:=y4 off l (k+1) (cs.setIfInBounds (off+k) v);simp only[List.zipIdx_cons,List.foldl_cons];refine⟨by grind,fun hle q=>?_⟩;simp only[List.length_cons] at hle;rw[h2 (by grind) q];simp only[Array.getElem?_setIfInBounds,List.length_cons];by_cases c1:q < off+k
  ·grind
  ·grind
def oL (g:Gh) (w:World) (l:List AV) (cs:Array Value):Prop:=cs.size=l.length/\∀ (i:Nat) (a:AV) (x:Value),l[i]?=some a->cs[i]?=some x->aF g w a x
theorem oL.bJ (cs:Array Value):oL g w (cs.toList.map bJ) cs:=by
 refine⟨by simp,fun i a x h1 h2=>?_⟩;simp only[List.getElem?_map,Option.map_eq_some_iff] at h1;obtain⟨y,hy,rfl⟩:=h1;have:some x=some y:=by grind
 obtain rfl:=oJ_ this;exact lM x
theorem oL.lay {l:List AV}{cs cs':Array Value}(h:oL g w l cs) {a:AV}{x:Value}(ha:(aL a).all bO=true) (hx:aF g w a x) {off:Nat}(hle:off+(aL a).length<=l.length)
  (hs:cs'.size=cs.size) (m7:∀ q,cs'[q]?=if q < off then cs[q]? else if q < off+x.cells.size then x.cells[q - off]? else cs[q]?):oL g w (mF l off (aL a)) cs':=by
 obtain⟨c1,c2,c3⟩:=pA ha hx;refine⟨by rw[hs,h.1,Bt hle],fun i b y h1 h2=>?_⟩;rw[EI,vT _ _ _ hle] at h1;rw[m7,c1] at h2;by_cases d1:i < off
 ·rw[if_pos d1] at h1 h2;exact h.2 i b y h1 h2
 ·rw[if_neg d1] at h1 h2;by_cases d2:i < off+(aL a).length
  ·grind
  ·rw[if_neg d2] at h1 h2;exact h.2 i b y h1 h2
theorem w6 {place:Nat->Option (Nat × Nat)}:∀ {parts:List (Nat × AV)}{y5:List (Nat × Value)}{l r:List AV}{cs:Array Value},wY place l parts=some r->oL g w l cs ->
  EJ (fun (p:Nat × AV) (q:Nat × Value)=>p.1=q.1/\aF g w p.2 q.2) parts y5->∃ cs',Instr.fill place cs y5=some cs'/\oL g w r cs'
 |[],_,l,r,cs,h,hl,hp=>by
  cases hp;obtain rfl:=oJ_ h;exact⟨cs,rfl,hl⟩
 |(i,a)::rest,_,l,r,cs,h,hl,hp=>by
  cases hp with
  |@cons _ q _ mN hq oA =>
   obtain⟨j,x⟩:=q;obtain⟨e,hx⟩:=hq;simp only at e hx;subst e;simp only[wY] at h;split at h
   ·rename_i off size y6;split at h
    ·rename_i hc;simp only[Bool.and_eq_true] at hc;obtain⟨⟨e1,e2⟩,e3⟩:=hc;have e1:=Nat.eq_of_beq_eq_true e1;have e2:=Nat.le_of_ble_eq_true e2;obtain⟨c1,c2,c3⟩:=pA e3 hx;have f:=y4 off x.cells.toList 0 cs;have j9:off+x.cells.size<=cs.size:=by rw[hl.1,c1];omega
     have f2:=f.2 (by grind);have nI:=hl.lay (cs':=(x.cells.toList.zipIdx 0).foldl (fun cs (p:Value × Nat)=>cs.setIfInBounds (off+p.2) p.1) cs) (off:=off) e3 hx (by omega) f.1 (fun q=>by grind);obtain⟨cs',h1,h2⟩:=w6 h nI oA;refine⟨cs',?_,h2⟩;rw[<-h1];simp only[Instr.fill,y6];rw[if_neg (by grind)];congr 1;rw[<-Array.foldl_toList,Array.toList_zipIdx]
    ·grind
   ·grind
theorem uL {n:Nat}{α:AA}{a:Act}(hA:bR g w n α a):∀ (parts:List (Nat × Operand)),
  EJ (fun (p:Nat × AV) (q:Nat × Value)=>p.1=q.1/\aF g w p.2 q.2) (parts.map fun (i,x)=>(i,α.ev x)) (parts.map fun (i,x)=>(i,a.eval x))
 |[]=>.nil
 |(i,x)::rest=>.cons ⟨rfl,hA.ev x⟩ (uL hA rest)
theorem FM:∀ (fs:List Field),(fs.all fun (f:Field)=>(cY P f.type).isSome)=true->∃ pl:List (Nat × Nat),fs.mapM (fun (f:Field)=>(P.info? f.type).map fun i=>(f.offset,i.size))=some pl /\
  ∀ i:Nat,pl[i]?=match fs[i]? with|some f=>(match cY P f.type with|some n=>some (f.offset,n)|none=>none)|none=>none
 |[],_=>⟨[],by simp,fun i=>by simp⟩
 |f::fs,h=>by
  simp only[List.all_cons,Bool.and_eq_true] at h;obtain⟨n,hn⟩:=Option.isSome_iff_exists.1 h.1;obtain⟨pl,h1,h2⟩:=FM fs h.2;have y7:=hn;unfold cY at y7;obtain⟨i,hi,e⟩:=Option.map_eq_some_iff.1 y7;refine⟨(f.offset,n)::pl,by simp[List.mapM_cons,hi,h1,e],fun i=>?_⟩;cases i with
  |zero=>simp[hn]
  |succ i=>simpa using h2 i
theorem KB {n:Nat}{α:AA}{a:Act}{t:TypeId}{parts:Array (Nat × Operand)}{r:AV}(hA:bR g w n α a) (h:tv P t (parts.toList.map fun (i,x)=>(i,α.ev x))=some r) :
  ∃ v,(Instr.build t (parts.map fun (i,x)=>(i,a.eval x))).run P w=.ok v w/\aF g w r v:=by
 have hp:=uL hA parts.toList;unfold tv at h;split at h
 ·rename_i cs hz;have hz':=hz;unfold de at hz';obtain⟨it,yL,nZ⟩:=Option.bind_eq_some_iff.1 hz';split at h
  ·rename_i fs hu;split at h
   ·rename_i mZ;obtain⟨l,hl,rfl⟩:=Option.map_eq_some_iff.1 h;obtain⟨cs',h1,h2⟩:=w6 hl (oL.bJ cs) hp;obtain⟨pl,h3,h4⟩:=FM fs.toList mZ;refine⟨.agg cs',run_build w t _ cs' ?_,.agg h2.1 h2.2⟩;have e:H5 P fs=fun x=>pl.toArray[x]?:=by
     funext i;rw[List.getElem?_toArray,h4 i,Array.getElem?_toList]
     rfl
    rw[e] at h1;simp only[Program.built,yL,hu,nZ,h3,Array.toList_map];exact h1
   ·grind
  ·rename_i len e hu;split at h
   ·rename_i m hm;obtain⟨l,hl,rfl⟩:=Option.map_eq_some_iff.1 h;obtain⟨cs',h1,h2⟩:=w6 hl (oL.bJ cs) hp;refine⟨.agg cs',run_build w t _ cs' ?_,.agg h2.1 h2.2⟩;obtain⟨ie,hie,rfl⟩:=jG hm;simp only[Program.built,yL,hu,nZ,hie,Array.toList_map];exact h1
   ·grind
  ·grind
 ·grind
end
end Go.Proofs.YtbpabjmnhggajaaGreat
