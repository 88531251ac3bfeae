import Derived.Laws.AppendOwn
import Derived.Laws.CopyRow
import Derived.RangeFuncLeaves
import Derived.Room.Entries
import Derived.Test.YtgphljokbodciaaGreatS1
namespace Go.Proofs.YtgphljokbodciaaGreat
set_option linter.unusedVariables false
set_option linter.unusedSimpArgs false
open Go.RowKit
inductive DE where
 |ob (k:Nat)
 |del (t:Target) (k:Nat) (i:Int)
def DE.k:DE->Nat
 |.ob k=>k
 |.del _ k _=>k
instance:Coe Nat DE:=⟨DE.ob⟩
def FE (f:Nat->Nat):DE->Deferred
 |.ob k=>{ target:=.collected (f k),args:=#[] }
 |.del t k i=>{ target:=t,args:=#[.map (some (f k)),.int .i64 i] }
theorem vg {f f':Nat->Nat}{d:DE}(h:f' d.k=f d.k):FE f' d=FE f d:=by
 cases d with
 |ob k=>have h:f' k=f k:=h;simp only [FE,h]
 |del t k i=>have h:f' k=f k:=h;simp only [FE,h]
structure AA where
 tm:Nat->AV
 df:List DE
def AA.put (α:AA):Option Tmp->AV->AA
 |some d,a=>⟨bP α.tm d a,α.df⟩
 |none,_=>α
def bV:Value->AV
 |.slice none 0 0=>.sl true []
 |x=>.v x
def lift:Value->AV
 |.agg cs=>.agg (cs.toList.map bV)
 |x=>bV x
def AA.ev (α:AA):Operand->AV
 |.tmp t=>α.tm t
 |.const v=>lift v
 |.global g=>.v (.pointer (some ⟨g,0,none⟩))
 |.func f=>.v (.func (.func f) #[] #[])
section
variable {g g':Gh}{w w':World}
theorem j3 (x:Value):aL g w (bV x) x:=by
 unfold bV
 split
 ·exact .nil (fun _=>rfl)
 ·exact .v
theorem xU (x:Value):aL g w (lift x) x:=by
 unfold lift
 split
 ·rename_i cs
  refine .agg (by simp) (fun i a x h1 h2=>?_)
  simp only [List.getElem?_map,Option.map_eq_some_iff] at h1
  obtain⟨y,hy,rfl⟩:=h1
  have:some x=some y:=by rw [<-h2,<-hy,Array.getElem?_toList]
  obtain rfl:=Option.some.inj this
  exact j3 x
 ·exact j3 _
structure b7 (g:Gh) (w:World) (n:Nat) (α:AA) (a:Act):Prop where
 size:a.tmps.size=n
 tm:∀ t,t < n->aL g w (α.tm t) (a.tmps.getD t undef)
 out:∀ t,n<=t->α.tm t=.u
 df:a.defers=α.df.map (FE g.ob)
 sZ:∀ d ∈ α.df,g.al d.k
theorem b7.later {n:Nat}{α:AA}{a:Act}(hL:Later g w g' w') (h:b7 g w n α a):b7 g' w' n α a :=
 ⟨h.size,fun t ht=>(h.tm t ht).later hL,h.out,h.df.trans (List.map_congr_left fun k hk=>(vg (hL.ob _ (h.sZ k hk))).symm),fun k hk=>hL.al _ (h.sZ k hk)⟩
theorem b7.ev {n:Nat}{α:AA}{a:Act}(h:b7 g w n α a) (o:Operand):aL g w (α.ev o) (a.eval o):=by
 cases o with
 |tmp t =>
  show aL g w (α.tm t) (a.tmps.getD t undef)
  by_cases ht:t < n
  ·exact h.tm t ht
  ·rw [h.out t (Nat.le_of_not_lt ht)];exact .u
 |const v=>exact xU v
 |global g=>exact .v
 |func f=>exact .v
theorem b7.put {n:Nat}{α:AA}{a:Act}(h:b7 g w n α a) {d:Tmp}(hd:d < n) {b:AV}{x:Value}(hx:aL g w b x):b7 g w n (α.put (some d) b) (a.put (some d) x):=by
 refine⟨by simp [Act.put,h.size],fun t ht=>?_,fun t ht=>?_,h.df,h.sZ⟩
 ·show aL g w (bP α.tm d b t) ((a.tmps.setIfInBounds d x).getD t undef)
  have e:(a.tmps.setIfInBounds d x).getD t undef=if t=d then x else a.tmps.getD t undef:=by
   simp only [Array.getD_eq_getD_getElem?,Array.getElem?_setIfInBounds]
   by_cases e:d=t
   ·subst e;simp [h.size,hd]
   ·simp [e,Ne.symm e]
  rw [e]
  by_cases e:t=d
  ·subst e;rw [aG,if_pos rfl];exact hx
  ·rw [aN _ _ e,if_neg e];exact h.tm t ht
 ·show bP α.tm d b t=.u
  rw [aN _ _ (Nat.ne_of_gt (Nat.lt_of_lt_of_le hd ht))]
  exact h.out t ht
theorem b7.M0 {n:Nat}{α:AA}{a:Act}(h:b7 g w n α a) {b:AV}{x:Value}:b7 g w n (α.put none b) (a.put none x):=h
end
def iF (F:Fence):Prop:=(∀ f,F.fn f)/\F.depth=none/\F.alive=false
theorem iF.inRound {F:Fence}(h:iF F) (l:Nat):iF (F.inRound l):=h
theorem iF.plain {F:Fence}(h:iF F):iF F.plain:=h
theorem iF.wide:iF Fence.wide:=⟨fun _=>trivial,rfl,rfl⟩
section
variable (P:Program) (w0:World) (rd:Bool) (n:Nat)
def lR (A:Nat->Prop) (g:Gh) (w:World) (ex:Exit) (aB:AA) (S':ae):Exit->Act->World->Prop :=
 fun ex' a' w'=>ex'=ex/\∃ g',St w0 A g' S' w'/\b7 g' w' n aB a'/\Ext A g w g' w'
def cy (c:Code) (α:AA) (S:ae) (ex:Exit) (aB:AA) (S':ae):Prop :=
 ∀ (F:Fence) (m:Nat) (A:Nat->Prop) (g:Gh) (a:Act) (w:World),iF F->F.round.isSome=rd->St w0 A g S w->b7 g w n α a->c.wpIn F m P (lR w0 n A g w ex aB S') a w
end
section
variable {P:Program}{w0:World}{rd:Bool}{n:Nat}{α bN aB:AA}{S bZ S':ae}{ex:Exit}{c d:Code}
theorem lR.ext {A:Nat->Prop}{g xV:Gh}{w iG:World}(hE:Ext A g w xV iG) {ex':Exit}{a':Act}{w':World}(h:lR w0 n A xV iG ex aB S' ex' a' w'):lR w0 n A g w ex aB S' ex' a' w':=by
 obtain⟨h1,g',h2,h3,h4⟩:=h
 exact⟨h1,g',h2,h3,hE.trans h4⟩
def KI (c:Code):Prop:=c=.skip\/∃ l,c=.label l
theorem KI.wp (h:KI c) {F:Fence}{m:Nat}{Q:Exit->Act->World->Prop}{a:Act}{w:World}(q:Q .normal a w):c.wpIn F m P Q a w:=by
 rcases h with rfl|⟨l,rfl⟩
 ·exact wpIn_skip q
 ·exact wpIn_label q
theorem cy.skip (h:KI c):cy P w0 rd n c α S .normal α S:=fun F m A g a w hF hR hS hA=>h.wp ⟨rfl,g,hS,hA,Ext.refl ..⟩
theorem cy.exit_ (id:Nat):cy P w0 rd n (.exit id) α S (.exit id) α S:=fun F m A g a w hF hR hS hA=>wpIn_exit ⟨rfl,g,hS,hA,Ext.refl ..⟩
theorem cy.ret:cy P w0 rd n .ret α S .ret α S:=fun F m A g a w hF hR hS hA=>wpIn_ret ⟨rfl,g,hS,hA,Ext.refl ..⟩
theorem cy.seq (h:cy P w0 rd n c α S .normal bN bZ) (k:cy P w0 rd n d bN bZ ex aB S'):cy P w0 rd n (.seq c d) α S ex aB S':=by
 intro F m A g a w hF hR hS hA
 refine wpIn_seq (wpIn_mono (h F m A g a w hF hR hS hA) ?_)
 rintro e jN iG ⟨rfl,xV,yP,yQ,hE⟩
 exact wpIn_mono (k F m A xV jN iG hF hR yP yQ) fun e a w hq=>lR.ext hE hq
theorem cy.TK (h:cy P w0 rd n c α S ex aB S') (he:ex ≠ .normal):cy P w0 rd n (.seq c d) α S ex aB S':=by
 intro F m A g a w hF hR hS hA
 refine wpIn_seq (wpIn_mono (h F m A g a w hF hR hS hA) ?_)
 rintro e jN iG ⟨rfl,hq⟩
 cases e with
 |normal=>exact absurd rfl he
 |_=>exact⟨rfl,hq⟩
theorem Db {g:Gh}{w:World}{b:Bool}{x:Value}(h:aL g w (.v (.bool b)) x):x=.bool b:=by cases h;rfl
theorem cd {g:Gh}{w:World}{y x:Value}(h:aL g w (.v y) x):x=y:=by cases h;rfl
theorem cy.cond {o:Operand}{t:Bool}(ho:α.ev o=.v (.bool t)) (h:cy P w0 rd n (if t then c else d) α S ex aB S'):cy P w0 rd n (.cond o c d) α S ex aB S':=by
 intro F m A g a w hF hR hS hA
 have h1:=hA.ev o
 rw [ho] at h1
 exact wpIn_cond (Db h1) (h F m A g a w hF hR hS hA)
theorem Hf {F:Fence}{m:Nat}{Q:Exit->Act->World->Prop}{a:Act}{w:World}(h:c.wpIn F m P (fun ex a w=>(∀ l,ex ≠ .goto l)/\Q ex a w) a w):(Code.scope c).wpIn F m P Q a w:=by
 intro b k cs n0 hb hr
 have s1:step P (lone (b.atR a (.code (.scope c)::k)) cs w)=.next (lone (b.atR a (.code c::.inScope c::k)) cs w):=step_lone_go (by simp [stepG,stepG.exec,Frame.atR])
 have s2:∀ (a:Act) (w:World),step P (lone (b.atR a (.inScope c::k)) cs w)=.next (lone (b.atR a k) cs w):=fun a w=>step_lone_go (by simp [stepG,stepG.exec,Frame.atR])
 have h0:(lone (b.atR a (.code (.scope c)::k)) cs w).fenced P F:=fenced_calm hb hr rfl
 obtain⟨e,jN,iG,⟨hg,hq⟩,ma⟩:=h b (.inScope c::k) cs n0 hb hr
 cases e with
 |normal=>exact⟨.normal,jN,iG,hq,.head h0 s1 (StepsIn.trans ma (.one (fenced_calm hb hr rfl) (s2 jN iG)))⟩
 |exit id =>
  have hx:exitTo id (.inScope c::k)=exitTo id k:=by simp [exitTo]
  exact⟨.exit id,jN,iG,hq,fun k' hk=>.head h0 s1 (ma.1 k' (by rw [hx];exact hk)),fun iZ hk=>let ⟨k₁,h1,h2⟩:=ma.2 iZ (by rw [hx];exact hk);⟨k₁,h1,.head h0 s1 h2⟩⟩
 |goto l=>exact absurd rfl (hg l)
 |ret=>exact⟨_,jN,iG,hq,.of_steps (.one h0 s1) ma⟩
 |panic ch=>exact⟨_,jN,iG,hq,.of_steps (.one h0 s1) ma⟩
 |outgrown=>exact⟨_,jN,iG,hq,.of_steps (.one h0 s1) ma⟩
theorem cy.scope (h:cy P w0 rd n c α S ex aB S') (he:∀ l,ex ≠ .goto l):cy P w0 rd n (.scope c) α S ex aB S':=by
 intro F m A g a w hF hR hS hA
 refine Hf (wpIn_mono (h F m A g a w hF hR hS hA) ?_)
 rintro e jN iG ⟨rfl,hq⟩
 exact⟨he,rfl,hq⟩
theorem cy.block {id:Nat}(h:cy P w0 rd n c α S ex aB S') (he:ex ≠ .exit id):cy P w0 rd n (.block id c) α S ex aB S':=by
 intro F m A g a w hF hR hS hA
 refine wpIn_block (wpIn_mono (h F m A g a w hF hR hS hA) ?_)
 rintro e jN iG ⟨rfl,hq⟩
 cases e with
 |exit j =>
  have:j ≠ id:=fun e=>he (by rw [e])
  simp only [Exit.inBlock,this,if_false]
  exact⟨rfl,hq⟩
 |_=>exact⟨rfl,hq⟩
theorem cy.Hg {id:Nat}(h:cy P w0 rd n c α S (.exit id) aB S'):cy P w0 rd n (.block id c) α S .normal aB S':=by
 intro F m A g a w hF hR hS hA
 refine wpIn_block (wpIn_mono (h F m A g a w hF hR hS hA) ?_)
 rintro e jN iG ⟨rfl,hq⟩
 simp only [Exit.inBlock,if_true]
 exact⟨rfl,hq⟩
def sQ (P:Program) (w0:World) (rd:Bool) (n:Nat) (c:Code) (α:AA) (S:ae) (ex:Exit) (aB:AA) (S':ae):Prop :=
 ∀ (F:Fence) (m:Nat) (A:Nat->Prop) (g:Gh) (a:Act) (w:World),iF F->F.round.isSome=rd->St w0 A g S w->b7 g w n α a->∀ (b:Frame) (k:List Item) (cs:List Frame),b.roundOf=F.round->F.fn b.fn->F.room (cs.length+1+m) ->
  ∃ e a' w',lR w0 n A g w ex aB S' e a' w'/\ArrivesIn (Machine.fenced P F) P (lone (b.atR a (.code c::.inLoop c::k)) cs w) b k cs e a' w'
theorem cy.loop (h:sQ P w0 rd n c α S ex aB S'):cy P w0 rd n (.loop c) α S ex aB S':=by
 intro F m A g a w hF hR hS hA b k cs n0 hb hr
 obtain⟨e,a',w',hq,ma⟩:=h F m A g a w hF hR hS hA b k cs n0 hb hr
 exact⟨e,a',w',hq,.of_steps (.one (fenced_calm hb hr rfl) stepR_loop) ma⟩
theorem sQ.step (h:cy P w0 rd n c α S .normal bN bZ) (k:sQ P w0 rd n c bN bZ ex aB S'):sQ P w0 rd n c α S ex aB S':=by
 intro F m A g a w hF hR hS hA b l cs n0 hb hr
 obtain⟨e,jN,iG,hq,ma⟩:=h F m A g a w hF hR hS hA b (.inLoop c::l) cs n0 hb hr
 obtain⟨rfl,xV,yP,yQ,hE⟩:=hq
 obtain⟨M1,M3,M4,Hh,Ak⟩:=k F m A xV jN iG hF hR yP yQ b l cs n0 hb hr
 exact⟨M1,M3,M4,lR.ext hE Hh,.of_steps (StepsIn.trans ma (.one (fenced_calm hb hr rfl) stepR_inLoop)) Ak⟩
theorem sQ.done (h:cy P w0 rd n c α S ex aB S') (he:ex ≠ .normal):sQ P w0 rd n c α S ex aB S':=by
 intro F m A g a w hF hR hS hA b l cs n0 hb hr
 obtain⟨e,jN,iG,hq,ma⟩:=h F m A g a w hF hR hS hA b (.inLoop c::l) cs n0 hb hr
 obtain⟨rfl,hq⟩:=hq
 exact⟨e,jN,iG,⟨rfl,hq⟩,.pass (x:=.inLoop c) rfl (fun _ _=>.inl he) ma⟩
def aV (P:Program) (w0:World) (f:FuncId) (args:List AV) (S:ae) (r:AV) (S':ae):Prop :=
 (∀ (xs:Array Value) (w:World),(callFunc f xs).run P w=.ok (.enter f xs) w) /\
 ∀ (F:Fence) (m:Nat) (A:Nat->Prop) (g:Gh) (bO:Array Value) (w:World),iF F->St w0 A g S w->jL g w args bO ->
  CallsIn F m P f bO w fun e w'=>∃ v g',e=.returned v/\aL g' w' r v/\St w0 A g' S' w'/\Ext A g w g' w'
def nz (P:Program) (w0:World) (k:Nat) (args:List AV) (S:ae) (r:AV) (S':ae):Prop :=
 ∀ (F:Fence) (m:Nat) (A:Nat->Prop) (g:Gh) (bO:Array Value) (w:World),iF F->St w0 A g S w->g.al k->jL g w args bO->∃ l f tmps assign body,(Instr.yield (g.ob k) bO).run P w=.ok (.round l f tmps assign body) w /\
  RoundIn F m P l f tmps assign body w fun e w'=>∃ v g',e=.returned v/\aL g' w' r v/\St w0 A g' S' w'/\Ext A g w g' w'
def ah (P:Program) (w0:World) (f:FuncId) (args:List AV) (r:AV):Prop :=
 Pure r/\∃ S',aV P w0 f args ae.none_ r S'
end
def bp {α:Type}(o:Option α) (K:α->Prop):Prop:=match o with|some a=>K a|none=>False
theorem bp.out {α:Type}{o:Option α}{K:α->Prop}(h:bp o K):∃ a,o=some a/\K a:=by
 cases o with
 |none=>exact h.elim
 |some a=>exact⟨a,rfl,h⟩
theorem bp.mk {α:Type}{o:Option α}{K:α->Prop}{a:α}(h:o=some a) (k:K a):bp o K:=by subst h;exact k
def Hi (P:Program) (t:TypeId):Option Bool :=
 match P.underlying t with
 |some (.struct _)|some (.array _ _)=>some true
 |some _=>some false
 |none=>none
def cS (P:Program) (t:TypeId):Option Nat:=(P.info? t).map (·.size)
def gm (P:Program) (t:TypeId):Option Nat:=(P.info? t).map (·.bytes)
def cY (P:Program) (t:TypeId):Option Value:=(P.info? t).bind (·.zero)
def Hj (row:List AV) (j n:Nat):List AV:=match j,Nat.beq n row.length with|0,true=>row|_,_=>(row.drop j).take n
def lS (P:Program) (t:TypeId) (row:List AV) (j:Nat):Option AV :=
 match Hi P t,cS P t with
 |some true,some n=>match Nat.ble (j+n) row.length with|true=>some (.agg (Hj row j n))|false=>none
 |some false,_=>row[j]?
 |_,_=>none
def r7 (P:Program) (S:ae) (t:TypeId):AV->Option AV
 |.ip row=>lS P t row 0
 |.pt k sz i j=>match S.get k with
  |some (.arr sz' rows _ _)=>match Nat.beq sz sz' with
   |true=>match rows[i]? with
    |some row=>lS P t row j
    |none=>none
   |false=>none
  |_=>none
 |_=>none
def a_:AV->List AV
 |.agg l=>l
 |a=>[a]
def cn:AV->Bool
 |.v x=>x.oneCell'
 |.agg _|.bc _|.u=>false
 |_=>true
def oy (row:List AV) (j:Nat) (cs:List AV):List AV:=match j,Nat.beq cs.length row.length with|0,true=>cs|_,_=>row.take j++cs++row.drop (j+cs.length)
def lv (P:Program) (S:ae) (t:TypeId) (b:AV):AV->Option ae
 |.pt k sz i j=>match S.get k with
  |some (.arr sz' rows 0 ex)=>match Nat.beq sz sz' && (a_ b).all cn && (match cS P t with|some n=>Nat.beq n (a_ b).length|none=>false) with
   |true=>match rows[i]? with
    |some row=>match Nat.ble (j+(a_ b).length) row.length with
     |true=>some (S.set k (some (.arr sz (rows.set i (oy row j (a_ b))) 0 ex)))
     |false=>none
    |none=>none
   |false=>none
  |_=>none
 |_=>none
def ae.new (S:ae) (o:Ob):ae:=⟨bP S.get S.nx (some o),S.nx+1⟩
def iH (S:ae) (cs:List AV):AV × ae:=(.pt S.nx cs.length 0 0,S.new (Ob.arr cs.length [cs] 0 true))
def tU (place:Nat->Option (Nat × Nat)):List AV->List (Nat × AV)->Option (List AV)
 |cells,[]=>some cells
 |cells,(i,a)::rest=>match place i with
  |some (off,size)=>match Nat.beq (a_ a).length size && Nat.ble (off+size) cells.length && (a_ a).all cn with
   |true=>tU place (oy cells off (a_ a)) rest
   |false=>none
  |none=>none
def Dd (P:Program) (fs:Array Field) (i:Nat):Option (Nat × Nat) :=
 match fs[i]? with
 |some f=>match cS P f.type with|some n=>some (f.offset,n)|none=>none
 |none=>none
def qS (P:Program) (t:TypeId) (parts:List (Nat × AV)):Option AV :=
 match cY P t with
 |some (.agg cs)=>match P.underlying t with
  |some (.struct fs)=>match fs.toList.all fun f=>(cS P f.type).isSome with
   |true=>(tU (Dd P fs) (cs.toList.map bV) parts).map .agg
   |false=>none
  |some (.array _ e)=>match cS P e with
   |some n=>(tU (fun i=>some (i*n,n)) (cs.toList.map bV) parts).map .agg
   |none=>none
  |_=>none
 |_=>none
def tV (size:Nat):List (List AV)->List (Nat × AV)->Option (List (List AV))
 |rows,[]=>some rows
 |rows,(i,a)::rest=>match Nat.beq (a_ a).length size && Nat.blt i rows.length && (a_ a).all cn with
  |true=>tV size (rows.set i (a_ a)) rest
  |false=>none
def idx {α:Type}(rows:List α) (i:Int):Option α:=if 0<=i then rows[i.toNat]? else none
theorem Fx {α:Type}{rows:List α}{k:Nat}{x:α}(h:rows[k]?=some x):idx rows (k:Int)=some x:=by
 unfold idx
 rw [if_pos (by omega)]
 simpa using h
def rowsOf (S:ae):AV->Option (List (List AV))
 |.sl _ rows=>some rows
 |.ob k sz off len _=>match S.get k with
  |some (.arr sz' rows _ _)=>match Nat.beq sz sz' with
   |true=>some ((rows.drop off).take len)
   |false=>none
  |_=>none
 |_=>none
def l_:AV->Option Nat
 |.sl _ rows=>some rows.length
 |.ob _ _ _ len _=>some len
 |.v (.string s)=>some s.size
 |_=>none
def isStr:AV->Bool
 |.v (.string _)=>true
 |_=>false
def px (P:Program) (op:BinOp) (t:TypeId):Value->Value->Option Value
 |.int k a,.int k' b=>match decide (k=k') with
  |true=>match op with
   |.eql=>some (.bool (a == b))
   |.neq=>some (.bool (a != b))
   |.lss=>some (.bool (decide (a < b)))
   |.leq=>some (.bool (decide (a<=b)))
   |.gtr=>some (.bool (decide (a > b)))
   |.geq=>some (.bool (decide (a>=b)))
   |_=>none
  |false=>none
 |.string a,.string b=>match op with
  |.eql=>some (.bool (a.toList == b.toList))
  |.neq=>some (.bool (!(a.toList == b.toList)))
  |.lss=>some (.bool (Op.bytesLess a.toList b.toList))
  |.leq=>some (.bool (Op.bytesLess a.toList b.toList || a.toList == b.toList))
  |.gtr=>some (.bool (!(Op.bytesLess a.toList b.toList || a.toList == b.toList)))
  |.geq=>some (.bool (!Op.bytesLess a.toList b.toList))
  |_=>none
 |.bool a,.bool b=>match P.underlying t with
  |some .bool=>match op with
   |.eql=>some (.bool (a == b))
   |.neq=>some (.bool (!(a == b)))
   |_=>none
  |_=>none
 |_,_=>none
def arith:BinOp->Int->Int->Option Int
 |.add,a,b=>some (a+b)
 |.sub,a,b=>some (a - b)
 |.mul,a,b=>some (a*b)
 |_,_,_=>none
def lenOf (P:Program) (t:TypeId) (a:AV):Option Nat:=match P.underlying t,isStr a,l_ a with
 |some (.slice _),false,some m=>some m
 |some .string,true,some m=>some m
 |_,_,_=>none
def wC (S:ae) (k:Nat):Option (Nat × List (List AV) × Nat × Bool):=match S.get k with
 |some (.arr sz rows fz ex)=>some (sz,rows,fz,ex)
 |_=>none
theorem yR {S:ae}{k sz fz:Nat}{rows:List (List AV)}{ex:Bool}(h:wC S k=some (sz,rows,fz,ex)):S.get k=some (.arr sz rows fz ex):=by
 unfold wC at h
 split at h
 ·rename_i e
  rw [e]
  injection h with h
  injection h with h1 h
  injection h with h2 h
  injection h with h3 h4
  subst h1 h2 h3 h4
  rfl
 ·cases h
theorem qR {S:ae}{k sz fz:Nat}{rows:List (List AV)}{ex:Bool}(h:S.get k=some (.arr sz rows fz ex)):wC S k=some (sz,rows,fz,ex):=by
 unfold wC
 rw [h]
def wD (P:Program) (w0:World) (K:AV->ae->Prop) (S:ae) (args:List AV):AV->Prop
 |.v (.func (.func g) first cap)=>match first.toList,cap.toList with
  |[],[]=>∃ r S',aV P w0 g args S r S'/\K r S'
  |_,_=>False
 |.fn (.func g) first cap=>∃ r S',aV P w0 g (first++args++cap) S r S'/\K r S'
 |.yl k=>∃ r S',nz P w0 k args S r S'/\K r S'
 |_=>False
def jm (P:Program) (e:TypeId) (K:AV->ae->Prop) (S:ae) (more:List (List AV)):AV->Prop
 |.sl true rows=>match more with
  |[]=>K (.sl true rows) S
  |x::more=>match cS P e,gm P e with
   |some sz,some by_=>match Nat.blt 0 by_ with
    |true=>(∀ row ∈ rows,row.length=sz)/\(∀ row ∈ x::more,row.length=sz)/\(rows.length+(x::more).length)*by_<=35184372088832 /\
     K (.ob S.nx sz 0 (rows.length+(x::more).length) none) (S.new (.arr sz (rows++x::more) 0 false))
    |false=>False
   |_,_=>False
 |.ob k sz 0 len none=>bp (wC S k) fun o=>match o with
  |(sz',rows,fz,ex)=>match more with
   |[]=>K (.ob k sz 0 len none) S
   |x::more=>match cS P e,gm P e with
    |some gn,some by_=>match Nat.beq sz' sz && Nat.beq gn sz && Nat.blt 0 by_ with
     |true=>fz<=len/\len<=rows.length/\(∀ row ∈ x::more,row.length=sz/\row.all cn=true)/\(len+(x::more).length)*by_<=35184372088832 /\
      K (.ob S.nx sz 0 (len+(x::more).length) none) ((S.set k none).new (.arr sz (rows.take len++x::more) fz false))
     |false=>False
    |_,_=>False
 |.ob k sz off len (some c)=>bp (wC S k) fun o=>match o with
  |(sz',rows,fz,ex)=>match more with
   |[]=>K (.ob k sz off len (some c)) S
   |x::more=>match cS P e,gm P e with
    |some gn,some by_=>match Nat.beq sz' sz && Nat.beq gn sz && Nat.blt 0 by_ with
     |true=>c=len/\off+len<=rows.length/\(∀ row ∈ x::more,row.length=sz)/\(len+(x::more).length)*by_<=35184372088832 /\
      K (.ob S.nx sz 0 (len+(x::more).length) none) (S.new (.arr sz ((rows.drop off).take len++x::more) 0 false))
     |false=>False
    |_,_=>False
 |_=>False
def fJ (P:Program) (t:TypeId):Option TypeId:=match P.underlying t with|some (.slice e)=>some e|_=>none
def lu (P:Program) (K:AV->ae->Prop) (S:ae) (argTypes:List TypeId) (args:List AV):Builtin->Prop
 |.len=>match argTypes,args with
  |[t],[a]=>bp (lenOf P t a) fun m=>K (.v (.int .i64 (m:Int))) S
  |_,_=>False
 |.append=>match argTypes,args with
  |[t,t2],[a,b]=>match fJ P t,fJ P t2 with
   |some e,some _=>match (match cY P e,cS P e with|some z,some sz=>Nat.beq z.cells.size sz|_,_=>false) with
    |true=>bp (rowsOf S b) fun more=>l_ b=some more.length/\jm P e K S more a
    |false=>False
   |_,_=>False
  |_,_=>False
 |.min=>match args with
  |[.v (.int k a),.v (.int k' b)]=>match decide (k=k') with|true=>K (.v (.int k (min a b))) S|false=>False
  |_=>False
 |.max=>match args with
  |[.v (.int k a),.v (.int k' b)]=>match decide (k=k') with|true=>K (.v (.int k (max a b))) S|false=>False
  |_=>False
 |_=>False
def kh:Option AV->Int->Option Int
 |none,d=>some d
 |some (.v (.int _ i)),_=>some i
 |_,_=>none
def jO (P:Program) (t:TypeId) (K:AV->ae->Prop) (S:ae) (x:AV) (lo hi mx:Option AV):Prop :=
 match x,mx with
 |.v (.string s),none=>match P.underlying t,kh lo 0,kh hi s.size with
  |some .string,some l,some h=>0<=l/\l<=h/\h<=s.size/\K (.v (.string (s.extract l.toNat h.toNat))) S
  |_,_,_=>False
 |.sl ex rows,none=>match P.underlying t,kh lo 0,kh hi rows.length with
  |some (.slice e),some l,some h=>(∀ row ∈ rows,cS P e=some row.length)/\(cS P e).isSome/\0<=l/\l<=h/\h<=rows.length/\K (.sl false ((rows.take h.toNat).drop l.toNat)) S
  |_,_,_=>False
 |.sl ex rows,some (.v (.int _ m))=>match P.underlying t,kh lo 0,hi with
  |some (.slice e),some l,some (.v (.int _ h))=>(∀ row ∈ rows,cS P e=some row.length)/\(cS P e).isSome/\0<=l/\l<=h/\h=m/\h<=rows.length/\K (.sl true ((rows.take h.toNat).drop l.toNat)) S
  |_,_,_=>False
 |.ob k sz off len cx,none=>match P.underlying t,lo,kh hi len with
  |some (.slice e),none,some h=>cS P e=some sz/\0<=h/\h<=len/\K (.ob k sz off h.toNat cx) S
  |some (.slice e),some (.v (.int _ l)),some h=>cS P e=some sz/\0<=l/\l<=h/\h<=len/\(l=h->K (.sl false []) S)/\(l < h->K (.ob k sz (off+l.toNat) (h.toNat - l.toNat) (cx.map (· - l.toNat))) S)
  |_,_,_=>False
 |.ob k sz off len cx,some (.v (.int _ m))=>match P.underlying t,kh lo 0,hi with
  |some (.slice e),some l,some (.v (.int _ h))=>cS P e=some sz/\l=0/\h=m/\h<=len/\0<=h/\K (.ob k sz off h.toNat (some h.toNat)) S
  |_,_,_=>False
 |_,_=>False
def br (t:Bool) (X Y:Prop):Prop:=match t with|true=>X|false=>Y
def gd (want t:Bool) (X Y:Prop):Prop:=match want with|true=>br t X Y|false=>br t Y X
def De (S:ae) (k:Nat):Option (ByteArray × Nat):=match S.get k with
 |some (.si s pos)=>some (s,pos)
 |_=>none
theorem KJ {S:ae}{k pos:Nat}{s:ByteArray}(h:De S k=some (s,pos)):S.get k=some (.si s pos):=by
 unfold De at h
 split at h
 ·rename_i e
  rw [e]
  injection h with h
  injection h with h1 h2
  subst h1 h2
  rfl
 ·cases h
def qT (v:Value) (K:Value->Prop):Prop:=match v with|.bool b=>∃ d,b=d/\K (.bool d)|v=>K v
theorem qT.out {v:Value}{K:Value->Prop}(h:qT v K):K v:=by
 unfold qT at h
 split at h
 ·obtain⟨d,rfl,h⟩:=h;exact h
 ·exact h
theorem qT.mk {v:Value}{K:Value->Prop}(h:K v):qT v K:=by
 unfold qT
 split
 ·exact⟨_,rfl,h⟩
 ·exact h
def bm (P:Program) (w0:World) (o:Op) (α:AA) (S:ae) (K:AV->ae->Prop):Prop :=
 match o with
 |.move x|.assign x=>K (α.ev x) S
 |.pick c a b=>match α.ev c with
  |.v (.bool t)=>br t (K (α.ev a) S) (K (α.ev b) S)
  |_=>False
 |.alloc e=>match cY P e with
  |some z=>K (iH S (z.cells.toList.map bV)).1 (iH S (z.cells.toList.map bV)).2
  |none=>False
 |.box _ x=>match (a_ (α.ev x)).all cn with
  |true=>K (iH S (a_ (α.ev x))).1 (iH S (a_ (α.ev x))).2
  |false=>False
 |.build t parts=>match qS P t (parts.toList.map fun (i,x)=>(i,α.ev x)) with
  |some a=>K a S
  |none=>False
 |.buildSlice t len parts=>match fJ P t with
  |some e=>match cY P e,cS P e with
   |some z,some n=>match Nat.ble (len*n) 16777216 && Nat.beq z.cells.size n && Nat.blt 0 n with
    |true=>match tV n (List.replicate len (z.cells.toList.map bV)) (parts.toList.map fun (i,x)=>(i,α.ev x)) with
     |some rows=>K (.sl true rows) S
     |none=>False
    |false=>False
   |_,_=>False
  |none=>False
 |.load t x=>bp (r7 P S t (α.ev x)) fun a=>K a S
 |.store t x b=>bp (lv P S t (α.ev b) (α.ev x)) fun S'=>K (.v undef) S'
 |.binOp op t x y _=>match α.ev x,α.ev y with
  |.v (.int k a),.v (.int k' b)=>match arith op a b with
   |some c=>match decide (k=k') with|true=>∃ d,k.wrap c=d/\K (.v (.int k d)) S|false=>False
   |none=>match px P op t (.int k a) (.int k' b) with
    |some v=>qT v fun v=>K (.v v) S
    |none=>False
  |.v (.string a),.v (.string b)=>match op with
   |.add=>a.size+b.size<=9223372036854775807/\K (.v (.string (a++b))) S
   |_=>match px P op t (.string a) (.string b) with
    |some v=>qT v fun v=>K (.v v) S
    |none=>False
  |.v a,.v b=>match px P op t a b with
   |some v=>qT v fun v=>K (.v v) S
   |none=>False
  |_,_=>False
 |.unOp op _ x=>match op,α.ev x with
  |.not,.v (.bool b)=>K (.v (.bool (!b))) S
  |.neg,.v (.int k a)=>∃ d,k.wrap (0 - a)=d/\K (.v (.int k d)) S
  |_,_=>False
 |.convert src dst x=>match P.underlying src,P.underlying dst,α.ev x with
  |some (.int _),some (.int k),.v (.int _ a)=>∃ d,k.wrap a=d/\K (.v (.int k d)) S
  |some .string,some .string,.v (.string s)=>K (.v (.string s)) S
  |_,_,_=>False
 |.fieldAddr s x f=>match P.underlying s with
  |some (.struct fs)=>match fs[f]? with
   |some fd=>match cS P fd.type with
    |some (_+1)=>match α.ev x with
     |.ip row=>K (.ip (row.drop fd.offset)) S
     |.pt k sz i j=>K (.pt k sz i (j+fd.offset)) S
     |_=>False
    |_=>False
   |none=>False
  |_=>False
 |.field t x f=>match P.underlying t with
  |some (.struct fs)=>match fs[f]? with
   |some fd=>match α.ev x with
    |.agg l=>bp (lS P fd.type l fd.offset) fun a=>K a S
    |_=>False
   |none=>False
  |_=>False
 |.indexAddr t x i=>match P.underlying t,α.ev x,α.ev i with
  |some (.slice e),.sl _ rows,.v (.int _ k)=>match cS P e with
   |some n=>bp (idx rows k) fun row=>(∀ r ∈ rows,r.length=n)/\K (.ip row) S
   |none=>False
  |some (.slice e),.ob k sz off len _,.v (.int _ i)=>cS P e=some sz/\0<=i/\i < len/\K (.pt k sz (off+i.toNat) 0) S
  |some (.array len e),.pt k sz i j,.v (.int _ q)=>match cS P e with
   |some n=>0<=q/\q < len/\K (.pt k sz i (j+q.toNat*n)) S
   |none=>False
  |some (.array len e),.ip row,.v (.int _ q)=>match cS P e with
   |some n=>0<=q/\q < len/\K (.ip (row.drop (q.toNat*n))) S
   |none=>False
  |_,_,_=>False
 |.index t x i=>match P.underlying t,α.ev x,α.ev i with
  |some .string,.v (.string s),.v (.int _ k)=>bp (idx s.data.toList k) fun b=>K (.v (.int .u8 b.toNat)) S
  |some (.array len e),.agg l,.v (.int _ q)=>match cS P e with
   |some n=>bp (lS P e l (q.toNat*n)) fun a=>0<=q/\q < len/\K a S
   |none=>False
  |_,_,_=>False
 |.slice t x lo hi mx=>jO P t K S (α.ev x) (lo.map α.ev) (hi.map α.ev) (mx.map α.ev)
 |.extract x i=>match α.ev x with
  |.bc l=>match l[i]? with
   |some a=>K a S
   |none=>False
  |_=>False
 |.makeSlice t l c=>match fJ P t,α.ev l,α.ev c with
  |some e,.v (.int _ a),.v (.int _ b)=>match cY P e,cS P e,gm P e with
   |some z,some sz,some by_=>match Nat.beq z.cells.size sz && Nat.blt 0 sz with
    |true=>0<=a/\a=b/\a*by_<=35184372088832/\a<=9223372036854775807/\K (.ob S.nx sz 0 a.toNat none) (S.new (.arr sz (List.replicate a.toNat (z.cells.toList.map bV)) 0 true))
    |false=>False
   |_,_,_=>False
  |_,_,_=>False
 |.range t x=>match P.underlying t,α.ev x with
  |some .string,.v (.string s)=>K (.pt S.nx 0 0 0) (S.new (.si s 0))
  |_,_=>False
 |.next x isStr=>match isStr,α.ev x with
  |true,.pt k _ 0 0=>bp (De S k) fun o=>match o with
   |(s,pos)=>∃ d,decide (pos < s.size)=d/\br d (K (.bc [.v (.bool true),.v (.int .i64 pos),.v (.int .i32 (Utf8.decode s pos).1)]) (S.set k (some (.si s (pos+(Utf8.decode s pos).2))))) (K (.bc [.v (.bool false)]) S)
  |_,_=>False
 |.makeFunc f first cap=>K (.fn f (first.toList.map α.ev) (cap.toList.map α.ev)) S
 |.nilCheck x=>match α.ev x with
  |.ip c=>K (.ip c) S
  |.pt k sz i j=>K (.pt k sz i j) S
  |_=>False
 |.call c=>match c.callee with
  |.value f=>wD P w0 K S (c.args.toList.map α.ev) (α.ev f)
  |.builtin b=>lu P K S c.argTypes.toList (c.args.toList.map α.ev) b
  |.invoke _ _=>False
 |_=>False
def m6 (ops:Array Oper) (α:AA) (j:Nat):Option (Option Bool) :=
 match (ops[j]?).bind (·.dst) with
 |some t=>match α.tm t with|.v (.bool b)=>some (some b)|.v (.tuple _)=>some none|_=>none
 |none=>none
def tW:List Oper->Nat->Option Tmp
 |[],_=>none
 |o::_,0=>o.dst
 |_::l,j+1=>tW l j
theorem Df:∀ (l:List Oper) (j:Nat),tW l j=(l[j]?).bind (·.dst)
 |[],j=>by simp [tW]
 |o::l,0=>by simp [tW]
 |o::l,j+1=>by simp [tW,Df l j]
def Qg (ops:List Oper) (α:AA) (j:Nat):Option (Option Bool) :=
 match tW ops j with
 |some t=>match α.tm t with|.v (.bool b)=>some (some b)|.v (.tuple _)=>some none|_=>none
 |none=>none
theorem vh {ops:Array Oper}{α:AA}{j:Nat}:Qg ops.toList α j=m6 ops α j:=by
 unfold Qg m6
 rw [Df,Array.getElem?_toList]
def mC (n:Nat) (d:Option Tmp):Bool:=match d with|some d=>Nat.blt d n|none=>true
theorem fS (b o j:Nat):(⟨b,o,none⟩:Addr).add j=⟨b,o+j,none⟩:=by unfold Addr.add;split<;>simp_all
section
variable {P:Program}{g:Gh}{w:World}{S:ae}{t:TypeId}
theorem iI {n:Nat}(h:cS P t=some n):∃ i,P.info? t=some i/\i.size=n:=by
 unfold cS at h
 obtain⟨i,hi,e⟩:=Option.map_eq_some_iff.1 h
 exact⟨i,hi,e⟩
theorem cP {n:Nat}(h:cS P t=some n):(sizeOf t).run P w=.ok n w:=by
 obtain⟨i,hi,rfl⟩:=iI h
 simp [sizeOf,typeInfo,hi]
theorem m7 {z:Value}(h:cY P t=some z):(zeroValue t).run P w=.ok z w:=by
 unfold cY at h
 obtain⟨i,hi,e⟩:=Option.bind_eq_some_iff.1 h
 simp [zeroValue,typeInfo,hi,e]
theorem tX {b:Bool}(h:Hi P t=some b):(isAgg t).run P w=.ok b w:=by
 unfold Hi at h
 cases hd:P.underlying t with
 |none=>rw [hd] at h;cases h
 |some d =>
  rw [hd] at h
  simp only [isAgg,Sem.run_bind,run_underlying hd,Result.andThen_ok]
  cases d<;>simp_all
def Cells (g:Gh) (w:World) (b o:Nat) (row:List AV):Prop:=∀ (j:Nat) (a:AV),row[j]?=some a->∃ x,w.cell? ⟨b,o+j,none⟩=some x/\aL g w a x
theorem Cells.list {b:Nat}:∀ {row:List AV}{o:Nat},Cells g w b o row->∃ cs:List Value,cs.length=row.length/\(∀ j x,cs[j]?=some x->w.cell? ⟨b,o+j,none⟩=some x)/\∀ (j:Nat) (a:AV) (x:Value),row[j]?=some a->cs[j]?=some x->aL g w a x
 |[],o,h=>⟨[],rfl,fun j x hx=>by simp at hx,fun j a x ha=>by simp at ha⟩
 |a::row,o,h=>by
  obtain⟨x,hx,hr⟩:=h 0 a rfl
  obtain⟨cs,hl,h1,h2⟩:=Cells.list (row:=row) (o:=o+1) (fun j a ha=>by
   obtain⟨y,hy,yS⟩:=h (j+1) a (by simpa using ha)
   exact⟨y,by rw [<-hy];congr 2;omega,yS⟩)
  refine⟨x::cs,by simp [hl],fun j y hy=>?_,fun j a' y ha hy=>?_⟩
  ·cases j with
   |zero=>simp at hy;subst hy;exact hx
   |succ j=>simp at hy;rw [<-h1 j y hy];congr 2;omega
  ·cases j with
   |zero=>simp at ha hy;subst ha hy;exact hr
   |succ j=>simp at ha hy;exact h2 j a' y ha hy
theorem Cells.drop {b o:Nat}{row:List AV}(h:Cells g w b o row) (j:Nat):Cells g w b (o+j) (row.drop j):=fun i a ha=>by
 rw [List.getElem?_drop] at ha
 obtain⟨x,hx,hr⟩:=h (j+i) a ha
 exact⟨x,by rw [<-hx];congr 2;omega,hr⟩
theorem Cells.take {b o:Nat}{row:List AV}(h:Cells g w b o row) (n:Nat):Cells g w b o (row.take n):=fun i a ha=>by
 rw [List.getElem?_take] at ha
 split at ha
 ·exact h i a ha
 ·cases ha
theorem FF (row:List AV) (j n:Nat):Hj row j n=(row.drop j).take n:=by
 unfold Hj
 split
 ·rename_i h
  have:=Nat.eq_of_beq_eq_true h
  subst this
  simp
 ·rfl
theorem w8 {row:List AV}{j b o:Nat}{r:AV}(h:lS P t row j=some r) (hc:Cells g w b o row):∃ x,(loadVar t ⟨b,o+j,none⟩).run P w=.ok x w/\aL g w r x:=by
 unfold lS at h
 split at h
 ·rename_i n ha hs
  split at h
  ·rename_i hle
   have hle:=Nat.le_of_ble_eq_true hle
   obtain rfl:=Option.some.inj h
   rw [FF]
   obtain⟨cs,hl,h1,h2⟩:=((hc.drop j).take n).list
   have hn:cs.length=n:=by rw [hl,List.length_take,List.length_drop];omega
   refine⟨.agg cs.toArray,?_,.agg (by simp [hl]) (fun i a x ha hx=>h2 i a x ha (by simpa using hx))⟩
   have:=run_loadCells_list (P:=P) (w:=w) ⟨b,o+j,none⟩ cs (fun i v hv=>by rw [fS];exact h1 i v hv)
   simp only [loadVar,Sem.run_bind,tX ha,Result.andThen_ok,if_true,cP hs]
   rw [<-hn,this]
   rfl
  ·cases h
 ·rename_i ha
  obtain⟨x,hx,hr⟩:=hc j r h
  refine⟨x,?_,hr⟩
  simp only [loadVar,Sem.run_bind,tX ha,Result.andThen_ok,if_false,Bool.false_eq_true,run_load,hx]
 ·cases h
theorem KK {cp b sz:Nat}{rows:List (List AV)}{fz:Nat}{ex:Bool}(h:dF g w b cp (.arr sz rows fz ex)) {i:Nat}{row:List AV}(hr:rows[i]?=some row):Cells g w b (i*sz) row:=by
 obtain⟨cs,ty,h1,h2,h3,h4,h5,h6,h7⟩:=h
 intro j a ha
 obtain⟨x,hx,dO⟩:=(h5 i row hr).2 j a ha
 exact⟨x,by rw [cell_of_row _ _ _ cs ty (0,0) h1];exact hx,dO⟩
theorem xW {cs:List AV}{v:Value}(h:aL g w (.ip cs) v):∃ b o,v=.pointer (some ⟨b,o,none⟩)/\Cells g w b o cs:=by
 cases h with
 |ip h hr=>exact⟨_,_,rfl,fun j a ha=>⟨_,(h j a ha).2,hr j a ha⟩⟩
theorem w9 {w0:World}{A:Nat->Prop}{a r:AV}{v:Value}(hS:St w0 A g S w) (h:r7 P S t a=some r) (hv:aL g w a v):∃ b o x,v=.pointer (some ⟨b,o,none⟩)/\(loadVar t ⟨b,o,none⟩).run P w=.ok x w/\aL g w r x:=by
 unfold r7 at h
 split at h
 ·rename_i row
  obtain⟨b,o,rfl,hc⟩:=xW hv
  obtain⟨x,hx,hr⟩:=w8 h hc
  exact⟨b,o,x,rfl,by simpa using hx,hr⟩
 ·rename_i k sz i j
  split at h
  ·rename_i sz' rows fz ex hk
   split at h
   ·rename_i bI
    have bI:=Nat.eq_of_beq_eq_true bI
    subst bI
    split at h
    ·rename_i row iJ
     cases hv with
     |pt au =>
      obtain⟨x,hx,hr⟩:=w8 h (KK (hS.cH k _ hk au).2.2 iJ)
      exact⟨_,_,x,rfl,hx,hr⟩
    ·cases h
   ·cases h
  ·cases h
 ·cases h
theorem pZ {a:AV}{x:Value}(h:cn a=true) (hr:aL g w a x):x.oneCell'=true:=by
 cases hr<;>simp_all [cn,Value.oneCell']
theorem nA {a:AV}{x:Value}(h:(a_ a).all cn=true) (hr:aL g w a x):x.cells.size=(a_ a).length/\(∀ (i:Nat) (b:AV) (y:Value),(a_ a)[i]?=some b->x.cells[i]?=some y->aL g w b y)/\∀ y ∈ x.cells.toList,y.oneCell'=true:=by
 have one:a_ a=[a]->x.cells.size=(a_ a).length/\(∀ (i:Nat) (b:AV) (y:Value),(a_ a)[i]?=some b->x.cells[i]?=some y->aL g w b y):=by
  intro e
  rw [e] at h ⊢
  have h1:x.oneCell'=true:=pZ (by simpa using h) hr
  have e1:x.cells=#[x]:=by cases x<;>simp_all [Value.cells,Value.oneCell']
  rw [e1]
  refine⟨rfl,fun i b y h1 h2=>?_⟩
  cases i with
  |zero=>simp at h1 h2;subst h1 h2;exact hr
  |succ i=>simp at h1
 have key:x.cells.size=(a_ a).length/\(∀ (i:Nat) (b:AV) (y:Value),(a_ a)[i]?=some b->x.cells[i]?=some y->aL g w b y):=by
  cases a with
  |agg l=>cases hr with|agg hs h'=>exact⟨hs,h'⟩
  |_=>exact one rfl
 refine⟨key.1,key.2,fun y hy=>?_⟩
 obtain⟨i,hi,rfl⟩:=List.getElem_of_mem hy
 have gY:i < (a_ a).length:=by rw [<-key.1];simpa using hi
 have h1:(a_ a)[i]?=some (a_ a)[i]:=List.getElem?_eq_getElem gY
 have h2:x.cells[i]?=some x.cells.toList[i]:=by rw [Array.getElem_toList,Array.getElem?_eq_getElem]
 exact pZ (List.all_eq_true.1 h _ (List.getElem_mem gY)) (key.2 i _ _ h1 h2)
theorem Al (row:List AV) (j:Nat) (cs:List AV):oy row j cs=row.take j++cs++row.drop (j+cs.length):=by
 unfold oy
 split
 ·rename_i h
  have:=Nat.eq_of_beq_eq_true h
  simp [this]
 ·rfl
theorem w_ {row:List AV}{j:Nat}{cs:List AV}(h:j+cs.length<=row.length):(oy row j cs).length=row.length:=by
 rw [Al]
 simp
 omega
theorem qt {α:Type}(row cs:List α) (j:Nat) (h:j+cs.length<=row.length) (q:Nat):(row.take j++cs++row.drop (j+cs.length))[q]?=if q < j then row[q]? else if q < j+cs.length then cs[q - j]? else row[q]?:=by
 by_cases h1:q < j
 ·rw [if_pos h1,List.append_assoc,List.getElem?_append_left (by simp;omega),List.getElem?_take,if_pos h1]
 ·rw [if_neg h1]
  by_cases h2:q < j+cs.length
  ·rw [if_pos h2,List.append_assoc,List.getElem?_append_right (by simp;omega),List.getElem?_append_left (by simp;omega)]
   congr 1
   simp
   omega
  ·rw [if_neg h2,List.getElem?_append_right (by simp;omega),List.getElem?_drop]
   congr 1
   simp
   omega
theorem qU {w0:World}{A:Nat->Prop}{a b:AV}{v x:Value}{S':ae}(hS:St w0 A g S w) (h:lv P S t b a=some S') (hv:aL g w a v) (hx:aL g w b x) :
  ∃ c o w',v=.pointer (some ⟨c,o,none⟩)/\(storeVar t ⟨c,o,none⟩ x).run P w=.ok () w'/\S'.nx=S.nx/\Ext A g w g w'/\St w0 A g S' w':=by
 unfold lv at h
 split at h
 ·rename_i k sz i j
  split at h
  ·rename_i sz' rows ex hk
   split at h
   ·rename_i hc
    simp only [Bool.and_eq_true] at hc
    obtain⟨⟨bI,lx⟩,hn⟩:=hc
    have bI:=Nat.eq_of_beq_eq_true bI
    subst bI
    split at hn
    ·rename_i n hs
     have hn:=Nat.eq_of_beq_eq_true hn
     split at h
     ·rename_i row iJ
      split at h
      ·rename_i hle
       have hle:=Nat.le_of_ble_eq_true hle
       obtain rfl:=Option.some.inj h
       obtain⟨Hk,afw,afx⟩:=nA lx hx
       cases hv with
       |pt au =>
        obtain⟨k2,k3,k4⟩:=hS.cH k _ hk au
        obtain⟨cs,ty,h1,h2,h3,h4,h5,h6,h7⟩:=k4
        have hri:i < rows.length:=(List.getElem?_eq_some_iff.1 iJ).1
        have gZ:=(h5 i row iJ).1
        have hmul:i*sz+sz<=rows.length*sz:=by
         have:=Nat.mul_le_mul_right sz (show i+1<=rows.length from hri)
         rwa [Nat.add_mul,Nat.one_mul] at this
        have aiA:rows.length*sz<=g.cp k*sz:=Nat.mul_le_mul_right sz h3
        have en:(i*sz+j)+0+x.cells.toList.length<=cs.size:=by rw [Array.length_toList,Hk];omega
        have cu:=run_storeCells_at P (g.ob k) (i*sz+j) ty x.cells.toList 0 cs w h1 en afx
        simp only [Nat.add_zero] at cu
        obtain⟨cs',oz⟩:∃ cs',cs'=(cs.toList.take (i*sz+j)++x.cells.toList++cs.toList.drop (i*sz+j+x.cells.toList.length)).toArray:=⟨_,rfl⟩
        rw [<-oz] at cu
        have kl:∀ q,cs'[q]?=if q < i*sz+j then cs[q]? else if q < i*sz+j+(a_ b).length then x.cells[q - (i*sz+j)]? else cs[q]?:=by
         intro q
         rw [oz,List.getElem?_toArray,qt _ _ _ (by simpa using en)]
         simp only [Array.getElem?_toList,Array.length_toList,Hk]
        have hlen:cs'.size=cs.size:=by
         rw [oz]
         simp
         simp at en
         omega
        obtain⟨hE,cZ⟩:=hS.row hk au h1 (cs':=cs') (ob:=.arr sz (rows.set i (oy row j (a_ b))) 0 ex) (fun J=>⟨by simp,by simp⟩) (fun q hq=>absurd ((h7 q).1 hq) (by simp)) (fun hL=>by
         refine⟨cs',ty,setRow_heap w _ cs cs' ty (0,0) h1,hlen.trans h2,by simpa using h3,fun he=>by simpa using h4 he,fun i' bA iZ=>?_,Nat.zero_le _,h7⟩
         by_cases e:i'=i
         ·subst e
          rw [List.getElem?_set_self hri] at iZ
          obtain rfl:=Option.some.inj iZ
          refine⟨(w_ hle).trans gZ,fun j' a' cC=>?_⟩
          rw [Al,qt _ _ _ hle] at cC
          rw [kl]
          by_cases c1:j' < j
          ·rw [if_pos c1] at cC
           rw [if_pos (by omega)]
           obtain⟨y,hy,yS⟩:=(h5 _ row iJ).2 j' a' cC
           exact⟨y,hy,yS.later hL⟩
          ·rw [if_neg c1] at cC
           rw [if_neg (by omega)]
           by_cases c2:j' < j+(a_ b).length
           ·rw [if_pos c2] at cC
            rw [if_pos (by omega),show i'*sz+j' - (i'*sz+j)=j' - j by omega]
            have Vu:j' - j < x.cells.size:=by rw [Hk];omega
            exact⟨x.cells[j' - j],Array.getElem?_eq_getElem Vu,(afw _ _ _ cC (Array.getElem?_eq_getElem Vu)).later hL⟩
           ·rw [if_neg c2] at cC
            rw [if_neg (by omega)]
            obtain⟨y,hy,yS⟩:=(h5 _ row iJ).2 j' a' cC
            exact⟨y,hy,yS.later hL⟩
         ·rw [List.getElem?_set_ne (Ne.symm e)] at iZ
          refine⟨(h5 i' bA iZ).1,fun j' a' cC=>?_⟩
          obtain⟨y,hy,yS⟩:=(h5 i' bA iZ).2 j' a' cC
          have lZ:j' < sz:=by rw [<-(h5 i' bA iZ).1];exact (List.getElem?_eq_some_iff.1 cC).1
          refine⟨y,?_,yS.later hL⟩
          rw [kl]
          rcases Nat.lt_or_gt_of_ne e with c|c
          ·have:i'*sz+sz<=i*sz:=by
            have:=Nat.mul_le_mul_right sz (show i'+1<=i from c)
            rwa [Nat.add_mul,Nat.one_mul] at this
           rw [if_pos (by omega)]
           exact hy
          ·have:i*sz+sz<=i'*sz:=by
            have:=Nat.mul_le_mul_right sz (show i+1<=i' from c)
            rwa [Nat.add_mul,Nat.one_mul] at this
           rw [if_neg (by omega),if_neg (by omega)]
           exact hy)
        refine⟨_,_,_,rfl,?_,rfl,hE,cZ⟩
        have e:x.cells.size=n:=Hk.trans hn.symm
        simp only [storeVar,Sem.run_bind,cP hs,Result.andThen_ok,e,ne_eq,not_true,if_false]
        exact cu
      ·cases h
     ·cases h
    ·cases hn
   ·cases h
  ·cases h
 ·cases h
end
inductive Am {α β:Type}(R:α->β->Prop):List α->List β->Prop where
 |nil:Am R [] []
 |cons {a:α}{b:β}{l:List α}{m:List β}(h:R a b) (t:Am R l m):Am R (a::l) (b::m)
section
variable {P:Program}{g:Gh}{w:World}{S:ae}
theorem vi (off:Nat):∀ (l:List Value) (k:Nat) (cs:Array Value),((l.zipIdx k).foldl (fun cs (p:Value × Nat)=>cs.setIfInBounds (off+p.2) p.1) cs).size=cs.size /\
  (off+k+l.length<=cs.size->∀ q,((l.zipIdx k).foldl (fun cs (p:Value × Nat)=>cs.setIfInBounds (off+p.2) p.1) cs)[q]?=if q < off+k then cs[q]? else if q < off+k+l.length then l[q - (off+k)]? else cs[q]?)
 |[],k,cs=>⟨rfl,fun _ q=>by simp only [List.length_nil,Nat.add_zero,List.zipIdx_nil,List.foldl_nil];split<;>first|rfl|(rename_i c;rw [if_neg c])⟩
 |v::l,k,cs=>by
  obtain⟨h1,h2⟩:=vi off l (k+1) (cs.setIfInBounds (off+k) v)
  simp only [List.zipIdx_cons,List.foldl_cons]
  refine⟨by rw [h1];simp,fun hle q=>?_⟩
  simp only [List.length_cons] at hle
  rw [h2 (by simp;omega) q]
  simp only [Array.getElem?_setIfInBounds,List.length_cons]
  by_cases c1:q < off+k
  ·rw [if_pos (by omega),if_neg (by omega),if_pos c1]
  ·rw [if_neg c1]
   by_cases c2:q=off+k
   ·subst c2
    rw [if_pos (by omega),if_pos rfl,if_pos (by omega),if_pos (by omega)]
    simp
   ·rw [if_neg (show ¬ q < off+(k+1) by omega)]
    by_cases c3:q < off+k+(l.length+1)
    ·rw [if_pos (by omega),if_pos c3,show q - (off+k)=(q - (off+(k+1)))+1 by omega]
     simp
    ·rw [if_neg (by omega),if_neg c3,if_neg (by omega)]
def mI (g:Gh) (w:World) (l:List AV) (cs:Array Value):Prop:=cs.size=l.length/\∀ (i:Nat) (a:AV) (x:Value),l[i]?=some a->cs[i]?=some x->aL g w a x
theorem mI.bV (cs:Array Value):mI g w (cs.toList.map bV) cs:=by
 refine⟨by simp,fun i a x h1 h2=>?_⟩
 simp only [List.getElem?_map,Option.map_eq_some_iff] at h1
 obtain⟨y,hy,rfl⟩:=h1
 have:some x=some y:=by rw [<-h2,<-hy,Array.getElem?_toList]
 obtain rfl:=Option.some.inj this
 exact j3 x
theorem mI.lay {l:List AV}{cs cs':Array Value}(h:mI g w l cs) {a:AV}{x:Value}(ha:(a_ a).all cn=true) (hx:aL g w a x) {off:Nat}(hle:off+(a_ a).length<=l.length)
  (hs:cs'.size=cs.size) (kl:∀ q,cs'[q]?=if q < off then cs[q]? else if q < off+x.cells.size then x.cells[q - off]? else cs[q]?):mI g w (oy l off (a_ a)) cs':=by
 obtain⟨c1,c2,c3⟩:=nA ha hx
 refine⟨by rw [hs,h.1,w_ hle],fun i b y h1 h2=>?_⟩
 rw [Al,qt _ _ _ hle] at h1
 rw [kl,c1] at h2
 by_cases d1:i < off
 ·rw [if_pos d1] at h1 h2;exact h.2 i b y h1 h2
 ·rw [if_neg d1] at h1 h2
  by_cases d2:i < off+(a_ a).length
  ·rw [if_pos d2] at h1 h2;exact c2 _ b y h1 h2
  ·rw [if_neg d2] at h1 h2;exact h.2 i b y h1 h2
theorem tY {place:Nat->Option (Nat × Nat)}:∀ {parts:List (Nat × AV)}{vj:List (Nat × Value)}{l r:List AV}{cs:Array Value},tU place l parts=some r->mI g w l cs ->
  Am (fun (p:Nat × AV) (q:Nat × Value)=>p.1=q.1/\aL g w p.2 q.2) parts vj->∃ cs',Instr.fill place cs vj=some cs'/\mI g w r cs'
 |[],_,l,r,cs,h,hl,hp=>by
  cases hp
  obtain rfl:=Option.some.inj h
  exact⟨cs,rfl,hl⟩
 |(i,a)::rest,_,l,r,cs,h,hl,hp=>by
  cases hp with
  |@cons _ q _ km hq kn =>
   obtain⟨j,x⟩:=q
   obtain⟨e,hx⟩:=hq
   simp only at e hx
   subst e
   simp only [tU] at h
   split at h
   ·rename_i off size hpl
    split at h
    ·rename_i hc
     simp only [Bool.and_eq_true] at hc
     obtain⟨⟨e1,e2⟩,e3⟩:=hc
     have e1:=Nat.eq_of_beq_eq_true e1
     have e2:=Nat.le_of_ble_eq_true e2
     obtain⟨c1,c2,c3⟩:=nA e3 hx
     have f:=vi off x.cells.toList 0 cs
     have en:off+x.cells.size<=cs.size:=by rw [hl.1,c1];omega
     have f2:=f.2 (by simpa using en)
     have nB:=hl.lay (cs':=(x.cells.toList.zipIdx 0).foldl (fun cs (p:Value × Nat)=>cs.setIfInBounds (off+p.2) p.1) cs) (off:=off) e3 hx (by omega) f.1 (fun q=>by
      rw [f2 q]
      simp only [Nat.add_zero,Array.length_toList,Array.getElem?_toList])
     obtain⟨cs',h1,h2⟩:=tY h nB kn
     refine⟨cs',?_,h2⟩
     rw [<-h1]
     simp only [Instr.fill,hpl]
     rw [if_neg (by simp only [Bool.or_eq_true,decide_eq_true_eq,not_or];omega)]
     congr 1
     rw [<-Array.foldl_toList,Array.toList_zipIdx]
    ·cases h
   ·cases h
theorem vk {n:Nat}{α:AA}{a:Act}(hA:b7 g w n α a):∀ (parts:List (Nat × Operand)),
  Am (fun (p:Nat × AV) (q:Nat × Value)=>p.1=q.1/\aL g w p.2 q.2) (parts.map fun (i,x)=>(i,α.ev x)) (parts.map fun (i,x)=>(i,a.eval x))
 |[]=>.nil
 |(i,x)::rest=>.cons ⟨rfl,hA.ev x⟩ (vk hA rest)
theorem Be:∀ (fs:List Field),(fs.all fun (f:Field)=>(cS P f.type).isSome)=true->∃ pl:List (Nat × Nat),fs.mapM (fun (f:Field)=>(P.info? f.type).map fun i=>(f.offset,i.size))=some pl /\
  ∀ i:Nat,pl[i]?=match fs[i]? with|some f=>(match cS P f.type with|some n=>some (f.offset,n)|none=>none)|none=>none
 |[],_=>⟨[],by simp,fun i=>by simp⟩
 |f::fs,h=>by
  simp only [List.all_cons,Bool.and_eq_true] at h
  obtain⟨n,hn⟩:=Option.isSome_iff_exists.1 h.1
  obtain⟨pl,h1,h2⟩:=Be fs h.2
  have Vv:=hn
  unfold cS at Vv
  obtain⟨i,hi,e⟩:=Option.map_eq_some_iff.1 Vv
  refine⟨(f.offset,n)::pl,by simp [List.mapM_cons,hi,h1,e],fun i=>?_⟩
  cases i with
  |zero=>simp [hn]
  |succ i=>simpa using h2 i
theorem EV {n:Nat}{α:AA}{a:Act}{t:TypeId}{parts:Array (Nat × Operand)}{r:AV}(hA:b7 g w n α a) (h:qS P t (parts.toList.map fun (i,x)=>(i,α.ev x))=some r) :
  ∃ v,(Instr.build t (parts.map fun (i,x)=>(i,a.eval x))).run P w=.ok v w/\aL g w r v:=by
 have hp:=vk hA parts.toList
 unfold qS at h
 split at h
 ·rename_i cs hz
  have hz':=hz
  unfold cY at hz'
  obtain⟨it,Bg,pK⟩:=Option.bind_eq_some_iff.1 hz'
  split at h
  ·rename_i fs hu
   split at h
   ·rename_i lx
    obtain⟨l,hl,rfl⟩:=Option.map_eq_some_iff.1 h
    obtain⟨cs',h1,h2⟩:=tY hl (mI.bV cs) hp
    obtain⟨pl,h3,h4⟩:=Be fs.toList lx
    refine⟨.agg cs',run_build w t _ cs' ?_,.agg h2.1 h2.2⟩
    have e:Dd P fs=fun x=>pl.toArray[x]?:=by
     funext i
     rw [List.getElem?_toArray,h4 i,Array.getElem?_toList]
     rfl
    rw [e] at h1
    simp only [Program.built,Bg,hu,pK,h3,Array.toList_map]
    exact h1
   ·cases h
  ·rename_i len e hu
   split at h
   ·rename_i m hm
    obtain⟨l,hl,rfl⟩:=Option.map_eq_some_iff.1 h
    obtain⟨cs',h1,h2⟩:=tY hl (mI.bV cs) hp
    refine⟨.agg cs',run_build w t _ cs' ?_,.agg h2.1 h2.2⟩
    obtain⟨ie,hie,rfl⟩:=iI hm
    simp only [Program.built,Bg,hu,pK,hie,Array.toList_map]
    exact h1
   ·cases h
  ·cases h
 ·cases h
end
end Go.Proofs.YtgphljokbodciaaGreat
