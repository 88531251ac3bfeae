import Derived.Laws.AppendOwn
import Derived.Laws.CopyRow
import Derived.RangeFuncLeaves
import Derived.Room.Entries
import Derived.Test.YtgjfgekaclobaaaGreatCa1
namespace Go.Proofs.YtgjfgekaclobaaaGreat
set_option linter.unusedVariables false
set_option linter.unusedSimpArgs false
open Go.RowKit
inductive DE where
 |ob (k:Nat)
 |del (t:Target) (k:Nat) (i:Int)
def DE.k:DE->Nat
 |.ob k=>k
 |.del _ k _=>k
instance:Coe Nat DE:=⟨DE.ob⟩
def FP (f:Nat->Nat):DE->Deferred
 |.ob k=>{ target:=.collected (f k),args:=#[] }
 |.del t k i=>{ target:=t,args:=#[.map (some (f k)),.int .i64 i] }
theorem wI {f f':Nat->Nat}{d:DE}(h:f' d.k=f d.k):FP f' d=FP f d:=by
 cases d with
 |ob k=>have h:f' k=f k:=h;simp only [FP,h]
 |del t k i=>have h:f' k=f k:=h;simp only [FP,h]
structure AA where
 tm:Nat->AV
 df:List DE
def AA.put (α:AA):Option Tmp->AV->AA
 |some d,a=>⟨a8 α.tm d a,α.df⟩
 |none,_=>α
def bJ:Value->AV
 |.slice none 0 0=>.sl true []
 |x=>.v x
def lift:Value->AV
 |.agg cs=>.agg (cs.toList.map bJ)
 |x=>bJ x
def AA.ev (α:AA):Operand->AV
 |.tmp t=>α.tm t
 |.const v=>lift v
 |.global g=>.v (.pointer (some ⟨g,0,none⟩))
 |.func f=>.v (.func (.func f) #[] #[])
section
variable {g g':Gh}{w w':World}
theorem kF (x:Value):aH g w (bJ x) x:=by
 unfold bJ
 split
 ·exact .nil (fun _=>rfl)
 ·exact .v
theorem rO (x:Value):aH g w (lift x) x:=by
 unfold lift
 split
 ·rename_i cs
  refine .agg (by simp) (fun i a x h1 h2=>?_)
  simp only [List.getElem?_map,Option.map_eq_some_iff] at h1
  obtain⟨y,hy,rfl⟩:=h1
  have:some x=some y:=by rw [<-h2,<-hy,Array.getElem?_toList]
  obtain rfl:=oJ_ this
  exact kF x
 ·exact kF _
structure bN (g:Gh) (w:World) (n:Nat) (α:AA) (a:Act):Prop where
 size:a.tmps.size=n
 tm:∀ t,t < n->aH g w (α.tm t) (a.tmps.getD t undef)
 out:∀ t,n<=t->α.tm t=.u
 df:a.defers=α.df.map (FP g.ob)
 rI:∀ d ∈ α.df,g.al d.k
theorem bN.later {n:Nat}{α:AA}{a:Act}(hL:Later g w g' w') (h:bN g w n α a):bN g' w' n α a :=
 ⟨h.size,fun t ht=>(h.tm t ht).later hL,h.out,h.df.trans (List.map_congr_left fun k hk=>(wI (hL.ob _ (h.rI k hk))).symm),fun k hk=>hL.al _ (h.rI k hk)⟩
theorem bN.ev {n:Nat}{α:AA}{a:Act}(h:bN g w n α a) (o:Operand):aH g w (α.ev o) (a.eval o):=by
 cases o with
 |tmp t =>
  show aH g w (α.tm t) (a.tmps.getD t undef)
  by_cases ht:t < n
  ·exact h.tm t ht
  ·rw [h.out t (Nat.le_of_not_lt ht)];exact .u
 |const v=>exact rO v
 |global g=>exact .v
 |func f=>exact .v
theorem bN.put {n:Nat}{α:AA}{a:Act}(h:bN g w n α a) {d:Tmp}(hd:d < n) {b:AV}{x:Value}(hx:aH g w b x):bN g w n (α.put (some d) b) (a.put (some d) x):=by
 refine⟨by simp [Act.put,h.size],fun t ht=>?_,fun t ht=>?_,h.df,h.rI⟩
 ·show aH g w (a8 α.tm d b t) ((a.tmps.setIfInBounds d x).getD t undef)
  have e:(a.tmps.setIfInBounds d x).getD t undef=if t=d then x else a.tmps.getD t undef:=by
   simp only [Array.getD_eq_getD_getElem?,Array.getElem?_setIfInBounds]
   by_cases e:d=t
   ·subst e;simp [h.size,hd]
   ·simp [e,Ne.symm e]
  rw [e]
  by_cases e:t=d
  ·subst e;rw [aq,if_pos rfl];exact hx
  ·rw [aC _ _ e,if_neg e];exact h.tm t ht
 ·show a8 α.tm d b t=.u
  rw [aC _ _ (Nat.ne_of_gt (Nat.lt_of_lt_of_le hd ht))]
  exact h.out t ht
theorem bN.QX {n:Nat}{α:AA}{a:Act}(h:bN g w n α a) {b:AV}{x:Value}:bN g w n (α.put none b) (a.put none x):=h
end
def gU (F:Fence):Prop:=(∀ f,F.fn f)/\F.depth=none/\F.alive=false
theorem gU.inRound {F:Fence}(h:gU F) (l:Nat):gU (F.inRound l):=h
theorem gU.plain {F:Fence}(h:gU F):gU F.plain:=h
theorem gU.wide:gU Fence.wide:=⟨fun _=>trivial,rfl,rfl⟩
section
variable (P:Program) (w0:World) (rd:Bool) (n:Nat)
def mF (A:Nat->Prop) (g:Gh) (w:World) (ex:Exit) (aw:AA) (S':ad):Exit->Act->World->Prop :=
 fun ex' a' w'=>ex'=ex/\∃ g',St w0 A g' S' w'/\bN g' w' n aw a'/\Ext A g w g' w'
def cu (c:Code) (α:AA) (S:ad) (ex:Exit) (aw:AA) (S':ad):Prop :=
 ∀ (F:Fence) (m:Nat) (A:Nat->Prop) (g:Gh) (a:Act) (w:World),gU F->F.round.isSome=rd->St w0 A g S w->bN g w n α a->c.wpIn F m P (mF w0 n A g w ex aw S') a w
end
section
variable {P:Program}{w0:World}{rd:Bool}{n:Nat}{α bE aw:AA}{S bT S':ad}{ex:Exit}{c d:Code}
theorem mF.ext {A:Nat->Prop}{g zY:Gh}{w jd:World}(hE:Ext A g w zY jd) {ex':Exit}{a':Act}{w':World}(h:mF w0 n A zY jd ex aw S' ex' a' w'):mF w0 n A g w ex aw S' ex' a' w':=by
 obtain⟨h1,g',h2,h3,h4⟩:=h
 exact⟨h1,g',h2,h3,hE.trans h4⟩
def N0 (c:Code):Prop:=c=.skip\/∃ l,c=.label l
theorem N0.wp (h:N0 c) {F:Fence}{m:Nat}{Q:Exit->Act->World->Prop}{a:Act}{w:World}(q:Q .normal a w):c.wpIn F m P Q a w:=by
 rcases h with rfl|⟨l,rfl⟩
 ·exact wpIn_skip q
 ·exact wpIn_label q
theorem cu.skip (h:N0 c):cu P w0 rd n c α S .normal α S:=fun F m A g a w hF hR hS hA=>h.wp ⟨rfl,g,hS,hA,Ext.refl ..⟩
theorem cu.exit_ (id:Nat):cu P w0 rd n (.exit id) α S (.exit id) α S:=fun F m A g a w hF hR hS hA=>wpIn_exit ⟨rfl,g,hS,hA,Ext.refl ..⟩
theorem cu.ret:cu P w0 rd n .ret α S .ret α S:=fun F m A g a w hF hR hS hA=>wpIn_ret ⟨rfl,g,hS,hA,Ext.refl ..⟩
theorem cu.seq (h:cu P w0 rd n c α S .normal bE bT) (k:cu P w0 rd n d bE bT ex aw S'):cu P w0 rd n (.seq c d) α S ex aw S':=by
 intro F m A g a w hF hR hS hA
 refine wpIn_seq (wpIn_mono (h F m A g a w hF hR hS hA) ?_)
 rintro e kf jd ⟨rfl,zY,A6,A7,hE⟩
 exact wpIn_mono (k F m A zY kf jd hF hR A6 A7) fun e a w hq=>mF.ext hE hq
theorem cu.XY (h:cu P w0 rd n c α S ex aw S') (he:ex ≠ .normal):cu P w0 rd n (.seq c d) α S ex aw S':=by
 intro F m A g a w hF hR hS hA
 refine wpIn_seq (wpIn_mono (h F m A g a w hF hR hS hA) ?_)
 rintro e kf jd ⟨rfl,hq⟩
 cases e with
 |normal=>exact absurd rfl he
 |_=>exact⟨rfl,hq⟩
theorem FQ {g:Gh}{w:World}{b:Bool}{x:Value}(h:aH g w (.v (.bool b)) x):x=.bool b:=by cases h;rfl
theorem bO {g:Gh}{w:World}{y x:Value}(h:aH g w (.v y) x):x=y:=by cases h;rfl
theorem cu.cond {o:Operand}{t:Bool}(ho:α.ev o=.v (.bool t)) (h:cu P w0 rd n (if t then c else d) α S ex aw S'):cu P w0 rd n (.cond o c d) α S ex aw S':=by
 intro F m A g a w hF hR hS hA
 have h1:=hA.ev o
 rw [ho] at h1
 exact wpIn_cond (FQ h1) (h F m A g a w hF hR hS hA)
theorem JY {F:Fence}{m:Nat}{Q:Exit->Act->World->Prop}{a:Act}{w:World}(h:c.wpIn F m P (fun ex a w=>(∀ l,ex ≠ .goto l)/\Q ex a w) a w):(Code.scope c).wpIn F m P Q a w:=by
 intro b k cs kY hb hr
 have s1:step P (lone (b.atR a (.code (.scope c)::k)) cs w)=.next (lone (b.atR a (.code c::.inScope c::k)) cs w):=step_lone_go (by simp [stepG,stepG.exec,Frame.atR])
 have s2:∀ (a:Act) (w:World),step P (lone (b.atR a (.inScope c::k)) cs w)=.next (lone (b.atR a k) cs w):=fun a w=>step_lone_go (by simp [stepG,stepG.exec,Frame.atR])
 have h0:(lone (b.atR a (.code (.scope c)::k)) cs w).fenced P F:=fenced_calm hb hr rfl
 obtain⟨e,kf,jd,⟨hg,hq⟩,kg⟩:=h b (.inScope c::k) cs kY hb hr
 cases e with
 |normal=>exact⟨.normal,kf,jd,hq,.head h0 s1 (StepsIn.trans kg (.one (fenced_calm hb hr rfl) (s2 kf jd)))⟩
 |exit id =>
  have hx:exitTo id (.inScope c::k)=exitTo id k:=by simp [exitTo]
  exact⟨.exit id,kf,jd,hq,fun k' hk=>.head h0 s1 (kg.1 k' (by rw [hx];exact hk)),fun eK hk=>let ⟨k₁,h1,h2⟩:=kg.2 eK (by rw [hx];exact hk);⟨k₁,h1,.head h0 s1 h2⟩⟩
 |goto l=>exact absurd rfl (hg l)
 |ret=>exact⟨_,kf,jd,hq,.of_steps (.one h0 s1) kg⟩
 |panic ch=>exact⟨_,kf,jd,hq,.of_steps (.one h0 s1) kg⟩
 |outgrown=>exact⟨_,kf,jd,hq,.of_steps (.one h0 s1) kg⟩
theorem cu.scope (h:cu P w0 rd n c α S ex aw S') (he:∀ l,ex ≠ .goto l):cu P w0 rd n (.scope c) α S ex aw S':=by
 intro F m A g a w hF hR hS hA
 refine JY (wpIn_mono (h F m A g a w hF hR hS hA) ?_)
 rintro e kf jd ⟨rfl,hq⟩
 exact⟨he,rfl,hq⟩
theorem cu.block {id:Nat}(h:cu P w0 rd n c α S ex aw S') (he:ex ≠ .exit id):cu P w0 rd n (.block id c) α S ex aw S':=by
 intro F m A g a w hF hR hS hA
 refine wpIn_block (wpIn_mono (h F m A g a w hF hR hS hA) ?_)
 rintro e kf jd ⟨rfl,hq⟩
 cases e with
 |exit j =>
  have:j ≠ id:=fun e=>he (by rw [e])
  simp only [Exit.inBlock,this,if_false]
  exact⟨rfl,hq⟩
 |_=>exact⟨rfl,hq⟩
theorem cu.JZ {id:Nat}(h:cu P w0 rd n c α S (.exit id) aw S'):cu P w0 rd n (.block id c) α S .normal aw S':=by
 intro F m A g a w hF hR hS hA
 refine wpIn_block (wpIn_mono (h F m A g a w hF hR hS hA) ?_)
 rintro e kf jd ⟨rfl,hq⟩
 simp only [Exit.inBlock,if_true]
 exact⟨rfl,hq⟩
def tu (P:Program) (w0:World) (rd:Bool) (n:Nat) (c:Code) (α:AA) (S:ad) (ex:Exit) (aw:AA) (S':ad):Prop :=
 ∀ (F:Fence) (m:Nat) (A:Nat->Prop) (g:Gh) (a:Act) (w:World),gU F->F.round.isSome=rd->St w0 A g S w->bN g w n α a->∀ (b:Frame) (k:List Item) (cs:List Frame),b.roundOf=F.round->F.fn b.fn->F.room (cs.length+1+m) ->
  ∃ e a' w',mF w0 n A g w ex aw S' e a' w'/\ArrivesIn (Machine.fenced P F) P (lone (b.atR a (.code c::.inLoop c::k)) cs w) b k cs e a' w'
theorem cu.loop (h:tu P w0 rd n c α S ex aw S'):cu P w0 rd n (.loop c) α S ex aw S':=by
 intro F m A g a w hF hR hS hA b k cs kY hb hr
 obtain⟨e,a',w',hq,kg⟩:=h F m A g a w hF hR hS hA b k cs kY hb hr
 exact⟨e,a',w',hq,.of_steps (.one (fenced_calm hb hr rfl) stepR_loop) kg⟩
theorem tu.step (h:cu P w0 rd n c α S .normal bE bT) (k:tu P w0 rd n c bE bT ex aw S'):tu P w0 rd n c α S ex aw S':=by
 intro F m A g a w hF hR hS hA b l cs kY hb hr
 obtain⟨e,kf,jd,hq,kg⟩:=h F m A g a w hF hR hS hA b (.inLoop c::l) cs kY hb hr
 obtain⟨rfl,zY,A6,A7,hE⟩:=hq
 obtain⟨Qs,Qt,Qu,JM,Cp⟩:=k F m A zY kf jd hF hR A6 A7 b l cs kY hb hr
 exact⟨Qs,Qt,Qu,mF.ext hE JM,.of_steps (StepsIn.trans kg (.one (fenced_calm hb hr rfl) stepR_inLoop)) Cp⟩
theorem tu.done (h:cu P w0 rd n c α S ex aw S') (he:ex ≠ .normal):tu P w0 rd n c α S ex aw S':=by
 intro F m A g a w hF hR hS hA b l cs kY hb hr
 obtain⟨e,kf,jd,hq,kg⟩:=h F m A g a w hF hR hS hA b (.inLoop c::l) cs kY hb hr
 obtain⟨rfl,hq⟩:=hq
 exact⟨e,kf,jd,⟨rfl,hq⟩,.pass (x:=.inLoop c) rfl (fun _ _=>.inl he) kg⟩
def aK (P:Program) (w0:World) (f:FuncId) (args:List AV) (S:ad) (r:AV) (S':ad):Prop :=
 (∀ (xs:Array Value) (w:World),(callFunc f xs).run P w=.ok (.enter f xs) w) /\
 ∀ (F:Fence) (m:Nat) (A:Nat->Prop) (g:Gh) (aQ:Array Value) (w:World),gU F->St w0 A g S w->iP g w args aQ ->
  CallsIn F m P f aQ w fun e w'=>∃ v g',e=.returned v/\aH g' w' r v/\St w0 A g' S' w'/\Ext A g w g' w'
def oo (P:Program) (w0:World) (k:Nat) (args:List AV) (S:ad) (r:AV) (S':ad):Prop :=
 ∀ (F:Fence) (m:Nat) (A:Nat->Prop) (g:Gh) (aQ:Array Value) (w:World),gU F->St w0 A g S w->g.al k->iP g w args aQ->∃ l f tmps assign body,(Instr.yield (g.ob k) aQ).run P w=.ok (.round l f tmps assign body) w /\
  RoundIn F m P l f tmps assign body w fun e w'=>∃ v g',e=.returned v/\aH g' w' r v/\St w0 A g' S' w'/\Ext A g w g' w'
def ah (P:Program) (w0:World) (f:FuncId) (args:List AV) (r:AV):Prop :=
 Pure r/\∃ S',aK P w0 f args ad.none_ r S'
end
def aZ {α:Type}(o:Option α) (K:α->Prop):Prop:=match o with|some a=>K a|none=>False
theorem aZ.out {α:Type}{o:Option α}{K:α->Prop}(h:aZ o K):∃ a,o=some a/\K a:=by
 cases o with
 |none=>exact h.elim
 |some a=>exact⟨a,rfl,h⟩
theorem aZ.mk {α:Type}{o:Option α}{K:α->Prop}{a:α}(h:o=some a) (k:K a):aZ o K:=by subst h;exact k
def J2 (P:Program) (t:TypeId):Option Bool :=
 match P.underlying t with
 |some (.struct _)|some (.array _ _)=>some true
 |some _=>some false
 |none=>none
def cP (P:Program) (t:TypeId):Option Nat:=(P.info? t).map (·.size)
def gV (P:Program) (t:TypeId):Option Nat:=(P.info? t).map (·.bytes)
def cU (P:Program) (t:TypeId):Option Value:=(P.info? t).bind (·.zero)
def J3 (row:List AV) (j n:Nat):List AV:=match j,Nat.beq n row.length with|0,true=>row|_,_=>(row.drop j).take n
def mL (P:Program) (t:TypeId) (row:List AV) (j:Nat):Option AV :=
 match J2 P t,cP P t with
 |some true,some n=>match Nat.ble (j+n) row.length with|true=>some (.agg (J3 row j n))|false=>none
 |some false,_=>row[j]?
 |_,_=>none
def sW (P:Program) (S:ad) (t:TypeId):AV->Option AV
 |.ip row=>mL P t row 0
 |.pt k sz i j=>match S.get k with
  |some (.arr sz' rows _ _)=>match Nat.beq sz sz' with
   |true=>match rows[i]? with
    |some row=>mL P t row j
    |none=>none
   |false=>none
  |_=>none
 |_=>none
def aP:AV->List AV
 |.agg l=>l
 |a=>[a]
def bQ:AV->Bool
 |.v x=>x.oneCell'
 |.agg _|.aE _|.u=>false
 |_=>true
def lJ (row:List AV) (j:Nat) (cs:List AV):List AV:=match j,Nat.beq cs.length row.length with|0,true=>cs|_,_=>row.take j++cs++row.drop (j+cs.length)
def lu (P:Program) (S:ad) (t:TypeId) (b:AV):AV->Option ad
 |.pt k sz i j=>match S.get k with
  |some (.arr sz' rows 0 ex)=>match Nat.beq sz sz' && (aP b).all bQ && (match cP P t with|some n=>Nat.beq n (aP b).length|none=>false) with
   |true=>match rows[i]? with
    |some row=>match Nat.ble (j+(aP b).length) row.length with
     |true=>some (S.set k (some (.arr sz (rows.set i (lJ row j (aP b))) 0 ex)))
     |false=>none
    |none=>none
   |false=>none
  |_=>none
 |_=>none
def ad.new (S:ad) (o:Ob):ad:=⟨a8 S.get S.nx (some o),S.nx+1⟩
def jh (S:ad) (cs:List AV):AV × ad:=(.pt S.nx cs.length 0 0,S.new (Ob.arr cs.length [cs] 0 true))
def vi (place:Nat->Option (Nat × Nat)):List AV->List (Nat × AV)->Option (List AV)
 |cells,[]=>some cells
 |cells,(i,a)::rest=>match place i with
  |some (off,size)=>match Nat.beq (aP a).length size && Nat.ble (off+size) cells.length && (aP a).all bQ with
   |true=>vi place (lJ cells off (aP a)) rest
   |false=>none
  |none=>none
def FR (P:Program) (fs:Array Field) (i:Nat):Option (Nat × Nat) :=
 match fs[i]? with
 |some f=>match cP P f.type with|some n=>some (f.offset,n)|none=>none
 |none=>none
def rP (P:Program) (t:TypeId) (parts:List (Nat × AV)):Option AV :=
 match cU P t with
 |some (.agg cs)=>match P.underlying t with
  |some (.struct fs)=>match fs.toList.all fun f=>(cP P f.type).isSome with
   |true=>(vi (FR P fs) (cs.toList.map bJ) parts).map .agg
   |false=>none
  |some (.array _ e)=>match cP P e with
   |some n=>(vi (fun i=>some (i*n,n)) (cs.toList.map bJ) parts).map .agg
   |none=>none
  |_=>none
 |_=>none
def qP (size:Nat):List (List AV)->List (Nat × AV)->Option (List (List AV))
 |rows,[]=>some rows
 |rows,(i,a)::rest=>match Nat.beq (aP a).length size && Nat.blt i rows.length && (aP a).all bQ with
  |true=>qP size (rows.set i (aP a)) rest
  |false=>none
def idx {α:Type}(rows:List α) (i:Int):Option α:=if 0<=i then rows[i.toNat]? else none
theorem XZ {α:Type}{rows:List α}{k:Nat}{x:α}(h:rows[k]?=some x):idx rows (k:Int)=some x:=by
 unfold idx
 rw [if_pos (by omega)]
 simpa using h
def rowsOf (S:ad):AV->Option (List (List AV))
 |.sl _ rows=>some rows
 |.ob k sz off len _=>match S.get k with
  |some (.arr sz' rows _ _)=>match Nat.beq sz sz' with
   |true=>some ((rows.drop off).take len)
   |false=>none
  |_=>none
 |_=>none
def m7:AV->Option Nat
 |.sl _ rows=>some rows.length
 |.ob _ _ _ len _=>some len
 |.v (.string s)=>some s.size
 |_=>none
def isStr:AV->Bool
 |.v (.string _)=>true
 |_=>false
def qe (P:Program) (op:BinOp) (t:TypeId):Value->Value->Option Value
 |.int k a,.int k' b=>match decide (k=k') with
  |true=>match op with
   |.eql=>some (.bool (a == b))
   |.neq=>some (.bool (a != b))
   |.lss=>some (.bool (decide (a < b)))
   |.leq=>some (.bool (decide (a<=b)))
   |.gtr=>some (.bool (decide (a > b)))
   |.geq=>some (.bool (decide (a>=b)))
   |_=>none
  |false=>none
 |.string a,.string b=>match op with
  |.eql=>some (.bool (a.toList == b.toList))
  |.neq=>some (.bool (!(a.toList == b.toList)))
  |.lss=>some (.bool (Op.bytesLess a.toList b.toList))
  |.leq=>some (.bool (Op.bytesLess a.toList b.toList || a.toList == b.toList))
  |.gtr=>some (.bool (!(Op.bytesLess a.toList b.toList || a.toList == b.toList)))
  |.geq=>some (.bool (!Op.bytesLess a.toList b.toList))
  |_=>none
 |.bool a,.bool b=>match P.underlying t with
  |some .bool=>match op with
   |.eql=>some (.bool (a == b))
   |.neq=>some (.bool (!(a == b)))
   |_=>none
  |_=>none
 |_,_=>none
def arith:BinOp->Int->Int->Option Int
 |.add,a,b=>some (a+b)
 |.sub,a,b=>some (a - b)
 |.mul,a,b=>some (a*b)
 |_,_,_=>none
def lenOf (P:Program) (t:TypeId) (a:AV):Option Nat:=match P.underlying t,isStr a,m7 a with
 |some (.slice _),false,some m=>some m
 |some .string,true,some m=>some m
 |_,_,_=>none
def yO (S:ad) (k:Nat):Option (Nat × List (List AV) × Nat × Bool):=match S.get k with
 |some (.arr sz rows fz ex)=>some (sz,rows,fz,ex)
 |_=>none
theorem Bo {S:ad}{k sz fz:Nat}{rows:List (List AV)}{ex:Bool}(h:yO S k=some (sz,rows,fz,ex)):S.get k=some (.arr sz rows fz ex):=by
 unfold yO at h
 split at h
 ·rename_i e
  rw [e]
  injection h with h
  injection h with h1 h
  injection h with h2 h
  injection h with h3 h4
  subst h1 h2 h3 h4
  rfl
 ·cases h
theorem rK {S:ad}{k sz fz:Nat}{rows:List (List AV)}{ex:Bool}(h:S.get k=some (.arr sz rows fz ex)):yO S k=some (sz,rows,fz,ex):=by
 unfold yO
 rw [h]
def yD (P:Program) (w0:World) (K:AV->ad->Prop) (S:ad) (args:List AV):AV->Prop
 |.v (.func (.func g) first cap)=>match first.toList,cap.toList with
  |[],[]=>∃ r S',aK P w0 g args S r S'/\K r S'
  |_,_=>False
 |.fn (.func g) first cap=>∃ r S',aK P w0 g (first++args++cap) S r S'/\K r S'
 |.yl k=>∃ r S',oo P w0 k args S r S'/\K r S'
 |_=>False
def jA (P:Program) (e:TypeId) (K:AV->ad->Prop) (S:ad) (more:List (List AV)):AV->Prop
 |.sl true rows=>match more with
  |[]=>K (.sl true rows) S
  |x::more=>match cP P e,gV P e with
   |some sz,some by_=>match Nat.blt 0 by_ with
    |true=>(∀ row ∈ rows,row.length=sz)/\(∀ row ∈ x::more,row.length=sz)/\(rows.length+(x::more).length)*by_<=35184372088832 /\
     K (.ob S.nx sz 0 (rows.length+(x::more).length) none) (S.new (.arr sz (rows++x::more) 0 false))
    |false=>False
   |_,_=>False
 |.ob k sz 0 len none=>aZ (yO S k) fun o=>match o with
  |(sz',rows,fz,ex)=>match more with
   |[]=>K (.ob k sz 0 len none) S
   |x::more=>match cP P e,gV P e with
    |some fN,some by_=>match Nat.beq sz' sz && Nat.beq fN sz && Nat.blt 0 by_ with
     |true=>fz<=len/\len<=rows.length/\(∀ row ∈ x::more,row.length=sz/\row.all bQ=true)/\(len+(x::more).length)*by_<=35184372088832 /\
      K (.ob S.nx sz 0 (len+(x::more).length) none) ((S.set k none).new (.arr sz (rows.take len++x::more) fz false))
     |false=>False
    |_,_=>False
 |.ob k sz off len (some c)=>aZ (yO S k) fun o=>match o with
  |(sz',rows,fz,ex)=>match more with
   |[]=>K (.ob k sz off len (some c)) S
   |x::more=>match cP P e,gV P e with
    |some fN,some by_=>match Nat.beq sz' sz && Nat.beq fN sz && Nat.blt 0 by_ with
     |true=>c=len/\off+len<=rows.length/\(∀ row ∈ x::more,row.length=sz)/\(len+(x::more).length)*by_<=35184372088832 /\
      K (.ob S.nx sz 0 (len+(x::more).length) none) (S.new (.arr sz ((rows.drop off).take len++x::more) 0 false))
     |false=>False
    |_,_=>False
 |_=>False
def fJ (P:Program) (t:TypeId):Option TypeId:=match P.underlying t with|some (.slice e)=>some e|_=>none
def lZ (P:Program) (K:AV->ad->Prop) (S:ad) (argTypes:List TypeId) (args:List AV):Builtin->Prop
 |.len=>match argTypes,args with
  |[t],[a]=>aZ (lenOf P t a) fun m=>K (.v (.int .i64 (m:Int))) S
  |_,_=>False
 |.append=>match argTypes,args with
  |[t,t2],[a,b]=>match fJ P t,fJ P t2 with
   |some e,some _=>match (match cU P e,cP P e with|some z,some sz=>Nat.beq z.cells.size sz|_,_=>false) with
    |true=>aZ (rowsOf S b) fun more=>m7 b=some more.length/\jA P e K S more a
    |false=>False
   |_,_=>False
  |_,_=>False
 |.min=>match args with
  |[.v (.int k a),.v (.int k' b)]=>match decide (k=k') with|true=>K (.v (.int k (min a b))) S|false=>False
  |_=>False
 |.max=>match args with
  |[.v (.int k a),.v (.int k' b)]=>match decide (k=k') with|true=>K (.v (.int k (max a b))) S|false=>False
  |_=>False
 |_=>False
def kh:Option AV->Int->Option Int
 |none,d=>some d
 |some (.v (.int _ i)),_=>some i
 |_,_=>none
def kZ (P:Program) (t:TypeId) (K:AV->ad->Prop) (S:ad) (x:AV) (lo hi mx:Option AV):Prop :=
 match x,mx with
 |.v (.string s),none=>match P.underlying t,kh lo 0,kh hi s.size with
  |some .string,some l,some h=>0<=l/\l<=h/\h<=s.size/\K (.v (.string (s.extract l.toNat h.toNat))) S
  |_,_,_=>False
 |.sl ex rows,none=>match P.underlying t,kh lo 0,kh hi rows.length with
  |some (.slice e),some l,some h=>(∀ row ∈ rows,cP P e=some row.length)/\(cP P e).isSome/\0<=l/\l<=h/\h<=rows.length/\K (.sl false ((rows.take h.toNat).drop l.toNat)) S
  |_,_,_=>False
 |.sl ex rows,some (.v (.int _ m))=>match P.underlying t,kh lo 0,hi with
  |some (.slice e),some l,some (.v (.int _ h))=>(∀ row ∈ rows,cP P e=some row.length)/\(cP P e).isSome/\0<=l/\l<=h/\h=m/\h<=rows.length/\K (.sl true ((rows.take h.toNat).drop l.toNat)) S
  |_,_,_=>False
 |.ob k sz off len cx,none=>match P.underlying t,lo,kh hi len with
  |some (.slice e),none,some h=>cP P e=some sz/\0<=h/\h<=len/\K (.ob k sz off h.toNat cx) S
  |some (.slice e),some (.v (.int _ l)),some h=>cP P e=some sz/\0<=l/\l<=h/\h<=len/\(l=h->K (.sl false []) S)/\(l < h->K (.ob k sz (off+l.toNat) (h.toNat - l.toNat) (cx.map (· - l.toNat))) S)
  |_,_,_=>False
 |.ob k sz off len cx,some (.v (.int _ m))=>match P.underlying t,kh lo 0,hi with
  |some (.slice e),some l,some (.v (.int _ h))=>cP P e=some sz/\l=0/\h=m/\h<=len/\0<=h/\K (.ob k sz off h.toNat (some h.toNat)) S
  |_,_,_=>False
 |_,_=>False
def br (t:Bool) (X Y:Prop):Prop:=match t with|true=>X|false=>Y
theorem br.t {t:Bool}{X Y:Prop}(e:t=true) (h:X):br t X Y:=by subst e;exact h
def gd (want t:Bool) (X Y:Prop):Prop:=match want with|true=>br t X Y|false=>br t Y X
def Fl (S:ad) (k:Nat):Option (ByteArray × Nat):=match S.get k with
 |some (.si s pos)=>some (s,pos)
 |_=>none
theorem Ox {S:ad}{k pos:Nat}{s:ByteArray}(h:Fl S k=some (s,pos)):S.get k=some (.si s pos):=by
 unfold Fl at h
 split at h
 ·rename_i e
  rw [e]
  injection h with h
  injection h with h1 h2
  subst h1 h2
  rfl
 ·cases h
def rG (v:Value) (K:Value->Prop):Prop:=match v with|.bool b=>∃ d,b=d/\K (.bool d)|v=>K v
theorem rG.out {v:Value}{K:Value->Prop}(h:rG v K):K v:=by
 unfold rG at h
 split at h
 ·obtain⟨d,rfl,h⟩:=h;exact h
 ·exact h
theorem rG.mk {v:Value}{K:Value->Prop}(h:K v):rG v K:=by
 unfold rG
 split
 ·exact⟨_,rfl,h⟩
 ·exact h
def aX (P:Program) (w0:World) (o:Op) (α:AA) (S:ad) (K:AV->ad->Prop):Prop :=
 match o with
 |.move x|.assign x=>K (α.ev x) S
 |.pick c a b=>match α.ev c with
  |.v (.bool t)=>br t (K (α.ev a) S) (K (α.ev b) S)
  |_=>False
 |.alloc e=>match cU P e with
  |some z=>K (jh S (z.cells.toList.map bJ)).1 (jh S (z.cells.toList.map bJ)).2
  |none=>False
 |.box _ x=>match (aP (α.ev x)).all bQ with
  |true=>K (jh S (aP (α.ev x))).1 (jh S (aP (α.ev x))).2
  |false=>False
 |.build t parts=>match rP P t (parts.toList.map fun (i,x)=>(i,α.ev x)) with
  |some a=>K a S
  |none=>False
 |.buildSlice t len parts=>match fJ P t with
  |some e=>match cU P e,cP P e with
   |some z,some n=>match Nat.ble (len*n) 16777216 && Nat.beq z.cells.size n && Nat.blt 0 n with
    |true=>match qP n (List.replicate len (z.cells.toList.map bJ)) (parts.toList.map fun (i,x)=>(i,α.ev x)) with
     |some rows=>K (.sl true rows) S
     |none=>False
    |false=>False
   |_,_=>False
  |none=>False
 |.load t x=>aZ (sW P S t (α.ev x)) fun a=>K a S
 |.store t x b=>aZ (lu P S t (α.ev b) (α.ev x)) fun S'=>K (.v undef) S'
 |.binOp op t x y _=>match α.ev x,α.ev y with
  |.v (.int k a),.v (.int k' b)=>match arith op a b with
   |some c=>match decide (k=k') with|true=>∃ d,k.wrap c=d/\K (.v (.int k d)) S|false=>False
   |none=>match qe P op t (.int k a) (.int k' b) with
    |some v=>rG v fun v=>K (.v v) S
    |none=>False
  |.v (.string a),.v (.string b)=>match op with
   |.add=>a.size+b.size<=9223372036854775807/\K (.v (.string (a++b))) S
   |_=>match qe P op t (.string a) (.string b) with
    |some v=>rG v fun v=>K (.v v) S
    |none=>False
  |.v a,.v b=>match qe P op t a b with
   |some v=>rG v fun v=>K (.v v) S
   |none=>False
  |_,_=>False
 |.unOp op _ x=>match op,α.ev x with
  |.not,.v (.bool b)=>K (.v (.bool (!b))) S
  |.neg,.v (.int k a)=>∃ d,k.wrap (0 - a)=d/\K (.v (.int k d)) S
  |_,_=>False
 |.convert src dst x=>match P.underlying src,P.underlying dst,α.ev x with
  |some (.int _),some (.int k),.v (.int _ a)=>∃ d,k.wrap a=d/\K (.v (.int k d)) S
  |some .string,some .string,.v (.string s)=>K (.v (.string s)) S
  |_,_,_=>False
 |.fieldAddr s x f=>match P.underlying s with
  |some (.struct fs)=>match fs[f]? with
   |some fd=>match cP P fd.type with
    |some (_+1)=>match α.ev x with
     |.ip row=>K (.ip (row.drop fd.offset)) S
     |.pt k sz i j=>K (.pt k sz i (j+fd.offset)) S
     |_=>False
    |_=>False
   |none=>False
  |_=>False
 |.field t x f=>match P.underlying t with
  |some (.struct fs)=>match fs[f]? with
   |some fd=>match α.ev x with
    |.agg l=>aZ (mL P fd.type l fd.offset) fun a=>K a S
    |_=>False
   |none=>False
  |_=>False
 |.indexAddr t x i=>match P.underlying t,α.ev x,α.ev i with
  |some (.slice e),.sl _ rows,.v (.int _ k)=>match cP P e with
   |some n=>aZ (idx rows k) fun row=>(∀ r ∈ rows,r.length=n)/\K (.ip row) S
   |none=>False
  |some (.slice e),.ob k sz off len _,.v (.int _ i)=>cP P e=some sz/\0<=i/\i < len/\K (.pt k sz (off+i.toNat) 0) S
  |some (.array len e),.pt k sz i j,.v (.int _ q)=>match cP P e with
   |some n=>0<=q/\q < len/\K (.pt k sz i (j+q.toNat*n)) S
   |none=>False
  |some (.array len e),.ip row,.v (.int _ q)=>match cP P e with
   |some n=>0<=q/\q < len/\K (.ip (row.drop (q.toNat*n))) S
   |none=>False
  |_,_,_=>False
 |.index t x i=>match P.underlying t,α.ev x,α.ev i with
  |some .string,.v (.string s),.v (.int _ k)=>aZ (idx s.data.toList k) fun b=>K (.v (.int .u8 b.toNat)) S
  |some (.array len e),.agg l,.v (.int _ q)=>match cP P e with
   |some n=>aZ (mL P e l (q.toNat*n)) fun a=>0<=q/\q < len/\K a S
   |none=>False
  |_,_,_=>False
 |.slice t x lo hi mx=>kZ P t K S (α.ev x) (lo.map α.ev) (hi.map α.ev) (mx.map α.ev)
 |.extract x i=>match α.ev x with
  |.aE l=>match l[i]? with
   |some a=>K a S
   |none=>False
  |_=>False
 |.makeSlice t l c=>match fJ P t,α.ev l,α.ev c with
  |some e,.v (.int _ a),.v (.int _ b)=>match cU P e,cP P e,gV P e with
   |some z,some sz,some by_=>match Nat.beq z.cells.size sz && Nat.blt 0 sz with
    |true=>0<=a/\a=b/\a*by_<=35184372088832/\a<=9223372036854775807/\K (.ob S.nx sz 0 a.toNat none) (S.new (.arr sz (List.replicate a.toNat (z.cells.toList.map bJ)) 0 true))
    |false=>False
   |_,_,_=>False
  |_,_,_=>False
 |.range t x=>match P.underlying t,α.ev x with
  |some .string,.v (.string s)=>K (.pt S.nx 0 0 0) (S.new (.si s 0))
  |_,_=>False
 |.next x isStr=>match isStr,α.ev x with
  |true,.pt k _ 0 0=>aZ (Fl S k) fun o=>match o with
   |(s,pos)=>∃ d,decide (pos < s.size)=d/\br d (K (.aE [.v (.bool true),.v (.int .i64 pos),.v (.int .i32 (Utf8.decode s pos).1)]) (S.set k (some (.si s (pos+(Utf8.decode s pos).2))))) (K (.aE [.v (.bool false)]) S)
  |_,_=>False
 |.makeFunc f first cap=>K (.fn f (first.toList.map α.ev) (cap.toList.map α.ev)) S
 |.nilCheck x=>match α.ev x with
  |.ip c=>K (.ip c) S
  |.pt k sz i j=>K (.pt k sz i j) S
  |_=>False
 |.call c=>match c.callee with
  |.value f=>yD P w0 K S (c.args.toList.map α.ev) (α.ev f)
  |.builtin b=>lZ P K S c.argTypes.toList (c.args.toList.map α.ev) b
  |.invoke _ _=>False
 |_=>False
def nU (ops:Array Oper) (α:AA) (j:Nat):Option (Option Bool) :=
 match (ops[j]?).bind (·.dst) with
 |some t=>match α.tm t with|.v (.bool b)=>some (some b)|.v (.tuple _)=>some none|_=>none
 |none=>none
def uQ:List Oper->Nat->Option Tmp
 |[],_=>none
 |o::_,0=>o.dst
 |_::l,j+1=>uQ l j
theorem FT:∀ (l:List Oper) (j:Nat),uQ l j=(l[j]?).bind (·.dst)
 |[],j=>by simp [uQ]
 |o::l,0=>by simp [uQ]
 |o::l,j+1=>by simp [uQ,FT l j]
def TD (ops:List Oper) (α:AA) (j:Nat):Option (Option Bool) :=
 match uQ ops j with
 |some t=>match α.tm t with|.v (.bool b)=>some (some b)|.v (.tuple _)=>some none|_=>none
 |none=>none
theorem wC {ops:Array Oper}{α:AA}{j:Nat}:TD ops.toList α j=nU ops α j:=by
 unfold TD nU
 rw [FT,Array.getElem?_toList]
def nv (n:Nat) (d:Option Tmp):Bool:=match d with|some d=>Nat.blt d n|none=>true
theorem fh (b o j:Nat):(⟨b,o,none⟩:Addr).add j=⟨b,o+j,none⟩:=by unfold Addr.add;split<;>simp_all
section
variable {P:Program}{g:Gh}{w:World}{S:ad}{t:TypeId}
theorem ji {n:Nat}(h:cP P t=some n):∃ i,P.info? t=some i/\i.size=n:=by
 unfold cP at h
 obtain⟨i,hi,e⟩:=Option.map_eq_some_iff.1 h
 exact⟨i,hi,e⟩
theorem cA {n:Nat}(h:cP P t=some n):(sizeOf t).run P w=.ok n w:=by
 obtain⟨i,hi,rfl⟩:=ji h
 simp [sizeOf,typeInfo,hi]
theorem kG {z:Value}(h:cU P t=some z):(zeroValue t).run P w=.ok z w:=by
 unfold cU at h
 obtain⟨i,hi,e⟩:=Option.bind_eq_some_iff.1 h
 simp [zeroValue,typeInfo,hi,e]
theorem vj {b:Bool}(h:J2 P t=some b):(isAgg t).run P w=.ok b w:=by
 unfold J2 at h
 cases hd:P.underlying t with
 |none=>rw [hd] at h;cases h
 |some d =>
  rw [hd] at h
  simp only [isAgg,Sem.run_bind,run_underlying hd,Result.andThen_ok]
  cases d<;>simp_all
def Cells (g:Gh) (w:World) (b o:Nat) (row:List AV):Prop:=∀ (j:Nat) (a:AV),row[j]?=some a->∃ x,w.cell? ⟨b,o+j,none⟩=some x/\aH g w a x
theorem Cells.list {b:Nat}:∀ {row:List AV}{o:Nat},Cells g w b o row->∃ cs:List Value,cs.length=row.length/\(∀ j x,cs[j]?=some x->w.cell? ⟨b,o+j,none⟩=some x)/\∀ (j:Nat) (a:AV) (x:Value),row[j]?=some a->cs[j]?=some x->aH g w a x
 |[],o,h=>⟨[],rfl,fun j x hx=>by simp at hx,fun j a x ha=>by simp at ha⟩
 |a::row,o,h=>by
  obtain⟨x,hx,hr⟩:=h 0 a rfl
  obtain⟨cs,hl,h1,h2⟩:=Cells.list (row:=row) (o:=o+1) (fun j a ha=>by
   obtain⟨y,hy,Bp⟩:=h (j+1) a (by simpa using ha)
   exact⟨y,by rw [<-hy];congr 2;omega,Bp⟩)
  refine⟨x::cs,by simp [hl],fun j y hy=>?_,fun j a' y ha hy=>?_⟩
  ·cases j with
   |zero=>simp at hy;subst hy;exact hx
   |succ j=>simp at hy;rw [<-h1 j y hy];congr 2;omega
  ·cases j with
   |zero=>simp at ha hy;subst ha hy;exact hr
   |succ j=>simp at ha hy;exact h2 j a' y ha hy
theorem Cells.drop {b o:Nat}{row:List AV}(h:Cells g w b o row) (j:Nat):Cells g w b (o+j) (row.drop j):=fun i a ha=>by
 rw [List.getElem?_drop] at ha
 obtain⟨x,hx,hr⟩:=h (j+i) a ha
 exact⟨x,by rw [<-hx];congr 2;omega,hr⟩
theorem Cells.take {b o:Nat}{row:List AV}(h:Cells g w b o row) (n:Nat):Cells g w b o (row.take n):=fun i a ha=>by
 rw [List.getElem?_take] at ha
 split at ha
 ·exact h i a ha
 ·cases ha
theorem IL (row:List AV) (j n:Nat):J3 row j n=(row.drop j).take n:=by
 unfold J3
 split
 ·rename_i h
  have:=Nat.eq_of_beq_eq_true h
  subst this
  simp
 ·rfl
theorem zq {row:List AV}{j b o:Nat}{r:AV}(h:mL P t row j=some r) (hc:Cells g w b o row):∃ x,(loadVar t ⟨b,o+j,none⟩).run P w=.ok x w/\aH g w r x:=by
 unfold mL at h
 split at h
 ·rename_i n ha hs
  split at h
  ·rename_i hle
   have hle:=Nat.le_of_ble_eq_true hle
   obtain rfl:=oJ_ h
   rw [IL]
   obtain⟨cs,hl,h1,h2⟩:=((hc.drop j).take n).list
   have hn:cs.length=n:=by rw [hl,List.length_take,List.length_drop];omega
   refine⟨.agg cs.toArray,?_,.agg (by simp [hl]) (fun i a x ha hx=>h2 i a x ha (by simpa using hx))⟩
   have:=run_loadCells_list (P:=P) (w:=w) ⟨b,o+j,none⟩ cs (fun i v hv=>by rw [fh];exact h1 i v hv)
   simp only [loadVar,Sem.run_bind,vj ha,Result.andThen_ok,if_true,cA hs]
   rw [<-hn,this]
   rfl
  ·cases h
 ·rename_i ha
  obtain⟨x,hx,hr⟩:=hc j r h
  refine⟨x,?_,hr⟩
  simp only [loadVar,Sem.run_bind,vj ha,Result.andThen_ok,if_false,Bool.false_eq_true,run_load,hx]
 ·cases h
theorem Oy {cp b sz:Nat}{rows:List (List AV)}{fz:Nat}{ex:Bool}(h:dA g w b cp (.arr sz rows fz ex)) {i:Nat}{row:List AV}(hr:rows[i]?=some row):Cells g w b (i*sz) row:=by
 obtain⟨cs,ty,h1,h2,h3,h4,h5,h6,h7⟩:=h
 intro j a ha
 obtain⟨x,hx,dH⟩:=(h5 i row hr).2 j a ha
 exact⟨x,by rw [cell_of_row _ _ _ cs ty (0,0) h1];exact hx,dH⟩
theorem Am {cs:List AV}{v:Value}(h:aH g w (.ip cs) v):∃ b o,v=.pointer (some ⟨b,o,none⟩)/\Cells g w b o cs:=by
 cases h with
 |ip h hr=>exact⟨_,_,rfl,fun j a ha=>⟨_,(h j a ha).2,hr j a ha⟩⟩
theorem zr {w0:World}{A:Nat->Prop}{a r:AV}{v:Value}(hS:St w0 A g S w) (h:sW P S t a=some r) (hv:aH g w a v):∃ b o x,v=.pointer (some ⟨b,o,none⟩)/\(loadVar t ⟨b,o,none⟩).run P w=.ok x w/\aH g w r x:=by
 unfold sW at h
 split at h
 ·rename_i row
  obtain⟨b,o,rfl,hc⟩:=Am hv
  obtain⟨x,hx,hr⟩:=zq h hc
  exact⟨b,o,x,rfl,by simpa using hx,hr⟩
 ·rename_i k sz i j
  split at h
  ·rename_i sz' rows fz ex hk
   split at h
   ·rename_i bh
    have bh:=Nat.eq_of_beq_eq_true bh
    subst bh
    split at h
    ·rename_i row gA
     cases hv with
     |pt aA =>
      obtain⟨x,hx,hr⟩:=zq h (Oy (hS.bR k _ hk aA).2.2 gA)
      exact⟨_,_,x,rfl,hx,hr⟩
    ·cases h
   ·cases h
  ·cases h
 ·cases h
theorem qQ {a:AV}{x:Value}(h:bQ a=true) (hr:aH g w a x):x.oneCell'=true:=by
 cases hr<;>simp_all [bQ,Value.oneCell']
theorem oA {a:AV}{x:Value}(h:(aP a).all bQ=true) (hr:aH g w a x):x.cells.size=(aP a).length/\(∀ (i:Nat) (b:AV) (y:Value),(aP a)[i]?=some b->x.cells[i]?=some y->aH g w b y)/\∀ y ∈ x.cells.toList,y.oneCell'=true:=by
 have one:aP a=[a]->x.cells.size=(aP a).length/\(∀ (i:Nat) (b:AV) (y:Value),(aP a)[i]?=some b->x.cells[i]?=some y->aH g w b y):=by
  intro e
  rw [e] at h ⊢
  have h1:x.oneCell'=true:=qQ (by simpa using h) hr
  have e1:x.cells=#[x]:=by cases x<;>simp_all [Value.cells,Value.oneCell']
  rw [e1]
  refine⟨rfl,fun i b y h1 h2=>?_⟩
  cases i with
  |zero=>simp at h1 h2;subst h1 h2;exact hr
  |succ i=>simp at h1
 have key:x.cells.size=(aP a).length/\(∀ (i:Nat) (b:AV) (y:Value),(aP a)[i]?=some b->x.cells[i]?=some y->aH g w b y):=by
  cases a with
  |agg l=>cases hr with|agg hs h'=>exact⟨hs,h'⟩
  |_=>exact one rfl
 refine⟨key.1,key.2,fun y hy=>?_⟩
 obtain⟨i,hi,rfl⟩:=List.getElem_of_mem hy
 have fA:i < (aP a).length:=by rw [<-key.1];simpa using hi
 have h1:(aP a)[i]?=some (aP a)[i]:=List.getElem?_eq_getElem fA
 have h2:x.cells[i]?=some x.cells.toList[i]:=by rw [Array.getElem_toList,Array.getElem?_eq_getElem]
 exact qQ (List.all_eq_true.1 h _ (List.getElem_mem fA)) (key.2 i _ _ h1 h2)
theorem CH (row:List AV) (j:Nat) (cs:List AV):lJ row j cs=row.take j++cs++row.drop (j+cs.length):=by
 unfold lJ
 split
 ·rename_i h
  have:=Nat.eq_of_beq_eq_true h
  simp [this]
 ·rfl
theorem zt {row:List AV}{j:Nat}{cs:List AV}(h:j+cs.length<=row.length):(lJ row j cs).length=row.length:=by
 rw [CH]
 simp
 omega
theorem rf {α:Type}(row cs:List α) (j:Nat) (h:j+cs.length<=row.length) (q:Nat):(row.take j++cs++row.drop (j+cs.length))[q]?=if q < j then row[q]? else if q < j+cs.length then cs[q - j]? else row[q]?:=by
 by_cases h1:q < j
 ·rw [if_pos h1,List.append_assoc,List.getElem?_append_left (by simp;omega),List.getElem?_take,if_pos h1]
 ·rw [if_neg h1]
  by_cases h2:q < j+cs.length
  ·rw [if_pos h2,List.append_assoc,List.getElem?_append_right (by simp;omega),List.getElem?_append_left (by simp;omega)]
   congr 1
   simp
   omega
  ·rw [if_neg h2,List.getElem?_append_right (by simp;omega),List.getElem?_drop]
   congr 1
   simp
   omega
theorem rQ {w0:World}{A:Nat->Prop}{a b:AV}{v x:Value}{S':ad}(hS:St w0 A g S w) (h:lu P S t b a=some S') (hv:aH g w a v) (hx:aH g w b x) :
  ∃ c o w',v=.pointer (some ⟨c,o,none⟩)/\(storeVar t ⟨c,o,none⟩ x).run P w=.ok () w'/\S'.nx=S.nx/\Ext A g w g w'/\St w0 A g S' w':=by
 unfold lu at h
 split at h
 ·rename_i k sz i j
  split at h
  ·rename_i sz' rows ex hk
   split at h
   ·rename_i hc
    simp only [Bool.and_eq_true] at hc
    obtain⟨⟨bh,me⟩,hn⟩:=hc
    have bh:=Nat.eq_of_beq_eq_true bh
    subst bh
    split at hn
    ·rename_i n hs
     have hn:=Nat.eq_of_beq_eq_true hn
     split at h
     ·rename_i row gA
      split at h
      ·rename_i hle
       have hle:=Nat.le_of_ble_eq_true hle
       obtain rfl:=oJ_ h
       obtain⟨J4,ajO,ajP⟩:=oA me hx
       cases hv with
       |pt aA =>
        obtain⟨k2,k3,k4⟩:=hS.bR k _ hk aA
        obtain⟨cs,ty,h1,h2,h3,h4,h5,h6,h7⟩:=k4
        have IM:i < rows.length:=(List.getElem?_eq_some_iff.1 gA).1
        have fE:=(h5 i row gA).1
        have hmul:i*sz+sz<=rows.length*sz:=by
         have:=Nat.mul_le_mul_right sz (show i+1<=rows.length from IM)
         rwa [Nat.add_mul,Nat.one_mul] at this
        have anY:rows.length*sz<=g.cp k*sz:=Nat.mul_le_mul_right sz h3
        have ep:(i*sz+j)+0+x.cells.toList.length<=cs.size:=by rw [Array.length_toList,J4];omega
        have bY:=run_storeCells_at P (g.ob k) (i*sz+j) ty x.cells.toList 0 cs w h1 ep ajP
        simp only [Nat.add_zero] at bY
        obtain⟨cs',o_⟩:∃ cs',cs'=(cs.toList.take (i*sz+j)++x.cells.toList++cs.toList.drop (i*sz+j+x.cells.toList.length)).toArray:=⟨_,rfl⟩
        rw [<-o_] at bY
        have jj:∀ q,cs'[q]?=if q < i*sz+j then cs[q]? else if q < i*sz+j+(aP b).length then x.cells[q - (i*sz+j)]? else cs[q]?:=by
         intro q
         rw [o_,List.getElem?_toArray,rf _ _ _ (by simpa using ep)]
         simp only [Array.getElem?_toList,Array.length_toList,J4]
        have hlen:cs'.size=cs.size:=by
         rw [o_]
         simp
         simp at ep
         omega
        obtain⟨hE,cQ⟩:=hS.row hk aA h1 (cs':=cs') (ob:=.arr sz (rows.set i (lJ row j (aP b))) 0 ex) (fun J=>⟨by simp,by simp⟩) (fun q hq=>absurd ((h7 q).1 hq) (by simp)) (fun hL=>by
         refine⟨cs',ty,setRow_heap w _ cs cs' ty (0,0) h1,hlen.trans h2,by simpa using h3,fun he=>by simpa using h4 he,fun i' aV eK=>?_,Nat.zero_le _,h7⟩
         by_cases e:i'=i
         ·subst e
          rw [List.getElem?_set_self IM] at eK
          obtain rfl:=oJ_ eK
          refine⟨(zt hle).trans fE,fun j' a' cz=>?_⟩
          rw [CH,rf _ _ _ hle] at cz
          rw [jj]
          by_cases c1:j' < j
          ·rw [if_pos c1] at cz
           rw [if_pos (by omega)]
           obtain⟨y,hy,Bp⟩:=(h5 _ row gA).2 j' a' cz
           exact⟨y,hy,Bp.later hL⟩
          ·rw [if_neg c1] at cz
           rw [if_neg (by omega)]
           by_cases c2:j' < j+(aP b).length
           ·rw [if_pos c2] at cz
            rw [if_pos (by omega),show i'*sz+j' - (i'*sz+j)=j' - j by omega]
            have ZZ:j' - j < x.cells.size:=by rw [J4];omega
            exact⟨x.cells[j' - j],Array.getElem?_eq_getElem ZZ,(ajO _ _ _ cz (Array.getElem?_eq_getElem ZZ)).later hL⟩
           ·rw [if_neg c2] at cz
            rw [if_neg (by omega)]
            obtain⟨y,hy,Bp⟩:=(h5 _ row gA).2 j' a' cz
            exact⟨y,hy,Bp.later hL⟩
         ·rw [List.getElem?_set_ne (Ne.symm e)] at eK
          refine⟨(h5 i' aV eK).1,fun j' a' cz=>?_⟩
          obtain⟨y,hy,Bp⟩:=(h5 i' aV eK).2 j' a' cz
          have gp:j' < sz:=by rw [<-(h5 i' aV eK).1];exact (List.getElem?_eq_some_iff.1 cz).1
          refine⟨y,?_,Bp.later hL⟩
          rw [jj]
          rcases Nat.lt_or_gt_of_ne e with c|c
          ·have:i'*sz+sz<=i*sz:=by
            have:=Nat.mul_le_mul_right sz (show i'+1<=i from c)
            rwa [Nat.add_mul,Nat.one_mul] at this
           rw [if_pos (by omega)]
           exact hy
          ·have:i*sz+sz<=i'*sz:=by
            have:=Nat.mul_le_mul_right sz (show i+1<=i' from c)
            rwa [Nat.add_mul,Nat.one_mul] at this
           rw [if_neg (by omega),if_neg (by omega)]
           exact hy)
        refine⟨_,_,_,rfl,?_,rfl,hE,cQ⟩
        have e:x.cells.size=n:=J4.trans hn.symm
        simp only [storeVar,Sem.run_bind,cA hs,Result.andThen_ok,e,ne_eq,not_true,if_false]
        exact bY
      ·cases h
     ·cases h
    ·cases hn
   ·cases h
  ·cases h
 ·cases h
end
inductive CI {α β:Type}(R:α->β->Prop):List α->List β->Prop where
 |nil:CI R [] []
 |cons {a:α}{b:β}{l:List α}{m:List β}(h:R a b) (t:CI R l m):CI R (a::l) (b::m)
section
variable {P:Program}{g:Gh}{w:World}{S:ad}
theorem xd (off:Nat):∀ (l:List Value) (k:Nat) (cs:Array Value),((l.zipIdx k).foldl (fun cs (p:Value × Nat)=>cs.setIfInBounds (off+p.2) p.1) cs).size=cs.size /\
  (off+k+l.length<=cs.size->∀ q,((l.zipIdx k).foldl (fun cs (p:Value × Nat)=>cs.setIfInBounds (off+p.2) p.1) cs)[q]?=if q < off+k then cs[q]? else if q < off+k+l.length then l[q - (off+k)]? else cs[q]?)
 |[],k,cs=>⟨rfl,fun _ q=>by simp only [List.length_nil,Nat.add_zero,List.zipIdx_nil,List.foldl_nil];split<;>first|rfl|(rename_i c;rw [if_neg c])⟩
 |v::l,k,cs=>by
  obtain⟨h1,h2⟩:=xd off l (k+1) (cs.setIfInBounds (off+k) v)
  simp only [List.zipIdx_cons,List.foldl_cons]
  refine⟨by rw [h1];simp,fun hle q=>?_⟩
  simp only [List.length_cons] at hle
  rw [h2 (by simp;omega) q]
  simp only [Array.getElem?_setIfInBounds,List.length_cons]
  by_cases c1:q < off+k
  ·rw [if_pos (by omega),if_neg (by omega),if_pos c1]
  ·rw [if_neg c1]
   by_cases c2:q=off+k
   ·subst c2
    rw [if_pos (by omega),if_pos rfl,if_pos (by omega),if_pos (by omega)]
    simp
   ·rw [if_neg (show ¬ q < off+(k+1) by omega)]
    by_cases c3:q < off+k+(l.length+1)
    ·rw [if_pos (by omega),if_pos c3,show q - (off+k)=(q - (off+(k+1)))+1 by omega]
     simp
    ·rw [if_neg (by omega),if_neg c3,if_neg (by omega)]
def nM (g:Gh) (w:World) (l:List AV) (cs:Array Value):Prop:=cs.size=l.length/\∀ (i:Nat) (a:AV) (x:Value),l[i]?=some a->cs[i]?=some x->aH g w a x
theorem nM.bJ (cs:Array Value):nM g w (cs.toList.map bJ) cs:=by
 refine⟨by simp,fun i a x h1 h2=>?_⟩
 simp only [List.getElem?_map,Option.map_eq_some_iff] at h1
 obtain⟨y,hy,rfl⟩:=h1
 have:some x=some y:=by rw [<-h2,<-hy,Array.getElem?_toList]
 obtain rfl:=oJ_ this
 exact kF x
theorem nM.lay {l:List AV}{cs cs':Array Value}(h:nM g w l cs) {a:AV}{x:Value}(ha:(aP a).all bQ=true) (hx:aH g w a x) {off:Nat}(hle:off+(aP a).length<=l.length)
  (hs:cs'.size=cs.size) (jj:∀ q,cs'[q]?=if q < off then cs[q]? else if q < off+x.cells.size then x.cells[q - off]? else cs[q]?):nM g w (lJ l off (aP a)) cs':=by
 obtain⟨c1,c2,c3⟩:=oA ha hx
 refine⟨by rw [hs,h.1,zt hle],fun i b y h1 h2=>?_⟩
 rw [CH,rf _ _ _ hle] at h1
 rw [jj,c1] at h2
 by_cases d1:i < off
 ·rw [if_pos d1] at h1 h2;exact h.2 i b y h1 h2
 ·rw [if_neg d1] at h1 h2
  by_cases d2:i < off+(aP a).length
  ·rw [if_pos d2] at h1 h2;exact c2 _ b y h1 h2
  ·rw [if_neg d2] at h1 h2;exact h.2 i b y h1 h2
theorem vk {place:Nat->Option (Nat × Nat)}:∀ {parts:List (Nat × AV)}{xe:List (Nat × Value)}{l r:List AV}{cs:Array Value},vi place l parts=some r->nM g w l cs ->
  CI (fun (p:Nat × AV) (q:Nat × Value)=>p.1=q.1/\aH g w p.2 q.2) parts xe->∃ cs',Instr.fill place cs xe=some cs'/\nM g w r cs'
 |[],_,l,r,cs,h,hl,hp=>by
  cases hp
  obtain rfl:=oJ_ h
  exact⟨cs,rfl,hl⟩
 |(i,a)::rest,_,l,r,cs,h,hl,hp=>by
  cases hp with
  |@cons _ q _ kK hq nD =>
   obtain⟨j,x⟩:=q
   obtain⟨e,hx⟩:=hq
   simp only at e hx
   subst e
   simp only [vi] at h
   split at h
   ·rename_i off size xf
    split at h
    ·rename_i hc
     simp only [Bool.and_eq_true] at hc
     obtain⟨⟨e1,e2⟩,e3⟩:=hc
     have e1:=Nat.eq_of_beq_eq_true e1
     have e2:=Nat.le_of_ble_eq_true e2
     obtain⟨c1,c2,c3⟩:=oA e3 hx
     have f:=xd off x.cells.toList 0 cs
     have ep:off+x.cells.size<=cs.size:=by rw [hl.1,c1];omega
     have f2:=f.2 (by simpa using ep)
     have l8:=hl.lay (cs':=(x.cells.toList.zipIdx 0).foldl (fun cs (p:Value × Nat)=>cs.setIfInBounds (off+p.2) p.1) cs) (off:=off) e3 hx (by omega) f.1 (fun q=>by
      rw [f2 q]
      simp only [Nat.add_zero,Array.length_toList,Array.getElem?_toList])
     obtain⟨cs',h1,h2⟩:=vk h l8 nD
     refine⟨cs',?_,h2⟩
     rw [<-h1]
     simp only [Instr.fill,xf]
     rw [if_neg (by simp only [Bool.or_eq_true,decide_eq_true_eq,not_or];omega)]
     congr 1
     rw [<-Array.foldl_toList,Array.toList_zipIdx]
    ·cases h
   ·cases h
theorem sX {n:Nat}{α:AA}{a:Act}(hA:bN g w n α a):∀ (parts:List (Nat × Operand)),
  CI (fun (p:Nat × AV) (q:Nat × Value)=>p.1=q.1/\aH g w p.2 q.2) (parts.map fun (i,x)=>(i,α.ev x)) (parts.map fun (i,x)=>(i,a.eval x))
 |[]=>.nil
 |(i,x)::rest=>.cons ⟨rfl,hA.ev x⟩ (sX hA rest)
theorem DT:∀ (fs:List Field),(fs.all fun (f:Field)=>(cP P f.type).isSome)=true->∃ pl:List (Nat × Nat),fs.mapM (fun (f:Field)=>(P.info? f.type).map fun i=>(f.offset,i.size))=some pl /\
  ∀ i:Nat,pl[i]?=match fs[i]? with|some f=>(match cP P f.type with|some n=>some (f.offset,n)|none=>none)|none=>none
 |[],_=>⟨[],by simp,fun i=>by simp⟩
 |f::fs,h=>by
  simp only [List.all_cons,Bool.and_eq_true] at h
  obtain⟨n,hn⟩:=Option.isSome_iff_exists.1 h.1
  obtain⟨pl,h1,h2⟩:=DT fs h.2
  have IN:=hn
  unfold cP at IN
  obtain⟨i,hi,e⟩:=Option.map_eq_some_iff.1 IN
  refine⟨(f.offset,n)::pl,by simp [List.mapM_cons,hi,h1,e],fun i=>?_⟩
  cases i with
  |zero=>simp [hn]
  |succ i=>simpa using h2 i
theorem HR {n:Nat}{α:AA}{a:Act}{t:TypeId}{parts:Array (Nat × Operand)}{r:AV}(hA:bN g w n α a) (h:rP P t (parts.toList.map fun (i,x)=>(i,α.ev x))=some r) :
  ∃ v,(Instr.build t (parts.map fun (i,x)=>(i,a.eval x))).run P w=.ok v w/\aH g w r v:=by
 have hp:=sX hA parts.toList
 unfold rP at h
 split at h
 ·rename_i cs hz
  have hz':=hz
  unfold cU at hz'
  obtain⟨it,DI,qB⟩:=Option.bind_eq_some_iff.1 hz'
  split at h
  ·rename_i fs hu
   split at h
   ·rename_i me
    obtain⟨l,hl,rfl⟩:=Option.map_eq_some_iff.1 h
    obtain⟨cs',h1,h2⟩:=vk hl (nM.bJ cs) hp
    obtain⟨pl,h3,h4⟩:=DT fs.toList me
    refine⟨.agg cs',run_build w t _ cs' ?_,.agg h2.1 h2.2⟩
    have e:FR P fs=fun x=>pl.toArray[x]?:=by
     funext i
     rw [List.getElem?_toArray,h4 i,Array.getElem?_toList]
     rfl
    rw [e] at h1
    simp only [Program.built,DI,hu,qB,h3,Array.toList_map]
    exact h1
   ·cases h
  ·rename_i len e hu
   split at h
   ·rename_i m hm
    obtain⟨l,hl,rfl⟩:=Option.map_eq_some_iff.1 h
    obtain⟨cs',h1,h2⟩:=vk hl (nM.bJ cs) hp
    refine⟨.agg cs',run_build w t _ cs' ?_,.agg h2.1 h2.2⟩
    obtain⟨ie,hie,rfl⟩:=ji hm
    simp only [Program.built,DI,hu,qB,hie,Array.toList_map]
    exact h1
   ·cases h
  ·cases h
 ·cases h
end
end Go.Proofs.YtgjfgekaclobaaaGreat
