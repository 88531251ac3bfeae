import Derived.RangeFuncLeaves
import Derived.Test.YtgjfgekaclobaaaGreatCm1
namespace Go.Proofs.YtgjfgekaclobaaaGreat
set_option linter.unusedVariables false
set_option linter.unusedSimpArgs false
open Go.RowKit
inductive DE where
 |ob (k:Nat)
 |del (t:Target) (k:Nat) (i:Int)
def DE.k:DE->Nat
 |.ob k=>k
 |.del _ k _=>k
instance:Coe Nat DE:=⟨DE.ob⟩
def Bq (f:Nat->Nat):DE->Deferred
 |.ob k=>{ target:=.collected (f k),args:=#[] }
 |.del t k i=>{ target:=t,args:=#[.map (some (f k)),.int .i64 i] }
theorem s6 {f f':Nat->Nat}{d:DE}(h:f' d.k=f d.k):Bq f' d=Bq f d:=by
 cases d with
 |ob k=>have h:f' k=f k:=h;simp only [Bq,h]
 |del t k i=>have h:f' k=f k:=h;simp only [Bq,h]
structure AA where
 tm:Nat->AV
 df:List DE
def AA.put (α:AA):Option Tmp->AV->AA
 |some d,a=>⟨aX α.tm d a,α.df⟩
 |none,_=>α
def a8:Value->AV
 |.slice none 0 0=>.sl true []
 |x=>.v x
def lift:Value->AV
 |.agg cs=>.agg (cs.toList.map a8)
 |x=>a8 x
def AA.ev (α:AA):Operand->AV
 |.tmp t=>α.tm t
 |.const v=>lift v
 |.global g=>.v (.pointer (some ⟨g,0,none⟩))
 |.func f=>.v (.func (.func f) #[] #[])
section
variable {g g':Gh}{w w':World}
theorem iZ (x:Value):aA g w (a8 x) x:=by
 unfold a8
 split
 ·exact .nil (fun _=>rfl)
 ·exact .v
theorem oG (x:Value):aA g w (lift x) x:=by
 unfold lift
 split
 ·rename_i cs
  refine .agg (by simp) (fun i a x h1 h2=>?_)
  simp only [List.getElem?_map,Option.map_eq_some_iff] at h1
  obtain⟨y,hy,rfl⟩:=h1
  have:some x=some y:=by rw [<-h2,<-hy,Array.getElem?_toList]
  obtain rfl:=Option.some.inj this
  exact iZ x
 ·exact iZ _
structure bf (g:Gh) (w:World) (n:Nat) (α:AA) (a:Act):Prop where
 size:a.tmps.size=n
 tm:∀ t,t < n->aA g w (α.tm t) (a.tmps.getD t undef)
 out:∀ t,n<=t->α.tm t=.u
 df:a.defers=α.df.map (Bq g.ob)
 oN:∀ d ∈ α.df,g.al d.k
theorem bf.later {n:Nat}{α:AA}{a:Act}(hL:Later g w g' w') (h:bf g w n α a):bf g' w' n α a :=
 ⟨h.size,fun t ht=>(h.tm t ht).later hL,h.out,h.df.trans (List.map_congr_left fun k hk=>(s6 (hL.ob _ (h.oN k hk))).symm),fun k hk=>hL.al _ (h.oN k hk)⟩
theorem bf.ev {n:Nat}{α:AA}{a:Act}(h:bf g w n α a) (o:Operand):aA g w (α.ev o) (a.eval o):=by
 cases o with
 |tmp t =>
  show aA g w (α.tm t) (a.tmps.getD t undef)
  by_cases ht:t < n
  ·exact h.tm t ht
  ·rw [h.out t (Nat.le_of_not_lt ht)];exact .u
 |const v=>exact oG v
 |global g=>exact .v
 |func f=>exact .v
theorem bf.put {n:Nat}{α:AA}{a:Act}(h:bf g w n α a) {d:Tmp}(hd:d < n) {b:AV}{x:Value}(hx:aA g w b x):bf g w n (α.put (some d) b) (a.put (some d) x):=by
 refine⟨by simp [Act.put,h.size],fun t ht=>?_,fun t ht=>?_,h.df,h.oN⟩
 ·show aA g w (aX α.tm d b t) ((a.tmps.setIfInBounds d x).getD t undef)
  have e:(a.tmps.setIfInBounds d x).getD t undef=if t=d then x else a.tmps.getD t undef:=by
   simp only [Array.getD_eq_getD_getElem?,Array.getElem?_setIfInBounds]
   by_cases e:d=t
   ·subst e;simp [h.size,hd]
   ·simp [e,Ne.symm e]
  rw [e]
  by_cases e:t=d
  ·subst e;rw [ah,if_pos rfl];exact hx
  ·rw [aq _ _ e,if_neg e];exact h.tm t ht
 ·show aX α.tm d b t=.u
  rw [aq _ _ (Nat.ne_of_gt (Nat.lt_of_lt_of_le hd ht))]
  exact h.out t ht
theorem bf.K0 {n:Nat}{α:AA}{a:Act}(h:bf g w n α a) {b:AV}{x:Value}:bf g w n (α.put none b) (a.put none x):=h
end
def fZ (F:Fence):Prop:=(∀ f,F.fn f)/\F.depth=none/\F.alive=false
theorem fZ.inRound {F:Fence}(h:fZ F) (l:Nat):fZ (F.inRound l):=h
theorem fZ.plain {F:Fence}(h:fZ F):fZ F.plain:=h
theorem fZ.wide:fZ Fence.wide:=⟨fun _=>trivial,rfl,rfl⟩
section
variable (P:Program) (w0:World) (rd:Bool) (n:Nat)
def lz (A:Nat->Prop) (g:Gh) (w:World) (ex:Exit) (ag:AA) (S':aa):Exit->Act->World->Prop :=
 fun ex' a' w'=>ex'=ex/\∃ g',St w0 A g' S' w'/\bf g' w' n ag a'/\Ext A g w g' w'
def bI (c:Code) (α:AA) (S:aa) (ex:Exit) (ag:AA) (S':aa):Prop :=
 ∀ (F:Fence) (m:Nat) (A:Nat->Prop) (g:Gh) (a:Act) (w:World),fZ F->F.round.isSome=rd->St w0 A g S w->bf g w n α a->c.wpIn F m P (lz w0 n A g w ex ag S') a w
end
section
variable {P:Program}{w0:World}{rd:Bool}{n:Nat}{α bG ag:AA}{S bR S':aa}{ex:Exit}{c d:Code}
theorem lz.ext {A:Nat->Prop}{g vZ:Gh}{w gw:World}(hE:Ext A g w vZ gw) {ex':Exit}{a':Act}{w':World}(h:lz w0 n A vZ gw ex ag S' ex' a' w'):lz w0 n A g w ex ag S' ex' a' w':=by
 obtain⟨h1,g',h2,h3,h4⟩:=h
 exact⟨h1,g',h2,h3,hE.trans h4⟩
def I2 (c:Code):Prop:=c=.skip\/∃ l,c=.label l
theorem I2.wp (h:I2 c) {F:Fence}{m:Nat}{Q:Exit->Act->World->Prop}{a:Act}{w:World}(q:Q .normal a w):c.wpIn F m P Q a w:=by
 rcases h with rfl|⟨l,rfl⟩
 ·exact wpIn_skip q
 ·exact wpIn_label q
theorem bI.skip (h:I2 c):bI P w0 rd n c α S .normal α S:=fun F m A g a w hF hR hS hA=>h.wp ⟨rfl,g,hS,hA,Ext.refl ..⟩
theorem bI.exit_ (id:Nat):bI P w0 rd n (.exit id) α S (.exit id) α S:=fun F m A g a w hF hR hS hA=>wpIn_exit ⟨rfl,g,hS,hA,Ext.refl ..⟩
theorem bI.ret:bI P w0 rd n .ret α S .ret α S:=fun F m A g a w hF hR hS hA=>wpIn_ret ⟨rfl,g,hS,hA,Ext.refl ..⟩
theorem bI.seq (h:bI P w0 rd n c α S .normal bG bR) (k:bI P w0 rd n d bG bR ex ag S'):bI P w0 rd n (.seq c d) α S ex ag S':=by
 intro F m A g a w hF hR hS hA
 refine wpIn_seq (wpIn_mono (h F m A g a w hF hR hS hA) ?_)
 rintro e iQ gw ⟨rfl,vZ,xm,xn,hE⟩
 exact wpIn_mono (k F m A vZ iQ gw hF hR xm xn) fun e a w hq=>lz.ext hE hq
theorem bI.Qs (h:bI P w0 rd n c α S ex ag S') (he:ex ≠ .normal):bI P w0 rd n (.seq c d) α S ex ag S':=by
 intro F m A g a w hF hR hS hA
 refine wpIn_seq (wpIn_mono (h F m A g a w hF hR hS hA) ?_)
 rintro e iQ gw ⟨rfl,hq⟩
 cases e with
 |normal=>exact absurd rfl he
 |_=>exact⟨rfl,hq⟩
theorem Br {g:Gh}{w:World}{b:Bool}{x:Value}(h:aA g w (.v (.bool b)) x):x=.bool b:=by cases h;rfl
theorem bg {g:Gh}{w:World}{y x:Value}(h:aA g w (.v y) x):x=y:=by cases h;rfl
theorem bI.cond {o:Operand}{t:Bool}(ho:α.ev o=.v (.bool t)) (h:bI P w0 rd n (if t then c else d) α S ex ag S'):bI P w0 rd n (.cond o c d) α S ex ag S':=by
 intro F m A g a w hF hR hS hA
 have h1:=hA.ev o
 rw [ho] at h1
 exact wpIn_cond (Br h1) (h F m A g a w hF hR hS hA)
theorem Fb {F:Fence}{m:Nat}{Q:Exit->Act->World->Prop}{a:Act}{w:World}(h:c.wpIn F m P (fun ex a w=>(∀ l,ex ≠ .goto l)/\Q ex a w) a w):(Code.scope c).wpIn F m P Q a w:=by
 intro b k cs jv hb hr
 have s1:step P (lone (b.atR a (.code (.scope c)::k)) cs w)=.next (lone (b.atR a (.code c::.inScope c::k)) cs w):=step_lone_go (by simp [stepG,stepG.exec,Frame.atR])
 have s2:∀ (a:Act) (w:World),step P (lone (b.atR a (.inScope c::k)) cs w)=.next (lone (b.atR a k) cs w):=fun a w=>step_lone_go (by simp [stepG,stepG.exec,Frame.atR])
 have h0:(lone (b.atR a (.code (.scope c)::k)) cs w).fenced P F:=fenced_calm hb hr rfl
 obtain⟨e,iQ,gw,⟨hg,hq⟩,iR⟩:=h b (.inScope c::k) cs jv hb hr
 cases e with
 |normal=>exact⟨.normal,iQ,gw,hq,.head h0 s1 (StepsIn.trans iR (.one (fenced_calm hb hr rfl) (s2 iQ gw)))⟩
 |exit id =>
  have hx:exitTo id (.inScope c::k)=exitTo id k:=by simp [exitTo]
  exact⟨.exit id,iQ,gw,hq,fun k' hk=>.head h0 s1 (iR.1 k' (by rw [hx];exact hk)),fun fg hk=>let ⟨k₁,h1,h2⟩:=iR.2 fg (by rw [hx];exact hk);⟨k₁,h1,.head h0 s1 h2⟩⟩
 |goto l=>exact absurd rfl (hg l)
 |ret=>exact⟨_,iQ,gw,hq,.of_steps (.one h0 s1) iR⟩
 |panic ch=>exact⟨_,iQ,gw,hq,.of_steps (.one h0 s1) iR⟩
 |outgrown=>exact⟨_,iQ,gw,hq,.of_steps (.one h0 s1) iR⟩
theorem bI.scope (h:bI P w0 rd n c α S ex ag S') (he:∀ l,ex ≠ .goto l):bI P w0 rd n (.scope c) α S ex ag S':=by
 intro F m A g a w hF hR hS hA
 refine Fb (wpIn_mono (h F m A g a w hF hR hS hA) ?_)
 rintro e iQ gw ⟨rfl,hq⟩
 exact⟨he,rfl,hq⟩
theorem bI.block {id:Nat}(h:bI P w0 rd n c α S ex ag S') (he:ex ≠ .exit id):bI P w0 rd n (.block id c) α S ex ag S':=by
 intro F m A g a w hF hR hS hA
 refine wpIn_block (wpIn_mono (h F m A g a w hF hR hS hA) ?_)
 rintro e iQ gw ⟨rfl,hq⟩
 cases e with
 |exit j =>
  have:j ≠ id:=fun e=>he (by rw [e])
  simp only [Exit.inBlock,this,if_false]
  exact⟨rfl,hq⟩
 |_=>exact⟨rfl,hq⟩
theorem bI.EW {id:Nat}(h:bI P w0 rd n c α S (.exit id) ag S'):bI P w0 rd n (.block id c) α S .normal ag S':=by
 intro F m A g a w hF hR hS hA
 refine wpIn_block (wpIn_mono (h F m A g a w hF hR hS hA) ?_)
 rintro e iQ gw ⟨rfl,hq⟩
 simp only [Exit.inBlock,if_true]
 exact⟨rfl,hq⟩
def pZ (P:Program) (w0:World) (rd:Bool) (n:Nat) (c:Code) (α:AA) (S:aa) (ex:Exit) (ag:AA) (S':aa):Prop :=
 ∀ (F:Fence) (m:Nat) (A:Nat->Prop) (g:Gh) (a:Act) (w:World),fZ F->F.round.isSome=rd->St w0 A g S w->bf g w n α a->∀ (b:Frame) (k:List Item) (cs:List Frame),b.roundOf=F.round->F.fn b.fn->F.room (cs.length+1+m) ->
  ∃ e a' w',lz w0 n A g w ex ag S' e a' w'/\ArrivesIn (Machine.fenced P F) P (lone (b.atR a (.code c::.inLoop c::k)) cs w) b k cs e a' w'
theorem bI.loop (h:pZ P w0 rd n c α S ex ag S'):bI P w0 rd n (.loop c) α S ex ag S':=by
 intro F m A g a w hF hR hS hA b k cs jv hb hr
 obtain⟨e,a',w',hq,iR⟩:=h F m A g a w hF hR hS hA b k cs jv hb hr
 exact⟨e,a',w',hq,.of_steps (.one (fenced_calm hb hr rfl) stepR_loop) iR⟩
theorem pZ.step (h:bI P w0 rd n c α S .normal bG bR) (k:pZ P w0 rd n c bG bR ex ag S'):pZ P w0 rd n c α S ex ag S':=by
 intro F m A g a w hF hR hS hA b l cs jv hb hr
 obtain⟨e,iQ,gw,hq,iR⟩:=h F m A g a w hF hR hS hA b (.inLoop c::l) cs jv hb hr
 obtain⟨rfl,vZ,xm,xn,hE⟩:=hq
 obtain⟨KO,KP,KQ,E6,yB⟩:=k F m A vZ iQ gw hF hR xm xn b l cs jv hb hr
 exact⟨KO,KP,KQ,lz.ext hE E6,.of_steps (StepsIn.trans iR (.one (fenced_calm hb hr rfl) stepR_inLoop)) yB⟩
theorem pZ.done (h:bI P w0 rd n c α S ex ag S') (he:ex ≠ .normal):pZ P w0 rd n c α S ex ag S':=by
 intro F m A g a w hF hR hS hA b l cs jv hb hr
 obtain⟨e,iQ,gw,hq,iR⟩:=h F m A g a w hF hR hS hA b (.inLoop c::l) cs jv hb hr
 obtain⟨rfl,hq⟩:=hq
 exact⟨e,iQ,gw,⟨rfl,hq⟩,.pass (x:=.inLoop c) rfl (fun _ _=>.inl he) iR⟩
def aE (P:Program) (w0:World) (f:FuncId) (args:List AV) (S:aa) (r:AV) (S':aa):Prop :=
 (∀ (xs:Array Value) (w:World),(callFunc f xs).run P w=.ok (.enter f xs) w) /\
 ∀ (F:Fence) (m:Nat) (A:Nat->Prop) (g:Gh) (aV:Array Value) (w:World),fZ F->St w0 A g S w->jd g w args aV ->
  CallsIn F m P f aV w fun e w'=>∃ v g',e=.returned v/\aA g' w' r v/\St w0 A g' S' w'/\Ext A g w g' w'
def s9 (P:Program) (w0:World) (k:Nat) (args:List AV) (S:aa) (r:AV) (S':aa):Prop :=
 ∀ (F:Fence) (m:Nat) (A:Nat->Prop) (g:Gh) (aV:Array Value) (w:World),fZ F->St w0 A g S w->g.al k->jd g w args aV->∃ l f tmps assign body,(Instr.yield (g.ob k) aV).run P w=.ok (.round l f tmps assign body) w /\
  RoundIn F m P l f tmps assign body w fun e w'=>∃ v g',e=.returned v/\aA g' w' r v/\St w0 A g' S' w'/\Ext A g w g' w'
def av (P:Program) (w0:World) (f:FuncId) (args:List AV) (r:AV):Prop :=
 Pure r/\∃ S',aE P w0 f args aa.none_ r S'
end
def aL {α:Type}(o:Option α) (K:α->Prop):Prop:=match o with|some a=>K a|none=>False
theorem aL.out {α:Type}{o:Option α}{K:α->Prop}(h:aL o K):∃ a,o=some a/\K a:=by
 cases o with
 |none=>exact h.elim
 |some a=>exact⟨a,rfl,h⟩
theorem aL.mk {α:Type}{o:Option α}{K:α->Prop}{a:α}(h:o=some a) (k:K a):aL o K:=by subst h;exact k
def EZ (P:Program) (t:TypeId):Option Bool :=
 match P.underlying t with
 |some (.struct _)|some (.array _ _)=>some true
 |some _=>some false
 |none=>none
def bZ (P:Program) (t:TypeId):Option Nat:=(P.info? t).map (·.size)
def fe (P:Program) (t:TypeId):Option Nat:=(P.info? t).map (·.bytes)
def b8 (P:Program) (t:TypeId):Option Value:=(P.info? t).bind (·.zero)
def E0 (row:List AV) (j n:Nat):List AV:=match j,Nat.beq n row.length with|0,true=>row|_,_=>(row.drop j).take n
def kr (P:Program) (t:TypeId) (row:List AV) (j:Nat):Option AV :=
 match EZ P t,bZ P t with
 |some true,some n=>match Nat.ble (j+n) row.length with|true=>some (.agg (E0 row j n))|false=>none
 |some false,_=>row[j]?
 |_,_=>none
def pc (P:Program) (S:aa) (t:TypeId):AV->Option AV
 |.ip row=>kr P t row 0
 |.pt k sz i j=>match S.get k with
  |some (.arr sz' rows _ _)=>match Nat.beq sz sz' with
   |true=>match rows[i]? with
    |some row=>kr P t row j
    |none=>none
   |false=>none
  |_=>none
 |_=>none
def aG:AV->List AV
 |.agg l=>l
 |a=>[a]
def bl:AV->Bool
 |.v x=>x.oneCell'
 |.agg _|.aC _|.u=>false
 |_=>true
def kO (row:List AV) (j:Nat) (cs:List AV):List AV:=match j,Nat.beq cs.length row.length with|0,true=>cs|_,_=>row.take j++cs++row.drop (j+cs.length)
def kV (P:Program) (S:aa) (t:TypeId) (b:AV):AV->Option aa
 |.pt k sz i j=>match S.get k with
  |some (.arr sz' rows 0 ex)=>match Nat.beq sz sz' && (aG b).all bl && (match bZ P t with|some n=>Nat.beq n (aG b).length|none=>false) with
   |true=>match rows[i]? with
    |some row=>match Nat.ble (j+(aG b).length) row.length with
     |true=>some (S.set k (some (.arr sz (rows.set i (kO row j (aG b))) 0 ex)))
     |false=>none
    |none=>none
   |false=>none
  |_=>none
 |_=>none
def aa.new (S:aa) (o:Ob):aa:=⟨aX S.get S.nx (some o),S.nx+1⟩
def lZ (S:aa) (cs:List AV):AV × aa:=(.pt S.nx cs.length 0 0,S.new (Ob.arr cs.length [cs] 0 true))
def rf (place:Nat->Option (Nat × Nat)):List AV->List (Nat × AV)->Option (List AV)
 |cells,[]=>some cells
 |cells,(i,a)::rest=>match place i with
  |some (off,size)=>match Nat.beq (aG a).length size && Nat.ble (off+size) cells.length && (aG a).all bl with
   |true=>rf place (kO cells off (aG a)) rest
   |false=>none
  |none=>none
def A4 (P:Program) (fs:Array Field) (i:Nat):Option (Nat × Nat) :=
 match fs[i]? with
 |some f=>match bZ P f.type with|some n=>some (f.offset,n)|none=>none
 |none=>none
def oF (P:Program) (t:TypeId) (parts:List (Nat × AV)):Option AV :=
 match b8 P t with
 |some (.agg cs)=>match P.underlying t with
  |some (.struct fs)=>match fs.toList.all fun f=>(bZ P f.type).isSome with
   |true=>(rf (A4 P fs) (cs.toList.map a8) parts).map .agg
   |false=>none
  |some (.array _ e)=>match bZ P e with
   |some n=>(rf (fun i=>some (i*n,n)) (cs.toList.map a8) parts).map .agg
   |none=>none
  |_=>none
 |_=>none
def oh (size:Nat):List (List AV)->List (Nat × AV)->Option (List (List AV))
 |rows,[]=>some rows
 |rows,(i,a)::rest=>match Nat.beq (aG a).length size && Nat.blt i rows.length && (aG a).all bl with
  |true=>oh size (rows.set i (aG a)) rest
  |false=>none
def idx {α:Type}(rows:List α) (i:Int):Option α:=if 0<=i then rows[i.toNat]? else none
theorem Qr {α:Type}{rows:List α}{k:Nat}{x:α}(h:rows[k]?=some x):idx rows (k:Int)=some x:=by
 unfold idx
 rw [if_pos (by omega)]
 simpa using h
def rowsOf (S:aa):AV->Option (List (List AV))
 |.sl _ rows=>some rows
 |.ob k sz off len _=>match S.get k with
  |some (.arr sz' rows _ _)=>match Nat.beq sz sz' with
   |true=>some ((rows.drop off).take len)
   |false=>none
  |_=>none
 |_=>none
def kQ:AV->Option Nat
 |.sl _ rows=>some rows.length
 |.ob _ _ _ len _=>some len
 |.v (.string s)=>some s.size
 |_=>none
def isStr:AV->Bool
 |.v (.string _)=>true
 |_=>false
def nI (P:Program) (op:BinOp) (t:TypeId):Value->Value->Option Value
 |.int k a,.int k' b=>match decide (k=k') with
  |true=>match op with
   |.eql=>some (.bool (a == b))
   |.neq=>some (.bool (a != b))
   |.lss=>some (.bool (decide (a < b)))
   |.leq=>some (.bool (decide (a<=b)))
   |.gtr=>some (.bool (decide (a > b)))
   |.geq=>some (.bool (decide (a>=b)))
   |_=>none
  |false=>none
 |.string a,.string b=>match op with
  |.eql=>some (.bool (a.toList == b.toList))
  |.neq=>some (.bool (!(a.toList == b.toList)))
  |.lss=>some (.bool (Op.bytesLess a.toList b.toList))
  |.leq=>some (.bool (Op.bytesLess a.toList b.toList || a.toList == b.toList))
  |.gtr=>some (.bool (!(Op.bytesLess a.toList b.toList || a.toList == b.toList)))
  |.geq=>some (.bool (!Op.bytesLess a.toList b.toList))
  |_=>none
 |.bool a,.bool b=>match P.underlying t with
  |some .bool=>match op with
   |.eql=>some (.bool (a == b))
   |.neq=>some (.bool (!(a == b)))
   |_=>none
  |_=>none
 |_,_=>none
def arith:BinOp->Int->Int->Option Int
 |.add,a,b=>some (a+b)
 |.sub,a,b=>some (a - b)
 |.mul,a,b=>some (a*b)
 |_,_,_=>none
def lenOf (P:Program) (t:TypeId) (a:AV):Option Nat:=match P.underlying t,isStr a,kQ a with
 |some (.slice _),false,some m=>some m
 |some .string,true,some m=>some m
 |_,_,_=>none
def uJ (S:aa) (k:Nat):Option (Nat × List (List AV) × Nat × Bool):=match S.get k with
 |some (.arr sz rows fz ex)=>some (sz,rows,fz,ex)
 |_=>none
theorem xv {S:aa}{k sz fz:Nat}{rows:List (List AV)}{ex:Bool}(h:uJ S k=some (sz,rows,fz,ex)):S.get k=some (.arr sz rows fz ex):=by
 unfold uJ at h
 split at h
 ·rename_i e
  rw [e]
  injection h with h
  injection h with h1 h
  injection h with h2 h
  injection h with h3 h4
  subst h1 h2 h3 h4
  rfl
 ·cases h
theorem oP {S:aa}{k sz fz:Nat}{rows:List (List AV)}{ex:Bool}(h:S.get k=some (.arr sz rows fz ex)):uJ S k=some (sz,rows,fz,ex):=by
 unfold uJ
 rw [h]
def uD (P:Program) (w0:World) (K:AV->aa->Prop) (S:aa) (args:List AV):AV->Prop
 |.v (.func (.func g) first cap)=>match first.toList,cap.toList with
  |[],[]=>∃ r S',aE P w0 g args S r S'/\K r S'
  |_,_=>False
 |.fn (.func g) first cap=>∃ r S',aE P w0 g (first++args++cap) S r S'/\K r S'
 |.yl k=>∃ r S',s9 P w0 k args S r S'/\K r S'
 |_=>False
def g8 (P:Program) (e:TypeId) (K:AV->aa->Prop) (S:aa) (more:List (List AV)):AV->Prop
 |.sl true rows=>match more with
  |[]=>K (.sl true rows) S
  |x::more=>match bZ P e,fe P e with
   |some sz,some by_=>match Nat.blt 0 by_ with
    |true=>(∀ row ∈ rows,row.length=sz)/\(∀ row ∈ x::more,row.length=sz)/\(rows.length+(x::more).length)*by_<=35184372088832 /\
     K (.ob S.nx sz 0 (rows.length+(x::more).length) none) (S.new (.arr sz (rows++x::more) 0 false))
    |false=>False
   |_,_=>False
 |.ob k sz 0 len none=>aL (uJ S k) fun o=>match o with
  |(sz',rows,fz,ex)=>match more with
   |[]=>K (.ob k sz 0 len none) S
   |x::more=>match bZ P e,fe P e with
    |some ew,some by_=>match Nat.beq sz' sz && Nat.beq ew sz && Nat.blt 0 by_ with
     |true=>fz<=len/\len<=rows.length/\(∀ row ∈ x::more,row.length=sz/\row.all bl=true)/\(len+(x::more).length)*by_<=35184372088832 /\
      K (.ob S.nx sz 0 (len+(x::more).length) none) ((S.set k none).new (.arr sz (rows.take len++x::more) fz false))
     |false=>False
    |_,_=>False
 |.ob k sz off len (some c)=>aL (uJ S k) fun o=>match o with
  |(sz',rows,fz,ex)=>match more with
   |[]=>K (.ob k sz off len (some c)) S
   |x::more=>match bZ P e,fe P e with
    |some ew,some by_=>match Nat.beq sz' sz && Nat.beq ew sz && Nat.blt 0 by_ with
     |true=>c=len/\off+len<=rows.length/\(∀ row ∈ x::more,row.length=sz)/\(len+(x::more).length)*by_<=35184372088832 /\
      K (.ob S.nx sz 0 (len+(x::more).length) none) (S.new (.arr sz ((rows.drop off).take len++x::more) 0 false))
     |false=>False
    |_,_=>False
 |_=>False
def eu (P:Program) (t:TypeId):Option TypeId:=match P.underlying t with|some (.slice e)=>some e|_=>none
def j6 (P:Program) (K:AV->aa->Prop) (S:aa) (argTypes:List TypeId) (args:List AV):Builtin->Prop
 |.len=>match argTypes,args with
  |[t],[a]=>aL (lenOf P t a) fun m=>K (.v (.int .i64 (m:Int))) S
  |_,_=>False
 |.append=>match argTypes,args with
  |[t,t2],[a,b]=>match eu P t,eu P t2 with
   |some e,some _=>match (match b8 P e,bZ P e with|some z,some sz=>Nat.beq z.cells.size sz|_,_=>false) with
    |true=>aL (rowsOf S b) fun more=>kQ b=some more.length/\g8 P e K S more a
    |false=>False
   |_,_=>False
  |_,_=>False
 |.min=>match args with
  |[.v (.int k a),.v (.int k' b)]=>match decide (k=k') with|true=>K (.v (.int k (min a b))) S|false=>False
  |_=>False
 |.max=>match args with
  |[.v (.int k a),.v (.int k' b)]=>match decide (k=k') with|true=>K (.v (.int k (max a b))) S|false=>False
  |_=>False
 |_=>False
def iS:Option AV->Int->Option Int
 |none,d=>some d
 |some (.v (.int _ i)),_=>some i
 |_,_=>none
def jw (P:Program) (t:TypeId) (K:AV->aa->Prop) (S:aa) (x:AV) (lo hi mx:Option AV):Prop :=
 match x,mx with
 |.v (.string s),none=>match P.underlying t,iS lo 0,iS hi s.size with
  |some .string,some l,some h=>0<=l/\l<=h/\h<=s.size/\K (.v (.string (s.extract l.toNat h.toNat))) S
  |_,_,_=>False
 |.sl ex rows,none=>match P.underlying t,iS lo 0,iS hi rows.length with
  |some (.slice e),some l,some h=>(∀ row ∈ rows,bZ P e=some row.length)/\(bZ P e).isSome/\0<=l/\l<=h/\h<=rows.length/\K (.sl false ((rows.take h.toNat).drop l.toNat)) S
  |_,_,_=>False
 |.sl ex rows,some (.v (.int _ m))=>match P.underlying t,iS lo 0,hi with
  |some (.slice e),some l,some (.v (.int _ h))=>(∀ row ∈ rows,bZ P e=some row.length)/\(bZ P e).isSome/\0<=l/\l<=h/\h=m/\h<=rows.length/\K (.sl true ((rows.take h.toNat).drop l.toNat)) S
  |_,_,_=>False
 |.ob k sz off len cx,none=>match P.underlying t,lo,iS hi len with
  |some (.slice e),none,some h=>bZ P e=some sz/\0<=h/\h<=len/\K (.ob k sz off h.toNat cx) S
  |some (.slice e),some (.v (.int _ l)),some h=>bZ P e=some sz/\0<=l/\l<=h/\h<=len/\(l=h->K (.sl false []) S)/\(l < h->K (.ob k sz (off+l.toNat) (h.toNat - l.toNat) (cx.map (· - l.toNat))) S)
  |_,_,_=>False
 |.ob k sz off len cx,some (.v (.int _ m))=>match P.underlying t,iS lo 0,hi with
  |some (.slice e),some l,some (.v (.int _ h))=>bZ P e=some sz/\l=0/\h=m/\h<=len/\0<=h/\K (.ob k sz off h.toNat (some h.toNat)) S
  |_,_,_=>False
 |_,_=>False
def br (t:Bool) (X Y:Prop):Prop:=match t with|true=>X|false=>Y
theorem br.t {t:Bool}{X Y:Prop}(e:t=true) (h:X):br t X Y:=by subst e;exact h
def A_ (S:aa) (k:Nat):Option (ByteArray × Nat):=match S.get k with
 |some (.si s pos)=>some (s,pos)
 |_=>none
theorem Jf {S:aa}{k pos:Nat}{s:ByteArray}(h:A_ S k=some (s,pos)):S.get k=some (.si s pos):=by
 unfold A_ at h
 split at h
 ·rename_i e
  rw [e]
  injection h with h
  injection h with h1 h2
  subst h1 h2
  rfl
 ·cases h
def oL (v:Value) (K:Value->Prop):Prop:=match v with|.bool b=>∃ d,b=d/\K (.bool d)|v=>K v
theorem oL.out {v:Value}{K:Value->Prop}(h:oL v K):K v:=by
 unfold oL at h
 split at h
 ·obtain⟨d,rfl,h⟩:=h;exact h
 ·exact h
theorem oL.mk {v:Value}{K:Value->Prop}(h:K v):oL v K:=by
 unfold oL
 split
 ·exact⟨_,rfl,h⟩
 ·exact h
def aK (P:Program) (w0:World) (o:Op) (α:AA) (S:aa) (K:AV->aa->Prop):Prop :=
 match o with
 |.move x|.assign x=>K (α.ev x) S
 |.pick c a b=>match α.ev c with
  |.v (.bool t)=>br t (K (α.ev a) S) (K (α.ev b) S)
  |_=>False
 |.alloc e=>match b8 P e with
  |some z=>K (lZ S (z.cells.toList.map a8)).1 (lZ S (z.cells.toList.map a8)).2
  |none=>False
 |.box _ x=>match (aG (α.ev x)).all bl with
  |true=>K (lZ S (aG (α.ev x))).1 (lZ S (aG (α.ev x))).2
  |false=>False
 |.build t parts=>match oF P t (parts.toList.map fun (i,x)=>(i,α.ev x)) with
  |some a=>K a S
  |none=>False
 |.buildSlice t len parts=>match eu P t with
  |some e=>match b8 P e,bZ P e with
   |some z,some n=>match Nat.ble (len*n) 16777216 && Nat.beq z.cells.size n && Nat.blt 0 n with
    |true=>match oh n (List.replicate len (z.cells.toList.map a8)) (parts.toList.map fun (i,x)=>(i,α.ev x)) with
     |some rows=>K (.sl true rows) S
     |none=>False
    |false=>False
   |_,_=>False
  |none=>False
 |.load t x=>aL (pc P S t (α.ev x)) fun a=>K a S
 |.store t x b=>aL (kV P S t (α.ev b) (α.ev x)) fun S'=>K (.v undef) S'
 |.binOp op t x y _=>match α.ev x,α.ev y with
  |.v (.int k a),.v (.int k' b)=>match arith op a b with
   |some c=>match decide (k=k') with|true=>∃ d,k.wrap c=d/\K (.v (.int k d)) S|false=>False
   |none=>match nI P op t (.int k a) (.int k' b) with
    |some v=>oL v fun v=>K (.v v) S
    |none=>False
  |.v (.string a),.v (.string b)=>match op with
   |.add=>a.size+b.size<=9223372036854775807/\K (.v (.string (a++b))) S
   |_=>match nI P op t (.string a) (.string b) with
    |some v=>oL v fun v=>K (.v v) S
    |none=>False
  |.v a,.v b=>match nI P op t a b with
   |some v=>oL v fun v=>K (.v v) S
   |none=>False
  |_,_=>False
 |.unOp op _ x=>match op,α.ev x with
  |.not,.v (.bool b)=>K (.v (.bool (!b))) S
  |.neg,.v (.int k a)=>∃ d,k.wrap (0 - a)=d/\K (.v (.int k d)) S
  |_,_=>False
 |.convert src dst x=>match P.underlying src,P.underlying dst,α.ev x with
  |some (.int _),some (.int k),.v (.int _ a)=>∃ d,k.wrap a=d/\K (.v (.int k d)) S
  |some .string,some .string,.v (.string s)=>K (.v (.string s)) S
  |_,_,_=>False
 |.fieldAddr s x f=>match P.underlying s with
  |some (.struct fs)=>match fs[f]? with
   |some fd=>match bZ P fd.type with
    |some (_+1)=>match α.ev x with
     |.ip row=>K (.ip (row.drop fd.offset)) S
     |.pt k sz i j=>K (.pt k sz i (j+fd.offset)) S
     |_=>False
    |_=>False
   |none=>False
  |_=>False
 |.field t x f=>match P.underlying t with
  |some (.struct fs)=>match fs[f]? with
   |some fd=>match α.ev x with
    |.agg l=>aL (kr P fd.type l fd.offset) fun a=>K a S
    |_=>False
   |none=>False
  |_=>False
 |.indexAddr t x i=>match P.underlying t,α.ev x,α.ev i with
  |some (.slice e),.sl _ rows,.v (.int _ k)=>match bZ P e with
   |some n=>aL (idx rows k) fun row=>(∀ r ∈ rows,r.length=n)/\K (.ip row) S
   |none=>False
  |some (.slice e),.ob k sz off len _,.v (.int _ i)=>bZ P e=some sz/\0<=i/\i < len/\K (.pt k sz (off+i.toNat) 0) S
  |some (.array len e),.pt k sz i j,.v (.int _ q)=>match bZ P e with
   |some n=>0<=q/\q < len/\K (.pt k sz i (j+q.toNat*n)) S
   |none=>False
  |some (.array len e),.ip row,.v (.int _ q)=>match bZ P e with
   |some n=>0<=q/\q < len/\K (.ip (row.drop (q.toNat*n))) S
   |none=>False
  |_,_,_=>False
 |.index t x i=>match P.underlying t,α.ev x,α.ev i with
  |some .string,.v (.string s),.v (.int _ k)=>aL (idx s.data.toList k) fun b=>K (.v (.int .u8 b.toNat)) S
  |some (.array len e),.agg l,.v (.int _ q)=>match bZ P e with
   |some n=>aL (kr P e l (q.toNat*n)) fun a=>0<=q/\q < len/\K a S
   |none=>False
  |_,_,_=>False
 |.slice t x lo hi mx=>jw P t K S (α.ev x) (lo.map α.ev) (hi.map α.ev) (mx.map α.ev)
 |.extract x i=>match α.ev x with
  |.aC l=>match l[i]? with
   |some a=>K a S
   |none=>False
  |_=>False
 |.makeSlice t l c=>match eu P t,α.ev l,α.ev c with
  |some e,.v (.int _ a),.v (.int _ b)=>match b8 P e,bZ P e,fe P e with
   |some z,some sz,some by_=>match Nat.beq z.cells.size sz && Nat.blt 0 sz with
    |true=>0<=a/\a=b/\a*by_<=35184372088832/\a<=9223372036854775807/\K (.ob S.nx sz 0 a.toNat none) (S.new (.arr sz (List.replicate a.toNat (z.cells.toList.map a8)) 0 true))
    |false=>False
   |_,_,_=>False
  |_,_,_=>False
 |.range t x=>match P.underlying t,α.ev x with
  |some .string,.v (.string s)=>K (.pt S.nx 0 0 0) (S.new (.si s 0))
  |_,_=>False
 |.next x isStr=>match isStr,α.ev x with
  |true,.pt k _ 0 0=>aL (A_ S k) fun o=>match o with
   |(s,pos)=>∃ d,decide (pos < s.size)=d/\br d (K (.aC [.v (.bool true),.v (.int .i64 pos),.v (.int .i32 (Utf8.decode s pos).1)]) (S.set k (some (.si s (pos+(Utf8.decode s pos).2))))) (K (.aC [.v (.bool false)]) S)
  |_,_=>False
 |.makeFunc f first cap=>K (.fn f (first.toList.map α.ev) (cap.toList.map α.ev)) S
 |.nilCheck x=>match α.ev x with
  |.ip c=>K (.ip c) S
  |.pt k sz i j=>K (.pt k sz i j) S
  |_=>False
 |.call c=>match c.callee with
  |.value f=>uD P w0 K S (c.args.toList.map α.ev) (α.ev f)
  |.builtin b=>j6 P K S c.argTypes.toList (c.args.toList.map α.ev) b
  |.invoke _ _=>False
 |_=>False
def lO (ops:Array Oper) (α:AA) (j:Nat):Option (Option Bool) :=
 match (ops[j]?).bind (·.dst) with
 |some t=>match α.tm t with|.v (.bool b)=>some (some b)|.v (.tuple _)=>some none|_=>none
 |none=>none
def rp:List Oper->Nat->Option Tmp
 |[],_=>none
 |o::_,0=>o.dst
 |_::l,j+1=>rp l j
theorem Bs:∀ (l:List Oper) (j:Nat),rp l j=(l[j]?).bind (·.dst)
 |[],j=>by simp [rp]
 |o::l,0=>by simp [rp]
 |o::l,j+1=>by simp [rp,Bs l j]
def Nn (ops:List Oper) (α:AA) (j:Nat):Option (Option Bool) :=
 match rp ops j with
 |some t=>match α.tm t with|.v (.bool b)=>some (some b)|.v (.tuple _)=>some none|_=>none
 |none=>none
theorem sO {ops:Array Oper}{α:AA}{j:Nat}:Nn ops.toList α j=lO ops α j:=by
 unfold Nn lO
 rw [Bs,Array.getElem?_toList]
def ku (n:Nat) (d:Option Tmp):Bool:=match d with|some d=>Nat.blt d n|none=>true
end Go.Proofs.YtgjfgekaclobaaaGreat
