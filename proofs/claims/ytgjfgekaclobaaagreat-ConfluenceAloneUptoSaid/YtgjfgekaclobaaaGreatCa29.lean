import Derived.Carry
import Derived.Deep.DeepHandedRow
import Derived.Lib.LaidTab
import Derived.OpenShut
import Derived.ProofKit
import Derived.Test.YtgjfgekaclobaaaGreatRows
import Derived.Test.YtgjfgekaclobaaaGreatCa28
namespace Go.Proofs.YtgjfgekaclobaaaGreat
set_option linter.unusedVariables false
set_option linter.unusedSimpArgs false
open Go.RowKit
section
open Go.ChangeShapes Go.WideShapes Go.ChangeAt Go.RowKit
section
variable {H:Type}{enc:TypeId × Value->H}{P:Program}
theorem vZ (hl:laidOutB P=true) {W W':World}(hb:Below W.heap.size W W'):∀ {ts:List TypeId}{vs:List Value}{ds:List (DataW H)}{ps:List MemPlace},
  (∀ t ∈ ts,P.readableRec t=true/\t < P.types.size)->DataW.TrodAll enc P W 0 (fun _=>true) true ts vs ds ps->(∀ x ∈ ps,x.block < W.heap.size) ->
  DataW.TrodAll enc P W' 0 (fun b=>decide (b < W.heap.size)) true ts vs ds ps
 |[],vs,ds,ps,_,h,_=>by
  obtain⟨rfl,rfl,rfl⟩:=trodAll_nil h
  exact trodAll_mk0
 |t::ts,vs,ds,ps,ht,h,aA=>by
  obtain⟨v,vs',d,ds',p,q,rfl,rfl,rfl,h1,h2⟩:=trodAll_cons h
  obtain⟨hr,hs⟩:=ht t (by simp)
  exact trodAll_cons_mk (Below.trod hl hr hs h1 hb fun x hx=>aA x (by simp [hx])) (vZ hl hb (fun t ht'=>ht t (by simp [ht'])) h2 fun x hx=>aA x (by simp [hx]))
theorem Rp {f:Func}{s:ChangeSpec}{W W':World}{args:Array Value}{ds:List (DataW H)}{before:List MemPlace}{tb:TypeId}
  (hl:laidOutB P=true) (I1:∀ t ∈ f.params.toList,P.readableRec t=true/\t < P.types.size) (UK:s.vars=[]) (iR:f.resultTypes=#[tb]) (TZ:P.underlying tb=some .bool)
  (wR:s.fn H (ds++[])={ results:=[.lit (.bool true)],args:=ds }) (hW:DataW.Whole enc P f.params.toList s.vars false W args.toList ds [] before) (hb:Below W.heap.size W W') :
  s.post enc P f false true false false W args (.bool true) W':=by
 have hW':=hW
 obtain⟨p,q,hA,hV,rfl,qy,zy⟩:=hW
 rw [UK] at hV
 obtain⟨_,rfl⟩:=trodVars_none hV
 have aA:∀ x ∈ p,x.block < W.heap.size:=fun x hx=>hW'.lt x (by simp [hx])
 refine⟨ds,[],p++[],[],p,[],hW',?_,?_,?_,World.keptBut_mono (fun x hx=>⟨hx,.inr (.inl (by simpa using hx))⟩) (hb.frame (· ∈ p++[])),fun h=>by cases h⟩
 ·rw [wR,iR]
  exact trodAll_mk1 (shut_bool TZ true)
 ·rw [wR]
  exact vZ hl hb I1 hA aA
 ·rw [wR,UK]
  rfl
end
theorem own:ownKnob Tryz.prog.godebug=none:=by kernel_rfl
noncomputable def xz (os:Os):World:=World.holding Tryz.prog os ⟨#[],#[],[]⟩
theorem adP {g:Gh}{w:World}{a b:AV}{x y:Value}(h:aH g w a x) (k:aH g w b y):iP g w [a,b] #[x,y]:=⟨rfl,fun i c z hc hz=>by
 match i with
 |0=>simp at hc hz;subst hc hz;exact h
 |1=>simp at hc hz;subst hc hz;exact k
 |i+2=>simp at hc⟩
end
section
set_option maxRecDepth 100000
attribute [local irreducible] ah aK ae aa
theorem Kd (x:Tm):(qR x).length<=dG x:=by
 refine Tm.ind (p:=fun x=>(qR x).length<=dG x) ?_ x
 intro k i n a ih
 have key:∀ l:List Tm,(∀ y ∈ l,(qR y).length<=dG y)->(dL l).length<=bw l:=by
  intro l
  induction l with
  |nil=>intro _;simp [dL,bw]
  |cons y l Fj =>
   intro h
   rw [dL,bw,List.length_append]
   have h1:=h y (by simp)
   have h2:=Fj fun z hz=>h z (by simp [hz])
   omega
 have hk:=key a ih
 rw [qR,dG]
 split
 ·split<;>simp
 ·split
  ·omega
  ·simp
theorem pE:∀ l:List Tm,(dL l).length<=bw l
 |[]=>by simp [dL,bw]
 |x::l=>by
  rw [dL,bw,List.length_append]
  have h1:=Kd x
  have h2:=pE l
  omega
theorem By (l:List Tm):(varsOf l).length<=bw l:=Nat.le_trans (xu _ _) (pE l)
section
variable {w0:World}{ρ:Hd}
def gok (x:Gl):Prop:=t_ x.a/\x.n.size<=1099511627776
theorem Ya {a:List Tm}(h:t_ a):(dL a).length<=1099511627776:=Nat.le_trans (pE a) h.2
end
end
section
set_option maxRecDepth 100000
attribute [local irreducible] ah aK ae aa
end
section
set_option maxRecDepth 100000
attribute [local irreducible] ah aK ae aa
end
section
set_option maxRecDepth 100000
attribute [local irreducible] ah aK ae aa
end
section
set_option maxRecDepth 100000
attribute [local irreducible] ah aK ae aa
end
def kz (m:Nat):List (List AV)->Bool
 |[]=>true
 |r::l=>match Nat.beq r.length m with|true=>kz m l|false=>false
theorem fO {m:Nat}:∀ {l:List (List AV)},kz m l=true->∀ r ∈ l,r.length=m
 |[],_,r,h=>by cases h
 |b::l,hp,r,h=>by
  simp only [kz] at hp
  split at hp
  ·rename_i hb
   rcases List.mem_cons.1 h with rfl|h
   ·exact Nat.eq_of_beq_eq_true hb
   ·exact fO hp r h
  ·cases hp
def Ke (op:BinOp) (k:IntKind) (a:Int) (k':IntKind) (b:Int):Option Int:=match op with
 |.shl=>match decide (b < 0) with
  |false=>some (k.wrap (a*2 ^ (min b.toNat k.bits)))
  |true=>none
 |.shr=>match decide (b < 0) with
  |false=>some (a.fdiv (2 ^ (min b.toNat k.bits)))
  |true=>none
 |.and=>match decide (k=k') with|true=>some (k.wrap (BitVec.ofInt k.bits a &&& BitVec.ofInt k.bits b).toNat)|false=>none
 |.or=>match decide (k=k') with|true=>some (k.wrap (BitVec.ofInt k.bits a ||| BitVec.ofInt k.bits b).toNat)|false=>none
 |.xor=>match decide (k=k') with|true=>some (k.wrap (BitVec.ofInt k.bits a ^^^ BitVec.ofInt k.bits b).toNat)|false=>none
 |.andNot=>match decide (k=k') with|true=>some (k.wrap (BitVec.ofInt k.bits a &&& ~~~BitVec.ofInt k.bits b).toNat)|false=>none
 |.quo=>match decide (k=k'),decide (b=0) with|true,false=>some (k.wrap (a.tdiv b))|_,_=>none
 |.rem=>match decide (k=k'),decide (b=0) with|true,false=>some (a.tmod b)|_,_=>none
 |_=>none
def Rq (dr:Bool) (op:BinOp) (bk:BK) (y:QO) (a b:AV):Option AV :=
 match JJ op bk a b with
 |some e=>some (.v (.bool e))
 |none=>match a,b with
  |.v (.int k i),.v (.int k' j)=>match arith op i j,decide (k=k') with
   |some c,true=>some (.v (.int k (k.wrap c)))
   |some _,false=>none
   |none,_=>match Ke op k i k' j with
    |some c=>some (.v (.int k c))
    |none=>none
  |.v (.string s),.v (.string t)=>match op,Nat.ble (s.size+t.size) 9223372036854775807 with
   |.add,true=>some (.v (.string (s++t)))
   |_,_=>none
  |a,_=>match bk,y with
   |.p,.c (.v (.pointer none))=>match F5 a with
    |some b=>match CN op b with
     |some d=>some (.v (.bool d))
     |none=>none
    |none=>none
   |.s,.c (.sl true [])=>match xv a with
    |some b=>match CN op b with
     |some d=>some (.v (.bool d))
     |none=>none
    |none=>none
   |_,_=>none
def Rr (k:SK) (a:AV) (f:Nat->AV) (lo hi mx:Option QO):Option AV :=
 match mx with
 |none=>match k,a with
  |.str,.v (.string s)=>match l6 f lo 0,l6 f hi s.size with
   |some l,some h=>match decide (0<=l/\l<=h/\h<=s.size) with
    |true=>some (.v (.string (s.extract l.toNat h.toNat)))
    |false=>none
   |_,_=>none
  |.sl m,.sl ex rows=>match l6 f lo 0,l6 f hi rows.length with
   |some l,some h=>match decide (0<=l/\l<=h/\h<=rows.length) && kz m rows with
    |true=>some (.sl false ((rows.take h.toNat).drop l.toNat))
    |false=>none
   |_,_=>none
  |.sl m,.ob k sz off len cx=>match l6 f hi len with
   |some h=>match lo with
    |none=>match decide (0<=h/\h<=len) && Nat.beq m sz with
     |true=>some (.ob k sz off h.toNat cx)
     |false=>none
    |some x=>match x.ev f with
     |.v (.int _ l)=>match decide (0<=l/\l<=h/\h<=len) && Nat.beq m sz with
      |true=>match decide (l=h) with
       |true=>some (.sl false [])
       |false=>some (.ob k sz (off+l.toNat) (h.toNat - l.toNat) (cx.map (· - l.toNat)))
      |false=>none
     |_=>none
   |none=>none
  |_,_=>none
 |some z=>match z.ev f,hi with
  |.v (.int _ c),some y=>match y.ev f with
   |.v (.int _ h)=>match k,a with
    |.sl m,.sl ex rows=>match l6 f lo 0 with
     |some l=>match decide (0<=l/\l<=h/\h=c/\h<=rows.length) && kz m rows with
      |true=>some (.sl true ((rows.take h.toNat).drop l.toNat))
      |false=>none
     |none=>none
    |.sl m,.ob k sz off len cx=>match l6 f lo 0 with
     |some l=>match decide (l=0/\h=c/\h<=len/\0<=h) && Nat.beq m sz with
      |true=>some (.ob k sz off h.toNat (some h.toNat))
      |false=>none
     |none=>none
    |_,_=>none
   |_=>none
  |_,_=>none
def r8 (dr:Bool) (q:dp) (f:Nat->AV):Option AV :=
 match q with
 |.bin op bk x y=>Rq dr op bk y (x.ev f) (y.ev f)
 |.neg x=>match x.ev f with
  |.v (.int k a)=>some (.v (.int k (k.wrap (0 - a))))
  |_=>none
 |.conv k x=>match x.ev f with
  |.v (.int _ a)=>some (.v (.int k (k.wrap a)))
  |_=>none
 |.qL x=>match x.ev f with
  |.v (.string a)=>some (.v (.string a))
  |_=>none
 |.ny m x i=>match i.ev f with
  |.v (.int _ j)=>match x.ev f with
   |.sl _ rows=>match kz m rows with
    |true=>match idx rows j with
     |some row=>some (.ip row)
     |none=>none
    |false=>none
   |.ob k m' off len _=>match Nat.beq m' m && decide (0<=j/\j < len) with
    |true=>some (.pt k m (off+j.toNat) 0)
    |false=>none
   |_=>none
  |_=>none
 |.pK len n x i=>match i.ev f with
  |.v (.int _ j)=>match decide (0<=j/\j < len) with
   |true=>match x.ev f with
    |.ip row=>some (.ip (row.drop (j.toNat*n)))
    |.pt k sz i q=>some (.pt k sz i (q+j.toNat*n))
    |_=>none
   |false=>none
  |_=>none
 |.wD x i=>match x.ev f,i.ev f with
  |.v (.string s),.v (.int _ j)=>match idx s.data.toList j with
   |some b=>some (.v (.int .u8 b.toNat))
   |none=>none
  |_,_=>none
 |.nI len m k x i=>match x.ev f,i.ev f with
  |.agg l,.v (.int _ j)=>match decide (0<=j/\j < len) with
   |true=>oB k l (j.toNat*m)
   |false=>none
  |_,_=>none
 |.slice k x lo hi mx=>Rr k (x.ev f) f lo hi mx
 |.copy _ x y=>match x.ev f,y.ev f with
  |.sl _ [],.sl _ []=>some (.v (.int .i64 0))
  |_,_=>none
 |.len str x=>match Qq str (x.ev f) with
  |some m=>some (.v (.int .i64 m))
  |none=>match str,x.ev f with
   |false,.gr _ _ len=>some (.v (.int .i64 len))
   |_,_=>none
 |.min x y=>match x.ev f,y.ev f with
  |.v (.int k a),.v (.int k' b)=>match decide (k'=k) with
   |true=>some (.v (.int k (min a b)))
   |false=>none
  |_,_=>none
 |.max x y=>match x.ev f,y.ev f with
  |.v (.int k a),.v (.int k' b)=>match decide (k'=k) with
   |true=>some (.v (.int k (max a b)))
   |false=>none
  |_,_=>none
 |q=>match CP q with
  |true=>match iJ q f ad.none_ with
   |some (r,_)=>some r
   |none=>none
  |false=>none
section
variable {P:Program}{w0:World}{o:Op}{α:AA}{S S':ad}{r:AV}{dr:Bool}
theorem I2 {k:SK}{x:QO}{lo hi mx:Option QO}(h:res P.toTables o=some (.slice k x lo hi mx)):∃ t u l1 h1 m1,o=.slice t u l1 h1 m1/\x=qo u/\lo=l1.map qo/\hi=h1.map qo/\mx=m1.map qo /\
  ((k=.str/\P.underlying t=some .string)\/∃ e m,k=.sl m/\P.underlying t=some (.slice e)/\cP P e=some m):=by
 cases o with
 |slice t u l1 h1 m1 =>
  simp only [res,bF,dJ] at h
  split at h
  ·rename_i hu
   simp only [oI_,dp.slice.injEq] at h
   obtain⟨rfl,rfl,rfl,rfl,rfl⟩:=h
   exact⟨_,_,_,_,_,rfl,rfl,rfl,rfl,rfl,.inl ⟨rfl,hu⟩⟩
  ·rename_i e hu
   split at h
   ·rename_i m hs
    simp only [oI_,dp.slice.injEq] at h
    obtain⟨rfl,rfl,rfl,rfl,rfl⟩:=h
    exact⟨_,_,_,_,_,rfl,rfl,rfl,rfl,rfl,.inr ⟨_,_,rfl,hu,hs⟩⟩
   ·cases h
  ·cases h
 |_ =>
  simp only [res] at h
  repeat' split at h
  all_goals cases h
theorem ae.ajX {k:SK}{x:QO}{lo hi mx:Option QO}{r:AV}(h:∀ t,((k=.str/\P.underlying t=some .string)\/∃ e m,k=.sl m/\P.underlying t=some (.slice e)/\cP P e=some m) ->
  kZ P t (rB r S) S (x.ev α.tm) (lo.map (·.ev α.tm)) (hi.map (·.ev α.tm)) (mx.map (·.ev α.tm))):ae P w0 dr (.slice k x lo hi mx) α S r S:=by
 refine ae.of rfl fun o hr=>?_
 obtain⟨t,u,l1,h1,m1,rfl,rfl,rfl,rfl,rfl,ht⟩:=I2 hr
 have h:=h t ht
 have e:∀ z:Option Operand,(z.map qo).map (·.ev α.tm)=z.map α.ev:=fun z=>by
  cases z with
  |none=>rfl
  |some z=>simp [aJ]
 rw [e,e,e,aJ] at h
 exact h
theorem mj {f:Nat->AV}{lo:Option QO}{d i:Int}(h:l6 f lo d=some i):kh (lo.map (·.ev f)) d=some i:=by
 cases lo with
 |none=>exact h
 |some x =>
  simp only [l6] at h
  simp only [Option.map_some,kh]
  split at h
  ·rename_i e;rw [e];exact h
  ·cases h
theorem Kf {k:SK}{x:QO}{f:Nat->AV}{df:List DE}{lo hi mx:Option QO}{r:AV}(h:Rr k (x.ev f) f lo hi mx=some r):ae P w0 dr (.slice k x lo hi mx) ⟨f,df⟩ S r S:=by
 refine ae.ajX fun t ht=>?_
 simp only
 unfold Rr at h
 split at h
 ·simp only [Option.map_none]
  split at h
  ·rename_i s hs
   split at h
   ·rename_i l hh h1 h2
    split at h
    ·rename_i hd
     have hd:=of_decide_eq_true hd
     obtain rfl:=oJ_ h
     rcases ht with ⟨_,ht⟩|⟨e,m,hk,_⟩
     ·rw [hs]
      simp only [kZ,ht,mj h1,mj h2]
      exact⟨hd.1,hd.2.1,hd.2.2,rfl,rfl⟩
     ·cases hk
    ·cases h
   ·cases h
  ·rename_i m ex rows hs
   split at h
   ·rename_i l hh h1 h2
    split at h
    ·rename_i hd
     simp only [Bool.and_eq_true] at hd
     have eu:=of_decide_eq_true hd.1
     have gK:=fO hd.2
     obtain rfl:=oJ_ h
     rcases ht with ⟨hk,_⟩|⟨e,m',hk,ht,hz⟩
     ·cases hk
     ·injection hk with hk
      subst hk
      rw [hs]
      simp only [kZ,ht,mj h1,mj h2,hz]
      exact⟨fun row hr=>by rw [gK row hr],rfl,eu.1,eu.2.1,eu.2.2,rfl,rfl⟩
    ·cases h
   ·cases h
  ·rename_i m kk sz off len cx hs
   split at h
   ·rename_i hh h2
    split at h
    ·split at h
     ·rename_i hd
      simp only [Bool.and_eq_true] at hd
      have eu:=of_decide_eq_true hd.1
      have gK:=Nat.eq_of_beq_eq_true hd.2
      obtain rfl:=oJ_ h
      rcases ht with ⟨hk,_⟩|⟨e,m',hk,ht,hz⟩
      ·cases hk
      ·injection hk with hk
       subst hk
       rw [hs]
       simp only [kZ,ht,mj h2,hz,Option.map_none]
       exact⟨by rw [gK],eu.1,eu.2,rfl,rfl⟩
     ·cases h
    ·rename_i y
     split at h
     ·rename_i ik l hl
      split at h
      ·rename_i hd
       simp only [Bool.and_eq_true] at hd
       have eu:=of_decide_eq_true hd.1
       have gK:=Nat.eq_of_beq_eq_true hd.2
       rcases ht with ⟨hk,_⟩|⟨e,m',hk,ht,hz⟩
       ·cases hk
       ·injection hk with hk
        subst hk
        rw [hs]
        simp only [kZ,ht,mj h2,hz,Option.map_some,hl]
        split at h
        ·rename_i he
         obtain rfl:=oJ_ h
         have he:=of_decide_eq_true he
         exact⟨by rw [gK],eu.1,eu.2.1,eu.2.2,fun _=>⟨rfl,rfl⟩,fun aA=>by omega⟩
        ·rename_i he
         obtain rfl:=oJ_ h
         have he:=of_decide_eq_false he
         exact⟨by rw [gK],eu.1,eu.2.1,eu.2.2,fun hq=>absurd hq he,fun _=>⟨rfl,rfl⟩⟩
      ·cases h
     ·cases h
   ·cases h
  ·cases h
 ·rename_i z
  simp only [Option.map_some]
  split at h
  ·rename_i ik c y hz
   split at h
   ·rename_i ik' hh hy
    split at h
    ·rename_i m ex rows hs
     split at h
     ·rename_i l h1
      split at h
      ·rename_i hd
       simp only [Bool.and_eq_true] at hd
       have eu:=of_decide_eq_true hd.1
       have gK:=fO hd.2
       obtain rfl:=oJ_ h
       rcases ht with ⟨hk,_⟩|⟨e,m',hk,ht,qB⟩
       ·cases hk
       ·injection hk with hk
        subst hk
        rw [hs,hz]
        simp only [kZ,ht,mj h1,qB,Option.map_some,hy]
        exact⟨fun row hr=>by rw [gK row hr],rfl,eu.1,eu.2.1,eu.2.2.1,eu.2.2.2,rfl,rfl⟩
      ·cases h
     ·cases h
    ·rename_i m kk sz off len cx hs
     split at h
     ·rename_i l h1
      split at h
      ·rename_i hd
       simp only [Bool.and_eq_true] at hd
       have eu:=of_decide_eq_true hd.1
       have gK:=Nat.eq_of_beq_eq_true hd.2
       obtain rfl:=oJ_ h
       rcases ht with ⟨hk,_⟩|⟨e,m',hk,ht,qB⟩
       ·cases hk
       ·injection hk with hk
        subst hk
        rw [hs,hz]
        simp only [kZ,ht,mj h1,qB,Option.map_some,hy]
        exact⟨by rw [gK],eu.1,eu.2.1,eu.2.2.1,eu.2.2.2,rfl,rfl⟩
      ·cases h
     ·cases h
    ·cases h
   ·cases h
  ·cases h
theorem ae.ajY {op:BinOp}{bk:BK}{x y:QO}{a b r:Value}(hx:x.ev α.tm=.v a) (hy:y.ev α.tm=.v b) (h:∀ (t:TypeId) (u v:Operand) (w:World),(eqGuard op t u v a b).run P w=.ok () w/\(binOp op t a b).run P w=.ok r w):ae P w0 dr (.bin op bk x y) α S (.v r) S:=by
 have key:∀ {n:Nat}{o:Oper}(β:AA) (T:ad),res P.toTables o.op=some (.bin op bk x y)->x.ev β.tm=.v a->y.ev β.tm=.v b->ef P w0 n o β T (.v r) T:=by
  intro n o β T hr hx hy
  obtain⟨t,u,v,s,ho,rfl,rfl,_⟩:=q8 hr
  rw [aJ] at hx hy
  refine aS.ops (aS.quiet fun A g c w hS hA=>⟨r,?_,.v⟩) fun c e=>by rw [ho] at e;cases e
  have e1:=hA.ev u
  have e2:=hA.ev v
  rw [hx] at e1
  rw [hy] at e2
  simp only [execOp,ho,bO e1,bO e2,Sem.run_bind,(h t u v w).1,Result.andThen_ok,(h t u v w).2,Sem.run_pure]
 cases dr with
 |false=>exact fun n o hr=>key α S hr hx hy
 |true =>
  intro n o hr
  obtain⟨t,u,v,s,ho,hu,hv,_⟩:=q8 hr
  have hk:∀ z ∈ o.op.operands,(α.only (cB o)).ev z=α.ev z:=fun z hz=>ew fun t e=>ee (by rw [<-e];exact hz)
  have h1:(α.only (cB o)).ev u=α.ev u:=hk u (by rw [ho];simp [Op.operands])
  have h2:(α.only (cB o)).ev v=α.ev v:=hk v (by rw [ho];simp [Op.operands])
  have h3:∀ T,ef P w0 n o (α.only (cB o)) T (.v r) T:=fun T=>key _ T hr (by rw [hu,aJ,h1,<-aJ,<-hu];exact hx) (by rw [hv,aJ,h2,<-aJ,<-hv];exact hy)
  exact⟨h3 S,fun _=>⟨rfl,h3⟩,fun _=>rfl⟩
theorem OQ {op:BinOp}{k k':IntKind}{a b c:Int}(h:Ke op k a k' b=some c) (t:TypeId) (u v:Operand) (w:World):(eqGuard op t u v (.int k a) (.int k' b)).run P w=.ok () w/\(binOp op t (.int k a) (.int k' b)).run P w=.ok (.int k c) w:=by
 unfold Ke at h
 split at h
 ·split at h
  ·rename_i hb
   have hb:=of_decide_eq_false hb
   obtain rfl:=oJ_ h
   exact⟨rfl,by simp [binOp,Op.shift,hb]⟩
  ·cases h
 ·split at h
  ·rename_i hb
   have hb:=of_decide_eq_false hb
   obtain rfl:=oJ_ h
   exact⟨rfl,by simp [binOp,Op.shift,hb]⟩
  ·cases h
 ·split at h
  ·rename_i hk
   have hk:=of_decide_eq_true hk
   subst hk
   obtain rfl:=oJ_ h
   exact⟨rfl,by simp [binOp,Op.intBits]⟩
  ·cases h
 ·split at h
  ·rename_i hk
   have hk:=of_decide_eq_true hk
   subst hk
   obtain rfl:=oJ_ h
   exact⟨rfl,by simp [binOp,Op.intBits]⟩
  ·cases h
 ·split at h
  ·rename_i hk
   have hk:=of_decide_eq_true hk
   subst hk
   obtain rfl:=oJ_ h
   exact⟨rfl,by simp [binOp,Op.intBits]⟩
  ·cases h
 ·split at h
  ·rename_i hk
   have hk:=of_decide_eq_true hk
   subst hk
   obtain rfl:=oJ_ h
   exact⟨rfl,by simp [binOp,Op.intBits]⟩
  ·cases h
 ·split at h
  ·rename_i hk hb
   have hk:=of_decide_eq_true hk
   have hb:=of_decide_eq_false hb
   subst hk
   obtain rfl:=oJ_ h
   exact⟨rfl,by simp [binOp,Op.intDiv,hb]⟩
  ·cases h
 ·split at h
  ·rename_i hk hb
   have hk:=of_decide_eq_true hk
   have hb:=of_decide_eq_false hb
   subst hk
   obtain rfl:=oJ_ h
   exact⟨rfl,by simp [binOp,Op.intDiv,hb]⟩
  ·cases h
 ·cases h
theorem Kg {op:BinOp}{bk:BK}{x y:QO}{f:Nat->AV}{df:List DE}{r:AV}(h:Rq dr op bk y (x.ev f) (y.ev f)=some r):ae P w0 dr (.bin op bk x y) ⟨f,df⟩ S r S:=by
 unfold Rq at h
 split at h
 ·rename_i e he
  obtain rfl:=oJ_ h
  exact ae.bit he
 ·split at h
  ·rename_i k i k' j h1 h2
   split at h
   ·rename_i c hc hk
    have hk:=of_decide_eq_true hk
    subst hk
    obtain rfl:=oJ_ h
    exact ae.YY h1 h2 hc
   ·cases h
   ·split at h
    ·rename_i c hc
     obtain rfl:=oJ_ h
     exact ae.ajY h1 h2 (OQ hc)
    ·cases h
  ·rename_i s t h1 h2
   split at h
   ·rename_i hl
    obtain rfl:=oJ_ h
    exact ae.cat h1 h2 (Nat.le_of_ble_eq_true (by assumption))
   ·cases h
  ·split at h
   ·split at h
    ·rename_i b hb
     split at h
     ·rename_i d hd
      obtain rfl:=oJ_ h
      exact ae.ajU hb hd
     ·cases h
    ·cases h
   ·split at h
    ·rename_i b hb
     split at h
     ·rename_i d hd
      obtain rfl:=oJ_ h
      exact ae.nil hb hd
     ·cases h
    ·cases h
   ·cases h
theorem ae.ajZ {len n:Nat}{x i:QO}{row:List AV}{ik:IntKind}{j:Int}(h1:x.ev α.tm=.ip row) (h2:i.ev α.tm=.v (.int ik j)) (h3:0<=j) (h4:j < len):ae P w0 dr (.pK len n x i) α S (.ip (row.drop (j.toNat*n))) S:=by
 refine ae.of rfl fun o hr=>?_
 cases o<;>simp only [res,bF,dJ] at hr<;>(repeat' split at hr)<;>(try cases hr)
 rw [aJ] at h1 h2
 simp only [aX,h1,h2,‹P.underlying _=_›,‹cP P _=_›]
 exact⟨h3,h4,rfl,rfl⟩
theorem ae.Kh {len n:Nat}{x i:QO}{k sz p q:Nat}{ik:IntKind}{j:Int}(h1:x.ev α.tm=.pt k sz p q) (h2:i.ev α.tm=.v (.int ik j)) (h3:0<=j) (h4:j < len):ae P w0 dr (.pK len n x i) α S (.pt k sz p (q+j.toNat*n)) S:=by
 refine ae.of rfl fun o hr=>?_
 cases o<;>simp only [res,bF,dJ] at hr<;>(repeat' split at hr)<;>(try cases hr)
 rw [aJ] at h1 h2
 simp only [aX,h1,h2,‹P.underlying _=_›,‹cP P _=_›]
 exact⟨h3,h4,rfl,rfl⟩
theorem D4 {q:dp}{f:Nat->AV}{df:List DE}{r:AV}(h:r8 dr q f=some r):ae P w0 dr q ⟨f,df⟩ S r S:=by
 have quiet:∀ {q:dp},(match CP q with|true=>(match iJ q f ad.none_ with|some (r,_)=>some r|none=>none)|false=>none)=some r->ae P w0 dr q ⟨f,df⟩ S r S:=fun {q} h=>by
  split at h
  ·rename_i hp
   split at h
   ·rename_i r' S1 hq
    obtain rfl:=oJ_ h
    exact ae.quiet (F7 hp hq S)
   ·cases h
  ·cases h
 cases q with
 |bin op bk x y=>exact Kg h
 |neg x =>
  simp only [r8] at h
  split at h
  ·rename_i hx;obtain rfl:=oJ_ h;exact ae.neg hx
  ·cases h
 |conv k x =>
  simp only [r8] at h
  split at h
  ·rename_i hx;obtain rfl:=oJ_ h;exact ae.conv hx
  ·cases h
 |qL x =>
  simp only [r8] at h
  split at h
  ·rename_i hx;obtain rfl:=oJ_ h;exact ae.qL hx
  ·cases h
 |copy sz x y =>
  simp only [r8] at h
  split at h
  ·rename_i hx hy;obtain rfl:=oJ_ h;exact ae.ajW hx hy
  ·cases h
 |ny m x i =>
  simp only [r8] at h
  split at h
  ·rename_i ik j hi
   split at h
   ·rename_i ex rows hx
    split at h
    ·rename_i ha
     split at h
     ·rename_i row hr
      obtain rfl:=oJ_ h
      exact ae.ind hx hi hr (fO ha)
     ·cases h
    ·cases h
   ·rename_i k m' off len cx hx
    split at h
    ·rename_i hb
     simp only [Bool.and_eq_true] at hb
     have h1:=Nat.eq_of_beq_eq_true hb.1
     have h2:=of_decide_eq_true hb.2
     subst h1
     obtain rfl:=oJ_ h
     exact ae.YZ hx hi h2.1 h2.2
    ·cases h
   ·cases h
  ·cases h
 |pK len n x i =>
  simp only [r8] at h
  split at h
  ·rename_i ik j hi
   split at h
   ·rename_i hd
    have hd:=of_decide_eq_true hd
    split at h
    ·rename_i row hx;obtain rfl:=oJ_ h;exact ae.ajZ hx hi hd.1 hd.2
    ·rename_i k sz p q hx;obtain rfl:=oJ_ h;exact ae.Kh hx hi hd.1 hd.2
    ·cases h
   ·cases h
  ·cases h
 |wD x i =>
  simp only [r8] at h
  split at h
  ·rename_i hx hi
   split at h
   ·rename_i b hb;obtain rfl:=oJ_ h;exact ae.Qr hx hi hb
   ·cases h
  ·cases h
 |nI len m k x i =>
  simp only [r8] at h
  split at h
  ·rename_i hx hi
   split at h
   ·rename_i hd
    have hd:=of_decide_eq_true hd
    exact ae.nI hx hi h hd.1 hd.2
   ·cases h
  ·cases h
 |slice k x lo hi mx=>exact Kf h
 |len str x =>
  simp only [r8] at h
  split at h
  ·rename_i m hm;obtain rfl:=oJ_ h;exact ae.len hm
  ·split at h
   ·obtain rfl:=oJ_ h;exact ae.qk (by assumption)
   ·cases h
 |min x y =>
  simp only [r8] at h
  split at h
  ·rename_i k a k' b hx hy
   split at h
   ·rename_i hd
    have hd:=of_decide_eq_true hd
    subst hd
    obtain rfl:=oJ_ h
    exact ae.min hx hy
   ·cases h
  ·cases h
 |max x y =>
  simp only [r8] at h
  split at h
  ·rename_i k a k' b hx hy
   split at h
   ·rename_i hd
    have hd:=of_decide_eq_true hd
    subst hd
    obtain rfl:=oJ_ h
    exact ae.max hx hy
   ·cases h
  ·cases h
 |_=>exact quiet h
end
section
variable {P:Program}{w0:World}{n:Nat}{α:AA}{S S':ad}{r:AV}
def Ki (P:Program) (t:Target):Prop:=∃ (dh:Array TypeId) (ty:TypeId) (cs:Array Bool) (mt kt et:TypeId) (kk:IntKind),t=.builtin .delete dh ty cs/\dh[0]?=some mt/\P.underlying mt=some (.map kt et)/\P.underlying kt=some (.int kk)
theorem OR {A:Nat->Prop}{g:Gh}{w:World}{t:Target}{k:Nat}{es:List (Value × AV)}{m:Int}(hS:St w0 A g S w) (ht:Ki P t) (hk:S.get k=some (.mp es)) (hi:kN es) (ha:g.al k) :
  ∃ w',(invoke t #[.map (some (g.ob k)),.int .i64 m]).run P w=.ok (.value (.tuple #[])) w'/\St w0 A g (S.set k (some (.mp (CQ es m)))) w'/\Ext A g w g w':=by
 obtain⟨dh,ty,cs,mt,kt,et,kk,rfl,h0,h1,h2⟩:=ht
 obtain⟨_,_,entries,clock,p1,p2,p3⟩:=hS.bR k _ hk ha
 have hf:=xr p2 p3 hi (kk:=kk) m
 have h2':∀ b,(Instr.checkKey b 10000 kt (.int .i64 m)).run P w=.ok () w:=fun b=>run_checkKey h2 b m
 unfold CQ
 cases hj:iC es m with
 |none =>
  rw [hj] at hf
  obtain⟨w',q1,q2,q3⟩:=hS.ue (P:=P) hk ha p1 (entries':=entries) (clock':=clock) (es':=es) p2 p3
  refine⟨w',?_,q2,q3⟩
  have xA:(Instr.findKey kt (.int .i64 m) entries.toList).run P w=.ok none w:=run_findKey h2 hf
  simp [invoke,builtin,Builtin.delete_,h0,Sem.run_bind,run_underlying h1,en p1,h2',xA,q1]
 |some j =>
  obtain⟨a,haj⟩:=rp hi hj
  obtain⟨e,r1,r2,r3⟩:=p3 j _ a haj
  rw [hj] at hf
  simp only [r1,Option.map_some] at hf
  have gp:j < entries.size:=(Array.getElem?_eq_some_iff.1 r1).1
  have her:entries.eraseIdxIfInBounds j=entries.eraseIdx j gp:=by simp [Array.eraseIdxIfInBounds,gp]
  obtain⟨w',q1,q2,q3⟩:=hS.ue (P:=P) hk ha p1 (entries':=entries.eraseIdxIfInBounds j) (clock':=clock) (es':=es.eraseIdx j) (by
   rw [her,Array.size_eraseIdx,List.length_eraseIdx,if_pos (by omega),p2]) (fun i key a' fA=>by
   rw [List.getElem?_eraseIdx] at fA
   rw [her,Array.getElem?_eraseIdx]
   split at fA
   ·rename_i c
    rw [if_pos c]
    exact p3 i key a' fA
   ·rename_i c
    rw [if_neg c]
    exact p3 (i+1) key a' fA)
  refine⟨w',?_,q2,q3⟩
  have xA:(Instr.findKey kt (.int .i64 m) entries.toList).run P w=.ok (some (j,e.val)) w:=run_findKey h2 hf
  simp [invoke,builtin,Builtin.delete_,h0,Sem.run_bind,run_underlying h1,en p1,h2',xA,q1]
theorem HV {fr:Frame}{cs:List Frame}{w w':World}{d:Deferred}{ds:List Deferred}{b:Builtin}{dh:Array TypeId}{ty:TypeId}{consts:Array Bool}{v:Value}(hm:fr.mode ≠ .run) (hd:fr.defers=d::ds) (ht:d.target=.builtin b dh ty consts)
  (hi:(invoke d.target d.args).run P w=.ok (.value v) w'):step P (lone fr cs w)=.next (lone { fr with defers:=ds } cs w'):=by
 obtain⟨t,a⟩:=d
 simp only at ht hi
 subst ht
 refine step_lone_go ?_
 cases Kj:fr.mode with
 |run=>exact absurd Kj hm
 |returning=>simp [stepG,unwind,callDeferred,Kj,hd,Sem.runT_eq,hi,GStep.bare_after]
 |panicking chain=>simp [stepG,unwind,callDeferred,Kj,hd,Sem.runT_eq,hi,GStep.bare_after]
def uk (F:Fence) (n:Nat) (P:Program) (fn:Func) (tmps:Array Value) (R:Ending->World->Prop):List Deferred->World->Prop
 |[],w=>LeavesIn F n P fn tmps R [] .returning w
 |d::ds,w=>∃ w',((∃ r,d.target=.collected r/\(Instr.takeDeferred r).run P w=.ok [] w')\/(∃ b dh ty cs v,d.target=.builtin b dh ty cs/\(invoke d.target d.args).run P w=.ok (.value v) w'))/\uk F n P fn tmps R ds w'
theorem v7 {F:Fence}{n:Nat}{fn:Func}{tmps:Array Value}{R:Ending->World->Prop}:∀ (ds:List Deferred) (w:World) (fr:Frame) (cs:List Frame),fr.mode=.returning->fr.defers=ds->fr.tmps=tmps->P.funcs[fr.fn]?=some fn->fr.kind=.normal->F.fn fr.fn->F.room (cs.length+1+n) ->
  uk F n P fn tmps R ds w->∃ e w' xB,R e w'/\ComesIn (Machine.fenced P F) P (lone fr cs w) (lone xB cs w') e/\xB.fn=fr.fn/\xB.leaving P w' e:=by
 intro ds
 induction ds with
 |nil=>exact fun w fr cs hu hd ht hf hk hb j8 h=>leaves_stepsIn [] .returning w fr cs hu hd ht hf hk hb j8 h
 |cons d ds ih =>
  intro w fr cs hu hd ht hf hk hb j8 h
  obtain⟨w',h,nD⟩:=h
  have bY:fr.mode ≠ .run:=by rw [hu];simp
  rcases h with ⟨r,F8,adQ⟩|⟨b,dh,ty,consts,v,F8,hinv⟩
  ·have h1:=step_collected (cs:=cs) bY hd F8 adQ
   have i1:(lone fr cs w).fenced P F:=fenced_out hb j8 bY hd (fun g hg=>by rw [F8] at hg;simp [Target.leads] at hg)
   obtain⟨e',jX,xB,Ir,eD,Rs,l8⟩:=ih w' { fr with defers:=[]++ds } cs hu rfl ht hf hk hb j8 nD
   exact⟨e',jX,xB,Ir,ComesIn.of_steps (.one i1 h1) eD,Rs,l8⟩
  ·have h1:=HV (cs:=cs) bY hd F8 hinv
   have i1:(lone fr cs w).fenced P F:=fenced_out hb j8 bY hd (fun g hg=>by rw [F8] at hg;simp [Target.leads] at hg)
   obtain⟨e',jX,xB,Ir,eD,Rs,l8⟩:=ih w' { fr with defers:=ds } cs hu rfl ht hf hk hb j8 nD
   exact⟨e',jX,xB,Ir,ComesIn.of_steps (.one i1 h1) eD,Rs,l8⟩
def OS (F:Fence) (n:Nat) (P:Program) (fn:Func) (R:Ending->World->Prop):Exit->Act->World->Prop
 |.normal,a,w|.ret,a,w=>uk F n P fn a.tmps R a.defers w
 |_,_,_=>False
theorem CR {F:Fence}{n:Nat}{f:FuncId}{fn:Func}{c:Code}{args:Array Value}{w:World}{R:Ending->World->Prop}
  (hf:P.funcs[f]?=some fn) (hb:fn.body=some c) (hF:F.fn f)
  (h:c.wpIn F n P (OS F n P fn R) { tmps:=args++Array.replicate (fn.ntmps - args.size) undef,defers:=[] } w) (kY:F.round=none:=by rfl):CallsIn F n P f args w R:=by
 refine⟨hF,fun cs hr=>?_⟩
 let b:Frame:={ (default:Frame) with fn:=f,kind:=.normal,roundOf:=none }
 have wQ:Frame.enter P f args .normal =
   b.atR { tmps:=args++Array.replicate (fn.ntmps - args.size) undef,defers:=[] } [.code c]:=by
  simp [Frame.enter,Frame.atR,hf,hb,b]
 obtain⟨e,a',w',hq,kg⟩:=h b [] cs kY.symm hF hr
 rw [<-wQ] at kg
 cases e with
 |normal =>
  obtain⟨e',jX,xB,hR,hs,wR,hl⟩:=v7 a'.defers w' { b.atR a' [] with mode:=.returning } cs rfl rfl rfl hf rfl hF hr hq
  exact⟨e',jX,xB,hR,ComesIn.of_steps (StepsIn.trans kg (.one (fenced_calm (fr:=b.atR a' []) hF hr rfl) (stepR_end rfl))) hs,wR,hl⟩
 |ret =>
  obtain⟨todo,adR⟩:=kg.1 rfl
  obtain⟨e',jX,xB,hR,hs,wR,hl⟩:=v7 a'.defers w' { b.atR a' todo with mode:=.returning } cs rfl rfl rfl hf rfl hF hr hq
  exact⟨e',jX,xB,hR,ComesIn.of_steps adR hs,wR,hl⟩
 |panic chain=>exact hq.elim
 |exit id=>exact hq.elim
 |goto l=>exact hq.elim
 |outgrown=>exact hq.elim
inductive um (P:Program):ad->List DE->ad->Prop
 |nil {S:ad}:um P S [] S
 |ob {S S':ad}{k:Nat}{ks:List DE}(hk:S.get k=some .df) (h:um P (S.set k none) ks S'):um P S (.ob k::ks) S'
 |del {S S':ad}{t:Target}{k:Nat}{i:Int}{ks:List DE}{es:List (Value × AV)}(ht:Ki P t) (hk:S.get k=some (.mp es)) (he:kN es) (h:um P (S.set k (some (.mp (CQ es i)))) ks S'):um P S (.del t k i::ks) S'
theorem OT {F:Fence}{m:Nat}{A:Nat->Prop}{fn:Func}{tmps:Array Value}{R:Ending->World->Prop}{ks:List DE}{S S':ad}(hL:um P S ks S'):∀ {g:Gh}{w:World},St w0 A g S w->(∀ d ∈ ks,g.al d.k) ->
  (∀ w',St w0 A g S' w'->Ext A g w g w'->∃ v,(results fn tmps).run P w'=.ok v w'/\R (.returned v) w')->uk F m P fn tmps R (ks.map (FP g.ob)) w:=by
 induction hL with
 |nil=>exact fun hS _ h=>h _ hS (Ext.refl ..)
 |ob hk _ ih =>
  intro g w hS ha h
  obtain⟨w',h1,h2,h3⟩:=hS.take (P:=P) hk (ha _ (.head _))
  exact⟨w',.inl ⟨_,rfl,h1⟩,ih h3 (fun d hd=>ha d (.tail _ hd)) fun jX h4 h5=>h jX h4 (h2.trans h5)⟩
 |@del S S' t k i ks es ht hk he _ ih =>
  intro g w hS ha h
  obtain⟨w',h1,h2,h3⟩:=OR (m:=i) hS ht hk he (ha _ (.head _))
  obtain⟨dh,ty,cs,mt,kt,et,kk,rfl,_⟩:=ht
  exact⟨w',.inr ⟨_,_,_,_,_,rfl,h1⟩,ih h2 (fun d hd=>ha d (.tail _ hd)) fun jX h4 h5=>h jX h4 (h3.trans h5)⟩
def Rt (P:Program) (qs:List QR) (R:AV->ad->Prop) (ex:Exit) (α:AA) (S:ad):Prop :=
 A0 ex=true/\∃ S' r,um P S α.df S'/\(match lO α.tm S' qs with|some [a]=>some a|some l=>some (.aE l)|none=>none)=some r/\R r S'
theorem aT.aj0 {f:FuncId}{q:QC × List QR}{args:List AV}{R:AV->ad->Prop}(F:aT P f q n) (aY:args.length<=n) (h:aa P w0 false n (Rt P q.2 R) (.run q.1 []) ⟨j_ args,[]⟩ S):∃ r S',aK P w0 f args S r S'/\R r S':=by
 obtain⟨fn,c,hf,hb,hn,hr,hq,hd,hc⟩:=F.out
 obtain⟨ex,aw,S1,CS,he,S',r,hL,iR,hR⟩:=h c hq hd
 have adS:uW P fn.results aw S'=some r:=by
  unfold uW
  split at iR
  ·rename_i a sG
   obtain rfl:=oJ_ iR
   rw [zX hr sG]
  ·rename_i l a_ sG
   obtain rfl:=oJ_ iR
   rw [zX hr sG]
   split
   ·rename_i e;injection e with e;subst e;exact (a_ _ rfl).elim
   ·rename_i e;injection e with e;subst e;rfl
   ·rename_i e;cases e
  ·cases iR
 refine⟨r,S',⟨hc,fun F m A g aQ w hF hS hA=>?_⟩,hR⟩
 have key:CallsIn F.plain m P f aQ w fun e w'=>∃ v g',e=.returned v/\aH g' w' r v/\St w0 A g' S' w'/\Ext A g w g' w':=by
  refine CR hf hb (hF.1 f) ?_ rfl
  rw [hn]
  refine wpIn_mono (CS F.plain m A g _ w hF.plain rfl hS (vh hA aY)) ?_
  rintro ex' a' w' ⟨rfl,g',h1,h2,h3⟩
  have hl:uk F.plain m P fn a'.tmps (fun e w'=>∃ v g',e=.returned v/\aH g' w' r v/\St w0 A g' S' w'/\Ext A g w g' w') a'.defers w':=by
   rw [h2.df]
   refine OT hL h1 h2.rI fun jX h4 h5=>?_
   obtain⟨v,h6,h7⟩:=Bz h4 (h2.later h5.toLater) adS
   exact⟨v,h6,v,g',rfl,h7,h4,h3.trans h5⟩
  cases ex' with
  |normal=>exact hl
  |ret=>exact hl
  |_=>cases he
 exact key
theorem aT.adT {f:FuncId}{args:List AV}{r':AV}{q:QC × List QR}(B N:Nat) (so:List (Nat × Ob)) (F:aT P f q n) (aY:args.length<=n) (hn:Nat.ble S.nx B=true) (hb:Nat.ble B N=true)
  (h:aa P w0 false n (Rt P q.2 fun r S'=>∃ m,il B m N r r'/\gj B m N S' so/\nz B m (so.map (·.1))=true) (.run q.1 []) ⟨j_ args,[]⟩ S):aK P w0 f args S r' (au so N):=by
 obtain⟨r,S',h1,m,h2,h3,h4⟩:=aT.aj0 F aY h
 exact h1.canon hn h2 h3 h4 hb
end
end Go.Proofs.YtgjfgekaclobaaaGreat
