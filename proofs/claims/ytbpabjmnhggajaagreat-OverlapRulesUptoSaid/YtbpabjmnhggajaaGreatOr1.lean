import Derived.Below
import Derived.CallsIn
import Derived.Laws.Cells
import Derived.Laws.NewBlocks
import Derived.Laws.Rows
import Derived.Laws.Tables
import Derived.Laws.World
import Derived.RangeFuncCalls
import Derived.RangeFuncIn
namespace Go.Proofs.YtbpabjmnhggajaaGreat
set_option linter.all false
open Go.RowKit
def aa_:=@List.mem_of_getElem?
def ac_:=@Nat.le_refl
def ad_:=@List.mem_cons
def ae_:=@List.mem_singleton
def af_:=@List.length_append
def ai_:=@List.getElem?_eq_getElem
def ak_:=@List.drop_eq_nil_of_le
def al_:=@Bool.and_eq_true
def aq_:=@Nat.le_of_ble_eq_true
def ar_:=@List.getElem?_eq_some_iff
def as_:=@List.not_mem_nil
def au_:=@Nat.lt_of_lt_of_le
def av_:=@List.mem_map
def aw_:=@List.length_cons
def ax_:=@Nat.zero_le
def ay_:=@Nat.le_trans
def az_:=@List.mem_append
def aA_:=@List.drop_of_length_le
def aB_:=@List.append_nil
def aC_:=@List.map_cons
def aD_:=@Nat.zero_add
def aE_:=@Option.map_some
def aF_:=@List.map_congr_left
def aG_:=@Array.getElem?_eq_getElem
def aH_:=@Nat.eq_of_beq_eq_true
def aI_:=@List.mem_range
def aJ_:=@Nat.add_mul
def aK_:=@List.nil_append
def aL_:=@Bool.true_and
def aM_:=@List.map_append
def aN_:=@List.length_nil
def aO_:=@Nat.mul_le_mul_right
def aP_:=@List.all_eq_true
def aQ_:=@List.take_of_length_le
def aR_:=@List.cons_append
def aS_:=@List.getElem?_map
def aT_:=@Array.getD_eq_getD_getElem?
def aU_:=@List.length_map
def aV_:=@List.length_set
def aW_:=@Nat.zero_mul
def aX_:=@Nat.lt_succ_self
def aY_:=@List.all_cons
def aZ_:=@List.length_take
def ba_:=@Option.map_eq_some_iff
def bb_:=@List.getElem?_append_left
def bc_:=@List.append_assoc
def bd_:=@Array.getElem?_toList
def be_:=@List.getElem?_append_right
def bf_:=@Int.le_refl
def bg_:=@List.map_nil
def bh_:=@Array.length_toList
def bi_:=@List.length_singleton
def bj_:=@Option.map_none
def bk_:=@Nat.sub_self
def bl_:=@List.map_map
def bm_:=@List.flatMap_cons
def bn_:=@Bool.false_eq_true
def bo_:=@Nat.lt_or_ge
def bp_:=@Nat.beq_refl
def bq_:=@List.drop_eq_getElem_cons
def br_:=@Nat.one_mul
def bs_:=@Nat.add_zero
def bt_:=@List.length_eq_zero_iff
def bu_:=@List.nodup_cons
def bv_:=@Bool.false_and
def bw_:=@List.drop_zero
def bx_:=@Nat.add_assoc
def bz_:=@Option.getD_some
def bA_:=@List.size_toArray
def bB_:=@List.mem_filter
def bC_:=@List.set_append_right
def bD_:=@List.flatMap_nil
def bE_:=@List.contains_iff_mem
def bF_:=@List.take_add_one
def bG_:=@List.getElem?_take
def bH_:=@List.length_replicate
def bI_:=@Bool.eq_iff_iff
def bJ_:=@Bool.and_false
def bK_:=@Nat.lt_irrefl
def bL_:=@Nat.le_succ
def bM_:=@Array.toList_map
def bN_:=@Nat.le_of_eq
def bO_:=@Bool.not_eq_true'
def bP_:=@List.pairwise_cons
def bQ_:=@List.range_eq_range'
def bR_:=@List.of_mem_zip
def bS_:=@List.any_cons
def bT_:=@Nat.le_max_right
def bU_:=@Nat.le_max_left
def bV_:=@Int.toNat_zero
def bW_:=@List.set_cons_zero
def bX_:=@Nat.lt_succ_of_lt
def bY_:=@List.getElem?_drop
def bZ_:=@Array.getElem?_map
def ca_:=@Array.getElem?_append_left
def cb_:=@List.getElem?_of_mem
def cc_:=@Nat.zero_lt_one
def cd_:=@Bool.or_eq_true
def ce_:=@Array.getElem?_eq_some_iff
def cf_:=@Nat.ble_eq_true_of_le
def cg_:=@Bool.and_self
def ch_:=@List.getElem?_zip_eq_some
def ci_:=@Iff.rfl
def cj_:=@Nat.lt_trans
def ck_:=@Classical.byContradiction
def cl_:=@List.mem_of_find?_eq_some
def cm_:=@List.length_zip
def cn_:=@List.length_drop
def co_:=@Option.bind_eq_some_iff
def cp_:=@List.getElem_mem
def cq_:=@List.getElem?_toArray
def cr_:=@Array.getElem?_range
def cs_:=@Nat.mul_comm
def ct_:=@Nat.mul_add_mod
def cu_:=@Nat.mod_eq_of_lt
def cv_:=@List.flatten_cons
def cw_:=@List.getElem?_cons_zero
def cx_:=@List.getElem?_cons_succ
def cy_:=@List.mem_of_mem_take
def cz_:=@List.pairwise_append
def cA_:=@Bool.true_or
def cB_:=@Array.getElem?_replicate
def cC_:=@List.range'_succ
def cD_:=@Bool.and_true
def cE_:=@List.contains_cons
def cF_:=@Array.replicate_succ
def cG_:=@Array.replicate_zero
def cH_:=@List.push_toArray
def cI_:=@List.append_toArray
def cJ_:=@Bool.not_eq_true
def cK_:=@Bool.or_true
def cL_:=@List.mem_flatMap
def cM_:=@Int.zero_sub
def cN_:=@Nat.pow_le_pow_right
def cO_:=@Nat.le_of_not_lt
def cP_:=@Array.getElem?_setIfInBounds
def cQ_:=@List.getElem?_set_self
def cR_:=@List.foldl_cons
def cS_:=@Array.foldl_toList
def cT_:=@Option.isSome_iff_exists
def cU_:=@List.getElem?_replicate
def cV_:=@Nat.le_mul_of_pos_right
def cW_:=@Int.toNat_natCast
def cX_:=@List.getElem_replicate
def cY_:=@List.getElem?_eq_none
def cZ_:=@Bool.false_or
def da_:=@List.drop_drop
def db_:=@Bool.and_eq_false_iff
def dc_:=@List.take_append_drop
def dd_:=@List.ext_getElem?
def de_:=@Array.mem_toList_iff
def df_:=@List.find?_cons
def dg_:=@Bool.eq_false_iff
def dh_:=@List.any_eq_true
def di_:=@List.forall_mem_nil
def dj_:=@Int.natAbs_tdiv_le_natAbs
def dk_:=@List.all_nil
def dl_:=@List.getElem?_set_ne
def dm_:=@Array.toList_zipIdx
def dn_:=@List.exists_cons_of_ne_nil
def do_:=@Array.getElem?_append_right
def dp_:=@List.length_pos_iff
def dq_:=@Array.mapM_eq_mapM_toList
def dr_:=@List.length_erase_of_mem
def ds_:=@List.Pairwise.imp_of_mem
def dt_:=@List.pairwise_lt_range
def du_:=@Option.map_eq_none_iff
def dv_:=@List.mem_iff_getElem?
def dw_:=@List.dropLast_concat
def dx_:=@Array.getElem?_push
def dy_:=@Array.getElem?_modify
def dz_:=@Array.toArray_toList
def dA_:=@List.mergeSort_perm
def dB_:=@List.pairwise_mergeSort
def dC_:=@List.length_mergeSort
def dD_:=@List.drop_eq_nil_iff
def dE_:=@List.flatten_append
def dF_:=@Bool.and_eq_true_iff
variable {A:Nat->Prop}{o:Obj}{α:Type _}{w w' w0:World}
theorem oJ_{a b:α}(h:some a=some b):a=b:=Option.some.inj h
theorem oI_(a b:α):(some a=some b)=(a=b):=Option.some.injEq a b
theorem pI_{β:Type _}(a:α)(b:β)(c:α)(d:β):((a,b)=(c,d))=(a=c∧b=d):=Prod.mk.injEq a b c d
inductive AV where
 |u
 |v (x:Value)
 |agg (cs:List AV)
 |aL (cs:List AV)
 |sl (ex:Bool) (rows:List (List AV))
 |ip (cs:List AV)
 |ob (k sz off len:Nat) (cx:Option Nat)
 |pt (k sz i j:Nat)
 |mp (k:Nat)
 |fn (f:Fn) (first cap:List AV)
 |yl (k:Nat)
 |gr (k sz len:Nat)
inductive Ob where
 |arr (sz:Nat) (rows:List (List AV)) (fz:Nat) (ex:Bool)
 |mp (es:List (Value × AV))
 |mb (es:List (Value × AV))
 |lp (st:LoopState) (nH:Option Code) (tm:Nat->AV) (ps:Array Tmp) (assign body:Code)
 |df
 |si (s:ByteArray) (pos:Nat)
 |fo (J:Nat->(Nat->Nat->Prop)->(Nat->Prop)->World->Prop)
 |un
structure af where
 get:Nat->Option Ob
 nx:Nat
def bE {α:Type}(f:Nat->α) (d:Nat) (a:α):Nat->α:=λt=>match Nat.beq t d with|true=>a|false=>f t
theorem aJ {α:Type}(f:Nat->α) (d:Nat) (a:α):bE f d a d=a:=by simp only[bE,bp_]
theorem aO {α:Type}(f:Nat->α) {d t:Nat}(a:α) (h:t ≠ d):bE f d a t=f t:=by
 have e:Nat.beq t d=false:=by
  cases b:Nat.beq t d with
  |false=>rfl
  |true=>exact absurd (aH_ b) h
 simp only[bE,e]
def af.set (S:af) (k:Nat) (o:Option Ob):af:=⟨bE S.get k o,S.nx⟩
def af.none_:af:=⟨λ_=>none,0⟩
structure Gh where
 ob:Nat->Nat
 cp:Nat->Nat
 al:Nat->Prop
 fz:Nat->Nat->Prop
 fo:Nat->Nat->Prop
inductive aN (g:Gh) (w:World):AV->Value->Prop where
 |u {x:Value}:aN g w .u x
 |v {x:Value}:aN g w (.v x) x
 |agg {l:List AV}{cs:Array Value}(hs:cs.size=l.length) (h:∀(i:Nat) (a:AV) (x:Value),l[i]?=some a->cs[i]?=some x->aN g w a x):aN g w (.agg l) (.agg cs)
 |aL {l:List AV}{cs:Array Value}(hs:cs.size=l.length) (h:∀(i:Nat) (a:AV) (x:Value),l[i]?=some a->cs[i]?=some x->aN g w a x):aN g w (.aL l) (.tuple cs)
 |nil {ex:Bool}{A:Option Addr}{c:Nat}(hc:ex=true->c=0):aN g w (.sl ex []) (.slice A 0 c)
 |sl {ex:Bool}{rows:List (List AV)}{b o sz c:Nat}{val:Nat->Nat->Value}(hn:rows ≠ []) (hc:ex=true->c=rows.length) (hle:rows.length<=c)
   (hl:∀(i:Nat) (row:List AV),rows[i]?=some row->row.length=sz)
   (h:∀(i j:Nat) (row:List AV) (a:AV),rows[i]?=some row->row[j]?=some a->g.fz b (o+(i*sz+j))/\w.cell? ⟨b,o+(i*sz+j),none⟩=some (val i j))
   (hr:∀(i j:Nat) (row:List AV) (a:AV),rows[i]?=some row->row[j]?=some a->aN g w a (val i j)):aN g w (.sl ex rows) (.slice (some ⟨b,o,none⟩) rows.length c)
 |ip {cs:List AV}{b o:Nat}{val:Nat->Value}(h:∀(j:Nat) (a:AV),cs[j]?=some a->g.fz b (o+j)/\w.cell? ⟨b,o+j,none⟩=some (val j))
   (hr:∀(j:Nat) (a:AV),cs[j]?=some a->aN g w a (val j)):aN g w (.ip cs) (.pointer (some ⟨b,o,none⟩))
 |ob {k sz off len c:Nat}{cx:Option Nat}(hk:g.al k) (hc:∀n,cx=some n->c=n) (hp:off+c<=g.cp k) (hx:cx=none->off+c=g.cp k) (hle:len<=c):aN g w (.ob k sz off len cx) (.slice (some ⟨g.ob k,off*sz,none⟩) len c)
 |pt {k sz i j:Nat}(hk:g.al k):aN g w (.pt k sz i j) (.pointer (some ⟨g.ob k,i*sz+j,none⟩))
 |mp {k:Nat}(hk:g.al k):aN g w (.mp k) (.map (some (g.ob k)))
 |fn {f:Fn}{l m:List AV}{cs ds:Array Value}(h1:cs.size=l.length) (h2:ds.size=m.length) (h3:∀(i:Nat) (a:AV) (x:Value),l[i]?=some a->cs[i]?=some x->aN g w a x)
   (h4:∀(i:Nat) (a:AV) (x:Value),m[i]?=some a->ds[i]?=some x->aN g w a x):aN g w (.fn f l m) (.func f cs ds)
 |yl {k:Nat}(hk:g.al k):aN g w (.yl k) (.func (.yield (g.ob k)) #[] #[])
 |kO {k sz:Nat}{A:Option Addr}:aN g w (.gr k sz 0) (.slice A 0 0)
 |gr {k sz len c:Nat}(hk:g.al k) (hx:c=g.cp k) (hle:len<=c):aN g w (.gr k sz len) (.slice (some ⟨g.ob k,0,none⟩) len c)
structure Later (g:Gh) (w:World) (g':Gh) (w':World):Prop where
 al:∀k,g.al k->g'.al k
 ob:∀k,g.al k->g'.ob k=g.ob k
 cp:∀k,g.al k->g'.cp k=g.cp k
 fz:∀b o,g.fz b o->g'.fz b o
 cell:∀b o,g.fz b o->w'.cell? ⟨b,o,none⟩=w.cell? ⟨b,o,none⟩
theorem aN.later {g g':Gh}(b:Later g w g' w') {a:AV}{x:Value}(h:aN g w a x):aN g' w' a x:=by
 induction h with
 |u=>exact .u
 |v=>exact .v
 |agg m h f=>exact .agg m f
 |aL m h f=>exact .aL m f
 |nil k=>exact .nil k
 |sl o k d p h q f =>
  exact .sl o k d p (λi j row a e l=>⟨b.fz _ _ (h i j row a e l).1,(b.cell _ _ (h i j row a e l).1).trans (h i j row a e l).2⟩) f
 |ip h q f=>exact .ip (λj a e=>⟨b.fz _ _ (h j a e).1,(b.cell _ _ (h j a e).1).trans (h j a e).2⟩) f
 |ob c k r n d=>rw[<-b.ob _ c];exact .ob (b.al _ c) k (by rw[b.cp _ c];exact r) (by rw[b.cp _ c];exact n) d
 |pt c=>rw[<-b.ob _ c];exact .pt (b.al _ c)
 |mp c=>rw[<-b.ob _ c];exact .mp (b.al _ c)
 |fn e l y z s t=>exact .fn e l s t
 |yl c=>rw[<-b.ob _ c];exact .yl (b.al _ c)
 |kO=>exact .kO
 |gr c n d=>rw[<-b.ob _ c];exact .gr (b.al _ c) (by rw[b.cp _ c];exact n) d
theorem Later.refl (g:Gh) (w:World):Later g w g w:=⟨λ_ h=>h,λ_ _=>rfl,λ_ _=>rfl,λ_ _ h=>h,λ_ _ _=>rfl⟩
theorem Later.trans {d g2 g3:Gh}{e f g:World}(h:Later d e g2 f) (k:Later g2 f g3 g):Later d e g3 g :=
 ⟨λj a=>k.al j (h.al j a),λj a=>(k.ob j (h.al j a)).trans (h.ob j a),λj a=>(k.cp j (h.al j a)).trans (h.cp j a),λb o c=>k.fz b o (h.fz b o c),λb o c=>(k.cell b o (h.fz b o c)).trans (h.cell b o c)⟩
inductive Pure:AV->Prop where
 |v {x:Value}:Pure (.v x)
 |agg {l:List AV}(h:∀a ∈ l,Pure a):Pure (.agg l)
 |aL {l:List AV}(h:∀a ∈ l,Pure a):Pure (.aL l)
 |sl {ex:Bool}{rows:List (List AV)}(h:∀row ∈ rows,∀a ∈ row,Pure a):Pure (.sl ex rows)
 |ip {cs:List AV}(h:∀a ∈ cs,Pure a):Pure (.ip cs)
 |fn {f:Fn}{l m:List AV}(h3:∀a ∈ l,Pure a) (h4:∀a ∈ m,Pure a):Pure (.fn f l m)
theorem aN.pure {g g':Gh}(n:∀b o,g.fz b o->g'.fz b o) (k:∀b o,g.fz b o->w'.cell? ⟨b,o,none⟩=w.cell? ⟨b,o,none⟩) {a:AV}{x:Value}(h:aN g w a x) (d:Pure a) :
  aN g' w' a x:=by
 induction h with
 |u=>cases d
 |v=>exact .v
 |agg l h f=>cases d with|agg d=>exact .agg l λi a x c e=>f i a x c e (d _ (aa_ c))
 |aL l h f=>cases d with|aL d=>exact .aL l λi a x c e=>f i a x c e (d _ (aa_ c))
 |nil k=>exact .nil k
 |sl p q m r h s f =>
  cases d with
  |sl d =>
   exact .sl p q m r (λi j row a c e=>⟨n _ _ (h i j row a c e).1,(k _ _ (h i j row a c e).1).trans (h i j row a c e).2⟩)
    (λi j row a c e=>f i j row a c e (d _ (aa_ c) _ (aa_ e)))
 |ip h s f =>
  cases d with
  |ip d=>exact .ip (λj a c=>⟨n _ _ (h j a c).1,(k _ _ (h j a c).1).trans (h j a c).2⟩) (λj a c=>f j a c (d _ (aa_ c)))
 |ob=>cases d
 |pt=>cases d
 |mp=>cases d
 |yl=>cases d
 |kO=>cases d
 |gr=>cases d
 |fn c e A B t y =>
  cases d with
  |fn d z=>exact .fn c e (λi a x c e=>t i a x c e (d _ (aa_ c))) (λi a x c e=>y i a x c e (z _ (aa_ c)))
def RI (J:Nat->(Nat->Nat->Prop)->(Nat->Prop)->World->Prop):Prop :=
 ∀(b:Nat) (Z a:Nat->Nat->Prop) (B:Nat->Prop) (w w':World),J b Z B w->(∀c q,Z c q->a c q)->(∀c q,B c->a c q->Z c q)->(∀c,B c->w'.heap[c]?=w.heap[c]?)->(∀c q,Z c q->w'.cell? ⟨c,q,none⟩=w.cell? ⟨c,q,none⟩)->w.heap.size<=w'.heap.size->J b a B w'
def FoK (g:Gh) (w:World) (g':Gh) (w':World) (b:Nat):Prop:=g'.fo b=g.fo b/\w.heap.size<=w'.heap.size/\(∀c,g.fo b c->w'.heap[c]?=w.heap[c]?)/\∀c q,g.fo b c->g'.fz c q->g.fz c q
def mj (g:Gh) (w:World) (l:List AV) (cs:Array Value):Prop:=cs.size=l.length/\∀(i:Nat) (a:AV) (x:Value),l[i]?=some a->cs[i]?=some x->aN g w a x
def eU (g:Gh) (w:World) (b cp:Nat):Ob->Prop
 |.arr d rows fz h=>∃(f:Array Value) (l:TypeId),w.heap[b]?=some (.cells f l (0,0))/\f.size=cp*d/\rows.length<=cp/\(h=true->cp=rows.length) /\
   (∀(i:Nat) (row:List AV),rows[i]?=some row->row.length=d/\∀(j:Nat) (a:AV),row[j]?=some a->∃x,f[i*d+j]?=some x/\aN g w a x)/\fz<=rows.length/\∀q,g.fz b q ↔ q < fz*d
 |.mp c=>∃(entries:Array MapEntry) (clock:Nat),w.heap[b]?=some (.map entries clock)/\entries.size=c.length/\(∀(i:Nat) (k:Value) (a:AV),c[i]?=some (k,a)->∃e:MapEntry,entries[i]?=some e/\e.key=k/\aN g w a e.val)
 |.mb c=>∃entries:Array MapEntry,w.heap[b]?=some (.map entries entries.size)/\entries.size=c.length/\(∀(i:Nat) (k:Value) (a:AV),c[i]?=some (k,a)->∃e:MapEntry,entries[i]?=some e/\e.key=k/\aN g w a e.val)/\∀(i:Nat) (e:MapEntry),entries[i]?=some e->e.born=i
 |.lp st m tm n assign body=>∃L:Loop,w.heap[b]?=some (.loop L)/\L.state=st/\L.pending=m/\L.params=n/\L.assign=assign/\L.body=body /\
   (∀t,t < L.tmps.size->aN g w (tm t) (L.tmps.getD t undef))/\(∀t,L.tmps.size<=t->tm t=.u)
 |.df=>w.heap[b]?=some (.deferred (some []))
 |.si s pos=>w.heap[b]?=some (.stringIter s pos)
 |.fo J=>J b g.fz (g.fo b) w/\RI J
 |.un=>False
structure St (w0:World) (A:Nat->Prop) (g:Gh) (S:af) (w:World):Prop where
 base:Below w0.heap.size w0 w
 up:∀b,w.heap.size<=b->A b
 lo:∀b,A b->w0.heap.size<=b
 al:∀k,g.al k->k < S.nx
 cT:∀k o,S.get k=some o->g.al k->A (g.ob k)/\g.ob k < w.heap.size/\eU g w (g.ob k) (g.cp k) o
 inj:∀j k o p,S.get j=some o->S.get k=some p->g.al j->g.al k->g.ob j=g.ob k->j=k
 dw:∀b o,g.fz b o->b < w.heap.size
 rp:∀b o,b < w0.heap.size->g.fz b o
 kP:∀k J,S.get k=some (.fo J)->g.al k->∀c,g.fo (g.ob k) c->A c/\c < w.heap.size
 nb:∀k J j o,S.get k=some (.fo J)->g.al k->S.get j=some o->g.al j->j ≠ k->¬ g.fo (g.ob k) (g.ob j)
 oW:∀j k J J',S.get j=some (.fo J)->S.get k=some (.fo J')->g.al j->g.al k->j=k
structure Ext (A:Nat->Prop) (g:Gh) (w:World) (g':Gh) (w':World):Prop extends Later g w g' w' where
 size:w.heap.size<=w'.heap.size
 aM:∀b,b < w.heap.size->¬ A b->w'.heap[b]?=w.heap[b]?
 kr:∀b o,g'.fz b o->g.fz b o\/A b
theorem Ext.refl (A:Nat->Prop) (g:Gh) (w:World):Ext A g w g w:={ Later.refl g w with size:=ac_ _,aM:=λ_ _ _=>rfl,kr:=λ_ _ h=>.inl h }
theorem Ext.trans {a g2 g3:Gh}{c d e:World}(h:Ext A a c g2 d) (k:Ext A g2 d g3 e):Ext A a c g3 e :=
 { h.toLater.trans k.toLater with
   size:=ay_ h.size k.size
   aM:=λb f g=>(k.aM b (au_ f h.size) g).trans (h.aM b f g)
   kr:=λb o i=>(k.kr b o i).elim (λj=>h.kr b o j) .inr }
theorem eU.later {g g':Gh}{b cp:Nat}{o:Ob}(f:Later g w g' w') (m:w'.heap[b]?=w.heap[b]?) (C:∀q,g'.fz b q->g.fz b q) (D:∀J,o=.fo J->FoK g w g' w' b) (h:eU g w b cp o):eU g' w' b cp o:=by
 cases o with
 |arr N rows fz O =>
  obtain⟨E,F,d,c,l,p,u,y,v⟩:=h;refine⟨E,F,m.trans d,c,l,p,λi row n=>⟨(u i row n).1,λj a r=>?_⟩,y,λq=>⟨λz=>(v q).1 (C q z),λz=>f.fz _ _ ((v q).2 z)⟩⟩;obtain⟨x,G,H⟩:=(u i row n).2 j a r;exact⟨x,G,H.later f⟩
 |mp I =>
  obtain⟨entries,clock,d,c,l⟩:=h;refine⟨entries,clock,m.trans d,c,λi k a r=>?_⟩;obtain⟨e,A,B,n⟩:=l i k a r;exact⟨e,A,B,n.later f⟩
 |mb I =>
  obtain⟨entries,d,c,l,p⟩:=h;refine⟨entries,m.trans d,c,λi k a r=>?_,p⟩;obtain⟨e,A,B,n⟩:=l i k a r;exact⟨e,A,B,n.later f⟩
 |lp st P tm Q assign body =>
  obtain⟨L,d,c,l,p,u,y,v,K⟩:=h;exact⟨L,m.trans d,c,l,p,u,y,λt M=>(v t M).later f,K⟩
 |df=>exact m.trans h
 |si s pos=>exact m.trans h
 |fo J =>
  obtain⟨d,c⟩:=h;obtain⟨f1,f2,f3,f4⟩:=D J rfl;refine⟨?_,c⟩;rw[f1];exact c _ _ _ _ _ _ d f.fz f4 f3 f.cell f2
 |un=>exact h.elim
theorem St.next {g g':Gh}{S S':af}(a:St w0 A g S w) (f:Ext A g w g' w') (v:w'.os=w.os) (E:w'.tape=w.tape) (F:w'.output=w.output) (G:∀k,g'.al k->k < S'.nx)
  (H:∀k o,S'.get k=some o->g'.al k->A (g'.ob k)/\g'.ob k < w'.heap.size/\eU g' w' (g'.ob k) (g'.cp k) o) (inj:∀j k o p,S'.get j=some o->S'.get k=some p->g'.al j->g'.al k->g'.ob j=g'.ob k->j=k)
  (I:∀b o,g'.fz b o->b < w'.heap.size) (C:g'.fo=g.fo) (i:∀k J,S'.get k=some (.fo J)->g'.al k->S.get k=some (.fo J)/\g.al k)
  (x:∀k o,S'.get k=some o->g'.al k->w.heap.size<=g'.ob k\/∃k0 q,g.al k0/\S.get k0=some q/\g'.ob k=g.ob k0/\(k0=k\/∀J,q ≠ .fo J)):St w0 A g' S' w' :=
 ⟨⟨v.trans a.base.os,E.trans a.base.tape,F.trans a.base.output,ay_ a.base.size f.size,λk d =>
   (f.aM k (au_ d a.base.size) (λK=>absurd (a.lo k K) (by omega))).trans (a.base.block k d)⟩,
  λb y=>a.up b (ay_ f.size y),a.lo,G,H,inj,I,λb o y=>f.fz b o (a.rp b o y),
  λk J d z c h=>by
   obtain⟨m,l⟩:=i k J d z;rw[C,f.ob k l]at h;obtain⟨r,n⟩:=a.kP k J m l c h;exact⟨r,au_ n f.size⟩,
  λk J j o d z s t M h=>by
   obtain⟨m,l⟩:=i k J d z;rw[C,f.ob k l]at h;rcases x j o s t with r|⟨k0,q,r,n,L,u⟩
   ·exact absurd (a.kP k J m l _ h).2 (by omega)
   ·rw[L]at h;refine a.nb k J k0 q m l n r (λe=>?_) h;rcases u with u|u
    ·grind
    ·subst e;rw[m]at n;exact u J (oJ_ n).symm,
  λj k J B s d t D=>a.oW j k J B (i j J s t).1 (i k B d D).1 (i j J s t).2 (i k B d D).2⟩
theorem St.forget {g:Gh}{S S':af}(a:St w0 A g S w) (i:S.nx<=S'.nx) (h:∀k o,S'.get k=some o->g.al k->S.get k=some o):St w0 A g S' w :=
 ⟨a.base,a.up,a.lo,λk b=>au_ (a.al k b) i,λk o b c=>a.cT k o (h k o b c) c,λj k o p e b d f=>a.inj j k o p (h j o e d) (h k p b f) d f,a.dw,a.rp,
  λk J b c=>a.kP k J (h k _ b c) c,λk J j o b c e d=>a.nb k J j o (h k _ b c) c (h j o e d) d,λj k J l e b d f=>a.oW j k J l (h j _ e d) (h k _ b f) d f⟩
theorem St.WE {g:Gh}{S S':af}(a:St w0 A g S w) (q:S.nx<=S'.nx) (h:∀k m,S'.get k=some m->g.al k->∃o,S.get k=some o/\(eU g w (g.ob k) (g.cp k) o->eU g w (g.ob k) (g.cp k) m)/\∀J,m=.fo J->o=.fo J):St w0 A g S' w :=
 ⟨a.base,a.up,a.lo,λk b=>au_ (a.al k b) q,λk o b c=>let ⟨r,e,f,_⟩:=h k o b c;let ⟨s,t,u⟩:=a.cT k r e c;⟨s,t,f u⟩,
  λj k o p i b d l=>let ⟨_,e,_⟩:=h j o i d;let ⟨_,f,_⟩:=h k p b l;a.inj j k _ _ e f d l,a.dw,a.rp,
  λk J b c=>let ⟨_,e,_,f⟩:=h k _ b c;a.kP k J (by grind) c,
  λk J j o b c i d=>let ⟨_,e,_,f⟩:=h k _ b c;let ⟨_,n,_⟩:=h j _ i d;a.nb k J j _ (by grind) c n d,
  λj k J v i b d l=>let ⟨_,e,_,f⟩:=h j _ i d;let ⟨_,n,_,x⟩:=h k _ b l;a.oW j k J v (by grind) (by grind) d l⟩
theorem jb {b:Nat}(h:b < w.heap.size):(w.alloc o).heap[b]?=w.heap[b]?:=Below.heap_alloc w o b h
theorem dZ:(w.alloc o).heap[w.heap.size]?=some o:=by
 show (w.heap.push o)[w.heap.size]?=_;simp
theorem size_alloc:(w.alloc o).heap.size=w.heap.size+1:=by
 show (w.heap.push o).size=_;simp
def Gh.new (g:Gh) (k b cp:Nat):Gh:=⟨bE g.ob k b,bE g.cp k cp,λj=>g.al j\/j=k,g.fz,g.fo⟩
theorem St.newAt {g:Gh}{S:af}(f:St w0 A g S w) (o:Obj) {k:Nat}(z:¬ g.al k) (I:k < S.nx) (cp:Nat)
  (K:∀J,S.get k ≠ some (.fo J)) (B:∀ob,S.get k=some ob->Later g w (g.new k w.heap.size cp) (w.alloc o)->eU (g.new k w.heap.size cp) (w.alloc o) w.heap.size cp ob) :
  Ext A g w (g.new k w.heap.size cp) (w.alloc o)/\St w0 A (g.new k w.heap.size cp) S (w.alloc o):=by
 have u:∀j,g.al j->j ≠ k:=λj a e=>z (e ▸ a);have l:∀j,g.al j->(g.new k w.heap.size cp).ob j=g.ob j:=λj a=>aO _ _ (u j a);have v:∀j,g.al j->(g.new k w.heap.size cp).cp j=g.cp j:=λj a=>aO _ _ (u j a);have r:(g.new k w.heap.size cp).ob k=w.heap.size:=aJ _ _ _;have C:(g.new k w.heap.size cp).cp k=cp:=aJ _ _ _;have s:Later g w (g.new k w.heap.size cp) (w.alloc o):=⟨λj a=>.inl a,l,v,λ_ _ h=>h,λb q t=>World.cell?_of_block (jb (f.dw b q t))⟩;have x:Ext A g w (g.new k w.heap.size cp) (w.alloc o):={ s with size:=by rw[size_alloc];omega,aM:=λb D _=>jb D,kr:=λ_ _ h=>.inl h };refine⟨x,f.next x rfl rfl rfl (λj a=>a.elim (f.al j) λe=>by omega) (λj p a d=>?_) (λi j p q y a m n e=>?_) (λb q t=>?_) rfl (λj J a d=>?_) (λj p a d=>?_)⟩
 ·rcases d with d|rfl
  ·obtain⟨E,F,G⟩:=f.cT j p a d;rw[l j d,v j d];exact⟨E,by rw[size_alloc];omega,G.later s (jb F) (λ_ h=>h) λJ N=>⟨rfl,by rw[size_alloc];omega,λc H=>jb (f.kP j J (by grind) d c H).2,λ_ _ _ h=>h⟩⟩
  ·rw[r,C];exact⟨f.up _ (ac_ _),by rw[size_alloc];omega,B p a s⟩
 ·rcases m with m|rfl<;>rcases n with n|rfl
  ·rw[l i m,l j n]at e;exact f.inj i j p q y a m n e
  ·have:=(f.cT i p y m).2.1;rw[l i m,r]at e;omega
  ·have:=(f.cT j q a n).2.1;rw[l j n,r]at e;omega
  ·rfl
 ·have:=f.dw b q t;rw[size_alloc];omega
 ·rcases d with d|rfl
  ·grind
  ·grind
 ·rcases d with d|rfl
  ·grind
  ·grind
theorem St.new {w0:World}{A:Nat->Prop}{g:Gh}{S:af}{w:World}(b:St w0 A g S w) (o:Obj) (ob:Ob) (cp:Nat) (i:∀J,ob ≠ .fo J)
  (c:Later g w (g.new S.nx w.heap.size cp) (w.alloc o)->eU (g.new S.nx w.heap.size cp) (w.alloc o) w.heap.size cp ob) :
  Ext A g w (g.new S.nx w.heap.size cp) (w.alloc o)/\St w0 A (g.new S.nx w.heap.size cp) ⟨bE S.get S.nx (some ob),S.nx+1⟩ (w.alloc o):=by
 have d:¬ g.al S.nx:=λh=>absurd (b.al _ h) (bK_ _);have e:St w0 A g ⟨bE S.get S.nx (some ob),S.nx+1⟩ w:=b.forget (bL_ _) λk p j l=>by grind[bE,aO]
 exact e.newAt o d (aX_ _) cp (λJ m=>by grind[bE,aJ]) λp a f=>by
  have a:bE S.get S.nx (some ob) S.nx=some p:=a;rw[aJ]at a;obtain rfl:=oJ_ a;exact c f
def Gh.Jl (g:Gh) (b:Nat):Gh:=⟨g.ob,g.cp,g.al,λc q=>g.fz c q\/c=b,g.fo⟩
theorem St.Jl {g:Gh}{S:af}(a:St w0 A g S w) (o:Obj) :
  Ext A g w (g.Jl w.heap.size) (w.alloc o)/\St w0 A (g.Jl w.heap.size) S (w.alloc o):=by
 have r:Later g w (g.Jl w.heap.size) (w.alloc o):=⟨λ_ h=>h,λ_ _=>rfl,λ_ _=>rfl,λ_ _ h=>.inl h,λb q d=>World.cell?_of_block (jb (a.dw b q d))⟩;have s:Ext A g w (g.Jl w.heap.size) (w.alloc o):={ r with size:=by rw[size_alloc];omega,aM:=λb t _=>jb t,kr:=λb _ h=>h.elim .inl λe=>.inr (by rw[e];exact a.up _ (ac_ _)) };refine⟨s,a.next s rfl rfl rfl a.al (λk p u i=>?_) a.inj (λb q d=>?_) rfl (λ_ _ j f=>⟨j,f⟩) (λk o j f=>.inr ⟨k,o,f,j,rfl,.inl rfl⟩)⟩
 ·obtain⟨f,l,v⟩:=a.cT k p u i
  exact⟨f,by rw[size_alloc];exact bX_ l,v.later r (jb l) (λq m=>m.elim id λe=>absurd e (Nat.ne_of_lt l)) λJ z=>⟨rfl,by rw[size_alloc];omega,
   λc n=>jb (a.kP k J (by grind) i c n).2,λc q n m=>m.elim id λe=>absurd e (Nat.ne_of_lt (a.kP k J (by grind) i c n).2)⟩⟩
 ·rw[size_alloc];rcases d with d|rfl
  ·exact bX_ (a.dw b q d)
  ·grind
theorem St.row {g:Gh}{S:af}(f:St w0 A g S w) {k:Nat}{o ob:Ob}(n:S.get k=some o) (s:g.al k) {cs cs':Array Value}{ty:TypeId}(t:w.heap[g.ob k]?=some (.cells cs ty (0,0)))
  (B:∀J,o ≠ .fo J/\ob ≠ .fo J) (C:∀q,g.fz (g.ob k) q->cs'[q]?=cs[q]?) (D:Later g w g (w.setRow (g.ob k) cs')->eU g (w.setRow (g.ob k) cs') (g.ob k) (g.cp k) ob) :
  Ext A g w g (w.setRow (g.ob k) cs')/\St w0 A g (S.set k (some ob)) (w.setRow (g.ob k) cs'):=by
 obtain⟨E,k3,k4⟩:=f.cT k o n s;have F:(w.setRow (g.ob k) cs').heap.size=w.heap.size:=by simp[World.setRow]
 have G:∀b q,g.fz b q->(w.setRow (g.ob k) cs').cell? ⟨b,q,none⟩=w.cell? ⟨b,q,none⟩:=by
  intro b q u;by_cases e:b=g.ob k
  ·subst e;rw[cell_of_row _ _ q cs' ty (0,0) (setRow_heap w _ cs cs' ty (0,0) t),cell_of_row _ _ q cs ty (0,0) t];exact C q u
  ·exact World.cell?_of_block (setRow_other w _ b cs' e)
 have v:Later g w g (w.setRow (g.ob k) cs'):=⟨λ_ h=>h,λ_ _=>rfl,λ_ _=>rfl,λ_ _ h=>h,G⟩;have y:Ext A g w g (w.setRow (g.ob k) cs'):={ v with size:=by grind,aM:=λb U H=>setRow_other w _ b cs' (λe=>H (by grind)),kr:=λ_ _ h=>.inl h };have key:∀l r,(S.set k (some ob)).get l=some r->∃I,S.get l=some I:=by
  intro l r m;by_cases e:l=k
  ·grind
  ·have m:bE S.get k (some ob) l=some r:=m;rw[aO _ _ e]at m;exact⟨r,m⟩
 refine⟨y,f.next y rfl rfl rfl f.al (λj p a d=>?_) (λi j p q K a L d e=>?_) (λb q u=>by rw[F];exact f.dw b q u) rfl (λj J a d=>?_) (λj p a d=>.inr ⟨j,(key j p a).choose,d,(key j p a).choose_spec,rfl,.inl rfl⟩)⟩
 ·by_cases e:j=k
  ·subst e;have a:bE S.get j (some ob) j=some p:=a;rw[aJ]at a;obtain rfl:=oJ_ a;exact⟨E,by grind,D v⟩
  ·have a:bE S.get k (some ob) j=some p:=a;rw[aO _ _ e]at a;obtain⟨M,W,N⟩:=f.cT j p a d
   exact⟨M,by grind,N.later v (setRow_other w _ _ cs' (λz=>e (f.inj j k p o a n d s z))) (λ_ h=>h) λJ X=>⟨rfl,by grind,
    λc t=>setRow_other w _ _ cs' (λz=>f.nb j J k o (by grind) d n s (λx=>e x.symm) (by grind)),λ_ _ _ h=>h⟩⟩
 ·obtain⟨O,P⟩:=key i p K;obtain⟨Q,R⟩:=key j q a;exact f.inj i j O Q P R L d e
 ·by_cases e:j=k
  ·subst e;have a:bE S.get j (some ob) j=some (.fo J):=a;rw[aJ]at a;exact absurd (oJ_ a) (B J).2
  ·have a:bE S.get k (some ob) j=some (.fo J):=a;rw[aO _ _ e]at a;exact⟨a,d⟩
def Gh.TN (g:Gh) (b l:Nat):Gh:=⟨g.ob,g.cp,g.al,λc q=>g.fz c q\/(c=b/\q < l),g.fo⟩
theorem St.freeze {g:Gh}{S:af}(n:St w0 A g S w) {k sz fz m:Nat}{rows:List (List AV)}{ex:Bool}(s:S.get k=some (.arr sz rows fz ex)) (v:g.al k) (M:fz<=m) (y:m<=rows.length) :
  Ext A g w (g.TN (g.ob k) (m*sz)) w/\St w0 A (g.TN (g.ob k) (m*sz)) (S.set k (some (.arr sz rows m ex))) w:=by
 obtain⟨N,k3,k4⟩:=n.cT k _ s v;have z:Later g w (g.TN (g.ob k) (m*sz)) w:=⟨λ_ h=>h,λ_ _=>rfl,λ_ _=>rfl,λ_ _ h=>.inl h,λ_ _ _=>rfl⟩;have E:Ext A g w (g.TN (g.ob k) (m*sz)) w:={ z with size:=ac_ _,aM:=λ_ _ _=>rfl,kr:=λb _ h=>h.elim .inl λe=>.inr (by grind) };have key:∀l r,(S.set k (some (.arr sz rows m ex))).get l=some r->(l=k/\r=.arr sz rows m ex)\/(l ≠ k/\S.get l=some r):=by
  intro l r F;have F:bE S.get k (some (.arr sz rows m ex)) l=some r:=F;by_cases e:l=k
  ·grind[aJ]
  ·grind[aO]
 refine⟨E,n.next E rfl rfl rfl n.al (λj p o d=>?_) (λi j p q O o B d e=>?_) (λb q P=>P.elim (n.dw b q) λe=>by grind) rfl (λj J o d=>(key j _ o).elim (λe=>by grind) λe=>⟨e.2,d⟩) (λj p o d=>.inr ((key j p o).elim (λe=>⟨j,.arr sz rows fz ex,d,e.1.symm ▸ s,rfl,.inl rfl⟩) λe=>⟨j,p,d,e.2,rfl,.inl rfl⟩))⟩
 ·rcases key j p o with ⟨rfl,rfl⟩|⟨G,o⟩
  ·refine⟨N,k3,?_⟩;obtain⟨Q,R,H,t,C,D,I,Y,T⟩:=k4;refine⟨Q,R,H,t,C,D,λi row u=>⟨(I i row u).1,λq a f=>let ⟨x,U,u⟩:=(I i row u).2 q a f;⟨x,U,u.later z⟩⟩,y,λq=>⟨λf=>?_,λf=>.inr ⟨rfl,f⟩⟩⟩;rcases f with f|f
   ·exact au_ ((T q).1 f) (aO_ sz M)
   ·grind
  ·obtain⟨t,C,D⟩:=n.cT j p o d;exact⟨t,C,D.later z rfl (λq f=>f.elim id λe=>absurd (n.inj j k p _ o s d v e.1) G) λJ Z=>⟨rfl,ac_ _,λ_ _=>rfl,λc q V f=>f.elim id λe=>absurd (by rw[<-e.1];exact V) (n.nb j J k _ (by grind) d s v (λe=>G e.symm))⟩⟩
 ·rcases key i p O with ⟨rfl,_⟩|⟨H,K⟩<;>rcases key j q o with ⟨rfl,_⟩|⟨t,L⟩
  ·rfl
  ·exact n.inj i j _ q s L B d e
  ·exact n.inj i j p _ K s B d e
  ·exact n.inj i j p q K L B d e
theorem St.drew {g:Gh}{S:af}(a:St w0 A g S w):Ext A g w g w.drew/\St w0 A g S w.drew:=by
 have d:Later g w g w.drew:=⟨λ_ h=>h,λ_ _=>rfl,λ_ _=>rfl,λ_ _ h=>h,λ_ _ _=>rfl⟩;have e:Ext A g w g w.drew:={ d with size:=ac_ _,aM:=λ_ _ _=>rfl,kr:=λ_ _ h=>.inl h };exact⟨e,a.next e rfl rfl rfl a.al (λk p f i=>let ⟨b,j,l⟩:=a.cT k p f i;⟨b,j,l.later d rfl (λ_ h=>h) λ_ _=>⟨rfl,ac_ _,λ_ _=>rfl,λ_ _ _ h=>h⟩⟩) a.inj a.dw rfl (λ_ _ c b=>⟨c,b⟩) (λk o c b=>.inr ⟨k,o,b,c,rfl,.inl rfl⟩)⟩
end Go.Proofs.YtbpabjmnhggajaaGreat
