import Derived.Below
import Derived.CallsIn
import Derived.Laws.AppendOwn
import Derived.Laws.Cells
import Derived.Laws.CopyRow
import Derived.Laws.NewBlocks
import Derived.Laws.Rows
import Derived.Laws.Tables
import Derived.Laws.World
import Derived.RangeFuncCalls
import Derived.RangeFuncIn
import Derived.RangeFuncLeaves
import Derived.Room.Entries
namespace Go.Proofs.YtbdcmpknicjopaaGreat
set_option linter.all false
open Go.RowKit
variable{A:Nat->Prop}{F:Fence}{K:Value->Prop}{P:Program}{Q:Exit->Act->World->Prop}{U w w':World}{a:Act}{b j m n sz:Nat}{c d:Code}{cs cs':Array Value}{o:Obj}{p:Prop}{t:TypeId}{v x:Value}
def ae_:=@List.mem_singleton
def aj_:=@Nat.le_refl
def al_:=@List.mem_cons
def ar_:=@List.drop_eq_nil_of_le
def as_:=@List.mem_of_getElem?
def aw_:=@Bool.and_eq_true
def ax_:=@List.getElem?_eq_getElem
def ay_:=@List.length_append
def az_:=@Bool.true_and
def aA_:=@Nat.le_of_ble_eq_true
def aB_:=@List.not_mem_nil
def aC_:=@List.getElem?_eq_some_iff
def aD_:=@Nat.le_trans
def aE_:=@List.mem_map
def aF_:=@Nat.zero_le
def aG_:=@Nat.lt_of_lt_of_le
def aH_:=@List.length_cons
def aI_:=@List.append_nil
def aJ_:=@Nat.zero_add
def aK_:=@List.map_cons
def aL_:=@List.all_cons
def aM_:=@Array.getElem?_eq_getElem
def aN_:=@Option.map_some
def aO_:=@List.mem_append
def aP_:=@List.drop_of_length_le
def aQ_:=@List.map_congr_left
def aR_:=@Nat.add_mul
def aS_:=@List.nil_append
def aT_:=@Nat.eq_of_beq_eq_true
def aU_:=@List.mem_range
def aV_:=@List.length_take
def aW_:=@List.take_of_length_le
def aX_:=@List.cons_append
def aY_:=@List.map_nil
def aZ_:=@Nat.mul_le_mul_right
def ba_:=@List.map_append
def bb_:=@List.all_eq_true
def bc_:=@List.getElem?_map
def bd_:=@List.length_nil
def be_:=@Nat.zero_mul
def bf_:=@List.length_singleton
def bg_:=@Array.getD_eq_getD_getElem?
def bh_:=@Option.map_eq_some_iff
def bi_:=@List.length_drop
def bj_:=@List.getElem?_append_left
def bk_:=@List.length_map
def bl_:=@List.length_set
def bm_:=@Bool.false_and
def bn_:=@List.all_nil
def bo_:=@List.flatMap_cons
def bp_:=@Nat.lt_succ_self
def bq_:=@Array.getElem?_toList
def br_:=@List.getElem?_append_right
def bs_:=@Int.le_refl
def bt_:=@List.append_assoc
def bu_:=@Array.length_toList
def bv_:=@List.size_toArray
def bw_:=@Option.map_none
def bx_:=@Bool.and_false
def bz_:=@Bool.false_eq_true
def bA_:=@List.mem_of_mem_take
def bB_:=@List.map_map
def bC_:=@Bool.and_true
def bD_:=@Nat.beq_refl
def bE_:=@Nat.add_zero
def bF_:=@Nat.lt_or_ge
def bG_:=@Bool.eq_iff_iff
def bH_:=@List.any_cons
def bI_:=@Nat.le_succ
def bJ_:=@List.getElem?_take
def bK_:=@Nat.add_assoc
def bL_:=@Nat.sub_self
def bM_:=@List.drop_eq_getElem_cons
def bN_:=@List.drop_zero
def bO_:=@List.flatMap_nil
def bP_:=@List.take_add_one
def bQ_:=@Nat.one_mul
def bR_:=@Option.getD_some
def bS_:=@List.length_replicate
def bT_:=@List.length_eq_zero_iff
def bU_:=@List.nodup_cons
def bV_:=@List.contains_iff_mem
def bW_:=@Array.getElem?_append_left
def bX_:=@Nat.lt_irrefl
def bY_:=@Array.toList_map
def bZ_:=@Nat.le_of_eq
def ca_:=@Nat.zero_lt_one
def cb_:=@List.mem_filter
def cc_:=@Nat.ble_eq_true_of_le
def cd_:=@List.mem_of_find?_eq_some
def ce_:=@List.set_append_right
def cf_:=@Array.getElem?_map
def cg_:=@Bool.not_eq_true'
def ch_:=@List.pairwise_cons
def ci_:=@List.range_eq_range'
def cj_:=@Bool.and_self
def ck_:=@Iff.rfl
def cl_:=@Nat.le_max_right
def cm_:=@Nat.le_max_left
def cn_:=@List.getElem?_eq_none_iff
def co_:=@Int.toNat_zero
def cp_:=@Bool.and_assoc
def cq_:=@Bool.not_false
def cr_:=@Nat.lt_succ_of_lt
def cs_:=@List.getElem?_drop
def ct_:=@List.getElem?_toArray
def cu_:=@Array.getElem?_range
def cv_:=@Nat.mul_comm
def cw_:=@Nat.mul_add_mod
def cx_:=@Nat.mod_eq_of_lt
def cy_:=@List.getElem?_cons_zero
def cz_:=@Nat.le_mul_of_pos_right
def cA_:=@List.getElem?_of_mem
def cB_:=@List.mem_of_mem_drop
def cC_:=@List.getElem?_eq_none
def cD_:=@Bool.or_eq_true
def cE_:=@Bool.true_or
def cF_:=@Array.getElem?_eq_some_iff
def cG_:=@List.of_mem_zip
def cH_:=@List.getElem?_zip_eq_some
def cI_:=@Nat.lt_trans
def cJ_:=@List.find?_cons
def cK_:=@Bool.or_true
def cL_:=@List.length_zip
def cM_:=@List.set_cons_zero
def cN_:=@List.length_range
def cO_:=@Nat.min_eq_left
def cP_:=@Int.eq_ofNat_of_zero_le
def cQ_:=@Option.bind_eq_some_iff
def cR_:=@List.getElem_mem
def cS_:=@List.flatten_cons
def cT_:=@List.getElem?_cons_succ
def cU_:=@Array.size_append
def cV_:=@List.getElem_replicate
def cW_:=@List.pairwise_append
def cX_:=@Bool.not_true
def cY_:=@Array.getElem?_replicate
def cZ_:=@List.range'_succ
def da_:=@List.map_take
def db_:=@List.contains_cons
def dc_:=@List.zip_cons_cons
def dd_:=@Array.replicate_succ
def de_:=@Array.replicate_zero
def df_:=@List.push_toArray
def dg_:=@List.append_toArray
def dh_:=@Bool.not_eq_true
def di_:=@Bool.eq_false_iff
def dj_:=@Int.zero_sub
def dk_:=@List.any_nil
def dl_:=@Nat.le_of_not_lt
def dm_:=@Array.getElem?_setIfInBounds
def dn_:=@List.foldl_cons
def do_:=@Array.foldl_toList
def dp_:=@Option.isSome_iff_exists
def dq_:=@List.getElem?_replicate
def dr_:=@Array.getElem?_append_right
def ds_:=@Int.toNat_natCast
def dt_:=@List.drop_drop
def du_:=@Bool.and_eq_false_iff
def dv_:=@List.map_drop
def dw_:=@List.take_append_drop
def dx_:=@List.mem_iff_getElem?
def dy_:=@List.ext_getElem?
def dz_:=@List.zip_nil_left
def dA_:=@Array.mem_toList_iff
def dB_:=@Array.toArray_toList
def dC_:=@Int.natAbs_tdiv_le_natAbs
def dD_:=@List.drop_length
def dE_:=@List.getElem?_set_self
def dF_:=@List.getElem?_set_ne
def dG_:=@Array.toList_zipIdx
def dH_:=@List.exists_cons_of_ne_nil
def dI_:=@List.length_pos_iff
def dJ_:=@Array.mapM_eq_mapM_toList
def dK_:=@List.length_erase_of_mem
def dL_:=@List.Pairwise.imp_of_mem
def dM_:=@List.pairwise_lt_range
def dN_:=@Option.map_eq_none_iff
def dO_:=@List.dropLast_concat
def dP_:=@Classical.byContradiction
def dQ_:=@Array.getElem?_push
def dR_:=@Array.getElem?_modify
def dS_:=@List.mergeSort_perm
def dT_:=@List.pairwise_mergeSort
def dU_:=@List.length_mergeSort
def dV_:=@List.take_append_of_le_length
def dW_:=@Bool.and_eq_true_iff
def dX_:=@List.drop_eq_nil_iff
def dY_:=@List.flatten_append
variable{ex:Bool}{Y:Type}
theorem oJ_{Y:Type _}{a b:Y}(h:some a=some b):a=b:=Option.some.inj h
theorem oI_{Y:Type _}(a b:Y):(some a=some b)=(a=b):=Option.some.injEq a b
theorem pI_{Y:Type _}{β:Type _}(a:Y)(b:β)(c:Y)(d:β):((a,b)=(c,d))=(a=c∧b=d):=Prod.mk.injEq a b c d
theorem X(h:p:=by omega):p:=h
theorem aJ(h:p:=by decide):p:=h
theorem Z(h:p:=by grind):p:=h
theorem aE(h:p:=by simp):p:=h
def au{Y:Sort _}(a:Y):∃x,x=a:=⟨a,rfl⟩
theorem dV{q:Prop}(h:p)(g:¬p:=by decide):q:=absurd h g
inductive AV where|u|v (x:Value)|agg (cs:List AV)|aM (cs:List AV)|sl (ex:Bool) (rows:List (List AV))|ip (cs:List AV)|ob (k sz off len:Nat) (cx:Option Nat)|pt (k sz i j:Nat)|mp (k:Nat)|fn (f:Fn) (first cap:List AV)|yl (k:Nat)|gr (k sz len:Nat)
inductive Ob where|arr (sz:Nat) (rows:List (List AV)) (fz:Nat) (ex:Bool)|mp (es:List (Value×AV))|mb (es:List (Value×AV))|lp (st:LoopState) (pV:Option Code) (tm:Nat->AV) (ps:Array Tmp) (assign body:Code)|df|si (s:ByteArray) (pos:Nat)|fo (J:Nat->(Nat->Nat->Prop)->(Nat->Prop)->World->Prop)|un
structure ao where
 get:Nat->Option Ob
 nx:Nat
def bK{Y:Type}(f:Nat->Y)(d:Nat)(a:Y):Nat->Y:=λt=>match Nat.beq t d with|true=>a|false=>f t
theorem aK(f:Nat->Y)(d:Nat)(a:Y):bK f d a d=a:=by simp only[bK,bD_]
theorem aR(f:Nat->Y){d t:Nat}(a:Y)(h:t≠d):bK f d a t=f t:=by
 have e:Nat.beq t d=false:=by cases b:Nat.beq t d with|false=>rfl|true=>exact absurd (aT_ b) h
 simp only[bK,e]
def ao.set(S:ao)(k:Nat)(o:Option Ob):ao:=⟨bK S.get k o,S.nx⟩
def ao.none_:ao:=⟨λ_=>none,0⟩
structure Gh where
 ob:Nat->Nat
 cp:Nat->Nat
 al:Nat->Prop
 fz:Nat->Nat->Prop
 fo:Nat->Nat->Prop
inductive aT(g:Gh)(w:World):AV->Value->Prop where|u {x:Value}:aT g w .u x|v {x:Value}:aT g w (.v x) x|agg {l:List AV}{cs:Array Value}(hs:cs.size=l.length) (h:∀(i:Nat)(a:AV)(x:Value),l[i]?=some a->cs[i]?=some x->aT g w a x):aT g w (.agg l) (.agg cs)|aM {l:List AV}{cs:Array Value}(hs:cs.size=l.length) (h:∀(i:Nat)(a:AV)(x:Value),l[i]?=some a->cs[i]?=some x->aT g w a x):aT g w (.aM l) (.tuple cs)|nil {ex:Bool}{A:Option Addr}{c:Nat}(hc:ex=true->c=0):aT g w (.sl ex []) (.slice A 0 c)|sl {ex:Bool}{rows:List (List AV)}{b o sz c:Nat}{val:Nat->Nat->Value}(hn:rows≠[]) (hc:ex=true->c=rows.length) (hle:rows.length<=c)(hl:∀(i:Nat)(row:List AV),rows[i]?=some row->row.length=sz)(h:∀(i j:Nat)(row:List AV)(a:AV),rows[i]?=some row->row[j]?=some a->g.fz b (o+(i*sz+j))/\w.cell? ⟨b,o+(i*sz+j),none⟩=some (val i j))(hr:∀(i j:Nat)(row:List AV)(a:AV),rows[i]?=some row->row[j]?=some a->aT g w a (val i j)):aT g w (.sl ex rows) (.slice (some ⟨b,o,none⟩) rows.length c)|ip {cs:List AV}{b o:Nat}{val:Nat->Value}(h:∀(j:Nat)(a:AV),cs[j]?=some a->g.fz b (o+j)/\w.cell? ⟨b,o+j,none⟩=some (val j))(hr:∀(j:Nat)(a:AV),cs[j]?=some a->aT g w a (val j)):aT g w (.ip cs) (.pointer (some ⟨b,o,none⟩))|ob {k sz off len c:Nat}{cx:Option Nat}(hk:g.al k) (hc:∀n,cx=some n->c=n) (hp:off+c<=g.cp k) (hx:cx=none->off+c=g.cp k) (hle:len<=c):aT g w (.ob k sz off len cx) (.slice (some ⟨g.ob k,off*sz,none⟩) len c)|pt {k sz i j:Nat}(hk:g.al k):aT g w (.pt k sz i j) (.pointer (some ⟨g.ob k,i*sz+j,none⟩))|mp {k:Nat}(hk:g.al k):aT g w (.mp k) (.map (some (g.ob k)))|fn {f:Fn}{l m:List AV}{cs ds:Array Value}(h1:cs.size=l.length) (h2:ds.size=m.length) (h3:∀(i:Nat)(a:AV)(x:Value),l[i]?=some a->cs[i]?=some x->aT g w a x)(h4:∀(i:Nat)(a:AV)(x:Value),m[i]?=some a->ds[i]?=some x->aT g w a x):aT g w (.fn f l m) (.func f cs ds)|yl {k:Nat}(hk:g.al k):aT g w (.yl k) (.func (.yield (g.ob k)) #[] #[])|lM {k sz:Nat}{A:Option Addr}:aT g w (.gr k sz 0) (.slice A 0 0)|gr {k sz len c:Nat}(hk:g.al k) (hx:c=g.cp k) (hle:len<=c):aT g w (.gr k sz len) (.slice (some ⟨g.ob k,0,none⟩) len c)
structure Later(g:Gh)(w:World)(g':Gh)(w':World):Prop where
 al:∀k,g.al k->g'.al k
 ob:∀k,g.al k->g'.ob k=g.ob k
 cp:∀k,g.al k->g'.cp k=g.cp k
 fz:∀b o,g.fz b o->g'.fz b o
 cell:∀b o,g.fz b o->w'.cell? ⟨b,o,none⟩=w.cell? ⟨b,o,none⟩
theorem aT.later{g g':Gh}(b:Later g w g' w'){a:AV}(h:aT g w a x):aT g' w' a x:=by induction h with|u=>exact .u|v=>exact .v|agg m h f=>exact .agg m f|aM m h f=>exact .aM m f|nil k=>exact .nil k|sl o k d p h q f =>exact .sl o k d p (λi j row a e l=>⟨b.fz _ _ (h i j row a e l).1,(b.cell _ _ (h i j row a e l).1).trans (h i j row a e l).2⟩) f|ip h q f=>exact .ip (λj a e=>⟨b.fz _ _ (h j a e).1,(b.cell _ _ (h j a e).1).trans (h j a e).2⟩) f|ob c k r n d=>rw[<-b.ob _ c];exact .ob (b.al _ c) k (by rw[b.cp _ c];exact r) (by rw[b.cp _ c];exact n) d|pt c=>rw[<-b.ob _ c];exact .pt (b.al _ c)|mp c=>rw[<-b.ob _ c];exact .mp (b.al _ c)|fn e l y z s t=>exact .fn e l s t|yl c=>rw[<-b.ob _ c];exact .yl (b.al _ c)|lM=>exact .lM|gr c n d=>rw[<-b.ob _ c];exact .gr (b.al _ c) (by rw[b.cp _ c];exact n) d
def Later.refl(g:Gh)(w:World):Later g w g w:=⟨λ_ h=>h,λ_ _=>rfl,λ_ _=>rfl,λ_ _ h=>h,λ_ _ _=>rfl⟩
def Later.trans{d g2 g3:Gh}{e f g:World}(h:Later d e g2 f)(k:Later g2 f g3 g):Later d e g3 g :=⟨λj a=>k.al j (h.al j a),λj a=>(k.ob j (h.al j a)).trans (h.ob j a),λj a=>(k.cp j (h.al j a)).trans (h.cp j a),λb o c=>k.fz b o (h.fz b o c),λb o c=>(k.cell b o (h.fz b o c)).trans (h.cell b o c)⟩
inductive Pure:AV->Prop where|v {x:Value}:Pure (.v x)|agg {l:List AV}(h:∀a∈l,Pure a):Pure (.agg l)|aM {l:List AV}(h:∀a∈l,Pure a):Pure (.aM l)|sl {ex:Bool}{rows:List (List AV)}(h:∀row∈rows,∀a∈row,Pure a):Pure (.sl ex rows)|ip {cs:List AV}(h:∀a∈cs,Pure a):Pure (.ip cs)|fn {f:Fn}{l m:List AV}(h3:∀a∈l,Pure a) (h4:∀a∈m,Pure a):Pure (.fn f l m)
theorem aT.pure{g g':Gh}(n:∀b o,g.fz b o->g'.fz b o)(k:∀b o,g.fz b o->w'.cell? ⟨b,o,none⟩=w.cell? ⟨b,o,none⟩){a:AV}(h:aT g w a x)(d:Pure a):aT g' w' a x:=by induction h with
 |u=>cases d|v=>exact .v|agg l h f=>cases d with|agg d=>exact .agg l λi a x c e=>f i a x c e (d _ (as_ c))
 |aM l h f=>cases d with|aM d=>exact .aM l λi a x c e=>f i a x c e (d _ (as_ c))
 |nil k=>exact .nil k|sl p q m r h s f =>cases d with|sl d =>exact .sl p q m r (λi j row a c e=>⟨n _ _ (h i j row a c e).1,(k _ _ (h i j row a c e).1).trans (h i j row a c e).2⟩) λi j row a c e=>f i j row a c e (d _ (as_ c) _ (as_ e))
 |ip h s f =>cases d with|ip d=>exact .ip (λj a c=>⟨n _ _ (h j a c).1,(k _ _ (h j a c).1).trans (h j a c).2⟩) λj a c=>f j a c (d _ (as_ c))
 |ob=>cases d|pt=>cases d|mp=>cases d|yl=>cases d|lM=>cases d|gr=>cases d|fn c e A B t y =>cases d with|fn d z=>exact .fn c e (λi a x c e=>t i a x c e (d _ (as_ c))) λi a x c e=>y i a x c e (z _ (as_ c))
def Wq(J:Nat->(Nat->Nat->Prop)->(Nat->Prop)->World->Prop):Prop :=∀(b:Nat)(a d:Nat->Nat->Prop)(B:Nat->Prop)(w w':World),J b a B w->(∀c q,a c q->d c q)->(∀c q,B c->d c q->a c q)->(∀c,B c->w'.heap[c]?=w.heap[c]?)->(∀c q,a c q->w'.cell? ⟨c,q,none⟩=w.cell? ⟨c,q,none⟩)->w.heap.size<=w'.heap.size->J b d B w'
def FoK(g:Gh)(w:World)(g':Gh)(w':World)(b:Nat):Prop:=g'.fo b=g.fo b/\w.heap.size<=w'.heap.size/\(∀c,g.fo b c->w'.heap[c]?=w.heap[c]?)/\∀c q,g.fo b c->g'.fz c q->g.fz c q
def nI(g:Gh)(w:World)(l:List AV)(cs:Array Value):Prop:=cs.size=l.length/\∀(i:Nat)(a:AV)(x:Value),l[i]?=some a->cs[i]?=some x->aT g w a x
def fM(g:Gh)(w:World)(b d:Nat):Ob->Prop|.arr sz rows fz ex=>∃(cs:Array Value) (f:TypeId),w.heap[b]?=some (.cells cs f (0,0))/\cs.size=d*sz/\rows.length<=d/\(ex=true->d=rows.length) /\(∀(i:Nat)(row:List AV),rows[i]?=some row->row.length=sz/\∀(j:Nat)(a:AV),row[j]?=some a->∃x,cs[i*sz+j]?=some x/\aT g w a x)/\fz<=rows.length/\∀q,g.fz b q↔q<fz*sz|.mp c=>∃(entries:Array MapEntry) (clock:Nat),w.heap[b]?=some (.map entries clock)/\entries.size=c.length/\∀(i:Nat)(k:Value)(a:AV),c[i]?=some (k,a)->∃e:MapEntry,entries[i]?=some e/\e.key=k/\aT g w a e.val|.mb c=>∃entries:Array MapEntry,w.heap[b]?=some (.map entries entries.size)/\entries.size=c.length/\(∀(i:Nat)(k:Value)(a:AV),c[i]?=some (k,a)->∃e:MapEntry,entries[i]?=some e/\e.key=k/\aT g w a e.val)/\∀(i:Nat)(e:MapEntry),entries[i]?=some e->e.born=i|.lp st h tm l assign body=>∃L:Loop,w.heap[b]?=some (.loop L)/\L.state=st/\L.pending=h/\L.params=l/\L.assign=assign/\L.body=body /\(∀t,t<L.tmps.size->aT g w (tm t) (L.tmps.getD t undef))/\∀t,L.tmps.size<=t->tm t=.u|.df=>w.heap[b]?=some (.deferred (some []))|.si s pos=>w.heap[b]?=some (.stringIter s pos)|.fo J=>J b g.fz (g.fo b) w/\Wq J|.un=>False
structure St(U:World)(A:Nat->Prop)(g:Gh)(S:ao)(w:World):Prop where
 base:Below U.heap.size U w
 up:∀b,w.heap.size<=b->A b
 lo:∀b,A b->U.heap.size<=b
 al:∀k,g.al k->k<S.nx
 dh:∀k o,S.get k=some o->g.al k->A (g.ob k)/\g.ob k<w.heap.size/\fM g w (g.ob k) (g.cp k) o
 inj:∀j k o p,S.get j=some o->S.get k=some p->g.al j->g.al k->g.ob j=g.ob k->j=k
 dU:∀b o,g.fz b o->b<w.heap.size
 uA:∀b o,b<U.heap.size->g.fz b o
 l9:∀k J,S.get k=some (.fo J)->g.al k->∀c,g.fo (g.ob k) c->A c/\c<w.heap.size
 oZ:∀k J j o,S.get k=some (.fo J)->g.al k->S.get j=some o->g.al j->j≠k->¬g.fo (g.ob k) (g.ob j)qY:∀j k J J',S.get j=some (.fo J)->S.get k=some (.fo J')->g.al j->g.al k->j=k
structure Ext(A:Nat->Prop)(g:Gh)(w:World)(g':Gh)(w':World):Prop extends Later g w g' w' where
 size:w.heap.size<=w'.heap.size
 aP:∀b,b<w.heap.size->¬A b->w'.heap[b]?=w.heap[b]?lN:∀b o,g'.fz b o->g.fz b o\/A b
def Ext.refl(A:Nat->Prop)(g:Gh)(w:World):Ext A g w g w:={Later.refl g w with size:=aj_ _,aP:=λ_ _ _=>rfl,lN:=λ_ _ h=>.inl h }
def Ext.trans{a g2 g3:Gh}{c d e:World}(h:Ext A a c g2 d)(k:Ext A g2 d g3 e):Ext A a c g3 e :={h.toLater.trans k.toLater with
   size:=aD_ h.size k.size
   aP:=λb f g=>(k.aP b (aG_ f h.size) g).trans (h.aP b f g)
   lN:=λb o i=>(k.lN b o i).elim (λj=>h.lN b o j) .inr }
theorem fM.later{g g':Gh}{C:Nat}{o:Ob}(f:Later g w g' w')(m:w'.heap[b]?=w.heap[b]?)(E:∀q,g'.fz b q->g.fz b q)(F:∀J,o=.fo J->FoK g w g' w' b)(h:fM g w b C o):fM g' w' b C o:=by cases o with|arr sz rows fz ex =>let⟨cs,G,d,c,l,p,u,y,v⟩:=h;refine⟨cs,G,m.trans d,c,l,p,λi row n=>⟨(u i row n).1,λj a r=>?_⟩,y,λq=>⟨λz=>(v q).1 (E q z),λz=>f.fz _ _ ((v q).2 z)⟩⟩;let⟨x,K,M⟩:=(u i row n).2 j a r;exact⟨x,K,M.later f⟩|mp N =>let⟨entries,clock,d,c,l⟩:=h;refine⟨entries,clock,m.trans d,c,λi k a r=>?_⟩;let⟨e,A,B,n⟩:=l i k a r;exact⟨e,A,B,n.later f⟩|mb N =>let⟨entries,d,c,l,p⟩:=h;refine⟨entries,m.trans d,c,λi k a r=>?_,p⟩;let⟨e,A,B,n⟩:=l i k a r;exact⟨e,A,B,n.later f⟩|lp st R tm S assign body =>let⟨L,d,c,l,p,u,y,v,P⟩:=h;exact⟨L,m.trans d,c,l,p,u,y,λt Q=>(v t Q).later f,P⟩|df=>exact m.trans h|si s pos=>exact m.trans h|fo J =>let⟨d,c⟩:=h;let⟨f1,f2,f3,f4⟩:=F J rfl;refine⟨?_,c⟩;rw[f1];exact c _ _ _ _ _ _ d f.fz f4 f3 f.cell f2|un=>exact h.elim
theorem St.next{g g':Gh}{S S':ao}(a:St U A g S w)(f:Ext A g w g' w')(v:w'.os=w.os)(G:w'.tape=w.tape)(x:w'.output=w.output)(K:∀k,g'.al k->k<S'.nx)(L:∀k o,S'.get k=some o->g'.al k->A (g'.ob k)/\g'.ob k<w'.heap.size/\fM g' w' (g'.ob k) (g'.cp k) o)(inj:∀j k o p,S'.get j=some o->S'.get k=some p->g'.al j->g'.al k->g'.ob j=g'.ob k->j=k)(M:∀b o,g'.fz b o->b<w'.heap.size)(E:g'.fo=g.fo)(i:∀k J,S'.get k=some (.fo J)->g'.al k->S.get k=some (.fo J)/\g.al k)(y:∀k o,S'.get k=some o->g'.al k->w.heap.size<=g'.ob k\/∃k0 q,g.al k0/\S.get k0=some q/\g'.ob k=g.ob k0/\(k0=k\/∀J,q≠.fo J)):St U A g' S' w' :=⟨⟨v.trans a.base.os,G.trans a.base.tape,x.trans a.base.output,aD_ a.base.size f.size,λk d =>(f.aP k (aG_ d a.base.size) λN=>absurd (a.lo k N) X).trans (a.base.block k d)⟩,λb z=>a.up b (aD_ f.size z),a.lo,K,L,inj,M,λb o z=>f.fz b o (a.uA b o z),λk J d B c h=>by let⟨m,l⟩:=i k J d B;rw[E,f.ob k l]at h;let⟨r,n⟩:=a.l9 k J m l c h;exact⟨r,aG_ n f.size⟩,λk J j o d B s t Q h=>by let⟨m,l⟩:=i k J d B;rw[E,f.ob k l]at h;rcases y j o s t with r|⟨k0,q,r,n,P,u⟩;exact absurd (a.l9 k J m l _ h).2 X;rw[P]at h;refine a.oZ k J k0 q m l n r (λe=>?_) h;rcases u with u|u;grind;subst e;rw[m]at n;exact u J (oJ_ n).symm,λj k J C s d t F=>a.qY j k J C (i j J s t).1 (i k C d F).1 (i j J s t).2 (i k C d F).2⟩
def St.forget{g:Gh}{S S':ao}(a:St U A g S w)(i:S.nx<=S'.nx)(h:∀k o,S'.get k=some o->g.al k->S.get k=some o):St U A g S' w :=⟨a.base,a.up,a.lo,λk b=>aG_ (a.al k b) i,λk o b c=>a.dh k o (h k o b c) c,λj k o p e b d f=>a.inj j k o p (h j o e d) (h k p b f) d f,a.dU,a.uA,λk J b c=>a.l9 k J (h k _ b c) c,λk J j o b c e d=>a.oZ k J j o (h k _ b c) c (h j o e d) d,λj k J l e b d f=>a.qY j k J l (h j _ e d) (h k _ b f) d f⟩
theorem St.PG{g:Gh}{S S':ao}(a:St U A g S w)(q:S.nx<=S'.nx)(h:∀k m,S'.get k=some m->g.al k->∃o,S.get k=some o/\(fM g w (g.ob k) (g.cp k) o->fM g w (g.ob k) (g.cp k) m)/\∀J,m=.fo J->o=.fo J):St U A g S' w :=⟨a.base,a.up,a.lo,λk b=>aG_ (a.al k b) q,λk o b c=>let⟨r,e,f,_⟩:=h k o b c;let⟨s,t,u⟩:=a.dh k r e c;⟨s,t,f u⟩,λj k o p i b d l=>let⟨_,e,_⟩:=h j o i d;let⟨_,f,_⟩:=h k p b l;a.inj j k _ _ e f d l,a.dU,a.uA,λk J b c=>let⟨_,e,_,f⟩:=h k _ b c;a.l9 k J Z c,λk J j o b c i d=>let⟨_,e,_,f⟩:=h k _ b c;let⟨_,n,_⟩:=h j _ i d;a.oZ k J j _ Z c n d,λj k J v i b d l=>let⟨_,e,_,f⟩:=h j _ i d;let⟨_,n,_,x⟩:=h k _ b l;a.qY j k J v Z Z d l⟩
theorem kg(h:b<w.heap.size):(w.alloc o).heap[b]?=w.heap[b]?:=Below.heap_alloc w o b h
theorem eB:(w.alloc o).heap[w.heap.size]?=some o:=by show(w.heap.push o)[w.heap.size]?=_;simp
theorem size_alloc:(w.alloc o).heap.size=w.heap.size+1:=by simp
def Gh.new(g:Gh)(k b a:Nat):Gh:=⟨bK g.ob k b,bK g.cp k a,λj=>g.al j\/j=k,g.fz,g.fo⟩
theorem St.newAt{g:Gh}{S:ao}(l:St U A g S w)(o:Obj){k:Nat}(B:¬g.al k)(N:k<S.nx)(d:Nat)(P:∀J,S.get k≠some (.fo J))(C:∀ob,S.get k=some ob->Later g w (g.new k w.heap.size d) (w.alloc o)->fM (g.new k w.heap.size d) (w.alloc o) w.heap.size d ob):Ext A g w (g.new k w.heap.size d) (w.alloc o)/\St U A (g.new k w.heap.size d) S (w.alloc o):=by have v:∀j,g.al j->j≠k:=λj a e=>B (e ▸ a);have m:∀j,g.al j->(g.new k w.heap.size d).ob j=g.ob j:=λj a=>aR _ _ (v j a);have x:∀j,g.al j->(g.new k w.heap.size d).cp j=g.cp j:=λj a=>aR _ _ (v j a);have s:(g.new k w.heap.size d).ob k=w.heap.size:=aK _ _ _;have E:(g.new k w.heap.size d).cp k=d:=aK _ _ _;have t:Later g w (g.new k w.heap.size d) (w.alloc o):=⟨λj a=>.inl a,m,x,λ_ _ h=>h,λb q u=>World.cell?_of_block (kg (l.dU b q u))⟩;have y:Ext A g w (g.new k w.heap.size d) (w.alloc o):={t with size:=by rw[size_alloc];omega,aP:=λb F _=>kg F,lN:=λ_ _ h=>.inl h };refine⟨y,l.next y rfl rfl rfl (λj a=>a.elim (l.al j) λe=>X) (λj p a f=>?_) (λi j p q z a n r e=>?_) (λb q u=>?_) rfl (λj J a f=>?_) λj p a f=>?_⟩;rcases f with f|rfl;let⟨G,K,L⟩:=l.dh j p a f;rw[m j f,x j f];exact⟨G,by rw[size_alloc];omega,L.later t (kg K) (λ_ h=>h) λJ T=>⟨rfl,by rw[size_alloc];omega,λc M=>kg (l.l9 j J Z f c M).2,λ_ _ _ h=>h⟩⟩;rw[s,E];exact⟨l.up _ (aj_ _),by rw[size_alloc];omega,C p a t⟩;rcases n with n|rfl<;>rcases r with r|rfl;rw[m i n,m j r]at e;exact l.inj i j p q z a n r e;have:=(l.dh i p z n).2.1;rw[m i n,s]at e;omega;have:=(l.dh j q a r).2.1;rw[m j r,s]at e;omega;rfl;have:=l.dU b q u;rw[size_alloc];omega;rcases f with f|rfl;grind;grind;rcases f with f|rfl;grind;grind
theorem St.new{U:World}{A:Nat->Prop}{g:Gh}{S:ao}{w:World}(c:St U A g S w)(o:Obj)(ob:Ob)(a:Nat)(j:∀J,ob≠.fo J)(d:Later g w (g.new S.nx w.heap.size a) (w.alloc o)->fM (g.new S.nx w.heap.size a) (w.alloc o) w.heap.size a ob):Ext A g w (g.new S.nx w.heap.size a) (w.alloc o)/\St U A (g.new S.nx w.heap.size a) ⟨bK S.get S.nx (some ob),S.nx+1⟩ (w.alloc o):=by
 have e:¬g.al S.nx:=λh=>absurd (c.al _ h) (bX_ _);have f:St U A g ⟨bK S.get S.nx (some ob),S.nx+1⟩ w:=c.forget (bI_ _) λk p l m=>by grind[bK,aR]
 exact f.newAt o e (bp_ _) a λJ n=>by grind[bK,aK] λp b i=>by have b:bK S.get S.nx (some ob) S.nx=some p:=b;rw[aK]at b;cases oJ_ b;exact d i
def Gh.Nw(g:Gh)(b:Nat):Gh:=⟨g.ob,g.cp,g.al,λc q=>g.fz c q\/c=b,g.fo⟩
theorem St.Nw{g:Gh}{S:ao}(a:St U A g S w)(o:Obj):Ext A g w (g.Nw w.heap.size) (w.alloc o)/\St U A (g.Nw w.heap.size) S (w.alloc o):=by have r:Later g w (g.Nw w.heap.size) (w.alloc o):=⟨λ_ h=>h,λ_ _=>rfl,λ_ _=>rfl,λ_ _ h=>.inl h,λb q d=>World.cell?_of_block (kg (a.dU b q d))⟩;have s:Ext A g w (g.Nw w.heap.size) (w.alloc o):={r with size:=by rw[size_alloc];omega,aP:=λb t _=>kg t,lN:=λb _ h=>h.elim .inl λe=>.inr (by rw[e];exact a.up _ (aj_ _)) };refine⟨s,a.next s rfl rfl rfl a.al (λk p u i=>?_) a.inj (λb q d=>?_) rfl (λ_ _ j f=>⟨j,f⟩) λk o j f=>.inr ⟨k,o,f,j,rfl,.inl rfl⟩⟩;let⟨f,l,v⟩:=a.dh k p u i;exact⟨f,by rw[size_alloc];exact cr_ l,v.later r (kg l) (λq m=>m.elim id λe=>absurd e (Nat.ne_of_lt l)) λJ z=>⟨rfl,by rw[size_alloc];omega,λc n=>kg (a.l9 k J Z i c n).2,λc q n m=>m.elim id λe=>absurd e (Nat.ne_of_lt (a.l9 k J Z i c n).2)⟩⟩;rw[size_alloc];rcases d with d|rfl;exact cr_ (a.dU b q d);grind
theorem St.row{g:Gh}{S:ao}(f:St U A g S w){k:Nat}{o ob:Ob}(n:S.get k=some o)(s:g.al k){ty:TypeId}(t:w.heap[g.ob k]?=some (.cells cs ty (0,0)))(B:∀J,o≠.fo J/\ob≠.fo J)(C:∀q,g.fz (g.ob k) q->cs'[q]?=cs[q]?)(E:Later g w g (w.setRow (g.ob k) cs')->fM g (w.setRow (g.ob k) cs') (g.ob k) (g.cp k) ob):Ext A g w g (w.setRow (g.ob k) cs')/\St U A g (S.set k (some ob)) (w.setRow (g.ob k) cs'):=by
 let⟨F,k3,k4⟩:=f.dh k o n s;have G:(w.setRow (g.ob k) cs').heap.size=w.heap.size:=by simp[World.setRow]
 have K:∀b q,g.fz b q->(w.setRow (g.ob k) cs').cell? ⟨b,q,none⟩=w.cell? ⟨b,q,none⟩:=by intro b q u;by_cases e:b=g.ob k;subst e;rw[cell_of_row _ _ q cs' ty (0,0) (setRow_heap w _ cs cs' ty (0,0) t),cell_of_row _ _ q cs ty (0,0) t];exact C q u;exact World.cell?_of_block (setRow_other w _ b cs' e)
 have v:Later g w g (w.setRow (g.ob k) cs'):=⟨λ_ h=>h,λ_ _=>rfl,λ_ _=>rfl,λ_ _ h=>h,K⟩;have y:Ext A g w g (w.setRow (g.ob k) cs'):={v with size:=Z,aP:=λb hb L=>setRow_other w _ b cs' λe=>L Z,lN:=λ_ _ h=>.inl h };have key:∀l r,(S.set k (some ob)).get l=some r->∃M,S.get l=some M:=by intro l r m;by_cases e:l=k;grind;have m:bK S.get k (some ob) l=some r:=m;rw[aR _ _ e]at m;exact⟨r,m⟩
 refine⟨y,f.next y rfl rfl rfl f.al (λj p a d=>?_) (λi j p q N a P d e=>?_) (λb q u=>by rw[G];exact f.dU b q u) rfl (λj J a d=>?_) λj p a d=>.inr ⟨j,(key j p a).choose,d,(key j p a).choose_spec,rfl,.inl rfl⟩⟩;by_cases e:j=k;subst e;have a:bK S.get j (some ob) j=some p:=a;rw[aK]at a;cases oJ_ a;exact⟨F,Z,E v⟩;have a:bK S.get k (some ob) j=some p:=a;rw[aR _ _ e]at a;let⟨Q,h3,R⟩:=f.dh j p a d;exact⟨Q,Z,R.later v (setRow_other w _ _ cs' λz=>e (f.inj j k p o a n d s z)) (λ_ h=>h) λJ hJ=>⟨rfl,Z,λc t=>setRow_other w _ _ cs' λz=>f.oZ j J k o Z d n s (λx=>e x.symm) Z,λ_ _ _ h=>h⟩⟩;let⟨T,V⟩:=key i p N;let⟨W,hq⟩:=key j q a;exact f.inj i j T W V hq P d e;by_cases e:j=k;subst e;have a:bK S.get j (some ob) j=some (.fo J):=a;rw[aK]at a;exact absurd (oJ_ a) (B J).2;have a:bK S.get k (some ob) j=some (.fo J):=a;rw[aR _ _ e]at a;exact⟨a,d⟩
def Gh.YF(g:Gh)(b l:Nat):Gh:=⟨g.ob,g.cp,g.al,λc q=>g.fz c q\/c=b/\q<l,g.fo⟩
theorem St.freeze{g:Gh}{S:ao}(n:St U A g S w){k fz:Nat}{rows:List (List AV)}(s:S.get k=some (.arr sz rows fz ex))(v:g.al k)(Q:fz<=m)(y:m<=rows.length):Ext A g w (g.YF (g.ob k) (m*sz)) w/\St U A (g.YF (g.ob k) (m*sz)) (S.set k (some (.arr sz rows m ex))) w:=by
 let⟨R,k3,k4⟩:=n.dh k _ s v;have z:Later g w (g.YF (g.ob k) (m*sz)) w:=⟨λ_ h=>h,λ_ _=>rfl,λ_ _=>rfl,λ_ _ h=>.inl h,λ_ _ _=>rfl⟩;have F:Ext A g w (g.YF (g.ob k) (m*sz)) w:={z with size:=aj_ _,aP:=λ_ _ _=>rfl,lN:=λb _ h=>h.elim .inl λe=>.inr Z };have key:∀l r,(S.set k (some (.arr sz rows m ex))).get l=some r->l=k/\r=.arr sz rows m ex\/l≠k/\S.get l=some r:=by intro l r G;have G:bK S.get k (some (.arr sz rows m ex)) l=some r:=G;by_cases e:l=k;grind[aK];grind[aR]
 refine⟨F,n.next F rfl rfl rfl n.al (λj p o d=>?_) (λi j p q T o B d e=>?_) (λb q V=>V.elim (n.dU b q) λe=>Z) rfl (λj J o d=>(key j _ o).elim (λe=>Z) λe=>⟨e.2,d⟩) λj p o d=>.inr ((key j p o).elim (λe=>⟨j,.arr sz rows fz ex,d,e.1.symm ▸ s,rfl,.inl rfl⟩) λe=>⟨j,p,d,e.2,rfl,.inl rfl⟩)⟩;rcases key j p o with⟨rfl,rfl⟩|⟨K,o⟩;refine⟨R,k3,?_⟩;let⟨cs,W,L,t,C,E,M,h6,h7⟩:=k4;refine⟨cs,W,L,t,C,E,λi row u=>⟨(M i row u).1,λq a f=>let⟨x,hx,u⟩:=(M i row u).2 q a f;⟨x,hx,u.later z⟩⟩,y,λq=>⟨λf=>?_,λf=>.inr ⟨rfl,f⟩⟩⟩;rcases f with f|f;exact aG_ ((h7 q).1 f) (aZ_ sz Q);grind;let⟨t,C,E⟩:=n.dh j p o d;exact⟨t,C,E.later z rfl (λq f=>f.elim id λe=>absurd (n.inj j k p _ o s d v e.1) K) λJ hJ=>⟨rfl,aj_ _,λ_ _=>rfl,λc q hc f=>f.elim id λe=>absurd (by rw[<-e.1];exact hc) (n.oZ j J k _ Z d s v λe=>K e.symm)⟩⟩;rcases key i p T with⟨rfl,_⟩|⟨L,N⟩<;>rcases key j q o with⟨rfl,_⟩|⟨t,P⟩;rfl;exact n.inj i j _ q s P B d e;exact n.inj i j p _ N s B d e;exact n.inj i j p q N P B d e
theorem St.drew{g:Gh}{S:ao}(a:St U A g S w):Ext A g w g w.drew/\St U A g S w.drew:=by have d:Later g w g w.drew:=⟨λ_ h=>h,λ_ _=>rfl,λ_ _=>rfl,λ_ _ h=>h,λ_ _ _=>rfl⟩;have e:Ext A g w g w.drew:={d with size:=aj_ _,aP:=λ_ _ _=>rfl,lN:=λ_ _ h=>.inl h };exact⟨e,a.next e rfl rfl rfl a.al (λk p f i=>let⟨b,j,l⟩:=a.dh k p f i;⟨b,j,l.later d rfl (λ_ h=>h) λ_ _=>⟨rfl,aj_ _,λ_ _=>rfl,λ_ _ _ h=>h⟩⟩) a.inj a.dU rfl (λ_ _ c b=>⟨c,b⟩) λk o c b=>.inr ⟨k,o,b,c,rfl,.inl rfl⟩⟩
inductive DE where|ob (k:Nat)|del (t:Target) (k:Nat) (i:Int)
def DE.k:DE->Nat|.ob k=>k|.del _ k _=>k
instance:Coe Nat DE:=⟨DE.ob⟩
def PI(f:Nat->Nat):DE->Deferred|.ob k=>{target:=.collected (f k),args:=#[] }|.del t k i=>{target:=t,args:=#[.map (some (f k)),.int .i64 i] }
theorem FD{f a:Nat->Nat}{d:DE}(h:a d.k=f d.k):PI a d=PI f d:=by cases d with|ob k=>have h:a k=f k:=h;simp only[PI,h]|del t k i=>have h:a k=f k:=h;simp only[PI,h]
structure AA where
 tm:Nat->AV
 df:List DE
def AA.put(Y:AA):Option Tmp->AV->AA|some d,a=>⟨bK Y.tm d a,Y.df⟩|none,_=>Y
def cT:Value->AV|.slice none 0 0=>.sl true []|x=>.v x
def lift:Value->AV|.agg cs=>.agg (cs.toList.map cT)|x=>cT x
def AA.ev(Y:AA):Operand->AV|.tmp t=>Y.tm t|.const v=>lift v|.global g=>.v (.pointer (some ⟨g,0,none⟩))|.func f=>.v (.func (.func f) #[] #[])
section
variable{g g':Gh}
theorem qZ(x:Value):aT g w (cT x) x:=by unfold cT;split;exact .nil λ_=>rfl;exact .v
theorem zH(x:Value):aT g w (lift x) x:=by unfold lift;split;rename_i cs;refine .agg aE λi a x b c=>?_;simp only[bc_,bh_]at b;obtain⟨y,d,rfl⟩:=b;have:some x=some y:=Z;cases oJ_ this;exact qZ x;exact qZ _
structure cR(g:Gh)(w:World)(n:Nat)(Y:AA)(a:Act):Prop where
 size:a.tmps.size=n
 tm:∀t,t<n->aT g w (Y.tm t) (a.tmps.getD t undef)out:∀t,n<=t->Y.tm t=.u
 df:a.defers=Y.df.map (PI g.ob)yN:∀d∈Y.df,g.al d.k
def cR.later{Y:AA}(b:Later g w g' w')(h:cR g w n Y a):cR g' w' n Y a :=⟨h.size,λt d=>(h.tm t d).later b,h.out,h.df.trans (aQ_ λk c=>(FD (b.ob _ (h.yN k c))).symm),λk c=>b.al _ (h.yN k c)⟩
theorem cR.ev{Y:AA}(h:cR g w n Y a)(o:Operand):aT g w (Y.ev o) (a.eval o):=by cases o with|tmp t =>show aT g w (Y.tm t) (a.tmps.getD t undef);by_cases b:t<n;exact h.tm t b;rw[h.out t (dl_ b)];exact .u|const v=>exact zH v|global g=>exact .v|func f=>exact .v
theorem cR.put{Y:AA}(h:cR g w n Y a){d:Tmp}(f:d<n){b:AV}(i:aT g w b x):cR g w n (Y.put (some d) b) (a.put (some d) x):=by
 refine⟨by simp[Act.put,h.size],λt c=>?_,λt c=>?_,h.df,h.yN⟩;show aT g w (bK Y.tm d b t) ((a.tmps.setIfInBounds d x).getD t undef);have e:(a.tmps.setIfInBounds d x).getD t undef=if t=d then x else a.tmps.getD t undef:=by simp only[bg_,dm_];by_cases e:d=t;subst e;simp[h.size,f];grind
 rw[e];by_cases e:t=d;grind[aK];rw[aR _ _ e,if_neg e];exact h.tm t c;show bK Y.tm d b t=.u;rw[aR _ _ (Nat.ne_of_gt (aG_ f c))];exact h.out t c
def cR.abN{Y:AA}(h:cR g w n Y a){b:AV}:cR g w n (Y.put none b) (a.put none x):=h
end
def mu(F:Fence):Prop:=(∀f,F.fn f)/\F.depth=none/\F.alive=false
def mu.inRound(h:mu F)(l:Nat):mu (F.inRound l):=h
def mu.plain(h:mu F):mu F.plain:=h
def mu.wide:mu Fence.wide:=⟨λ_=>trivial,rfl,rfl⟩
section
variable(P:Program)(U:World)(rd:Bool)(n:Nat)
def tM(A:Nat->Prop)(g:Gh)(w:World)(ex:Exit)(aI:AA)(S':ao):Exit->Act->World->Prop :=λa b w'=>a=ex/\∃g',St U A g' S' w'/\cR g' w' n aI b/\Ext A g w g' w'
def eE(c:Code)(Y:AA)(S:ao)(ex:Exit)(aI:AA)(S':ao):Prop :=∀(F:Fence)(m:Nat)(A:Nat->Prop)(g:Gh)(a:Act)(w:World),mu F->F.round.isSome=rd->St U A g S w->cR g w n Y a->c.wpIn F m P (tM U n A g w ex aI S') a w
end
section
variable{rd:Bool}{Y dT aI:AA}{S eC S':ao}{ex:Exit}
theorem tM.ext{g a:Gh}{b:World}(c:Ext A g w a b){ex':Exit}{a':Act}(h:tM U n A a b ex aI S' ex' a' w'):tM U n A g w ex aI S' ex' a' w':=by let⟨d,g',e,f,i⟩:=h;exact⟨d,g',e,f,c.trans i⟩
def SkC(c:Code):Prop:=c=.skip\/∃l,c=.label l
theorem SkC.wp(h:SkC c)(q:Q .normal a w):c.wpIn F m P Q a w:=by rcases h with rfl|⟨l,rfl⟩;exact wpIn_skip q;exact wpIn_label q
def eE.skip(h:SkC c):eE P U rd n c Y S .normal Y S:=λF m A g a w e f b d=>h.wp ⟨rfl,g,b,d,Ext.refl ..⟩
def eE.exit_(id:Nat):eE P U rd n (.exit id) Y S (.exit id) Y S:=λF m A g a w d e b c=>wpIn_exit ⟨rfl,g,b,c,Ext.refl ..⟩
def eE.ret:eE P U rd n .ret Y S .ret Y S:=λF m A g a w d e b c=>wpIn_ret ⟨rfl,g,b,c,Ext.refl ..⟩
theorem eE.seq(h:eE P U rd n c Y S .normal dT eC)(k:eE P U rd n d dT eC ex aI S'):eE P U rd n (.seq c d) Y S ex aI S':=by intro F m A g a w b f i j;refine wpIn_seq (wpIn_mono (h F m A g a w b f i j) ?_);rintro e l o⟨rfl,p,q,r,s⟩;exact wpIn_mono (k F m A p l o b f q r) λe a w t=>tM.ext s t
theorem eE.ahc(h:eE P U rd n c Y S ex aI S')(b:ex≠.normal):eE P U rd n (.seq c d) Y S ex aI S':=by intro F m A g a w f i j k;refine wpIn_seq (wpIn_mono (h F m A g a w f i j k) ?_);rintro e o p⟨rfl,l⟩;cases e with|normal=>exact absurd rfl b|_=>exact⟨rfl,l⟩
theorem PJ{g:Gh}{b:Bool}(h:aT g w (.v (.bool b)) x):x=.bool b:=by cases h;rfl
theorem cF{g:Gh}{y:Value}(h:aT g w (.v y) x):x=y:=by cases h;rfl
theorem eE.cond{o:Operand}{t:Bool}(f:Y.ev o=.v (.bool t))(h:eE P U rd n (if t then c else d) Y S ex aI S'):eE P U rd n (.cond o c d) Y S ex aI S':=by intro F m A g a w i j k b;have e:=b.ev o;rw[f]at e;exact wpIn_cond (PJ e) (h F m A g a w i j k b)
theorem Wr(h:c.wpIn F m P (λex a w=>(∀l,ex≠.goto l)/\Q ex a w) a w):(Code.scope c).wpIn F m P Q a w:=by intro b k cs r p q;have d:step P (lone (b.atR a (.code (.scope c)::k)) cs w)=.next (lone (b.atR a (.code c::.inScope c::k)) cs w):=step_lone_go (by simp[stepG,stepG.exec,Frame.atR]);have s:∀(a:Act)(w:World),step P (lone (b.atR a (.inScope c::k)) cs w)=.next (lone (b.atR a k) cs w):=λa w=>step_lone_go (by simp[stepG,stepG.exec,Frame.atR]);have f:(lone (b.atR a (.code (.scope c)::k)) cs w).fenced P F:=fenced_calm p q rfl;let⟨e,g,i,⟨t,n⟩,j⟩:=h b (.inScope c::k) cs r p q;cases e with
 |normal=>exact⟨.normal,g,i,n,.head f d (StepsIn.trans j (.one (fenced_calm p q rfl) (s g i)))⟩|exit id =>
  have A:exitTo id (.inScope c::k)=exitTo id k:=by simp[exitTo]
  exact⟨.exit id,g,i,n,λu v=>.head f d (j.1 u Z),λx v=>let⟨o,y,z⟩:=j.2 x Z;⟨o,y,.head f d z⟩⟩|goto l=>exact absurd rfl (t l)|ret=>exact⟨_,g,i,n,.of_steps (.one f d) j⟩|panic B=>exact⟨_,g,i,n,.of_steps (.one f d) j⟩|outgrown=>exact⟨_,g,i,n,.of_steps (.one f d) j⟩
theorem eE.scope(h:eE P U rd n c Y S ex aI S')(b:∀l,ex≠.goto l):eE P U rd n (.scope c) Y S ex aI S':=by intro F m A g a w d f i j;refine Wr (wpIn_mono (h F m A g a w d f i j) ?_);rintro e o p⟨rfl,k⟩;exact⟨b,rfl,k⟩
theorem eE.block{id:Nat}(h:eE P U rd n c Y S ex aI S')(d:ex≠.exit id):eE P U rd n (.block id c) Y S ex aI S':=by intro F m A g a w f i k l;refine wpIn_block (wpIn_mono (h F m A g a w f i k l) ?_);rintro e o p⟨rfl,b⟩;cases e with|exit j =>have:j≠id:=λe=>d (by rw[e]);simp only[Exit.inBlock,this,if_false];exact⟨rfl,b⟩|_=>exact⟨rfl,b⟩
theorem eE.Ws{id:Nat}(h:eE P U rd n c Y S (.exit id) aI S'):eE P U rd n (.block id c) Y S .normal aI S':=by intro F m A g a w b d f i;refine wpIn_block (wpIn_mono (h F m A g a w b d f i) ?_);rintro e k l⟨rfl,j⟩;simp only[Exit.inBlock,if_true];exact⟨rfl,j⟩
def Ca(P:Program)(U:World)(rd:Bool)(n:Nat)(c:Code)(Y:AA)(S:ao)(ex:Exit)(aI:AA)(S':ao):Prop :=∀(F:Fence)(m:Nat)(A:Nat->Prop)(g:Gh)(a:Act)(w:World),mu F->F.round.isSome=rd->St U A g S w->cR g w n Y a->∀(b:Frame)(k:List Item)(cs:List Frame),b.roundOf=F.round->F.fn b.fn->F.room (cs.length+1+m) ->∃e d w',tM U n A g w ex aI S' e d w'/\ArrivesIn (Machine.fenced P F) P (lone (b.atR a (.code c::.inLoop c::k)) cs w) b k cs e d w'
theorem eE.loop(h:Ca P U rd n c Y S ex aI S'):eE P U rd n (.loop c) Y S ex aI S':=by intro F m A g a w i j l o b k cs p d f;let⟨e,q,w',r,s⟩:=h F m A g a w i j l o b k cs p d f;exact⟨e,q,w',r,.of_steps (.one (fenced_calm d f rfl) stepR_loop) s⟩
theorem Ca.step(h:eE P U rd n c Y S .normal dT eC)(k:Ca P U rd n c dT eC ex aI S'):Ca P U rd n c Y S ex aI S':=by intro F m A g a w p q s t b l cs r d f;let⟨e,u,v,x,y⟩:=h F m A g a w p q s t b (.inLoop c::l) cs r d f;obtain⟨rfl,z,B,C,E⟩:=x;let⟨i,j,o,G,J⟩:=k F m A z u v p q B C b l cs r d f;exact⟨i,j,o,tM.ext E G,.of_steps (StepsIn.trans y (.one (fenced_calm d f rfl) stepR_inLoop)) J⟩
theorem Ca.done(h:eE P U rd n c Y S ex aI S')(f:ex≠.normal):Ca P U rd n c Y S ex aI S':=by intro F m A g a w i j k o b l cs p q r;let⟨e,s,t,d,u⟩:=h F m A g a w i j k o b (.inLoop c::l) cs p q r;obtain⟨rfl,d⟩:=d;exact⟨e,s,t,⟨rfl,d⟩,.pass (x:=.inLoop c) rfl (λ_ _=>.inl f) u⟩
def aG(P:Program)(U:World)(f:FuncId)(args:List AV)(S:ao)(r:AV)(S':ao):Prop :=(∀(b:Array Value)(w:World),(callFunc f b).run P w=.ok (.enter f b) w) /\∀(F:Fence)(m:Nat)(A:Nat->Prop)(g:Gh)(a:Array Value)(w:World),mu F->St U A g S w->nI g w args a ->CallsIn F m P f a w λe w'=>∃v g',e=.returned v/\aT g' w' r v/\St U A g' S' w'/\Ext A g w g' w'
def FE(P:Program)(U:World)(k:Nat)(args:List AV)(S:ao)(r:AV)(S':ao):Prop :=∀(F:Fence)(m:Nat)(A:Nat->Prop)(g:Gh)(a:Array Value)(w:World),mu F->St U A g S w->g.al k->nI g w args a->∃l f tmps assign body,(Instr.yield (g.ob k) a).run P w=.ok (.round l f tmps assign body) w /\RoundIn F m P l f tmps assign body w λe w'=>∃v g',e=.returned v/\aT g' w' r v/\St U A g' S' w'/\Ext A g w g' w'
def aq(P:Program)(U:World)(f:FuncId)(args:List AV)(r:AV):Prop :=Pure r/\∃S',aG P U f args ao.none_ r S'
end
def bR{Y:Type}(o:Option Y)(K:Y->Prop):Prop:=match o with|some a=>K a|none=>False
theorem bR.out{o:Option Y}{K:Y->Prop}(h:bR o K):∃a,o=some a/\K a:=by cases o with|none=>exact h.elim|some a=>exact⟨a,rfl,h⟩
theorem bR.mk{o:Option Y}{K:Y->Prop}{a:Y}(h:o=some a)(k:K a):bR o K:=by subst h;exact k
def Wu(P:Program)(t:TypeId):Option Bool :=match P.underlying t with|some (.struct _)|some (.array _ _)=>some true|some _=>some false|none=>none
def eR(P:Program)(t:TypeId):Option Nat:=(P.info? t).map (·.size)
def k_(P:Program)(t:TypeId):Option Nat:=(P.info? t).map (·.bytes)
def eL(P:Program)(t:TypeId):Option Value:=(P.info? t).bind (·.zero)
def Wv(row:List AV)(j n:Nat):List AV:=match j,Nat.beq n row.length with|0,true=>row|_,_=>(row.drop j).take n
def r_(P:Program)(t:TypeId)(row:List AV)(j:Nat):Option AV :=match Wu P t,eR P t with
 |some true,some n=>match Nat.ble (j+n) row.length with|true=>some (.agg (Wv row j n))|false=>none
 |some false,_=>row[j]?|_,_=>none
def A6(P:Program)(S:ao)(t:TypeId):AV->Option AV
 |.ip row=>r_ P t row 0|.pt k sz i j=>match S.get k with
  |some (.arr a rows _ _)=>match Nat.beq sz a with
   |true=>match rows[i]? with|some row=>r_ P t row j|none=>none
   |false=>none
  |_=>none
 |_=>none
def bB:AV->List AV|.agg l=>l|a=>[a]
def dv:AV->Bool|.v x=>x.oneCell'|.agg _|.aM _|.u=>false|_=>true
def sU(row:List AV)(j:Nat)(cs:List AV):List AV:=match j,Nat.beq cs.length row.length with|0,true=>cs|_,_=>row.take j++cs++row.drop (j+cs.length)
def uZ(P:Program)(S:ao)(t:TypeId)(b:AV):AV->Option ao
 |.pt k sz i j=>match S.get k with
  |some (.arr a rows 0 ex)=>match Nat.beq sz a&&(bB b).all dv&&match eR P t with|some n=>Nat.beq n (bB b).length|none=>false with
   |true=>match rows[i]? with
    |some row=>match Nat.ble (j+(bB b).length) row.length with|true=>some (S.set k (some (.arr sz (rows.set i (sU row j (bB b))) 0 ex)))|false=>none
    |none=>none
   |false=>none
  |_=>none
 |_=>none
def ao.new(S:ao)(o:Ob):ao:=⟨bK S.get S.nx (some o),S.nx+1⟩
def o9(S:ao)(cs:List AV):AV×ao:=(.pt S.nx cs.length 0 0,S.new (Ob.arr cs.length [cs] 0 true))
def Dz(place:Nat->Option (Nat×Nat)):List AV->List (Nat×AV)->Option (List AV)|cells,[]=>some cells|cells,(i,a)::b=>match place i with
  |some (off,size)=>match Nat.beq (bB a).length size&&Nat.ble (off+size) cells.length&&(bB a).all dv with|true=>Dz place (sU cells off (bB a)) b|false=>none
  |none=>none
def PK(P:Program)(fs:Array Field)(i:Nat):Option (Nat×Nat) :=match fs[i]? with
 |some f=>match eR P f.type with|some n=>some (f.offset,n)|none=>none
 |none=>none
def zI(P:Program)(t:TypeId)(parts:List (Nat×AV)):Option AV :=match eL P t with
 |some (.agg cs)=>match P.underlying t with
  |some (.struct a)=>match a.toList.all λf=>(eR P f.type).isSome with|true=>(Dz (PK P a) (cs.toList.map cT) parts).map .agg|false=>none
  |some (.array _ e)=>match eR P e with|some n=>(Dz (λi=>some (i*n,n)) (cs.toList.map cT) parts).map .agg|none=>none
  |_=>none
 |_=>none
def y5(size:Nat):List (List AV)->List (Nat×AV)->Option (List (List AV))|rows,[]=>some rows|rows,(i,a)::b=>match Nat.beq (bB a).length size&&Nat.blt i rows.length&&(bB a).all dv with|true=>y5 size (rows.set i (bB a)) b|false=>none
def idx{Y:Type}(rows:List Y)(i:Int):Option Y:=if 0<=i then rows[i.toNat]? else none
theorem Uu{rows:List Y}{k:Nat}{x:Y}(h:rows[k]?=some x):idx rows (k:Int)=some x:=by grind[idx]
def rowsOf(S:ao):AV->Option (List (List AV))
 |.sl _ rows=>some rows|.ob k sz off len _=>match S.get k with
  |some (.arr a rows _ _)=>match Nat.beq sz a with|true=>some ((rows.drop off).take len)|false=>none
  |_=>none
 |_=>none
def q8:AV->Option Nat|.sl _ rows=>some rows.length|.ob _ _ _ len _=>some len|.v (.string s)=>some s.size|_=>none
def isStr:AV->Bool|.v (.string _)=>true|_=>false
def yp(P:Program)(op:BinOp)(t:TypeId):Value->Value->Option Value
 |.int k a,.int c b=>match decide (k=c) with
  |true=>match op with|.eql=>some (.bool (a==b))|.neq=>some (.bool (a !=b))|.lss=>some (.bool (decide (a<b)))|.leq=>some (.bool (decide (a<=b)))|.gtr=>some (.bool (decide (a>b)))|.geq=>some (.bool (decide (a>=b)))|_=>none
  |false=>none
 |.string a,.string b=>match op with|.eql=>some (.bool (a.toList==b.toList))|.neq=>some (.bool ! a.toList==b.toList)|.lss=>some (.bool (Op.bytesLess a.toList b.toList))|.leq=>some (.bool (Op.bytesLess a.toList b.toList||a.toList==b.toList))|.gtr=>some (.bool !(Op.bytesLess a.toList b.toList||a.toList==b.toList))|.geq=>some (.bool !Op.bytesLess a.toList b.toList)|_=>none
 |.bool a,.bool b=>match P.underlying t with
  |some .bool=>match op with|.eql=>some (.bool (a==b))|.neq=>some (.bool ! a==b)|_=>none
  |_=>none
 |_,_=>none
def arith:BinOp->Int->Int->Option Int|.add,a,b=>some (a+b)|.sub,a,b=>some (a-b)|.mul,a,b=>some (a*b)|_,_,_=>none
def lenOf(P:Program)(t:TypeId)(a:AV):Option Nat:=match P.underlying t,isStr a,q8 a with|some (.slice _),false,some m=>some m|some .string,true,some m=>some m|_,_,_=>none
def Ic(S:ao)(k:Nat):Option (Nat×List (List AV)×Nat×Bool):=match S.get k with|some (.arr sz rows fz ex)=>some (sz,rows,fz,ex)|_=>none
theorem KM{S:ao}{k fz:Nat}{rows:List (List AV)}(h:Ic S k=some (sz,rows,fz,ex)):S.get k=some (.arr sz rows fz ex):=by grind[Ic]
theorem PL{S:ao}{k fz:Nat}{rows:List (List AV)}(h:S.get k=some (.arr sz rows fz ex)):Ic S k=some (sz,rows,fz,ex):=by grind[Ic]
def Ie(P:Program)(U:World)(K:AV->ao->Prop)(S:ao)(args:List AV):AV->Prop
 |.v (.func (.func g) first cap)=>match first.toList,cap.toList with|[],[]=>∃r S',aG P U g args S r S'/\K r S'|_,_=>False
 |.fn (.func g) first cap=>∃r S',aG P U g (first++args++cap) S r S'/\K r S'|.yl k=>∃r S',FE P U k args S r S'/\K r S'|_=>False
def qC(P:Program)(e:TypeId)(K:AV->ao->Prop)(S:ao)(GL:List (List AV)):AV->Prop
 |.sl true rows=>match GL with|[]=>K (.sl true rows) S|x::GL=>match eR P e,k_ P e with
   |some sz,some a=>match Nat.blt 0 a with|true=>(∀row∈rows,row.length=sz)/\(∀row∈x::GL,row.length=sz)/\(rows.length+(x::GL).length)*a<=35184372088832 /\K (.ob S.nx sz 0 (rows.length+(x::GL).length) none) (S.new (.arr sz (rows++x::GL) 0 false))|false=>False
   |_,_=>False
 |.ob k sz 0 len none=>bR (Ic S k) λo=>match o with|(b,rows,fz,ex)=>match GL with|[]=>K (.ob k sz 0 len none) S|x::GL=>match eR P e,k_ P e with
    |some d,some a=>match Nat.beq b sz&&Nat.beq d sz&&Nat.blt 0 a with|true=>fz<=len/\len<=rows.length/\(∀row∈x::GL,row.length=sz/\row.all dv=true)/\(len+(x::GL).length)*a<=35184372088832 /\K (.ob S.nx sz 0 (len+(x::GL).length) none) ((S.set k none).new (.arr sz (rows.take len++x::GL) fz false))|false=>False
    |_,_=>False
 |.ob k sz off len (some c)=>bR (Ic S k) λo=>match o with|(b,rows,fz,ex)=>match GL with|[]=>K (.ob k sz off len (some c)) S|x::GL=>match eR P e,k_ P e with
    |some d,some a=>match Nat.beq b sz&&Nat.beq d sz&&Nat.blt 0 a with|true=>c=len/\off+len<=rows.length/\(∀row∈x::GL,row.length=sz)/\(len+(x::GL).length)*a<=35184372088832 /\K (.ob S.nx sz 0 (len+(x::GL).length) none) (S.new (.arr sz ((rows.drop off).take len++x::GL) 0 false))|false=>False
    |_,_=>False
 |_=>False
def mc(P:Program)(t:TypeId):Option TypeId:=match P.underlying t with|some (.slice e)=>some e|_=>none
def q_(P:Program)(K:AV->ao->Prop)(S:ao)(argTypes:List TypeId)(args:List AV):Builtin->Prop
 |.len=>match argTypes,args with|[t],[a]=>bR (lenOf P t a) λm=>K (.v (.int .i64 (m:Int))) S|_,_=>False
 |.append=>match argTypes,args with
  |[t,t2],[a,b]=>match mc P t,mc P t2 with
   |some e,some _=>match match eL P e,eR P e with|some z,some sz=>Nat.beq z.cells.size sz|_,_=>false with|true=>bR (rowsOf S b) λd=>q8 b=some d.length/\qC P e K S d a|false=>False
   |_,_=>False
  |_,_=>False
 |.min=>match args with
  |[.v (.int k a),.v (.int c b)]=>match decide (k=c) with|true=>K (.v (.int k (min a b))) S|false=>False
  |_=>False
 |.max=>match args with
  |[.v (.int k a),.v (.int c b)]=>match decide (k=c) with|true=>K (.v (.int k (max a b))) S|false=>False
  |_=>False
 |_=>False
def nj:Option AV->Int->Option Int|none,d=>some d|some (.v (.int _ i)),_=>some i|_,_=>none
def th(P:Program)(t:TypeId)(K:AV->ao->Prop)(S:ao)(x:AV)(lo hi a:Option AV):Prop :=match x,a with
 |.v (.string s),none=>match P.underlying t,nj lo 0,nj hi s.size with|some .string,some l,some h=>0<=l/\l<=h/\h<=s.size/\K (.v (.string (s.extract l.toNat h.toNat))) S|_,_,_=>False
 |.sl ex rows,none=>match P.underlying t,nj lo 0,nj hi rows.length with|some (.slice e),some l,some h=>(∀row∈rows,eR P e=some row.length)/\(eR P e).isSome/\0<=l/\l<=h/\h<=rows.length/\K (.sl false ((rows.take h.toNat).drop l.toNat)) S|_,_,_=>False
 |.sl ex rows,some (.v (.int _ m))=>match P.underlying t,nj lo 0,hi with|some (.slice e),some l,some (.v (.int _ h))=>(∀row∈rows,eR P e=some row.length)/\(eR P e).isSome/\0<=l/\l<=h/\h=m/\h<=rows.length/\K (.sl true ((rows.take h.toNat).drop l.toNat)) S|_,_,_=>False
 |.ob k sz off len cx,none=>match P.underlying t,lo,nj hi len with|some (.slice e),none,some h=>eR P e=some sz/\0<=h/\h<=len/\K (.ob k sz off h.toNat cx) S|some (.slice e),some (.v (.int _ l)),some h=>eR P e=some sz/\0<=l/\l<=h/\h<=len/\(l=h->K (.sl false []) S)/\(l<h->K (.ob k sz (off+l.toNat) (h.toNat-l.toNat) (cx.map (·-l.toNat))) S)|_,_,_=>False
 |.ob k sz off len cx,some (.v (.int _ m))=>match P.underlying t,nj lo 0,hi with|some (.slice e),some l,some (.v (.int _ h))=>eR P e=some sz/\l=0/\h=m/\h<=len/\0<=h/\K (.ob k sz off h.toNat (some h.toNat)) S|_,_,_=>False
 |_,_=>False
def br(t:Bool)(a b:Prop):Prop:=match t with|true=>a|false=>b
def gd(c t:Bool)(a b:Prop):Prop:=match c with|true=>br t a b|false=>br t b a
def PM(S:ao)(k:Nat):Option (ByteArray×Nat):=match S.get k with|some (.si s pos)=>some (s,pos)|_=>none
theorem YG{S:ao}{k pos:Nat}{s:ByteArray}(h:PM S k=some (s,pos)):S.get k=some (.si s pos):=by grind[PM]
def zJ(v:Value)(K:Value->Prop):Prop:=match v with|.bool b=>∃d,b=d/\K (.bool d)|v=>K v
theorem zJ.out(h:zJ v K):K v:=by unfold zJ at h;split at h;grind;grind
theorem zJ.mk(h:K v):zJ v K:=by unfold zJ;split;grind;grind
def b8(P:Program)(U:World)(o:Op)(Y:AA)(S:ao)(K:AV->ao->Prop):Prop :=match o with
 |.move x|.assign x=>K (Y.ev x) S|.pick c a b=>match Y.ev c with|.v (.bool t)=>br t (K (Y.ev a) S) (K (Y.ev b) S)|_=>False
 |.alloc e=>match eL P e with|some z=>K (o9 S (z.cells.toList.map cT)).1 (o9 S (z.cells.toList.map cT)).2|none=>False
 |.box _ x=>match(bB (Y.ev x)).all dv with|true=>K (o9 S (bB (Y.ev x))).1 (o9 S (bB (Y.ev x))).2|false=>False
 |.build t parts=>match zI P t (parts.toList.map λ(i,x)=>(i,Y.ev x)) with|some a=>K a S|none=>False
 |.buildSlice t len parts=>match mc P t with
  |some e=>match eL P e,eR P e with
   |some z,some n=>match Nat.ble (len*n) 16777216&&Nat.beq z.cells.size n&&Nat.blt 0 n with
    |true=>match y5 n (List.replicate len (z.cells.toList.map cT)) (parts.toList.map λ(i,x)=>(i,Y.ev x)) with|some rows=>K (.sl true rows) S|none=>False
    |false=>False
   |_,_=>False
  |none=>False
 |.load t x=>bR (A6 P S t (Y.ev x)) λa=>K a S|.store t x b=>bR (uZ P S t (Y.ev b) (Y.ev x)) λS'=>K (.v undef) S'|.binOp op t x y _=>match Y.ev x,Y.ev y with
  |.v (.int k a),.v (.int p b)=>match arith op a b with
   |some c=>match decide (k=p) with|true=>∃d,k.wrap c=d/\K (.v (.int k d)) S|false=>False
   |none=>match yp P op t (.int k a) (.int p b) with|some v=>zJ v λv=>K (.v v) S|none=>False
  |.v (.string a),.v (.string b)=>match op with|.add=>a.size+b.size<=9223372036854775807/\K (.v (.string (a++b))) S|_=>match yp P op t (.string a) (.string b) with|some v=>zJ v λv=>K (.v v) S|none=>False
  |.v a,.v b=>match yp P op t a b with|some v=>zJ v λv=>K (.v v) S|none=>False
  |_,_=>False
 |.unOp op _ x=>match op,Y.ev x with|.not,.v (.bool b)=>K (.v (.bool !b)) S|.neg,.v (.int k a)=>∃d,k.wrap (0-a)=d/\K (.v (.int k d)) S|_,_=>False
 |.convert src h x=>match P.underlying src,P.underlying h,Y.ev x with|some (.int _),some (.int k),.v (.int _ a)=>∃d,k.wrap a=d/\K (.v (.int k d)) S|some .string,some .string,.v (.string s)=>K (.v (.string s)) S|_,_,_=>False
 |.fieldAddr s x f=>match P.underlying s with
  |some (.struct m)=>match m[f]? with
   |some g=>match eR P g.type with
    |some (_+1)=>match Y.ev x with|.ip row=>K (.ip (row.drop g.offset)) S|.pt k sz i j=>K (.pt k sz i (j+g.offset)) S|_=>False
    |_=>False
   |none=>False
  |_=>False
 |.field t x f=>match P.underlying t with
  |some (.struct m)=>match m[f]? with
   |some g=>match Y.ev x with|.agg l=>bR (r_ P g.type l g.offset) λa=>K a S|_=>False
   |none=>False
  |_=>False
 |.indexAddr t x i=>match P.underlying t,Y.ev x,Y.ev i with
  |some (.slice e),.sl _ rows,.v (.int _ k)=>match eR P e with|some n=>bR (idx rows k) λrow=>(∀r∈rows,r.length=n)/\K (.ip row) S|none=>False
  |some (.slice e),.ob k sz off len _,.v (.int _ i)=>eR P e=some sz/\0<=i/\i<len/\K (.pt k sz (off+i.toNat) 0) S|some (.array len e),.pt k sz i j,.v (.int _ q)=>match eR P e with|some n=>0<=q/\q<len/\K (.pt k sz i (j+q.toNat*n)) S|none=>False
  |some (.array len e),.ip row,.v (.int _ q)=>match eR P e with|some n=>0<=q/\q<len/\K (.ip (row.drop (q.toNat*n))) S|none=>False
  |_,_,_=>False
 |.index t x i=>match P.underlying t,Y.ev x,Y.ev i with
  |some .string,.v (.string s),.v (.int _ k)=>bR (idx s.data.toList k) λb=>K (.v (.int .u8 b.toNat)) S|some (.array len e),.agg l,.v (.int _ q)=>match eR P e with|some n=>bR (r_ P e l (q.toNat*n)) λa=>0<=q/\q<len/\K a S|none=>False
  |_,_,_=>False
 |.slice t x u w A=>th P t K S (Y.ev x) (u.map Y.ev) (w.map Y.ev) (A.map Y.ev)|.extract x i=>match Y.ev x with
  |.aM l=>match l[i]? with|some a=>K a S|none=>False
  |_=>False
 |.makeSlice t l c=>match mc P t,Y.ev l,Y.ev c with
  |some e,.v (.int _ a),.v (.int _ b)=>match eL P e,eR P e,k_ P e with
   |some z,some sz,some B=>match Nat.beq z.cells.size sz&&Nat.blt 0 sz with|true=>0<=a/\a=b/\a*B<=35184372088832/\a<=9223372036854775807/\K (.ob S.nx sz 0 a.toNat none) (S.new (.arr sz (List.replicate a.toNat (z.cells.toList.map cT)) 0 true))|false=>False
   |_,_,_=>False
  |_,_,_=>False
 |.range t x=>match P.underlying t,Y.ev x with|some .string,.v (.string s)=>K (.pt S.nx 0 0 0) (S.new (.si s 0))|_,_=>False
 |.next x isStr=>match isStr,Y.ev x with
  |true,.pt k _ 0 0=>bR (PM S k) λo=>match o with|(s,pos)=>∃d,decide (pos<s.size)=d/\br d (K (.aM [.v (.bool true),.v (.int .i64 pos),.v (.int .i32 (Utf8.decode s pos).1)]) (S.set k (some (.si s (pos+(Utf8.decode s pos).2))))) (K (.aM [.v (.bool false)]) S)
  |_,_=>False
 |.makeFunc f first cap=>K (.fn f (first.toList.map Y.ev) (cap.toList.map Y.ev)) S|.nilCheck x=>match Y.ev x with|.ip c=>K (.ip c) S|.pt k sz i j=>K (.pt k sz i j) S|_=>False
 |.call c=>match c.callee with|.value f=>Ie P U K S (c.args.toList.map Y.ev) (Y.ev f)|.builtin b=>q_ P K S c.argTypes.toList (c.args.toList.map Y.ev) b|.invoke _ _=>False
 |_=>False
def xB(MQ:Array Oper)(Y:AA)(j:Nat):Option (Option Bool) :=match MQ[j]?.bind (·.dst) with
 |some t=>match Y.tm t with|.v (.bool b)=>some (some b)|.v (.tuple _)=>some none|_=>none
 |none=>none
def DA:List Oper->Nat->Option Tmp|[],_=>none|o::_,0=>o.dst|_::l,j+1=>DA l j
theorem PN:∀(l:List Oper)(j:Nat),DA l j=l[j]?.bind (·.dst)|[],j=>by simp[DA]|o::l,0=>by simp[DA]|o::l,j+1=>by simp[DA,PN l j]
def ydL(MQ:List Oper)(Y:AA)(j:Nat):Option (Option Bool) :=match DA MQ j with
 |some t=>match Y.tm t with|.v (.bool b)=>some (some b)|.v (.tuple _)=>some none|_=>none
 |none=>none
theorem FF{MQ:Array Oper}{Y:AA}:ydL MQ.toList Y j=xB MQ Y j:=by grind[ydL,xB,PN]
def tN(n:Nat)(d:Option Tmp):Bool:=match d with|some d=>Nat.blt d n|none=>true
theorem jk(b o j:Nat):(⟨b,o,none⟩:Addr).add j=⟨b,o+j,none⟩:=by unfold Addr.add;split<;>simp_all
section
variable{g:Gh}{S:ao}
theorem oB(h:eR P t=some n):∃i,P.info? t=some i/\i.size=n:=by unfold eR at h;let⟨i,a,e⟩:=bh_.1 h;exact⟨i,a,e⟩
theorem dk(h:eR P t=some n):(sizeOf t).run P w=.ok n w:=by obtain⟨i,a,rfl⟩:=oB h;simp[sizeOf,typeInfo,a]
theorem rf{z:Value}(h:eL P t=some z):(zeroValue t).run P w=.ok z w:=by unfold eL at h;let⟨i,a,e⟩:=cQ_.1 h;simp[zeroValue,typeInfo,a,e]
theorem DC{b:Bool}(h:Wu P t=some b):(isAgg t).run P w=.ok b w:=by unfold Wu at h;cases a:P.underlying t with|none=>rw[a]at h;cases h|some d =>rw[a]at h;simp only[isAgg,Sem.run_bind,run_underlying a,Result.andThen_ok];cases d<;>simp_all
def Cells(g:Gh)(w:World)(b o:Nat)(row:List AV):Prop:=∀(j:Nat)(a:AV),row[j]?=some a->∃x,w.cell? ⟨b,o+j,none⟩=some x/\aT g w a x
theorem Cells.list{b:Nat}:∀{row:List AV}{o:Nat},Cells g w b o row->∃cs:List Value,cs.length=row.length/\(∀j x,cs[j]?=some x->w.cell? ⟨b,o+j,none⟩=some x)/\∀(j:Nat)(a:AV)(x:Value),row[j]?=some a->cs[j]?=some x->aT g w a x|[],o,h=>⟨[],rfl,λj x e=>Z,λj a x d=>Z⟩|a::row,o,h=>by let⟨x,e,i⟩:=h 0 a rfl;obtain⟨cs,k,l,m⟩:=Cells.list (row:=row) (o:=o+1) (λj a d=>by let⟨y,c,f⟩:=h (j+1) a (by grind);exact⟨y,by rw[<-c];congr 2;omega,f⟩);refine⟨x::cs,Z,λj y c=>?_,λj n y d c=>?_⟩;grind;grind
theorem Cells.drop{o:Nat}{row:List AV}(h:Cells g w b o row)(j:Nat):Cells g w b (o+j) (row.drop j):=λi a c=>by rw[cs_]at c;let⟨x,e,d⟩:=h (j+i) a c;exact⟨x,Z,d⟩
theorem Cells.take{o:Nat}{row:List AV}(h:Cells g w b o row)(n:Nat):Cells g w b o (row.take n):=λi a c=>by rw[bJ_]at c;split at c;exact h i a c;grind
theorem Uv(row:List AV)(j n:Nat):Wv row j n=(row.drop j).take n:=by unfold Wv;split;rename_i h;have:=aT_ h;subst this;simp;rfl
theorem IZ{row:List AV}{o:Nat}{r:AV}(h:r_ P t row j=some r)(e:Cells g w b o row):∃x,(loadVar t ⟨b,o+j,none⟩).run P w=.ok x w/\aT g w r x:=by unfold r_ at h;split at h;rename_i n c k;split at h;rename_i d;have d:=aA_ d;cases oJ_ h;rw[Uv];let⟨cs,q,s,l⟩:=((e.drop j).take n).list;have m:cs.length=n:=Z;refine⟨.agg cs.toArray,?_,.agg Z λi a x c f=>l i a x c Z⟩;have:=run_loadCells_list (P:=P) (w:=w) ⟨b,o+j,none⟩ cs (λi v u=>by grind[jk]);simp only[loadVar,Sem.run_bind,DC c,Result.andThen_ok,if_true,dk k];rw[<-m,this];rfl;grind;rename_i c;let⟨x,f,p⟩:=e j r h;refine⟨x,?_,p⟩;simp only[loadVar,Sem.run_bind,DC c,Result.andThen_ok,if_false,bz_,run_load,f];grind
theorem YH{c:Nat}{rows:List (List AV)}{fz:Nat}(h:fM g w b c (.arr sz rows fz ex)){i:Nat}{row:List AV}(d:rows[i]?=some row):Cells g w b (i*sz) row:=by let⟨cs,e,f,o,p,q,k,r,s⟩:=h;intro j a l;let⟨x,m,n⟩:=(k i row d).2 j a l;exact⟨x,by rw[cell_of_row _ _ _ cs e (0,0) f];exact m,n⟩
theorem JM{cs:List AV}(h:aT g w (.ip cs) v):∃b o,v=.pointer (some ⟨b,o,none⟩)/\Cells g w b o cs:=by cases h with|ip h d=>exact⟨_,_,rfl,λj a c=>⟨_,(h j a c).2,d j a c⟩⟩
theorem I0{a r:AV}(d:St U A g S w)(h:A6 P S t a=some r)(e:aT g w a v):∃b o x,v=.pointer (some ⟨b,o,none⟩)/\(loadVar t ⟨b,o,none⟩).run P w=.ok x w/\aT g w r x:=by
 unfold A6 at h;split at h;grind[JM,IZ];rename_i k sz i j;split at h;rename_i f rows fz ex l;split at h;rename_i c;have c:=aT_ c;subst c;split at h;rename_i row m;cases e with|pt n =>let⟨x,p,q⟩:=IZ h (YH (d.dh k _ l n).2.2 m);exact⟨_,_,x,rfl,p,q⟩
 grind;grind;grind;grind
theorem DD{a:AV}(h:dv a=true)(b:aT g w a x):x.oneCell'=true:=by cases b<;>simp_all[dv,Value.oneCell']
theorem u0{a:AV}(h:(bB a).all dv=true)(f:aT g w a x):x.cells.size=(bB a).length/\(∀(i:Nat)(b:AV)(y:Value),(bB a)[i]?=some b->x.cells[i]?=some y->aT g w b y)/\∀y∈x.cells.toList,y.oneCell'=true:=by
 have one:bB a=[a]->x.cells.size=(bB a).length/\∀(i:Nat)(b:AV)(y:Value),(bB a)[i]?=some b->x.cells[i]?=some y->aT g w b y:=by
  intro e;rw[e]at h⊢;have c:x.oneCell'=true:=DD Z f;have k:x.cells=#[x]:=by cases x<;>simp_all[Value.cells,Value.oneCell']
  rw[k];refine⟨rfl,λi b y c d=>?_⟩;cases i with|zero=>simp at c d;subst c d;exact f|succ i=>simp at c
 have key:x.cells.size=(bB a).length/\∀(i:Nat)(b:AV)(y:Value),(bB a)[i]?=some b->x.cells[i]?=some y->aT g w b y:=by cases a with
  |agg l=>cases f with|agg m n=>exact⟨m,n⟩
  |_=>exact one rfl
 refine⟨key.1,key.2,λy o=>?_⟩;obtain⟨i,p,rfl⟩:=List.getElem_of_mem o;have j:i<(bB a).length:=Z;have c:(bB a)[i]?=some (bB a)[i]:=ax_ j;have d:x.cells[i]?=some x.cells.toList[i]:=Z;exact DD (bb_.1 h _ (cR_ j)) (key.2 i _ _ c d)
theorem Mn(row:List AV)(j:Nat)(cs:List AV):sU row j cs=row.take j++cs++row.drop (j+cs.length):=by unfold sU;split;rename_i h;have:=aT_ h;simp[this];rfl
theorem I1{row:List AV}{cs:List AV}(h:j+cs.length<=row.length):(sU row j cs).length=row.length:=by grind[Mn]
theorem Cy(row cs:List Y)(j:Nat)(h:j+cs.length<=row.length)(q:Nat):(row.take j++cs++row.drop (j+cs.length))[q]?=if q<j then row[q]? else if q<j+cs.length then cs[q-j]? else row[q]?:=Z
theorem FG{a b:AV}{S':ao}(T:St U A g S w)(h:uZ P S t b a=some S')(hv:aT g w a v)(hx:aT g w b x):∃c o w',v=.pointer (some ⟨c,o,none⟩)/\(storeVar t ⟨c,o,none⟩ x).run P w=.ok () w'/\S'.nx=S.nx/\Ext A g w g w'/\St U A g S' w':=by
 unfold uZ at h;split at h;rename_i k sz i j;split at h;rename_i sz' rows ex V;split at h;rename_i W;simp only[aw_]at W;let⟨⟨K,ko⟩,C⟩:=W;have K:=aT_ K;subst K;split at C;rename_i n hs;have C:=aT_ C;split at h;rename_i row E;split at h;rename_i l;have l:=aA_ l;cases oJ_ h;let⟨r,L,M⟩:=u0 ko hx;cases hv with|pt az =>
  let⟨k2,k3,k4⟩:=T.dh k _ V az;let⟨cs,N,Q,h2,h3,h4,s,h6,h7⟩:=k4;have Uw:i<rows.length:=(aC_.1 E).1;have gK:=(s i row E).1;have hmul:i*sz+sz<=rows.length*sz:=by have:=aZ_ sz (show i+1<=rows.length from Uw);rwa[aR_,bQ_]at this
  have azC:rows.length*sz<=g.cp k*sz:=aZ_ sz h3;have kp:i*sz+j+0+x.cells.toList.length<=cs.size:=Z;have R:=run_storeCells_at P (g.ob k) (i*sz+j) N x.cells.toList 0 cs w Q kp M;simp only[bE_]at R;let⟨cs',FH⟩:=au (cs.toList.take (i*sz+j)++x.cells.toList++cs.toList.drop (i*sz+j+x.cells.toList.length)).toArray;rw[<-FH]at R;have rh:∀q,cs'[q]?=if q<i*sz+j then cs[q]? else if q<i*sz+j+(bB b).length then x.cells[q-(i*sz+j)]? else cs[q]?:=by intro q;rw[FH,ct_,Cy _ _ _ Z];simp only[bq_,bu_,r]
  have Hf:cs'.size=cs.size:=Z;let⟨hE,dR⟩:=T.row V az Q (cs':=cs') (ob:=.arr sz (rows.set i (sU row j (bB b))) 0 ex) (λJ=>⟨aE,aE⟩) (λq hq=>absurd ((h7 q).1 hq) aE) (λF=>by
   refine⟨cs',N,setRow_heap w _ cs cs' N (0,0) Q,Hf.trans h2,Z,λhe=>Z,λm bW u=>?_,aF_ _,h7⟩;by_cases e:m=i;subst e;rw[dE_ Uw]at u;cases oJ_ u;refine⟨(I1 l).trans gK,λd G f=>?_⟩;rw[Mn,Cy _ _ _ l]at f;rw[rh];by_cases c1:d<j;rw[if_pos c1]at f;rw[if_pos X];let⟨y,p,z⟩:=(s _ row E).2 d G f;exact⟨y,p,z.later F⟩;rw[if_neg c1]at f;rw[if_neg X];by_cases c2:d<j+(bB b).length;rw[if_pos c2]at f;rw[if_pos X,show m*sz+d-(m*sz+j)=d-j by omega];have B:d-j<x.cells.size:=Z;exact⟨x.cells[d-j],aM_ B,(L _ _ _ f (aM_ B)).later F⟩;rw[if_neg c2]at f;rw[if_neg X];let⟨y,p,z⟩:=(s _ row E).2 d G f;exact⟨y,p,z.later F⟩;rw[dF_ (Ne.symm e)]at u;refine⟨(s m bW u).1,λd G f=>?_⟩;let⟨y,p,z⟩:=(s m bW u).2 d G f;have nB:d<sz:=Z;refine⟨y,?_,z.later F⟩;rw[rh];rcases Nat.lt_or_gt_of_ne e with c|c;have:m*sz+sz<=i*sz:=by have:=aZ_ sz (show m+1<=i from c);rwa[aR_,bQ_]at this
   rw[if_pos X];exact p;have:i*sz+sz<=m*sz:=by have:=aZ_ sz (show i+1<=m from c);rwa[aR_,bQ_]at this
   rw[if_neg X,if_neg X];exact p);refine⟨_,_,_,rfl,?_,rfl,hE,dR⟩;have e:x.cells.size=n:=r.trans C.symm;simp only[storeVar,Sem.run_bind,dk hs,Result.andThen_ok,e,ne_eq,not_true,if_false];exact R
 grind;grind;grind;grind;grind;grind
end
inductive Mo{Y β:Type}(R:Y->β->Prop):List Y->List β->Prop where|nil:Mo R [] []|cons {a:Y}{b:β}{l:List Y}{m:List β}(h:R a b) (t:Mo R l m):Mo R (a::l) (b::m)
section
variable{g:Gh}{S:ao}
theorem FI(off:Nat):∀(l:List Value)(k:Nat)(cs:Array Value),((l.zipIdx k).foldl (λcs (p:Value×Nat)=>cs.setIfInBounds (off+p.2) p.1) cs).size=cs.size /\(off+k+l.length<=cs.size->∀q,((l.zipIdx k).foldl (λcs (p:Value×Nat)=>cs.setIfInBounds (off+p.2) p.1) cs)[q]?=if q<off+k then cs[q]? else if q<off+k+l.length then l[q-(off+k)]? else cs[q]?)|[],k,cs=>⟨rfl,λ_ q=>by simp only[bd_,bE_,List.zipIdx_nil,List.foldl_nil];split<;>first|rfl|rename_i c;rw[if_neg c]⟩|v::l,k,cs=>by let⟨d,b⟩:=FI off l (k+1) (cs.setIfInBounds (off+k) v);simp only[List.zipIdx_cons,dn_];refine⟨Z,λa q=>?_⟩;simp only[aH_]at a;rw[b Z q];simp only[dm_,aH_];by_cases e:q<off+k;grind;grind
def tY(g:Gh)(w:World)(l:List AV)(cs:Array Value):Prop:=cs.size=l.length/\∀(i:Nat)(a:AV)(x:Value),l[i]?=some a->cs[i]?=some x->aT g w a x
theorem tY.cT(cs:Array Value):tY g w (cs.toList.map cT) cs:=by refine⟨aE,λi a x b c=>?_⟩;simp only[bc_,bh_]at b;obtain⟨y,d,rfl⟩:=b;have:some x=some y:=Z;cases oJ_ this;exact qZ x
theorem tY.lay{l:List AV}(h:tY g w l cs){a:AV}(f:(bB a).all dv=true)(j:aT g w a x){off:Nat}(e:off+(bB a).length<=l.length)(hs:cs'.size=cs.size)(k:∀q,cs'[q]?=if q<off then cs[q]? else if q<off+x.cells.size then x.cells[q-off]? else cs[q]?):tY g w (sU l off (bB a)) cs':=by let⟨m,n,o⟩:=u0 f j;refine⟨by rw[hs,h.1,I1 e],λi b y c d=>?_⟩;rw[Mn,Cy _ _ _ e]at c;rw[k,m]at d;by_cases d1:i<off;rw[if_pos d1]at c d;exact h.2 i b y c d;rw[if_neg d1]at c d;by_cases d2:i<off+(bB a).length;grind;rw[if_neg d2]at c d;exact h.2 i b y c d
theorem DF{place:Nat->Option (Nat×Nat)}:∀{parts:List (Nat×AV)}{k:List (Nat×Value)}{l r:List AV}{cs:Array Value},Dz place l parts=some r->tY g w l cs ->Mo (λ(p:Nat×AV) (q:Nat×Value)=>p.1=q.1/\aT g w p.2 q.2) parts k->∃cs',Instr.fill place cs k=some cs'/\tY g w r cs'|[],_,l,r,cs,h,b,c=>by cases c;cases oJ_ h;exact⟨cs,rfl,b⟩|(i,a)::C,_,l,r,cs,h,b,c=>by cases c with|@cons _ q _ E t u =>
   let⟨j,x⟩:=q;let⟨e,d⟩:=t;simp only at e d;subst e;simp only[Dz]at h;split at h;rename_i off size v;split at h;rename_i m;simp only[aw_]at m;let⟨⟨n,o⟩,s⟩:=m;have n:=aT_ n;have o:=aA_ o;let⟨y,F,G⟩:=u0 s d;have f:=FI off x.cells.toList 0 cs;have J:off+x.cells.size<=cs.size:=by rw[b.1,y];omega
   have f2:=f.2 Z;have z:=b.lay (cs':=(x.cells.toList.zipIdx 0).foldl (λcs (p:Value×Nat)=>cs.setIfInBounds (off+p.2) p.1) cs) (off:=off) s d X f.1 λq=>Z;let⟨cs',A,B⟩:=DF h z u;refine⟨cs',?_,B⟩;rw[<-A];simp only[Instr.fill,v];rw[if_neg Z];congr 1;rw[<-do_,dG_];grind;grind
def A7{n:Nat}{Y:AA}{a:Act}(b:cR g w n Y a):∀(parts:List (Nat×Operand)),Mo (λ(p:Nat×AV) (q:Nat×Value)=>p.1=q.1/\aT g w p.2 q.2) (parts.map λ(i,x)=>(i,Y.ev x)) (parts.map λ(i,x)=>(i,a.eval x))|[]=>.nil|(i,x)::c=>.cons ⟨rfl,b.ev x⟩ (A7 b c)
theorem Nx:∀(fs:List Field),(fs.all λ(f:Field)=>(eR P f.type).isSome)=true->∃pl:List (Nat×Nat),fs.mapM (λ(f:Field)=>(P.info? f.type).map λi=>(f.offset,i.size))=some pl /\∀i:Nat,pl[i]?=match fs[i]? with|some f=>(match eR P f.type with|some n=>some (f.offset,n)|none=>none)|none=>none
 |[],_=>⟨[],aE,λi=>aE⟩|f::fs,h=>by simp only[aL_,aw_]at h;let⟨n,a⟩:=dp_.1 h.1;let⟨pl,c,d⟩:=Nx fs h.2;have b:=a;unfold eR at b;let⟨i,g,e⟩:=bh_.1 b;refine⟨(f.offset,n)::pl,by simp[List.mapM_cons,g,c,e],λi=>?_⟩;cases i with|zero=>simp[a]|succ i=>simpa using d i
theorem TZ{Y:AA}{t:TypeId}{parts:Array (Nat×Operand)}{r:AV}(u:cR g w n Y a)(h:zI P t (parts.toList.map λ(i,x)=>(i,Y.ev x))=some r):∃v,(Instr.build t (parts.map λ(i,x)=>(i,a.eval x))).run P w=.ok v w/\aT g w r v:=by
 have o:=A7 u parts.toList;unfold zI at h;split at h;rename_i cs y;have b:=y;unfold eL at b;let⟨it,p,q⟩:=cQ_.1 b;split at h;rename_i s f;split at h;rename_i z;obtain⟨l,j,rfl⟩:=bh_.1 h;let⟨cs',d,c⟩:=DF j (tY.cT cs) o;let⟨pl,A,B⟩:=Nx s.toList z;refine⟨.agg cs',run_build w t _ cs' ?_,.agg c.1 c.2⟩;have e:PK P s=λx=>pl.toArray[x]?:=by funext i;rw[ct_,B i,bq_];rfl
 rw[e]at d;simp only[Program.built,p,f,q,A,bY_];exact d;grind;rename_i len e f;split at h;rename_i m C;obtain⟨l,j,rfl⟩:=bh_.1 h;let⟨cs',d,c⟩:=DF j (tY.cT cs) o;refine⟨.agg cs',run_build w t _ cs' ?_,.agg c.1 c.2⟩;obtain⟨E,k,rfl⟩:=oB C;simp only[Program.built,p,f,q,k,bY_];exact d;grind;grind;grind
end
end Go.Proofs.YtbdcmpknicjopaaGreat
