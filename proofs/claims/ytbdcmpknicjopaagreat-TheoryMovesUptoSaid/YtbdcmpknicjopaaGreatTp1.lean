import Derived.Below
import Derived.CallsIn
import Derived.Laws.AppendOwn
import Derived.Laws.Cells
import Derived.Laws.CopyRow
import Derived.Laws.NewBlocks
import Derived.Laws.Rows
import Derived.Laws.Tables
import Derived.Laws.World
import Derived.RangeFuncCalls
import Derived.RangeFuncIn
import Derived.RangeFuncLeaves
import Derived.Room.Entries
namespace Go.Proofs.YtbdcmpknicjopaaGreat
set_option linter.all false
open Go.RowKit
variable{A:Nat->Prop}{F:Fence}{K:Value->Prop}{P:Program}{Q:Exit->Act->World->Prop}{Y w w':World}{a:Act}{b j m n sz:Nat}{c d:Code}{cs cs':Array Value}{o:Obj}{p:Prop}{t:TypeId}{v x:Value}
def ad_:=@Nat.le_refl
def al_:=@List.mem_cons
def aq_:=@List.drop_eq_nil_of_le
def ar_:=@List.mem_singleton
def as_:=@List.mem_of_getElem?
def au_:=@Bool.and_eq_true
def av_:=@List.length_append
def aw_:=@List.getElem?_eq_getElem
def ax_:=@List.not_mem_nil
def ay_:=@Nat.le_of_ble_eq_true
def az_:=@Bool.true_and
def aA_:=@Nat.le_trans
def aB_:=@List.getElem?_eq_some_iff
def aC_:=@List.length_cons
def aD_:=@List.mem_map
def aE_:=@Nat.lt_of_lt_of_le
def aF_:=@Nat.zero_le
def aG_:=@Nat.zero_add
def aH_:=@List.map_cons
def aI_:=@List.append_nil
def aJ_:=@List.all_cons
def aK_:=@Option.map_some
def aL_:=@Nat.add_mul
def aM_:=@Array.getElem?_eq_getElem
def aN_:=@List.mem_append
def aO_:=@List.nil_append
def aP_:=@List.cons_append
def aQ_:=@List.map_congr_left
def aR_:=@List.drop_of_length_le
def aS_:=@Nat.eq_of_beq_eq_true
def aT_:=@Nat.mul_le_mul_right
def aU_:=@List.mem_range
def aV_:=@List.map_nil
def aW_:=@List.flatMap_cons
def aX_:=@List.take_of_length_le
def aY_:=@List.getElem?_map
def aZ_:=@List.all_eq_true
def ba_:=@List.map_append
def bb_:=@Option.map_eq_some_iff
def bc_:=@List.length_take
def bd_:=@Nat.zero_mul
def be_:=@Array.getD_eq_getD_getElem?
def bf_:=@List.length_singleton
def bg_:=@List.length_drop
def bh_:=@Array.getElem?_toList
def bi_:=@List.length_nil
def bj_:=@List.getElem?_append_left
def bk_:=@List.map_map
def bl_:=@List.all_nil
def bm_:=@Nat.lt_succ_self
def bn_:=@List.append_assoc
def bo_:=@Array.length_toList
def bp_:=@Int.le_refl
def bq_:=@List.length_map
def br_:=@List.length_set
def bs_:=@Bool.false_and
def bt_:=@Option.map_none
def bu_:=@List.flatMap_nil
def bv_:=@List.getElem?_append_right
def bw_:=@Bool.false_eq_true
def bx_:=@Nat.one_mul
def bz_:=@Nat.add_zero
def bA_:=@List.length_replicate
def bB_:=@List.size_toArray
def bC_:=@List.mem_of_mem_take
def bD_:=@List.drop_zero
def bE_:=@Nat.beq_refl
def bF_:=@Nat.lt_or_ge
def bG_:=@Bool.and_true
def bH_:=@Bool.eq_iff_iff
def bI_:=@List.any_cons
def bJ_:=@Nat.le_succ
def bK_:=@List.getElem?_take
def bL_:=@Nat.add_assoc
def bM_:=@List.drop_eq_getElem_cons
def bN_:=@Bool.and_false
def bO_:=@Option.getD_some
def bP_:=@List.length_eq_zero_iff
def bQ_:=@List.nodup_cons
def bR_:=@List.contains_iff_mem
def bS_:=@Array.getElem?_append_left
def bT_:=@List.mem_filter
def bU_:=@Nat.lt_irrefl
def bV_:=@Array.toList_map
def bW_:=@Array.getElem?_map
def bX_:=@Nat.mul_comm
def bY_:=@Nat.le_of_eq
def bZ_:=@Nat.zero_lt_one
def ca_:=@Nat.ble_eq_true_of_le
def cb_:=@List.take_add_one
def cc_:=@Array.getElem?_range
def cd_:=@Nat.mul_add_mod
def ce_:=@Nat.mod_eq_of_lt
def cf_:=@Bool.or_eq_true
def cg_:=@Bool.not_eq_true'
def ch_:=@List.pairwise_cons
def ci_:=@List.range_eq_range'
def cj_:=@List.filter_cons
def ck_:=@Iff.rfl
def cl_:=@Nat.le_max_right
def cm_:=@Nat.le_max_left
def cn_:=@Bool.eq_false_iff
def co_:=@Int.toNat_zero
def cp_:=@Bool.and_assoc
def cq_:=@List.mem_of_find?_eq_some
def cr_:=@Nat.lt_succ_of_lt
def cs_:=@List.getElem?_toArray
def ct_:=@List.getElem?_cons_zero
def cu_:=@Nat.le_mul_of_pos_right
def cv_:=@List.getElem?_of_mem
def cw_:=@List.mem_of_mem_drop
def cx_:=@Nat.sub_self
def cy_:=@Bool.true_or
def cz_:=@Array.getElem?_eq_some_iff
def cA_:=@List.of_mem_zip
def cB_:=@List.getElem?_zip_eq_some
def cC_:=@List.find?_cons
def cD_:=@Array.mem_toList_iff
def cE_:=@Nat.lt_trans
def cF_:=@Bool.or_true
def cG_:=@List.length_zip
def cH_:=@List.length_range
def cI_:=@Nat.min_eq_left
def cJ_:=@Bool.not_false
def cK_:=@Option.bind_eq_some_iff
def cL_:=@List.getElem?_drop
def cM_:=@List.getElem_mem
def cN_:=@List.flatten_cons
def cO_:=@List.getElem?_cons_succ
def cP_:=@Array.size_append
def cQ_:=@List.getElem_replicate
def cR_:=@List.pairwise_append
def cS_:=@Bool.not_true
def cT_:=@Array.getElem?_replicate
def cU_:=@List.range'_succ
def cV_:=@Bool.and_self
def cW_:=@List.map_take
def cX_:=@List.contains_cons
def cY_:=@List.zip_cons_cons
def cZ_:=@List.set_append_right
def da_:=@Array.replicate_succ
def db_:=@Array.replicate_zero
def dc_:=@List.push_toArray
def dd_:=@List.append_toArray
def de_:=@Bool.not_eq_true
def df_:=@Int.zero_sub
def dg_:=@List.map_id
def dh_:=@List.any_nil
def di_:=@Nat.le_of_not_lt
def dj_:=@Array.getElem?_setIfInBounds
def dk_:=@List.foldl_cons
def dl_:=@Array.foldl_toList
def dm_:=@Option.isSome_iff_exists
def dn_:=@List.getElem?_replicate
def do_:=@Array.getElem?_append_right
def dp_:=@Int.toNat_natCast
def dq_:=@List.getElem?_eq_none
def dr_:=@List.singleton_append
def ds_:=@Bool.and_eq_false_iff
def dt_:=@List.map_drop
def du_:=@List.take_append_drop
def dv_:=@List.mem_iff_getElem?
def dw_:=@List.ext_getElem?
def dx_:=@List.zip_nil_left
def dy_:=@Array.toArray_toList
def dz_:=@List.mem_flatMap
def dA_:=@List.drop_left
def dB_:=@Int.natAbs_tdiv_le_natAbs
def dC_:=@Nat.pow_le_pow_right
def dD_:=@List.getElem?_set_self
def dE_:=@List.getElem?_set_ne
def dF_:=@Array.toList_zipIdx
def dG_:=@List.exists_cons_of_ne_nil
def dH_:=@List.length_pos_iff
def dI_:=@Array.mapM_eq_mapM_toList
def dJ_:=@List.length_erase_of_mem
def dK_:=@List.Pairwise.imp_of_mem
def dL_:=@List.pairwise_lt_range
def dM_:=@Option.map_eq_none_iff
def dN_:=@List.dropLast_concat
def dO_:=@Nat.mul_le_mul_left
def dP_:=@Classical.byContradiction
def dQ_:=@Array.getElem?_push
def dR_:=@Array.getElem?_modify
def dS_:=@List.getElem?_eq_none_iff
def dT_:=@List.mergeSort_perm
def dU_:=@List.pairwise_mergeSort
def dV_:=@List.length_mergeSort
def dW_:=@List.take_append_of_le_length
def dX_:=@Int.eq_ofNat_of_zero_le
def dY_:=@List.flatten_append
def dZ_:=@List.length_filter_le
def ea_:=@Bool.and_eq_true_iff
variable{ex:Bool}{U:Type}
theorem oJ_{U:Type _}{a b:U}(h:some a=some b):a=b:=Option.some.inj h
theorem oI_{U:Type _}(a b:U):(some a=some b)=(a=b):=Option.some.injEq a b
theorem pI_{U:Type _}{β:Type _}(a:U)(b:β)(c:U)(d:β):((a,b)=(c,d))=(a=c∧b=d):=Prod.mk.injEq a b c d
theorem Z(h:p:=by omega):p:=h
theorem aD(h:p:=by decide):p:=h
theorem X(h:p:=by grind):p:=h
theorem aB(h:p:=by simp):p:=h
def aq{U:Sort _}(a:U):∃x,x=a:=⟨a,rfl⟩
theorem dy{q:Prop}(h:p)(g:¬p:=by decide):q:=absurd h g
inductive AV where|u|v (x:Value)|agg (cs:List AV)|aL (cs:List AV)|sl (ex:Bool) (rows:List (List AV))|ip (cs:List AV)|ob (k sz off len:Nat) (cx:Option Nat)|pt (k sz i j:Nat)|mp (k:Nat)|fn (f:Fn) (first cap:List AV)|yl (k:Nat)|gr (k sz len:Nat)
inductive Ob where|arr (sz:Nat) (rows:List (List AV)) (fz:Nat) (ex:Bool)|mp (es:List (Value×AV))|mb (es:List (Value×AV))|lp (st:LoopState) (pJ:Option Code) (tm:Nat->AV) (ps:Array Tmp) (assign body:Code)|df|si (s:ByteArray) (pos:Nat)|fo (J:Nat->(Nat->Nat->Prop)->(Nat->Prop)->World->Prop)|un
structure ah where
 get:Nat->Option Ob
 nx:Nat
def bJ{U:Type}(f:Nat->U)(d:Nat)(a:U):Nat->U:=λt=>match Nat.beq t d with|true=>a|false=>f t
theorem aG(f:Nat->U)(d:Nat)(a:U):bJ f d a d=a:=by simp only[bJ,bE_]
theorem aN(f:Nat->U){d t:Nat}(a:U)(h:t≠d):bJ f d a t=f t:=by
 have e:Nat.beq t d=false:=by cases b:Nat.beq t d with|false=>rfl|true=>exact absurd (aS_ b) h
 simp only[bJ,e]
def ah.set(S:ah)(k:Nat)(o:Option Ob):ah:=⟨bJ S.get k o,S.nx⟩
def ah.none_:ah:=⟨λ_=>none,0⟩
structure Gh where
 ob:Nat->Nat
 cp:Nat->Nat
 al:Nat->Prop
 fz:Nat->Nat->Prop
 fo:Nat->Nat->Prop
inductive aO(g:Gh)(w:World):AV->Value->Prop where|u {x:Value}:aO g w .u x|v {x:Value}:aO g w (.v x) x|agg {l:List AV}{cs:Array Value}(hs:cs.size=l.length) (h:∀(i:Nat)(a:AV)(x:Value),l[i]?=some a->cs[i]?=some x->aO g w a x):aO g w (.agg l) (.agg cs)|aL {l:List AV}{cs:Array Value}(hs:cs.size=l.length) (h:∀(i:Nat)(a:AV)(x:Value),l[i]?=some a->cs[i]?=some x->aO g w a x):aO g w (.aL l) (.tuple cs)|nil {ex:Bool}{A:Option Addr}{c:Nat}(hc:ex=true->c=0):aO g w (.sl ex []) (.slice A 0 c)|sl {ex:Bool}{rows:List (List AV)}{b o sz c:Nat}{val:Nat->Nat->Value}(hn:rows≠[]) (hc:ex=true->c=rows.length) (hle:rows.length<=c)(hl:∀(i:Nat)(row:List AV),rows[i]?=some row->row.length=sz)(h:∀(i j:Nat)(row:List AV)(a:AV),rows[i]?=some row->row[j]?=some a->g.fz b (o+(i*sz+j))/\w.cell? ⟨b,o+(i*sz+j),none⟩=some (val i j))(hr:∀(i j:Nat)(row:List AV)(a:AV),rows[i]?=some row->row[j]?=some a->aO g w a (val i j)):aO g w (.sl ex rows) (.slice (some ⟨b,o,none⟩) rows.length c)|ip {cs:List AV}{b o:Nat}{val:Nat->Value}(h:∀(j:Nat)(a:AV),cs[j]?=some a->g.fz b (o+j)/\w.cell? ⟨b,o+j,none⟩=some (val j))(hr:∀(j:Nat)(a:AV),cs[j]?=some a->aO g w a (val j)):aO g w (.ip cs) (.pointer (some ⟨b,o,none⟩))|ob {k sz off len c:Nat}{cx:Option Nat}(hk:g.al k) (hc:∀n,cx=some n->c=n) (hp:off+c<=g.cp k) (hx:cx=none->off+c=g.cp k) (hle:len<=c):aO g w (.ob k sz off len cx) (.slice (some ⟨g.ob k,off*sz,none⟩) len c)|pt {k sz i j:Nat}(hk:g.al k):aO g w (.pt k sz i j) (.pointer (some ⟨g.ob k,i*sz+j,none⟩))|mp {k:Nat}(hk:g.al k):aO g w (.mp k) (.map (some (g.ob k)))|fn {f:Fn}{l m:List AV}{cs ds:Array Value}(h1:cs.size=l.length) (h2:ds.size=m.length) (h3:∀(i:Nat)(a:AV)(x:Value),l[i]?=some a->cs[i]?=some x->aO g w a x)(h4:∀(i:Nat)(a:AV)(x:Value),m[i]?=some a->ds[i]?=some x->aO g w a x):aO g w (.fn f l m) (.func f cs ds)|yl {k:Nat}(hk:g.al k):aO g w (.yl k) (.func (.yield (g.ob k)) #[] #[])|lH {k sz:Nat}{A:Option Addr}:aO g w (.gr k sz 0) (.slice A 0 0)|gr {k sz len c:Nat}(hk:g.al k) (hx:c=g.cp k) (hle:len<=c):aO g w (.gr k sz len) (.slice (some ⟨g.ob k,0,none⟩) len c)
structure Later(g:Gh)(w:World)(g':Gh)(w':World):Prop where
 al:∀k,g.al k->g'.al k
 ob:∀k,g.al k->g'.ob k=g.ob k
 cp:∀k,g.al k->g'.cp k=g.cp k
 fz:∀b o,g.fz b o->g'.fz b o
 cell:∀b o,g.fz b o->w'.cell? ⟨b,o,none⟩=w.cell? ⟨b,o,none⟩
theorem aO.later{g g':Gh}(b:Later g w g' w'){a:AV}(h:aO g w a x):aO g' w' a x:=by induction h with|u=>exact .u|v=>exact .v|agg m h f=>exact .agg m f|aL m h f=>exact .aL m f|nil k=>exact .nil k|sl o k d p h q f =>exact .sl o k d p (λi j row a e l=>⟨b.fz _ _ (h i j row a e l).1,(b.cell _ _ (h i j row a e l).1).trans (h i j row a e l).2⟩) f|ip h q f=>exact .ip (λj a e=>⟨b.fz _ _ (h j a e).1,(b.cell _ _ (h j a e).1).trans (h j a e).2⟩) f|ob c k r n d=>rw[<-b.ob _ c];exact .ob (b.al _ c) k (by rw[b.cp _ c];exact r) (by rw[b.cp _ c];exact n) d|pt c=>rw[<-b.ob _ c];exact .pt (b.al _ c)|mp c=>rw[<-b.ob _ c];exact .mp (b.al _ c)|fn e l y z s t=>exact .fn e l s t|yl c=>rw[<-b.ob _ c];exact .yl (b.al _ c)|lH=>exact .lH|gr c n d=>rw[<-b.ob _ c];exact .gr (b.al _ c) (by rw[b.cp _ c];exact n) d
def Later.refl(g:Gh)(w:World):Later g w g w:=⟨λ_ h=>h,λ_ _=>rfl,λ_ _=>rfl,λ_ _ h=>h,λ_ _ _=>rfl⟩
def Later.trans{d g2 e:Gh}{f g i:World}(h:Later d f g2 g)(k:Later g2 g e i):Later d f e i :=⟨λj a=>k.al j (h.al j a),λj a=>(k.ob j (h.al j a)).trans (h.ob j a),λj a=>(k.cp j (h.al j a)).trans (h.cp j a),λb o c=>k.fz b o (h.fz b o c),λb o c=>(k.cell b o (h.fz b o c)).trans (h.cell b o c)⟩
inductive Pure:AV->Prop where|v {x:Value}:Pure (.v x)|agg {l:List AV}(h:∀a∈l,Pure a):Pure (.agg l)|aL {l:List AV}(h:∀a∈l,Pure a):Pure (.aL l)|sl {ex:Bool}{rows:List (List AV)}(h:∀row∈rows,∀a∈row,Pure a):Pure (.sl ex rows)|ip {cs:List AV}(h:∀a∈cs,Pure a):Pure (.ip cs)|fn {f:Fn}{l m:List AV}(h3:∀a∈l,Pure a) (h4:∀a∈m,Pure a):Pure (.fn f l m)
theorem aO.pure{g g':Gh}(n:∀b o,g.fz b o->g'.fz b o)(k:∀b o,g.fz b o->w'.cell? ⟨b,o,none⟩=w.cell? ⟨b,o,none⟩){a:AV}(h:aO g w a x)(d:Pure a):aO g' w' a x:=by induction h with
 |u=>cases d|v=>exact .v|agg l h f=>cases d with|agg d=>exact .agg l λi a x c e=>f i a x c e (d _ (as_ c))
 |aL l h f=>cases d with|aL d=>exact .aL l λi a x c e=>f i a x c e (d _ (as_ c))
 |nil k=>exact .nil k|sl p q m r h s f =>cases d with|sl d =>exact .sl p q m r (λi j row a c e=>⟨n _ _ (h i j row a c e).1,(k _ _ (h i j row a c e).1).trans (h i j row a c e).2⟩) λi j row a c e=>f i j row a c e (d _ (as_ c) _ (as_ e))
 |ip h s f =>cases d with|ip d=>exact .ip (λj a c=>⟨n _ _ (h j a c).1,(k _ _ (h j a c).1).trans (h j a c).2⟩) λj a c=>f j a c (d _ (as_ c))
 |ob=>cases d|pt=>cases d|mp=>cases d|yl=>cases d|lH=>cases d|gr=>cases d|fn c e A B t y =>cases d with|fn d z=>exact .fn c e (λi a x c e=>t i a x c e (d _ (as_ c))) λi a x c e=>y i a x c e (z _ (as_ c))
def Vo(J:Nat->(Nat->Nat->Prop)->(Nat->Prop)->World->Prop):Prop :=∀(b:Nat)(a d:Nat->Nat->Prop)(B:Nat->Prop)(w w':World),J b a B w->(∀c q,a c q->d c q)->(∀c q,B c->d c q->a c q)->(∀c,B c->w'.heap[c]?=w.heap[c]?)->(∀c q,a c q->w'.cell? ⟨c,q,none⟩=w.cell? ⟨c,q,none⟩)->w.heap.size<=w'.heap.size->J b d B w'
def FoK(g:Gh)(w:World)(g':Gh)(w':World)(b:Nat):Prop:=g'.fo b=g.fo b/\w.heap.size<=w'.heap.size/\(∀c,g.fo b c->w'.heap[c]?=w.heap[c]?)/\∀c q,g.fo b c->g'.fz c q->g.fz c q
def nC(g:Gh)(w:World)(l:List AV)(cs:Array Value):Prop:=cs.size=l.length/\∀(i:Nat)(a:AV)(x:Value),l[i]?=some a->cs[i]?=some x->aO g w a x
def fj(g:Gh)(w:World)(b d:Nat):Ob->Prop|.arr sz rows fz ex=>∃(cs:Array Value) (f:TypeId),w.heap[b]?=some (.cells cs f (0,0))/\cs.size=d*sz/\rows.length<=d/\(ex=true->d=rows.length) /\(∀(i:Nat)(row:List AV),rows[i]?=some row->row.length=sz/\∀(j:Nat)(a:AV),row[j]?=some a->∃x,cs[i*sz+j]?=some x/\aO g w a x)/\fz<=rows.length/\∀q,g.fz b q↔q<fz*sz|.mp c=>∃(entries:Array MapEntry) (clock:Nat),w.heap[b]?=some (.map entries clock)/\entries.size=c.length/\∀(i:Nat)(k:Value)(a:AV),c[i]?=some (k,a)->∃e:MapEntry,entries[i]?=some e/\e.key=k/\aO g w a e.val|.mb c=>∃entries:Array MapEntry,w.heap[b]?=some (.map entries entries.size)/\entries.size=c.length/\(∀(i:Nat)(k:Value)(a:AV),c[i]?=some (k,a)->∃e:MapEntry,entries[i]?=some e/\e.key=k/\aO g w a e.val)/\∀(i:Nat)(e:MapEntry),entries[i]?=some e->e.born=i|.lp st h tm l assign body=>∃L:Loop,w.heap[b]?=some (.loop L)/\L.state=st/\L.pending=h/\L.params=l/\L.assign=assign/\L.body=body /\(∀t,t<L.tmps.size->aO g w (tm t) (L.tmps.getD t undef))/\∀t,L.tmps.size<=t->tm t=.u|.df=>w.heap[b]?=some (.deferred (some []))|.si s pos=>w.heap[b]?=some (.stringIter s pos)|.fo J=>J b g.fz (g.fo b) w/\Vo J|.un=>False
structure St(Y:World)(A:Nat->Prop)(g:Gh)(S:ah)(w:World):Prop where
 base:Below Y.heap.size Y w
 up:∀b,w.heap.size<=b->A b
 lo:∀b,A b->Y.heap.size<=b
 al:∀k,g.al k->k<S.nx
 cX:∀k o,S.get k=some o->g.al k->A (g.ob k)/\g.ob k<w.heap.size/\fj g w (g.ob k) (g.cp k) o
 inj:∀j k o p,S.get j=some o->S.get k=some p->g.al j->g.al k->g.ob j=g.ob k->j=k
 dL:∀b o,g.fz b o->b<w.heap.size
 tW:∀b o,b<Y.heap.size->g.fz b o
 lS:∀k J,S.get k=some (.fo J)->g.al k->∀c,g.fo (g.ob k) c->A c/\c<w.heap.size
 oM:∀k J j o,S.get k=some (.fo J)->g.al k->S.get j=some o->g.al j->j≠k->¬g.fo (g.ob k) (g.ob j)qS:∀j k J J',S.get j=some (.fo J)->S.get k=some (.fo J')->g.al j->g.al k->j=k
structure Ext(A:Nat->Prop)(g:Gh)(w:World)(g':Gh)(w':World):Prop extends Later g w g' w' where
 size:w.heap.size<=w'.heap.size
 aQ:∀b,b<w.heap.size->¬A b->w'.heap[b]?=w.heap[b]?lI:∀b o,g'.fz b o->g.fz b o\/A b
def Ext.refl(A:Nat->Prop)(g:Gh)(w:World):Ext A g w g w:={Later.refl g w with size:=ad_ _,aQ:=λ_ _ _=>rfl,lI:=λ_ _ h=>.inl h }
def Ext.trans{a g2 c:Gh}{d e f:World}(h:Ext A a d g2 e)(k:Ext A g2 e c f):Ext A a d c f :={h.toLater.trans k.toLater with
   size:=aA_ h.size k.size
   aQ:=λb g i=>(k.aQ b (aE_ g h.size) i).trans (h.aQ b g i)
   lI:=λb o j=>(k.lI b o j).elim (λl=>h.lI b o l) .inr }
theorem fj.later{g g':Gh}{C:Nat}{o:Ob}(f:Later g w g' w')(m:w'.heap[b]?=w.heap[b]?)(E:∀q,g'.fz b q->g.fz b q)(F:∀J,o=.fo J->FoK g w g' w' b)(h:fj g w b C o):fj g' w' b C o:=by cases o with|arr sz rows fz ex =>let⟨cs,G,d,c,l,p,u,y,v⟩:=h;refine⟨cs,G,m.trans d,c,l,p,λi row n=>⟨(u i row n).1,λj a r=>?_⟩,y,λq=>⟨λz=>(v q).1 (E q z),λz=>f.fz _ _ ((v q).2 z)⟩⟩;let⟨x,K,M⟩:=(u i row n).2 j a r;exact⟨x,K,M.later f⟩|mp N =>let⟨entries,clock,d,c,l⟩:=h;refine⟨entries,clock,m.trans d,c,λi k a r=>?_⟩;let⟨e,A,B,n⟩:=l i k a r;exact⟨e,A,B,n.later f⟩|mb N =>let⟨entries,d,c,l,p⟩:=h;refine⟨entries,m.trans d,c,λi k a r=>?_,p⟩;let⟨e,A,B,n⟩:=l i k a r;exact⟨e,A,B,n.later f⟩|lp st R tm S assign body =>let⟨L,d,c,l,p,u,y,v,P⟩:=h;exact⟨L,m.trans d,c,l,p,u,y,λt Q=>(v t Q).later f,P⟩|df=>exact m.trans h|si s pos=>exact m.trans h|fo J =>let⟨d,c⟩:=h;let⟨f1,f2,f3,f4⟩:=F J rfl;refine⟨?_,c⟩;rw[f1];exact c _ _ _ _ _ _ d f.fz f4 f3 f.cell f2|un=>exact h.elim
theorem St.next{g g':Gh}{S S':ah}(a:St Y A g S w)(f:Ext A g w g' w')(v:w'.os=w.os)(G:w'.tape=w.tape)(x:w'.output=w.output)(K:∀k,g'.al k->k<S'.nx)(L:∀k o,S'.get k=some o->g'.al k->A (g'.ob k)/\g'.ob k<w'.heap.size/\fj g' w' (g'.ob k) (g'.cp k) o)(inj:∀j k o p,S'.get j=some o->S'.get k=some p->g'.al j->g'.al k->g'.ob j=g'.ob k->j=k)(M:∀b o,g'.fz b o->b<w'.heap.size)(E:g'.fo=g.fo)(i:∀k J,S'.get k=some (.fo J)->g'.al k->S.get k=some (.fo J)/\g.al k)(y:∀k o,S'.get k=some o->g'.al k->w.heap.size<=g'.ob k\/∃k0 q,g.al k0/\S.get k0=some q/\g'.ob k=g.ob k0/\(k0=k\/∀J,q≠.fo J)):St Y A g' S' w' :=⟨⟨v.trans a.base.os,G.trans a.base.tape,x.trans a.base.output,aA_ a.base.size f.size,λk d =>(f.aQ k (aE_ d a.base.size) λN=>absurd (a.lo k N) Z).trans (a.base.block k d)⟩,λb z=>a.up b (aA_ f.size z),a.lo,K,L,inj,M,λb o z=>f.fz b o (a.tW b o z),λk J d B c h=>by let⟨m,l⟩:=i k J d B;rw[E,f.ob k l]at h;let⟨r,n⟩:=a.lS k J m l c h;exact⟨r,aE_ n f.size⟩,λk J j o d B s t Q h=>by let⟨m,l⟩:=i k J d B;rw[E,f.ob k l]at h;rcases y j o s t with r|⟨k0,q,r,n,P,u⟩;exact absurd (a.lS k J m l _ h).2 Z;rw[P]at h;refine a.oM k J k0 q m l n r (λe=>?_) h;rcases u with u|u;grind;subst e;rw[m]at n;exact u J (oJ_ n).symm,λj k J C s d t F=>a.qS j k J C (i j J s t).1 (i k C d F).1 (i j J s t).2 (i k C d F).2⟩
def St.forget{g:Gh}{S S':ah}(a:St Y A g S w)(i:S.nx<=S'.nx)(h:∀k o,S'.get k=some o->g.al k->S.get k=some o):St Y A g S' w :=⟨a.base,a.up,a.lo,λk b=>aE_ (a.al k b) i,λk o b c=>a.cX k o (h k o b c) c,λj k o p e b d f=>a.inj j k o p (h j o e d) (h k p b f) d f,a.dL,a.tW,λk J b c=>a.lS k J (h k _ b c) c,λk J j o b c e d=>a.oM k J j o (h k _ b c) c (h j o e d) d,λj k J l e b d f=>a.qS j k J l (h j _ e d) (h k _ b f) d f⟩
def St.OM{g:Gh}{S S':ah}(a:St Y A g S w)(q:S.nx<=S'.nx)(h:∀k m,S'.get k=some m->g.al k->∃o,S.get k=some o/\(fj g w (g.ob k) (g.cp k) o->fj g w (g.ob k) (g.cp k) m)/\∀J,m=.fo J->o=.fo J):St Y A g S' w :=⟨a.base,a.up,a.lo,λk b=>aE_ (a.al k b) q,λk o b c=>let⟨r,e,f,_⟩:=h k o b c;let⟨s,t,u⟩:=a.cX k r e c;⟨s,t,f u⟩,λj k o p i b d l=>let⟨_,e,_⟩:=h j o i d;let⟨_,f,_⟩:=h k p b l;a.inj j k _ _ e f d l,a.dL,a.tW,λk J b c=>let⟨_,e,_,f⟩:=h k _ b c;a.lS k J X c,λk J j o b c i d=>let⟨_,e,_,f⟩:=h k _ b c;let⟨_,n,_⟩:=h j _ i d;a.oM k J j _ X c n d,λj k J v i b d l=>let⟨_,e,_,f⟩:=h j _ i d;let⟨_,n,_,x⟩:=h k _ b l;a.qS j k J v X X d l⟩
theorem jW(h:b<w.heap.size):(w.alloc o).heap[b]?=w.heap[b]?:=Below.heap_alloc w o b h
theorem eg:(w.alloc o).heap[w.heap.size]?=some o:=by show(w.heap.push o)[w.heap.size]?=_;simp
theorem size_alloc:(w.alloc o).heap.size=w.heap.size+1:=by simp
def Gh.new(g:Gh)(k b a:Nat):Gh:=⟨bJ g.ob k b,bJ g.cp k a,λj=>g.al j\/j=k,g.fz,g.fo⟩
theorem St.newAt{g:Gh}{S:ah}(l:St Y A g S w)(o:Obj){k:Nat}(B:¬g.al k)(N:k<S.nx)(d:Nat)(P:∀J,S.get k≠some (.fo J))(C:∀ob,S.get k=some ob->Later g w (g.new k w.heap.size d) (w.alloc o)->fj (g.new k w.heap.size d) (w.alloc o) w.heap.size d ob):Ext A g w (g.new k w.heap.size d) (w.alloc o)/\St Y A (g.new k w.heap.size d) S (w.alloc o):=by have v:∀j,g.al j->j≠k:=λj a e=>B (e ▸ a);have m:∀j,g.al j->(g.new k w.heap.size d).ob j=g.ob j:=λj a=>aN _ _ (v j a);have x:∀j,g.al j->(g.new k w.heap.size d).cp j=g.cp j:=λj a=>aN _ _ (v j a);have s:(g.new k w.heap.size d).ob k=w.heap.size:=aG _ _ _;have E:(g.new k w.heap.size d).cp k=d:=aG _ _ _;have t:Later g w (g.new k w.heap.size d) (w.alloc o):=⟨λj a=>.inl a,m,x,λ_ _ h=>h,λb q u=>World.cell?_of_block (jW (l.dL b q u))⟩;have y:Ext A g w (g.new k w.heap.size d) (w.alloc o):={t with size:=by rw[size_alloc];omega,aQ:=λb F _=>jW F,lI:=λ_ _ h=>.inl h };refine⟨y,l.next y rfl rfl rfl (λj a=>a.elim (l.al j) λe=>Z) (λj p a f=>?_) (λi j p q z a n r e=>?_) (λb q u=>?_) rfl (λj J a f=>?_) λj p a f=>?_⟩;rcases f with f|rfl;let⟨G,K,L⟩:=l.cX j p a f;rw[m j f,x j f];exact⟨G,by rw[size_alloc];omega,L.later t (jW K) (λ_ h=>h) λJ T=>⟨rfl,by rw[size_alloc];omega,λc M=>jW (l.lS j J X f c M).2,λ_ _ _ h=>h⟩⟩;rw[s,E];exact⟨l.up _ (ad_ _),by rw[size_alloc];omega,C p a t⟩;rcases n with n|rfl<;>rcases r with r|rfl;rw[m i n,m j r]at e;exact l.inj i j p q z a n r e;have:=(l.cX i p z n).2.1;rw[m i n,s]at e;omega;have:=(l.cX j q a r).2.1;rw[m j r,s]at e;omega;rfl;have:=l.dL b q u;rw[size_alloc];omega;rcases f with f|rfl;grind;grind;rcases f with f|rfl;grind;grind
theorem St.new{Y:World}{A:Nat->Prop}{g:Gh}{S:ah}{w:World}(c:St Y A g S w)(o:Obj)(ob:Ob)(a:Nat)(j:∀J,ob≠.fo J)(d:Later g w (g.new S.nx w.heap.size a) (w.alloc o)->fj (g.new S.nx w.heap.size a) (w.alloc o) w.heap.size a ob):Ext A g w (g.new S.nx w.heap.size a) (w.alloc o)/\St Y A (g.new S.nx w.heap.size a) ⟨bJ S.get S.nx (some ob),S.nx+1⟩ (w.alloc o):=by
 have e:¬g.al S.nx:=λh=>absurd (c.al _ h) (bU_ _);have f:St Y A g ⟨bJ S.get S.nx (some ob),S.nx+1⟩ w:=c.forget (bJ_ _) λk p l m=>by grind[bJ,aN]
 exact f.newAt o e (bm_ _) a λJ n=>by grind[bJ,aG] λp b i=>by have b:bJ S.get S.nx (some ob) S.nx=some p:=b;rw[aG]at b;cases oJ_ b;exact d i
def Gh.Mu(g:Gh)(b:Nat):Gh:=⟨g.ob,g.cp,g.al,λc q=>g.fz c q\/c=b,g.fo⟩
theorem St.Mu{g:Gh}{S:ah}(a:St Y A g S w)(o:Obj):Ext A g w (g.Mu w.heap.size) (w.alloc o)/\St Y A (g.Mu w.heap.size) S (w.alloc o):=by have r:Later g w (g.Mu w.heap.size) (w.alloc o):=⟨λ_ h=>h,λ_ _=>rfl,λ_ _=>rfl,λ_ _ h=>.inl h,λb q d=>World.cell?_of_block (jW (a.dL b q d))⟩;have s:Ext A g w (g.Mu w.heap.size) (w.alloc o):={r with size:=by rw[size_alloc];omega,aQ:=λb t _=>jW t,lI:=λb _ h=>h.elim .inl λe=>.inr (by rw[e];exact a.up _ (ad_ _)) };refine⟨s,a.next s rfl rfl rfl a.al (λk p u i=>?_) a.inj (λb q d=>?_) rfl (λ_ _ j f=>⟨j,f⟩) λk o j f=>.inr ⟨k,o,f,j,rfl,.inl rfl⟩⟩;let⟨f,l,v⟩:=a.cX k p u i;exact⟨f,by rw[size_alloc];exact cr_ l,v.later r (jW l) (λq m=>m.elim id λe=>absurd e (Nat.ne_of_lt l)) λJ z=>⟨rfl,by rw[size_alloc];omega,λc n=>jW (a.lS k J X i c n).2,λc q n m=>m.elim id λe=>absurd e (Nat.ne_of_lt (a.lS k J X i c n).2)⟩⟩;rw[size_alloc];rcases d with d|rfl;exact cr_ (a.dL b q d);grind
theorem St.row{g:Gh}{S:ah}(f:St Y A g S w){k:Nat}{o ob:Ob}(n:S.get k=some o)(s:g.al k){ty:TypeId}(t:w.heap[g.ob k]?=some (.cells cs ty (0,0)))(B:∀J,o≠.fo J/\ob≠.fo J)(C:∀q,g.fz (g.ob k) q->cs'[q]?=cs[q]?)(E:Later g w g (w.setRow (g.ob k) cs')->fj g (w.setRow (g.ob k) cs') (g.ob k) (g.cp k) ob):Ext A g w g (w.setRow (g.ob k) cs')/\St Y A g (S.set k (some ob)) (w.setRow (g.ob k) cs'):=by
 let⟨F,k3,k4⟩:=f.cX k o n s;have G:(w.setRow (g.ob k) cs').heap.size=w.heap.size:=by simp[World.setRow]
 have K:∀b q,g.fz b q->(w.setRow (g.ob k) cs').cell? ⟨b,q,none⟩=w.cell? ⟨b,q,none⟩:=by intro b q u;by_cases e:b=g.ob k;subst e;rw[cell_of_row _ _ q cs' ty (0,0) (setRow_heap w _ cs cs' ty (0,0) t),cell_of_row _ _ q cs ty (0,0) t];exact C q u;exact World.cell?_of_block (setRow_other w _ b cs' e)
 have v:Later g w g (w.setRow (g.ob k) cs'):=⟨λ_ h=>h,λ_ _=>rfl,λ_ _=>rfl,λ_ _ h=>h,K⟩;have y:Ext A g w g (w.setRow (g.ob k) cs'):={v with size:=X,aQ:=λb hb L=>setRow_other w _ b cs' λe=>L X,lI:=λ_ _ h=>.inl h };have key:∀l r,(S.set k (some ob)).get l=some r->∃M,S.get l=some M:=by intro l r m;by_cases e:l=k;grind;have m:bJ S.get k (some ob) l=some r:=m;rw[aN _ _ e]at m;exact⟨r,m⟩
 refine⟨y,f.next y rfl rfl rfl f.al (λj p a d=>?_) (λi j p q N a P d e=>?_) (λb q u=>by rw[G];exact f.dL b q u) rfl (λj J a d=>?_) λj p a d=>.inr ⟨j,(key j p a).choose,d,(key j p a).choose_spec,rfl,.inl rfl⟩⟩;by_cases e:j=k;subst e;have a:bJ S.get j (some ob) j=some p:=a;rw[aG]at a;cases oJ_ a;exact⟨F,X,E v⟩;have a:bJ S.get k (some ob) j=some p:=a;rw[aN _ _ e]at a;let⟨Q,h3,R⟩:=f.cX j p a d;exact⟨Q,X,R.later v (setRow_other w _ _ cs' λz=>e (f.inj j k p o a n d s z)) (λ_ h=>h) λJ hJ=>⟨rfl,X,λc t=>setRow_other w _ _ cs' λz=>f.oM j J k o X d n s (λx=>e x.symm) X,λ_ _ _ h=>h⟩⟩;let⟨T,V⟩:=key i p N;let⟨W,hq⟩:=key j q a;exact f.inj i j T W V hq P d e;by_cases e:j=k;subst e;have a:bJ S.get j (some ob) j=some (.fo J):=a;rw[aG]at a;exact absurd (oJ_ a) (B J).2;have a:bJ S.get k (some ob) j=some (.fo J):=a;rw[aN _ _ e]at a;exact⟨a,d⟩
def Gh.Xu(g:Gh)(b l:Nat):Gh:=⟨g.ob,g.cp,g.al,λc q=>g.fz c q\/c=b/\q<l,g.fo⟩
theorem St.freeze{g:Gh}{S:ah}(n:St Y A g S w){k fz:Nat}{rows:List (List AV)}(s:S.get k=some (.arr sz rows fz ex))(v:g.al k)(Q:fz<=m)(y:m<=rows.length):Ext A g w (g.Xu (g.ob k) (m*sz)) w/\St Y A (g.Xu (g.ob k) (m*sz)) (S.set k (some (.arr sz rows m ex))) w:=by
 let⟨R,k3,k4⟩:=n.cX k _ s v;have z:Later g w (g.Xu (g.ob k) (m*sz)) w:=⟨λ_ h=>h,λ_ _=>rfl,λ_ _=>rfl,λ_ _ h=>.inl h,λ_ _ _=>rfl⟩;have F:Ext A g w (g.Xu (g.ob k) (m*sz)) w:={z with size:=ad_ _,aQ:=λ_ _ _=>rfl,lI:=λb _ h=>h.elim .inl λe=>.inr X };have key:∀l r,(S.set k (some (.arr sz rows m ex))).get l=some r->l=k/\r=.arr sz rows m ex\/l≠k/\S.get l=some r:=by intro l r G;have G:bJ S.get k (some (.arr sz rows m ex)) l=some r:=G;by_cases e:l=k;grind[aG];grind[aN]
 refine⟨F,n.next F rfl rfl rfl n.al (λj p o d=>?_) (λi j p q T o B d e=>?_) (λb q V=>V.elim (n.dL b q) λe=>X) rfl (λj J o d=>(key j _ o).elim (λe=>X) λe=>⟨e.2,d⟩) λj p o d=>.inr ((key j p o).elim (λe=>⟨j,.arr sz rows fz ex,d,e.1.symm ▸ s,rfl,.inl rfl⟩) λe=>⟨j,p,d,e.2,rfl,.inl rfl⟩)⟩;rcases key j p o with⟨rfl,rfl⟩|⟨K,o⟩;refine⟨R,k3,?_⟩;let⟨cs,W,L,t,C,E,M,h6,h7⟩:=k4;refine⟨cs,W,L,t,C,E,λi row u=>⟨(M i row u).1,λq a f=>let⟨x,hx,u⟩:=(M i row u).2 q a f;⟨x,hx,u.later z⟩⟩,y,λq=>⟨λf=>?_,λf=>.inr ⟨rfl,f⟩⟩⟩;rcases f with f|f;exact aE_ ((h7 q).1 f) (aT_ sz Q);grind;let⟨t,C,E⟩:=n.cX j p o d;exact⟨t,C,E.later z rfl (λq f=>f.elim id λe=>absurd (n.inj j k p _ o s d v e.1) K) λJ hJ=>⟨rfl,ad_ _,λ_ _=>rfl,λc q hc f=>f.elim id λe=>absurd (by rw[<-e.1];exact hc) (n.oM j J k _ X d s v λe=>K e.symm)⟩⟩;rcases key i p T with⟨rfl,_⟩|⟨L,N⟩<;>rcases key j q o with⟨rfl,_⟩|⟨t,P⟩;rfl;exact n.inj i j _ q s P B d e;exact n.inj i j p _ N s B d e;exact n.inj i j p q N P B d e
theorem St.drew{g:Gh}{S:ah}(a:St Y A g S w):Ext A g w g w.drew/\St Y A g S w.drew:=by have d:Later g w g w.drew:=⟨λ_ h=>h,λ_ _=>rfl,λ_ _=>rfl,λ_ _ h=>h,λ_ _ _=>rfl⟩;have e:Ext A g w g w.drew:={d with size:=ad_ _,aQ:=λ_ _ _=>rfl,lI:=λ_ _ h=>.inl h };exact⟨e,a.next e rfl rfl rfl a.al (λk p f i=>let⟨b,j,l⟩:=a.cX k p f i;⟨b,j,l.later d rfl (λ_ h=>h) λ_ _=>⟨rfl,ad_ _,λ_ _=>rfl,λ_ _ _ h=>h⟩⟩) a.inj a.dL rfl (λ_ _ c b=>⟨c,b⟩) λk o c b=>.inr ⟨k,o,b,c,rfl,.inl rfl⟩⟩
inductive DE where|ob (k:Nat)|del (t:Target) (k:Nat) (i:Int)
def DE.k:DE->Nat|.ob k=>k|.del _ k _=>k
instance:Coe Nat DE:=⟨DE.ob⟩
def OO(f:Nat->Nat):DE->Deferred|.ob k=>{target:=.collected (f k),args:=#[] }|.del t k i=>{target:=t,args:=#[.map (some (f k)),.int .i64 i] }
theorem E1{f a:Nat->Nat}{d:DE}(h:a d.k=f d.k):OO a d=OO f d:=by cases d with|ob k=>have h:a k=f k:=h;simp only[OO,h]|del t k i=>have h:a k=f k:=h;simp only[OO,h]
structure AA where
 tm:Nat->AV
 df:List DE
def AA.put(U:AA):Option Tmp->AV->AA|some d,a=>⟨bJ U.tm d a,U.df⟩|none,_=>U
def b9:Value->AV|.slice none 0 0=>.sl true []|x=>.v x
def lift:Value->AV|.agg cs=>.agg (cs.toList.map b9)|x=>b9 x
def AA.ev(U:AA):Operand->AV|.tmp t=>U.tm t|.const v=>lift v|.global g=>.v (.pointer (some ⟨g,0,none⟩))|.func f=>.v (.func (.func f) #[] #[])
section
variable{g g':Gh}
theorem nQ(x:Value):aO g w (b9 x) x:=by unfold b9;split;exact .nil λ_=>rfl;exact .v
theorem y7(x:Value):aO g w (lift x) x:=by unfold lift;split;rename_i cs;refine .agg aB λi a x b c=>?_;simp only[aY_,bb_]at b;obtain⟨y,d,rfl⟩:=b;have:some x=some y:=X;cases oJ_ this;exact nQ x;exact nQ _
structure cN(g:Gh)(w:World)(n:Nat)(U:AA)(a:Act):Prop where
 size:a.tmps.size=n
 tm:∀t,t<n->aO g w (U.tm t) (a.tmps.getD t undef)out:∀t,n<=t->U.tm t=.u
 df:a.defers=U.df.map (OO g.ob)yb:∀d∈U.df,g.al d.k
def cN.later{U:AA}(b:Later g w g' w')(h:cN g w n U a):cN g' w' n U a :=⟨h.size,λt d=>(h.tm t d).later b,h.out,h.df.trans (aQ_ λk c=>(E1 (b.ob _ (h.yb k c))).symm),λk c=>b.al _ (h.yb k c)⟩
theorem cN.ev{U:AA}(h:cN g w n U a)(o:Operand):aO g w (U.ev o) (a.eval o):=by cases o with|tmp t =>show aO g w (U.tm t) (a.tmps.getD t undef);by_cases b:t<n;exact h.tm t b;rw[h.out t (di_ b)];exact .u|const v=>exact y7 v|global g=>exact .v|func f=>exact .v
theorem cN.put{U:AA}(h:cN g w n U a){d:Tmp}(f:d<n){b:AV}(i:aO g w b x):cN g w n (U.put (some d) b) (a.put (some d) x):=by
 refine⟨by simp[Act.put,h.size],λt c=>?_,λt c=>?_,h.df,h.yb⟩;show aO g w (bJ U.tm d b t) ((a.tmps.setIfInBounds d x).getD t undef);have e:(a.tmps.setIfInBounds d x).getD t undef=if t=d then x else a.tmps.getD t undef:=by simp only[be_,dj_];by_cases e:d=t;subst e;simp[h.size,f];grind
 rw[e];by_cases e:t=d;grind[aG];rw[aN _ _ e,if_neg e];exact h.tm t c;show bJ U.tm d b t=.u;rw[aN _ _ (Nat.ne_of_gt (aE_ f c))];exact h.out t c
def cN.aaB{U:AA}(h:cN g w n U a){b:AV}:cN g w n (U.put none b) (a.put none x):=h
end
def ml(F:Fence):Prop:=(∀f,F.fn f)/\F.depth=none/\F.alive=false
def ml.inRound(h:ml F)(l:Nat):ml (F.inRound l):=h
def ml.plain(h:ml F):ml F.plain:=h
def ml.wide:ml Fence.wide:=⟨λ_=>trivial,rfl,rfl⟩
section
variable(P:Program)(Y:World)(rd:Bool)(n:Nat)
def th(A:Nat->Prop)(g:Gh)(w:World)(ex:Exit)(aE:AA)(S':ah):Exit->Act->World->Prop :=λa b w'=>a=ex/\∃g',St Y A g' S' w'/\cN g' w' n aE b/\Ext A g w g' w'
def ep(c:Code)(U:AA)(S:ah)(ex:Exit)(aE:AA)(S':ah):Prop :=∀(F:Fence)(m:Nat)(A:Nat->Prop)(g:Gh)(a:Act)(w:World),ml F->F.round.isSome=rd->St Y A g S w->cN g w n U a->c.wpIn F m P (th Y n A g w ex aE S') a w
end
section
variable{rd:Bool}{U dK aE:AA}{S eh S':ah}{ex:Exit}
theorem th.ext{g a:Gh}{b:World}(c:Ext A g w a b){ex':Exit}{a':Act}(h:th Y n A a b ex aE S' ex' a' w'):th Y n A g w ex aE S' ex' a' w':=by let⟨d,g',e,f,i⟩:=h;exact⟨d,g',e,f,c.trans i⟩
def SkC(c:Code):Prop:=c=.skip\/∃l,c=.label l
theorem SkC.wp(h:SkC c)(q:Q .normal a w):c.wpIn F m P Q a w:=by rcases h with rfl|⟨l,rfl⟩;exact wpIn_skip q;exact wpIn_label q
def ep.skip(h:SkC c):ep P Y rd n c U S .normal U S:=λF m A g a w e f b d=>h.wp ⟨rfl,g,b,d,Ext.refl ..⟩
def ep.exit_(id:Nat):ep P Y rd n (.exit id) U S (.exit id) U S:=λF m A g a w d e b c=>wpIn_exit ⟨rfl,g,b,c,Ext.refl ..⟩
def ep.ret:ep P Y rd n .ret U S .ret U S:=λF m A g a w d e b c=>wpIn_ret ⟨rfl,g,b,c,Ext.refl ..⟩
theorem ep.seq(h:ep P Y rd n c U S .normal dK eh)(k:ep P Y rd n d dK eh ex aE S'):ep P Y rd n (.seq c d) U S ex aE S':=by intro F m A g a w b f i j;refine wpIn_seq (wpIn_mono (h F m A g a w b f i j) ?_);rintro e l o⟨rfl,p,q,r,s⟩;exact wpIn_mono (k F m A p l o b f q r) λe a w t=>th.ext s t
theorem ep.afK(h:ep P Y rd n c U S ex aE S')(b:ex≠.normal):ep P Y rd n (.seq c d) U S ex aE S':=by intro F m A g a w f i j k;refine wpIn_seq (wpIn_mono (h F m A g a w f i j k) ?_);rintro e o p⟨rfl,l⟩;cases e with|normal=>exact absurd rfl b|_=>exact⟨rfl,l⟩
theorem OP{g:Gh}{b:Bool}(h:aO g w (.v (.bool b)) x):x=.bool b:=by cases h;rfl
theorem cA{g:Gh}{y:Value}(h:aO g w (.v y) x):x=y:=by cases h;rfl
theorem ep.cond{o:Operand}{t:Bool}(f:U.ev o=.v (.bool t))(h:ep P Y rd n (if t then c else d) U S ex aE S'):ep P Y rd n (.cond o c d) U S ex aE S':=by intro F m A g a w i j k b;have e:=b.ev o;rw[f]at e;exact wpIn_cond (OP e) (h F m A g a w i j k b)
theorem Vp(h:c.wpIn F m P (λex a w=>(∀l,ex≠.goto l)/\Q ex a w) a w):(Code.scope c).wpIn F m P Q a w:=by intro b k cs r p q;have d:step P (lone (b.atR a (.code (.scope c)::k)) cs w)=.next (lone (b.atR a (.code c::.inScope c::k)) cs w):=step_lone_go (by simp[stepG,stepG.exec,Frame.atR]);have s:∀(a:Act)(w:World),step P (lone (b.atR a (.inScope c::k)) cs w)=.next (lone (b.atR a k) cs w):=λa w=>step_lone_go (by simp[stepG,stepG.exec,Frame.atR]);have f:(lone (b.atR a (.code (.scope c)::k)) cs w).fenced P F:=fenced_calm p q rfl;let⟨e,g,i,⟨t,n⟩,j⟩:=h b (.inScope c::k) cs r p q;cases e with
 |normal=>exact⟨.normal,g,i,n,.head f d (StepsIn.trans j (.one (fenced_calm p q rfl) (s g i)))⟩|exit id =>
  have A:exitTo id (.inScope c::k)=exitTo id k:=by simp[exitTo]
  exact⟨.exit id,g,i,n,λu v=>.head f d (j.1 u X),λx v=>let⟨o,y,z⟩:=j.2 x X;⟨o,y,.head f d z⟩⟩|goto l=>exact absurd rfl (t l)|ret=>exact⟨_,g,i,n,.of_steps (.one f d) j⟩|panic B=>exact⟨_,g,i,n,.of_steps (.one f d) j⟩|outgrown=>exact⟨_,g,i,n,.of_steps (.one f d) j⟩
theorem ep.scope(h:ep P Y rd n c U S ex aE S')(b:∀l,ex≠.goto l):ep P Y rd n (.scope c) U S ex aE S':=by intro F m A g a w d f i j;refine Vp (wpIn_mono (h F m A g a w d f i j) ?_);rintro e o p⟨rfl,k⟩;exact⟨b,rfl,k⟩
theorem ep.block{id:Nat}(h:ep P Y rd n c U S ex aE S')(d:ex≠.exit id):ep P Y rd n (.block id c) U S ex aE S':=by intro F m A g a w f i k l;refine wpIn_block (wpIn_mono (h F m A g a w f i k l) ?_);rintro e o p⟨rfl,b⟩;cases e with|exit j =>have:j≠id:=λe=>d (by rw[e]);simp only[Exit.inBlock,this,if_false];exact⟨rfl,b⟩|_=>exact⟨rfl,b⟩
theorem ep.Vq{id:Nat}(h:ep P Y rd n c U S (.exit id) aE S'):ep P Y rd n (.block id c) U S .normal aE S':=by intro F m A g a w b d f i;refine wpIn_block (wpIn_mono (h F m A g a w b d f i) ?_);rintro e k l⟨rfl,j⟩;simp only[Exit.inBlock,if_true];exact⟨rfl,j⟩
def Bw(P:Program)(Y:World)(rd:Bool)(n:Nat)(c:Code)(U:AA)(S:ah)(ex:Exit)(aE:AA)(S':ah):Prop :=∀(F:Fence)(m:Nat)(A:Nat->Prop)(g:Gh)(a:Act)(w:World),ml F->F.round.isSome=rd->St Y A g S w->cN g w n U a->∀(b:Frame)(k:List Item)(cs:List Frame),b.roundOf=F.round->F.fn b.fn->F.room (cs.length+1+m) ->∃e d w',th Y n A g w ex aE S' e d w'/\ArrivesIn (Machine.fenced P F) P (lone (b.atR a (.code c::.inLoop c::k)) cs w) b k cs e d w'
theorem ep.loop(h:Bw P Y rd n c U S ex aE S'):ep P Y rd n (.loop c) U S ex aE S':=by intro F m A g a w i j l o b k cs p d f;let⟨e,q,w',r,s⟩:=h F m A g a w i j l o b k cs p d f;exact⟨e,q,w',r,.of_steps (.one (fenced_calm d f rfl) stepR_loop) s⟩
theorem Bw.step(h:ep P Y rd n c U S .normal dK eh)(k:Bw P Y rd n c dK eh ex aE S'):Bw P Y rd n c U S ex aE S':=by intro F m A g a w p q s t b l cs r d f;let⟨e,u,v,x,y⟩:=h F m A g a w p q s t b (.inLoop c::l) cs r d f;obtain⟨rfl,z,B,C,E⟩:=x;let⟨i,j,o,G,J⟩:=k F m A z u v p q B C b l cs r d f;exact⟨i,j,o,th.ext E G,.of_steps (StepsIn.trans y (.one (fenced_calm d f rfl) stepR_inLoop)) J⟩
theorem Bw.done(h:ep P Y rd n c U S ex aE S')(f:ex≠.normal):Bw P Y rd n c U S ex aE S':=by intro F m A g a w i j k o b l cs p q r;let⟨e,s,t,d,u⟩:=h F m A g a w i j k o b (.inLoop c::l) cs p q r;obtain⟨rfl,d⟩:=d;exact⟨e,s,t,⟨rfl,d⟩,.pass (x:=.inLoop c) rfl (λ_ _=>.inl f) u⟩
def aF(P:Program)(Y:World)(f:FuncId)(args:List AV)(S:ah)(r:AV)(S':ah):Prop :=(∀(b:Array Value)(w:World),(callFunc f b).run P w=.ok (.enter f b) w) /\∀(F:Fence)(m:Nat)(A:Nat->Prop)(g:Gh)(a:Array Value)(w:World),ml F->St Y A g S w->nC g w args a ->CallsIn F m P f a w λe w'=>∃v g',e=.returned v/\aO g' w' r v/\St Y A g' S' w'/\Ext A g w g' w'
def Er(P:Program)(Y:World)(k:Nat)(args:List AV)(S:ah)(r:AV)(S':ah):Prop :=∀(F:Fence)(m:Nat)(A:Nat->Prop)(g:Gh)(a:Array Value)(w:World),ml F->St Y A g S w->g.al k->nC g w args a->∃l f tmps assign body,(Instr.yield (g.ob k) a).run P w=.ok (.round l f tmps assign body) w /\RoundIn F m P l f tmps assign body w λe w'=>∃v g',e=.returned v/\aO g' w' r v/\St Y A g' S' w'/\Ext A g w g' w'
def ao(P:Program)(Y:World)(f:FuncId)(args:List AV)(r:AV):Prop :=Pure r/\∃S',aF P Y f args ah.none_ r S'
end
def bM{U:Type}(o:Option U)(K:U->Prop):Prop:=match o with|some a=>K a|none=>False
theorem bM.out{o:Option U}{K:U->Prop}(h:bM o K):∃a,o=some a/\K a:=by cases o with|none=>exact h.elim|some a=>exact⟨a,rfl,h⟩
theorem bM.mk{o:Option U}{K:U->Prop}{a:U}(h:o=some a)(k:K a):bM o K:=by subst h;exact k
def Vs(P:Program)(t:TypeId):Option Bool :=match P.underlying t with|some (.struct _)|some (.array _ _)=>some true|some _=>some false|none=>none
def eJ(P:Program)(t:TypeId):Option Nat:=(P.info? t).map (·.size)
def kQ(P:Program)(t:TypeId):Option Nat:=(P.info? t).map (·.bytes)
def eu(P:Program)(t:TypeId):Option Value:=(P.info? t).bind (·.zero)
def Vt(row:List AV)(j n:Nat):List AV:=match j,Nat.beq n row.length with|0,true=>row|_,_=>(row.drop j).take n
def rK(P:Program)(t:TypeId)(row:List AV)(j:Nat):Option AV :=match Vs P t,eJ P t with
 |some true,some n=>match Nat.ble (j+n) row.length with|true=>some (.agg (Vt row j n))|false=>none
 |some false,_=>row[j]?|_,_=>none
def An(P:Program)(S:ah)(t:TypeId):AV->Option AV
 |.ip row=>rK P t row 0|.pt k sz i j=>match S.get k with
  |some (.arr a rows _ _)=>match Nat.beq sz a with
   |true=>match rows[i]? with|some row=>rK P t row j|none=>none
   |false=>none
  |_=>none
 |_=>none
def bp:AV->List AV|.agg l=>l|a=>[a]
def db:AV->Bool|.v x=>x.oneCell'|.agg _|.aL _|.u=>false|_=>true
def uF(row:List AV)(j:Nat)(cs:List AV):List AV:=match j,Nat.beq cs.length row.length with|0,true=>cs|_,_=>row.take j++cs++row.drop (j+cs.length)
def uG(P:Program)(S:ah)(t:TypeId)(b:AV):AV->Option ah
 |.pt k sz i j=>match S.get k with
  |some (.arr a rows 0 ex)=>match Nat.beq sz a&&(bp b).all db&&match eJ P t with|some n=>Nat.beq n (bp b).length|none=>false with
   |true=>match rows[i]? with
    |some row=>match Nat.ble (j+(bp b).length) row.length with|true=>some (S.set k (some (.arr sz (rows.set i (uF row j (bp b))) 0 ex)))|false=>none
    |none=>none
   |false=>none
  |_=>none
 |_=>none
def ah.new(S:ah)(o:Ob):ah:=⟨bJ S.get S.nx (some o),S.nx+1⟩
def oP(S:ah)(cs:List AV):AV×ah:=(.pt S.nx cs.length 0 0,S.new (Ob.arr cs.length [cs] 0 true))
def C6(place:Nat->Option (Nat×Nat)):List AV->List (Nat×AV)->Option (List AV)|cells,[]=>some cells|cells,(i,a)::b=>match place i with
  |some (off,size)=>match Nat.beq (bp a).length size&&Nat.ble (off+size) cells.length&&(bp a).all db with|true=>C6 place (uF cells off (bp a)) b|false=>none
  |none=>none
def OQ(P:Program)(fs:Array Field)(i:Nat):Option (Nat×Nat) :=match fs[i]? with
 |some f=>match eJ P f.type with|some n=>some (f.offset,n)|none=>none
 |none=>none
def y8(P:Program)(t:TypeId)(parts:List (Nat×AV)):Option AV :=match eu P t with
 |some (.agg cs)=>match P.underlying t with
  |some (.struct a)=>match a.toList.all λf=>(eJ P f.type).isSome with|true=>(C6 (OQ P a) (cs.toList.map b9) parts).map .agg|false=>none
  |some (.array _ e)=>match eJ P e with|some n=>(C6 (λi=>some (i*n,n)) (cs.toList.map b9) parts).map .agg|none=>none
  |_=>none
 |_=>none
def yx(size:Nat):List (List AV)->List (Nat×AV)->Option (List (List AV))|rows,[]=>some rows|rows,(i,a)::b=>match Nat.beq (bp a).length size&&Nat.blt i rows.length&&(bp a).all db with|true=>yx size (rows.set i (bp a)) b|false=>none
def idx{U:Type}(rows:List U)(i:Int):Option U:=if 0<=i then rows[i.toNat]? else none
theorem Tl{rows:List U}{k:Nat}{x:U}(h:rows[k]?=some x):idx rows (k:Int)=some x:=by grind[idx]
def rowsOf(S:ah):AV->Option (List (List AV))
 |.sl _ rows=>some rows|.ob k sz off len _=>match S.get k with
  |some (.arr a rows _ _)=>match Nat.beq sz a with|true=>some ((rows.drop off).take len)|false=>none
  |_=>none
 |_=>none
def qT:AV->Option Nat|.sl _ rows=>some rows.length|.ob _ _ _ len _=>some len|.v (.string s)=>some s.size|_=>none
def isStr:AV->Bool|.v (.string _)=>true|_=>false
def xD(P:Program)(op:BinOp)(t:TypeId):Value->Value->Option Value
 |.int k a,.int c b=>match decide (k=c) with
  |true=>match op with|.eql=>some (.bool (a==b))|.neq=>some (.bool (a !=b))|.lss=>some (.bool (decide (a<b)))|.leq=>some (.bool (decide (a<=b)))|.gtr=>some (.bool (decide (a>b)))|.geq=>some (.bool (decide (a>=b)))|_=>none
  |false=>none
 |.string a,.string b=>match op with|.eql=>some (.bool (a.toList==b.toList))|.neq=>some (.bool ! a.toList==b.toList)|.lss=>some (.bool (Op.bytesLess a.toList b.toList))|.leq=>some (.bool (Op.bytesLess a.toList b.toList||a.toList==b.toList))|.gtr=>some (.bool !(Op.bytesLess a.toList b.toList||a.toList==b.toList))|.geq=>some (.bool !Op.bytesLess a.toList b.toList)|_=>none
 |.bool a,.bool b=>match P.underlying t with
  |some .bool=>match op with|.eql=>some (.bool (a==b))|.neq=>some (.bool ! a==b)|_=>none
  |_=>none
 |_,_=>none
def arith:BinOp->Int->Int->Option Int|.add,a,b=>some (a+b)|.sub,a,b=>some (a-b)|.mul,a,b=>some (a*b)|_,_,_=>none
def lenOf(P:Program)(t:TypeId)(a:AV):Option Nat:=match P.underlying t,isStr a,qT a with|some (.slice _),false,some m=>some m|some .string,true,some m=>some m|_,_,_=>none
def Hm(S:ah)(k:Nat):Option (Nat×List (List AV)×Nat×Bool):=match S.get k with|some (.arr sz rows fz ex)=>some (sz,rows,fz,ex)|_=>none
theorem JT{S:ah}{k fz:Nat}{rows:List (List AV)}(h:Hm S k=some (sz,rows,fz,ex)):S.get k=some (.arr sz rows fz ex):=by grind[Hm]
theorem OR{S:ah}{k fz:Nat}{rows:List (List AV)}(h:S.get k=some (.arr sz rows fz ex)):Hm S k=some (sz,rows,fz,ex):=by grind[Hm]
def Hn(P:Program)(Y:World)(K:AV->ah->Prop)(S:ah)(args:List AV):AV->Prop
 |.v (.func (.func g) first cap)=>match first.toList,cap.toList with|[],[]=>∃r S',aF P Y g args S r S'/\K r S'|_,_=>False
 |.fn (.func g) first cap=>∃r S',aF P Y g (first++args++cap) S r S'/\K r S'|.yl k=>∃r S',Er P Y k args S r S'/\K r S'|_=>False
def qt(P:Program)(e:TypeId)(K:AV->ah->Prop)(S:ah)(FJ:List (List AV)):AV->Prop
 |.sl true rows=>match FJ with|[]=>K (.sl true rows) S|x::FJ=>match eJ P e,kQ P e with
   |some sz,some a=>match Nat.blt 0 a with|true=>(∀row∈rows,row.length=sz)/\(∀row∈x::FJ,row.length=sz)/\(rows.length+(x::FJ).length)*a<=35184372088832 /\K (.ob S.nx sz 0 (rows.length+(x::FJ).length) none) (S.new (.arr sz (rows++x::FJ) 0 false))|false=>False
   |_,_=>False
 |.ob k sz 0 len none=>bM (Hm S k) λo=>match o with|(b,rows,fz,ex)=>match FJ with|[]=>K (.ob k sz 0 len none) S|x::FJ=>match eJ P e,kQ P e with
    |some d,some a=>match Nat.beq b sz&&Nat.beq d sz&&Nat.blt 0 a with|true=>fz<=len/\len<=rows.length/\(∀row∈x::FJ,row.length=sz/\row.all db=true)/\(len+(x::FJ).length)*a<=35184372088832 /\K (.ob S.nx sz 0 (len+(x::FJ).length) none) ((S.set k none).new (.arr sz (rows.take len++x::FJ) fz false))|false=>False
    |_,_=>False
 |.ob k sz off len (some c)=>bM (Hm S k) λo=>match o with|(b,rows,fz,ex)=>match FJ with|[]=>K (.ob k sz off len (some c)) S|x::FJ=>match eJ P e,kQ P e with
    |some d,some a=>match Nat.beq b sz&&Nat.beq d sz&&Nat.blt 0 a with|true=>c=len/\off+len<=rows.length/\(∀row∈x::FJ,row.length=sz)/\(len+(x::FJ).length)*a<=35184372088832 /\K (.ob S.nx sz 0 (len+(x::FJ).length) none) (S.new (.arr sz ((rows.drop off).take len++x::FJ) 0 false))|false=>False
    |_,_=>False
 |_=>False
def lV(P:Program)(t:TypeId):Option TypeId:=match P.underlying t with|some (.slice e)=>some e|_=>none
def qV(P:Program)(K:AV->ah->Prop)(S:ah)(argTypes:List TypeId)(args:List AV):Builtin->Prop
 |.len=>match argTypes,args with|[t],[a]=>bM (lenOf P t a) λm=>K (.v (.int .i64 (m:Int))) S|_,_=>False
 |.append=>match argTypes,args with
  |[t,t2],[a,b]=>match lV P t,lV P t2 with
   |some e,some _=>match match eu P e,eJ P e with|some z,some sz=>Nat.beq z.cells.size sz|_,_=>false with|true=>bM (rowsOf S b) λd=>qT b=some d.length/\qt P e K S d a|false=>False
   |_,_=>False
  |_,_=>False
 |.min=>match args with
  |[.v (.int k a),.v (.int c b)]=>match decide (k=c) with|true=>K (.v (.int k (min a b))) S|false=>False
  |_=>False
 |.max=>match args with
  |[.v (.int k a),.v (.int c b)]=>match decide (k=c) with|true=>K (.v (.int k (max a b))) S|false=>False
  |_=>False
 |_=>False
def mn:Option AV->Int->Option Int|none,d=>some d|some (.v (.int _ i)),_=>some i|_,_=>none
def qd(P:Program)(t:TypeId)(K:AV->ah->Prop)(S:ah)(x:AV)(lo hi a:Option AV):Prop :=match x,a with
 |.v (.string s),none=>match P.underlying t,mn lo 0,mn hi s.size with|some .string,some l,some h=>0<=l/\l<=h/\h<=s.size/\K (.v (.string (s.extract l.toNat h.toNat))) S|_,_,_=>False
 |.sl ex rows,none=>match P.underlying t,mn lo 0,mn hi rows.length with|some (.slice e),some l,some h=>(∀row∈rows,eJ P e=some row.length)/\(eJ P e).isSome/\0<=l/\l<=h/\h<=rows.length/\K (.sl false ((rows.take h.toNat).drop l.toNat)) S|_,_,_=>False
 |.sl ex rows,some (.v (.int _ m))=>match P.underlying t,mn lo 0,hi with|some (.slice e),some l,some (.v (.int _ h))=>(∀row∈rows,eJ P e=some row.length)/\(eJ P e).isSome/\0<=l/\l<=h/\h=m/\h<=rows.length/\K (.sl true ((rows.take h.toNat).drop l.toNat)) S|_,_,_=>False
 |.ob k sz off len cx,none=>match P.underlying t,lo,mn hi len with|some (.slice e),none,some h=>eJ P e=some sz/\0<=h/\h<=len/\K (.ob k sz off h.toNat cx) S|some (.slice e),some (.v (.int _ l)),some h=>eJ P e=some sz/\0<=l/\l<=h/\h<=len/\(l=h->K (.sl false []) S)/\(l<h->K (.ob k sz (off+l.toNat) (h.toNat-l.toNat) (cx.map (·-l.toNat))) S)|_,_,_=>False
 |.ob k sz off len cx,some (.v (.int _ m))=>match P.underlying t,mn lo 0,hi with|some (.slice e),some l,some (.v (.int _ h))=>eJ P e=some sz/\l=0/\h=m/\h<=len/\0<=h/\K (.ob k sz off h.toNat (some h.toNat)) S|_,_,_=>False
 |_,_=>False
def br(t:Bool)(a b:Prop):Prop:=match t with|true=>a|false=>b
def gd(c t:Bool)(a b:Prop):Prop:=match c with|true=>br t a b|false=>br t b a
def OS(S:ah)(k:Nat):Option (ByteArray×Nat):=match S.get k with|some (.si s pos)=>some (s,pos)|_=>none
theorem Xv{S:ah}{k pos:Nat}{s:ByteArray}(h:OS S k=some (s,pos)):S.get k=some (.si s pos):=by grind[OS]
def y9(v:Value)(K:Value->Prop):Prop:=match v with|.bool b=>∃d,b=d/\K (.bool d)|v=>K v
theorem y9.out(h:y9 v K):K v:=by unfold y9 at h;split at h;grind;grind
theorem y9.mk(h:K v):y9 v K:=by unfold y9;split;grind;grind
def bV(P:Program)(Y:World)(o:Op)(U:AA)(S:ah)(K:AV->ah->Prop):Prop :=match o with
 |.move x|.assign x=>K (U.ev x) S|.pick c a b=>match U.ev c with|.v (.bool t)=>br t (K (U.ev a) S) (K (U.ev b) S)|_=>False
 |.alloc e=>match eu P e with|some z=>K (oP S (z.cells.toList.map b9)).1 (oP S (z.cells.toList.map b9)).2|none=>False
 |.box _ x=>match(bp (U.ev x)).all db with|true=>K (oP S (bp (U.ev x))).1 (oP S (bp (U.ev x))).2|false=>False
 |.build t parts=>match y8 P t (parts.toList.map λ(i,x)=>(i,U.ev x)) with|some a=>K a S|none=>False
 |.buildSlice t len parts=>match lV P t with
  |some e=>match eu P e,eJ P e with
   |some z,some n=>match Nat.ble (len*n) 16777216&&Nat.beq z.cells.size n&&Nat.blt 0 n with
    |true=>match yx n (List.replicate len (z.cells.toList.map b9)) (parts.toList.map λ(i,x)=>(i,U.ev x)) with|some rows=>K (.sl true rows) S|none=>False
    |false=>False
   |_,_=>False
  |none=>False
 |.load t x=>bM (An P S t (U.ev x)) λa=>K a S|.store t x b=>bM (uG P S t (U.ev b) (U.ev x)) λS'=>K (.v undef) S'|.binOp op t x y _=>match U.ev x,U.ev y with
  |.v (.int k a),.v (.int p b)=>match arith op a b with
   |some c=>match decide (k=p) with|true=>∃d,k.wrap c=d/\K (.v (.int k d)) S|false=>False
   |none=>match xD P op t (.int k a) (.int p b) with|some v=>y9 v λv=>K (.v v) S|none=>False
  |.v (.string a),.v (.string b)=>match op with|.add=>a.size+b.size<=9223372036854775807/\K (.v (.string (a++b))) S|_=>match xD P op t (.string a) (.string b) with|some v=>y9 v λv=>K (.v v) S|none=>False
  |.v a,.v b=>match xD P op t a b with|some v=>y9 v λv=>K (.v v) S|none=>False
  |_,_=>False
 |.unOp op _ x=>match op,U.ev x with|.not,.v (.bool b)=>K (.v (.bool !b)) S|.neg,.v (.int k a)=>∃d,k.wrap (0-a)=d/\K (.v (.int k d)) S|_,_=>False
 |.convert src h x=>match P.underlying src,P.underlying h,U.ev x with|some (.int _),some (.int k),.v (.int _ a)=>∃d,k.wrap a=d/\K (.v (.int k d)) S|some .string,some .string,.v (.string s)=>K (.v (.string s)) S|_,_,_=>False
 |.fieldAddr s x f=>match P.underlying s with
  |some (.struct m)=>match m[f]? with
   |some g=>match eJ P g.type with
    |some (_+1)=>match U.ev x with|.ip row=>K (.ip (row.drop g.offset)) S|.pt k sz i j=>K (.pt k sz i (j+g.offset)) S|_=>False
    |_=>False
   |none=>False
  |_=>False
 |.field t x f=>match P.underlying t with
  |some (.struct m)=>match m[f]? with
   |some g=>match U.ev x with|.agg l=>bM (rK P g.type l g.offset) λa=>K a S|_=>False
   |none=>False
  |_=>False
 |.indexAddr t x i=>match P.underlying t,U.ev x,U.ev i with
  |some (.slice e),.sl _ rows,.v (.int _ k)=>match eJ P e with|some n=>bM (idx rows k) λrow=>(∀r∈rows,r.length=n)/\K (.ip row) S|none=>False
  |some (.slice e),.ob k sz off len _,.v (.int _ i)=>eJ P e=some sz/\0<=i/\i<len/\K (.pt k sz (off+i.toNat) 0) S|some (.array len e),.pt k sz i j,.v (.int _ q)=>match eJ P e with|some n=>0<=q/\q<len/\K (.pt k sz i (j+q.toNat*n)) S|none=>False
  |some (.array len e),.ip row,.v (.int _ q)=>match eJ P e with|some n=>0<=q/\q<len/\K (.ip (row.drop (q.toNat*n))) S|none=>False
  |_,_,_=>False
 |.index t x i=>match P.underlying t,U.ev x,U.ev i with
  |some .string,.v (.string s),.v (.int _ k)=>bM (idx s.data.toList k) λb=>K (.v (.int .u8 b.toNat)) S|some (.array len e),.agg l,.v (.int _ q)=>match eJ P e with|some n=>bM (rK P e l (q.toNat*n)) λa=>0<=q/\q<len/\K a S|none=>False
  |_,_,_=>False
 |.slice t x u w A=>qd P t K S (U.ev x) (u.map U.ev) (w.map U.ev) (A.map U.ev)|.extract x i=>match U.ev x with
  |.aL l=>match l[i]? with|some a=>K a S|none=>False
  |_=>False
 |.makeSlice t l c=>match lV P t,U.ev l,U.ev c with
  |some e,.v (.int _ a),.v (.int _ b)=>match eu P e,eJ P e,kQ P e with
   |some z,some sz,some B=>match Nat.beq z.cells.size sz&&Nat.blt 0 sz with|true=>0<=a/\a=b/\a*B<=35184372088832/\a<=9223372036854775807/\K (.ob S.nx sz 0 a.toNat none) (S.new (.arr sz (List.replicate a.toNat (z.cells.toList.map b9)) 0 true))|false=>False
   |_,_,_=>False
  |_,_,_=>False
 |.range t x=>match P.underlying t,U.ev x with|some .string,.v (.string s)=>K (.pt S.nx 0 0 0) (S.new (.si s 0))|_,_=>False
 |.next x isStr=>match isStr,U.ev x with
  |true,.pt k _ 0 0=>bM (OS S k) λo=>match o with|(s,pos)=>∃d,decide (pos<s.size)=d/\br d (K (.aL [.v (.bool true),.v (.int .i64 pos),.v (.int .i32 (Utf8.decode s pos).1)]) (S.set k (some (.si s (pos+(Utf8.decode s pos).2))))) (K (.aL [.v (.bool false)]) S)
  |_,_=>False
 |.makeFunc f first cap=>K (.fn f (first.toList.map U.ev) (cap.toList.map U.ev)) S|.nilCheck x=>match U.ev x with|.ip c=>K (.ip c) S|.pt k sz i j=>K (.pt k sz i j) S|_=>False
 |.call c=>match c.callee with|.value f=>Hn P Y K S (c.args.toList.map U.ev) (U.ev f)|.builtin b=>qV P K S c.argTypes.toList (c.args.toList.map U.ev) b|.invoke _ _=>False
 |_=>False
def wU(LU:Array Oper)(U:AA)(j:Nat):Option (Option Bool) :=match LU[j]?.bind (·.dst) with
 |some t=>match U.tm t with|.v (.bool b)=>some (some b)|.v (.tuple _)=>some none|_=>none
 |none=>none
def C7:List Oper->Nat->Option Tmp|[],_=>none|o::_,0=>o.dst|_::l,j+1=>C7 l j
theorem OT:∀(l:List Oper)(j:Nat),C7 l j=l[j]?.bind (·.dst)|[],j=>by simp[C7]|o::l,0=>by simp[C7]|o::l,j+1=>by simp[C7,OT l j]
def ydL(LU:List Oper)(U:AA)(j:Nat):Option (Option Bool) :=match C7 LU j with
 |some t=>match U.tm t with|.v (.bool b)=>some (some b)|.v (.tuple _)=>some none|_=>none
 |none=>none
theorem E2{LU:Array Oper}{U:AA}:ydL LU.toList U j=wU LU U j:=by grind[ydL,wU,OT]
def tj(n:Nat)(d:Option Tmp):Bool:=match d with|some d=>Nat.blt d n|none=>true
theorem iy(b o j:Nat):(⟨b,o,none⟩:Addr).add j=⟨b,o+j,none⟩:=by unfold Addr.add;split<;>simp_all
section
variable{g:Gh}{S:ah}
theorem oo(h:eJ P t=some n):∃i,P.info? t=some i/\i.size=n:=by unfold eJ at h;let⟨i,a,e⟩:=bb_.1 h;exact⟨i,a,e⟩
theorem cW(h:eJ P t=some n):(sizeOf t).run P w=.ok n w:=by obtain⟨i,a,rfl⟩:=oo h;simp[sizeOf,typeInfo,a]
theorem pC{z:Value}(h:eu P t=some z):(zeroValue t).run P w=.ok z w:=by unfold eu at h;let⟨i,a,e⟩:=cK_.1 h;simp[zeroValue,typeInfo,a,e]
theorem C8{b:Bool}(h:Vs P t=some b):(isAgg t).run P w=.ok b w:=by unfold Vs at h;cases a:P.underlying t with|none=>rw[a]at h;cases h|some d =>rw[a]at h;simp only[isAgg,Sem.run_bind,run_underlying a,Result.andThen_ok];cases d<;>simp_all
def Cells(g:Gh)(w:World)(b o:Nat)(row:List AV):Prop:=∀(j:Nat)(a:AV),row[j]?=some a->∃x,w.cell? ⟨b,o+j,none⟩=some x/\aO g w a x
theorem Cells.list{b:Nat}:∀{row:List AV}{o:Nat},Cells g w b o row->∃cs:List Value,cs.length=row.length/\(∀j x,cs[j]?=some x->w.cell? ⟨b,o+j,none⟩=some x)/\∀(j:Nat)(a:AV)(x:Value),row[j]?=some a->cs[j]?=some x->aO g w a x|[],o,h=>⟨[],rfl,λj x e=>X,λj a x d=>X⟩|a::row,o,h=>by let⟨x,e,i⟩:=h 0 a rfl;obtain⟨cs,k,l,m⟩:=Cells.list (row:=row) (o:=o+1) (λj a d=>by let⟨y,c,f⟩:=h (j+1) a (by grind);exact⟨y,by rw[<-c];congr 2;omega,f⟩);refine⟨x::cs,X,λj y c=>?_,λj n y d c=>?_⟩;grind;grind
theorem Cells.drop{o:Nat}{row:List AV}(h:Cells g w b o row)(j:Nat):Cells g w b (o+j) (row.drop j):=λi a c=>by rw[cL_]at c;let⟨x,e,d⟩:=h (j+i) a c;exact⟨x,X,d⟩
theorem Cells.take{o:Nat}{row:List AV}(h:Cells g w b o row)(n:Nat):Cells g w b o (row.take n):=λi a c=>by rw[bK_]at c;split at c;exact h i a c;grind
theorem To(row:List AV)(j n:Nat):Vt row j n=(row.drop j).take n:=by unfold Vt;split;rename_i h;have:=aS_ h;subst this;simp;rfl
theorem H2{row:List AV}{o:Nat}{r:AV}(h:rK P t row j=some r)(e:Cells g w b o row):∃x,(loadVar t ⟨b,o+j,none⟩).run P w=.ok x w/\aO g w r x:=by unfold rK at h;split at h;rename_i n c k;split at h;rename_i d;have d:=ay_ d;cases oJ_ h;rw[To];let⟨cs,q,s,l⟩:=((e.drop j).take n).list;have m:cs.length=n:=X;refine⟨.agg cs.toArray,?_,.agg X λi a x c f=>l i a x c X⟩;have:=run_loadCells_list (P:=P) (w:=w) ⟨b,o+j,none⟩ cs (λi v u=>by grind[iy]);simp only[loadVar,Sem.run_bind,C8 c,Result.andThen_ok,if_true,cW k];rw[<-m,this];rfl;grind;rename_i c;let⟨x,f,p⟩:=e j r h;refine⟨x,?_,p⟩;simp only[loadVar,Sem.run_bind,C8 c,Result.andThen_ok,if_false,bw_,run_load,f];grind
theorem Xw{c:Nat}{rows:List (List AV)}{fz:Nat}(h:fj g w b c (.arr sz rows fz ex)){i:Nat}{row:List AV}(d:rows[i]?=some row):Cells g w b (i*sz) row:=by let⟨cs,e,f,o,p,q,k,r,s⟩:=h;intro j a l;let⟨x,m,n⟩:=(k i row d).2 j a l;exact⟨x,by rw[cell_of_row _ _ _ cs e (0,0) f];exact m,n⟩
theorem IT{cs:List AV}(h:aO g w (.ip cs) v):∃b o,v=.pointer (some ⟨b,o,none⟩)/\Cells g w b o cs:=by cases h with|ip h d=>exact⟨_,_,rfl,λj a c=>⟨_,(h j a c).2,d j a c⟩⟩
theorem H3{a r:AV}(d:St Y A g S w)(h:An P S t a=some r)(e:aO g w a v):∃b o x,v=.pointer (some ⟨b,o,none⟩)/\(loadVar t ⟨b,o,none⟩).run P w=.ok x w/\aO g w r x:=by
 unfold An at h;split at h;grind[IT,H2];rename_i k sz i j;split at h;rename_i f rows fz ex l;split at h;rename_i c;have c:=aS_ c;subst c;split at h;rename_i row m;cases e with|pt n =>let⟨x,p,q⟩:=H2 h (Xw (d.cX k _ l n).2.2 m);exact⟨_,_,x,rfl,p,q⟩
 grind;grind;grind;grind
theorem yy{a:AV}(h:db a=true)(b:aO g w a x):x.oneCell'=true:=by cases b<;>simp_all[db,Value.oneCell']
theorem uH{a:AV}(h:(bp a).all db=true)(f:aO g w a x):x.cells.size=(bp a).length/\(∀(i:Nat)(b:AV)(y:Value),(bp a)[i]?=some b->x.cells[i]?=some y->aO g w b y)/\∀y∈x.cells.toList,y.oneCell'=true:=by
 have one:bp a=[a]->x.cells.size=(bp a).length/\∀(i:Nat)(b:AV)(y:Value),(bp a)[i]?=some b->x.cells[i]?=some y->aO g w b y:=by
  intro e;rw[e]at h⊢;have c:x.oneCell'=true:=yy X f;have k:x.cells=#[x]:=by cases x<;>simp_all[Value.cells,Value.oneCell']
  rw[k];refine⟨rfl,λi b y c d=>?_⟩;cases i with|zero=>simp at c d;subst c d;exact f|succ i=>simp at c
 have key:x.cells.size=(bp a).length/\∀(i:Nat)(b:AV)(y:Value),(bp a)[i]?=some b->x.cells[i]?=some y->aO g w b y:=by cases a with
  |agg l=>cases f with|agg m n=>exact⟨m,n⟩
  |_=>exact one rfl
 refine⟨key.1,key.2,λy o=>?_⟩;obtain⟨i,p,rfl⟩:=List.getElem_of_mem o;have j:i<(bp a).length:=X;have c:(bp a)[i]?=some (bp a)[i]:=aw_ j;have d:x.cells[i]?=some x.cells.toList[i]:=X;exact yy (aZ_.1 h _ (cM_ j)) (key.2 i _ _ c d)
theorem Lo(row:List AV)(j:Nat)(cs:List AV):uF row j cs=row.take j++cs++row.drop (j+cs.length):=by unfold uF;split;rename_i h;have:=aS_ h;simp[this];rfl
theorem H4{row:List AV}{cs:List AV}(h:j+cs.length<=row.length):(uF row j cs).length=row.length:=by grind[Lo]
theorem BU(row cs:List U)(j:Nat)(h:j+cs.length<=row.length)(q:Nat):(row.take j++cs++row.drop (j+cs.length))[q]?=if q<j then row[q]? else if q<j+cs.length then cs[q-j]? else row[q]?:=X
theorem E4{a b:AV}{S':ah}(T:St Y A g S w)(h:uG P S t b a=some S')(hv:aO g w a v)(hx:aO g w b x):∃c o w',v=.pointer (some ⟨c,o,none⟩)/\(storeVar t ⟨c,o,none⟩ x).run P w=.ok () w'/\S'.nx=S.nx/\Ext A g w g w'/\St Y A g S' w':=by
 unfold uG at h;split at h;rename_i k sz i j;split at h;rename_i sz' rows ex V;split at h;rename_i W;simp only[au_]at W;let⟨⟨K,nD⟩,C⟩:=W;have K:=aS_ K;subst K;split at C;rename_i n hs;have C:=aS_ C;split at h;rename_i row E;split at h;rename_i l;have l:=ay_ l;cases oJ_ h;let⟨r,L,M⟩:=uH nD hx;cases hv with|pt au =>
  let⟨k2,k3,k4⟩:=T.cX k _ V au;let⟨cs,N,Q,h2,h3,h4,s,h6,h7⟩:=k4;have Tp:i<rows.length:=(aB_.1 E).1;have iz:=(s i row E).1;have hmul:i*sz+sz<=rows.length*sz:=by have:=aT_ sz (show i+1<=rows.length from Tp);rwa[aL_,bx_]at this
  have axy:rows.length*sz<=g.cp k*sz:=aT_ sz h3;have jy:i*sz+j+0+x.cells.toList.length<=cs.size:=X;have R:=run_storeCells_at P (g.ob k) (i*sz+j) N x.cells.toList 0 cs w Q jy M;simp only[bz_]at R;let⟨cs',E5⟩:=aq (cs.toList.take (i*sz+j)++x.cells.toList++cs.toList.drop (i*sz+j+x.cells.toList.length)).toArray;rw[<-E5]at R;have qw:∀q,cs'[q]?=if q<i*sz+j then cs[q]? else if q<i*sz+j+(bp b).length then x.cells[q-(i*sz+j)]? else cs[q]?:=by intro q;rw[E5,cs_,BU _ _ _ X];simp only[bh_,bo_,r]
  have GL:cs'.size=cs.size:=X;let⟨hE,dF⟩:=T.row V au Q (cs':=cs') (ob:=.arr sz (rows.set i (uF row j (bp b))) 0 ex) (λJ=>⟨aB,aB⟩) (λq hq=>absurd ((h7 q).1 hq) aB) (λF=>by
   refine⟨cs',N,setRow_heap w _ cs cs' N (0,0) Q,GL.trans h2,X,λhe=>X,λm bR u=>?_,aF_ _,h7⟩;by_cases e:m=i;subst e;rw[dD_ Tp]at u;cases oJ_ u;refine⟨(H4 l).trans iz,λd G f=>?_⟩;rw[Lo,BU _ _ _ l]at f;rw[qw];by_cases c1:d<j;rw[if_pos c1]at f;rw[if_pos Z];let⟨y,p,z⟩:=(s _ row E).2 d G f;exact⟨y,p,z.later F⟩;rw[if_neg c1]at f;rw[if_neg Z];by_cases c2:d<j+(bp b).length;rw[if_pos c2]at f;rw[if_pos Z,show m*sz+d-(m*sz+j)=d-j by omega];have B:d-j<x.cells.size:=X;exact⟨x.cells[d-j],aM_ B,(L _ _ _ f (aM_ B)).later F⟩;rw[if_neg c2]at f;rw[if_neg Z];let⟨y,p,z⟩:=(s _ row E).2 d G f;exact⟨y,p,z.later F⟩;rw[dE_ (Ne.symm e)]at u;refine⟨(s m bR u).1,λd G f=>?_⟩;let⟨y,p,z⟩:=(s m bR u).2 d G f;have nw:d<sz:=X;refine⟨y,?_,z.later F⟩;rw[qw];rcases Nat.lt_or_gt_of_ne e with c|c;have:m*sz+sz<=i*sz:=by have:=aT_ sz (show m+1<=i from c);rwa[aL_,bx_]at this
   rw[if_pos Z];exact p;have:i*sz+sz<=m*sz:=by have:=aT_ sz (show i+1<=m from c);rwa[aL_,bx_]at this
   rw[if_neg Z,if_neg Z];exact p);refine⟨_,_,_,rfl,?_,rfl,hE,dF⟩;have e:x.cells.size=n:=r.trans C.symm;simp only[storeVar,Sem.run_bind,cW hs,Result.andThen_ok,e,ne_eq,not_true,if_false];exact R
 grind;grind;grind;grind;grind;grind
end
inductive Lp{U β:Type}(R:U->β->Prop):List U->List β->Prop where|nil:Lp R [] []|cons {a:U}{b:β}{l:List U}{m:List β}(h:R a b) (t:Lp R l m):Lp R (a::l) (b::m)
section
variable{g:Gh}{S:ah}
theorem E6(off:Nat):∀(l:List Value)(k:Nat)(cs:Array Value),((l.zipIdx k).foldl (λcs (p:Value×Nat)=>cs.setIfInBounds (off+p.2) p.1) cs).size=cs.size /\(off+k+l.length<=cs.size->∀q,((l.zipIdx k).foldl (λcs (p:Value×Nat)=>cs.setIfInBounds (off+p.2) p.1) cs)[q]?=if q<off+k then cs[q]? else if q<off+k+l.length then l[q-(off+k)]? else cs[q]?)|[],k,cs=>⟨rfl,λ_ q=>by simp only[bi_,bz_,List.zipIdx_nil,List.foldl_nil];split<;>first|rfl|rename_i c;rw[if_neg c]⟩|v::l,k,cs=>by let⟨d,b⟩:=E6 off l (k+1) (cs.setIfInBounds (off+k) v);simp only[List.zipIdx_cons,dk_];refine⟨X,λa q=>?_⟩;simp only[aC_]at a;rw[b X q];simp only[dj_,aC_];by_cases e:q<off+k;grind;grind
def tD(g:Gh)(w:World)(l:List AV)(cs:Array Value):Prop:=cs.size=l.length/\∀(i:Nat)(a:AV)(x:Value),l[i]?=some a->cs[i]?=some x->aO g w a x
theorem tD.b9(cs:Array Value):tD g w (cs.toList.map b9) cs:=by refine⟨aB,λi a x b c=>?_⟩;simp only[aY_,bb_]at b;obtain⟨y,d,rfl⟩:=b;have:some x=some y:=X;cases oJ_ this;exact nQ x
theorem tD.lay{l:List AV}(h:tD g w l cs){a:AV}(f:(bp a).all db=true)(j:aO g w a x){off:Nat}(e:off+(bp a).length<=l.length)(hs:cs'.size=cs.size)(k:∀q,cs'[q]?=if q<off then cs[q]? else if q<off+x.cells.size then x.cells[q-off]? else cs[q]?):tD g w (uF l off (bp a)) cs':=by let⟨m,n,o⟩:=uH f j;refine⟨by rw[hs,h.1,H4 e],λi b y c d=>?_⟩;rw[Lo,BU _ _ _ e]at c;rw[k,m]at d;by_cases d1:i<off;rw[if_pos d1]at c d;exact h.2 i b y c d;rw[if_neg d1]at c d;by_cases d2:i<off+(bp a).length;grind;rw[if_neg d2]at c d;exact h.2 i b y c d
theorem C9{place:Nat->Option (Nat×Nat)}:∀{parts:List (Nat×AV)}{k:List (Nat×Value)}{l r:List AV}{cs:Array Value},C6 place l parts=some r->tD g w l cs ->Lp (λ(p:Nat×AV) (q:Nat×Value)=>p.1=q.1/\aO g w p.2 q.2) parts k->∃cs',Instr.fill place cs k=some cs'/\tD g w r cs'|[],_,l,r,cs,h,b,c=>by cases c;cases oJ_ h;exact⟨cs,rfl,b⟩|(i,a)::C,_,l,r,cs,h,b,c=>by cases c with|@cons _ q _ E t u =>
   let⟨j,x⟩:=q;let⟨e,d⟩:=t;simp only at e d;subst e;simp only[C6]at h;split at h;rename_i off size v;split at h;rename_i m;simp only[au_]at m;let⟨⟨n,o⟩,s⟩:=m;have n:=aS_ n;have o:=ay_ o;let⟨y,F,G⟩:=uH s d;have f:=E6 off x.cells.toList 0 cs;have J:off+x.cells.size<=cs.size:=by rw[b.1,y];omega
   have f2:=f.2 X;have z:=b.lay (cs':=(x.cells.toList.zipIdx 0).foldl (λcs (p:Value×Nat)=>cs.setIfInBounds (off+p.2) p.1) cs) (off:=off) s d Z f.1 λq=>X;let⟨cs',A,B⟩:=C9 h z u;refine⟨cs',?_,B⟩;rw[<-A];simp only[Instr.fill,v];rw[if_neg X];congr 1;rw[<-dl_,dF_];grind;grind
def Ao{n:Nat}{U:AA}{a:Act}(b:cN g w n U a):∀(parts:List (Nat×Operand)),Lp (λ(p:Nat×AV) (q:Nat×Value)=>p.1=q.1/\aO g w p.2 q.2) (parts.map λ(i,x)=>(i,U.ev x)) (parts.map λ(i,x)=>(i,a.eval x))|[]=>.nil|(i,x)::c=>.cons ⟨rfl,b.ev x⟩ (Ao b c)
theorem Mw:∀(fs:List Field),(fs.all λ(f:Field)=>(eJ P f.type).isSome)=true->∃pl:List (Nat×Nat),fs.mapM (λ(f:Field)=>(P.info? f.type).map λi=>(f.offset,i.size))=some pl /\∀i:Nat,pl[i]?=match fs[i]? with|some f=>(match eJ P f.type with|some n=>some (f.offset,n)|none=>none)|none=>none
 |[],_=>⟨[],aB,λi=>aB⟩|f::fs,h=>by simp only[aJ_,au_]at h;let⟨n,a⟩:=dm_.1 h.1;let⟨pl,c,d⟩:=Mw fs h.2;have b:=a;unfold eJ at b;let⟨i,g,e⟩:=bb_.1 b;refine⟨(f.offset,n)::pl,by simp[List.mapM_cons,g,c,e],λi=>?_⟩;cases i with|zero=>simp[a]|succ i=>simpa using d i
theorem SQ{U:AA}{t:TypeId}{parts:Array (Nat×Operand)}{r:AV}(u:cN g w n U a)(h:y8 P t (parts.toList.map λ(i,x)=>(i,U.ev x))=some r):∃v,(Instr.build t (parts.map λ(i,x)=>(i,a.eval x))).run P w=.ok v w/\aO g w r v:=by
 have o:=Ao u parts.toList;unfold y8 at h;split at h;rename_i cs y;have b:=y;unfold eu at b;let⟨it,p,q⟩:=cK_.1 b;split at h;rename_i s f;split at h;rename_i z;obtain⟨l,j,rfl⟩:=bb_.1 h;let⟨cs',d,c⟩:=C9 j (tD.b9 cs) o;let⟨pl,A,B⟩:=Mw s.toList z;refine⟨.agg cs',run_build w t _ cs' ?_,.agg c.1 c.2⟩;have e:OQ P s=λx=>pl.toArray[x]?:=by funext i;rw[cs_,B i,bh_];rfl
 rw[e]at d;simp only[Program.built,p,f,q,A,bV_];exact d;grind;rename_i len e f;split at h;rename_i m C;obtain⟨l,j,rfl⟩:=bb_.1 h;let⟨cs',d,c⟩:=C9 j (tD.b9 cs) o;refine⟨.agg cs',run_build w t _ cs' ?_,.agg c.1 c.2⟩;obtain⟨E,k,rfl⟩:=oo C;simp only[Program.built,p,f,q,k,bV_];exact d;grind;grind;grind
end
end Go.Proofs.YtbdcmpknicjopaaGreat
