/-
  The walk of each's iterator, in the program: for every body that keeps the program and the blocks of rules and of constraints.
-/
import Derived.Test.YtahhaiomdjlckaaW21
import Derived.Test.YtahhaiomdjlckaaEv
import Derived.Test.YtahhaiomdjlckaaStillIn
import Derived.RangeFuncNested
import Derived.RangeFuncBound
import Derived.RangeFuncCalls
import Derived.RangeFuncLeaves
import Derived.Shelf.Abstract
import Derived.OwnWalkIn
import Derived.TacticsInMore
import Derived.LoopNIn
import Derived.LoopIn
namespace Go.Proofs.Ytahhaiomdjlckaa
set_option linter.unusedVariables false
set_option linter.unusedSimpArgs false
open Go.RowKit Go.Shelf
attribute [local go_sem] Oper.semAt_some

/-- blocks of rules and of constraints lie as they lay. -/
def TKeep (X Y : World) : Prop := X.heap.size ≤ Y.heap.size ∧ ∀ (b : Nat) (cs : Array Value) (t : TypeId) (fr : Nat × Nat), X.heap[b]? = some (.cells cs t fr) → t = 25 ∨ t = 52 → Y.heap[b]? = some (.cells cs t fr)
theorem TKeep.refl (X : World) : TKeep X X := ⟨Nat.le_refl _, fun _ _ _ _ h _ => h⟩
theorem TKeep.trans {X Y Z : World} (h : TKeep X Y) (k : TKeep Y Z) : TKeep X Z := ⟨Nat.le_trans h.1 k.1, fun b cs t fr hb ht => k.2 b cs t fr (h.2 b cs t fr hb ht) ht⟩
theorem TKeep.of_below {X Y : World} (h : Below X.heap.size X Y) : TKeep X Y := ⟨h.size, fun b _ _ _ hb _ => (h.block b (lt_of_block hb)).trans hb⟩
def EKp (n : Nat) (X Y : World) : Prop := Below n X Y ∧ TKeep X Y
theorem EKp.trans {n : Nat} {X Y Z : World} (h : EKp n X Y) (k : EKp n Y Z) : EKp n X Z := ⟨h.1.trans k.1, h.2.trans k.2⟩
theorem Owned.tkeep {w0 X Y : World} {v : Value} {l : List At} (h : Owned RA 52 2 w0 X v l) (hk : TKeep X Y) : Owned RA 52 2 w0 Y v l := by
  obtain ⟨css, h1, h2, h3, h4, h5⟩ := h
  refine ⟨css, h1, h2, h3, h4, ?_⟩
  rcases h5 with h5 | ⟨g, cap, cur, e, hB, hh, rest⟩
  · exact .inl h5
  · exact .inr ⟨g, cap, cur, e, hB, hk.2 _ _ _ _ hh (.inr rfl), rest⟩
/-- what the iterator holds while it goes through a rule: its copy of the rule, the heads. -/
structure EIn (w0 w1 : World) (rv : Array Value) (Bx : Nat) (hv : Value) (l : List At) (W : World) : Prop where
  below : Below w0.heap.size w0 W
  bx : W.heap[Bx]? = some (.cells rv 25 (0, 0))
  hd : Owned RA 52 2 w1 W hv l
theorem EIn.kept {w0 w1 : World} {rv : Array Value} {Bx : Nat} {hv : Value} {l : List At} {W W' : World} (h : EIn w0 w1 rv Bx hv l W) (hk : EKp w0.heap.size W W') : EIn w0 w1 rv Bx hv l W' :=
  ⟨h.below.trans hk.1, hk.2.2 _ _ _ _ h.bx (.inl rfl), h.hd.tkeep hk.2⟩
theorem abides_below {β : Type} {B : Nat} {J : β → World → Prop} (hJ : AbidesFrom B J) {s : β} {W W' : World} (h : J s W) (hb : Below W.heap.size W W') : J s W' :=
  hJ s W W' none h ⟨hb.os, hb.tape, hb.output, hb.size, fun i hi _ => hb.block i hi⟩ (fun r e => by cases e)

set_option maxRecDepth 100000 in
set_option maxHeartbeats 2000000 in
theorem each1_in (n : Nat) (hn : 1 ≤ n) (l Bp : Nat) (w0 : World) (rA dA : Option Addr) (rc dn dc : Nat) (rs : List Rl) (hrs : SlAt RlAt 6 w0 rA rs) (hok : RsOk rs) (J Jx : List Ev → World → Prop) (W : World)
    (hJ : AbidesFrom W.heap.size J) (hW : Below w0.heap.size w0 W)
    (hY : ∀ pre x W1, J pre W1 → pre.length < (evs rs).length → YieldAt Fence.wide (n - 1) Try.prog l (enc x) W1 fun e W' =>
      (e = .returned (.bool true) ∧ J (pre ++ [x]) W' ∧ EKp w0.heap.size W1 W') ∨ (e = .returned (.bool false) ∧ Jx (pre ++ [x]) W'))
    (hBp : W.heap[Bp]? = some (.cells #[.slice dA dn dc, .slice rA rs.length rc] 39 (0, 0))) (h0 : J [] W) :
    CallsIn Fence.wide n Try.prog 53 #[.func (.yield l) #[] #[], .pointer (some ⟨Bp, 0, none⟩)] W fun e W' => (∃ v, e = .returned v) ∧
      ((∃ ys, ys.map er = evs rs ∧ J ys W') ∨ (∃ pre, True ∧ Jx pre W')) := by
  have c1 : W.cell? ⟨Bp, 1, none⟩ = some (.slice rA rs.length rc) := by rw [cell_of_row _ _ 1 _ _ _ hBp]; rfl
  have hl := hrs.1
  unfold maxLen at hl
  have HJ := Lib.hid hJ
  have HY := Lib.hid hY
  have Hrs := Lib.hid hrs
  have Hok := Lib.hid hok
  clear hJ hY hBp hrs hok
  refine callsIn_of_wp Try.func53 rfl trivial ?_ rfl
  simp only [Try.ntmps53, List.size_toArray, List.length_cons, List.length_nil, Nat.reduceAdd, Nat.reduceSub, Array.replicate_succ, Array.replicate_zero, List.push_toArray, List.append_toArray, List.nil_append, List.cons_append]
  gi_wp2
  gi_loopw [10] (fun i wr => ∃ (k : Nat) (pre : List Ev), k ≤ rs.length ∧ i = .int .i64 k ∧ Hid (pre.map er = evUpto rs k) ∧ J pre wr ∧ Below w0.heap.size w0 wr) (fun i _ => rs.length - (intOf i).toNat)
  case atStart => exact ⟨0, [], Nat.zero_le _, rfl, Lib.hid rfl, h0, hW⟩
  case round =>
    obtain ⟨i, pre, hil, rfl, Hpre, hJs, hbel⟩ := hrel
    by_cases hlt : i < rs.length
    · obtain ⟨r, hr⟩ : ∃ r, rs[i]? = some r := ⟨_, List.getElem?_eq_getElem hlt⟩
      have hrn := Hok.out.h r (List.mem_of_getElem? hr)
      obtain ⟨b, off, rfl, hblt, ⟨q0, _⟩, ⟨kA, kc, q1, hk⟩, ⟨mA, mc, q2, hm⟩, ⟨gA, gc, q3, _⟩, ⟨bA, bc, q4, _⟩, q5, _⟩ := (SlAt.below RlAt.stable Hrs.out hbel).2 i r hr
      have hmono := evUpto_mono (rs := rs) (i := i + 1) (j := rs.length) (by omega)
      have hsucc := evUpto_succ hr
      have hlen : (evUpto rs (i + 1)).length = (evUpto rs i).length + nh r := by rw [hsucc, List.length_append, evDown_len]
      have Hsucc := Lib.hid hsucc
      have hlen2 : (evUpto rs i).length + nh r ≤ (evs rs).length := by unfold evs; omega
      have hkl : r.kp.length ≤ 1000 := by unfold nh at hrn; omega
      have hml : r.rm.length ≤ 1000 := by unfold nh at hrn; omega
      have hb1 : Below wr.heap.size wr (wr.alloc (.cells #[.string r.nm, .slice kA r.kp.length kc, .slice mA r.rm.length mc, .slice gA r.gd.length gc, .slice bA r.bd.length bc, .int .i64 r.vs] 25)) := (Below.refl _ _).alloc (Nat.le_refl _) _
      have h0 := heads_any r kA mA gA bA kc mc gc bc (wr.alloc (.cells #[.string r.nm, .slice kA r.kp.length kc, .slice mA r.rm.length mc, .slice gA r.gd.length gc, .slice bA r.bd.length bc, .int .i64 r.vs] 25)) (SlAt.below AtAt.stable hk hb1) (SlAt.below AtAt.stable hm hb1) (by omega) (by omega)
      unfold rlv at h0
      obtain ⟨hs, hhs⟩ : ∃ hs, hs = r.kp ++ r.rm := ⟨_, rfl⟩
      rw [← hhs] at h0
      have hsl : hs.length = nh r := by rw [hhs, List.length_append]; rfl
      have hs1000 : hs.length ≤ 1000 := by omega
      have hlen3 : (evUpto rs i).length + hs.length ≤ (evs rs).length := by omega
      have Hsl := Lib.hid hsl
      have Hget := Lib.hid (fun k (h : k < nh r) => hhs ▸ hdAt_get (r := r) h)
      have hcall := Lib.hid (callsIn_wide (n := n - 1).2 h0)
      have HJs := Lib.hid hJs
      clear h0 hr hsucc hlen hmono hk hm hrn hJs hsl hhs hlen2
      gi_wp2_with fail
      refine ⟨trivial, hcall.out.mono ?_⟩
      rintro e w2 ⟨v, rfl, hown, hb2⟩
      obtain ⟨hA, hc, rfl⟩ := hown.shape
      obtain ⟨Bx, hBx⟩ : ∃ Bx, Bx = wr.heap.size := ⟨_, rfl⟩
      have hbx2 : w2.heap[wr.heap.size]? = some (.cells #[.string r.nm, .slice kA r.kp.length kc, .slice mA r.rm.length mc, .slice gA r.gd.length gc, .slice bA r.bd.length bc, .int .i64 r.vs] 25 (0, 0)) := (hb2.block _ (by simp)).trans (heap_alloc_new wr _)
      have hw2 : Below wr.heap.size wr w2 := hb1.trans (hb2.mono (by simp))
      have hin := Lib.hid (EIn.mk (hbel.trans (hw2.mono hbel.size)) hbx2 hown)
      have hJ2 := Lib.hid (abides_below HJ.out HJs.out hw2)
      rw [← hBx] at hin ⊢
      clear hown hbx2 hb2 hw2 hcall HJs hBx
      gi_wp2
      obtain ⟨wo, hwo⟩ : ∃ W, W = wr := ⟨_, rfl⟩
      subst hwo
      gi_loopw [6] (fun z wr => ∃ (z' : Int) (j : Nat) (pre' : List Ev), z = .int .i64 z' ∧ z' = (hs.length : Int) - 1 - j ∧ j ≤ hs.length ∧ Hid (pre'.map er = evUpto rs i ++ evDown i r j) ∧ Hid (J pre' wr) ∧ Hid (EIn w0 (wo.alloc (.cells #[.string r.nm, .slice kA r.kp.length kc, .slice mA r.rm.length mc, .slice gA r.gd.length gc, .slice bA r.bd.length bc, .int .i64 r.vs] 25)) #[.string r.nm, .slice kA r.kp.length kc, .slice mA r.rm.length mc, .slice gA r.gd.length gc, .slice bA r.bd.length bc, .int .i64 r.vs] Bx (.slice hA hs.length hc) hs wr)) (fun z _ => (intOf z + 1).toNat)
      case atStart => exact ⟨_, 0, pre, rfl, by omega, Nat.zero_le _, Lib.hid (by rw [Hpre.out]; simp [evDown]), hJ2, hin⟩
      case round =>
        obtain ⟨z, j, pre', rfl, hz, hj, Hpre', HJ', HI⟩ := hrel
        have HZ := Lib.hid hz
        by_cases hlt' : j < hs.length
        · obtain ⟨k, rfl⟩ : ∃ k : Nat, z = k := Int.eq_ofNat_of_zero_le (by omega)
          have hkj : k + 1 + j = hs.length := by omega
          have Hkj := Lib.hid hkj
          have hk : k < hs.length := by omega
          obtain ⟨g, o, cs, rfl, hg, ⟨B, d, rfl, _, _⟩, hcs⟩ := HI.out.hd.at_ (by decide) (Hget.out k (by rw [← Hsl.out]; exact hk))
          have p0 : wr.cell? ⟨g, o + k * 2, none⟩ = some (.string (hdAt r k).nm) := hcs 0 (by decide)
          have p1 : wr.cell? ⟨g, o + k * 2 + 1, none⟩ = some (.slice B (hdAt r k).ts.length d) := hcs 1 (by decide)
          have b1 : wr.cell? ⟨Bx, 1, none⟩ = some (.slice kA r.kp.length kc) := by rw [cell_of_row _ _ 1 _ _ _ HI.out.bx]; rfl
          have hlB := lt_of_block HI.out.bx
          have hpl : pre'.length = (evUpto rs i).length + j := by
            have := congrArg List.length Hpre'.out
            rw [List.length_map, List.length_append, evDown_len] at this
            exact this
          obtain ⟨fn, tmps, assign, body, hy, hR⟩ := HY.out pre' ⟨i, k, decide (k < r.kp.length), (hdAt r k).nm, B, (hdAt r k).ts.length, d⟩ wr.drew (abides_below HJ.out HJ'.out ((Below.refl _ _).drew)) (by rw [hpl]; omega)
          dsimp only [enc] at hy
          clear hcs hz hkj hpl
          gi_wp2
          refine wpIn_region_still_tail 13 (by kernel_rfl) (by kernel_rfl) ?_
          simp only [List.take_succ_cons, List.take_zero, List.drop_succ_cons, List.drop_zero]
          repeat still_step
          try refine wpStill_nil ?_
          change wpListIn _ _ _ _ _ _ _ wr.drew
          have hx : er ⟨i, k, decide (k < r.kp.length), (hdAt r k).nm, B, (hdAt r k).ts.length, d⟩ = ev i r (nh r - 1 - j) := by
            have h1 := Hkj.out
            have h2 := Hsl.out
            rw [show nh r - 1 - j = k by omega]; rfl
          have Hx := Lib.hid hx
          clear hx
          gi_wp2
          refine hR.mono ?_
          rintro e W3 (⟨rfl, hJ3, hk3⟩ | ⟨rfl, hJx3⟩)
          · have HI3 := Lib.hid (HI.out.kept (EKp.trans ⟨(Below.refl _ wr).drew, TKeep.of_below (Below.refl _ wr).drew⟩ hk3))
            have HJ3 := Lib.hid hJ3
            clear hJ3 hk3
            gi_wp2
            go_roundw
            case rel => exact ⟨_, j + 1, _, rfl, by have := Hkj.out; omega, by omega, Lib.hid (by rw [List.map_append, Hpre'.out, List.append_assoc]; simp only [evDown, List.map_cons, List.map_nil, Hx.out]), HJ3, HI3⟩
            case measure => simp [intOf]
          · gi_wp2
            refine bodyPost_ret (results_none rfl _ _ _) rfl ?_
            exact ⟨⟨_, rfl⟩, .inr ⟨_, trivial, hJx3⟩⟩
        · obtain rfl : j = hs.length := by omega
          have hz1 : z < 0 := by omega
          have hb := Lib.hid HI.out.below
          clear hz
          gi_wp2
          go_roundw
          case rel => exact ⟨i + 1, pre', by omega, by go_num, Lib.hid (by rw [Hpre'.out, Hsl.out, Hsucc.out]), HJ'.out, hb.out⟩
          case measure => simp [intOf]; omega
    · gi_wp2
      go_end0
      obtain rfl : i = rs.length := by omega
      exact ⟨⟨_, rfl⟩, .inl ⟨pre, Hpre.out, hJs⟩⟩
end Go.Proofs.Ytahhaiomdjlckaa
