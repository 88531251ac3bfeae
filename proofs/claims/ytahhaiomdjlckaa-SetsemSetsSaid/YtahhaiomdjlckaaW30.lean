/-
  The walk of Great, in the reference: what is not great has few declarations and rules, and rules with few heads.
-/
import Derived.Test.YtahhaiomdjlckaaW29
import Derived.Test.YtahhaiomdjlckaaEv
import Derived.Outline
namespace Go.Proofs.Ytahhaiomdjlckaa
set_option linter.unusedVariables false
set_option linter.unusedSimpArgs false
open Go.RowKit

/-- it returns a bool of which p holds. -/
def RetB (p : Bool → Prop) (e : Ending) : Prop := ∃ r, e = .returned (.bool r) ∧ p r

set_option maxRecDepth 100000 in
set_option maxHeartbeats 4000000 in
theorem great_any (dA rA : Option Addr) (dc rc : Nat) (ds : List Dc) (rs : List Rl) (w : World) (hds : SlAt DcAt 2 w dA ds) (hrs : SlAt RlAt 6 w rA rs) :
    Calls Try.prog 12 #[.agg #[.slice dA ds.length dc, .slice rA rs.length rc], .int .i64 200] w fun e w' => RetB (fun r => r = false → ds.length ≤ 60 ∧ RsOk rs) e ∧ Below w.heap.size w w' := by
  have hl := hds.1
  have hm := hrs.1
  unfold maxLen at hl hm
  have Hds := Lib.hid hds
  have Hrs := Lib.hid hrs
  have hbox : Below w.heap.size w (w.alloc (.cells #[.slice dA ds.length dc, .slice rA rs.length rc] 39)) := (Below.refl _ _).alloc (Nat.le_refl _) _
  have Hbox := Lib.hid hbox
  clear hds hrs hbox
  cases t9 : decide ((60 : Int) < (ds.length : Int)) with
  | true =>
    go_enter Try.func12, Try.ntmps12
    go_wp2
    go_ret
    exact ⟨⟨_, rfl, fun h => by cases h⟩, Hbox.out⟩
  | false =>
    cases t14 : decide ((60 : Int) < (rs.length : Int)) with
    | true =>
      go_enter Try.func12, Try.ntmps12
      go_wp2
      go_ret
      exact ⟨⟨_, rfl, fun h => by cases h⟩, Hbox.out⟩
    | false =>
      have hd60 : ds.length ≤ 60 := by rw [decide_eq_false_iff_not] at t9; omega
      have hr60 : rs.length ≤ 60 := by rw [decide_eq_false_iff_not] at t14; omega
      have Hbx := Lib.hid (heap_alloc_new w (.cells #[.slice dA ds.length dc, .slice rA rs.length rc] 39))
      have c0 : (w.alloc (.cells #[.slice dA ds.length dc, .slice rA rs.length rc] 39)).cell? ⟨w.heap.size, 0, none⟩ = some (.slice dA ds.length dc) := by rw [cell_of_row _ _ 0 _ _ _ Hbx.out]; rfl
      go_enter Try.func12, Try.ntmps12
      go_wp2
      obtain ⟨V, hV⟩ : ∃ V, V = w.alloc (.cells #[.slice dA ds.length dc, .slice rA rs.length rc] 39) := ⟨_, rfl⟩
      rw [← hV] at Hbox Hbx c0 ⊢
      have c1 : V.cell? ⟨w.heap.size, 1, none⟩ = some (.slice rA rs.length rc) := by rw [cell_of_row _ _ 1 _ _ _ Hbx.out]; rfl
      have lV := lt_of_block Hbx.out
      clear hV
      go_loop [5] (fun i => ∃ k : Nat, k ≤ ds.length ∧ i = .int .i64 k) (fun i => ds.length - (intOf i).toNat)
      case atStart => exact ⟨0, Nat.zero_le _, rfl⟩
      case round =>
        obtain ⟨k, hk, rfl⟩ := hrel
        by_cases hlt : k < ds.length
        · obtain ⟨d, hd⟩ : ∃ d, ds[k]? = some d := ⟨_, List.getElem?_eq_getElem hlt⟩
          obtain ⟨b, off, rfl, hblt, ⟨p0, hns⟩, p1, _⟩ := (SlAt.below DcAt.stable Hds.out Hbox.out).2 k d hd
          clear hd
          cases hg : decide ((200 : Int) < (d.nm.size : Int)) with
          | true =>
            go_wp2
            go_ret
            exact ⟨⟨_, rfl, fun h => by cases h⟩, Hbox.out⟩
          | false =>
            go_wp2
            go_round
            case rel => exact ⟨k + 1, by omega, by go_num⟩
            case measure => simp [intOf]; omega
        · go_wp2_with fail
          refine (greatRules_any rs rA rc 200 V (Hrs.out.below RlAt.stable Hbox.out) (by omega) (by omega)).mono ?_
          rintro e w1 ⟨⟨r, rfl, hr⟩, hb1⟩
          have Hr := Lib.hid hr
          have Hb1 := Lib.hid (Hbox.out.trans (hb1.mono Hbox.out.size))
          clear hr hb1
          go_wp2
          go_ret
          refine ⟨⟨_, rfl, fun h => ⟨hd60, by omega, fun x hx => ?_⟩⟩, Hb1.out⟩
          have := Hr.out h x hx
          unfold nh
          omega
end Go.Proofs.Ytahhaiomdjlckaa
