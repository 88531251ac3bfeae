/-
  The walks of occur.count and occur.Heads, in the program; of Heads, in the reference.
-/
import Derived.Test.YtahhaiomdjlckaaW20
import Derived.Test.YtahhaiomdjlckaaApp
namespace Go.Proofs.Ytahhaiomdjlckaa
set_option linter.unusedVariables false
set_option linter.unusedSimpArgs false
open Go.RowKit

set_option maxRecDepth 100000 in
theorem count_any (r : Rl) (kA rA gA bA : Option Addr) (kc rc gc bc : Nat) (w : World) (hk : r.kp.length ≤ 1000000) (hr : r.rm.length ≤ 1000000) :
    Calls Try.prog 65 #[rlv r kA rA gA bA kc rc gc bc] w fun e w' => e = .returned (.int .i64 ((r.kp.length + r.rm.length : Nat) : Int)) ∧ Below w.heap.size w w' := by
  have hbox : ∀ o : Obj, Below w.heap.size w (w.alloc o) := fun o => (Below.refl _ _).alloc (Nat.le_refl _) _
  unfold rlv
  go_enter Try.func65, Try.ntmps65
  go_wp2
  go_ret
  exact ⟨ret_int (by push_cast; rfl), hbox _⟩

/-- make([]api.Atom, 0, n). -/
theorem run_make_atoms {i0 : TypeInfo} (hi : Try.prog.info? 52 = some i0) (hz0 : i0.zero = some (.agg #[.string ⟨#[]⟩, .slice none 0 0])) (hz1 : i0.size = 2) (hz2 : i0.bytes = 40) (n : Nat) (hn : n ≤ 2000000) :
    ∃ mc : Array Value, mc.size = n * 2 ∧ ∀ w : World, (Instr.makeSlice 22 (.int .i64 0) (.int .i64 (n : Int))).run Try.prog w = .ok (.slice (some ⟨w.heap.size, 0, none⟩) 0 n) (w.alloc (.cells mc 52)) := by
  refine ⟨_, size_madeCells (Value.agg #[.string ⟨#[]⟩, .slice none 0 0]).cells _, fun w => ?_⟩
  have := run_make (P := Try.prog) w 22 52 i0 _ Try.underlying22 hi hz0 .i64 .i64 0 (n : Int) (Int.le_refl _) (by omega) (by rw [hz2]; omega) (by omega)
  rw [hz1] at this
  simpa only [Int.toNat_zero, Int.toNat_natCast] using this

set_option maxRecDepth 100000 in
set_option maxHeartbeats 1000000 in
theorem heads_any (r : Rl) (kA rA gA bA : Option Addr) (kc rc gc bc : Nat) (w : World) (hk : SlAt AtAt 2 w kA r.kp) (hr : SlAt AtAt 2 w rA r.rm) (h1 : r.kp.length ≤ 1000000) (h2 : r.rm.length ≤ 1000000) :
    Calls Try.prog 54 #[rlv r kA rA gA bA kc rc gc bc] w fun e w' => ∃ v, e = .returned v ∧ Owned RA 52 2 w w' v (r.kp ++ r.rm) ∧ Below w.heap.size w w' := by
  obtain ⟨i0, hi, hz0, hz1, hz2⟩ := info_parts Try.infoAtom
  obtain ⟨mc, hmc, hmk⟩ := run_make_atoms hi hz0 hz1 hz2 (r.kp.length + r.rm.length) (by omega)
  have Hcnt := Lib.hid (fun w => count_any r kA rA gA bA kc rc gc bc w h1 h2)
  obtain ⟨n, hn⟩ : ∃ n, n = r.kp.length + r.rm.length := ⟨_, rfl⟩
  rw [← hn] at hmk hmc Hcnt
  unfold rlv at Hcnt ⊢
  have hn2 : n ≤ 2000000 := by omega
  have Hi := Lib.hid hi
  have Hz0 := Lib.hid hz0
  have Hz1 := Lib.hid hz1
  have Hz2 := Lib.hid hz2
  have Hmc := Lib.hid hmc
  have Hn := Lib.hid hn
  have Hk := Lib.hid hk
  have Hr := Lib.hid hr
  clear hi hz0 hz1 hz2 hk hr hmc hn
  go_enter Try.func54, Try.ntmps54
  go_wp2_with fail
  refine (Hcnt.out _).mono ?_
  rintro e w1 ⟨rfl, hb1⟩
  have b1 : w1.heap[w.heap.size]? = some (.cells #[.string r.nm, .slice kA r.kp.length kc, .slice rA r.rm.length rc, .slice gA r.gd.length gc, .slice bA r.bd.length bc, .int .i64 r.vs] 25 (0, 0)) := (hb1.block _ (by simp)).trans (heap_alloc_new w _)
  have hw1 : Below w.heap.size w w1 := ((Below.refl _ _).alloc (Nat.le_refl _) _).trans (hb1.mono (by simp))
  have b2 : (w1.alloc (.cells mc 52)).heap[w.heap.size]? = some (.cells #[.string r.nm, .slice kA r.kp.length kc, .slice rA r.rm.length rc, .slice gA r.gd.length gc, .slice bA r.bd.length bc, .int .i64 r.vs] 25 (0, 0)) := (Below.heap_alloc _ _ _ (lt_of_block b1)).trans b1
  have hw2 : Below w.heap.size w (w1.alloc (.cells mc 52)) := hw1.alloc hw1.size _
  have c1 : (w1.alloc (.cells mc 52)).cell? ⟨w.heap.size, 1, none⟩ = some (.slice kA r.kp.length kc) := by rw [cell_of_row _ _ 1 _ _ _ b2]; rfl
  have own0 : Owned RA 52 2 w (w1.alloc (.cells mc 52)) (.slice (some ⟨w1.heap.size, 0, none⟩) 0 n) [] := Owned.made hw1.size (by unfold maxLen; omega) Hmc.out
  obtain ⟨css, hs1⟩ := ats_src Hk.out hw2
  have B2 := Lib.hid b2
  have Own0 := Lib.hid own0
  have Hs1 := Lib.hid hs1
  clear b1 b2 own0 hs1 hb1
  go_wp2_with (at_builtin; refine wpList_append_sl rfl _ _ 22 rfl i0 _ 40 Try.underlying22 Hi.out Hz0.out Hz1.out Hz2.out rfl (by decide) rfl Own0.out rfl Hs1.out ?c1 ?c2 hw2 ?_)
  case c1 => simp; unfold maxLen; omega
  case c2 => simp; omega
  intro v2 w2 hown2 hb2 hg2
  have b3 := Owned.other Own0.out hg2 B2.out (by decide)
  have c2 : w2.cell? ⟨w.heap.size, 2, none⟩ = some (.slice rA r.rm.length rc) := by rw [cell_of_row _ _ 2 _ _ _ b3]; rfl
  obtain ⟨css', hs2⟩ := ats_src Hr.out hb2
  have l3 := lt_of_block b3
  have Own2 := Lib.hid hown2
  have Hs2 := Lib.hid hs2
  clear b3 hown2 hs2 hg2
  go_wp2_with (at_builtin; refine wpList_append_sl rfl _ _ 22 rfl i0 _ 40 Try.underlying22 Hi.out Hz0.out Hz1.out Hz2.out rfl (by decide) rfl Own2.out rfl Hs2.out ?c3 ?c4 hb2 ?_)
  case c3 => unfold maxLen; omega
  case c4 => omega
  intro v3 w3 hown3 hb3 hg3
  go_wp2
  go_ret
  exact ⟨_, rfl, hown3, hb3⟩

set_option maxRecDepth 100000 in
set_option maxHeartbeats 1000000 in
theorem rheads_any (r : Rl) (kA rA gA bA : Option Addr) (kc rc gc bc : Nat) (w : World) (hk : SlAt AtAt 2 w kA r.kp) (hr : SlAt AtAt 2 w rA r.rm) (h1 : r.kp.length ≤ 1000000) (h2 : r.rm.length ≤ 1000000) :
    Calls Try.prog 52 #[rlv r kA rA gA bA kc rc gc bc] w fun e w' => ∃ v, e = .returned v ∧ Owned RA 52 2 w w' v (r.kp ++ r.rm) ∧ Below w.heap.size w w' := by
  obtain ⟨i0, hi, hz0, hz1, hz2⟩ := info_parts Try.infoAtom
  unfold rlv
  have hw0 : Below w.heap.size w (w.alloc (.cells #[.string r.nm, .slice kA r.kp.length kc, .slice rA r.rm.length rc, .slice gA r.gd.length gc, .slice bA r.bd.length bc, .int .i64 r.vs] 25)) := (Below.refl _ _).alloc (Nat.le_refl _) _
  have B1 := Lib.hid (heap_alloc_new w (.cells #[.string r.nm, .slice kA r.kp.length kc, .slice rA r.rm.length rc, .slice gA r.gd.length gc, .slice bA r.bd.length bc, .int .i64 r.vs] 25))
  have Own0 : Hid (Owned RA 52 2 w (w.alloc (.cells #[.string r.nm, .slice kA r.kp.length kc, .slice rA r.rm.length rc, .slice gA r.gd.length gc, .slice bA r.bd.length bc, .int .i64 r.vs] 25)) (.slice none 0 0) []) := Lib.hid Owned.nil
  obtain ⟨css, hs1⟩ := ats_src hk hw0
  have Hi := Lib.hid hi
  have Hz0 := Lib.hid hz0
  have Hz1 := Lib.hid hz1
  have Hz2 := Lib.hid hz2
  have Hr := Lib.hid hr
  have Hs1 := Lib.hid hs1
  clear hi hz0 hz1 hz2 hk hr hs1
  go_enter Try.func52, Try.ntmps52
  go_wp2_with (at_builtin; refine wpList_append_sl rfl _ _ 22 rfl i0 _ 40 Try.underlying22 Hi.out Hz0.out Hz1.out Hz2.out rfl (by decide) rfl Own0.out rfl Hs1.out ?c1 ?c2 hw0 ?_)
  case c1 => simp; unfold maxLen; omega
  case c2 => simp; omega
  intro v2 w2 hown2 hb2 hg2
  have b3 := Owned.other Own0.out hg2 B1.out (by decide)
  have c2 : w2.cell? ⟨w.heap.size, 2, none⟩ = some (.slice rA r.rm.length rc) := by rw [cell_of_row _ _ 2 _ _ _ b3]; rfl
  obtain ⟨css', hs2⟩ := ats_src Hr.out hb2
  have l3 := lt_of_block b3
  have Own2 := Lib.hid hown2
  have Hs2 := Lib.hid hs2
  clear b3 hown2 hs2 hg2
  go_wp2_with (at_builtin; refine wpList_append_sl rfl _ _ 22 rfl i0 _ 40 Try.underlying22 Hi.out Hz0.out Hz1.out Hz2.out rfl (by decide) rfl Own2.out rfl Hs2.out ?c3 ?c4 hb2 ?_)
  case c3 => unfold maxLen; omega
  case c4 => omega
  intro v3 w3 hown3 hb3 hg3
  go_wp2
  go_ret
  exact ⟨_, rfl, hown3, hb3⟩
end Go.Proofs.Ytahhaiomdjlckaa
