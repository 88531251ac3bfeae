/-
  The walk of numbered, in the law.
-/
import Derived.Test.YtahhaiomdjlckaaW42
namespace Go.Proofs.Ytahhaiomdjlckaa
set_option linter.unusedVariables false
set_option linter.unusedSimpArgs false
open Go.RowKit

def numFrom : Nat → List Int → Bool
  | _, [] => true
  | i, x :: l => if x != (i : Int) then false else numFrom (i + 1) l
theorem numFrom_drop {l : List Int} {k : Nat} {x : Int} (h : l[k]? = some x) : numFrom k (l.drop k) = if x != (k : Int) then false else numFrom (k + 1) (l.drop (k + 1)) := by
  have hlt : k < l.length := (List.getElem?_eq_some_iff.1 h).1
  rw [List.drop_eq_getElem_cons hlt]
  rw [List.getElem?_eq_getElem hlt] at h
  rw [Option.some.inj h, numFrom]

set_option maxRecDepth 100000 in
set_option maxHeartbeats 2000000 in
theorem numbered_any (r : Rl) (kA rA gA bA : Option Addr) (kc rc gc bc : Nat) (w : World) (hk : SlAt AtAt 2 w kA r.kp) (hr : SlAt AtAt 2 w rA r.rm) (hg : SlAt GlAt 3 w gA r.gd) (hbd : SlAt GlAt 3 w bA r.bd) (hsz : szA (r.kp ++ r.rm) + szG (r.gd ++ r.bd) ≤ 100000) :
    Calls Try.prog 10 #[rlv r kA rA gA bA kc rc gc bc] w fun e w' => e = .returned (.bool (numFrom 0 (vsR r))) ∧ Below w.heap.size w w' := by
  have hw1 : Below w.heap.size w (w.alloc (.cells #[.string r.nm, .slice kA r.kp.length kc, .slice rA r.rm.length rc, .slice gA r.gd.length gc, .slice bA r.bd.length bc, .int .i64 r.vs] 25)) := (Below.refl _ _).alloc (Nat.le_refl _) _
  have Hcall := Lib.hid (rvars_any r kA rA gA bA kc rc gc bc _ (hk.below AtAt.stable hw1) (hr.below AtAt.stable hw1) (hg.below GlAt.stable hw1) (hbd.below GlAt.stable hw1) hsz)
  have hlen : (vsR r).length ≤ 100000 := by
    have h1 := vsL_len (tsR r) []
    have h2 := szL_tsA (r.kp ++ r.rm)
    have h3 := szL_tsG (r.gd ++ r.bd)
    unfold vsR
    unfold tsR at *
    rw [szL_app] at h1
    simp only [List.length_nil] at h1
    omega
  obtain ⟨vs, hvs⟩ : ∃ v, v = vsR r := ⟨_, rfl⟩
  rw [← hvs] at Hcall hlen ⊢
  have HB1 := Lib.hid hw1
  clear hw1 hk hr hg hbd hsz hvs
  unfold rlv at Hcall ⊢
  obtain ⟨X, hX⟩ : ∃ X, numFrom 0 vs = X := ⟨_, rfl⟩
  rw [hX]
  have HX := Lib.hid hX
  clear hX
  go_enter Try.func10, Try.ntmps10
  go_wp2_with fail
  refine Hcall.out.mono ?_
  rintro e w2 ⟨v2, W, rfl, hown2, hb2⟩
  obtain ⟨A2, c2, rfl⟩ := hown2.shape
  have HO := Lib.hid hown2
  have HB2 := Lib.hid (HB1.out.trans (hb2.mono HB1.out.size))
  clear hown2 hb2
  go_wp2
  go_loopw [4] (fun i wr => ∃ k : Nat, k ≤ vs.length ∧ i = .int .i64 k ∧ Hid (numFrom k (vs.drop k) = X) ∧ Below w2.heap.size w2 wr) (fun i _ => vs.length - (intOf i).toNat)
  case atStart => exact ⟨0, Nat.zero_le _, rfl, Lib.hid (by rw [List.drop_zero]; exact HX.out), Below.refl _ _⟩
  case round =>
    obtain ⟨k, hk, rfl, Hn, hbel⟩ := hrel
    by_cases hlt : k < vs.length
    · obtain ⟨x, hx⟩ : ∃ x, vs[k]? = some x := ⟨_, List.getElem?_eq_getElem hlt⟩
      obtain ⟨g, o, cs, rfl, hg, ⟨rfl, hxi⟩, hc⟩ := (HO.out.below hbel).at_ (by decide) hx
      have p0 := hc 0 (by decide)
      simp only [Nat.mul_one, Nat.add_zero, List.getElem?_cons_zero] at p0
      have Hx := Lib.hid hx
      have Hd := Lib.hid (numFrom_drop hx)
      clear hx hc
      cases h1 : (x != (k : Int)) with
      | true =>
        have Hf := Lib.hid (show X = false from by rw [← Hn.out, Hd.out, h1]; rfl)
        go_wp2
        go_ret
        exact ⟨ret_bool Hf.out.symm, HB2.out.trans (hbel.mono HB2.out.size)⟩
      | false =>
        have Hn' := Lib.hid (show numFrom (k + 1) (vs.drop (k + 1)) = X from by rw [← Hn.out, Hd.out, h1]; rfl)
        go_wp2
        go_roundw
        case rel => exact ⟨k + 1, by omega, by go_num, Hn', hbel⟩
        case measure => simp [intOf]; omega
    · obtain rfl : k = vs.length := by omega
      have Hf := Lib.hid (show X = true from by rw [← Hn.out, List.drop_length]; rfl)
      go_wp2
      go_ret
      exact ⟨ret_bool Hf.out.symm, HB2.out.trans (hbel.mono HB2.out.size)⟩
end Go.Proofs.Ytahhaiomdjlckaa
