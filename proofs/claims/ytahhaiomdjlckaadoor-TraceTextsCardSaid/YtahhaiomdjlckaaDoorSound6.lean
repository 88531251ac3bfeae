/-
  All operations together; regions; code.
-/
import Derived.Test.YtahhaiomdjlckaaDoorSound5
namespace Go.Proofs.YtahhaiomdjlckaaDoor
set_option linter.unusedVariables false
set_option linter.unusedSimpArgs false
open Go.RowKit

section
variable {P : Program} {w0 : World} {n : Nat} {o : Oper} {α : AA} {S S' : Store} {r : AV}
theorem run_sliceBound {w : World} {kd : IntKind} {i : Int} {y : Nat} {code : BoundsCode} (h0 : 0 ≤ i) (h : i ≤ y) : (Instr.sliceBound (.int kd i) y code).run P w = .ok i.toNat w := by
  simp [Instr.sliceBound, asIntOf, h0, h]
theorem intA_run {g : Gh} {w : World} {a : Act} (hA : ARep g w n α a) {lo : Option Operand} {d l : Int} (h : intA (lo.map α.ev) d = some l) : (lo = none ∧ l = d) ∨ ∃ x kd, lo = some x ∧ a.eval x = .int kd l := by
  cases lo with
  | none => simp [intA] at h; exact .inl ⟨rfl, h.symm⟩
  | some x =>
    right
    have h1 := hA.ev x
    simp only [Option.map_some, intA] at h
    split at h
    · rename_i e
      simp at e
    · rename_i kd i e
      simp only [Option.some.injEq] at e h
      rw [e] at h1
      exact ⟨x, kd, rfl, by rw [rep_v h1, h]⟩
    · cases h
theorem run_bounds {g : Gh} {w : World} {a : Act} (hA : ARep g w n α a) {isSl : Bool} {len cap : Nat} {lo hi : Option Operand} {l h : Int} (hl : intA (lo.map α.ev) 0 = some l) (hh : intA (hi.map α.ev) len = some h) (h0 : 0 ≤ l) (h1 : l ≤ h) (h2 : h ≤ cap) :
    (Instr.sliceBounds isSl len cap (lo.map a.eval) (hi.map a.eval) none).run P w = .ok (l.toNat, h.toNat, cap) w := by
  have hlo : ∀ code (w : World), (match lo.map a.eval with | some v => Instr.sliceBound v h.toNat code | none => pure 0 : Sem Nat).run P w = .ok l.toNat w := by
    intro code w
    rcases intA_run hA hl with ⟨rfl, rfl⟩ | ⟨x, kd, rfl, hx⟩
    · rfl
    · simp only [Option.map_some, hx]
      exact run_sliceBound h0 (by omega)
  rcases intA_run hA hh with ⟨rfl, rfl⟩ | ⟨x, kd, rfl, hx⟩
  · have := hlo .sliceB w
    simp only [Int.toNat_natCast] at this ⊢
    cases lo with
    | none => simp only [Option.map_none] at this ⊢; simp [Instr.sliceBounds]; simpa using this
    | some y => simp only [Option.map_some, Option.map_none] at this ⊢; simp [Instr.sliceBounds, this]
  · have := hlo .sliceB w
    have hb := fun code => run_sliceBound (P := P) (w := w) (kd := kd) (i := h) (y := cap) (code := code) (by omega) h2
    cases lo with
    | none => simp only [Option.map_none, Option.map_some, hx] at this ⊢; simp [Instr.sliceBounds, hb]; simpa using this
    | some y => simp only [Option.map_some, hx] at this ⊢; simp [Instr.sliceBounds, hb, this]
theorem run_bounds3 {g : Gh} {w : World} {a : Act} (hA : ARep g w n α a) {isSl : Bool} {len cap : Nat} {lo : Option Operand} {x y : Operand} {k1 k2 : IntKind} {l h m : Int} (hl : intA (lo.map α.ev) 0 = some l) (hx : a.eval x = .int k1 h) (hy : a.eval y = .int k2 m) (h0 : 0 ≤ l) (h1 : l ≤ h) (h2 : h ≤ m) (h3 : m ≤ cap) :
    (Instr.sliceBounds isSl len cap (lo.map a.eval) (some (a.eval x)) (some (a.eval y))).run P w = .ok (l.toNat, h.toNat, m.toNat) w := by
  have hb := fun code => run_sliceBound (P := P) (w := w) (kd := k2) (i := m) (y := cap) (code := code) (by omega) h3
  have hb2 := fun code => run_sliceBound (P := P) (w := w) (kd := k1) (i := h) (y := m.toNat) (code := code) (by omega) (by omega)
  rcases intA_run hA hl with ⟨rfl, rfl⟩ | ⟨z, kd, rfl, hz⟩
  · simp [Instr.sliceBounds, hx, hy, hb, hb2]
  · have hb3 := fun code => run_sliceBound (P := P) (w := w) (kd := kd) (i := l) (y := h.toNat) (code := code) h0 (by omega)
    simp [Instr.sliceBounds, hx, hy, hz, hb, hb2, hb3]
/-- a part of a slice that never changes. -/
theorem sl_part {g : Gh} {w : World} {ex ex' : Bool} {rows : List (List AV)} {B : Option Addr} {c sz l h m : Nat} (hr : Rep g w (.sl ex rows) (.slice B rows.length c)) (hl : ∀ row ∈ rows, row.length = sz) (h1 : l ≤ h) (h2 : h ≤ rows.length) (h3 : h ≤ m) (hex : ex' = true → m = h) :
    Rep g w (.sl ex' ((rows.take h).drop l)) (.slice (if m = l then B else B.map (·.add (l * sz))) (h - l) (m - l)) := by
  have hlen : ((rows.take h).drop l).length = h - l := by simp; omega
  by_cases c0 : h = l
  · subst c0
    have e : (rows.take h).drop h = [] := by apply List.drop_eq_nil_of_le; simp; omega
    rw [e, Nat.sub_self]
    exact .nil (fun h => by rw [hex h, Nat.sub_self])
  · cases hr with
    | nil hc => simp at h2; omega
    | @sl _ _ b q sz' _ val hn hc hle hl' p1 p2 =>
      have e : sz' = sz := by
        have hlt : 0 < rows.length := List.length_pos_iff.2 hn
        have a1 := hl' 0 _ (List.getElem?_eq_getElem hlt)
        have a2 := hl _ (List.getElem_mem hlt)
        omega
      subst e
      have hget : ∀ (i : Nat) (row : List AV), ((rows.take h).drop l)[i]? = some row → rows[l + i]? = some row := by
        intro i row hi
        rw [List.getElem?_drop, List.getElem?_take] at hi
        split at hi
        · exact hi
        · cases hi
      have := Rep.sl (g := g) (w := w) (ex := ex') (rows := (rows.take h).drop l) (b := b) (o := q + l * sz') (sz := sz') (c := m - l) (val := fun i j => val (l + i) j) (fun e => by rw [e] at hlen; simp at hlen; omega) (fun h => by rw [hlen, hex h]) (by rw [hlen]; omega)
        (fun i row hi => hl' _ row (hget i row hi)) (fun i j row a hi hj => by
          have := p1 (l + i) j row a (hget i row hi) hj
          rwa [Nat.add_mul, show q + (l * sz' + i * sz' + j) = q + l * sz' + (i * sz' + j) by omega] at this) (fun i j row a hi hj => p2 (l + i) j row a (hget i row hi) hj)
      rw [hlen] at this
      rw [if_neg (by omega)]
      simpa [addr_add] using this
theorem sliceAt_eq {t : TypeId} {d : TypeDesc} {w : World} (hu : P.underlying t = some d) (hd : ∀ k e, d ≠ .array k e) (x : Value) (lo hi mx : Option Value) : (Instr.sliceAt t x lo hi mx).run P w = (Instr.slice t x lo hi mx).run P w := by
  simp only [Instr.sliceAt, Sem.run_bind, run_underlying hu, Result.andThen_ok]
theorem run_sliceK {t : TypeId} {x : Operand} {lo hi mx : Option Operand} {K : AV → Store → Prop} (ho : o.op = .slice t x lo hi mx) (h : sliceK P t K S (α.ev x) (lo.map α.ev) (hi.map α.ev) (mx.map α.ev)) : ∃ r S', RunV P w0 n o α S r S' ∧ K r S' := by
  have fin : ∀ (r : AV) {d : TypeDesc}, P.underlying t = some d → (∀ k e, d ≠ .array k e) → (∀ (A : Nat → Prop) (g : Gh) (a : Act) (w : World), St w0 A g S w → ARep g w n α a → ∃ v, (Instr.slice t (a.eval x) (lo.map a.eval) (hi.map a.eval) (mx.map a.eval)).run P w = .ok v w ∧ Rep g w r v) → K r S → ∃ r S', RunV P w0 n o α S r S' ∧ K r S' := by
    intro r d hu hd hrun hK
    refine ⟨r, S, RunV.quiet fun A g a w hS hA => ?_, hK⟩
    obtain ⟨v, h1, h2⟩ := hrun A g a w hS hA
    refine ⟨v, ?_, h2⟩
    simp only [execOp, ho, Sem.run_bind, sliceAt_eq hu hd, h1, Result.andThen_ok]
    rfl
  unfold sliceK at h
  split at h
  · rename_i s hxs hmx
    split at h
    · rename_i l hh hu hl hhi
      obtain ⟨h0, h1, h2, hK⟩ := h
      refine fin _ hu (fun k e h => by cases h) (fun A g a w hS hA => ?_) hK
      have hx := hA.ev x
      rw [hxs] at hx
      have hm : mx = none := by cases mx <;> simp_all
      subst hm
      refine ⟨_, ?_, .v⟩
      have := run_bounds (P := P) (isSl := false) (cap := s.size) (w := w) hA hl hhi h0 h1 (by omega)
      simp [Instr.slice, rep_v hx, run_underlying hu, this]
    · exact h.elim
  · rename_i ex rows hxs hmx
    split at h
    · rename_i e l hh hu hl hhi
      obtain ⟨hrows, hsome, h0, h1, h2, hK⟩ := h
      obtain ⟨sz, hs⟩ := Option.isSome_iff_exists.1 hsome
      refine fin _ hu (fun k e h => by cases h) (fun A g a w hS hA => ?_) hK
      have hx := hA.ev x
      rw [hxs] at hx
      have hm : mx = none := by cases mx <;> simp_all
      subst hm
      obtain ⟨B, c, e1, hle, _⟩ := sl_inv hx
      rw [e1] at hx
      have hb := run_bounds (P := P) (isSl := true) (cap := c) (w := w) hA hl hhi h0 h1 (by omega)
      refine ⟨_, ?_, sl_part (ex' := false) (m := c) hx (fun row hr => by have := hrows row hr; rw [hs] at this; exact (Option.some.inj this).symm) (show l.toNat ≤ hh.toNat by omega) (by omega) (by omega) (fun h => by cases h)⟩
      simp [Instr.slice, e1, run_underlying hu, hb, run_sizeT hs]
    · exact h.elim
  · rename_i ex rows kd m hxs hmx
    split at h
    · rename_i e l kd2 hh hu hl hhi
      obtain ⟨hrows, hsome, h0, h1, rfl, h2, hK⟩ := h
      obtain ⟨sz, hs⟩ := Option.isSome_iff_exists.1 hsome
      refine fin _ hu (fun k e h => by cases h) (fun A g a w hS hA => ?_) hK
      have hx := hA.ev x
      rw [hxs] at hx
      obtain ⟨y, rfl, hy⟩ : ∃ y, mx = some y ∧ α.ev y = .v (.int kd hh) := by cases mx <;> simp_all
      obtain ⟨z, rfl, hz⟩ : ∃ z, hi = some z ∧ α.ev z = .v (.int kd2 hh) := by cases hi <;> simp_all
      have e2 := hA.ev y
      have e3 := hA.ev z
      rw [hy] at e2
      rw [hz] at e3
      obtain ⟨B, c, e1, hle, _⟩ := sl_inv hx
      rw [e1] at hx
      have hb := run_bounds3 (P := P) (isSl := true) (len := rows.length) (cap := c) (w := w) hA hl (rep_v e3) (rep_v e2) h0 h1 (Int.le_refl _) (by omega)
      refine ⟨_, ?_, sl_part (ex' := true) (m := hh.toNat) hx (fun row hr => by have := hrows row hr; rw [hs] at this; exact (Option.some.inj this).symm) (show l.toNat ≤ hh.toNat by omega) (by omega) (Nat.le_refl _) (fun _ => rfl)⟩
      simp only [Option.map_some]
      simp [Instr.slice, e1, run_underlying hu, hb, run_sizeT hs]
    · exact h.elim
  · rename_i k sz off len cx hxs hmx
    split at h
    · rename_i e hh hu hlo hhi
      obtain ⟨hs, h0, h1, hK⟩ := h
      refine fin _ hu (fun k e h => by cases h) (fun A g a w hS hA => ?_) hK
      have hx := hA.ev x
      rw [hxs] at hx
      have hm : mx = none := by cases mx <;> simp_all
      subst hm
      obtain ⟨c, e1, hal, hc, hp, hcx, hle⟩ := ob_inv hx
      have hl : intA (lo.map α.ev) 0 = some 0 := by rw [hlo]; rfl
      have hb := run_bounds (P := P) (isSl := true) (cap := c) (w := w) hA hl hhi (Int.le_refl _) h0 (by omega)
      have hres : (Instr.slice t (a.eval x) (lo.map a.eval) (hi.map a.eval) (Option.map a.eval none)).run P w = .ok (.slice (some ⟨g.ob k, off * sz, none⟩) hh.toNat c) w := by
        simp [Instr.slice, e1, run_underlying hu, hb, run_sizeT hs, addr_add]
      exact ⟨_, hres, .ob hal hc hp hcx (by omega)⟩
    · rename_i e kd l hh hu hlo hhi
      obtain ⟨hs, h0, h1, h2, hK1, hK2⟩ := h
      have hl : intA (lo.map α.ev) 0 = some l := by rw [hlo]; rfl
      by_cases c0 : l = hh
      · refine fin _ hu (fun k e h => by cases h) (fun A g a w hS hA => ?_) (hK1 c0)
        have hx := hA.ev x
        rw [hxs] at hx
        have hm : mx = none := by cases mx <;> simp_all
        subst hm
        obtain ⟨c, e1, hal, hc, hp, hcx, hle⟩ := ob_inv hx
        have hb := run_bounds (P := P) (isSl := true) (cap := c) (w := w) hA hl hhi h0 h1 (by omega)
        have hres : (Instr.slice t (a.eval x) (lo.map a.eval) (hi.map a.eval) (Option.map a.eval none)).run P w = .ok (.slice (if c = l.toNat then some ⟨g.ob k, off * sz, none⟩ else (some ⟨g.ob k, off * sz, none⟩ : Option Addr).map (·.add (l.toNat * sz))) 0 (c - l.toNat)) w := by
          simp [Instr.slice, e1, run_underlying hu, hb, run_sizeT hs, c0]
        exact ⟨_, hres, .nil (fun h => by cases h)⟩
      · refine fin _ hu (fun k e h => by cases h) (fun A g a w hS hA => ?_) (hK2 (by omega))
        have hx := hA.ev x
        rw [hxs] at hx
        have hm : mx = none := by cases mx <;> simp_all
        subst hm
        obtain ⟨c, e1, hal, hc, hp, hcx, hle⟩ := ob_inv hx
        have hb := run_bounds (P := P) (isSl := true) (cap := c) (w := w) hA hl hhi h0 h1 (by omega)
        have hne : ¬ c = l.toNat := by omega
        have hres : (Instr.slice t (a.eval x) (lo.map a.eval) (hi.map a.eval) (Option.map a.eval none)).run P w = .ok (.slice (some ⟨g.ob k, (off + l.toNat) * sz, none⟩) (hh.toNat - l.toNat) (c - l.toNat)) w := by
          simp [Instr.slice, e1, run_underlying hu, hb, run_sizeT hs, hne, addr_add, Nat.add_mul]
        refine ⟨_, hres, .ob hal (fun m hm => ?_) (by omega) (fun hm => ?_) (by omega)⟩
        · cases cx with
          | none => simp at hm
          | some c' => simp at hm; have := hc c' rfl; omega
        · cases cx with
          | none => have := hcx rfl; omega
          | some c' => simp at hm
    · exact h.elim
  · rename_i k sz off len cx kd m hxs hmx
    split at h
    · rename_i e l kd2 hh hu hl hhi
      obtain ⟨hs, rfl, rfl, h1, h0, hK⟩ := h
      refine fin _ hu (fun k e h => by cases h) (fun A g a w hS hA => ?_) hK
      have hx := hA.ev x
      rw [hxs] at hx
      obtain ⟨y, rfl, hy⟩ : ∃ y, mx = some y ∧ α.ev y = .v (.int kd hh) := by cases mx <;> simp_all
      obtain ⟨z, rfl, hz⟩ : ∃ z, hi = some z ∧ α.ev z = .v (.int kd2 hh) := by cases hi <;> simp_all
      have e2 := hA.ev y
      have e3 := hA.ev z
      rw [hy] at e2
      rw [hz] at e3
      obtain ⟨c, e1, hal, hc, hp, hcx, hle⟩ := ob_inv hx
      have hb := run_bounds3 (P := P) (isSl := true) (len := len) (cap := c) (w := w) hA hl (rep_v e3) (rep_v e2) (Int.le_refl _) h0 (Int.le_refl _) (by omega)
      have hres : (Instr.slice t (a.eval x) (lo.map a.eval) (some (a.eval z)) (some (a.eval y))).run P w = .ok (.slice (some ⟨g.ob k, off * sz, none⟩) hh.toNat hh.toNat) w := by
        simp [Instr.slice, e1, run_underlying hu, hb, run_sizeT hs, addr_add]
      exact ⟨_, hres, .ob hal (fun m hm => by simp at hm; exact hm) (by omega) (fun h => by cases h) (Nat.le_refl _)⟩
    · exact h.elim
  · exact h.elim
end
end Go.Proofs.YtahhaiomdjlckaaDoor
