/-
  From a reading of an argument to a value without addresses.
-/
import Derived.Test.YtahhaiomdjlckaaDoorLib
import Derived.ProofKit
import Derived.ChangeArms
import Derived.OpenShut
namespace Go.Proofs.YtahhaiomdjlckaaDoor
set_option linter.unusedVariables false
set_option linter.unusedSimpArgs false
open Go.RowKit

/-- the ghosts of the start. -/
def g0 (w : World) : Gh := ⟨fun _ => 0, fun _ => 0, fun _ => False, fun b _ => b < w.heap.size⟩
/-- cells of a type are read as what enc lays. -/
def Rd (P : Program) (n : Nat) (t : TypeId) (sz : Nat) {α : Type} (lay : α → List AV) (ok : α → Prop) : Prop :=
  ∀ (H : Type) (enc : TypeId × Value → H) (w : World) (sp : Nat → Bool) (held : Bool) (m : Nat), m < n → ∀ (cs : List Value) (d : DataW H × List MemPlace), cs.length = sz → DataW.trod enc P w 0 sp held m t cs = some d →
    ∃ x, ok x ∧ (lay x).length = sz ∧ ∀ (j : Nat) (a : AV) (v : Value), (lay x)[j]? = some a → cs[j]? = some v → Rep (g0 w) w a v
def I64 (x : Int) : Prop := -9223372036854775808 ≤ x ∧ x ≤ 9223372036854775807
section
variable {P : Program} {n : Nat} {t : TypeId} {sz : Nat}
theorem Rd.less {α : Type} {lay : α → List AV} {ok : α → Prop} {m : Nat} (h : Rd P n t sz lay ok) (hm : m ≤ n) : Rd P m t sz lay ok := fun H enc w sp held k hk => h H enc w sp held k (by omega)
theorem Rd.int (ht : P.underlying t = some (.int .i64)) : Rd P n t 1 irow I64 := by
  intro H enc w sp held m _ cs d hl h
  obtain ⟨z, rfl, _, hw⟩ := DataW.trod_int ht h
  refine ⟨z, bounds_i64 hw, rfl, fun j a v ha hv => ?_⟩
  cases j with
  | zero => simp [irow] at ha hv; subst ha hv; exact .v
  | succ j => simp [irow] at ha
theorem Rd.str (ht : P.underlying t = some .string) : Rd P n t 1 (fun s : ByteArray => [AV.v (.string s)]) (fun s => s.size ≤ maxLen) := by
  intro H enc w sp held m _ cs d hl h
  obtain ⟨z, rfl, _, hw⟩ := DataW.trod_string ht h
  refine ⟨z, hw, rfl, fun j a v ha hv => ?_⟩
  cases j with
  | zero => simp at ha hv; subst ha hv; exact .v
  | succ j => simp at ha
theorem Rd.bool (ht : P.underlying t = some .bool) : Rd P n t 1 (fun b : Bool => [AV.v (.bool b)]) (fun _ => True) := by
  intro H enc w sp held m _ cs d hl h
  obtain ⟨z, rfl, _⟩ := DataW.trod_bool ht h
  refine ⟨z, trivial, rfl, fun j a v ha hv => ?_⟩
  cases j with
  | zero => simp at ha hv; subst ha hv; exact .v
  | succ j => simp at ha
theorem Rd.slice {α : Type} {lay : α → List AV} {ok : α → Prop} {e : TypeId} (ht : P.underlying t = some (.slice e)) (hsz : P.cellsOf e = sz) (hpos : 0 < sz) (hel : Rd P n e sz lay ok) :
    Rd P (n + 1) t 1 (fun l : List α => [AV.sl false (l.map lay)]) (fun l => l.length ≤ maxLen ∧ ∀ x ∈ l, ok x) := by
  intro H enc w sp held m hm cs d hl h
  rcases DataW.trod_slice ht h with ⟨hv, _⟩ | ⟨a, len, cap, elems, rest, k, hk, hv, _, _, hlc, hcap, hlen, hi, _⟩
  · subst hv
    refine ⟨[], ⟨Nat.zero_le _, fun x hx => by cases hx⟩, rfl, fun j b v hb hv => ?_⟩
    cases j with
    | zero => simp at hb hv; subst hb hv; exact .nil (fun h => by cases h)
    | succ j => simp at hb
  · have hspot : 0 < len → a.spot = none := by
      intro h0
      have h3 := hi 0 h0
      rw [hsz] at h3
      have h4 : elems[0]? = some (elems[0]'(by omega)) := List.getElem?_eq_getElem (by omega)
      rw [h4] at h3
      obtain ⟨cs', hcs', _⟩ := Option.bind_eq_some_iff.1 h3
      obtain ⟨_, hcl', hcell'⟩ := World.cells?_some hcs'
      have h5 := hcell' 0 hpos
      have h6 : cs'[0]? = some (cs'[0]'(by omega)) := List.getElem?_eq_getElem (by omega)
      rw [h6] at h5
      simp only [Nat.zero_mul, Addr.add, if_true] at h5
      unfold World.cell? at h5
      split at h5
      · split at h5
        · cases h5
        · rename_i hs; simpa using hs
      · cases h5
    have key : ∀ i, i < len → ∃ x, ok x ∧ (lay x).length = sz ∧ ∀ (j : Nat) (b : AV), (lay x)[j]? = some b → ∃ v, w.cell? ⟨a.block, a.off + i * sz + j, none⟩ = some v ∧ Rep (g0 w) w b v := by
      intro i hil
      have h1 := hi i hil
      rw [hsz] at h1
      have h2 : elems[i]? = some (elems[i]'(by omega)) := List.getElem?_eq_getElem (by omega)
      rw [h2] at h1
      obtain ⟨cs, hcs, htr⟩ := Option.bind_eq_some_iff.1 h1
      obtain ⟨_, hcl, hcell⟩ := World.cells?_some hcs
      obtain ⟨x, hx, hxl, hr⟩ := hel H enc w sp held k (by omega) cs _ hcl htr
      refine ⟨x, hx, hxl, fun j b hb => ?_⟩
      have hj : j < sz := by rw [← hxl]; exact (List.getElem?_eq_some_iff.1 hb).1
      have hv : cs[j]? = some (cs[j]'(by omega)) := List.getElem?_eq_getElem (by omega)
      have h5 := hcell j hj
      have hs := hspot (by omega)
      have hadd : (a.add (i * sz)).add j = ⟨a.block, a.off + i * sz + j, none⟩ := by
        obtain ⟨b', off, spot⟩ := a
        simp only at hs
        subst hs
        unfold Addr.add
        by_cases hz : i * sz = 0 <;> by_cases hj : j = 0 <;> simp [hz, hj]
      rw [hadd, hv] at h5
      exact ⟨_, h5, hr j b _ hb hv⟩
    obtain ⟨l, hl1, hl2⟩ : ∃ l : List α, l.length = len ∧ ∀ i x, l[i]? = some x → ok x ∧ (lay x).length = sz ∧ ∀ (j : Nat) (b : AV), (lay x)[j]? = some b → ∃ v, w.cell? ⟨a.block, a.off + i * sz + j, none⟩ = some v ∧ Rep (g0 w) w b v := by
      refine ⟨(List.range len).attach.map (fun i => Classical.choose (key i.1 (by simpa using i.2))), by simp, fun i x hx => ?_⟩
      simp only [List.getElem?_map, Option.map_eq_some_iff] at hx
      obtain ⟨q, hq, rfl⟩ := hx
      have hik : q.1 = i := by
        have h1 : ((List.range len).attach.map Subtype.val)[i]? = some q.1 := by simp only [List.getElem?_map, hq, Option.map_some]
        rw [List.attach_map_subtype_val] at h1
        obtain ⟨_, h2⟩ := List.getElem?_eq_some_iff.1 h1
        simpa using h2.symm
      rw [← hik]
      exact Classical.choose_spec (key q.1 (by simpa using q.2))
    have hv' : cs = [.slice (some a) len cap] := by simpa using hv
    subst hv'
    refine ⟨l, ⟨by omega, fun x hx => ?_⟩, rfl, fun j b v hb hv => ?_⟩
    · obtain ⟨i, hi⟩ := List.getElem?_of_mem hx
      exact (hl2 i x hi).1
    · cases j with
      | succ j => simp at hb
      | zero =>
        simp at hb hv
        subst hb hv
        by_cases h0 : l = []
        · subst h0
          simp at hl1
          subst hl1
          exact .nil (fun h => by cases h)
        · have hs := hspot (by rw [← hl1]; exact List.length_pos_iff.2 h0)
          obtain ⟨b', off, spot⟩ := a
          simp only at hs
          subst hs
          have hlm : len = (l.map lay).length := by simp [hl1]
          have row : ∀ (i : Nat) (row : List AV), (l.map lay)[i]? = some row → row.length = sz ∧ ∀ (j : Nat) (b : AV), row[j]? = some b → ∃ v, w.cell? ⟨b', off + i * sz + j, none⟩ = some v ∧ Rep (g0 w) w b v := by
            intro i row hr
            simp only [List.getElem?_map, Option.map_eq_some_iff] at hr
            obtain ⟨x, hx, rfl⟩ := hr
            exact (hl2 i x hx).2
          rw [hlm]
          refine .sl (sz := sz) (val := fun i j => (w.cell? ⟨b', off + (i * sz + j), none⟩).getD undef) (by simpa using h0) (fun h => by cases h) (by rw [← hlm]; exact hlc) (fun i r hr => (row i r hr).1) (fun i j r b hr hb => ?_) (fun i j r b hr hb => ?_)
          · obtain ⟨v, h1, h2⟩ := (row i r hr).2 j b hb
            rw [Nat.add_assoc] at h1
            exact ⟨block_lt_of_cell h1, by rw [h1]; rfl⟩
          · obtain ⟨v, h1, h2⟩ := (row i r hr).2 j b hb
            rw [Nat.add_assoc] at h1
            rw [h1]
            exact h2
/-- a struct: each field is read. -/
theorem Rd.fields {H : Type} {enc : TypeId × Value → H} {w : World} {sp : Nat → Bool} {held : Bool} {fs : Array Field} (ht : P.underlying t = some (.struct fs)) {fuel : Nat} {cs : List Value} {d : DataW H × List MemPlace} (h : DataW.trod enc P w 0 sp held fuel t cs = some d) :
    ∃ n, fuel = n + 1 ∧ ∀ (i ty off : Nat), (fs[i]?).map (fun f => (f.type, f.offset)) = some (ty, off) → ∃ y, DataW.trod enc P w 0 sp held n ty ((cs.drop off).take (P.cellsOf ty)) = some y := by
  obtain ⟨xs, n, hn, _, _, hl, hf⟩ := DataW.trod_struct ht h
  refine ⟨n, hn, fun i ty off hi => ?_⟩
  obtain ⟨f, hi', hty⟩ := Option.map_eq_some_iff.1 hi
  simp only [Prod.mk.injEq] at hty
  obtain ⟨rfl, rfl⟩ := hty
  have hlt : i < fs.size := (Array.getElem?_eq_some_iff.1 hi').1
  exact ⟨xs[i]'(by omega), (hf i f hi').trans (List.getElem?_eq_getElem (by omega))⟩
/-- one field more of a struct's cells. -/
theorem Rd.part {α : Type} {H : Type} {enc : TypeId × Value → H} {w : World} {sp : Nat → Bool} {held : Bool} {lay : α → List AV} {ok : α → Prop} {m ty k off : Nat} {cs : List Value} (hR : Rd P n ty k lay ok) (hm : m < n) (hk : P.cellsOf ty = k) (hlen : off + k ≤ cs.length)
    (h : ∃ y, DataW.trod enc P w 0 sp held m ty ((cs.drop off).take (P.cellsOf ty)) = some y) : ∃ x, ok x ∧ (lay x).length = k ∧ ∀ (j : Nat) (a : AV) (v : Value), (lay x)[j]? = some a → cs[off + j]? = some v → Rep (g0 w) w a v := by
  obtain ⟨y, h⟩ := h
  rw [hk] at h
  obtain ⟨x, h1, h2, h3⟩ := hR H enc w sp held m hm _ y (by simp; omega) h
  refine ⟨x, h1, h2, fun j a v ha hv => h3 j a v ha ?_⟩
  have hj : j < k := by rw [← h2]; exact (List.getElem?_eq_some_iff.1 ha).1
  rw [List.getElem?_take, if_pos hj, List.getElem?_drop]
  exact hv
end
end Go.Proofs.YtahhaiomdjlckaaDoor
