/-
  How data lie in memory: slices of structs, terms, constraints, goals, rules, programs; what a reading of an argument gives. Nothing here names a function of the program.
-/
import Derived.WalkKit
import Derived.WalkSpells
import Derived.WalkLawsBesides
import Derived.Lib.Hide
import Derived.ChangeArms
import Derived.DataReads
import Derived.OpenShut
namespace Go.Proofs.Ytahhaiomdjlckaa
set_option linter.unusedVariables false
set_option linter.unusedSimpArgs false
open Go.RowKit

def I64 (x : Int) : Prop := -9223372036854775808 ≤ x ∧ x ≤ 9223372036854775807

section
variable {α : Type}
/-- a slice value over A that reads as the list l: element k at off + k * sz. -/
def SlAt (R : World → Nat → Nat → α → Prop) (sz : Nat) (w : World) (A : Option Addr) (l : List α) : Prop :=
  l.length ≤ maxLen ∧ ∀ k x, l[k]? = some x → ∃ b off, A = some ⟨b, off, none⟩ ∧ b < w.heap.size ∧ R w b (off + k * sz) x
def Stable (R : World → Nat → Nat → α → Prop) : Prop := ∀ w w' b o x, b < w.heap.size → Below w.heap.size w w' → R w b o x → R w' b o x
theorem SlAt.below {R : World → Nat → Nat → α → Prop} (hR : Stable R) {sz : Nat} {w w' : World} {A : Option Addr} {l : List α} (h : SlAt R sz w A l) (hb : Below w.heap.size w w') : SlAt R sz w' A l := by
  refine ⟨h.1, fun k x hx => ?_⟩
  obtain ⟨b, off, e, hlt, hr⟩ := h.2 k x hx
  exact ⟨b, off, e, Nat.lt_of_lt_of_le hlt hb.size, hR w w' b _ x hlt hb hr⟩
theorem SlAt.nil {R : World → Nat → Nat → α → Prop} {sz : Nat} {w : World} {A : Option Addr} : SlAt R sz w A [] := ⟨Nat.zero_le _, fun k x h => by simp at h⟩
/-- the field of a struct that is a slice. -/
def SlCell (R : World → Nat → Nat → α → Prop) (sz : Nat) (w : World) (b o : Nat) (l : List α) : Prop :=
  ∃ A c, w.cell? ⟨b, o, none⟩ = some (.slice A l.length c) ∧ SlAt R sz w A l
theorem SlCell.stable {R : World → Nat → Nat → α → Prop} (hR : Stable R) (sz : Nat) : Stable (SlCell R sz) := by
  rintro w w' b o l hlt hb ⟨A, c, hc, hs⟩
  exact ⟨A, c, (hb.cell (p := ⟨b, o, none⟩) hlt).trans hc, hs.below hR hb⟩
end
def IntAt (w : World) (b o : Nat) (x : Int) : Prop := w.cell? ⟨b, o, none⟩ = some (.int .i64 x) ∧ I64 x
def StrAt (w : World) (b o : Nat) (x : ByteArray) : Prop := w.cell? ⟨b, o, none⟩ = some (.string x) ∧ x.size ≤ maxLen
def BoolAt (w : World) (b o : Nat) (x : Bool) : Prop := w.cell? ⟨b, o, none⟩ = some (.bool x)
theorem IntAt.stable : Stable IntAt := fun _ _ b o _ hlt hb h => ⟨(hb.cell (p := ⟨b, o, none⟩) hlt).trans h.1, h.2⟩
theorem StrAt.stable : Stable StrAt := fun _ _ b o _ hlt hb h => ⟨(hb.cell (p := ⟨b, o, none⟩) hlt).trans h.1, h.2⟩
theorem BoolAt.stable : Stable BoolAt := fun _ _ b o _ hlt hb h => (hb.cell (p := ⟨b, o, none⟩) hlt).trans h

/-- a term. -/
inductive Tm where
  | mk (kd it : Int) (nm : ByteArray) (ts : List Tm)
def Tm.kd : Tm → Int | .mk k _ _ _ => k
def Tm.it : Tm → Int | .mk _ i _ _ => i
def Tm.nm : Tm → ByteArray | .mk _ _ n _ => n
def Tm.ts : Tm → List Tm | .mk _ _ _ l => l
inductive TmAt (w : World) : Nat → Nat → Tm → Prop where
  | mk {b o : Nat} {kd it : Int} {nm : ByteArray} {A : Option Addr} {c : Nat} {ts : List Tm} {b' off' : Nat}
      (h0 : IntAt w b o kd) (h1 : IntAt w b (o + 1) it) (h2 : StrAt w b (o + 2) nm) (h3 : w.cell? ⟨b, o + 3, none⟩ = some (.slice A ts.length c)) (hl : ts.length ≤ maxLen)
      (hA : ts ≠ [] → A = some ⟨b', off', none⟩ ∧ b' < w.heap.size) (hts : ∀ k x, ts[k]? = some x → TmAt w b' (off' + k * 4) x) : TmAt w b o (.mk kd it nm ts)
def TmsAt : World → Option Addr → List Tm → Prop := SlAt TmAt 4
theorem TmAt.kept {w w' : World} (hb : Below w.heap.size w w') {b o : Nat} {x : Tm} (h : TmAt w b o x) (hlt : b < w.heap.size) : TmAt w' b o x := by
  induction h with
  | mk h0 h1 h2 h3 hl hA hts ih =>
    refine TmAt.mk (IntAt.stable _ _ _ _ _ hlt hb h0) (IntAt.stable _ _ _ _ _ hlt hb h1) (StrAt.stable _ _ _ _ _ hlt hb h2) ((hb.cell (p := ⟨_, _, none⟩) hlt).trans h3) hl
      (fun hne => ⟨(hA hne).1, Nat.lt_of_lt_of_le (hA hne).2 hb.size⟩) (fun k x hx => ih k x hx (hA (by rintro rfl; simp at hx)).2)
theorem TmAt.stable : Stable TmAt := fun _ _ _ _ _ hlt hb h => h.kept hb hlt
theorem TmAt.open_ {w : World} {b o : Nat} {x : Tm} (h : TmAt w b o x) : IntAt w b o x.kd ∧ IntAt w b (o + 1) x.it ∧ StrAt w b (o + 2) x.nm ∧ SlCell TmAt 4 w b (o + 3) x.ts := by
  cases h with
  | mk h0 h1 h2 h3 hl hA hts =>
    refine ⟨h0, h1, h2, _, _, h3, hl, fun k x hx => ?_⟩
    obtain ⟨e, hlt⟩ := hA (by rintro rfl; simp [Tm.ts] at hx)
    exact ⟨_, _, e, hlt, hts k x hx⟩
theorem TmsAt.below {w w' : World} {A : Option Addr} {l : List Tm} (h : TmsAt w A l) (hb : Below w.heap.size w w') : TmsAt w' A l := SlAt.below TmAt.stable h hb

/-- constraints, goals, rules, declarations, stored constraints. -/
structure At where
  nm : ByteArray
  ts : List Tm
def AtAt (w : World) (b o : Nat) (x : At) : Prop := StrAt w b o x.nm ∧ SlCell TmAt 4 w b (o + 1) x.ts
theorem AtAt.stable : Stable AtAt := fun w w' b o x hlt hb h => ⟨StrAt.stable w w' b _ _ hlt hb h.1, SlCell.stable TmAt.stable 4 w w' b _ _ hlt hb h.2⟩
structure Gl where
  op : Int
  nm : ByteArray
  ts : List Tm
def GlAt (w : World) (b o : Nat) (x : Gl) : Prop := IntAt w b o x.op ∧ StrAt w b (o + 1) x.nm ∧ SlCell TmAt 4 w b (o + 2) x.ts
theorem GlAt.stable : Stable GlAt := fun w w' b o x hlt hb h => ⟨IntAt.stable w w' b _ _ hlt hb h.1, StrAt.stable w w' b _ _ hlt hb h.2.1, SlCell.stable TmAt.stable 4 w w' b _ _ hlt hb h.2.2⟩
structure Rl where
  nm : ByteArray
  kp : List At
  rm : List At
  gd : List Gl
  bd : List Gl
  vs : Int
def RlAt (w : World) (b o : Nat) (x : Rl) : Prop := StrAt w b o x.nm ∧ SlCell AtAt 2 w b (o + 1) x.kp ∧ SlCell AtAt 2 w b (o + 2) x.rm ∧ SlCell GlAt 3 w b (o + 3) x.gd ∧ SlCell GlAt 3 w b (o + 4) x.bd ∧ IntAt w b (o + 5) x.vs
theorem RlAt.stable : Stable RlAt := fun w w' b o x hlt hb h => ⟨StrAt.stable w w' b _ _ hlt hb h.1, SlCell.stable AtAt.stable 2 w w' b _ _ hlt hb h.2.1, SlCell.stable AtAt.stable 2 w w' b _ _ hlt hb h.2.2.1,
  SlCell.stable GlAt.stable 3 w w' b _ _ hlt hb h.2.2.2.1, SlCell.stable GlAt.stable 3 w w' b _ _ hlt hb h.2.2.2.2.1, IntAt.stable w w' b _ _ hlt hb h.2.2.2.2.2⟩
structure Dc where
  nm : ByteArray
  ar : Int
def DcAt (w : World) (b o : Nat) (x : Dc) : Prop := StrAt w b o x.nm ∧ IntAt w b (o + 1) x.ar
theorem DcAt.stable : Stable DcAt := fun w w' b o x hlt hb h => ⟨StrAt.stable w w' b _ _ hlt hb h.1, IntAt.stable w w' b _ _ hlt hb h.2⟩
structure It where
  id : Int
  at_ : At
def ItAt (w : World) (b o : Nat) (x : It) : Prop := IntAt w b o x.id ∧ AtAt w b (o + 1) x.at_
theorem ItAt.stable : Stable ItAt := fun w w' b o x hlt hb h => ⟨IntAt.stable w w' b _ _ hlt hb h.1, AtAt.stable w w' b _ _ hlt hb h.2⟩
structure Pg where
  ds : List Dc
  rs : List Rl

/- FROM A READING OF AN ARGUMENT. -/
section
variable {H : Type} {enc : TypeId × Value → H} {P : Program} {w : World} {sp : Nat → Bool} {held : Bool}
theorem cell_lt {b o : Nat} {v : Value} (h : w.cell? ⟨b, o, none⟩ = some v) : b < w.heap.size := block_lt_of_cell h
/-- a type whose values lie in sz cells reads as R, at every fuel below n. -/
def ReadsTo {α : Type} (enc : TypeId × Value → H) (P : Program) (w : World) (sp : Nat → Bool) (held : Bool) (e : TypeId) (sz : Nat) (R : World → Nat → Nat → α → Prop) (n : Nat) : Prop :=
  ∀ m, m < n → ∀ (b o : Nat) (cs : List Value) (d : DataW H × List MemPlace), cs.length = sz → (∀ j, j < sz → w.cell? ⟨b, o + j, none⟩ = cs[j]?) → DataW.trod enc P w 0 sp held m e cs = some d → ∃ x, R w b o x
theorem sl_of_trod {α : Type} {R : World → Nat → Nat → α → Prop} {t e : TypeId} {sz n : Nat} (ht : P.underlying t = some (.slice e)) (hsz : P.cellsOf e = sz) (hpos : 0 < sz) (hel : ReadsTo enc P w sp held e sz R n)
    {fuel : Nat} (hf : fuel ≤ n) {v : Value} {d : DataW H × List MemPlace} (h : DataW.trod enc P w 0 sp held fuel t [v] = some d) : ∃ (A : Option Addr) (c : Nat) (l : List α), v = .slice A l.length c ∧ SlAt R sz w A l := by
  rcases DataW.trod_slice ht h with ⟨hv, _⟩ | ⟨a, len, cap, elems, rest, m, hm, hv, _, _, hlc, hcap, hlen, hi, _⟩
  · refine ⟨none, 0, [], ?_, SlAt.nil⟩
    simpa using hv
  · have key : ∀ i, i < len → ∃ x b off, (some a : Option Addr) = some ⟨b, off, none⟩ ∧ b < w.heap.size ∧ R w b (off + i * sz) x := by
      intro i hil
      have h1 := hi i hil
      rw [hsz] at h1
      have h2 : elems[i]? = some (elems[i]'(by omega)) := List.getElem?_eq_getElem (by omega)
      rw [h2] at h1
      obtain ⟨cs, hcs, htr⟩ := Option.bind_eq_some_iff.1 h1
      obtain ⟨_, hcl, hcell⟩ := World.cells?_some hcs
      have h0 := hcell 0 hpos
      obtain ⟨v0, hv0⟩ : ∃ v0, cs[0]? = some v0 := ⟨cs[0]'(by omega), List.getElem?_eq_getElem (by omega)⟩
      rw [hv0] at h0
      have hspot : a.spot = none := by
        -- the first element's first cell is read at the address itself
        have h3 := hi 0 (by omega)
        rw [hsz] at h3
        have h4 : elems[0]? = some (elems[0]'(by omega)) := List.getElem?_eq_getElem (by omega)
        rw [h4] at h3
        obtain ⟨cs', hcs', _⟩ := Option.bind_eq_some_iff.1 h3
        obtain ⟨_, hcl', hcell'⟩ := World.cells?_some hcs'
        have h5 := hcell' 0 hpos
        have h6 : cs'[0]? = some (cs'[0]'(by omega)) := List.getElem?_eq_getElem (by omega)
        rw [h6] at h5
        simp only [Nat.zero_mul, Addr.add, if_true] at h5
        unfold World.cell? at h5
        split at h5
        · split at h5
          · cases h5
          · rename_i hs; simpa using hs
        · cases h5
      obtain ⟨b, off, spot⟩ := a
      simp only at hspot
      subst hspot
      have hadd : ∀ j, ((⟨b, off, none⟩ : Addr).add (i * sz)).add j = ⟨b, off + i * sz + j, none⟩ := by
        intro j
        unfold Addr.add
        by_cases hz : i * sz = 0 <;> by_cases hj : j = 0 <;> simp [hz, hj]
      obtain ⟨x, hx⟩ := hel m (by omega) b (off + i * sz) cs _ hcl (fun j hj => by rw [← hcell j hj, hadd]) htr
      refine ⟨x, b, off, rfl, ?_, hx⟩
      rw [hadd] at h0
      exact cell_lt h0
    refine ⟨some a, cap, (List.range len).attach.map (fun i => Classical.choose (key i.1 (by simpa using i.2))), ?_, ?_⟩
    · simpa using hv
    · refine ⟨by simp; omega, fun k x hx => ?_⟩
      simp only [List.getElem?_map, Option.map_eq_some_iff] at hx
      obtain ⟨i, hi', rfl⟩ := hx
      have hik : i.1 = k := by
        have h1 : ((List.range len).attach.map Subtype.val)[k]? = some i.1 := by simp only [List.getElem?_map, hi', Option.map_some]
        rw [List.attach_map_subtype_val] at h1
        obtain ⟨_, h2⟩ := List.getElem?_eq_some_iff.1 h1
        simpa using h2.symm
      obtain ⟨b, off, e, hlt, hr⟩ := Classical.choose_spec (key i.1 (by simpa using i.2))
      rw [← hik]
      exact ⟨b, off, e, hlt, hr⟩
theorem int_of_trod {t : TypeId} (ht : P.underlying t = some (.int .i64)) {fuel : Nat} {v : Value} {d : DataW H × List MemPlace} (h : DataW.trod enc P w 0 sp held fuel t [v] = some d) : ∃ x, v = .int .i64 x ∧ I64 x := by
  obtain ⟨z, hc, _, hw⟩ := DataW.trod_int ht h
  simp only [List.cons.injEq, and_true] at hc
  refine ⟨z, hc, ?_⟩
  exact bounds_i64 hw
theorem str_of_trod {t : TypeId} (ht : P.underlying t = some .string) {fuel : Nat} {v : Value} {d : DataW H × List MemPlace} (h : DataW.trod enc P w 0 sp held fuel t [v] = some d) : ∃ x, v = .string x ∧ x.size ≤ maxLen := by
  obtain ⟨z, hc, _, hw⟩ := DataW.trod_string ht h
  simp only [List.cons.injEq, and_true] at hc
  exact ⟨z, hc, hw⟩
end
end Go.Proofs.Ytahhaiomdjlckaa
