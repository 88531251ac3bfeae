/-
  trace: exampleHolds returns true.
-/
import Derived.Test.YtahhaiomdjlckaaDoorX0
import Derived.Test.YtahhaiomdjlckaaDoorD2
namespace Go.Proofs.YtahhaiomdjlckaaDoor
set_option linter.unusedVariables false
set_option linter.unusedSimpArgs false
open Go.RowKit

theorem wk_lst {ρ : Hd} {T : Type} {f : T → List AV} {ex : Bool} {l : List T} : Wk (.sl ex (l.map f)) (lst ρ f false l) := by rw [lst_eq]; exact Wk.sl
def Wkss : List (List AV) → List (List AV) → Prop
  | [], [] => True
  | a :: l, b :: m => Wks a b ∧ Wkss l m
  | _, _ => False
theorem Wkss.at : ∀ {l m : List (List AV)}, Wkss l m → l.length = m.length ∧ ∀ (i : Nat) (b : List AV), m[i]? = some b → ∃ a, l[i]? = some a ∧ Wks a b
  | [], [], _ => ⟨rfl, fun i b h => by simp at h⟩
  | a :: l, b :: m, hw => ⟨by simp [hw.2.at.1], fun i c h => by
    cases i with
    | zero => simp at h; subst h; exact ⟨a, rfl, hw.1⟩
    | succ i => simp at h; obtain ⟨d, h1, h2⟩ := hw.2.at.2 i c h; exact ⟨d, by simpa using h1, h2⟩⟩
  | [], _ :: _, h => h.elim
  | _ :: _, [], h => h.elim
theorem Wk.rows {ex : Bool} {rows rows' : List (List AV)} (h : Wkss rows rows') : Wk (.sl ex rows) (.sl false rows') := fun g w x hr => by
  obtain ⟨hl, ha⟩ := h.at
  cases hr with
  | nil hc =>
    have : rows' = [] := List.eq_nil_of_length_eq_zero (by rw [← hl]; rfl)
    subst this
    exact .nil (fun h => by cases h)
  | @sl _ _ b o sz c val hn hc hle hl2 hh hr =>
    have e : rows.length = rows'.length := hl
    rw [e]
    refine .sl (val := val) (sz := sz) (by rintro rfl; exact hn (List.eq_nil_of_length_eq_zero (by simpa using e))) (fun h => by cases h) (by omega) (fun i row hrow => ?_) (fun i j row a hrow hj => ?_) (fun i j row a hrow hj => ?_)
    · obtain ⟨r0, h1, h2⟩ := ha i row hrow
      rw [← h2.len]; exact hl2 i r0 h1
    · obtain ⟨r0, h1, h2⟩ := ha i row hrow
      obtain ⟨a0, h3, h4⟩ := h2.at j a hj
      exact hh i j r0 a0 h1 h3
    · obtain ⟨r0, h1, h2⟩ := ha i row hrow
      obtain ⟨a0, h3, h4⟩ := h2.at j a hj
      exact h4 _ _ _ (hr i j r0 a0 h1 h3)
theorem wk_lstW {ρ : Hd} {T : Type} {f : T → List AV} {ex : Bool} {l : List T} {rows : List (List AV)} (h : Wkss rows (l.map f)) : Wk (.sl ex rows) (lst ρ f false l) := by rw [lst_eq]; exact Wk.rows h
def qp6 : {q : QC × List QR // compF Tryd.progTables Tryd.f6 = some q} := ⟨_, by conv => lhs; cbv⟩
theorem qf6 : QFn Tryd.prog 6 qp6.1 Tryd.f6.ntmps := QFn.of Tryd.func6 qp6.2 rfl rfl (by kernel_rfl) Tryd.call6
section
variable {w0 : World} {ρ : Hd}
set_option maxRecDepth 100000
theorem parse_s (hE : Env w0) {s : ByteArray} {L : List ByteArray} {e : Ed} {c : Int} (h1 : partsB s = L) (h2 : parseP L = (e, c)) (hs : s.size ≤ 1000000) (hl : L.length ≤ 1000000) (hI : ∀ p ∈ L, p.size ≤ 1000000) (hne : L ≠ []) :
    PCal Tryd.prog w0 9 [strA s] (.tup [evH ρ e, iv c]) := by
  have := parse_h (ρ := ρ) hE s hs (by rw [h1]; exact hl) (by rw [h1]; exact hI) (by rw [h1]; exact hne)
  rw [h1, h2] at this
  exact this
theorem wk_ev {a b c d : Int} {l : List Int} {ex : Bool} {rows : List (List AV)} (h : Wk (.sl ex rows) (lst ρ irow false l)) : Wk (.agg [iv a, iv b, iv c, iv d, .sl ex rows]) (evH ρ ⟨a, b, c, d, l⟩) := Wk.agg ⟨Wk.refl _, Wk.refl _, Wk.refl _, Wk.refl _, h, trivial⟩
theorem wks_ev {a b c d : Int} {l : List Int} {ex : Bool} {rows : List (List AV)} (h : Wk (.sl ex rows) (lst ρ irow false l)) : Wks [iv a, iv b, iv c, iv d, .sl ex rows] (evR ρ ⟨a, b, c, d, l⟩) := ⟨Wk.refl _, Wk.refl _, Wk.refl _, Wk.refl _, h, trivial⟩
theorem example_h (hE : Env w0) : PCal Tryd.prog w0 6 [] (.v (.bool true)) := by
  obtain ⟨ρ, _⟩ : ∃ ρ : Hd, True := ⟨Hd.plain, trivial⟩
  have p1 := parse_s (ρ := ρ) hE parts1 parse1 (by decide) (by decide) (by decide) (by decide)
  have p2 := parse_s (ρ := ρ) hE parts2 parse2 (by decide) (by decide) (by decide) (by decide)
  have p3 := parse_s (ρ := ρ) hE parts3 parse3 (by decide) (by decide) (by decide) (by decide)
  have t1 := text_h (ρ := ρ) hE ⟨4, 3, 2, 1, [1, 4]⟩ (by decide)
  have t2 := text_h (ρ := ρ) hE ⟨1, 0, 0, 0, []⟩ (by decide)
  rw [text1] at t1
  rw [text2] at t2
  have e1 := equal_h (w0 := w0) (ρ := ρ) ⟨3, 2, -1, 0, []⟩ ⟨3, 2, -1, 0, []⟩ (by decide)
  rw [show eqE ⟨3, 2, -1, 0, []⟩ ⟨3, 2, -1, 0, []⟩ = true by decide] at e1
  have m1 := same_h (w0 := w0) (ρ := ρ) [⟨4, 3, 2, 1, [1, 4]⟩] [⟨4, 3, 2, 1, [1, 4]⟩] (by decide) (by decide)
  rw [show eqEs [⟨4, 3, 2, 1, [1, 4]⟩] [⟨4, 3, 2, 1, [1, 4]⟩] = true by decide] at m1
  have m2 := same_h (w0 := w0) (ρ := ρ) [⟨4, 3, 2, 1, [1, 4]⟩] [] (by decide) (by decide)
  rw [show eqEs [⟨4, 3, 2, 1, [1, 4]⟩] [] = false by decide] at m2
  have r1 := rules_h (w0 := w0) (ρ := ρ) [⟨3, 2, -1, 0, []⟩, ⟨4, 3, 2, 1, [1, 4]⟩] (by decide)
  rw [show rulesL [⟨3, 2, -1, 0, []⟩, ⟨4, 3, 2, 1, [1, 4]⟩] = [1] by decide] at r1
  have i1 := sameInts_h (w0 := w0) (ρ := ρ) [1] [1] (by decide)
  rw [show decide ([(1 : Int)] = [1]) = true by decide] at i1
  have wx : ∀ {ex : Bool}, Wk (.sl ex [[iv 1], [iv 4]]) (lst ρ irow false [1, 4]) := wk_lst (f := irow) (l := [1, 4])
  refine qf6.pcal (by simp [Tryd.ntmps6]) (.v) ?_
  refine wpQ.go 400 (by conv => lhs; cbv) ?_
  repeat' (first
    | (refine wpQ.op rfl (Owe.pcall rfl p1 ⟨.v, trivial⟩) ?_; refine wpQ.go 400 (by conv => lhs; cbv) ?_)
    | (refine wpQ.op rfl (Owe.pcall rfl p2 ⟨.v, trivial⟩) ?_; refine wpQ.go 400 (by conv => lhs; cbv) ?_)
    | (refine wpQ.op rfl (Owe.pcall rfl p3 ⟨.v, trivial⟩) ?_; refine wpQ.go 400 (by conv => lhs; cbv) ?_)
    | (refine wpQ.op rfl (Owe.pcallW rfl t1 ⟨evH_pure _, trivial⟩ ⟨wk_ev wx, trivial⟩) ?_; refine wpQ.go 400 (by conv => lhs; cbv) ?_)
    | (refine wpQ.op rfl (Owe.pcallW rfl t2 ⟨evH_pure _, trivial⟩ ⟨wk_ev Wk.nil, trivial⟩) ?_; refine wpQ.go 400 (by conv => lhs; cbv) ?_)
    | (refine wpQ.op rfl (Owe.pcallW rfl e1 ⟨evH_pure _, evH_pure _, trivial⟩ ⟨Wk.refl _, wk_ev Wk.nil, trivial⟩) ?_; refine wpQ.go 400 (by conv => lhs; cbv) ?_)
    | (refine wpQ.op rfl (Owe.pcallW rfl m1 ⟨evs_pure _, evs_pure _, trivial⟩ ⟨wk_lstW ⟨wks_ev wx, trivial⟩, wk_lstW ⟨wks_ev wx, trivial⟩, trivial⟩) ?_; refine wpQ.go 400 (by conv => lhs; cbv) ?_)
    | (refine wpQ.op rfl (Owe.pcallW rfl m2 ⟨evs_pure _, evs_pure _, trivial⟩ ⟨wk_lstW ⟨wks_ev wx, trivial⟩, Wk.nil, trivial⟩) ?_; refine wpQ.go 400 (by conv => lhs; cbv) ?_)
    | (refine wpQ.op rfl (Owe.pcallW rfl r1 ⟨evs_pure _, trivial⟩ ⟨wk_lstW ⟨wks_ev (Wk.refl _), wks_ev wx, trivial⟩, trivial⟩) ?_; refine wpQ.go 400 (by conv => lhs; cbv) ?_)
    | (refine wpQ.op rfl (Owe.pcallW rfl i1 ⟨ints_pureH _, ints_pureH _, trivial⟩ ⟨Wk.refl _, wk_lst (f := irow) (l := [1]), trivial⟩) ?_; refine wpQ.go 400 (by conv => lhs; cbv) ?_)
    | (refine wpQ.bif rfl (Owe.bit rfl) (fun hb => ?_) (fun hb => ?_) <;> (try simp only [decide_eq_true_eq, decide_eq_false_iff_not, beq_iff_eq, beq_eq_false_iff_ne, bne_iff_ne, bne_eq_false_iff_eq, Bool.not_eq_true, Bool.not_eq_false, Bool.not_eq_true', Bool.not_eq_false', ne_eq] at hb) <;> refine wpQ.go 400 (by conv => lhs; cbv) ?_)
    | (refine wpQ.int rfl (Owe.len rfl) fun m hm => ?_; (try rw [lst_len] at hm); refine wpQ.go 400 (by conv => lhs; cbv) ?_)
    | (refine wpQ.int rfl (Owe.ari64 rfl rfl rfl (by omega) (by omega)) fun _ _ => ?_; refine wpQ.go 400 (by conv => lhs; cbv) ?_)
    | (refine wpQ.int rfl (Owe.conv64 rfl (by omega) (by omega)) fun _ _ => ?_; refine wpQ.go 400 (by conv => lhs; cbv) ?_)
    | (refine wpQ.str rfl (Owe.cat rfl rfl (by assumption)) fun _ _ => ?_; refine wpQ.go 400 (by conv => lhs; cbv) ?_)
    | (refine wpQ.exitC ?_; refine wpQ.go 400 (by conv => lhs; cbv) ?_)
    | (refine wpQ.retC ?_; refine wpQ.go 400 (by conv => lhs; cbv) ?_)
    | (refine wpQ.fin (by conv => lhs; cbv) ?_))
  all_goals first
    | exact Frz.of_eq rfl
    | exact absurd trivial (by assumption)
end
end Go.Proofs.YtahhaiomdjlckaaDoor
