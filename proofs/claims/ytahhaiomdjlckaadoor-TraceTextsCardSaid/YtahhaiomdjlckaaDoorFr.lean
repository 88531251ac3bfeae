/-
  The frame of the statements: from a walk that returns true and leaves old memory alone to the row's post; what the row's list of variables gives; a world for the witness; readings of the arguments.
-/
import Derived.Test.YtahhaiomdjlckaaDoorCards
import Derived.Test.YtahhaiomdjlckaaDoorTie
import Derived.Test.YtahhaiomdjlckaaDoorL1
import Derived.Test.YtahhaiomdjlckaaDoorRead
import Derived.ProofKit
import Derived.OpenShut
import Derived.Carry
import Derived.Deep.DeepHandedRow
import Derived.Lib.LaidTab
import Derived.LaidSub
import Derived.MakeChecks
import Derived.Shelf.Vars
namespace Go.Proofs.YtahhaiomdjlckaaDoor
set_option linter.unusedVariables false
set_option linter.unusedSimpArgs false
open Go.ChangeShapes Go.WideShapes Go.ChangeAt Go.RowKit

section
variable {H : Type} {enc : TypeId × Value → H} {P : Program}
theorem trodAll_below (hl : laidOutB P = true) {W W' : World} (hb : Below W.heap.size W W') : ∀ {ts : List TypeId} {vs : List Value} {ds : List (DataW H)} {ps : List MemPlace},
    (∀ t ∈ ts, P.readableRec t = true ∧ t < P.types.size) → DataW.TrodAll enc P W 0 (fun _ => true) true ts vs ds ps → (∀ x ∈ ps, x.block < W.heap.size) →
    DataW.TrodAll enc P W' 0 (fun b => decide (b < W.heap.size)) true ts vs ds ps
  | [], vs, ds, ps, _, h, _ => by
    obtain ⟨rfl, rfl, rfl⟩ := trodAll_nil h
    exact trodAll_mk0
  | t :: ts, vs, ds, ps, ht, h, hlt => by
    obtain ⟨v, vs', d, ds', p, q, rfl, rfl, rfl, h1, h2⟩ := trodAll_cons h
    obtain ⟨hr, hs⟩ := ht t (by simp)
    exact trodAll_cons_mk (Below.trod hl hr hs h1 hb fun x hx => hlt x (by simp [hx])) (trodAll_below hl hb (fun t ht' => ht t (by simp [ht'])) h2 fun x hx => hlt x (by simp [hx]))

/-- the post of a law: it returns true, and the arguments read as they did. -/
theorem law_post {f : Func} {s : ChangeSpec} {W W' : World} {args : Array Value} {ds : List (DataW H)} {before : List MemPlace} {tb : TypeId}
    (hl : laidOutB P = true) (hts : ∀ t ∈ f.params.toList, P.readableRec t = true ∧ t < P.types.size) (hvars : s.vars = []) (hres : f.resultTypes = #[tb]) (htb : P.underlying tb = some .bool)
    (hfn : s.fn H (ds ++ []) = { results := [.lit (.bool true)], args := ds }) (hW : DataW.Whole enc P f.params.toList s.vars false W args.toList ds [] before) (hb : Below W.heap.size W W') :
    s.post enc P f false true false false W args (.bool true) W' := by
  have hW' := hW
  obtain ⟨p, q, hA, hV, rfl, hfz, hnd⟩ := hW
  rw [hvars] at hV
  obtain ⟨_, rfl⟩ := trodVars_none hV
  have hlt : ∀ x ∈ p, x.block < W.heap.size := fun x hx => hW'.lt x (by simp [hx])
  refine ⟨ds, [], p ++ [], [], p, [], hW', ?_, ?_, ?_, World.keptBut_mono (fun x hx => ⟨hx, .inr (.inl (by simpa using hx))⟩) (hb.frame (· ∈ p ++ [])), fun h => by cases h⟩
  · rw [hfn, hres]
    exact trodAll_mk1 (shut_bool htb true)
  · rw [hfn]
    exact trodAll_below hl hb hts hA hlt
  · rw [hfn, hvars]
    rfl
end

theorem own : ownKnob Tryd.prog.godebug = none := by kernel_rfl
theorem laidOut : laidOutB Tryd.prog = true := by kernel_rfl


theorem gTab : Tryd.prog.globalNamed "internal/strconv.uint64pow10" = some 0 := by kernel_rfl
theorem env_of {W : World} {l : List (String × DataW Unit)} (hl : (l.filter fun x => x.1 == "internal/strconv.uint64pow10") = [("internal/strconv.uint64pow10", Lib.tabData .u64 Lib.pow10Tab)]) (h : laidMetH Tryd.prog l W) (hs : W.ShapedOpen Tryd.prog) : Env W := by
  refine ⟨?_, Go.Proofs.cell_of_shapedOpen_int (zero := #[.int .i64 0]) (t := 3) hs (of_decide_eq_true (by kernel_rfl)) (by kernel_rfl) rfl (by kernel_rfl) (by kernel_rfl) Tryd.underlying3⟩
  have h1 := laidMetH.filter (fun x => x.1 == "internal/strconv.uint64pow10") h
  rw [hl, Go.MakeChecks.laidMetH_plain _ _ _ (by rfl)] at h1
  exact Lib.tabIs_of_head gTab (n := 20) (t := 72) (e := 62) (by kernel_rfl) (by kernel_rfl) (by kernel_rfl) (by kernel_rfl) (by kernel_rfl) h1
def flatA : DataW Unit → List Value
  | .lit (.int k z) => [.int k z]
  | _ => []
def flatB : DataW Unit → List Value
  | .agg l => l.flatMap flatA
  | d => flatA d
def flatC : DataW Unit → List Value
  | .agg l => l.flatMap flatB
  | d => flatA d
def putG (w : World) (g : Nat) (d : DataW Unit) : World := { w with heap := w.heap.modify g fun
    | .cells _ t frozen => .cells (flatC d).toArray t frozen
    | o => o }
/-- a world for the witness: the settled one, the tables holding what their initialisers lay. -/
noncomputable def laidWorld (os : Os) : World :=
  putG (putG (putG (putG (putG (World.holding Tryd.prog os ⟨#[], #[], []⟩) 0 Rows.laid_internal_strconv_uint64pow10) 2 Rows.laid_math_bits_deBruijn32tab) 3 Rows.laid_math_bits_deBruijn64tab)
    4 Rows.laid_unicode_utf8_first) 5 Rows.laid_unicode_utf8_acceptRanges
/- READINGS. -/
def evP (x : Ed) : List AV := [iv x.kd, iv x.id, iv x.oc, iv x.rl, .sl false (x.ids.map irow)]
theorem evP_eq {ρ : Hd} (x : Ed) : evR ρ x = evP x := by simp only [evR, evP, lst_eq]
def okE (x : Ed) : Prop := x.ids.length ≤ maxLen ∧ ∀ n ∈ x.ids, I64 n
theorem rd_ints {n : Nat} : Rd Tryd.prog (n + 1) 22 1 (fun l : List Int => [AV.sl false (l.map irow)]) (fun l => l.length ≤ maxLen ∧ ∀ x ∈ l, I64 x) := Rd.slice Tryd.underlying22 (by kernel_rfl) (by decide) (Rd.int Tryd.underlying3)
theorem rd_ev {n : Nat} : Rd Tryd.prog (n + 3) 24 5 evP okE := by
  intro H enc w sp held m hm cs d hl h
  obtain ⟨k, rfl, hf⟩ := Rd.fields Tryd.underlying24 h
  have hi : Rd Tryd.prog (n + 2) 3 1 irow I64 := Rd.int Tryd.underlying3
  obtain ⟨kd, _, _, h1⟩ := Rd.part hi (by omega) (by kernel_rfl) (by omega) (hf 0 3 0 rfl)
  obtain ⟨id, _, _, h2⟩ := Rd.part hi (by omega) (by kernel_rfl) (by omega) (hf 1 3 1 rfl)
  obtain ⟨oc, _, _, h3⟩ := Rd.part hi (by omega) (by kernel_rfl) (by omega) (hf 2 3 2 rfl)
  obtain ⟨rl, _, _, h4⟩ := Rd.part hi (by omega) (by kernel_rfl) (by omega) (hf 3 3 3 rfl)
  obtain ⟨ids, hok, _, h5⟩ := Rd.part (rd_ints (n := n + 1)) (by omega) (by kernel_rfl) (by omega) (hf 4 22 4 rfl)
  refine ⟨⟨kd, id, oc, rl, ids⟩, hok, rfl, fun j a v ha hv => ?_⟩
  match j with
  | 0 => simp [evP] at ha; exact h1 0 a v (by simpa [irow] using ha) hv
  | 1 => simp [evP] at ha; exact h2 0 a v (by simpa [irow] using ha) hv
  | 2 => simp [evP] at ha; exact h3 0 a v (by simpa [irow] using ha) hv
  | 3 => simp [evP] at ha; exact h4 0 a v (by simpa [irow] using ha) hv
  | 4 => simp [evP] at ha; exact h5 0 a v (by simpa using ha) hv
  | j + 5 => simp [evP] at ha
theorem rd_evs {n : Nat} : Rd Tryd.prog (n + 4) 33 1 (fun l : List Ed => [AV.sl false (l.map evP)]) (fun l => l.length ≤ maxLen ∧ ∀ x ∈ l, okE x) := Rd.slice Tryd.underlying33 (by kernel_rfl) (by decide) rd_ev
theorem evs_lst {ρ : Hd} (l : List Ed) : lst ρ (evR ρ) false l = .sl false (l.map evP) := by
  rw [lst_eq]
  congr 1
  exact List.map_congr_left fun x _ => evP_eq x
theorem okWide_agg {P : Program} {w : World} {r : Reach} {b0 : Nat} {t : TypeId} {v : Value} {fs : Array Field} (ht : P.underlying t = some (.struct fs)) (h : Value.okWide P w r b0 t v) : ∃ cs, v = .agg cs ∧ cs.size = P.cellsOf t := by
  unfold Value.okWide at h
  rw [ht] at h
  obtain ⟨cs, e, hs, _⟩ := h
  exact ⟨cs, e, hs⟩
section
variable {w : World} {r : Reach} {b0 : Nat} {v : Value} {H : Type} {enc : TypeId × Value → H} {sp : Nat → Bool} {held : Bool} {d : DataW H} {ps : List MemPlace}
theorem arg_l (hval : Value.okWide Tryd.prog w r b0 33 v) (h : DataW.Trod enc Tryd.prog w 0 sp held 33 v d ps) : ∃ l : List Ed, (l.length ≤ maxLen ∧ ∀ x ∈ l, okE x) ∧ Rep (g0 w) w (lst Hd.plain (evR Hd.plain) false l) v := by
  obtain ⟨fuel, hf⟩ := h
  obtain ⟨A, n, c, rfl⟩ := okWide_slice Tryd.underlying33 hval
  obtain ⟨l, h1, _, h2⟩ := rd_evs (n := fuel) H enc w sp held fuel (by omega) _ _ rfl hf
  refine ⟨l, h1, ?_⟩
  rw [evs_lst]
  exact h2 0 _ _ rfl rfl
theorem arg_e (hval : Value.okWide Tryd.prog w r b0 24 v) (h : DataW.Trod enc Tryd.prog w 0 sp held 24 v d ps) : ∃ x : Ed, okE x ∧ Rep (g0 w) w (evH Hd.plain x) v := by
  obtain ⟨fuel, hf⟩ := h
  obtain ⟨cs, rfl, hsz⟩ := okWide_agg Tryd.underlying24 hval
  have hs5 : cs.size = 5 := hsz.trans (by kernel_rfl)
  obtain ⟨x, h1, _, h2⟩ := rd_ev (n := fuel) H enc w sp held fuel (by omega) _ _ (by rw [Array.length_toList]; exact hs5) hf
  refine ⟨x, h1, ?_⟩
  unfold evH
  rw [evP_eq]
  refine .agg (by rw [hs5]; rfl) fun i a y ha hy => h2 i a y ha ?_
  rw [← hy]
  exact Array.getElem?_toList
end
theorem reps1 {g : Gh} {w : World} {a : AV} {x : Value} (h : Rep g w a x) : Reps g w [a] #[x] := ⟨rfl, fun i b y hb hy => by
  match i with
  | 0 => simp at hb hy; subst hb hy; exact h
  | i + 1 => simp at hb⟩
theorem reps2 {g : Gh} {w : World} {a b : AV} {x y : Value} (h : Rep g w a x) (k : Rep g w b y) : Reps g w [a, b] #[x, y] := ⟨rfl, fun i c z hc hz => by
  match i with
  | 0 => simp at hc hz; subst hc hz; exact h
  | 1 => simp at hc hz; subst hc hz; exact k
  | i + 2 => simp at hc⟩
end Go.Proofs.YtahhaiomdjlckaaDoor
