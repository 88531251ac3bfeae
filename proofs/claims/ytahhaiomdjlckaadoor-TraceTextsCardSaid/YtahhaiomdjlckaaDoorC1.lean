/-
  trace: ranges, written, number: what they return.
-/
import Derived.Test.YtahhaiomdjlckaaDoorQo
import Derived.Test.YtahhaiomdjlckaaDoorB1
import Derived.Laws.RangeString
import Derived.Laws.Strings
namespace Go.Proofs.YtahhaiomdjlckaaDoor
set_option linter.unusedVariables false
set_option linter.unusedSimpArgs false
open Go.RowKit

/-- an event's cells. -/
def evR (ρ : Hd) (x : Ed) : List AV := [iv x.kd, iv x.id, iv x.oc, iv x.rl, lst ρ irow false x.ids]
def evH (ρ : Hd) (x : Ed) : AV := .agg (evR ρ x)
def qp27 : {q : QC × List QR // compF Tryd.progTables Tryd.f27 = some q} := ⟨_, by conv => lhs; cbv⟩
theorem qf27 : QFn Tryd.prog 27 qp27.1 Tryd.f27.ntmps := QFn.of Tryd.func27 qp27.2 rfl rfl (by kernel_rfl) Tryd.call27
def qp18 : {q : QC × List QR // compF Tryd.progTables Tryd.f18 = some q} := ⟨_, by conv => lhs; cbv⟩
theorem qf18 : QFn Tryd.prog 18 qp18.1 Tryd.f18.ntmps := QFn.of Tryd.func18 qp18.2 rfl rfl (by kernel_rfl) Tryd.call18
def qp35 : {q : QC × List QR // compF Tryd.progTables Tryd.f35 = some q} := ⟨_, by conv => lhs; cbv⟩
theorem qf35 : QFn Tryd.prog 35 qp35.1 Tryd.f35.ntmps := QFn.of Tryd.func35 qp35.2 rfl rfl (by kernel_rfl) Tryd.call35
def qp44 : {q : QC × List QR // compF Tryd.progTables Tryd.f44 = some q} := ⟨_, by conv => lhs; cbv⟩
theorem qf44 : QFn Tryd.prog 44 qp44.1 Tryd.f44.ntmps := QFn.of Tryd.func44 qp44.2 rfl rfl (by kernel_rfl) Tryd.call44
def qp36 : {q : QC × List QR // compF Tryd.progTables Tryd.f36 = some q} := ⟨_, by conv => lhs; cbv⟩
theorem qf36 : QFn Tryd.prog 36 qp36.1 Tryd.f36.ntmps := QFn.of Tryd.func36 qp36.2 rfl rfl (by kernel_rfl) Tryd.call36
/- NUMBERS. -/
def scanB : Int → List UInt8 → Int × Bool
  | n, [] => (n, true)
  | n, c :: l => if c.toNat < 48 ∨ c.toNat > 57 then (0, false) else scanB (min (10 * n + ((c.toNat : Int) - 48)) 2147483649) l
def numL (l : List UInt8) : Int × Bool :=
  match l with
  | [] => (0, false)
  | 48 :: _ :: _ => (0, false)
  | l => scanB 0 l
def nb (p : Int × Bool) : AV := .tup [iv p.1, .v (.bool p.2)]
def numsL : List (List UInt8) → Option (List Int)
  | [] => some []
  | s :: l => if (numL s).2 then (numsL l).map ((numL s).1 :: ·) else none
theorem decode_big (s : ByteArray) (i : Nat) (h : 128 ≤ (s.get! i).toNat) : 128 ≤ (Utf8.decode s i).1 := by
  unfold Utf8.decode
  simp only [Nat.add_zero]
  repeat' split
  all_goals first | omega | simp_all [Utf8.runeError] <;> omega
section
variable {w0 : World} {ρ : Hd}
set_option maxRecDepth 100000
theorem irow_p (x : Int) : ∀ a ∈ irow x, Pure a := fun a ha => by
  obtain rfl := List.mem_singleton.1 ha
  exact .v
theorem within_h (lo : Int) (l : List Int) (hl : l.length ≤ 9223372036854775807) : PCal Tryd.prog w0 38 [iv lo, lst ρ irow false l] (.v (.bool (!l.any (outB lo)))) := by
  rw [lst_eq]; exact within_p lo l hl
theorem within_l (lo n : Int) : PCal Tryd.prog w0 38 [iv lo, .sl false [[iv n]]] (.v (.bool (!outB lo n))) := by
  have := within_p (w0 := w0) lo [n] (by simp)
  rw [List.any_cons, List.any_nil, Bool.or_false] at this
  exact this
theorem ints_pureH (l : List Int) {ex : Bool} : Pure (lst ρ irow ex l) := lst_pure fun x _ a ha => by
  obtain rfl := List.mem_singleton.1 ha
  exact .v
theorem row1_pure (n : Int) : Pure (.sl false [[iv n]]) := ints_pure [n]
theorem evH_pure (x : Ed) : Pure (evH ρ x) := .agg (by
  intro a ha
  simp only [evR, List.mem_cons, List.not_mem_nil, or_false] at ha
  rcases ha with rfl | rfl | rfl | rfl | rfl
  all_goals first | exact .v | exact ints_pureH _)
theorem ranges_h (x : Ed) (hl : x.ids.length ≤ 9223372036854775807) : PCal Tryd.prog w0 27 [evH ρ x] (.v (.bool (rangesB x))) := by
  refine qf27.pcal (by simp [Tryd.ntmps27]) (.v) ?_
  refine wpQ.go 400 (by conv => lhs; cbv) ?_
  repeat' (first
    | (refine wpQ.bif rfl (Owe.pcall rfl (within_h (ρ := ρ) _ _ hl) ⟨.v, ints_pureH _, trivial⟩) (fun _ => ?_) (fun _ => ?_) <;> refine wpQ.go 400 (by conv => lhs; cbv) ?_)
    | (refine wpQ.bif rfl (Owe.pcalz rfl (within_l _ _) ⟨.v, row1_pure _, trivial⟩ .v ⟨.refl _, .wk, trivial⟩) (fun _ => ?_) (fun _ => ?_) <;> refine wpQ.go 400 (by conv => lhs; cbv) ?_)
    | (refine wpQ.bif rfl (Owe.bit rfl) (fun hb => ?_) (fun hb => ?_) <;> (try simp only [decide_eq_true_eq, decide_eq_false_iff_not, beq_iff_eq, beq_eq_false_iff_ne, bne_iff_ne, bne_eq_false_iff_eq, Bool.not_eq_true, Bool.not_eq_false, Bool.not_eq_true', Bool.not_eq_false', ne_eq] at hb) <;> refine wpQ.go 400 (by conv => lhs; cbv) ?_)
    | (refine wpQ.int rfl (Owe.len rfl) fun m hm => ?_; (try rw [lst_len] at hm); refine wpQ.go 400 (by conv => lhs; cbv) ?_)
    | (refine wpQ.int rfl (Owe.ari64 rfl rfl rfl (by omega) (by omega)) fun _ _ => ?_; refine wpQ.go 400 (by conv => lhs; cbv) ?_)
    | (refine wpQ.int rfl (Owe.conv64 rfl (by omega) (by omega)) fun _ _ => ?_; refine wpQ.go 400 (by conv => lhs; cbv) ?_)
    | (refine wpQ.str rfl (Owe.cat rfl rfl (by assumption)) fun _ _ => ?_; refine wpQ.go 400 (by conv => lhs; cbv) ?_)
    | (refine wpQ.exitC ?_; refine wpQ.go 400 (by conv => lhs; cbv) ?_)
    | (refine wpQ.retC ?_; refine wpQ.go 400 (by conv => lhs; cbv) ?_)
    | (refine wpQ.fin (by conv => lhs; cbv) ?_))
  all_goals (refine Frz.of_eq ?_; simp_all [rangesB])
theorem written_h (x : Ed) (hl : x.ids.length ≤ 9223372036854775807) : PCal Tryd.prog w0 18 [evH ρ x] (.v (.bool (writtenB x))) := by
  have hR := ranges_h (w0 := w0) (ρ := ρ) x hl
  have hP := evH_pure (ρ := ρ) x
  obtain ⟨kd, id, oc, rl, ids⟩ := x
  refine qf18.pcal (by simp [Tryd.ntmps18]) (.v) ?_
  refine wpQ.go 400 (by conv => lhs; cbv) ?_
  repeat' (first
    | (refine wpQ.str rfl (Owe.pcall rfl (word_p _) ⟨.v, trivial⟩) fun _ _ => ?_; refine wpQ.go 400 (by conv => lhs; cbv) ?_)
    | (refine wpQ.bif rfl (Owe.pcall rfl (applies_p _) ⟨.v, trivial⟩) (fun _ => ?_) (fun _ => ?_) <;> refine wpQ.go 400 (by conv => lhs; cbv) ?_)
    | (refine wpQ.bif rfl (Owe.pcall rfl hR ⟨hP, trivial⟩) (fun _ => ?_) (fun _ => ?_) <;> refine wpQ.go 400 (by conv => lhs; cbv) ?_)
    | (refine wpQ.bif rfl (Owe.bit rfl) (fun hb => ?_) (fun hb => ?_) <;> (try simp only [decide_eq_true_eq, decide_eq_false_iff_not, beq_iff_eq, beq_eq_false_iff_ne, bne_iff_ne, bne_eq_false_iff_eq, Bool.not_eq_true, Bool.not_eq_false, Bool.not_eq_true', Bool.not_eq_false', ne_eq] at hb) <;> refine wpQ.go 400 (by conv => lhs; cbv) ?_)
    | (refine wpQ.int rfl (Owe.len rfl) fun m hm => ?_; (try rw [lst_len] at hm); refine wpQ.go 400 (by conv => lhs; cbv) ?_)
    | (refine wpQ.int rfl (Owe.ari64 rfl rfl rfl (by omega) (by omega)) fun _ _ => ?_; refine wpQ.go 400 (by conv => lhs; cbv) ?_)
    | (refine wpQ.int rfl (Owe.conv64 rfl (by omega) (by omega)) fun _ _ => ?_; refine wpQ.go 400 (by conv => lhs; cbv) ?_)
    | (refine wpQ.str rfl (Owe.cat rfl rfl (by assumption)) fun _ _ => ?_; refine wpQ.go 400 (by conv => lhs; cbv) ?_)
    | (refine wpQ.exitC ?_; refine wpQ.go 400 (by conv => lhs; cbv) ?_)
    | (refine wpQ.retC ?_; refine wpQ.go 400 (by conv => lhs; cbv) ?_)
    | (refine wpQ.fin (by conv => lhs; cbv) ?_))
  all_goals (refine Frz.of_eq ?_; subst_vars; simp_all [writtenB]; try omega)
theorem nb_pure (p : Int × Bool) : Pure (nb p) := .tup (by
  intro a ha
  simp only [List.mem_cons, List.not_mem_nil, or_false] at ha
  rcases ha with rfl | rfl <;> exact .v)
theorem toL_eq (s : ByteArray) : s.toList = s.data.toList := ByteArray.toList_eq s
theorem toL_nil : ByteArray.toList ⟨#[]⟩ = [] := by rw [toL_eq]
theorem idx_zero {l : List UInt8} {c : UInt8} {r : List UInt8} (h : l = c :: r) : idx l 0 = some c := by subst h; rfl
theorem size_toL (s : ByteArray) : s.size = s.data.toList.length := (Array.length_toList).symm
theorem get_drop (s : ByteArray) (pos : Nat) (h : pos < s.size) : s.data.toList.drop pos = s.get! pos :: s.data.toList.drop (pos + 1) := by
  have h1 : pos < s.data.toList.length := by rw [← size_toL]; exact h
  rw [List.drop_eq_getElem_cons h1]
  congr 1
  have h2 : pos < s.data.size := h
  simp only [Array.getElem_toList, ByteArray.get!]
  exact (getElem!_pos s.data pos h2).symm
theorem get_at (s : ByteArray) (pos : Nat) (h : pos < s.size) : s[pos]'h = s.get! pos := by
  have h2 : pos < s.data.size := h
  show s.data[pos]'h2 = s.data[pos]!
  exact (getElem!_pos s.data pos h2).symm
theorem scan_step {s : ByteArray} {pos p : Nat} {n c : Int} (h : pos < s.size) (hc : c = ((Utf8.decode s pos).1 : Nat)) (hp : p = pos + (Utf8.decode s pos).2) :
    (c < 48 ∨ c > 57 → scanB n (s.data.toList.drop pos) = (0, false)) ∧ (48 ≤ c → c ≤ 57 → p = pos + 1 ∧ scanB n (s.data.toList.drop pos) = scanB (min (10 * n + (c - 48)) 2147483649) (s.data.toList.drop (pos + 1))) := by
  rw [get_drop s pos h, scanB]
  by_cases hb : (s.get! pos).toNat < 128
  · have hd := decode_ascii s pos h (by rw [get_at]; exact hb)
    rw [get_at] at hd
    rw [hd] at hc hp
    simp only at hc hp
    subst hc
    refine ⟨fun h => by rw [if_pos (by omega)], fun h1 h2 => ⟨hp, by rw [if_neg (by omega)]⟩⟩
  · have := decode_big s pos (by omega)
    refine ⟨fun h => by rw [if_pos (by omega)], fun h1 h2 => by omega⟩
theorem numL_scan {l : List UInt8} (h : l ≠ []) (h2 : ∀ c d r, l = c :: d :: r → ¬ (c.toNat : Int) = 48) : numL l = scanB 0 l := by
  unfold numL
  split
  · exact absurd rfl h
  · exact absurd rfl (h2 _ _ _ rfl)
  · rfl
theorem number_h (s : ByteArray) (hs : s.size ≤ 9223372036854775807) : PCal Tryd.prog w0 35 [.v (.string s)] (nb (numL s.data.toList)) := by
  have hsz := size_toL s
  have hnil := toL_nil
  have htl := toL_eq s
  refine qf35.pcal (by simp [Tryd.ntmps35]) ((nb_pure _)) ?_
  refine wpQ.go 400 (by conv => lhs; cbv) ?_
  rcases hl : s.data.toList with _ | ⟨c, _ | ⟨d, rest⟩⟩
  all_goals
    rw [hl] at hsz
    simp only [List.length_nil, List.length_cons] at hsz
    repeat' (first
      | (refine wpQ.int rfl (Owe.indS rfl rfl (idx_zero hl)) fun _ _ => ?_; refine wpQ.go 400 (by conv => lhs; cbv) ?_)
      | (refine wpQ.op rfl (Owe.rngS rfl) ?_; refine wpQ.go 400 (by conv => lhs; cbv) ?_)
      | (refine wpQ.bif rfl (Owe.bit rfl) (fun hb => ?_) (fun hb => ?_) <;> (try simp only [decide_eq_true_eq, decide_eq_false_iff_not, beq_iff_eq, beq_eq_false_iff_ne, bne_iff_ne, bne_eq_false_iff_eq, Bool.not_eq_true, Bool.not_eq_false, Bool.not_eq_true', Bool.not_eq_false', ne_eq] at hb) <;> refine wpQ.go 400 (by conv => lhs; cbv) ?_)
      | (refine wpQ.int rfl (Owe.len rfl) fun m hm => ?_; (try rw [lst_len] at hm); refine wpQ.go 400 (by conv => lhs; cbv) ?_)
      | (refine wpQ.int rfl (Owe.ari64 rfl rfl rfl (by omega) (by omega)) fun _ _ => ?_; refine wpQ.go 400 (by conv => lhs; cbv) ?_)
      | (refine wpQ.int rfl (Owe.conv64 rfl (by omega) (by omega)) fun _ _ => ?_; refine wpQ.go 400 (by conv => lhs; cbv) ?_)
      | (refine wpQ.str rfl (Owe.cat rfl rfl (by assumption)) fun _ _ => ?_; refine wpQ.go 400 (by conv => lhs; cbv) ?_)
      | (refine wpQ.exitC ?_; refine wpQ.go 400 (by conv => lhs; cbv) ?_)
      | (refine wpQ.retC ?_; refine wpQ.go 400 (by conv => lhs; cbv) ?_)
      | (refine wpQ.fin (by conv => lhs; cbv) ?_))
  all_goals try (exfalso; simp_all; done)
  all_goals try (exfalso; simp_all; omega; done)
  · exact Frz.of_eq rfl
  rotate_left 1
  · subst_vars
    rename_i hb
    have : c = 48 := by apply UInt8.toNat_inj.1; show c.toNat = 48; omega
    subst this
    exact Frz.of_eq rfl
  all_goals
    rw [← hl, numL_scan (by simp [hl]) (by intro c1 d1 r1 e; simp_all)]
    refine wpQ.loopC (σ := Nat × Int) 1 1 [] (fun p => [(0, .v (.string s)), (4, .v (.int .i64 p.2)), (20, .pt 0 0 0 0)]) [] (fun p => [(0, .si s p.1)])
      (fun p => p.1 ≤ s.size ∧ 0 ≤ p.2 ∧ p.2 ≤ 2147483649 ∧ scanB 0 s.data.toList = scanB p.2 (s.data.toList.drop p.1)) (fun p => s.size - p.1) (0, 0) ⟨by omega, by simp, by simp, by simp⟩ rfl
      ⟨⟨.old rfl .v, .old rfl .v, .old rfl (.pt (by decide)), trivial⟩, rfl, ⟨⟨_, rfl, .same trivial⟩, trivial⟩, rfl, rfl, rfl⟩ ?_
    rintro ⟨pos, n⟩ ⟨h1, h2, h3, h4⟩
    refine wpQ.go 400 (by conv => lhs; cbv) ?_
    simp only at h1 h2 h3 h4
    refine wpQ.nxtS rfl rfl rfl (fun hp j c p hj hc hpp => ?_) (fun hp => ?_)
    · obtain ⟨k1, k2⟩ := scan_step (n := n) hp hc hpp
      refine wpQ.go 400 (by conv => lhs; cbv) ?_
      repeat' (first
        | (refine wpQ.int rfl (Owe.ari32 rfl rfl rfl (by omega) (by omega)) fun _ _ => ?_; refine wpQ.go 400 (by conv => lhs; cbv) ?_)
        | (refine wpQ.int rfl (Owe.min rfl rfl) fun _ _ => ?_; refine wpQ.go 400 (by conv => lhs; cbv) ?_)
        | (refine wpQ.bif rfl (Owe.bit rfl) (fun hb => ?_) (fun hb => ?_) <;> (try simp only [decide_eq_true_eq, decide_eq_false_iff_not, beq_iff_eq, beq_eq_false_iff_ne, bne_iff_ne, bne_eq_false_iff_eq, Bool.not_eq_true, Bool.not_eq_false, Bool.not_eq_true', Bool.not_eq_false', ne_eq] at hb) <;> refine wpQ.go 400 (by conv => lhs; cbv) ?_)
        | (refine wpQ.int rfl (Owe.len rfl) fun m hm => ?_; (try rw [lst_len] at hm); refine wpQ.go 400 (by conv => lhs; cbv) ?_)
        | (refine wpQ.int rfl (Owe.ari64 rfl rfl rfl (by omega) (by omega)) fun _ _ => ?_; refine wpQ.go 400 (by conv => lhs; cbv) ?_)
        | (refine wpQ.int rfl (Owe.conv64 rfl (by omega) (by omega)) fun _ _ => ?_; refine wpQ.go 400 (by conv => lhs; cbv) ?_)
        | (refine wpQ.str rfl (Owe.cat rfl rfl (by assumption)) fun _ _ => ?_; refine wpQ.go 400 (by conv => lhs; cbv) ?_)
        | (refine wpQ.exitC ?_; refine wpQ.go 400 (by conv => lhs; cbv) ?_)
        | (refine wpQ.retC ?_; refine wpQ.go 400 (by conv => lhs; cbv) ?_)
        | (refine wpQ.fin (by conv => lhs; cbv) ?_))
      · rw [h4, k1 (.inl (by assumption))]; exact Frz.of_eq rfl
      · rw [h4, k1 (.inr (by assumption))]; exact Frz.of_eq rfl
      · obtain ⟨rfl, k3⟩ := k2 (by omega) (by omega)
        refine wpQ.nextC (σ := Nat × Int) (_, _) [] ?_ ?_ ⟨⟨.old rfl .v, .old rfl .v, .old rfl (.pt (by decide)), trivial⟩, rfl, ⟨⟨_, rfl, .same trivial⟩, trivial⟩, rfl, rfl, rfl⟩
        · subst_vars
          refine ⟨by omega, by omega, by omega, ?_⟩
          rw [h4, k3]
        · simp only; omega
    · refine wpQ.go 400 (by conv => lhs; cbv) ?_
      repeat' (first
        | (refine wpQ.bif rfl (Owe.bit rfl) (fun hb => ?_) (fun hb => ?_) <;> (try simp only [decide_eq_true_eq, decide_eq_false_iff_not, beq_iff_eq, beq_eq_false_iff_ne, bne_iff_ne, bne_eq_false_iff_eq, Bool.not_eq_true, Bool.not_eq_false, Bool.not_eq_true', Bool.not_eq_false', ne_eq] at hb) <;> refine wpQ.go 400 (by conv => lhs; cbv) ?_)
        | (refine wpQ.int rfl (Owe.len rfl) fun m hm => ?_; (try rw [lst_len] at hm); refine wpQ.go 400 (by conv => lhs; cbv) ?_)
        | (refine wpQ.int rfl (Owe.ari64 rfl rfl rfl (by omega) (by omega)) fun _ _ => ?_; refine wpQ.go 400 (by conv => lhs; cbv) ?_)
        | (refine wpQ.int rfl (Owe.conv64 rfl (by omega) (by omega)) fun _ _ => ?_; refine wpQ.go 400 (by conv => lhs; cbv) ?_)
        | (refine wpQ.str rfl (Owe.cat rfl rfl (by assumption)) fun _ _ => ?_; refine wpQ.go 400 (by conv => lhs; cbv) ?_)
        | (refine wpQ.exitC ?_; refine wpQ.go 400 (by conv => lhs; cbv) ?_)
        | (refine wpQ.retC ?_; refine wpQ.go 400 (by conv => lhs; cbv) ?_)
        | (refine wpQ.fin (by conv => lhs; cbv) ?_))
      rw [h4, List.drop_eq_nil_of_le (by rw [← size_toL]; exact hp)]
      exact Frz.of_eq rfl
end
end Go.Proofs.YtahhaiomdjlckaaDoor
