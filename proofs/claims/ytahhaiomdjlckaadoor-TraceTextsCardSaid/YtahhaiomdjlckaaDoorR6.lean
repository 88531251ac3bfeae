/-
  The reference of trace: formed whole, Parse.
-/
import Derived.Test.YtahhaiomdjlckaaDoorR5b
import Derived.Test.YtahhaiomdjlckaaDoorR4
namespace Go.Proofs.YtahhaiomdjlckaaDoor
set_option linter.unusedVariables false
set_option linter.unusedSimpArgs false
open Go.RowKit

def qp11 : {q : QC × List QR // compF Tryd.progTables Tryd.f11 = some q} := ⟨_, by conv => lhs; cbv⟩
theorem qf11 : QFn Tryd.prog 11 qp11.1 Tryd.f11.ntmps := QFn.of Tryd.func11 qp11.2 rfl rfl (by kernel_rfl) Tryd.call11
section
variable {w0 : World} {ρ : Hd}
set_option maxRecDepth 100000
theorem appB_01 {k : Int} (h : appB k = true) : ¬ (k = 0 ∨ k = 1) := by
  rintro (rfl | rfl) <;> exact absurd h (by decide)
theorem formed_h (L : List ByteArray) (hne : L ≠ []) (hl : L.length ≤ 1000000) (hI : ∀ p ∈ L, p.size ≤ 1000000) : PCal Tryd.prog w0 28 [lst ρ srow false L] (.tup [evH ρ (formedP L).1, .v (.bool (formedP L).2)]) := by
  obtain ⟨p, rest, rfl⟩ : ∃ p rest, L = p :: rest := by
    cases L with
    | nil => exact absurd rfl hne
    | cons p rest => exact ⟨p, rest, rfl⟩
  obtain ⟨kk, hkk⟩ : ∃ kk, findW p wordsL 0 = kk := ⟨_, rfl⟩
  have hkd := kind_h (w0 := w0) p
  rw [hkk] at hkd
  obtain ⟨b, hA⟩ : ∃ b, appB kk = b := ⟨_, rfl⟩
  have hapk : ∀ (id oc rl : Int) (ids : List Int), PCal Tryd.prog w0 25 [evH ρ ⟨kk, id, oc, rl, ids⟩] (.v (.bool b)) := fun id oc rl ids => by
    rw [← hA]; exact appl5 ⟨kk, id, oc, rl, ids⟩
  match rest, hl, hI, hne with
  | [], _, _, _ => exact formed_0 hkk hA hkd hapk
  | [q], _, _, _ => exact formed_1 hkk hA hkd hapk
  | q :: r :: ps, hl, hI, _ =>
    have hq := hI q (by simp)
    have hr := hI r (by simp)
    cases b with
    | false => exact formed_f hq hr hkk hA hkd hapk
    | true =>
      have hk01 := appB_01 hA
      match ps, hl, hI with
      | [], _, _ => exact formed_t3 hkk hA hkd hapk
      | [c], _, _ => exact formed_t4 hkk hA hkd hapk
      | c :: d :: ds, hl, hI =>
        have hc := hI c (by simp)
        have hds : ∀ x ∈ d :: ds, x.size ≤ 1000000 := fun x hx => hI x (by simp only [List.mem_cons] at hx ⊢; exact .inr (.inr (.inr (.inr hx))))
        have hlen : ds.length ≤ 1000000 := by simp only [List.length_cons] at hl; omega
        obtain ⟨⟨vq, bq⟩, hvq⟩ : ∃ z, num q = z := ⟨_, rfl⟩
        cases bq with
        | false => exact formed_5a hq hr hvq hkk hA hk01 hkd hapk
        | true =>
          rcases Classical.em (r.toList = ByteArray.toList ⟨#[45, 49]⟩) with hrm | hrn
          · cases hcc : colon c with
            | false => exact formed_5cm hq hc hr hvq hrm hcc hkk hA hk01 hkd hapk
            | true =>
              obtain ⟨⟨vx, bx⟩, hvx⟩ : ∃ z, num (chop c) = z := ⟨_, rfl⟩
              cases bx with
              | true => exact formed_5dmt hq hc hds hlen hr hvq hrm hcc hvx hkk hA hk01 hkd hapk
              | false => exact formed_5dmf hq hc hds hlen hr hvq hrm hcc hvx hkk hA hk01 hkd hapk
          · obtain ⟨⟨vr, br⟩, hvr⟩ : ∃ z, num r = z := ⟨_, rfl⟩
            cases br with
            | false => exact formed_5b hq hr hvq hrn hvr hkk hA hk01 hkd hapk
            | true =>
              cases hcc : colon c with
              | false => exact formed_5cn hq hc hr hvq hrn hvr hcc hkk hA hk01 hkd hapk
              | true =>
                obtain ⟨⟨vx, bx⟩, hvx⟩ : ∃ z, num (chop c) = z := ⟨_, rfl⟩
                cases bx with
                | true => exact formed_5dnt hq hc hds hlen hr hvq hrn hvr hcc hvx hkk hA hk01 hkd hapk
                | false => exact formed_5dnf hq hc hds hlen hr hvq hrn hvr hcc hvx hkk hA hk01 hkd hapk
/-- what the reference's Parse makes of the parts. -/
def parseR (l : List ByteArray) : Ed × Int :=
  if (formedP l).2 then (if (formedP l).1.ids.length > 4 then (⟨0, 0, 0, 0, []⟩, 6) else if writtenB (formedP l).1 then ((formedP l).1, 0) else (⟨0, 0, 0, 0, []⟩, 5)) else (⟨0, 0, 0, 0, []⟩, 16)
theorem formedP_ids (l : List ByteArray) : (formedP l).1.ids.length ≤ l.length := by
  unfold formedP
  split
  · simp
  · split
    · simp
    · split
      · split
        · split
          · split
            · split
              · simp
              · simp
            · simp
          · simp
        · split <;> simp
      · simp
theorem parseR_h (s : ByteArray) (hs : s.size ≤ 1000000) (hl : (partsB s).length ≤ 1000000) (hI : ∀ p ∈ partsB s, p.size ≤ 1000000) (hne : partsB s ≠ []) :
    PCal Tryd.prog w0 11 [strA s] (.tup [evH ρ (parseR (partsB s)).1, iv (parseR (partsB s)).2]) := by
  have hsp := splitR_h (w0 := w0) (ρ := ρ) s hs
  obtain ⟨L, hL⟩ : ∃ L, partsB s = L := ⟨_, rfl⟩
  rw [hL] at hl hI hne hsp ⊢
  have hrd := formed_h (w0 := w0) (ρ := ρ) L hne hl hI
  have hpr : parseR L = if (formedP L).2 then (if (formedP L).1.ids.length > 4 then (⟨0, 0, 0, 0, []⟩, 6) else if writtenB (formedP L).1 then ((formedP L).1, 0) else (⟨0, 0, 0, 0, []⟩, 5)) else (⟨0, 0, 0, 0, []⟩, 16) := rfl
  have hIl : (formedP L).1.ids.length ≤ 1000000 := by have := formedP_ids L; omega
  obtain ⟨R, hR⟩ : ∃ R, formedP L = R := ⟨_, rfl⟩
  rw [hR] at hrd hpr hIl
  obtain ⟨X, hX⟩ : ∃ X, parseR L = X := ⟨_, rfl⟩
  rw [hX] at hpr ⊢
  refine qf11.pcal (by simp [Tryd.ntmps11]) (ei_pure _) ?_
  refine wpQ.go 400 (by conv => lhs; cbv) ?_
  repeat' (first
    | (refine wpQ.op rfl (Owe.pcall rfl hsp ⟨.v, trivial⟩) ?_; refine wpQ.go 400 (by conv => lhs; cbv) ?_)
    | (refine wpQ.tb (evH ρ) rfl (Owe.pcall rfl hrd ⟨strs_pure _, trivial⟩) (fun v hv => ?_) (fun v hv => ?_) <;> (rw [hv] at hIl hpr) <;> refine wpQ.go 400 (by conv => lhs; cbv) ?_)
    | (refine wpQ.bif rfl (Owe.pcall rfl (writtenR_h (ρ := ρ) _ (by exact hIl)) ⟨evH_pure _, trivial⟩) (fun _ => ?_) (fun _ => ?_) <;> refine wpQ.go 400 (by conv => lhs; cbv) ?_)
    | (refine wpQ.bif rfl (Owe.bit rfl) (fun hb => ?_) (fun hb => ?_) <;> (try simp only [decide_eq_true_eq, decide_eq_false_iff_not, beq_iff_eq, beq_eq_false_iff_ne, bne_iff_ne, bne_eq_false_iff_eq, Bool.not_eq_true, Bool.not_eq_false, Bool.not_eq_true', Bool.not_eq_false', ne_eq] at hb) <;> refine wpQ.go 400 (by conv => lhs; cbv) ?_)
    | (refine wpQ.int rfl (Owe.len rfl) fun m hm => ?_; (try rw [lst_len] at hm); refine wpQ.go 400 (by conv => lhs; cbv) ?_)
    | (refine wpQ.int rfl (Owe.ari64 rfl rfl rfl (by omega) (by omega)) fun _ _ => ?_; refine wpQ.go 400 (by conv => lhs; cbv) ?_)
    | (refine wpQ.int rfl (Owe.conv64 rfl (by omega) (by omega)) fun _ _ => ?_; refine wpQ.go 400 (by conv => lhs; cbv) ?_)
    | (refine wpQ.str rfl (Owe.cat rfl rfl (by assumption)) fun _ _ => ?_; refine wpQ.go 400 (by conv => lhs; cbv) ?_)
    | (refine wpQ.exitC ?_; refine wpQ.go 400 (by conv => lhs; cbv) ?_)
    | (refine wpQ.retC ?_; refine wpQ.go 400 (by conv => lhs; cbv) ?_)
    | (refine wpQ.fin (by conv => lhs; cbv) ?_))
  · have hm : m = (v.ids.length : Int) := hm
    rw [show X = (⟨0, 0, 0, 0, []⟩, 6) by rw [hpr]; simp; omega]; exact frz_tup2 frz_ev0 (.refl _)
  · have hm : m = (v.ids.length : Int) := hm
    rename_i hr
    rw [show X = (v, 0) by rw [hpr]; simp [hr]; omega]; exact Frz.of_eq rfl
  · have hm : m = (v.ids.length : Int) := hm
    rename_i hr
    rw [show X = (⟨0, 0, 0, 0, []⟩, 5) by rw [hpr]; simp [hr]; omega]; exact frz_tup2 frz_ev0 (.refl _)
  · rw [show X = (⟨0, 0, 0, 0, []⟩, 16) by rw [hpr]; simp]; exact frz_tup2 frz_ev0 (.refl _)
end
end Go.Proofs.YtahhaiomdjlckaaDoor
