/-
  The reference of trace: Decimal, words, kind, number: what they return.
-/
import Derived.Test.YtahhaiomdjlckaaDoorX1
namespace Go.Proofs.YtahhaiomdjlckaaDoor
set_option linter.unusedVariables false
set_option linter.unusedSimpArgs false
open Go.RowKit

section
variable {P : Program} {w0 : World} {α : AA} {S : Store}
theorem wrap8 {c : Int} (h1 : 0 ≤ c) (h2 : c ≤ 255) : IntKind.u8.wrap c = c := by
  unfold IntKind.wrap
  simp [IntKind.bits, IntKind.signed]
  omega
theorem Owe.byteS {x : QO} {ex : Bool} {d : Int} (h1 : x.ev α.tm = .sl ex [[.v (.int .u8 d)]]) (h0 : 0 ≤ d) (h2 : d ≤ 255) : Owe P w0 false (.bstr x) α S (.v (.string ⟨#[UInt8.ofNat d.toNat]⟩)) S := by
  refine Owe.bstr (ns := [UInt8.ofNat d.toNat]) (ex := ex) ?_
  rw [h1]
  simp only [List.map_cons, List.map_nil, UInt8.toNat_ofNat']
  rw [show ((d.toNat % 2 ^ 8 : Nat) : Int) = d by omega]
theorem Owe.conv8 {dr : Bool} {x : QO} {k' : IntKind} {a : Int} (h1 : x.ev α.tm = .v (.int k' a)) (hl : 0 ≤ a) (hh : a ≤ 255) : Owe P w0 dr (.conv .u8 x) α S (.v (.int .u8 a)) S := by
  have := Owe.conv (P := P) (w0 := w0) (S := S) (dr := dr) (k := .u8) h1
  rw [wrap8 hl hh] at this
  exact this
theorem q10n {n : Int} (h : n < 0) : n.tdiv 10 = -((-n) / 10) := by
  have := Int.neg_tdiv (a := -n) (b := 10)
  rw [Int.neg_neg] at this
  rw [this, Int.tdiv_eq_ediv_of_nonneg (by omega)]
theorem q10p {n : Int} (h : 0 ≤ n) : n.tdiv 10 = n / 10 := Int.tdiv_eq_ediv_of_nonneg h
theorem m10p {n : Int} (h : 0 ≤ n) : n.tmod 10 = n % 10 := Int.tmod_eq_emod_of_nonneg h
theorem Owe.quo10 {isB : Bool} {x y : QO} {a : Int} (h1 : x.ev α.tm = .v (.int .i64 a)) (h2 : y.ev α.tm = .v (.int .i64 10)) (hl : -9223372036854775808 ≤ a) (hh : a ≤ 9223372036854775807) : Owe P w0 false (.bin .quo isB x y) α S (.v (.int .i64 (a.tdiv 10))) S := by
  have := Owe.quo (P := P) (w0 := w0) (S := S) (isB := isB) h1 h2 (by decide)
  rw [wrapK (by rcases Int.lt_or_le a 0 with h | h; · rw [q10n h]; omega
                · rw [q10p h]; omega) (by rcases Int.lt_or_le a 0 with h | h; · rw [q10n h]; omega
                                          · rw [q10p h]; omega)] at this
  exact this
end
theorem itoa_step_neg {n d : Int} (h : n < 0) (hd : d = n.tdiv 10) (h10 : ¬ n > -10) : itoaB n = itoaB d ++ ⟨#[UInt8.ofNat (48 + d * 10 - n).toNat]⟩ := by
  rw [q10n h] at hd
  obtain ⟨u, hu⟩ : ∃ u : Nat, n = -(u : Int) := ⟨n.natAbs, by omega⟩
  have hd2 : d = -((u / 10 : Nat) : Int) := by subst hu; omega
  have e1 : Lib.itoa n = 45 :: Lib.decDigits u := by rw [hu]; exact Lib.itoa_neg u (by omega)
  have e2 : Lib.itoa d = 45 :: Lib.decDigits (u / 10) := by rw [hd2]; exact Lib.itoa_neg _ (by omega)
  have e3 : Lib.decDigits u = Lib.decDigits (u / 10) ++ [UInt8.ofNat (48 + u % 10)] := by
    rw [Lib.decDigits, dif_neg (by omega)]
  have e4 : (48 + d * 10 - n).toNat = 48 + u % 10 := by omega
  apply ByteArray.ext
  simp only [itoaB, e1, e2, e3, e4, ByteArray.data_append]
  simp
theorem itoa_one_neg {n d : Int} (h : n < 0) (hd : d = n.tdiv 10) (h10 : n > -10) : itoaB n = ⟨#[45]⟩ ++ ⟨#[UInt8.ofNat (48 + d * 10 - n).toNat]⟩ := by
  rw [q10n h] at hd
  obtain ⟨u, hu⟩ : ∃ u : Nat, n = -(u : Int) := ⟨n.natAbs, by omega⟩
  have e1 : Lib.itoa n = 45 :: Lib.decDigits u := by rw [hu]; exact Lib.itoa_neg u (by omega)
  have e3 : Lib.decDigits u = [UInt8.ofNat (48 + u)] := Lib.decDigits_one (by omega)
  have e4 : (48 + d * 10 - n).toNat = 48 + u := by omega
  apply ByteArray.ext
  simp only [itoaB, e1, e3, e4, ByteArray.data_append]
  simp
theorem itoa_step_pos {n d e : Int} (h : 0 ≤ n) (hd : d = n.tdiv 10) (he : e = n.tmod 10) (h10 : ¬ n < 10) : itoaB n = itoaB d ++ ⟨#[UInt8.ofNat (48 + e).toNat]⟩ := by
  rw [q10p h] at hd
  rw [m10p h] at he
  obtain ⟨u, hu⟩ : ∃ u : Nat, n = (u : Int) := ⟨n.toNat, by omega⟩
  have hd2 : d = ((u / 10 : Nat) : Int) := by subst hu; omega
  have e1 : Lib.itoa n = Lib.decDigits u := by rw [hu]; exact Lib.itoa_nonneg u
  have e2 : Lib.itoa d = Lib.decDigits (u / 10) := by rw [hd2]; exact Lib.itoa_nonneg _
  have e3 : Lib.decDigits u = Lib.decDigits (u / 10) ++ [UInt8.ofNat (48 + u % 10)] := by
    rw [Lib.decDigits, dif_neg (by omega)]
  have e4 : (48 + e).toNat = 48 + u % 10 := by omega
  apply ByteArray.ext
  simp only [itoaB, e1, e2, e3, e4, ByteArray.data_append]
  simp
theorem itoa_one_pos {n e : Int} (h : 0 ≤ n) (he : e = n.tmod 10) (h10 : n < 10) : itoaB n = ⟨#[UInt8.ofNat (48 + e).toNat]⟩ := by
  rw [m10p h] at he
  obtain ⟨u, hu⟩ : ∃ u : Nat, n = (u : Int) := ⟨n.toNat, by omega⟩
  have e1 : Lib.itoa n = Lib.decDigits u := by rw [hu]; exact Lib.itoa_nonneg u
  have e3 : Lib.decDigits u = [UInt8.ofNat (48 + u)] := Lib.decDigits_one (by omega)
  have e4 : (48 + e).toNat = 48 + u := by omega
  apply ByteArray.ext
  simp only [itoaB, e1, e3, e4]
def qp24 : {q : QC × List QR // compF Tryd.progTables Tryd.f24 = some q} := ⟨_, by conv => lhs; cbv⟩
theorem qf24 : QFn Tryd.prog 24 qp24.1 Tryd.f24.ntmps := QFn.of Tryd.func24 qp24.2 rfl rfl (by kernel_rfl) Tryd.call24
def qp23 : {q : QC × List QR // compF Tryd.progTables Tryd.f23 = some q} := ⟨_, by conv => lhs; cbv⟩
theorem qf23 : QFn Tryd.prog 23 qp23.1 Tryd.f23.ntmps := QFn.of Tryd.func23 qp23.2 rfl rfl (by kernel_rfl) Tryd.call23
def qp39 : {q : QC × List QR // compF Tryd.progTables Tryd.f39 = some q} := ⟨_, by conv => lhs; cbv⟩
theorem qf39 : QFn Tryd.prog 39 qp39.1 Tryd.f39.ntmps := QFn.of Tryd.func39 qp39.2 rfl rfl (by kernel_rfl) Tryd.call39
def qp40 : {q : QC × List QR // compF Tryd.progTables Tryd.f40 = some q} := ⟨_, by conv => lhs; cbv⟩
theorem qf40 : QFn Tryd.prog 40 qp40.1 Tryd.f40.ntmps := QFn.of Tryd.func40 qp40.2 rfl rfl (by kernel_rfl) Tryd.call40
section
variable {w0 : World} {ρ : Hd}
set_option maxRecDepth 100000
theorem decimal_k : ∀ (k : Nat) (n : Int), n.natAbs < k → -9223372036854775808 ≤ n → n ≤ 9223372036854775807 → PCal Tryd.prog w0 24 [iv n] (strA (itoaB n)) := by
  intro k
  induction k with
  | zero => intro n hk; omega
  | succ k ih =>
    intro n hk h0 h1
    have q1 := @q10n n
    have q2 := @q10p n
    have q3 := @m10p n
    have z1 : ByteArray.size { data := { toList := [45] } } = 1 := rfl
    refine qf24.pcal (by simp [Tryd.ntmps24]) (.v) ?_
    refine wpQ.go 400 (by conv => lhs; cbv) ?_
    repeat' (first
      | (refine wpQ.int rfl (Owe.quo10 rfl rfl h0 h1) fun _ _ => ?_; refine wpQ.go 400 (by conv => lhs; cbv) ?_)
      | (refine wpQ.int rfl (Owe.rem rfl rfl (by decide)) fun _ _ => ?_; refine wpQ.go 400 (by conv => lhs; cbv) ?_)
      | (refine wpQ.int rfl (Owe.conv8 rfl (by omega) (by omega)) fun _ _ => ?_; refine wpQ.go 400 (by conv => lhs; cbv) ?_)
      | (refine wpQ.str rfl (Owe.byteS rfl (by omega) (by omega)) fun d hd => ?_; have hz : d.size = 1 := (by rw [hd]; rfl); refine wpQ.go 400 (by conv => lhs; cbv) ?_)
      | (refine wpQ.str rfl (Owe.pcall rfl (ih _ (by omega) (by omega) (by omega)) ⟨.v, trivial⟩) fun d hd => ?_; have hz : d.size ≤ 21 := (by rw [hd]; exact itoaB_size _ (by omega) (by omega)); refine wpQ.go 400 (by conv => lhs; cbv) ?_)
      | (refine wpQ.str rfl (Owe.cat rfl rfl (by omega)) fun d hd => ?_; refine wpQ.go 400 (by conv => lhs; cbv) ?_)
      | (refine wpQ.bif rfl (Owe.bit rfl) (fun hb => ?_) (fun hb => ?_) <;> (try simp only [decide_eq_true_eq, decide_eq_false_iff_not, beq_iff_eq, beq_eq_false_iff_ne, bne_iff_ne, bne_eq_false_iff_eq, Bool.not_eq_true, Bool.not_eq_false, Bool.not_eq_true', Bool.not_eq_false', ne_eq] at hb) <;> refine wpQ.go 400 (by conv => lhs; cbv) ?_)
      | (refine wpQ.int rfl (Owe.len rfl) fun m hm => ?_; (try rw [lst_len] at hm); refine wpQ.go 400 (by conv => lhs; cbv) ?_)
      | (refine wpQ.int rfl (Owe.ari64 rfl rfl rfl (by omega) (by omega)) fun _ _ => ?_; refine wpQ.go 400 (by conv => lhs; cbv) ?_)
      | (refine wpQ.int rfl (Owe.conv64 rfl (by omega) (by omega)) fun _ _ => ?_; refine wpQ.go 400 (by conv => lhs; cbv) ?_)
      | (refine wpQ.str rfl (Owe.cat rfl rfl (by assumption)) fun _ _ => ?_; refine wpQ.go 400 (by conv => lhs; cbv) ?_)
      | (refine wpQ.exitC ?_; refine wpQ.go 400 (by conv => lhs; cbv) ?_)
      | (refine wpQ.retC ?_; refine wpQ.go 400 (by conv => lhs; cbv) ?_)
      | (refine wpQ.fin (by conv => lhs; cbv) ?_))
    · rename_i d8 hd8 x7 hx7 x5 hx5 x3 hx3 x1 hx1 d0 hd0
      refine Frz.of_eq ?_
      rw [itoa_one_neg (by assumption) hd8 hb, hd, hd0, hx1, hx3, hx5, hx7]
      rfl
    · rename_i d8 hd8 x7 hx7 x5 hx5 x3 hx3 x1 hx1 d0 hd0 hz0 e2 he2 e3 he3
      refine Frz.of_eq ?_
      rw [itoa_step_neg (by assumption) he2 hb, hd, he3, hd0, hx1, hx3, hx5, hx7, hd8, ← he2]
      rfl
    · rename_i x5 hx5 x3 hx3 x1 hx1
      refine Frz.of_eq ?_
      rw [itoa_one_pos (by omega) hx5 hb, hd, hx1, hx3]
      rfl
    · rename_i x5 hx5 x3 hx3 x1 hx1 d0 hd0 hz0 e2 he2 e3 he3
      refine Frz.of_eq ?_
      rw [itoa_step_pos (by omega) he2 hx5 hb, hd, he3, hd0, hx1, hx3]
      rfl
theorem decimal_h {n : Int} (h0 : -9223372036854775808 ≤ n) (h1 : n ≤ 9223372036854775807) : PCal Tryd.prog w0 24 [iv n] (strA (itoaB n)) := decimal_k _ n (Nat.lt_succ_self _) h0 h1
end
end Go.Proofs.YtahhaiomdjlckaaDoor
