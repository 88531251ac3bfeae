/-
  The walk of Vars, in the reference of layer 15; of numbered, in the law.
-/
import Derived.Test.YtahhaiomdjlckaaW41
namespace Go.Proofs.Ytahhaiomdjlckaa
set_option linter.unusedVariables false
set_option linter.unusedSimpArgs false
open Go.RowKit

def tsA : List At → List Tm
  | [] => []
  | a :: l => a.ts ++ tsA l
def tsG : List Gl → List Tm
  | [] => []
  | a :: l => a.ts ++ tsG l
theorem tsA_app : ∀ a b : List At, tsA (a ++ b) = tsA a ++ tsA b
  | [], b => rfl
  | x :: a, b => by simp only [List.cons_append, tsA, tsA_app a b, List.append_assoc]
theorem tsG_app : ∀ a b : List Gl, tsG (a ++ b) = tsG a ++ tsG b
  | [], b => rfl
  | x :: a, b => by simp only [List.cons_append, tsG, tsG_app a b, List.append_assoc]
theorem tsA_take {l : List At} {k : Nat} {x : At} (h : l[k]? = some x) : tsA (l.take (k + 1)) = tsA (l.take k) ++ x.ts := by
  rw [List.take_add_one, h, tsA_app]
  simp [tsA]
theorem tsG_take {l : List Gl} {k : Nat} {x : Gl} (h : l[k]? = some x) : tsG (l.take (k + 1)) = tsG (l.take k) ++ x.ts := by
  rw [List.take_add_one, h, tsG_app]
  simp [tsG]
theorem szL_tsA : ∀ l : List At, szL (tsA l) ≤ szA l
  | [] => by simp [tsA, szL]
  | a :: l => by simp only [tsA, szL_app, szA]; have := szL_tsA l; omega
theorem szL_tsG : ∀ l : List Gl, szL (tsG l) ≤ szG l
  | [] => by simp [tsG, szL]
  | a :: l => by simp only [tsG, szL_app, szG]; have := szL_tsG l; omega
theorem szA_takeLe : ∀ (l : List At) (k : Nat), szA (l.take k) ≤ szA l
  | [], k => by simp [szA]
  | t :: ts, 0 => by simp [szA]
  | t :: ts, k + 1 => by simp only [List.take_succ_cons, szA]; have := szA_takeLe ts k; omega
theorem szG_takeLe : ∀ (l : List Gl) (k : Nat), szG (l.take k) ≤ szG l
  | [], k => by simp [szG]
  | t :: ts, 0 => by simp [szG]
  | t :: ts, k + 1 => by simp only [List.take_succ_cons, szG]; have := szG_takeLe ts k; omega
theorem tsA_len (l : List At) (k : Nat) : (tsA (l.take k)).length ≤ szA l := Nat.le_trans (len_szL _) (Nat.le_trans (szL_tsA _) (szA_takeLe l k))
theorem tsG_len (l : List Gl) (k : Nat) : (tsG (l.take k)).length ≤ szG l := Nat.le_trans (len_szL _) (Nat.le_trans (szL_tsG _) (szG_takeLe l k))
theorem len_szA : ∀ l : List At, l.length ≤ szA l
  | [] => Nat.le_refl _
  | a :: l => by simp only [List.length_cons, szA]; have := len_szA l; omega
theorem len_szG : ∀ l : List Gl, l.length ≤ szG l
  | [] => Nat.le_refl _
  | a :: l => by simp only [List.length_cons, szG]; have := len_szG l; omega
/-- the terms of a rule; its variables. -/
def tsR (r : Rl) : List Tm := tsA (r.kp ++ r.rm) ++ tsG (r.gd ++ r.bd)
def vsR (r : Rl) : List Int := vsL [] (tsR r)
theorem cells_six {w : World} {b : Nat} {t : TypeId} {x0 x1 x2 x3 x4 x5 : Value} (h : w.heap[b]? = some (.cells #[x0, x1, x2, x3, x4, x5] t (0, 0))) : w.cell? ⟨b, 0, none⟩ = some x0 ∧ w.cell? ⟨b, 1, none⟩ = some x1 ∧ w.cell? ⟨b, 2, none⟩ = some x2 ∧ w.cell? ⟨b, 3, none⟩ = some x3 ∧ w.cell? ⟨b, 4, none⟩ = some x4 ∧ w.cell? ⟨b, 5, none⟩ = some x5 :=
  ⟨by rw [cell_of_row _ _ 0 _ _ _ h]; rfl, by rw [cell_of_row _ _ 1 _ _ _ h]; rfl, by rw [cell_of_row _ _ 2 _ _ _ h]; rfl, by rw [cell_of_row _ _ 3 _ _ _ h]; rfl, by rw [cell_of_row _ _ 4 _ _ _ h]; rfl, by rw [cell_of_row _ _ 5 _ _ _ h]; rfl⟩

set_option maxRecDepth 100000 in
set_option maxHeartbeats 2000000 in
theorem rvars_any (r : Rl) (kA rA gA bA : Option Addr) (kc rc gc bc : Nat) (w : World) (hk : SlAt AtAt 2 w kA r.kp) (hr : SlAt AtAt 2 w rA r.rm) (hg : SlAt GlAt 3 w gA r.gd) (hbd : SlAt GlAt 3 w bA r.bd) (hsz : szA (r.kp ++ r.rm) + szG (r.gd ++ r.bd) ≤ 100000) :
    Calls Try.prog 32 #[rlv r kA rA gA bA kc rc gc bc] w fun e w' => ∃ v W, e = .returned v ∧ Owned RI 3 1 W w' v (vsR r) ∧ Below w.heap.size w w' := by
  obtain ⟨i0, hi, hz0, hz1, hz2⟩ := info_parts Try.infoTerm
  obtain ⟨box, hbox⟩ : ∃ o, o = Obj.cells #[.string r.nm, .slice kA r.kp.length kc, .slice rA r.rm.length rc, .slice gA r.gd.length gc, .slice bA r.bd.length bc, .int .i64 r.vs] 25 (0, 0) := ⟨_, rfl⟩
  have hw1 : Below w.heap.size w (w.alloc box) := (Below.refl _ _).alloc (Nat.le_refl _) _
  have hl1 := len_szA (r.kp ++ r.rm)
  have hl2 := len_szG (r.gd ++ r.bd)
  rw [List.length_append] at hl1 hl2
  have Hheads := Lib.hid (fun W hW => hds_any r kA rA gA bA kc rc gc bc w W hk hr hW (by omega) (by omega))
  have Hgoals := Lib.hid (fun W hW => gls_any r kA rA gA bA kc rc gc bc w W hg hbd hW (by omega) (by omega))
  have HB1 := Lib.hid hw1
  have Hb1 := Lib.hid (heap_alloc_new w box)
  subst hbox
  have Hi := Lib.hid hi
  have Hz0 := Lib.hid hz0
  have Hz1 := Lib.hid hz1
  have Hz2 := Lib.hid hz2
  have Hsz := Lib.hid hsz
  clear hi hz0 hz1 hz2 hk hr hg hbd hw1 hsz hl1 hl2
  unfold rlv at Hheads Hgoals ⊢
  go_enter Try.func32, Try.ntmps32
  go_wp2_with fail
  refine (Hheads.out _ HB1.out).mono ?_
  rintro e w2 ⟨hv, rfl, hown2, hb2⟩
  obtain ⟨hA, hc, rfl⟩ := hown2.shape
  obtain ⟨hl, hhl⟩ : ∃ l, l = r.kp ++ r.rm := ⟨_, rfl⟩
  obtain ⟨gl, hgl⟩ : ∃ l, l = r.gd ++ r.bd := ⟨_, rfl⟩
  rw [← hhl] at hown2 ⊢
  have Hsz' := Hsz.out
  rw [← hhl, ← hgl] at Hsz'
  have hhlen := len_szA hl
  have Hhl := Lib.hid hhl
  have Hgl := Lib.hid hgl
  clear hhl hgl
  have HB2 := Lib.hid (HB1.out.trans (hb2.mono HB1.out.size))
  have Hb2 := Lib.hid ((hb2.block _ (lt_of_block Hb1.out)).trans Hb1.out)
  have HH2 := Lib.hid hown2
  clear hown2 hb2
  go_wp2
  go_loopw [3, 5] (fun o i wr => ∃ k : Nat, k ≤ hl.length ∧ i = .int .i64 k ∧ Hid (Owned (fun _ => RT w) 69 4 w wr o (tsA (hl.take k))) ∧ Hid (Owned (fun _ => RA w) 52 2 (w.alloc (Obj.cells #[.string r.nm, .slice kA r.kp.length kc, .slice rA r.rm.length rc, .slice gA r.gd.length gc, .slice bA r.bd.length bc, .int .i64 r.vs] 25 (0, 0))) wr (.slice hA hl.length hc) hl) ∧ Hid (wr.heap[w.heap.size]? = some (Obj.cells #[.string r.nm, .slice kA r.kp.length kc, .slice rA r.rm.length rc, .slice gA r.gd.length gc, .slice bA r.bd.length bc, .int .i64 r.vs] 25 (0, 0))) ∧ Hid (Below w.heap.size w wr)) (fun _ i _ => hl.length - (intOf i).toNat)
  case atStart => exact ⟨0, Nat.zero_le _, rfl, Lib.hid (by rw [List.take_zero, tsA]; exact Owned.nil), HH2, Hb2, HB2⟩
  case round =>
    obtain ⟨k, hk, rfl, HOr, HHr, Hbr, HBr⟩ := hrel
    by_cases hlt : k < hl.length
    · obtain ⟨x, hx⟩ : ∃ x, hl[k]? = some x := ⟨_, List.getElem?_eq_getElem hlt⟩
      obtain ⟨g, o, cs, rfl, hgl', ⟨B, d, rfl, hB, hns⟩, hcell⟩ := HHr.out.at_ (by decide) hx
      have p1 := hcell 1 (by decide)
      simp only [List.getElem?_cons_succ, List.getElem?_cons_zero] at p1
      obtain ⟨css, hsrc⟩ := tms_src' (w1 := w) hB HBr.out
      have hlen1 := tsA_len hl (k + 1)
      rw [tsA_take hx, List.length_append] at hlen1
      have Hx := Lib.hid hx
      have Hsrc := Lib.hid hsrc
      have C1 := Lib.hid (show (tsA (hl.take k)).length + x.ts.length ≤ maxLen from by unfold maxLen; omega)
      have C2 := Lib.hid (show ((tsA (hl.take k)).length + x.ts.length) * 56 ≤ 140737488355328 from by omega)
      clear hx hB hcell hsrc hlen1
      go_wp2_with (at_builtin; refine wpList_append_sl rfl _ _ 50 rfl i0 _ 56 Try.underlying50 Hi.out Hz0.out Hz1.out Hz2.out rfl (by decide) rfl HOr.out rfl Hsrc.out C1.out C2.out HBr.out ?_)
      intro v4 w4 hown4 hb4 hg4
      have HH4 := Lib.hid (HOr.out.beside HHr.out hg4 (by decide))
      have Hb4 := Lib.hid (HOr.out.other hg4 Hbr.out (by decide))
      rw [← tsA_take Hx.out] at hown4
      have HO4 := Lib.hid hown4
      have HB4 := Lib.hid hb4
      clear hown4 hb4 hg4 p1
      go_wp2
      go_roundw
      case rel => exact ⟨k + 1, by omega, by go_num, HO4, HH4, Hb4, HB4⟩
      case measure => simp [intOf]; omega
    · obtain rfl : k = hl.length := by omega
      rw [List.take_length] at HOr
      obtain ⟨wo, hwo⟩ : ∃ W, W = wr := ⟨_, rfl⟩
      subst hwo
      have b5 := Hbr.out
      have l5 := lt_of_block b5
      obtain ⟨e0, e1, e2, e3, e4, e5⟩ := cells_six b5
      go_wp2_with fail
      refine (Hgoals.out _ HBr.out).mono ?_
      rintro e w5 ⟨gv, rfl, hown5, hb5⟩
      obtain ⟨gA', gc', rfl⟩ := hown5.shape
      rw [← Hgl.out] at hown5 ⊢
      have hglen := len_szG gl
      have HB5 := Lib.hid (HBr.out.trans (hb5.mono HBr.out.size))
      have HO5 := Lib.hid (HOr.out.below hb5)
      have HG5 := Lib.hid hown5
      clear hown5 hb5 b5 e0 e1 e2 e3 e4 e5
      go_wp2
      go_loopw [3, 7] (fun o i wr => ∃ k : Nat, k ≤ gl.length ∧ i = .int .i64 k ∧ Hid (Owned (fun _ => RT w) 69 4 w wr o (tsA hl ++ tsG (gl.take k))) ∧ Hid (Owned (fun _ => RG w) 65 3 wo wr (.slice gA' gl.length gc') gl) ∧ Hid (Below w.heap.size w wr)) (fun _ i _ => gl.length - (intOf i).toNat)
      case atStart => exact ⟨0, Nat.zero_le _, rfl, Lib.hid (by rw [List.take_zero, tsG, List.append_nil]; exact HO5.out), HG5, HB5⟩
      case round =>
        obtain ⟨k, hk, rfl, HOr2, HGr, HBr2⟩ := hrel
        by_cases hlt : k < gl.length
        · obtain ⟨x, hx⟩ : ∃ x, gl[k]? = some x := ⟨_, List.getElem?_eq_getElem hlt⟩
          obtain ⟨g, o, cs, rfl, hgl', ⟨B, d, rfl, hB, hns⟩, hcell⟩ := HGr.out.at_ (by decide) hx
          have p1 := hcell 2 (by decide)
          simp only [List.getElem?_cons_succ, List.getElem?_cons_zero] at p1
          obtain ⟨css, hsrc⟩ := tms_src' (w1 := w) hB HBr2.out
          have hlen1 := tsG_len gl (k + 1)
          have hlen2 := tsA_len hl hl.length
          rw [List.take_length] at hlen2
          rw [tsG_take hx, List.length_append] at hlen1
          have hlen3 : (tsA hl ++ tsG (gl.take k)).length = (tsA hl).length + (tsG (gl.take k)).length := List.length_append
          have Hx := Lib.hid hx
          have Hsrc := Lib.hid hsrc
          have C1 := Lib.hid (show (tsA hl ++ tsG (gl.take k)).length + x.ts.length ≤ maxLen from by unfold maxLen; omega)
          have C2 := Lib.hid (show ((tsA hl ++ tsG (gl.take k)).length + x.ts.length) * 56 ≤ 140737488355328 from by omega)
          clear hx hB hcell hsrc hlen1 hlen2 hlen3
          go_wp2_with (at_builtin; refine wpList_append_sl rfl _ _ 50 rfl i0 _ 56 Try.underlying50 Hi.out Hz0.out Hz1.out Hz2.out rfl (by decide) rfl HOr2.out rfl Hsrc.out C1.out C2.out HBr2.out ?_)
          intro v4 w4 hown4 hb4 hg4
          have HG4 := Lib.hid (HOr2.out.beside HGr.out hg4 (by decide))
          have hown4 := (show Owned (fun _ => RT w) 69 4 w w4 v4 (tsA hl ++ tsG (gl.take (k + 1))) from by rw [tsG_take Hx.out]; simpa only [List.append_assoc] using hown4)
          have HO4 := Lib.hid hown4
          have HB4 := Lib.hid hb4
          clear hown4 hb4 hg4 p1
          go_wp2
          go_roundw
          case rel => exact ⟨k + 1, by omega, by go_num, HO4, HG4, HB4⟩
          case measure => simp [intOf]; omega
        · obtain rfl : k = gl.length := by omega
          have hO6 := HOr2.out
          rw [List.take_length] at hO6
          have hfin : szL (tsA hl ++ tsG gl) ≤ 100000 := by
            rw [szL_app]
            have := szL_tsA hl
            have := szL_tsG gl
            omega
          have hts : tsA hl ++ tsG gl = tsR r := by unfold tsR; rw [Hhl.out, Hgl.out]
          rw [hts] at hO6 hfin
          obtain ⟨A6, c6, hv6, hs6⟩ := hO6.form (RAt := TmAt) (by decide) (fun b o cs x hlt hc hR => RT.at_ HBr2.out b o cs x hlt hc hR)
          subst hv6
          have Hfin := Lib.hid hfin
          have HS6 := Lib.hid hs6
          clear hO6 hs6 hfin hts
          go_wp2_with fail
          refine (varsOf_any _ _ _ _ HS6.out Hfin.out).mono ?_
          rintro e w7 ⟨v7, rfl, hown7, hb7⟩
          have HO7 := Lib.hid hown7
          have HB7 := Lib.hid (HBr2.out.trans (hb7.mono HBr2.out.size))
          clear hown7 hb7
          go_wp2
          go_ret
          exact ⟨_, _, rfl, HO7.out, HB7.out⟩
end Go.Proofs.Ytahhaiomdjlckaa
