/-
  The walks of heads and goals, in the reference of layer 15.
-/
import Derived.Test.YtahhaiomdjlckaaW40
import Derived.Test.YtahhaiomdjlckaaW21
import Derived.Deep.RegionHeld3
import Derived.Deep.DrawnRows
namespace Go.Proofs.Ytahhaiomdjlckaa
set_option linter.unusedVariables false
set_option linter.unusedSimpArgs false
open Go.RowKit
attribute [local go_sem ↓] Go.wp_at_zero Go.wp_at_succ

theorem Srcs.re {α : Type} {R : World → List Value → α → Prop} {sz : Nat} {w0 w1 w : World} {A : Option Addr} {l : List α} {css : List (List Value)} (h : Srcs R sz w0 w A l css) : Srcs (fun _ => R w0) sz w1 w A l css := ⟨h.len, h.sz, h.els, h.one, h.src⟩
theorem ats_src' {w0 w w1 : World} {A : Option Addr} {l : List At} (h : SlAt AtAt 2 w0 A l) (hb : Below w0.heap.size w0 w) : ∃ css, Srcs (fun _ => RA w0) 2 w1 w A l css := by obtain ⟨css, h⟩ := ats_src h hb; exact ⟨css, h.re⟩
theorem gls_src' {w0 w w1 : World} {A : Option Addr} {l : List Gl} (h : SlAt GlAt 3 w0 A l) (hb : Below w0.heap.size w0 w) : ∃ css, Srcs (fun _ => RG w0) 3 w1 w A l css := by obtain ⟨css, h⟩ := gls_src h hb; exact ⟨css, h.re⟩
theorem tms_src' {w0 w w1 : World} {A : Option Addr} {l : List Tm} (h : TmsAt w0 A l) (hb : Below w0.heap.size w0 w) : ∃ css, Srcs (fun _ => RT w0) 4 w1 w A l css := by obtain ⟨css, h⟩ := tms_src h hb; exact ⟨css, h.re⟩
theorem Owned.beside {α β : Type} {R : World → List Value → α → Prop} {R' : World → List Value → β → Prop} {e e' : TypeId} {sz sz' : Nat} {w0 w0' w w' : World} {v v' : Value} {l : List α} {l' : List β}
    (h : Owned R e sz w0 w v l) (h' : Owned R' e' sz' w0' w v' l') (hg : w.grownBy w' v.ownBlock) (ht : e' ≠ e) : Owned R' e' sz' w0' w' v' l' := by
  obtain ⟨css, h1, h2, h3, h4⟩ := h'
  refine ⟨css, h1, h2, h3, World.ownsRow.kept h4 hg ?_⟩
  rcases id h4.2 with ⟨rfl, _⟩ | ⟨g, cap, cur, rfl, _, hh, _⟩
  · exact .inl rfl
  · refine .inr fun hv => ?_
    obtain ⟨_, _, _, _, k4⟩ := h
    rcases id k4.2 with ⟨rfl, _⟩ | ⟨g2, cap2, cur2, rfl, _, hh2, _⟩
    · cases hv
    · simp only [Value.ownBlock, Option.some.injEq] at hv
      subst hv
      rw [hh] at hh2
      simp only [Option.some.injEq, Obj.cells.injEq] at hh2
      exact ht hh2.2.1
theorem Try.infoGoal : (Try.prog.info? 65).map (fun i => (i.zero, i.size, i.bytes)) = some (some (.agg #[.int .i64 0, .string ⟨#[]⟩, .slice none 0 0]), 3, 48) := by kernel_rfl
theorem Try.infoTerm : (Try.prog.info? 69).map (fun i => (i.zero, i.size, i.bytes)) = some (some (.agg #[.int .i64 0, .int .i64 0, .string ⟨#[]⟩, .slice none 0 0]), 4, 56) := by kernel_rfl

set_option maxRecDepth 100000 in
set_option maxHeartbeats 400000 in
theorem hds_any (r : Rl) (kA rA gA bA : Option Addr) (kc rc gc bc : Nat) (w0 w : World) (hk : SlAt AtAt 2 w0 kA r.kp) (hr : SlAt AtAt 2 w0 rA r.rm) (hB : Below w0.heap.size w0 w) (h1 : r.kp.length ≤ 1000000) (h2 : r.rm.length ≤ 1000000) :
    Calls Try.prog 47 #[rlv r kA rA gA bA kc rc gc bc] w fun e w' => ∃ v, e = .returned v ∧ Owned (fun _ => RA w0) 52 2 w w' v (r.kp ++ r.rm) ∧ Below w.heap.size w w' := by
  obtain ⟨i0, hi, hz0, hz1, hz2⟩ := info_parts Try.infoAtom
  unfold rlv
  obtain ⟨box, hbox⟩ : ∃ o, o = Obj.cells #[.string r.nm, .slice kA r.kp.length kc, .slice rA r.rm.length rc, .slice gA r.gd.length gc, .slice bA r.bd.length bc, .int .i64 r.vs] 25 (0, 0) := ⟨_, rfl⟩
  have hw0 : Below w.heap.size w ((w.alloc box).alloc (.cells #[] 52)).drew := ((((Below.refl _ _).alloc (Nat.le_refl _) _)).alloc (by simp) _).drew
  have b0 : ((w.alloc box).alloc (.cells #[] 52)).drew.heap[w.heap.size]? = some box := by
    have hd : Below (w.alloc box).heap.size (w.alloc box) ((w.alloc box).alloc (.cells #[] 52)).drew := ((Below.refl _ _).alloc (Nat.le_refl _) _).drew
    exact (hd.block _ (by simp)).trans (heap_alloc_new w box)
  have own0 : Owned (fun _ => RA w0) 52 2 w ((w.alloc box).alloc (.cells #[] 52)).drew (.slice (some ⟨w.heap.size + 1, 0, none⟩) 0 0) [] := by
    have h := Owned.made (R := fun _ => RA w0) (sz := 2) (e := 52) (w0 := w) (w := w.alloc box) (cur := #[]) (cap := 0) (by simp) (by decide) rfl
    have e : (w.alloc box).heap.size = w.heap.size + 1 := by simp
    rw [e] at h
    exact h.below ((Below.refl _ _).drew)
  obtain ⟨css, hs1⟩ := ats_src' (w1 := w) hk (hB.trans (hw0.mono hB.size))
  have HSrc2 := Lib.hid (fun W (hW : Below w.heap.size w W) => ats_src' (w1 := w) (w := W) hr (hB.trans (hW.mono hB.size)))
  subst hbox
  have Hi := Lib.hid hi
  have Hz0 := Lib.hid hz0
  have Hz1 := Lib.hid hz1
  have Hz2 := Lib.hid hz2
  have Hw0 := Lib.hid hw0
  have HB0 := Lib.hid b0
  have Own0 := Lib.hid own0
  have Hs1 := Lib.hid hs1
  have C1 := Lib.hid (show ([] : List At).length + r.kp.length ≤ maxLen from by simp; unfold maxLen; omega)
  have C2 := Lib.hid (show (([] : List At).length + r.kp.length) * 40 ≤ 140737488355328 from by simp; omega)
  have C3 := Lib.hid (show (([] : List At) ++ r.kp).length + r.rm.length ≤ maxLen from by simp; unfold maxLen; omega)
  have C4 := Lib.hid (show ((([] : List At) ++ r.kp).length + r.rm.length) * 40 ≤ 140737488355328 from by simp; omega)
  clear hi hz0 hz1 hz2 hk hr hB hw0 hs1 own0 b0
  go_enter Try.func47, Try.ntmps47
  go_wp2_with fail
  go_region_held3 (fun w' => w'.cell? ⟨w.heap.size, 1, none⟩ = some (.slice kA r.kp.length kc) ∧ w'.cell? ⟨w.heap.size, 2, none⟩ = some (.slice rA r.rm.length rc)) (first | exact ⟨s1, s2⟩ | go_keep) ((first
    | (obtain ⟨css', hs2⟩ := HSrc2.out w2 Hb2.out; have hO2 := Hown2.out; refine step_append_sl (by rfl) _ _ 22 (by rfl) i0 _ 40 Try.underlying22 Hi.out Hz0.out Hz1.out Hz2.out rfl (by decide) (by rfl) hO2 (by rfl) hs2 C3.out C4.out Hb2.out ?_; clear hs2 hO2; intro v3 w3 hown3 hb3 hg3; have b3 := Hown2.out.other hg3 Hb0.out (by decide); have s1 : w3.cell? ⟨w.heap.size, 1, none⟩ = some (.slice kA r.kp.length kc) := (by rw [cell_of_row _ _ 1 _ _ _ b3]; rfl); have s2 : w3.cell? ⟨w.heap.size, 2, none⟩ = some (.slice rA r.rm.length rc) := (by rw [cell_of_row _ _ 2 _ _ _ b3]; rfl); have Hown3 := Lib.hid hown3; have Hb3 := Lib.hid hb3; clear hown3 hb3 hg3 b3)
    | (refine step_append_sl (by rfl) _ _ 22 (by rfl) i0 _ 40 Try.underlying22 Hi.out Hz0.out Hz1.out Hz2.out rfl (by decide) (by rfl) Own0.out (by rfl) Hs1.out C1.out C2.out Hw0.out ?_; intro v2 w2 hown2 hb2 hg2; have Hb0 := Lib.hid (Own0.out.other hg2 HB0.out (by decide)); have s1 : w2.cell? ⟨w.heap.size, 1, none⟩ = some (.slice kA r.kp.length kc) := (by rw [cell_of_row _ _ 1 _ _ _ Hb0.out]; rfl); have s2 : w2.cell? ⟨w.heap.size, 2, none⟩ = some (.slice rA r.rm.length rc) := (by rw [cell_of_row _ _ 2 _ _ _ Hb0.out]; rfl); have Hown2 := Lib.hid hown2; have Hb2 := Lib.hid hb2; clear hown2 hb2 hg2)))
  go_wp2
  go_ret
  exact ⟨_, rfl, Hown3.out, Hb3.out⟩

set_option maxRecDepth 100000 in
set_option maxHeartbeats 400000 in
theorem gls_any (r : Rl) (kA rA gA bA : Option Addr) (kc rc gc bc : Nat) (w0 w : World) (hk : SlAt GlAt 3 w0 gA r.gd) (hr : SlAt GlAt 3 w0 bA r.bd) (hB : Below w0.heap.size w0 w) (h1 : r.gd.length ≤ 1000000) (h2 : r.bd.length ≤ 1000000) :
    Calls Try.prog 48 #[rlv r kA rA gA bA kc rc gc bc] w fun e w' => ∃ v, e = .returned v ∧ Owned (fun _ => RG w0) 65 3 w w' v (r.gd ++ r.bd) ∧ Below w.heap.size w w' := by
  obtain ⟨i0, hi, hz0, hz1, hz2⟩ := info_parts Try.infoGoal
  unfold rlv
  obtain ⟨box, hbox⟩ : ∃ o, o = Obj.cells #[.string r.nm, .slice kA r.kp.length kc, .slice rA r.rm.length rc, .slice gA r.gd.length gc, .slice bA r.bd.length bc, .int .i64 r.vs] 25 (0, 0) := ⟨_, rfl⟩
  have hw0 : Below w.heap.size w ((w.alloc box).alloc (.cells #[] 65)).drew := ((((Below.refl _ _).alloc (Nat.le_refl _) _)).alloc (by simp) _).drew
  have b0 : ((w.alloc box).alloc (.cells #[] 65)).drew.heap[w.heap.size]? = some box := by
    have hd : Below (w.alloc box).heap.size (w.alloc box) ((w.alloc box).alloc (.cells #[] 65)).drew := ((Below.refl _ _).alloc (Nat.le_refl _) _).drew
    exact (hd.block _ (by simp)).trans (heap_alloc_new w box)
  have own0 : Owned (fun _ => RG w0) 65 3 w ((w.alloc box).alloc (.cells #[] 65)).drew (.slice (some ⟨w.heap.size + 1, 0, none⟩) 0 0) [] := by
    have h := Owned.made (R := fun _ => RG w0) (sz := 3) (e := 65) (w0 := w) (w := w.alloc box) (cur := #[]) (cap := 0) (by simp) (by decide) rfl
    have e : (w.alloc box).heap.size = w.heap.size + 1 := by simp
    rw [e] at h
    exact h.below ((Below.refl _ _).drew)
  obtain ⟨css, hs1⟩ := gls_src' (w1 := w) hk (hB.trans (hw0.mono hB.size))
  have HSrc2 := Lib.hid (fun W (hW : Below w.heap.size w W) => gls_src' (w1 := w) (w := W) hr (hB.trans (hW.mono hB.size)))
  subst hbox
  have Hi := Lib.hid hi
  have Hz0 := Lib.hid hz0
  have Hz1 := Lib.hid hz1
  have Hz2 := Lib.hid hz2
  have Hw0 := Lib.hid hw0
  have HB0 := Lib.hid b0
  have Own0 := Lib.hid own0
  have Hs1 := Lib.hid hs1
  have C1 := Lib.hid (show ([] : List Gl).length + r.gd.length ≤ maxLen from by simp; unfold maxLen; omega)
  have C2 := Lib.hid (show (([] : List Gl).length + r.gd.length) * 48 ≤ 140737488355328 from by simp; omega)
  have C3 := Lib.hid (show (([] : List Gl) ++ r.gd).length + r.bd.length ≤ maxLen from by simp; unfold maxLen; omega)
  have C4 := Lib.hid (show ((([] : List Gl) ++ r.gd).length + r.bd.length) * 48 ≤ 140737488355328 from by simp; omega)
  clear hi hz0 hz1 hz2 hk hr hB hw0 hs1 own0 b0
  go_enter Try.func48, Try.ntmps48
  go_wp2_with fail
  go_region_held3 (fun w' => w'.cell? ⟨w.heap.size, 3, none⟩ = some (.slice gA r.gd.length gc) ∧ w'.cell? ⟨w.heap.size, 4, none⟩ = some (.slice bA r.bd.length bc)) (first | exact ⟨s1, s2⟩ | go_keep) ((first
    | (obtain ⟨css', hs2⟩ := HSrc2.out w2 Hb2.out; have hO2 := Hown2.out; refine step_append_sl (by rfl) _ _ 23 (by rfl) i0 _ 48 Try.underlying23 Hi.out Hz0.out Hz1.out Hz2.out rfl (by decide) (by rfl) hO2 (by rfl) hs2 C3.out C4.out Hb2.out ?_; clear hs2 hO2; intro v3 w3 hown3 hb3 hg3; have b3 := Hown2.out.other hg3 Hb0.out (by decide); have s1 : w3.cell? ⟨w.heap.size, 3, none⟩ = some (.slice gA r.gd.length gc) := (by rw [cell_of_row _ _ 3 _ _ _ b3]; rfl); have s2 : w3.cell? ⟨w.heap.size, 4, none⟩ = some (.slice bA r.bd.length bc) := (by rw [cell_of_row _ _ 4 _ _ _ b3]; rfl); have Hown3 := Lib.hid hown3; have Hb3 := Lib.hid hb3; clear hown3 hb3 hg3 b3)
    | (refine step_append_sl (by rfl) _ _ 23 (by rfl) i0 _ 48 Try.underlying23 Hi.out Hz0.out Hz1.out Hz2.out rfl (by decide) (by rfl) Own0.out (by rfl) Hs1.out C1.out C2.out Hw0.out ?_; intro v2 w2 hown2 hb2 hg2; have Hb0 := Lib.hid (Own0.out.other hg2 HB0.out (by decide)); have s1 : w2.cell? ⟨w.heap.size, 3, none⟩ = some (.slice gA r.gd.length gc) := (by rw [cell_of_row _ _ 3 _ _ _ Hb0.out]; rfl); have s2 : w2.cell? ⟨w.heap.size, 4, none⟩ = some (.slice bA r.bd.length bc) := (by rw [cell_of_row _ _ 4 _ _ _ Hb0.out]; rfl); have Hown2 := Lib.hid hown2; have Hb2 := Lib.hid hb2; clear hown2 hb2 hg2)))
  go_wp2
  go_ret
  exact ⟨_, rfl, Hown3.out, Hb3.out⟩
end Go.Proofs.Ytahhaiomdjlckaa
