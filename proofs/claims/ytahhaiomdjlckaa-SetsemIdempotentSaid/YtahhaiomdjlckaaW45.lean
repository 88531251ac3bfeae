/-
  The walks of shiftAtoms and shiftGoals, in the reference of layer 9.
-/
import Derived.Test.YtahhaiomdjlckaaW44
import Derived.Test.YtahhaiomdjlckaaW42
import Derived.Test.YtahhaiomdjlckaaShiftQ
import Derived.Deep.RegionHeld3
import Derived.Deep.DrawnRows
namespace Go.Proofs.Ytahhaiomdjlckaa
set_option linter.unusedVariables false
set_option linter.unusedSimpArgs false
open Go.RowKit
attribute [local go_sem ↓] Go.wp_at_zero Go.wp_at_succ

theorem RA.ext {w w' : World} {cs : List Value} {x : At} (he : Ext w w') (h : RA w cs x) : RA w' cs x := by
  obtain ⟨A, c, rfl, ht, h1⟩ := h
  exact ⟨A, c, rfl, ht.ext TmAt.ext he, h1⟩
theorem RG.ext {w w' : World} {cs : List Value} {x : Gl} (he : Ext w w') (h : RG w cs x) : RG w' cs x := by
  obtain ⟨A, c, rfl, ht, h1⟩ := h
  exact ⟨A, c, rfl, ht.ext TmAt.ext he, h1⟩
theorem RA.ext' : ∀ w w' cs x, Ext w w' → RA w cs x → RA w' cs x := fun _ _ _ _ he h => h.ext he
theorem RG.ext' : ∀ w w' cs x, Ext w w' → RG w cs x → RG w' cs x := fun _ _ _ _ he h => h.ext he
theorem RA.at2 (w : World) (b o : Nat) (cs : List Value) (x : At) (hlt : b < w.heap.size) (hc : ∀ j, j < 2 → w.cell? ⟨b, o + j, none⟩ = cs[j]?) (h : RA w cs x) : AtAt w b o x := by
  obtain ⟨A, c, rfl, ht, h1⟩ := h
  exact ⟨⟨hc 0 (by decide), h1⟩, A, c, hc 1 (by decide), ht⟩
theorem RG.at2 (w : World) (b o : Nat) (cs : List Value) (x : Gl) (hlt : b < w.heap.size) (hc : ∀ j, j < 3 → w.cell? ⟨b, o + j, none⟩ = cs[j]?) (h : RG w cs x) : GlAt w b o x := by
  obtain ⟨A, c, rfl, ht, h1, h2⟩ := h
  exact ⟨⟨hc 0 (by decide), h1⟩, ⟨hc 1 (by decide), h2⟩, A, c, hc 2 (by decide), ht⟩
theorem map_take {α β : Type} (f : α → β) {l : List α} {i : Nat} {x : α} (h : l[i]? = some x) : (l.take (i + 1)).map f = (l.take i).map f ++ [f x] := by
  rw [List.take_add_one, h]
  simp
theorem szA_get {l : List At} {i : Nat} {x : At} (h : l[i]? = some x) : szL x.ts ≤ szA l := by
  have e2 := szA_take h
  have e3 := szA_takeLe l (i + 1)
  omega
theorem szG_get {l : List Gl} {i : Nat} {x : Gl} (h : l[i]? = some x) : szL x.ts ≤ szG l := by
  have e2 := szG_take h
  have e3 := szG_takeLe l (i + 1)
  omega

set_option maxRecDepth 100000 in
set_option maxHeartbeats 2000000 in
theorem shAtoms_any (l : List At) (A : Option Addr) (c : Nat) (k : Int) (w : World) (L : List Nat) (hA : SlAt AtAt 2 (hides w L) A l) (hk : Sm k) (hsz : szA l ≤ 100000) (hL : ∀ g ∈ L, g < w.heap.size) :
    Calls Try.prog 30 #[.slice A l.length c, .int .i64 k] w fun e w' => (∃ A' c', e = .returned (.slice A' l.length c') ∧ SlAt AtAt 2 (hides w' L) A' (l.map (shAt k))) ∧ Below w.heap.size w w' := by
  obtain ⟨i0, hi, hz0, hz1, hz2⟩ := info_parts Try.infoAtom
  have hl := hA.1
  unfold maxLen at hl
  have hll := len_szA l
  have HA := Lib.hid hA
  have Hi := Lib.hid hi
  have Hz0 := Lib.hid hz0
  have Hz1 := Lib.hid hz1
  have Hz2 := Lib.hid hz2
  have Hk := Lib.hid hk
  have HLn := Lib.hid hL
  have Hsz := Lib.hid hsz
  clear hA hi hz0 hz1 hz2 hk hL
  go_enter Try.func30, Try.ntmps30
  go_wp2
  go_loopw [5, 6] (fun o i wr => ∃ j : Nat, j ≤ l.length ∧ i = .int .i64 j ∧ Hid (Own2 RA 52 2 w.heap.size L wr o ((l.take j).map (shAt k))) ∧ Hid (Below w.heap.size w wr)) (fun _ i _ => l.length - (intOf i).toNat)
  case atStart => exact ⟨0, Nat.zero_le _, rfl, Lib.hid (by rw [List.take_zero, List.map_nil]; exact Own2.nil), Lib.hid (Below.refl _ _)⟩
  case round =>
    obtain ⟨j, hj, rfl, HO, HB⟩ := hrel
    by_cases hlt : j < l.length
    · obtain ⟨x, hx⟩ : ∃ x, l[j]? = some x := ⟨_, List.getElem?_eq_getElem hlt⟩
      obtain ⟨b, off, rfl, hblt, ⟨p0, hns⟩, B, d, p1, hB⟩ := HA.out.2 j x hx
      rw [size_hides] at hblt
      have lbr := Nat.lt_of_lt_of_le hblt HB.out.size
      have hg := HO.out.lt
      have hext : ∀ W, Below wr.heap.size wr W → TmsAt (hides W (L ++ u5.ownBlock.toList)) B x.ts := fun W hW => by
        have hWw := HB.out.trans (hW.mono HB.out.size)
        exact hB.ext TmAt.ext (Ext.step (w := w) (w' := W) (L := L) (L' := L ++ u5.ownBlock.toList) hWw.size (fun b hb _ => hWw.block b hb) (fun b hb => by
          rcases List.mem_append.1 hb with h | h
          · exact .inl h
          · exact .inr (hg b (by simpa using h)).1))
      have Hcall := Lib.hid (fun W (hW : Below wr.heap.size wr W) => shifts_any x.ts B d k W (L ++ u5.ownBlock.toList) (hext W hW) Hk.out (Nat.le_trans (szA_get hx) Hsz.out) (by
        intro b hb
        rcases List.mem_append.1 hb with h | h
        · exact Nat.lt_of_lt_of_le (HLn.out b h) (Nat.le_trans HB.out.size hW.size)
        · exact Nat.lt_of_lt_of_le (hg b (by simpa using h)).2 hW.size))
      have HS : Hid (∀ w' : World, Below w.heap.size w w' → (w'.cell? ⟨b, off + j * 2, none⟩ = some (.string x.nm) ∧ w'.cell? ⟨b, off + j * 2 + 1, none⟩ = some (.slice B x.ts.length d))) := Lib.hid (fun w' hb => ⟨(hb.cell (p := ⟨_, _, none⟩) hblt).trans (cell_hides.1 p0).2, (hb.cell (p := ⟨_, _, none⟩) hblt).trans (cell_hides.1 p1).2⟩)
      obtain ⟨y, hy⟩ : ∃ y, y = shL k x.ts := ⟨_, rfl⟩
      have hyl : y.length = x.ts.length := by rw [hy]; exact shL_len k _
      have hmt := map_take (shAt k) hx
      rw [show shAt k x = (⟨x.nm, y⟩ : At) from by rw [hy]; rfl] at hmt
      rw [← hy] at Hcall
      have Hmt := Lib.hid hmt
      have Hyl := Lib.hid hyl
      have Hns := Lib.hid hns
      have Hcells := Lib.hid (show ∀ (A3 : Option Addr) (c3 : Nat), ([.string x.nm, .slice A3 x.ts.length c3] : List Value) = [.string x.nm, .slice A3 y.length c3] from fun A3 c3 => by rw [Hyl.out])
      have hl3 : ((l.take j).map (shAt k)).length ≤ 100000 := by rw [List.length_map, List.length_take]; omega
      have C1 := Lib.hid (show ((l.take j).map (shAt k)).length + 1 ≤ maxLen from by unfold maxLen; omega)
      have C2 := Lib.hid (show (((l.take j).map (shAt k)).length + 1) * 40 ≤ 140737488355328 from by omega)
      have HOne := Lib.hid (show ∀ (A3 : Option Addr) (c3 : Nat), ∀ u ∈ ([.string x.nm, .slice A3 x.ts.length c3] : List Value), u.oneCell' = true from fun A3 c3 => by simp [Value.oneCell'])
      have hdr : Below wr.heap.size wr wr.drew := (Below.refl _ _).drew
      have HS0 := Lib.hid (HB.out.trans (hdr.mono HB.out.size))
      have hi0 : (0 : Int) ≤ (j : Int) := Int.natCast_nonneg _
      have hi1 : (j : Int) < (l.length : Int) := by omega
      clear hB hx hmt hy hyl hext hg p0 p1 hns
      go_wp2_with fail
      go_region_held3 (fun w' => w'.cell? ⟨b, off + j * 2, none⟩ = some (.string x.nm) ∧ w'.cell? ⟨b, off + j * 2 + 1, none⟩ = some (.slice B x.ts.length d)) (first | (with_reducible exact HS.out _ HB5.out) | (with_reducible exact HS.out _ HB4.out) | (with_reducible exact HS.out _ HB3.out) | (with_reducible exact HS.out _ HS0.out) | go_keep) ((first
        | (go_at_call 46; refine (Hcall.out _ ?_).mono ?_; (with_reducible assumption); rintro e w3 ⟨⟨A3, c3, rfl, hA3⟩, hb3⟩; have hV3 : Below wr.heap.size wr w3 := hdr.trans (hb3.mono hdr.size); have HA3 := Lib.hid hA3; have HO3 := Lib.hid (HO.out.below RA.ext' hV3); clear hA3; have HB3 := Lib.hid (HB.out.trans (hV3.mono HB.out.size)); have ⟨s0, s1⟩ := HS.out w3 HB3.out; have hw4 : Below w3.heap.size w3 (w3.alloc (.cells #[.string x.nm, .slice A3 x.ts.length c3] 52)) := (Below.refl _ _).alloc (Nat.le_refl _) _; have HO4 := Lib.hid (HO3.out.below RA.ext' hw4); have HB4 := Lib.hid (HB3.out.trans (hw4.mono HB3.out.size)); have hV4 : Below wr.heap.size wr (w3.alloc (.cells #[.string x.nm, .slice A3 x.ts.length c3] 52)) := hV3.trans (hw4.mono hV3.size); have Hnews := Lib.hid (World.news_of_block (cs := #[.string x.nm, .slice A3 x.ts.length c3]) (t := 52) (fr := (0, 0)) (heap_alloc_new w3 (.cells #[.string x.nm, .slice A3 x.ts.length c3] 52))); have HR4 := Lib.hid (show RA (hides (w3.alloc (.cells #[.string x.nm, .slice A3 x.ts.length c3] 52)) (L ++ u5.ownBlock.toList)) [.string x.nm, .slice A3 x.ts.length c3] (⟨x.nm, y⟩ : At) from ⟨A3, c3, Hcells.out A3 c3, HA3.out.ext TmAt.ext (Ext.below hw4), Hns.out⟩); clear hw4)
        | (refine step_append_own2 (by rfl) _ _ 22 (by rfl) i0 _ 40 Try.underlying22 Hi.out Hz0.out Hz1.out Hz2.out rfl (by decide) RA.ext' (by rfl) HO4.out (by rfl) (cs := [.string x.nm, .slice A3 x.ts.length c3]) (by rfl) (HOne.out A3 c3) Hnews.out HR4.out HLn.out C1.out C2.out HB4.out.size ?_; intro v5 w5 hown5 hg5; have HB5 := Lib.hid (Below.grown HB4.out hg5 HB4.out.size fun g hg => (HO4.out.lt g hg).1); have HO5 := Lib.hid hown5; clear hown5 hg5)
        | fail "no arm"))
      go_wp2
      go_roundw
      case rel => exact ⟨j + 1, by omega, by go_num, Lib.hid (by rw [Hmt.out]; exact HO5.out), HB5⟩
      case measure => simp [intOf]; omega
    · obtain rfl : j = l.length := by omega
      have hO := HO.out
      rw [List.take_length] at hO
      obtain ⟨A6, c6, hv6, hs6⟩ := hO.form (RAt := AtAt) (by decide) RA.ext' RA.at2 HLn.out
      have HS6 := Lib.hid hs6
      clear hO hs6
      rw [List.length_map] at hv6
      subst hv6
      go_wp2
      go_ret
      exact ⟨⟨_, _, rfl, HS6.out⟩, HB.out⟩

set_option maxRecDepth 100000 in
set_option maxHeartbeats 2000000 in
theorem shGoals_any (l : List Gl) (A : Option Addr) (c : Nat) (k : Int) (w : World) (L : List Nat) (hA : SlAt GlAt 3 (hides w L) A l) (hk : Sm k) (hsz : szG l ≤ 100000) (hL : ∀ g ∈ L, g < w.heap.size) :
    Calls Try.prog 31 #[.slice A l.length c, .int .i64 k] w fun e w' => (∃ A' c', e = .returned (.slice A' l.length c') ∧ SlAt GlAt 3 (hides w' L) A' (l.map (shGl k))) ∧ Below w.heap.size w w' := by
  obtain ⟨i0, hi, hz0, hz1, hz2⟩ := info_parts Try.infoGoal
  have hl := hA.1
  unfold maxLen at hl
  have hll := len_szG l
  have HA := Lib.hid hA
  have Hi := Lib.hid hi
  have Hz0 := Lib.hid hz0
  have Hz1 := Lib.hid hz1
  have Hz2 := Lib.hid hz2
  have Hk := Lib.hid hk
  have HLn := Lib.hid hL
  have Hsz := Lib.hid hsz
  clear hA hi hz0 hz1 hz2 hk hL
  go_enter Try.func31, Try.ntmps31
  go_wp2
  go_loopw [5, 6] (fun o i wr => ∃ j : Nat, j ≤ l.length ∧ i = .int .i64 j ∧ Hid (Own2 RG 65 3 w.heap.size L wr o ((l.take j).map (shGl k))) ∧ Hid (Below w.heap.size w wr)) (fun _ i _ => l.length - (intOf i).toNat)
  case atStart => exact ⟨0, Nat.zero_le _, rfl, Lib.hid (by rw [List.take_zero, List.map_nil]; exact Own2.nil), Lib.hid (Below.refl _ _)⟩
  case round =>
    obtain ⟨j, hj, rfl, HO, HB⟩ := hrel
    by_cases hlt : j < l.length
    · obtain ⟨x, hx⟩ : ∃ x, l[j]? = some x := ⟨_, List.getElem?_eq_getElem hlt⟩
      obtain ⟨b, off, rfl, hblt, ⟨p0, hop⟩, ⟨p1, hns⟩, B, d, p2, hB⟩ := HA.out.2 j x hx
      rw [size_hides] at hblt
      have lbr := Nat.lt_of_lt_of_le hblt HB.out.size
      have hg := HO.out.lt
      have hext : ∀ W, Below wr.heap.size wr W → TmsAt (hides W (L ++ u5.ownBlock.toList)) B x.ts := fun W hW => by
        have hWw := HB.out.trans (hW.mono HB.out.size)
        exact hB.ext TmAt.ext (Ext.step (w := w) (w' := W) (L := L) (L' := L ++ u5.ownBlock.toList) hWw.size (fun b hb _ => hWw.block b hb) (fun b hb => by
          rcases List.mem_append.1 hb with h | h
          · exact .inl h
          · exact .inr (hg b (by simpa using h)).1))
      have Hcall := Lib.hid (fun W (hW : Below wr.heap.size wr W) => shifts_any x.ts B d k W (L ++ u5.ownBlock.toList) (hext W hW) Hk.out (Nat.le_trans (szG_get hx) Hsz.out) (by
        intro b hb
        rcases List.mem_append.1 hb with h | h
        · exact Nat.lt_of_lt_of_le (HLn.out b h) (Nat.le_trans HB.out.size hW.size)
        · exact Nat.lt_of_lt_of_le (hg b (by simpa using h)).2 hW.size))
      have HS : Hid (∀ w' : World, Below w.heap.size w w' → (w'.cell? ⟨b, off + j * 3, none⟩ = some (.int .i64 x.op) ∧ w'.cell? ⟨b, off + j * 3 + 1, none⟩ = some (.string x.nm) ∧ w'.cell? ⟨b, off + j * 3 + 2, none⟩ = some (.slice B x.ts.length d))) := Lib.hid (fun w' hb => ⟨(hb.cell (p := ⟨_, _, none⟩) hblt).trans (cell_hides.1 p0).2, (hb.cell (p := ⟨_, _, none⟩) hblt).trans (cell_hides.1 p1).2, (hb.cell (p := ⟨_, _, none⟩) hblt).trans (cell_hides.1 p2).2⟩)
      obtain ⟨y, hy⟩ : ∃ y, y = shL k x.ts := ⟨_, rfl⟩
      have hyl : y.length = x.ts.length := by rw [hy]; exact shL_len k _
      have hmt := map_take (shGl k) hx
      rw [show shGl k x = (⟨x.op, x.nm, y⟩ : Gl) from by rw [hy]; rfl] at hmt
      rw [← hy] at Hcall
      have Hmt := Lib.hid hmt
      have Hyl := Lib.hid hyl
      have Hns := Lib.hid (show I64 x.op ∧ x.nm.size ≤ maxLen from ⟨hop, hns⟩)
      have Hcells := Lib.hid (show ∀ (A3 : Option Addr) (c3 : Nat), ([.int .i64 x.op, .string x.nm, .slice A3 x.ts.length c3] : List Value) = [.int .i64 x.op, .string x.nm, .slice A3 y.length c3] from fun A3 c3 => by rw [Hyl.out])
      have hl3 : ((l.take j).map (shGl k)).length ≤ 100000 := by rw [List.length_map, List.length_take]; omega
      have C1 := Lib.hid (show ((l.take j).map (shGl k)).length + 1 ≤ maxLen from by unfold maxLen; omega)
      have C2 := Lib.hid (show (((l.take j).map (shGl k)).length + 1) * 48 ≤ 140737488355328 from by omega)
      have HOne := Lib.hid (show ∀ (A3 : Option Addr) (c3 : Nat), ∀ u ∈ ([.int .i64 x.op, .string x.nm, .slice A3 x.ts.length c3] : List Value), u.oneCell' = true from fun A3 c3 => by simp [Value.oneCell'])
      have hdr : Below wr.heap.size wr wr.drew := (Below.refl _ _).drew
      have HS0 := Lib.hid (HB.out.trans (hdr.mono HB.out.size))
      have hi0 : (0 : Int) ≤ (j : Int) := Int.natCast_nonneg _
      have hi1 : (j : Int) < (l.length : Int) := by omega
      clear hB hx hmt hy hyl hext hg p0 p1 p2 hop hns
      go_wp2_with fail
      go_region_held3 (fun w' => w'.cell? ⟨b, off + j * 3, none⟩ = some (.int .i64 x.op) ∧ w'.cell? ⟨b, off + j * 3 + 1, none⟩ = some (.string x.nm) ∧ w'.cell? ⟨b, off + j * 3 + 2, none⟩ = some (.slice B x.ts.length d)) (first | (with_reducible exact HS.out _ HB5.out) | (with_reducible exact HS.out _ HB4.out) | (with_reducible exact HS.out _ HB3.out) | (with_reducible exact HS.out _ HS0.out) | go_keep) ((first
        | (go_at_call 46; refine (Hcall.out _ ?_).mono ?_; (with_reducible assumption); rintro e w3 ⟨⟨A3, c3, rfl, hA3⟩, hb3⟩; have hV3 : Below wr.heap.size wr w3 := hdr.trans (hb3.mono hdr.size); have HA3 := Lib.hid hA3; have HO3 := Lib.hid (HO.out.below RG.ext' hV3); clear hA3; have HB3 := Lib.hid (HB.out.trans (hV3.mono HB.out.size)); have ⟨s0, s1, s2⟩ := HS.out w3 HB3.out; have hw4 : Below w3.heap.size w3 (w3.alloc (.cells #[.int .i64 x.op, .string x.nm, .slice A3 x.ts.length c3] 65)) := (Below.refl _ _).alloc (Nat.le_refl _) _; have HO4 := Lib.hid (HO3.out.below RG.ext' hw4); have HB4 := Lib.hid (HB3.out.trans (hw4.mono HB3.out.size)); have hV4 : Below wr.heap.size wr (w3.alloc (.cells #[.int .i64 x.op, .string x.nm, .slice A3 x.ts.length c3] 65)) := hV3.trans (hw4.mono hV3.size); have Hnews := Lib.hid (World.news_of_block (cs := #[.int .i64 x.op, .string x.nm, .slice A3 x.ts.length c3]) (t := 65) (fr := (0, 0)) (heap_alloc_new w3 (.cells #[.int .i64 x.op, .string x.nm, .slice A3 x.ts.length c3] 65))); have HR4 := Lib.hid (show RG (hides (w3.alloc (.cells #[.int .i64 x.op, .string x.nm, .slice A3 x.ts.length c3] 65)) (L ++ u5.ownBlock.toList)) [.int .i64 x.op, .string x.nm, .slice A3 x.ts.length c3] (⟨x.op, x.nm, y⟩ : Gl) from ⟨A3, c3, Hcells.out A3 c3, HA3.out.ext TmAt.ext (Ext.below hw4), Hns.out.1, Hns.out.2⟩); clear hw4)
        | (refine step_append_own2 (by rfl) _ _ 23 (by rfl) i0 _ 48 Try.underlying23 Hi.out Hz0.out Hz1.out Hz2.out rfl (by decide) RG.ext' (by rfl) HO4.out (by rfl) (cs := [.int .i64 x.op, .string x.nm, .slice A3 x.ts.length c3]) (by rfl) (HOne.out A3 c3) Hnews.out HR4.out HLn.out C1.out C2.out HB4.out.size ?_; intro v5 w5 hown5 hg5; have HB5 := Lib.hid (Below.grown HB4.out hg5 HB4.out.size fun g hg => (HO4.out.lt g hg).1); have HO5 := Lib.hid hown5; clear hown5 hg5)
        | fail "no arm"))
      go_wp2
      go_roundw
      case rel => exact ⟨j + 1, by omega, by go_num, Lib.hid (by rw [Hmt.out]; exact HO5.out), HB5⟩
      case measure => simp [intOf]; omega
    · obtain rfl : j = l.length := by omega
      have hO := HO.out
      rw [List.take_length] at hO
      obtain ⟨A6, c6, hv6, hs6⟩ := hO.form (RAt := GlAt) (by decide) RG.ext' RG.at2 HLn.out
      have HS6 := Lib.hid hs6
      clear hO hs6
      rw [List.length_map] at hv6
      subst hv6
      go_wp2
      go_ret
      exact ⟨⟨_, _, rfl, HS6.out⟩, HB.out⟩
end Go.Proofs.Ytahhaiomdjlckaa
