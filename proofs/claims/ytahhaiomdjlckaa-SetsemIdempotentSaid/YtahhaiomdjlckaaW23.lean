/-
  The walks of each and Of, in the program.
-/
import Derived.Test.YtahhaiomdjlckaaW22
import Derived.Outline
namespace Go.Proofs.Ytahhaiomdjlckaa
set_option linter.unusedVariables false
set_option linter.unusedSimpArgs false
open Go.RowKit Go.Shelf
attribute [local go_sem] Oper.semAt_some wide_true

/-- an occurrence. -/
structure Oc where
  rule : Int
  head : Int
  kept : Bool
def ROc (_ : World) (cs : List Value) (x : Oc) : Prop := cs = [.int .i64 x.rule, .int .i64 x.head, .bool x.kept]
def oc (x : Ev) : Oc := ⟨x.rule, x.head, x.kept⟩
/-- whether an event is one of a constraint. -/
def hit (nm : ByteArray) (ar : Int) (x : Ev) : Bool := decide (x.nm = nm) && (x.n : Int) == ar
def sel (nm : ByteArray) (ar : Int) (l : List Ev) : List Oc := (l.filter (hit nm ar)).map oc
theorem sel_er (nm : ByteArray) (ar : Int) (l : List Ev) : sel nm ar (l.map er) = sel nm ar l := by
  unfold sel
  rw [List.filter_map, List.map_map]
  rfl
theorem sel_snoc (nm : ByteArray) (ar : Int) (l : List Ev) (x : Ev) : sel nm ar (l ++ [x]) = if hit nm ar x then sel nm ar l ++ [oc x] else sel nm ar l := by
  unfold sel
  rw [List.filter_append]
  by_cases h : hit nm ar x <;> simp [List.filter_cons, h]
theorem sel_len (nm : ByteArray) (ar : Int) (l : List Ev) : (sel nm ar l).length ≤ l.length := by
  unfold sel; rw [List.length_map]; exact List.length_filter_le _ _

set_option maxRecDepth 100000 in
theorem each_any (dA rA : Option Addr) (dn dc rn rc : Nat) (w : World) :
    Calls Try.prog 35 #[.agg #[.slice dA dn dc, .slice rA rn rc]] w fun e w' => e = .returned (.func (.func 53) #[] #[.pointer (some ⟨w.heap.size, 0, none⟩)]) ∧ w' = w.alloc (.cells #[.slice dA dn dc, .slice rA rn rc] 39) := by
  go_enter Try.func35, Try.ntmps35
  go_wp2
  go_ret
  exact ⟨rfl, rfl⟩

/-- a turn of a block that is no cells leaves cells alone. -/
theorem cells_turn {B : Nat} {W W' : World} {row : Option Nat} (hg : W.grownBy W' row) (hr : ∀ r, row = some r → B ≤ r ∧ ∃ o : Obj, W.heap[r]? = some o ∧ o.isCells = false) {b : Nat} {cs : Array Value} {t : TypeId} {fr : Nat × Nat}
    (hb : W.heap[b]? = some (.cells cs t fr)) : W'.heap[b]? = some (.cells cs t fr) :=
  (hg.block b (lt_of_block hb) fun e => by obtain ⟨_, o, ho, hc⟩ := hr b e.symm; rw [hb] at ho; cases ho; cases hc).trans hb
theorem Owned.turn {α : Type} {R : World → List Value → α → Prop} {t : TypeId} {sz B : Nat} {w0 W W' : World} {v : Value} {l : List α} {row : Option Nat} (h : Owned R t sz w0 W v l) (hg : W.grownBy W' row)
    (hr : ∀ r, row = some r → B ≤ r ∧ ∃ o : Obj, W.heap[r]? = some o ∧ o.isCells = false) : Owned R t sz w0 W' v l := by
  obtain ⟨css, h1, h2, h3, h4, h5⟩ := h
  refine ⟨css, h1, h2, h3, h4, ?_⟩
  rcases h5 with h5 | ⟨g, cap, cur, e, hB, hh, rest⟩
  · exact .inl h5
  · exact .inr ⟨g, cap, cur, e, hB, cells_turn hg hr hh, rest⟩
/-- between two rounds of Of: the boxes of the name, the arity and the list. -/
structure OfI (w : World) (nm : ByteArray) (ar : Int) (pre : List Ev) (W : World) : Prop where
  below : Below w.heap.size w W
  big : w.heap.size + 1 + 1 + 1 + 1 < W.heap.size
  b1 : W.heap[w.heap.size + 1]? = some (.cells #[.string nm] 9 (0, 0))
  b2 : W.heap[w.heap.size + 1 + 1]? = some (.cells #[.int .i64 ar] 3 (0, 0))
  out : ∃ v, W.heap[w.heap.size + 1 + 1 + 1]? = some (.cells #[v] 43 (0, 0)) ∧ Owned ROc 46 3 w W v (sel nm ar pre)
theorem OfI.own {w : World} {nm : ByteArray} {ar : Int} {B : Nat} (hB : w.heap.size ≤ B) : OwnFrom B (OfI w nm ar) := fun s W W' row h hg hr => by
  obtain ⟨v, h1, h2⟩ := h.out
  exact ⟨h.below.grown hg h.below.size (fun k e => Nat.le_trans hB (hr k e).1), Nat.lt_of_lt_of_le h.big hg.size, cells_turn hg hr h.b1, cells_turn hg hr h.b2, v, cells_turn hg hr h1, h2.turn hg hr⟩
theorem OfI.next {w : World} {nm : ByteArray} {ar : Int} {pre : List Ev} {W W' : World} (h : OfI w nm ar pre W) (hb : Below W.heap.size W W') : OfI w nm ar pre W' := by
  obtain ⟨v, h1, h2⟩ := h.out
  exact ⟨h.below.trans (hb.mono h.below.size), Nat.lt_of_lt_of_le h.big hb.size, (hb.block _ (lt_of_block h.b1)).trans h.b1, (hb.block _ (lt_of_block h.b2)).trans h.b2, v, (hb.block _ (lt_of_block h1)).trans h1, h2.below hb⟩
theorem keeps_below {W W' : World} (h : Below W.heap.size W W') (B : Nat) : KeepsFrom B W W' := ⟨h.size, fun k o _ hk _ => (h.block k (Array.getElem?_eq_some_iff.1 hk).1).trans hk⟩

theorem Try.infoOcc : (Try.prog.info? 46).map (fun i => (i.zero, i.size, i.bytes)) = some (some (.agg #[.int .i64 0, .int .i64 0, .bool false]), 3, 24) := by kernel_rfl

theorem of_push {w W w2 : World} {nm : ByteArray} {ar : Int} {pre : List Ev} {x : Ev} {v v2 : Value} {tmp : Array Value} (B : Nat) (hi : OfI w nm ar pre W) (own1 : Owned ROc 46 3 w (W.alloc (.cells tmp 46)) v (sel nm ar pre))
    (hg : (W.alloc (.cells tmp 46)).grownBy w2 v.ownBlock) (hb2 : Below w.heap.size w w2) (hv2 : w2.heap[w.heap.size + 1 + 1 + 1]? = some (.cells #[v] 43 (0, 0))) (hown2 : Owned ROc 46 3 w w2 v2 (sel nm ar pre ++ [oc x])) (hh : hit nm ar x = true) :
    KeepsFrom B W (w2.setCell ⟨w.heap.size + 1 + 1 + 1, 0, none⟩ v2) ∧ EKp w.heap.size W (w2.setCell ⟨w.heap.size + 1 + 1 + 1, 0, none⟩ v2) ∧ OfI w nm ar (pre ++ [x]) (w2.setCell ⟨w.heap.size + 1 + 1 + 1, 0, none⟩ v2) := by
  have hbA : Below W.heap.size W (W.alloc (.cells tmp 46)) := (Below.refl _ _).alloc (Nat.le_refl _) _
  have hWs := hi.below.size
  have hbl : ∀ {b : Nat} {cs : Array Value} {t : TypeId} {fr : Nat × Nat}, W.heap[b]? = some (.cells cs t fr) → t ≠ 46 → b ≠ w.heap.size + 1 + 1 + 1 → (w2.setCell ⟨w.heap.size + 1 + 1 + 1, 0, none⟩ v2).heap[b]? = some (.cells cs t fr) := by
    intro b cs t fr hb ht hne
    rw [Below.heap_setCell _ _ _ _ (fun h => hne h)]
    exact own1.other hg ((hbA.block _ (lt_of_block hb)).trans hb) ht
  have hrow : ∀ k, v.ownBlock = some k → w.heap.size ≤ k := by
    obtain ⟨css, _, _, _, h4⟩ := own1
    exact fun k hk => ((World.ownsRow.lt h4) k hk).1
  refine ⟨(((KeepsOthers.alloc W _).trans (KeepsOthers.of_grownBy hg own1.cells_row)).trans (KeepsOthers.setCell _ _ _)).from B, ⟨((hbA.mono hWs).grown hg (by simp; omega) hrow).setCell (by simp only; omega) _, ?_, ?_⟩, ?_⟩
  · have := hg.size; simp at this ⊢; omega
  · intro b cs t fr hb ht
    obtain ⟨u, hu, _⟩ := hi.out
    exact hbl hb (by rcases ht with rfl | rfl <;> decide) (fun e => by
      subst e; rw [hu] at hb; simp only [Option.some.injEq, Obj.cells.injEq] at hb
      obtain ⟨_, rfl, _⟩ := hb
      rcases ht with h | h <;> cases h)
  · refine ⟨hb2.setCell (by simp only; omega) _, ?_, hbl hi.b1 (by decide) (by omega), hbl hi.b2 (by decide) (by omega), v2, one_setCell hv2, ?_⟩
    · have := hg.size; have := hi.big; simp at *; omega
    · rw [sel_snoc, if_pos hh]
      exact hown2.set_other hv2 (by decide) _ _
theorem of_skip {w W : World} {nm : ByteArray} {ar : Int} {pre : List Ev} {x : Ev} (hi : OfI w nm ar pre W) (hh : hit nm ar x = false) : OfI w nm ar (pre ++ [x]) W := by
  obtain ⟨h1, h2, h3, h4, h5⟩ := hi
  exact ⟨h1, h2, h3, h4, by rw [sel_snoc, if_neg (by rw [hh]; simp)]; exact h5⟩
theorem each_stops (n : Nat) (hn : 1 ≤ n) (Bp : Nat) (w0 : World) (rA dA : Option Addr) (rc dn dc : Nat) (rs : List Rl) (hrs : SlAt RlAt 6 w0 rA rs) (hok : RsOk rs) (w : World) (hw : Below w0.heap.size w0 w)
    (hBp : w.heap[Bp]? = some (.cells #[.slice dA dn dc, .slice rA rs.length rc] 39 (0, 0))) :
    SeqStopsK Fence.wide n Try.prog 53 #[.pointer (some ⟨Bp, 0, none⟩)] enc (EKp w0.heap.size) (fun ys => ys.map er = evs rs) (fun _ => True) (evs rs).length w :=
  fun l J Jx W hW hJ _ hY h0 => each1_in n hn l Bp w0 rA dA rc dn dc rs hrs hok J Jx W hJ (hw.trans (hW.mono hw.size)) hY ((hW.block _ (lt_of_block hBp)).trans hBp) h0
theorem ekp_b {n₀ : Nat} {w : World} (hn : n₀ ≤ w.heap.size) (W : World) (l : Nat) (o o' : Obj) (hl : w.heap.size ≤ l) (h : W.heap[l]? = some o) (hc : o.isCells = false) (hw : o.isWalk = false) : EKp n₀ W (W.putObj l o') :=
  ⟨belowK_b hn W l o o' hl h hc hw, (grownBy_putObj' W l o').size, fun b cs t fr hb _ => cells_turn (B := 0) (grownBy_putObj' W l o') (fun r e => by cases e; exact ⟨Nat.zero_le _, o, h, hc⟩) hb⟩

set_option maxRecDepth 100000 in
set_option maxHeartbeats 2000000 in
theorem of_any (dA rA : Option Addr) (dn dc rc : Nat) (rs : List Rl) (nm : ByteArray) (ar : Int) (w : World) (hrs : SlAt RlAt 6 w rA rs) (hok : RsOk rs) :
    CallsIn Fence.wide 4 Try.prog 16 #[.agg #[.slice dA dn dc, .slice rA rs.length rc], .string nm, .int .i64 ar] w fun e w' => ∃ v, e = .returned v ∧ Owned ROc 46 3 w w' v (sel nm ar (evs rs)) ∧ Below w.heap.size w w' := by
  obtain ⟨i0, hi, hz0, hz1, hz2⟩ := info_parts Try.infoOcc
  have Hi := Lib.hid hi
  have Hz0 := Lib.hid hz0
  have Hz1 := Lib.hid hz1
  have Hz2 := Lib.hid hz2
  have Hrs := Lib.hid hrs
  clear hi hz0 hz1 hz2 hrs
  refine callsIn_of_wp_marks Try.func16 rfl trivial ?_ rfl
  simp only [Try.ntmps16, List.size_toArray, List.length_cons, List.length_nil, Nat.reduceAdd, Nat.reduceSub, Array.replicate_succ, Array.replicate_zero, List.push_toArray, List.append_toArray, List.nil_append, List.cons_append]
  gi_wp2_with (gi_at_call 35; refine (callsIn_wide.2 (each_any _ _ _ _ _ _ _)).mono ?_; rintro e w' ⟨rfl, rfl⟩)
  obtain ⟨V, hV⟩ : ∃ V, (((w.alloc (.cells #[.slice dA dn dc, .slice rA rs.length rc] 39)).alloc (.cells #[.string nm] 9)).alloc (.cells #[.int .i64 ar] 3)).alloc (.cells #[.slice none 0 0] 43) = V := ⟨_, rfl⟩
  have hVs : V.heap.size = w.heap.size + 1 + 1 + 1 + 1 := by rw [← hV]; simp
  have hVb : Below w.heap.size w V := by rw [← hV]; exact ((((Below.refl _ _).alloc (Nat.le_refl _) _).alloc (by simp) _).alloc (by simp; omega) _).alloc (by simp; omega) _
  have hI0 : OfI w nm ar [] (V.alloc (.cells #[.slice dA dn dc, .slice rA rs.length rc] 39)) := by
    refine ⟨hVb.alloc hVb.size _, by simp; omega, ?_, ?_, _, ?_, Owned.nil⟩
    all_goals rw [Below.heap_alloc _ _ _ (by omega)]
    · rw [← hV, Below.heap_alloc _ _ _ (by simp), Below.heap_alloc _ _ _ (by simp)]
      exact heap_alloc2_new _ _ _
    · rw [← hV, Below.heap_alloc _ _ _ (by simp)]
      have := heap_alloc2_new (w.alloc (.cells #[.slice dA dn dc, .slice rA rs.length rc] 39)) (.cells #[.string nm] 9) (.cells #[.int .i64 ar] 3)
      simpa using this
    · rw [← hV]
      have := heap_alloc_new (((w.alloc (.cells #[.slice dA dn dc, .slice rA rs.length rc] 39)).alloc (.cells #[.string nm] 9)).alloc (.cells #[.int .i64 ar] 3)) (.cells #[.slice none 0 0] 43)
      simpa using this
  rw [hV]
  have hVV : Below V.heap.size V (V.alloc (.cells #[.slice dA dn dc, .slice rA rs.length rc] 39)) := (Below.refl _ _).alloc (Nat.le_refl _) _
  clear hV
  have hBp := heap_alloc_new V (.cells #[.slice dA dn dc, .slice rA rs.length rc] 39)
  rw [hVs] at hBp
  refine wpIn_rangeFunc_ownH (n := 4) rfl (by omega) (gf := 53) (lb := #[.pointer (some ⟨w.heap.size + 1 + 1 + 1 + 1, 0, none⟩)]) rfl trivial (enters_of Try.func53 (by kernel_rfl) rfl)
    (each_stops _ (by omega) _ w rA dA rc dn dc rs Hrs.out hok _ (hVb.trans (hVV.mono hVb.size)) hBp) (fun h k => h.trans k) (ekp_b (by simp; omega)) (Below.refl _ _) (fun _ => rfl)
    (OfI w nm ar) (fun _ _ _ => False) (OfI.own (by simp; omega)) (fun _ _ _ _ _ hs _ _ => hs) hI0
    (fun x a' W => ∃ Bo Bh : Nat, w.heap.size + 1 + 1 + 1 + 1 < Bo ∧ Bo < Bh ∧ W.heap[Bo]? = some (.cells #[.int .i64 x.rule, .int .i64 x.head, .bool x.kept] 46 (0, 0)) ∧ W.heap[Bh]? = some (.cells #[.string x.nm, .slice x.A x.n x.c] 52 (0, 0)) ∧
      a' = { tmps := #[.agg #[.slice dA dn dc, .slice rA rs.length rc], .string nm, .int .i64 ar, .pointer (some ⟨w.heap.size, 0, none⟩), .pointer (some ⟨w.heap.size + 1, 0, none⟩), .pointer (some ⟨w.heap.size + 1 + 1, 0, none⟩), .slice none 0 0, .pointer (some ⟨w.heap.size + 1 + 1 + 1, 0, none⟩),
        .pointer (some ⟨Bo, 0, none⟩), .pointer (some ⟨Bh, 0, none⟩), .agg #[.slice dA dn dc, .slice rA rs.length rc], .func (.func 53) #[] #[.pointer (some ⟨w.heap.size + 1 + 1 + 1 + 1, 0, none⟩)], .agg #[.int .i64 x.rule, .int .i64 x.head, .bool x.kept], .agg #[.string x.nm, .slice x.A x.n x.c],
        undef, undef, undef, undef, undef, undef, undef, undef, undef, undef, undef, undef, undef, undef, undef, undef], defers := [] })
    (fun x a' s W W' row h hg hr => by obtain ⟨Bo, Bh, h1, h2, h3, h4, h5⟩ := h; exact ⟨Bo, Bh, h1, h2, cells_turn hg hr h3, cells_turn hg hr h4, h5⟩) ?assign ?body ?done ?stop
  case assign =>
    rintro l pre x W K hi hK
    have hsz := hi.below.size
    have hsz1 : w.heap.size + 1 + 1 + 1 + 1 < W.heap.size := hi.big
    unfold enc
    gi_wp2
    have hb : Below W.heap.size W ((W.alloc (.cells #[.int .i64 x.rule, .int .i64 x.head, .bool x.kept] 46)).alloc (.cells #[.string x.nm, .slice x.A x.n x.c] 52)) := ((Below.refl _ _).alloc (Nat.le_refl _) _).alloc (by simp) _
    exact hK _ _ (keeps_below hb _) ⟨hb.mono hsz, TKeep.of_below hb⟩ (hi.next hb) ⟨W.heap.size, W.heap.size + 1, hsz1, by omega, heap_alloc2_old _ _ _, heap_alloc2_new _ _ _, rfl⟩
  case body =>
    rintro l pre x a' W hl _ hi ⟨Bo, Bh, hBo, hBh, ho, hh, rfl⟩ hlt
    have hlen := evs_le hok
    have hsl := sel_len nm ar pre
    obtain ⟨v, hv, hown⟩ := hi.out
    obtain ⟨vA, vc, rfl⟩ := hown.shape
    have s1 := hi.b1
    have c1 := cell_of_one hi.b1
    have c2 := cell_of_one hi.b2
    have c3 := cell_of_one hv
    have f3 := free_of_one hv
    have c4 : W.cell? ⟨Bo, 0, none⟩ = some (.int .i64 x.rule) := by rw [cell_of_row _ _ 0 _ _ _ ho]; rfl
    have c5 : W.cell? ⟨Bo, 1, none⟩ = some (.int .i64 x.head) := by rw [cell_of_row _ _ 1 _ _ _ ho]; rfl
    have c6 : W.cell? ⟨Bo, 2, none⟩ = some (.bool x.kept) := by rw [cell_of_row _ _ 2 _ _ _ ho]; rfl
    have c7 : W.cell? ⟨Bh, 0, none⟩ = some (.string x.nm) := by rw [cell_of_row _ _ 0 _ _ _ hh]; rfl
    have c8 : W.cell? ⟨Bh, 1, none⟩ = some (.slice x.A x.n x.c) := by rw [cell_of_row _ _ 1 _ _ _ hh]; rfl
    have l1 := lt_of_block hi.b1
    have l2 := lt_of_block hi.b2
    have l3 := lt_of_block hv
    have l4 := lt_of_block ho
    have l5 := lt_of_block hh
    have hbA : Below W.heap.size W (W.alloc (.cells #[.int .i64 x.rule, .int .i64 x.head, .bool x.kept] 46)) := (Below.refl _ _).alloc (Nat.le_refl _) _
    have Own1 := Lib.hid (hown.below hbA)
    have Src1 := Lib.hid (Srcs.one_el (R := ROc) (sz := 3) (w0 := w) (w := W.alloc (.cells #[.int .i64 x.rule, .int .i64 x.head, .bool x.kept] 46)) (x := oc x) (cs := [.int .i64 x.rule, .int .i64 x.head, .bool x.kept]) (A := ⟨W.heap.size, 0, none⟩) rfl
      (by intro u hu; simp only [List.mem_cons, List.not_mem_nil, or_false] at hu; rcases hu with rfl | rfl | rfl <;> rfl) rfl (cells_at (heap_alloc_new _ _)))
    have hwA := hi.below.trans (hbA.mono hi.below.size)
    have hbv := (Below.heap_alloc W (.cells #[.int .i64 x.rule, .int .i64 x.head, .bool x.kept] 46) _ l3).trans hv
    have Hi1 := Lib.hid hi
    have Hv := Lib.hid hbv
    have Ssn := Lib.hid (sel_snoc nm ar pre x)
    have Hc1 : Hid ((sel nm ar pre).length + [oc x].length ≤ maxLen) := Lib.hid (by unfold maxLen; simp; omega)
    have Hc2 : Hid (((sel nm ar pre).length + [oc x].length) * 24 ≤ 140737488355328) := Lib.hid (by simp; omega)
    clear hi hown hv hbv s1
    gi_wp2_with (gi_at_builtin; refine wpListIn_append_el (l2 := [oc x]) rfl _ _ 43 rfl i0 _ 24 Try.underlying43 Hi.out Hz0.out Hz1.out Hz2.out rfl (by decide) rfl Own1.out rfl Src1.out Hc1.out Hc2.out hwA ?_; rintro v2 w2 hown2 hb2 hg2; have hv2 := Own1.out.other hg2 Hv.out (by decide); have cv2 := cell_of_one hv2; have fv2 := free_of_one hv2; have lv2 := lt_of_block hv2; obtain ⟨A2, n2, rfl⟩ := hown2.shape; have e2 : (sel nm ar pre ++ [oc x]).length = (sel nm ar pre).length + 1 := (by simp); rw [e2] at hown2; clear e2; have Hown2 := Lib.hid hown2; have Hv2 := Lib.hid hv2; have Hg2 := Lib.hid hg2; clear hown2 hv2 hg2)
    · have h1 : x.nm.toList = nm.toList := by assumption
      have h2 : ((x.n : Int) == ar) = true := by assumption
      exact of_push _ Hi1.out Own1.out Hg2.out hb2 Hv2.out Hown2.out (by unfold hit; rw [ba_ext h1, h2]; simp)
    · have h2 : ((x.n : Int) == ar) = false := by assumption
      exact ⟨KeepsFrom.refl _ _, ⟨Below.refl _ _, TKeep.refl _⟩, of_skip Hi1.out (by unfold hit; rw [h2]; simp)⟩
    · have h1 : ¬ x.nm.toList = nm.toList := by assumption
      exact ⟨KeepsFrom.refl _ _, ⟨Below.refl _ _, TKeep.refl _⟩, of_skip Hi1.out (by
        unfold hit
        rw [decide_eq_false (fun h => h1 (by rw [h]))]; rfl)⟩
  case done =>
    rintro D ys W hD hys hi hK
    obtain ⟨v, hv, hown⟩ := hi.out
    have hc := cell_of_one hv
    gi_wp2
    refine ⟨by simp, .inl ⟨_, _, rfl, run_takeDeferred hK, ?_⟩⟩
    refine ⟨_, results_tmp rfl _ _ _, v, rfl, ?_, hi.below.trans (belowK_b (w := w) (Nat.le_refl _) W D _ _ (by simp at hD; omega) hK rfl rfl)⟩
    rw [← hys, sel_er]
    exact hown.turn (B := 0) (grownBy_putObj' W D _) (fun r e => by cases e; exact ⟨Nat.zero_le _, _, hK, rfl⟩)
  case stop =>
    rintro D c pre W _ _ h _
    exact h.elim
end Go.Proofs.Ytahhaiomdjlckaa
