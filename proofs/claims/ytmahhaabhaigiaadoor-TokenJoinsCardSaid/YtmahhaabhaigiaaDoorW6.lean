/-
  The walks of Scan, in the program and in the reference.
-/
import Derived.Test.YtmahhaabhaigiaaDoorScanPlain
namespace Go.Proofs.YtmahhaabhaigiaaDoor
open Go.RowKit

theorem Tryd.infoTok : (Tryd.prog.info? 24).map (fun i => (i.zero, i.size, i.bytes)) = some (some (.agg #[.int .i64 0, .int .i64 0, .string ⟨#[]⟩]), 3, 32) := by kernel_rfl

theorem nextR_any (s : ByteArray) (a : Int) (w : World) (hs : s.size ≤ maxLen) (htab : Tab w) :
    Calls Tryd.prog 10 #[.string s, .int .i64 a] w fun e w' => e = .returned (nextR s a).v ∧ Below w.heap.size w w' := by
  rw [← nextv_eq]; exact next_any s a w hs htab
theorem rnextR_any (s : ByteArray) (a : Int) (w : World) (hs : s.size ≤ maxLen) :
    Calls Tryd.prog 11 #[.string s, .int .i64 a] w fun e w' => e = .returned (nextR s a).v ∧ Below w.heap.size w w' := by
  rw [← nextv_eq]; exact rnext_any s a w hs

/-- a slice of tokens of the call's own. -/
def Owns (w : World) (B : Nat) (v : Value) (l : List NR) : Prop := w.ownsRow B 24 3 v l.length (l.flatMap NR.cells)

theorem Owns.below {w w' : World} {B : Nat} {v : Value} {l : List NR} (h : Owns w B v l) (hb : Below w.heap.size w w') : Owns w' B v l :=
  World.ownsRow.kept (row := none) h ⟨hb.os, hb.tape, hb.output, hb.size, fun i hi _ => hb.block i hi⟩ (by cases v.ownBlock <;> simp)
theorem Owns.snoc {w : World} {B : Nat} {v : Value} {l : List NR} {r : NR} (h : w.ownsRow B 24 3 v (l.length + 1) (l.flatMap NR.cells ++ [.int .i64 r.kd, .int .i64 r.at_, .string r.tx])) : Owns w B v (l ++ [r]) := by
  unfold Owns
  simpa [NR.cells] using h
theorem cells_at {w : World} {g : Nat} {cs : List Value} {t : TypeId} {fr : Nat × Nat} (h : w.heap[g]? = some (.cells cs.toArray t fr)) : ∀ j u, cs[j]? = some u → w.cell? ((⟨g, 0, none⟩ : Addr).add j) = some u := by
  intro j u hj
  have hadd : (⟨g, 0, none⟩ : Addr).add j = ⟨g, j, none⟩ := by unfold Addr.add; split <;> simp_all
  rw [hadd, cell_of_row w g j _ _ _ h]
  simpa using hj
/-- behind an append to the tokens: what the local token, the list and the old memory are. -/
theorem scan_app {w wr w1 w2 : World} {v v2 : Value} {l : List NR} {r : NR} {o : Obj} (hown : Owns wr w.heap.size v l) (hbel : Below w.heap.size w wr) (hb : Below wr.heap.size wr w1)
    (h2 : w2.ownsRow w.heap.size 24 3 v2 (l.length + 1) (l.flatMap NR.cells ++ [.int .i64 r.kd, .int .i64 r.at_, .string r.tx]))
    (hg : ((w1.alloc (.cells #[.int .i64 r.kd, .int .i64 r.at_, .string r.tx] 24)).alloc o).grownBy w2 v.ownBlock) :
    Owns w2 w.heap.size v2 (l ++ [r]) ∧ Below w.heap.size w w2 ∧ w2.cell? ⟨w1.heap.size, 0, none⟩ = some (.int .i64 r.kd) := by
  have hlt : ∀ k, v.ownBlock = some k → w.heap.size ≤ k ∧ k < wr.heap.size := hown.lt
  have hs1 := hbel.size
  have hs2 := hb.size
  refine ⟨Owns.snoc h2, ?_, ?_⟩
  · refine Below.grown (((hbel.trans (hb.mono hs1)).alloc (by omega) _).alloc (by simp; omega) _) hg (by simp; omega) (fun k hk => (hlt k hk).1)
  · have e := hg.block w1.heap.size (by simp; omega) (fun e => by have := hlt _ e.symm; omega)
    have e2 : ((w1.alloc (.cells #[.int .i64 r.kd, .int .i64 r.at_, .string r.tx] 24)).alloc o).heap[w1.heap.size]? = some (.cells #[.int .i64 r.kd, .int .i64 r.at_, .string r.tx] 24) := heap_alloc2_old _ _ _
    rw [cell_of_row w2 w1.heap.size 0 _ _ _ (e.trans e2)]
    rfl

set_option maxHeartbeats 1000000 in
theorem scan_any (s : ByteArray) (w : World) (hs : s.size ≤ maxLen) (htab : Tab w) :
    Calls Tryd.prog 13 #[.string s] w fun e w' => ∃ v, e = .returned (.tuple #[v, .int .i64 (scanR s).2.1, .int .i64 (scanR s).2.2]) ∧ Owns w' w.heap.size v (scanR s).1 ∧ Below w.heap.size w w' := by
  obtain ⟨i0, hi, hz0, hz1, hz2⟩ := info_parts Tryd.infoTok
  go_enter Tryd.func13, Tryd.ntmps13
  go_wp2_with fail
  go_loopw [5, 6] (fun v i wr => ∃ (k a : Nat) (acc : List NR), ScanAt s k a acc ∧ i = .int .i64 a ∧ Owns wr w.heap.size v acc ∧ Below w.heap.size w wr) (fun _ i _ => s.size - (intOf i).toNat)
  case atStart => exact ⟨0, 0, [], ScanAt.start s, rfl, World.ownsRow_nil _ _ _ _, Below.refl _ _⟩
  case round =>
    obtain ⟨k, a, acc, hk, rfl, hown, hbel⟩ := hrel
    have hka := hk.2.1
    have has := hk.2.2.1
    have Hnext := Lib.hid (fun w => nextR_any s a w hs)
    have htab1 := htab.below htab.pos hbel
    by_cases he : (nextR s a).er = 0
    · have hle : s.size ≤ 16384 := (nextR_ok he).2.2.1
      have hacc : acc.length ≤ 16384 := by have := hk.1; omega
      have hend := Lib.hid (hk.end_ he)
      have hmore := Lib.hid (hk.more he)
      obtain ⟨r, hr⟩ : ∃ r, nextR s a = r := ⟨_, rfl⟩
      rw [hr] at he hend hmore Hnext
      clear hr
      by_cases hkd : r.kd = 0
      · have hkd1 : (r.kd == 0) = true := by simp [hkd]
        have he1 : (r.er != 0) = false := by simp [he]
        have hfin := Lib.hid (hend.out hkd)
        clear hkd he
        go_wp2_with (first
          | (go_at_call 10; refine (Hnext.out _ htab1).mono ?_; rintro e w1 ⟨rfl, hb⟩; unfold NR.v tri tokv)
          | (at_builtin; refine wpList_append_own _ rfl _ _ 30 rfl w.heap.size 24 i0 _ 3 32 Tryd.underlying30 hi hz0 hz1 hz2 rfl (by decide) _ _ _ rfl (((Owns.below hown hb).alloc _).alloc _) ⟨w1.heap.size + 1, 0, none⟩ 1 1 [.int .i64 r.kd, .int .i64 r.at_, .string r.tx] rfl rfl ?c1 ?c2 ?c3 ?c4 ?c5 ?_))
        case c1 => exact cells_at (heap_alloc2_new _ _ _)
        case c2 => intro u hu; simp only [List.mem_cons, List.not_mem_nil, or_false] at hu; rcases hu with rfl | rfl | rfl <;> rfl
        case c3 => unfold maxLen; omega
        case c4 => omega
        case c5 => have := hbel.size; have := hb.size; simp; omega
        intro v2 w2 hown2 hg2 _
        obtain ⟨hown3, hbel3, hcell⟩ := scan_app hown hbel hb hown2 hg2
        clear hown2 hg2 hown hbel hb
        go_wp2
        go_ret3
        rw [hfin.out]
        exact ⟨_, rfl, hown3, hbel3⟩
      · have hkd1 : (r.kd == 0) = false := by simp [hkd]
        have he1 : (r.er != 0) = false := by simp [he]
        obtain ⟨b, hb1, hb2, hb3⟩ := hmore.out hkd
        have hb4 := hb3.2.2.1
        clear hkd he
        go_wp2_with (first
          | (go_at_call 10; refine (Hnext.out _ htab1).mono ?_; rintro e w1 ⟨rfl, hb⟩; unfold NR.v tri tokv)
          | (at_builtin; refine wpList_append_own _ rfl _ _ 30 rfl w.heap.size 24 i0 _ 3 32 Tryd.underlying30 hi hz0 hz1 hz2 rfl (by decide) _ _ _ rfl (((Owns.below hown hb).alloc _).alloc _) ⟨w1.heap.size + 1, 0, none⟩ 1 1 [.int .i64 r.kd, .int .i64 r.at_, .string r.tx] rfl rfl ?c1 ?c2 ?c3 ?c4 ?c5 ?_))
        case c1 => exact cells_at (heap_alloc2_new _ _ _)
        case c2 => intro u hu; simp only [List.mem_cons, List.not_mem_nil, or_false] at hu; rcases hu with rfl | rfl | rfl <;> rfl
        case c3 => unfold maxLen; omega
        case c4 => omega
        case c5 => have := hbel.size; have := hb.size; simp; omega
        intro v2 w2 hown2 hg2 _
        obtain ⟨hown3, hbel3, hcell⟩ := scan_app hown hbel hb hown2 hg2
        clear hown2 hg2 hown hbel hb
        go_wp2
        go_roundw
        case rel => exact ⟨k + 1, b, acc ++ [r], hb3, rfl, hown3, hbel3⟩
        case measure => simp only [intOf]; omega
    · have hfin := Lib.hid (hk.err he)
      obtain ⟨r, hr⟩ : ∃ r, nextR s a = r := ⟨_, rfl⟩
      rw [hr] at he hfin Hnext
      clear hr
      have he1 : (r.er != 0) = true := by simp [he]
      clear he
      go_wp2_with (go_at_call 10; refine (Hnext.out _ htab1).mono ?_; rintro e w1 ⟨rfl, hb⟩; unfold NR.v tri tokv)
      go_ret3
      rw [hfin.out]
      exact ⟨_, rfl, World.ownsRow_nil _ _ _ _, (hbel.trans (hb.mono hbel.size)).alloc (by have := hbel.size; have := hb.size; omega) _⟩

set_option maxHeartbeats 1000000 in
theorem rscan_any (s : ByteArray) (w : World) (hs : s.size ≤ 20000) :
    Calls Tryd.prog 14 #[.string s] w fun e w' => ∃ v, e = .returned (.tuple #[v, .int .i64 (scanR s).2.1, .int .i64 (scanR s).2.2]) ∧ Owns w' w.heap.size v (scanR s).1 ∧ Below w.heap.size w w' := by
  obtain ⟨i0, hi, hz0, hz1, hz2⟩ := info_parts Tryd.infoTok
  have hsm : s.size ≤ maxLen := by unfold maxLen; omega
  go_enter Tryd.func14, Tryd.ntmps14
  go_wp2_with fail
  go_loopw [5, 6, 13] (fun v i j wr => ∃ (k a : Nat) (acc : List NR), ScanAt s k a acc ∧ i = .int .i64 a ∧ j = .int .i64 k ∧ Owns wr w.heap.size v acc ∧ Below w.heap.size w wr) (fun _ i _ _ => s.size - (intOf i).toNat)
  case atStart => exact ⟨0, 0, [], ScanAt.start s, rfl, rfl, World.ownsRow_nil _ _ _ _, Below.refl _ _⟩
  case round =>
    obtain ⟨k, a, acc, hk, rfl, rfl, hown, hbel⟩ := hrel
    have hka := hk.2.1
    have has := hk.2.2.1
    have Hnext := Lib.hid (fun w => rnextR_any s a w hsm)
    by_cases he : (nextR s a).er = 0
    · have hle : s.size ≤ 16384 := (nextR_ok he).2.2.1
      have hacc : acc.length ≤ 16384 := by have := hk.1; omega
      have hend := Lib.hid (hk.end_ he)
      have hmore := Lib.hid (hk.more he)
      obtain ⟨r, hr⟩ : ∃ r, nextR s a = r := ⟨_, rfl⟩
      rw [hr] at he hend hmore Hnext
      clear hr
      by_cases hkd : r.kd = 0
      · have hkd1 : (r.kd == 0) = true := by simp [hkd]
        have he1 : (r.er != 0) = false := by simp [he]
        have hfin := Lib.hid (hend.out hkd)
        clear hkd he
        go_wp2_with (first
          | (go_at_call 11; refine (Hnext.out _).mono ?_; rintro e w1 ⟨rfl, hb⟩; unfold NR.v tri tokv)
          | (at_builtin; refine wpList_append_own _ rfl _ _ 30 rfl w.heap.size 24 i0 _ 3 32 Tryd.underlying30 hi hz0 hz1 hz2 rfl (by decide) _ _ _ rfl (((Owns.below hown hb).alloc _).alloc _) ⟨w1.heap.size + 1, 0, none⟩ 1 1 [.int .i64 r.kd, .int .i64 r.at_, .string r.tx] rfl rfl ?c1 ?c2 ?c3 ?c4 ?c5 ?_))
        case c1 => exact cells_at (heap_alloc2_new _ _ _)
        case c2 => intro u hu; simp only [List.mem_cons, List.not_mem_nil, or_false] at hu; rcases hu with rfl | rfl | rfl <;> rfl
        case c3 => unfold maxLen; omega
        case c4 => omega
        case c5 => have := hbel.size; have := hb.size; simp; omega
        intro v2 w2 hown2 hg2 _
        obtain ⟨hown3, hbel3, hcell⟩ := scan_app hown hbel hb hown2 hg2
        clear hown2 hg2 hown hbel hb
        go_wp2
        go_ret3
        rw [hfin.out]
        exact ⟨_, rfl, hown3, hbel3⟩
      · have hkd1 : (r.kd == 0) = false := by simp [hkd]
        have he1 : (r.er != 0) = false := by simp [he]
        obtain ⟨b, hb1, hb2, hb3⟩ := hmore.out hkd
        have hb4 := hb3.2.2.1
        clear hkd he
        go_wp2_with (first
          | (go_at_call 11; refine (Hnext.out _).mono ?_; rintro e w1 ⟨rfl, hb⟩; unfold NR.v tri tokv)
          | (at_builtin; refine wpList_append_own _ rfl _ _ 30 rfl w.heap.size 24 i0 _ 3 32 Tryd.underlying30 hi hz0 hz1 hz2 rfl (by decide) _ _ _ rfl (((Owns.below hown hb).alloc _).alloc _) ⟨w1.heap.size + 1, 0, none⟩ 1 1 [.int .i64 r.kd, .int .i64 r.at_, .string r.tx] rfl rfl ?c1 ?c2 ?c3 ?c4 ?c5 ?_))
        case c1 => exact cells_at (heap_alloc2_new _ _ _)
        case c2 => intro u hu; simp only [List.mem_cons, List.not_mem_nil, or_false] at hu; rcases hu with rfl | rfl | rfl <;> rfl
        case c3 => unfold maxLen; omega
        case c4 => omega
        case c5 => have := hbel.size; have := hb.size; simp; omega
        intro v2 w2 hown2 hg2 _
        obtain ⟨hown3, hbel3, hcell⟩ := scan_app hown hbel hb hown2 hg2
        clear hown2 hg2 hown hbel hb
        go_wp2
        go_roundw
        case rel => exact ⟨k + 1, b, acc ++ [r], hb3, rfl, by go_num, hown3, hbel3⟩
        case measure => simp only [intOf]; omega
    · have hfin := Lib.hid (hk.err he)
      obtain ⟨r, hr⟩ : ∃ r, nextR s a = r := ⟨_, rfl⟩
      rw [hr] at he hfin Hnext
      clear hr
      have he1 : (r.er != 0) = true := by simp [he]
      clear he
      go_wp2_with (go_at_call 11; refine (Hnext.out _).mono ?_; rintro e w1 ⟨rfl, hb⟩; unfold NR.v tri tokv)
      go_ret3
      rw [hfin.out]
      exact ⟨_, rfl, World.ownsRow_nil _ _ _ _, (hbel.trans (hb.mono hbel.size)).alloc (by have := hbel.size; have := hb.size; omega) _⟩
end Go.Proofs.YtmahhaabhaigiaaDoor
