/-
  The walk of the statement TokenJoins.
-/
import Derived.Test.YtmahhaabhaigiaaDoorW12
namespace Go.Proofs.YtmahhaabhaigiaaDoor
open Go.RowKit

theorem size_mem {l : List NR} {k : Nat} {r : NR} (h : l[k]? = some r) : r.tx.size ≤ sizes l := by
  induction l generalizing k with
  | nil => simp at h
  | cons x l ih =>
    cases k with
    | zero =>
      simp only [List.getElem?_cons_zero, Option.some.injEq] at h
      subst h
      simp only [sizes]; omega
    | succ k =>
      have := ih (k := k) (by simpa using h)
      simp only [sizes]; omega

set_option maxRecDepth 100000 in
set_option maxHeartbeats 40000000 in
theorem tokenJoins_walk (s n : ByteArray) (w : World) (hs : s.size ≤ maxLen) (hn : n.size ≤ maxLen) (htab : Tab w) :
    Calls Tryd.prog 6 #[.string s, .string n] w fun e w' => e = .returned (.bool true) ∧ Below w.heap.size w w' := by
  have hpos := htab.pos
  have hsm := hs
  unfold maxLen at hs hn
  by_cases hg1 : 2000 < s.size
  · go_enter Tryd.func6, Tryd.ntmps6
    go_wp2_with (go_at_call 12; refine (live_any _ htab).mono ?_; rintro e w1 ⟨rfl, hb⟩)
    go_ret
    exact ⟨rfl, hb⟩
  by_cases hg2 : 20 < n.size
  · go_enter Tryd.func6, Tryd.ntmps6
    go_wp2_with (go_at_call 12; refine (live_any _ htab).mono ?_; rintro e w1 ⟨rfl, hb⟩)
    go_ret
    exact ⟨rfl, hb⟩
  have Hsc := Lib.hid (fun w => scan_any s w hsm)
  have Hcase := Lib.hid (scanR_cases s)
  generalize scanR s = R at *
  go_enter Tryd.func6, Tryd.ntmps6
  go_wp2_with (go_at_call 12; refine (live_any _ htab).mono ?_; rintro e w1 ⟨rfl, hb⟩)
  have hsz1 := hb.size
  have htab1 := htab.below hpos hb
  have Hb := Lib.hid hb
  clear htab hb
  go_loop [5] (fun i => ∃ k : Nat, NoLine n k ∧ k ≤ n.size ∧ i = .int .i64 k) (fun i => n.size - (intOf i).toNat)
  case atStart => exact ⟨0, NoLine.zero n, Nat.zero_le _, rfl⟩
  case round =>
    obtain ⟨k, hno, hkn, rfl⟩ := hrel
    by_cases hlt : k < n.size
    · by_cases hc : n[k].toNat = 10
      · have hc1 : ((n[k].toNat : Int) == 10) = true := by simp; omega
        clear hc
        go_wp2
        go_ret
        exact ⟨rfl, Hb.out⟩
      · have hc1 : ((n[k].toNat : Int) == 10) = false := by simp; omega
        have hno2 := hno.step hlt hc
        clear hc
        go_wp2
        go_round
        case rel => exact ⟨k + 1, hno2, by omega, by go_num⟩
        case measure => simp [intOf]; omega
    · have hnl := Lib.hid (hno.all (by omega))
      clear hno
      go_wp2_with fail
      refine (Hsc.out _ htab1).mono ?_
      rintro e w2 ⟨v, rfl, hown, hb2⟩
      have hsz2 := hb2.size
      have hb3 := Lib.hid (Hb.out.trans (hb2.mono hsz1))
      have htab2 := htab1.below (by omega) hb2
      clear hb2 htab1
      rcases Hcase.out with ⟨l, rfl, hch⟩ | ⟨nx, er, rfl, he, hn0, hn1⟩
      · obtain ⟨A, c, rfl, ht, hl⟩ := hown.form
        dsimp only at hl ht
        obtain ⟨init, last, hle, h1, h2, h3, h4⟩ := chain_good hch (Nat.zero_le _)
        have hsl : sizes l ≤ 2000 := by
          rw [hle, sizes_append]
          have : last.tx.size = 0 := by
            have := congrArg Prod.snd h1
            have h5 := congrArg List.length this
            simpa [NR.kt, ByteArray.toList_eq] using h5
          simp only [sizes]; omega
        have hlen : l.length ≤ 2001 := by rw [hle]; simp; omega
        have Ht := Lib.hid ht
        have Hch := Lib.hid hch
        have hlm := hl
        clear hle h1 h2 h3 h4 ht hch hown hl init last
        go_wp2_with fail
        go_loop [9, 10, 11] (fun x y i => ∃ (k : Nat) (X Y : ByteArray), JoinAt n l k X Y ∧ i = .int .i64 k ∧ x = .string X ∧ y = .string Y) (fun _ _ i => l.length - (intOf i).toNat)
        case atStart => exact ⟨0, _, _, JoinAt.start n l, rfl, rfl, rfl⟩
        case round =>
          obtain ⟨i, X, Y, hj, rfl, rfl, rfl⟩ := hrel
          obtain ⟨hX, hY⟩ := hj.size hsl hlen (by omega)
          have hil := hj.1
          by_cases hlt : i < l.length
          · obtain ⟨r, hr⟩ : ∃ r, l[i]? = some r := ⟨_, List.getElem?_eq_getElem hlt⟩
            obtain ⟨g, rfl, hg, d0, d1, d2⟩ := Ht.out i r hr
            have hrs := size_mem hr
            by_cases h300 : i < 300
            · have hj2 := hj.more hr h300
              clear hr hj d0 d1
              go_wp2
              go_round
              case rel => exact ⟨i + 1, _, _, hj2, by go_num, rfl, rfl⟩
              case measure => simp [intOf]; omega
            · have hj2 := hj.past hr h300
              clear hr hj d0 d1
              go_wp2
              go_round
              case rel => exact ⟨i + 1, _, _, hj2, by go_num, rfl, rfl⟩
              case measure => simp [intOf]; omega
          · obtain ⟨⟨m, hm1, hm2⟩, q, hq1, hq2, hq3⟩ := hj.scans hlt Hch.out (by omega) (by omega) hnl.out
            have Hx := Lib.hid (fun w => scan_any X w (by unfold maxLen; omega))
            have Hy := Lib.hid (fun w => scan_any Y w (by unfold maxLen; omega))
            rw [hm1] at Hx
            rw [hq1] at Hy
            dsimp only at Hx Hy
            have hml : m.length = l.length := by simpa using congrArg List.length hm2
            have Hm := Lib.hid hm2
            have Hq2 := Lib.hid hq2
            have Hq3 := Lib.hid hq3
            clear hm1 hq1 hm2 hq2 hq3 hj
            go_wp2_with fail
            refine (Hx.out _ htab2).mono ?_
            rintro e w3 ⟨v, rfl, hown, hb⟩
            obtain ⟨A3, c3, rfl, ht3, hl3⟩ := hown.form
            have hsz3 := hb.size
            have Ht' := Lib.hid (Ht.out.below hb)
            have htab3 := htab2.below (by omega) hb
            have hb4 := Lib.hid (hb3.out.trans (hb.mono (by omega)))
            clear hown hb
            go_wp2_with fail
            refine (Hy.out _ htab3).mono ?_
            rintro e w4 ⟨v, rfl, hown, hb⟩
            obtain ⟨A4, c4, rfl, ht4, hl4⟩ := hown.form
            have Ht4 := Lib.hid (Ht'.out.below hb)
            have Htm := Lib.hid (ht3.below hb)
            have Htq := Lib.hid ht4
            have hb5 := Lib.hid (hb4.out.trans (hb.mono (by omega)))
            clear hown hb ht3 ht4 htab3 htab2
            have hml1 : ((m.length : Int) != l.length) = false := by simp; omega
            have hml0 : m.length ≤ l.length ∧ l.length ≤ m.length := by omega
            clear hml
            by_cases h300 : l.length ≤ 300
            · have hq1 : ((q.length : Int) != l.length) = false := by have := Hq2.out h300; simp; omega
              go_wp2_with fail
              go_loopw [18] (fun i wr => ∃ k nq : Nat, k ≤ l.length ∧ i = .int .i64 k ∧ wr = w4.drewN nq) (fun i _ => l.length - (intOf i).toNat)
              case atStart => exact ⟨0, 0, Nat.zero_le _, rfl, rfl⟩
              case round =>
                obtain ⟨i, nq, hil, rfl, rfl⟩ := hrel
                by_cases hlt : i < l.length
                · obtain ⟨r, hr⟩ : ∃ r, l[i]? = some r := ⟨_, List.getElem?_eq_getElem hlt⟩
                  obtain ⟨x, hx⟩ : ∃ x, m[i]? = some x := ⟨_, List.getElem?_eq_getElem (by omega)⟩
                  obtain ⟨g, rfl, hg, d0, d1, d2⟩ := Ht4.out i r hr
                  obtain ⟨g', rfl, hg', f0, f1, f2⟩ := Htm.out i x hx
                  have hkt : NR.kt x = NR.kt r := by
                    have h := congrArg (·[i]?) Hm.out
                    simpa [hr, hx] using h
                  have hk1 : (r.kd != x.kd) = false := by
                    have := congrArg Prod.fst hkt
                    simp only [NR.kt] at this; simp [this]
                  have ht1 : (r.tx.toList == x.tx.toList) = true := by
                    have := congrArg Prod.snd hkt
                    simp only [NR.kt] at this; simp [this]
                  clear hkt d1 f1
                  have hml2 : i < m.length := by omega
                  by_cases h3 : i < 300
                  · have h3i : (i : Int) < 300 := by omega
                    by_cases hq : i < q.length
                    · obtain ⟨z, hz⟩ : ∃ z, q[i]? = some z := ⟨_, List.getElem?_eq_getElem hq⟩
                      obtain ⟨g'', rfl, hg'', p0, p1, p2⟩ := Htq.out i z hz
                      clear p1
                      by_cases hz0 : z.kd = 0
                      · have hz1 : (z.kd != 0) = false := by simp [hz0]
                        clear hr hx hz hz0
                        go_wp2_with fail
                        try simp only [List.append_eq, List.cons_append, List.nil_append]
                        go_big_quiet (fail)
                        go_wp2
                        go_roundw
                        case rel => exact ⟨i + 1, _, by omega, by go_num, rfl⟩
                        case measure => simp [intOf]; omega
                      · have hkt : NR.kt z = NR.kt r := Hq3.out i z h3 hz hz0 r hr
                        have hz1 : (z.kd != 0) = true := by simp [hz0]
                        have hk2 : (z.kd != r.kd) = false := by
                          have := congrArg Prod.fst hkt
                          simp only [NR.kt] at this; simp [this]
                        have ht2 : (z.tx.toList == r.tx.toList) = true := by
                          have := congrArg Prod.snd hkt
                          simp only [NR.kt] at this; simp [this]
                        clear hr hx hz hkt hz0
                        go_wp2_with fail
                        try simp only [List.append_eq, List.cons_append, List.nil_append]
                        go_big_quiet (fail)
                        go_wp2
                        go_roundw
                        case rel => exact ⟨i + 1, _, by omega, by go_num, rfl⟩
                        case measure => simp [intOf]; omega
                    · have hqd : decide (i < q.length) = false := by simp; omega
                      clear hr hx
                      go_wp2_with fail
                      try simp only [List.append_eq, List.cons_append, List.nil_append]
                      go_big_quiet (fail)
                      go_wp2
                      go_roundw
                      case rel => exact ⟨i + 1, _, by omega, by go_num, rfl⟩
                      case measure => simp [intOf]; omega
                  · exact absurd hlt (by omega)
                · go_wp2
                  go_ret
                  exact ⟨rfl, below_drewN hb5.out _⟩
            · go_wp2_with fail
              go_loopw [18] (fun i wr => ∃ k nq : Nat, k ≤ l.length ∧ i = .int .i64 k ∧ wr = w4.drewN nq) (fun i _ => l.length - (intOf i).toNat)
              case atStart => exact ⟨0, 0, Nat.zero_le _, rfl, rfl⟩
              case round =>
                obtain ⟨i, nq, hil, rfl, rfl⟩ := hrel
                by_cases hlt : i < l.length
                · obtain ⟨r, hr⟩ : ∃ r, l[i]? = some r := ⟨_, List.getElem?_eq_getElem hlt⟩
                  obtain ⟨x, hx⟩ : ∃ x, m[i]? = some x := ⟨_, List.getElem?_eq_getElem (by omega)⟩
                  obtain ⟨g, rfl, hg, d0, d1, d2⟩ := Ht4.out i r hr
                  obtain ⟨g', rfl, hg', f0, f1, f2⟩ := Htm.out i x hx
                  have hkt : NR.kt x = NR.kt r := by
                    have h := congrArg (·[i]?) Hm.out
                    simpa [hr, hx] using h
                  have hk1 : (r.kd != x.kd) = false := by
                    have := congrArg Prod.fst hkt
                    simp only [NR.kt] at this; simp [this]
                  have ht1 : (r.tx.toList == x.tx.toList) = true := by
                    have := congrArg Prod.snd hkt
                    simp only [NR.kt] at this; simp [this]
                  clear hkt d1 f1
                  have hml2 : i < m.length := by omega
                  by_cases h3 : i < 300
                  · have h3i : (i : Int) < 300 := by omega
                    by_cases hq : i < q.length
                    · obtain ⟨z, hz⟩ : ∃ z, q[i]? = some z := ⟨_, List.getElem?_eq_getElem hq⟩
                      obtain ⟨g'', rfl, hg'', p0, p1, p2⟩ := Htq.out i z hz
                      clear p1
                      by_cases hz0 : z.kd = 0
                      · have hz1 : (z.kd != 0) = false := by simp [hz0]
                        clear hr hx hz hz0
                        go_wp2_with fail
                        try simp only [List.append_eq, List.cons_append, List.nil_append]
                        go_big_quiet (fail)
                        go_wp2
                        go_roundw
                        case rel => exact ⟨i + 1, _, by omega, by go_num, rfl⟩
                        case measure => simp [intOf]; omega
                      · have hkt : NR.kt z = NR.kt r := Hq3.out i z h3 hz hz0 r hr
                        have hz1 : (z.kd != 0) = true := by simp [hz0]
                        have hk2 : (z.kd != r.kd) = false := by
                          have := congrArg Prod.fst hkt
                          simp only [NR.kt] at this; simp [this]
                        have ht2 : (z.tx.toList == r.tx.toList) = true := by
                          have := congrArg Prod.snd hkt
                          simp only [NR.kt] at this; simp [this]
                        clear hr hx hz hkt hz0
                        go_wp2_with fail
                        try simp only [List.append_eq, List.cons_append, List.nil_append]
                        go_big_quiet (fail)
                        go_wp2
                        go_roundw
                        case rel => exact ⟨i + 1, _, by omega, by go_num, rfl⟩
                        case measure => simp [intOf]; omega
                    · have hqd : decide (i < q.length) = false := by simp; omega
                      clear hr hx
                      go_wp2_with fail
                      try simp only [List.append_eq, List.cons_append, List.nil_append]
                      go_big_quiet (fail)
                      go_wp2
                      go_roundw
                      case rel => exact ⟨i + 1, _, by omega, by go_num, rfl⟩
                      case measure => simp [intOf]; omega
                  · have h3d : decide ((i : Int) < 300) = false := by simp; omega
                    clear hr hx
                    go_wp2_with fail
                    try simp only [List.append_eq, List.cons_append, List.nil_append]
                    go_big_quiet (fail)
                    go_wp2
                    go_roundw
                    case rel => exact ⟨i + 1, _, by omega, by go_num, rfl⟩
                    case measure => simp [intOf]; omega
                · go_wp2
                  go_ret
                  exact ⟨rfl, below_drewN hb5.out _⟩
      · obtain ⟨A, c, rfl, ht, hl⟩ := hown.form
        have he1 : (er != 0) = true := by simp [he]
        clear he
        go_wp2
        go_ret
        exact ⟨rfl, hb3.out⟩
end Go.Proofs.YtmahhaabhaigiaaDoor
