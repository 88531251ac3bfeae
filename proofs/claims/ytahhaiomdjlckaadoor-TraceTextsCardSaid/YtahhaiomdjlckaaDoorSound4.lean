/-
  Append: onto a slice whose capacity is its length, and onto an object.
-/
import Derived.Test.YtahhaiomdjlckaaDoorSound3
namespace Go.Proofs.YtahhaiomdjlckaaDoor
set_option linter.unusedVariables false
set_option linter.unusedSimpArgs false
open Go.RowKit

section
variable {P : Program} {w0 : World} {n : Nat} {o : Oper} {α : AA} {S S' : Store} {r : AV}
theorem flat_len {rows : List (List AV)} {sz : Nat} (h : ∀ r ∈ rows, r.length = sz) : rows.flatten.length = rows.length * sz := by
  induction rows with
  | nil => simp
  | cons r rs ih =>
    rw [List.flatten_cons, List.length_append, ih (fun x hx => h x (by simp [hx])), h r (by simp), List.length_cons, Nat.add_mul, Nat.one_mul, Nat.add_comm]
theorem flat_get {sz j : Nat} : ∀ {rows : List (List AV)} {i : Nat} {row : List AV}, (∀ r ∈ rows, r.length = sz) → rows[i]? = some row → j < sz → rows.flatten[i * sz + j]? = row[j]?
  | [], i, row, _, hi, _ => by simp at hi
  | r :: rs, 0, row, h, hi, hj => by
    simp at hi
    subst hi
    rw [List.flatten_cons, List.getElem?_append_left (by rw [h r (by simp)]; omega)]
    simp
  | r :: rs, i + 1, row, h, hi, hj => by
    simp at hi
    have hr := h r (by simp)
    rw [List.flatten_cons, List.getElem?_append_right (by rw [hr, Nat.add_mul]; omega), hr, show (i + 1) * sz + j - sz = i * sz + j by rw [Nat.add_mul]; omega]
    exact flat_get (fun x hx => h x (by simp [hx])) hi hj
theorem flat_inv {sz : Nat} : ∀ {rows : List (List AV)} {q : Nat} {a : AV}, (∀ r ∈ rows, r.length = sz) → rows.flatten[q]? = some a → ∃ i j row, rows[i]? = some row ∧ row[j]? = some a ∧ q = i * sz + j
  | [], q, a, _, hq => by simp at hq
  | r :: rs, q, a, h, hq => by
    have hr := h r (by simp)
    by_cases c : q < sz
    · rw [List.flatten_cons, List.getElem?_append_left (by omega)] at hq
      exact ⟨0, q, r, rfl, hq, by omega⟩
    · rw [List.flatten_cons, List.getElem?_append_right (by omega), hr] at hq
      obtain ⟨i, j, row, h1, h2, h3⟩ := flat_inv (fun x hx => h x (by simp [hx])) hq
      exact ⟨i + 1, j, row, h1, h2, by rw [Nat.add_mul]; omega⟩
/-- the cells of rows, in a list. -/
def Src (g : Gh) (w : World) (sz : Nat) (rows : List (List AV)) (a : Addr) (news : List Value) : Prop :=
  news.length = rows.length * sz ∧ (∀ j u, news[j]? = some u → w.cell? (a.add j) = some u) ∧ ∀ (i : Nat) (row : List AV), rows[i]? = some row → ∀ (j : Nat) (a : AV), row[j]? = some a → ∃ x, news[i * sz + j]? = some x ∧ Rep g w a x
theorem src_of_cells {g : Gh} {w : World} {sz b q : Nat} {rows : List (List AV)} (hl : ∀ r ∈ rows, r.length = sz) (h : ∀ (i j : Nat) (row : List AV) (a : AV), rows[i]? = some row → row[j]? = some a → ∃ x, w.cell? ⟨b, q + (i * sz + j), none⟩ = some x ∧ Rep g w a x) :
    ∃ news, Src g w sz rows ⟨b, q, none⟩ news := by
  obtain ⟨cs, h1, h2, h3⟩ := Cells.list (g := g) (w := w) (b := b) (row := rows.flatten) (o := q) (fun p a ha => by
    obtain ⟨i, j, row, hi, hj, e⟩ := flat_inv hl ha
    rw [e]
    exact h i j row a hi hj)
  refine ⟨cs, h1.trans (flat_len hl), fun j u hu => by rw [addr_add]; exact h2 j u hu, fun i row hi j a ha => ?_⟩
  have hj : j < sz := by rw [← hl row (List.mem_of_getElem? hi)]; exact (List.getElem?_eq_some_iff.1 ha).1
  have hf := flat_get hl hi hj
  have hlt : i * sz + j < cs.length := by rw [h1, flat_len hl]; exact mul_in (List.getElem?_eq_some_iff.1 hi).1 hj
  exact ⟨cs[i * sz + j], List.getElem?_eq_getElem hlt, h3 _ a _ (hf.trans ha) (List.getElem?_eq_getElem hlt)⟩
theorem ob_inv {g : Gh} {w : World} {k sz off len : Nat} {cx : Option Nat} {v : Value} (h : Rep g w (.ob k sz off len cx) v) : ∃ c, v = .slice (some ⟨g.ob k, off * sz, none⟩) len c ∧ g.al k ∧ (∀ m, cx = some m → c = m) ∧ off + c ≤ g.cp k ∧ (cx = none → off + c = g.cp k) ∧ len ≤ c := by
  cases h with
  | ob hk hc hp hx hle => exact ⟨_, rfl, hk, hc, hp, hx, hle⟩
theorem drop_take_get {β : Type} {rows : List β} {off len i : Nat} {row : β} (h : ((rows.drop off).take len)[i]? = some row) : i < len ∧ rows[off + i]? = some row := by
  rw [List.getElem?_take] at h
  split at h
  · rename_i hi
    rw [List.getElem?_drop] at h
    exact ⟨hi, h⟩
  · cases h
/-- the rows of a slice, as cells. -/
theorem rowsOf_src {A : Nat → Prop} {g : Gh} {w : World} {a : AV} {v : Value} {rows : List (List AV)} {sz : Nat} (hS : St w0 A g S w) (h : rowsOf S a = some rows) (hr : Rep g w a v) (hn : rows ≠ []) (hl : ∀ r ∈ rows, r.length = sz) (hlen : lenA a = some rows.length) :
    ∃ b q c news, v = .slice (some ⟨b, q, none⟩) rows.length c ∧ rows.length ≤ c ∧ Src g w sz rows ⟨b, q, none⟩ news := by
  unfold rowsOf at h
  split at h
  · rename_i ex rows'
    obtain rfl := Option.some.inj h
    cases hr with
    | nil => exact absurd rfl hn
    | @sl _ _ b q sz' c val hn' hc hle hl' h1 h2 =>
      have e : sz' = sz := by
        obtain ⟨r0, rs, rfl⟩ := List.exists_cons_of_ne_nil hn
        have h3 := hl' 0 r0 rfl
        have h4 := hl r0 (by simp)
        omega
      subst e
      obtain ⟨news, hs⟩ := src_of_cells (g := g) (w := w) (b := b) (q := q) hl (fun i j row a hi hj => ⟨_, (h1 i j row a hi hj).2, h2 i j row a hi hj⟩)
      exact ⟨b, q, c, news, rfl, hle, hs⟩
  · rename_i k sz' off len cx
    split at h
    · rename_i sz2 rows' fz ex hk
      split at h
      · rename_i hsz
        have hsz := Nat.eq_of_beq_eq_true hsz
        subst hsz
        obtain rfl := Option.some.inj h
        obtain ⟨c, rfl, hal, hc, hp, hx, hle⟩ := ob_inv hr
        obtain ⟨k2, k3, cs, ty, h1, h2, h3, h4, h5, h6, h7⟩ := hS.obs k _ hk hal
        have e : sz' = sz := by
          obtain ⟨r0, rs, e0⟩ := List.exists_cons_of_ne_nil hn
          have h8 : ((rows'.drop off).take len)[0]? = some r0 := by rw [e0]; rfl
          have h9 := (h5 _ r0 (drop_take_get h8).2).1
          have h10 := hl r0 (by rw [e0]; simp)
          omega
        subst e
        obtain ⟨news, hs⟩ := src_of_cells (g := g) (w := w) (b := g.ob k) (q := off * sz') hl (fun i j row a hi hj => by
          obtain ⟨x, hx1, hx2⟩ := (h5 _ row (drop_take_get hi).2).2 j a hj
          refine ⟨x, ?_, hx2⟩
          rw [cell_of_row _ _ _ cs ty (0, 0) h1, ← hx1, Nat.add_mul, Nat.add_assoc])
        have e2 : len = ((rows'.drop off).take len).length := by simpa [lenA] using hlen
        exact ⟨_, _, c, news, by rw [← e2], by rw [← e2]; exact hle, hs⟩
      · cases h
    · cases h
  · cases h
theorem rowsOf_nil {g : Gh} {w : World} {a : AV} {v : Value} (hlen : lenA a = some 0) (h : rowsOf S a = some []) (hr : Rep g w a v) : ∃ B c, v = .slice B 0 c := by
  rcases lenA_rep hlen hr with ⟨B, c, e⟩ | ⟨s, e, _⟩
  · exact ⟨B, c, e⟩
  · rw [e] at hr
    cases hr with
    | v => simp [rowsOf] at h
    | u => simp [rowsOf] at h
theorem append_types {t t2 ty e e2 : TypeId} {w : World} {x y : Value} (ht : P.underlying t = some (.slice e)) (ht2 : P.underlying t2 = some (.slice e2)) : (Builtin.append_ #[t, t2] ty #[x, y]).run P w = (Builtin.append_ #[t, t] ty #[x, y]).run P w := by
  simp only [Builtin.append_, List.getElem?_toArray, List.getElem?_cons_zero, List.getElem?_cons_succ, Sem.run_bind, run_underlying ht, run_underlying ht2, Result.andThen_ok]
  cases x <;> first | rfl | simp only [Sem.run_bind, run_underlying ht, run_underlying ht2, Result.andThen_ok, Sem.run_pure]
theorem run_append_room' (w : World) (t ty e bty : TypeId) (i : TypeInfo) (ht : P.underlying t = some (.slice e)) (hi : P.info? e = some i)
    (g q sLen sCap : Nat) (cur : Array Value) (hg : w.heap[g]? = some (.cells cur bty (0, 0)))
    (a : Addr) (m c : Nat) (news : List Value) (hl : news.length = m * i.size) (hnews : ∀ j u, news[j]? = some u → w.cell? (a.add j) = some u) (h1 : ∀ u ∈ news, u.oneCell' = true)
    (hroom : sLen + m ≤ sCap) (hfit : q + sLen * i.size + news.length ≤ cur.size) :
    (Builtin.append_ #[t, t] ty #[.slice (some ⟨g, q, none⟩) sLen sCap, .slice (some a) m c]).run P w =
      .ok (.slice (some ⟨g, q, none⟩) (sLen + m) sCap) (w.setRow g (cur.toList.take (q + sLen * i.size) ++ news ++ cur.toList.drop (q + sLen * i.size + news.length)).toArray) := by
  have hf := run_firstCells_some (P := P) w i.size m a m c news hl hnews
  have hst := run_storeCells_at P g (q + sLen * i.size) bty news 0 cur w hg (by simpa using hfit) h1
  simp only [Nat.add_zero] at hst
  simp [Builtin.append_, run_underlying ht, sizeOf, typeInfo, hi, Builtin.lenOf, hroom, hf, addr_add, hst]
/-- the rows of an object, with others behind them. -/
theorem rows_append {g : Gh} {w : World} {sz : Nat} {b b2 : Addr} {rows more : List (List AV)} {olds news : List Value} {rest : Array Value} (h1 : Src g w sz rows b olds) (h2 : Src g w sz more b2 news) (hl : ∀ r ∈ rows, r.length = sz) (hl2 : ∀ r ∈ more, r.length = sz) :
    ∀ (i : Nat) (row : List AV), (rows ++ more)[i]? = some row → row.length = sz ∧ ∀ (j : Nat) (a : AV), row[j]? = some a → ∃ x, (olds.toArray ++ news.toArray ++ rest)[i * sz + j]? = some x ∧ Rep g w a x := by
  intro i row hi
  refine ⟨?_, fun j a ha => ?_⟩
  · have := List.mem_of_getElem? hi
    rcases List.mem_append.1 this with h | h
    · exact hl _ h
    · exact hl2 _ h
  · have hj : ∀ hm : row.length = sz, j < sz := fun hm => by rw [← hm]; exact (List.getElem?_eq_some_iff.1 ha).1
    by_cases c : i < rows.length
    · rw [List.getElem?_append_left c] at hi
      obtain ⟨x, hx, hr⟩ := h1.2.2 i row hi j a ha
      refine ⟨x, ?_, hr⟩
      have hlt := (List.getElem?_eq_some_iff.1 hx).1
      rw [Array.append_assoc, Array.getElem?_append_left (by simpa using hlt)]
      simpa using hx
    · rw [List.getElem?_append_right (by omega)] at hi
      obtain ⟨x, hx, hr⟩ := h2.2.2 _ row hi j a ha
      refine ⟨x, ?_, hr⟩
      have hlt := (List.getElem?_eq_some_iff.1 hx).1
      have e : i * sz = rows.length * sz + (i - rows.length) * sz := by rw [← Nat.add_mul]; congr 1; omega
      rw [Array.getElem?_append_left (by simp [h1.1]; omega), Array.getElem?_append_right (by simp [h1.1]; omega)]
      simp only [List.size_toArray, h1.1, List.getElem?_toArray]
      rw [show i * sz + j - rows.length * sz = (i - rows.length) * sz + j by omega]
      exact hx
/-- an append that makes a new block. -/
theorem append_new {A : Nat → Prop} {g : Gh} {w : World} {t t2 ty e e2 : TypeId} {z : Value} {sz by_ : Nat} (hS : St w0 A g S w) (ht : P.underlying t = some (.slice e)) (ht2 : P.underlying t2 = some (.slice e2)) (hz : zeroT P e = some z) (hs : szT P e = some sz) (hby : bytesT P e = some by_) (hzs : z.cells.size = sz)
    {rows more : List (List AV)} {B : Option Addr} {sCap : Nat} {b2 q2 c2 : Nat} {news : List Value} (hold : (B = none ∧ rows = [] ∧ sCap = 0) ∨ ∃ b olds, B = some b ∧ Src g w sz rows b olds) (hnew : Src g w sz more ⟨b2, q2, none⟩ news) (hl : ∀ r ∈ rows, r.length = sz) (hl2 : ∀ r ∈ more, r.length = sz)
    (hn : more ≠ []) (hg : sCap < rows.length + more.length) (hfit : (rows.length + more.length) * by_ ≤ 35184372088832) (hb0 : 0 < by_) :
    ∃ v w' g', (Builtin.append_ #[t, t2] ty #[.slice B rows.length sCap, .slice (some ⟨b2, q2, none⟩) more.length c2]).run P w = .ok v w' ∧ Rep g' w' (.ob S.nx sz 0 (rows.length + more.length) none) v ∧ St w0 A g' (S.new (.arr sz (rows ++ more) 0 false)) w' ∧ Ext A g w g' w' := by
  obtain ⟨i, hi, hsz⟩ := szT_info hs
  have hzz : i.zero = some z := by unfold zeroT at hz; rw [hi] at hz; simpa using hz
  have hbb : i.bytes = by_ := by unfold bytesT at hby; rw [hi] at hby; simpa using hby
  have hnl : 0 < more.length := List.length_pos_iff.2 hn
  have hmul : rows.length + more.length ≤ 35184372088832 := Nat.le_trans (Nat.le_mul_of_pos_right _ hb0) hfit
  have hcapge := grownCap_ge w (rows.length + more.length) sCap e
  obtain ⟨olds, hrows, hrun⟩ : ∃ olds : List Value, (∀ rest, ∀ (i : Nat) (row : List AV), (rows ++ more)[i]? = some row → row.length = sz ∧ ∀ (j : Nat) (a : AV), row[j]? = some a → ∃ x, (olds.toArray ++ news.toArray ++ rest)[i * sz + j]? = some x ∧ Rep g w a x) ∧
      (olds.length = rows.length * sz ∧ (Builtin.append_ #[t, t] ty #[.slice B rows.length sCap, .slice (some ⟨b2, q2, none⟩) more.length c2]).run P w =
      .ok (.slice (some ⟨w.heap.size, 0, none⟩) (rows.length + more.length) (grownCap w (rows.length + more.length) sCap e)) (w.drew.alloc (.cells (olds.toArray ++ news.toArray ++ Builtin.zeroCells z.cells (grownCap w (rows.length + more.length) sCap e - (rows.length + more.length))) e))) := by
    rcases hold with ⟨rfl, rfl, rfl⟩ | ⟨b, olds, rfl, ho⟩
    · refine ⟨[], fun rest => rows_append (b := ⟨0, 0, none⟩) ⟨by simp, fun j u hu => by simp at hu, fun i row hi => by simp at hi⟩ hnew hl hl2, by simp, ?_⟩
      have := run_append_nil (P := P) w t ty e i z ht hi hzz ⟨b2, q2, none⟩ more.length c2 news (by rw [hnew.1, hsz]) hnew.2.1 hnl (by omega) (by rw [hbb]; simp at hfit; omega)
      simpa using this
    · refine ⟨olds, fun rest => rows_append ho hnew hl hl2, ho.1, ?_⟩
      have hns := Go.Room.nextslicecap_le' hg
      exact run_append_grow (P := P) w t ty e i z ht hi hzz b rows.length sCap olds (by rw [ho.1, hsz]) ho.2.1 ⟨b2, q2, none⟩ more.length c2 news (by rw [hnew.1, hsz]) hnew.2.1 hg (by omega)
        (Nat.le_trans (Nat.mul_le_mul_right _ hns) (by rw [hbb, Nat.mul_assoc]; omega))
  obtain ⟨hlen, hrun⟩ := hrun
  obtain ⟨hE0, hS0⟩ := hS.drew
  have hfresh : ∀ q, ¬ g.fz w.heap.size q := fun q hf => absurd (hS.fzlt _ _ hf) (Nat.lt_irrefl _)
  obtain ⟨hE, hSt⟩ := hS0.new (.cells (olds.toArray ++ news.toArray ++ Builtin.zeroCells z.cells (grownCap w (rows.length + more.length) sCap e - (rows.length + more.length))) e) (.arr sz (rows ++ more) 0 false) (grownCap w (rows.length + more.length) sCap e) (fun hL => by
    refine ⟨_, e, heap_push_new, ?_, by simpa using hcapge, fun h => by simp at h, fun i row hr => ⟨(hrows #[] i row hr).1, fun j a ha => ?_⟩, Nat.zero_le _, fun q => ⟨fun h => absurd h (hfresh q), fun h => by simp at h⟩⟩
    · simp only [Array.size_append, List.size_toArray, hlen, hnew.1, size_zeroCells, hzs]
      rw [← Nat.add_mul, ← Nat.add_mul]
      congr 1
      omega
    · obtain ⟨x, hx, hrx⟩ := (hrows _ i row hr).2 j a ha
      exact ⟨x, hx, (hrx.later hE0.toLater).later hL⟩)
  refine ⟨_, _, _, (append_types ht ht2).trans hrun, ?_, hSt, hE0.trans hE⟩
  have := Rep.ob (g := g.new S.nx w.drew.heap.size (grownCap w (rows.length + more.length) sCap e)) (w := w.drew.alloc (.cells (olds.toArray ++ news.toArray ++ Builtin.zeroCells z.cells (grownCap w (rows.length + more.length) sCap e - (rows.length + more.length))) e))
    (k := S.nx) (sz := sz) (off := 0) (len := rows.length + more.length) (c := grownCap w (rows.length + more.length) sCap e) (cx := none) (.inr rfl) (fun m h => by cases h) (by rw [Nat.zero_add]; exact Nat.le_of_eq (upd_same _ _ _).symm) (fun _ => by rw [Nat.zero_add]; exact (upd_same _ _ _).symm) hcapge
  rw [show (g.new S.nx w.drew.heap.size (grownCap w (rows.length + more.length) sCap e)).ob S.nx = w.heap.size from upd_same _ _ _, Nat.zero_mul] at this
  exact this
/-- an object takes another name. -/
theorem St.rename {A : Nat → Prop} {g : Gh} {w : World} {k : Nat} {ob : Ob} (hS : St w0 A g S w) (hk : S.get k = some ob) (ha : g.al k) : Ext A g w (g.new S.nx (g.ob k) (g.cp k)) w ∧ St w0 A (g.new S.nx (g.ob k) (g.cp k)) ((S.set k none).new ob) w := by
  have hne : ∀ j, g.al j → j ≠ S.nx := fun j hj e => absurd (hS.al j hj) (by omega)
  have hob1 : ∀ j, g.al j → (g.new S.nx (g.ob k) (g.cp k)).ob j = g.ob j := fun j hj => upd_other _ _ (hne j hj)
  have hcp1 : ∀ j, g.al j → (g.new S.nx (g.ob k) (g.cp k)).cp j = g.cp j := fun j hj => upd_other _ _ (hne j hj)
  have e1 : (g.new S.nx (g.ob k) (g.cp k)).ob S.nx = g.ob k := upd_same _ _ _
  have e2 : (g.new S.nx (g.ob k) (g.cp k)).cp S.nx = g.cp k := upd_same _ _ _
  have hL : Later g w (g.new S.nx (g.ob k) (g.cp k)) w := ⟨fun j hj => .inl hj, hob1, hcp1, fun _ _ h => h, fun _ _ _ => rfl⟩
  have hE : Ext A g w (g.new S.nx (g.ob k) (g.cp k)) w := { hL with size := Nat.le_refl _, keep := fun _ _ _ => rfl, nfz := fun _ _ h => .inl h }
  have key : ∀ j p, ((S.set k none).new ob).get j = some p → (j = S.nx ∧ p = ob) ∨ (j ≠ S.nx ∧ j ≠ k ∧ S.get j = some p) := by
    intro j p hj
    have hj : upd (upd S.get k none) S.nx (some ob) j = some p := hj
    by_cases c : j = S.nx
    · subst c
      rw [upd_same] at hj
      exact .inl ⟨rfl, (Option.some.inj hj).symm⟩
    · rw [upd_other _ _ c] at hj
      by_cases d : j = k
      · subst d
        rw [upd_same] at hj
        cases hj
      · rw [upd_other _ _ d] at hj
        exact .inr ⟨c, d, hj⟩
  obtain ⟨k2, k3, k4⟩ := hS.obs k ob hk ha
  refine ⟨hE, hS.next hE rfl rfl rfl (fun j hj => hj.elim (fun h => Nat.lt_succ_of_lt (hS.al j h)) fun e => by rw [e]; exact Nat.lt_succ_self _) (fun j p hj aj => ?_) (fun i j p q hi hj ai aj e => ?_) hS.fzlt⟩
  · rcases key j p hj with ⟨rfl, rfl⟩ | ⟨c, d, hj'⟩
    · rw [e1, e2]
      exact ⟨k2, k3, k4.later hL rfl (fun _ h => h)⟩
    · have aj' : g.al j := aj.resolve_right c
      obtain ⟨h2, h3, h4⟩ := hS.obs j p hj' aj'
      rw [hob1 j aj', hcp1 j aj']
      exact ⟨h2, h3, h4.later hL rfl (fun _ h => h)⟩
  · rcases key i p hi with ⟨rfl, rfl⟩ | ⟨c, d, hi'⟩ <;> rcases key j q hj with ⟨rfl, rfl⟩ | ⟨c', d', hj'⟩
    · rfl
    · have aj' : g.al j := aj.resolve_right c'
      rw [e1, hob1 j aj'] at e
      exact absurd (hS.inj k j _ q hk hj' ha aj' e) (Ne.symm d')
    · have ai' : g.al i := ai.resolve_right c
      rw [e1, hob1 i ai'] at e
      exact absurd (hS.inj i k p _ hi' hk ai' ha e) d
    · have ai' : g.al i := ai.resolve_right c
      have aj' : g.al j := aj.resolve_right c'
      rw [hob1 i ai', hob1 j aj'] at e
      exact hS.inj i j p q hi' hj' ai' aj' e
end
end Go.Proofs.YtahhaiomdjlckaaDoor
