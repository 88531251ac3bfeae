/-
  The orders that a region may draw; the check of a region; the run of a region that draws its order.
-/
import Derived.Test.YtahhaiomdjlckaaDoorDraw2
namespace Go.Proofs.YtahhaiomdjlckaaDoor
set_option linter.unusedVariables false
set_option linter.unusedSimpArgs false
open Go.RowKit

section
variable {P : Program} {w0 : World} {n : Nat} {α : AA} {S S' : Store} {ops : Array Oper}
/-- what stands before an operation by its edges. -/
def before1 (acc : List Nat) (o : Oper) : Nat := o.after.toList.foldl (fun s e => if Region.binds .any e then s ||| (2 ^ e.on ||| acc.getD e.on 0) else s) 0
def beforeL (acc : List Nat) : List Oper → List Nat
  | [] => acc
  | o :: os => beforeL (acc ++ [before1 acc o]) os
def edgesOk (k : Nat) : List Oper → Bool
  | [] => true
  | o :: os => o.after.toList.all (fun e => !Region.binds .any e || Nat.blt e.on k) && edgesOk (k + 1) os
def pairsOk (ops : Array Oper) (m : List Nat) (y : Nat) : Nat → Bool
  | 0 => true
  | x + 1 => ((m.getD y 0).testBit x || okPair ops x y) && pairsOk ops m y x
def allPairs (ops : Array Oper) (m : List Nat) : Nat → Bool
  | 0 => true
  | y + 1 => pairsOk ops m y y && allPairs ops m y
def drawOk (ops : Array Oper) : Bool := edgesOk 0 ops.toList && allPairs ops (beforeL [] ops.toList) ops.size
theorem before1_bit {acc : List Nat} {o : Oper} {x : Nat} (h : (before1 acc o).testBit x = true) : ∃ e ∈ o.after.toList, Region.binds .any e = true ∧ (x = e.on ∨ (acc.getD e.on 0).testBit x = true) := by
  have key : ∀ (l : List Edge) (s : Nat), (l.foldl (fun s e => if Region.binds .any e then s ||| (2 ^ e.on ||| acc.getD e.on 0) else s) s).testBit x = true → s.testBit x = true ∨ ∃ e ∈ l, Region.binds .any e = true ∧ (x = e.on ∨ (acc.getD e.on 0).testBit x = true) := by
    intro l
    induction l with
    | nil => exact fun s h => .inl h
    | cons e l ih =>
      intro s h
      rw [List.foldl_cons] at h
      rcases ih _ h with h1 | ⟨e', he', h1⟩
      · by_cases hb : Region.binds .any e = true
        · rw [if_pos hb, Nat.testBit_or, Nat.testBit_or, Bool.or_eq_true, Bool.or_eq_true] at h1
          rcases h1 with h1 | h1 | h1
          · exact .inl h1
          · rw [Nat.testBit_two_pow] at h1
            exact .inr ⟨e, by simp, hb, .inl (by simpa using h1 : e.on = x).symm⟩
          · exact .inr ⟨e, by simp, hb, .inr h1⟩
        · rw [if_neg hb] at h1
          exact .inl h1
      · exact .inr ⟨e', by simp [he'], h1⟩
  rcases key _ 0 h with h1 | h1
  · simp at h1
  · exact h1
theorem beforeL_get : ∀ {os : List Oper} {acc : List Nat} {i : Nat} {o : Oper}, os[i]? = some o → ∃ acc', (beforeL acc os).getD (acc.length + i) 0 = before1 acc' o ∧ (∀ j, j < acc.length + i → acc'.getD j 0 = (beforeL acc os).getD j 0) ∧ acc'.length = acc.length + i
  | [], acc, i, o, h => by simp at h
  | p :: os, acc, i, o, h => by
    have keep : ∀ (os : List Oper) (acc : List Nat) (j : Nat), j < acc.length → (beforeL acc os).getD j 0 = acc.getD j 0 := by
      intro os
      induction os with
      | nil => intro acc j hj; rfl
      | cons p os ih =>
        intro acc j hj
        rw [beforeL, ih _ _ (by simp; omega)]
        simp [List.getElem?_append_left hj]
    cases i with
    | zero =>
      simp at h
      subst h
      refine ⟨acc, ?_, fun j hj => ?_, rfl⟩
      · rw [beforeL, keep _ _ _ (by simp)]
        simp
      · rw [beforeL, keep _ _ _ (by simp at hj ⊢; omega)]
        simp [List.getElem?_append_left (show j < acc.length by simpa using hj)]
    | succ i =>
      simp at h
      obtain ⟨acc', h1, h2, h3⟩ := beforeL_get (acc := acc ++ [before1 acc p]) h
      simp only [List.length_append, List.length_cons, List.length_nil] at h1 h2 h3
      refine ⟨acc', ?_, fun j hj => ?_, by omega⟩
      · rw [beforeL, show acc.length + (i + 1) = acc.length + (0 + 1) + i by omega]
        exact h1
      · rw [beforeL]
        exact h2 j (by omega)
theorem edges_get : ∀ {os : List Oper} {k i : Nat} {o : Oper}, edgesOk k os = true → os[i]? = some o → ∀ e ∈ o.after.toList, Region.binds .any e = true → e.on < k + i
  | [], k, i, o, _, h => by simp at h
  | p :: os, k, i, o, hk, h => by
    simp only [edgesOk, Bool.and_eq_true] at hk
    cases i with
    | zero =>
      simp at h
      subst h
      intro e he hb
      have := List.all_eq_true.1 hk.1 e he
      rw [hb] at this
      simp at this
      omega
    | succ i =>
      simp at h
      intro e he hb
      have := edges_get hk.2 h e he hb
      omega
/-- what is known while an order is drawn. -/
structure Drawn (ops : Array Oper) (listed : Array Bool) : Prop where
  size : listed.size = ops.size
  closed : ∀ y x, listed.getD y false = true → ((beforeL [] ops.toList).getD y 0).testBit x = true → listed.getD x false = true
theorem ready_mem {listed : Array Bool} {i : Nat} (hl : listed.size = ops.size) (h : i ∈ Region.ready .any ops listed) : ∃ o, ops[i]? = some o ∧ i < ops.size ∧ listed.getD i false = false ∧ ∀ e ∈ o.after.toList, Region.binds .any e = true → listed.getD e.on false = true := by
  unfold Region.ready at h
  rw [List.mem_filter] at h
  obtain ⟨h1, h2⟩ := h
  have h1 : i < ops.size := by simpa using h1
  simp only [Bool.and_eq_true] at h2
  have hi : ops[i]? = some ops[i] := Array.getElem?_eq_getElem h1
  rw [hi] at h2
  simp only [Option.map_some, Option.getD_some] at h2
  refine ⟨_, hi, h1, ?_, fun e he hb => ?_⟩
  · have h3 := h2.1
    have hlt : i < listed.size := by omega
    simp only [Array.getD_eq_getD_getElem?, Array.getElem?_eq_getElem hlt, Option.getD_some] at h3 ⊢
    simpa using h3
  · have := Array.all_eq_true'.1 h2.2 e (by simpa using he)
    rw [hb] at this
    simpa using this
theorem mask_edge (he : edgesOk 0 ops.toList = true) {y x : Nat} {o : Oper} (hy : ops[y]? = some o) (h : ((beforeL [] ops.toList).getD y 0).testBit x = true) : ∃ e ∈ o.after.toList, Region.binds .any e = true ∧ (x = e.on ∨ ((beforeL [] ops.toList).getD e.on 0).testBit x = true) := by
  have hy' : ops.toList[y]? = some o := by rw [Array.getElem?_toList]; exact hy
  obtain ⟨acc', h1, h2, h3⟩ := beforeL_get (acc := []) hy'
  simp only [List.length_nil, Nat.zero_add] at h1 h2
  rw [h1] at h
  obtain ⟨e, hm, hb, h4⟩ := before1_bit h
  refine ⟨e, hm, hb, h4.imp id fun h5 => ?_⟩
  have hlt := edges_get he hy' e hm hb
  rw [h2 e.on (by omega)] at h5
  exact h5
theorem getD_set {listed : Array Bool} {i j : Nat} (hi : i < listed.size) : (listed.setIfInBounds i true).getD j false = if j = i then true else listed.getD j false := by
  simp only [Array.getD_eq_getD_getElem?, Array.getElem?_setIfInBounds]
  by_cases c : i = j
  · subst c; simp [hi]
  · simp [c, Ne.symm c]
theorem Drawn.step (he : edgesOk 0 ops.toList = true) {listed : Array Bool} {i : Nat} (hd : Drawn ops listed) (h : i ∈ Region.ready .any ops listed) : Drawn ops (listed.setIfInBounds i true) := by
  obtain ⟨o, hi, hlt, hu, hr⟩ := ready_mem hd.size h
  refine ⟨by simp [hd.size], fun y x hy hb => ?_⟩
  rw [getD_set (by rw [hd.size]; exact hlt)] at hy ⊢
  by_cases c : y = i
  · subst c
    obtain ⟨e, hm, hb2, h4⟩ := mask_edge he hi hb
    have h5 := hr e hm hb2
    rcases h4 with rfl | h4
    · rw [h5]; simp
    · rw [hd.closed e.on x h5 h4]; simp
  · rw [if_neg c] at hy
    rw [hd.closed y x hy hb]
    simp
def unl (listed : Array Bool) : Nat → List Nat
  | 0 => []
  | k + 1 => (if listed.getD k false = false then [k] else []) ++ unl listed k
theorem linearise_facts (he : edgesOk 0 ops.toList = true) : ∀ (fuel t : Nat) (listed : Array Bool), Drawn ops listed →
    (∀ i ∈ Region.linearise.go .any ops fuel t listed [], i < ops.size ∧ listed.getD i false = false) ∧ (Region.linearise.go .any ops fuel t listed []).Nodup ∧
    (Region.linearise.go .any ops fuel t listed []).Pairwise (fun y x => ((beforeL [] ops.toList).getD y 0).testBit x = false) ∧
    ((∃ i, i < ops.size ∧ listed.getD i false = false ∧ i ∉ Region.linearise.go .any ops fuel t listed []) → (Region.linearise.go .any ops fuel t listed []).length = fuel) := by
  intro fuel
  induction fuel with
  | zero => intro t listed hd; exact ⟨fun i hi => by simp [Region.linearise.go] at hi, by simp [Region.linearise.go], by simp [Region.linearise.go], fun _ => by simp [Region.linearise.go]⟩
  | succ fuel ih =>
    intro t listed hd
    have e : Region.linearise.go .any ops (fuel + 1) t listed [] = match (Region.ready .any ops listed)[t % (Region.ready .any ops listed).length]? with
      | some i => Region.linearise.go .any ops fuel (t / (Region.ready .any ops listed).length) (listed.setIfInBounds i true) [i]
      | none => [] := by
      simp only [Region.linearise.go]
      rfl
    rw [e]
    cases hi : (Region.ready .any ops listed)[t % (Region.ready .any ops listed).length]? with
    | none =>
      refine ⟨fun i h => by simp at h, by simp, by simp, fun ⟨i, h1, h2, _⟩ => ?_⟩
      exfalso
      -- the least operation that is not listed is ready
      have hnil : Region.ready .any ops listed = [] := by
        cases hr : Region.ready .any ops listed with
        | nil => rfl
        | cons x xs =>
          rw [hr] at hi
          have hlt : t % (x :: xs).length < (x :: xs).length := Nat.mod_lt _ (by simp)
          simp at hi
          simp at hlt
          omega
      have least : ∀ k, (∀ j, j < k → j < ops.size → listed.getD j false = true) → k < ops.size → listed.getD k false = false → False := by
        intro k hk hks hku
        have : k ∈ Region.ready .any ops listed := by
          unfold Region.ready
          rw [List.mem_filter]
          refine ⟨by simpa using hks, ?_⟩
          have hlt : k < listed.size := by rw [hd.size]; exact hks
          rw [Array.getElem?_eq_getElem hks]
          simp only [Option.map_some, Option.getD_some, Bool.and_eq_true]
          refine ⟨?_, ?_⟩
          · simp only [Array.getD_eq_getD_getElem?, Array.getElem?_eq_getElem hlt, Option.getD_some] at hku ⊢
            simpa using hku
          · rw [Array.all_eq_true']
            intro ed hed
            cases hb : Region.binds .any ed with
            | false => rfl
            | true =>
              have := edges_get (k := 0) (i := k) he (by rw [Array.getElem?_toList]; exact Array.getElem?_eq_getElem hks) ed (by simpa using hed) hb
              simp only [Bool.not_true, Bool.false_or]
              exact hk ed.on (by omega) (by omega)
        rw [hnil] at this
        cases this
      have all : ∀ k, k ≤ ops.size → ∀ j, j < k → j < ops.size → listed.getD j false = true := by
        intro k
        induction k with
        | zero => intro _ j hj; omega
        | succ k ihk =>
          intro hk j hj hjs
          by_cases c : j < k
          · exact ihk (by omega) j c hjs
          · have hjk : j = k := by omega
            subst hjk
            cases hl : listed.getD j false with
            | true => rfl
            | false => exact (least j (ihk (by omega)) hjs hl).elim
      have := all ops.size (Nat.le_refl _) i h1 h1
      rw [h2] at this
      cases this
    | some i =>
      have hmem := List.mem_of_getElem? hi
      obtain ⟨o, hio, hlt, hu, hr⟩ := ready_mem hd.size hmem
      have hd' := hd.step he hmem
      obtain ⟨f1, f2, f3, f4⟩ := ih (t / (Region.ready .any ops listed).length) _ hd'
      simp only
      rw [linearise_go_acc, List.reverse_singleton, List.singleton_append]
      have hls : i < listed.size := by rw [hd.size]; exact hlt
      have hnot : ∀ j ∈ Region.linearise.go .any ops fuel (t / (Region.ready .any ops listed).length) (listed.setIfInBounds i true) [], j ≠ i ∧ listed.getD j false = false := by
        intro j hj
        have := (f1 j hj).2
        rw [getD_set hls] at this
        split at this
        · cases this
        · rename_i c; exact ⟨c, this⟩
      refine ⟨fun j hj => ?_, ?_, ?_, fun ⟨k, h1, h2, h3⟩ => ?_⟩
      · rcases List.mem_cons.1 hj with rfl | hj
        · exact ⟨hlt, hu⟩
        · exact ⟨(f1 j hj).1, (hnot j hj).2⟩
      · rw [List.nodup_cons]
        exact ⟨fun h => (hnot i h).1 rfl, f2⟩
      · rw [List.pairwise_cons]
        refine ⟨fun x hx => ?_, f3⟩
        cases hb : ((beforeL [] ops.toList).getD i 0).testBit x with
        | false => rfl
        | true =>
          obtain ⟨ed, hm, hb2, h4⟩ := mask_edge he hio hb
          have h5 := hr ed hm hb2
          have h6 := (hnot x hx).2
          rcases h4 with rfl | h4
          · rw [h5] at h6; cases h6
          · rw [hd.closed ed.on x h5 h4] at h6; cases h6
      · rw [List.length_cons, f4 ⟨k, h1, ?_, fun h => h3 (by simp [h])⟩]
        rw [getD_set hls, if_neg (fun e => h3 (by simp [e]))]
        exact h2
theorem pairsOk_get {m : List Nat} {y : Nat} : ∀ {k x : Nat}, pairsOk ops m y k = true → x < k → (m.getD y 0).testBit x = true ∨ okPair ops x y = true
  | 0, x, _, h => by omega
  | k + 1, x, hp, h => by
    simp only [pairsOk, Bool.and_eq_true, Bool.or_eq_true] at hp
    by_cases c : x = k
    · subst c; exact hp.1
    · exact pairsOk_get hp.2 (by omega)
theorem allPairs_get {m : List Nat} : ∀ {k x y : Nat}, allPairs ops m k = true → y < k → x < y → (m.getD y 0).testBit x = true ∨ okPair ops x y = true
  | 0, x, y, _, h, _ => by omega
  | k + 1, x, y, hp, h, hx => by
    simp only [allPairs, Bool.and_eq_true] at hp
    by_cases c : y = k
    · subst c; exact pairsOk_get hp.1 hx
    · exact allPairs_get hp.2 (by omega) hx
theorem nodup_len : ∀ (l : List Nat), l.Nodup → ∀ m, (∀ y ∈ l, y < m) → l.length ≤ m := by
  intro l hn m
  induction m generalizing l with
  | zero => intro h; cases l with
    | nil => simp
    | cons a l => have := h a (by simp); omega
  | succ m ih =>
    intro h
    by_cases c : m ∈ l
    · have h1 := ih (l.erase m) (hn.erase m) (fun y hy => by
        have h2 := h y (List.mem_of_mem_erase hy)
        have h3 : y ≠ m := fun e => by rw [e] at hy; exact hn.not_mem_erase hy
        omega)
      rw [List.length_erase_of_mem c] at h1
      omega
    · have h1 := ih l hn (fun y hy => by
        have h2 := h y hy
        have h3 : y ≠ m := fun e => c (e ▸ hy)
        omega)
      omega
theorem Big.draw {id : Nat} {α' : AA} (hm : P.follows .mixedOrders = true) (hok : drawOk ops = true) (h : Der P w0 n ops (List.range ops.size) α S α' S') : Big P w0 n (.region id ops true) α S .normal α' S' := by
  intro F m A g a w hF hS hA
  simp only [drawOk, Bool.and_eq_true] at hok
  obtain ⟨he, hp⟩ := hok
  refine wpIn_region_draw fun t => ?_
  simp only [Region.schedule, hm, Bool.true_or, if_true]
  have hd : Drawn ops (Array.replicate ops.size false) := ⟨by simp, fun y x hy => by
    simp only [Array.getD_eq_getD_getElem?, Array.getElem?_replicate] at hy
    split at hy <;> simp at hy⟩
  obtain ⟨f1, f2, f3, f4⟩ := linearise_facts he ops.size t _ hd
  have hall : ∀ x, x ∈ Region.linearise .any ops t ↔ x ∈ List.range ops.size := by
    intro x
    refine ⟨fun hx => by simpa using (f1 x hx).1, fun hx => ?_⟩
    have hx : x < ops.size := by simpa using hx
    by_cases c : x ∈ Region.linearise .any ops t
    · exact c
    · exfalso
      have hl := f4 ⟨x, hx, by simp [Array.getD_eq_getD_getElem?, Array.getElem?_replicate, hx], c⟩
      -- ops.size different numbers below ops.size, and x is none of them
      have hsub : (x :: Region.linearise.go .any ops ops.size t (Array.replicate ops.size false) []).Nodup := by
        rw [List.nodup_cons]; exact ⟨c, f2⟩
      have hlen := nodup_len (x :: Region.linearise.go .any ops ops.size t (Array.replicate ops.size false) []) hsub ops.size (fun y hy => by
        rcases List.mem_cons.1 hy with rfl | hy
        · exact hx
        · exact (f1 y hy).1)
      rw [List.length_cons, hl] at hlen
      omega
  have hL : (Region.linearise .any ops t).Pairwise (fun y x => x < y → okPair ops x y = true) := by
    refine List.Pairwise.imp_of_mem ?_ f3
    intro y x hy hx hb hxy
    rcases allPairs_get hp (f1 y hy).1 hxy with h1 | h1
    · rw [hb] at h1; cases h1
    · exact h1
  have hC : (List.range ops.size).Pairwise (· < ·) := List.pairwise_lt_range
  obtain ⟨hE, hS1⟩ := hS.drew
  have hS1 : St w0 A g S { w with drawn := w.drawn + 1 } := hS1
  refine (Der.perm hC hL hall f2 h).opsS F m A g a _ _ hF hS1 (hA.later hE.toLater) fun a' w' g' h1 h2 h3 => ⟨rfl, g', h1, h2, hE.trans h3⟩
end
end Go.Proofs.YtahhaiomdjlckaaDoor
