/-
  Functions: from the run of a body to a call; calls that have nothing to do with the caller's objects.
-/
import Derived.Test.YtahhaiomdjlckaaDoorCode
namespace Go.Proofs.YtahhaiomdjlckaaDoor
set_option linter.unusedVariables false
set_option linter.unusedSimpArgs false
open Go.RowKit

section
variable {P : Program} {w0 : World} {n : Nat} {α : AA} {S S' : Store} {r : AV}
def argF (args : List AV) (t : Nat) : AV := (args[t]?).getD .u
theorem arep_start {g : Gh} {w : World} {args : List AV} {args' : Array Value} (h : Reps g w args args') (hn : args.length ≤ n) : ARep g w n ⟨argF args, []⟩ { tmps := args' ++ Array.replicate (n - args'.size) undef, defers := [] } := by
  refine ⟨by simp [h.1]; omega, fun t ht => ?_, fun t ht => ?_, rfl, fun k hk => by cases hk⟩
  · show Rep g w (argF args t) _
    unfold argF
    by_cases c : t < args.length
    · have h1 := List.getElem?_eq_getElem c
      have c' : t < args'.size := by rw [h.1]; exact c
      rw [h1, Array.getD_eq_getD_getElem?, Array.getElem?_append_left c', Array.getElem?_eq_getElem c']
      exact h.2 t _ _ h1 (Array.getElem?_eq_getElem c')
    · rw [List.getElem?_eq_none (by omega)]
      exact .u
  · show argF args t = .u
    unfold argF
    rw [List.getElem?_eq_none (by omega)]
    rfl
/-- the block of the deferred calls of a range over a function is taken. -/
theorem St.take {A : Nat → Prop} {g : Gh} {w : World} {k : Nat} (hS : St w0 A g S w) (hk : S.get k = some .df) (ha : g.al k) :
    ∃ w', (Instr.takeDeferred (g.ob k)).run P w = .ok [] w' ∧ Ext A g w g w' ∧ St w0 A g (S.set k none) w' := by
  obtain ⟨k2, k3, k4⟩ := hS.obs k _ hk ha
  have k4 : w.heap[g.ob k]? = some (.deferred (some [])) := k4
  obtain ⟨w', hw'⟩ : ∃ w' : World, w' = { w with heap := w.heap.setIfInBounds (g.ob k) (.deferred none) } := ⟨_, rfl⟩
  have hrun : (Instr.takeDeferred (g.ob k)).run P w = .ok [] w' := by
    rw [hw']
    simp [Instr.takeDeferred, getObj, setObj, Sem.run, k4]
  have hsz : w'.heap.size = w.heap.size := by rw [hw']; simp
  have hoth : ∀ b, b ≠ g.ob k → w'.heap[b]? = w.heap[b]? := by
    intro b hb
    rw [hw']
    simp only [Array.getElem?_setIfInBounds]
    rw [if_neg (Ne.symm hb)]
  have hcell : ∀ b q, w'.cell? ⟨b, q, none⟩ = w.cell? ⟨b, q, none⟩ := by
    intro b q
    by_cases e : b = g.ob k
    · subst e
      have h1 : w'.heap[g.ob k]? = some (.deferred none) := by
        rw [hw']
        simp [Array.getElem?_setIfInBounds, k3]
      simp [World.cell?, h1, k4]
    · exact World.cell?_of_block (hoth b e)
  have hL : Later g w g w' := ⟨fun _ h => h, fun _ _ => rfl, fun _ _ => rfl, fun _ _ h => h, fun b q _ => hcell b q⟩
  have hE : Ext A g w g w' := { hL with size := by rw [hsz]; exact Nat.le_refl _, keep := fun b hb hA => hoth b (fun e => hA (by rw [e]; exact k2)), nfz := fun _ _ h => .inl h }
  have key : ∀ j p, (S.set k none).get j = some p → j ≠ k ∧ S.get j = some p := by
    intro j p hj
    have hj : upd S.get k none j = some p := hj
    by_cases e : j = k
    · subst e; rw [upd_same] at hj; cases hj
    · rw [upd_other _ _ e] at hj; exact ⟨e, hj⟩
  refine ⟨w', hrun, hE, hS.next hE (by rw [hw']) (by rw [hw']) (by rw [hw']) hS.al (fun j p hj aj => ?_) (fun i j p q hi hj ai aj e => hS.inj i j p q (key i p hi).2 (key j q hj).2 ai aj e) (fun b q hf => by rw [hsz]; exact hS.fzlt b q hf)⟩
  obtain ⟨hne, hj⟩ := key j p hj
  obtain ⟨h2, h3, h4⟩ := hS.obs j p hj aj
  exact ⟨h2, by rw [hsz]; exact h3, h4.later hL (hoth _ (fun e => hne (hS.inj j k p _ hj hk aj ha e))) (fun _ h => h)⟩
theorem leaves_df {F : Fence} {m : Nat} {A : Nat → Prop} {fn : Func} {tmps : Array Value} {R : Ending → World → Prop} : ∀ (ks : List Nat) {S : Store} {g : Gh} {w : World}, St w0 A g S w → dfOk S ks = true → (∀ k ∈ ks, g.al k) →
    (∀ w', St w0 A g (dropL S ks) w' → Ext A g w g w' → ∃ v, (results fn tmps).run P w' = .ok v w' ∧ R (.returned v) w') → LeavesInM F m P fn tmps R (ks.map fun k => ({ target := .collected (g.ob k), args := #[] } : Deferred)) .returning w
  | [], S, g, w, hS, _, _, h => h w hS (Ext.refl ..)
  | k :: ks, S, g, w, hS, hd, ha, h => by
    simp only [dfOk] at hd
    split at hd
    · rename_i hk
      obtain ⟨w', h1, h2, h3⟩ := hS.take (P := P) hk (ha k (by simp))
      exact ⟨by simp, .inl ⟨g.ob k, w', rfl, h1, leaves_df ks h3 hd (fun j hj => ha j (by simp [hj])) fun w'' h4 h5 => h w'' h4 (h2.trans h5)⟩⟩
    · cases hd
/-- from the run of a body to a call. -/
theorem Cal.of_wp {f : FuncId} {fn : Func} {c : Code} {args : List AV} {R : AV → Store → Prop} (hf : P.funcs[f]? = some fn) (hb : fn.body = some c) (hc : ∀ (xs : Array Value) (w : World), (callFunc f xs).run P w = .ok (.enter f xs) w)
    (hn : fn.ntmps = n) (hargs : args.length ≤ n) (h : ∃ ex α' S', Big P w0 n c ⟨argF args, []⟩ S ex α' S' ∧ endK P fn.results R ex α' S') : ∃ r S', Cal P w0 f args S r S' ∧ R r S' := by
  obtain ⟨ex, α', S1, hbig, hend⟩ := h
  have hfin : dfOk S1 α'.df = true ∧ ∃ r, resA P fn.results α' (dropL S1 α'.df) = some r ∧ R r (dropL S1 α'.df) ∧ (ex = .normal ∨ ex = .ret) := by
    unfold endK at hend
    split at hend
    · split at hend
      · rename_i h1 h2; exact ⟨h1, _, h2, hend, .inl rfl⟩
      · exact hend.elim
    · split at hend
      · rename_i h1 h2; exact ⟨h1, _, h2, hend, .inr rfl⟩
      · exact hend.elim
    · exact hend.elim
  obtain ⟨hdf, r, hr, hR, hex⟩ := hfin
  refine ⟨r, dropL S1 α'.df, ⟨hc, fun F m A g args' w hF hS hA => ?_⟩, hR⟩
  have key : CallsIn F.plain m P f args' w fun e w' => ∃ v g', e = .returned v ∧ Rep g' w' r v ∧ St w0 A g' (dropL S1 α'.df) w' ∧ Ext A g w g' w' := by
    refine callsIn_of_wp_marks hf hb (hF.1 f) ?_ rfl
    rw [hn]
    refine wpIn_mono (hbig F.plain m A g _ w hF.plain hS (arep_start hA hargs)) ?_
    rintro ex' a' w' ⟨rfl, g', h1, h2, h3⟩
    have hl : LeavesInM F.plain m P fn a'.tmps (fun e w' => ∃ v g', e = .returned v ∧ Rep g' w' r v ∧ St w0 A g' (dropL S1 α'.df) w' ∧ Ext A g w g' w') a'.defers .returning w' := by
      rw [h2.df]
      refine leaves_df α'.df h1 hdf h2.dlt fun w'' h4 h5 => ?_
      obtain ⟨v, h6, h7⟩ := resA_sound h4 (h2.later h5.toLater) hr
      exact ⟨v, h6, v, g', rfl, h7, h4, h3.trans h5⟩
    rcases hex with rfl | rfl
    · exact hl
    · exact hl
  exact key

theorem Cal.of_body {f : FuncId} {fn : Func} {c : Code} {args : List AV} {R : AV → Store → Prop} (hf : P.funcs[f]? = some fn) (hb : fn.body = some c) (hc : ∀ (xs : Array Value) (w : World), (callFunc f xs).run P w = .ok (.enter f xs) w)
    (hn : fn.ntmps = n) (hargs : args.length ≤ n) (h : awp P w0 n c (endK P fn.results R) ⟨argF args, []⟩ S) : ∃ r S', Cal P w0 f args S r S' ∧ R r S' := Cal.of_wp hf hb hc hn hargs (awp_sound h)

/-- a value read with the objects' present elements in place of the objects. -/
inductive Frz (S : Store) : AV → AV → Prop where
  | refl (a : AV) : Frz S a a
  | agg {l l' : List AV} (hl : l.length = l'.length) (h : ∀ (i : Nat) (a a' : AV), l[i]? = some a → l'[i]? = some a' → Frz S a a') : Frz S (.agg l) (.agg l')
  | tup {l l' : List AV} (hl : l.length = l'.length) (h : ∀ (i : Nat) (a a' : AV), l[i]? = some a → l'[i]? = some a' → Frz S a a') : Frz S (.tup l) (.tup l')
  | ob {k sz off len : Nat} {cx : Option Nat} {rows rows' : List (List AV)} {fz : Nat} {ex : Bool} (hk : S.get k = some (.arr sz rows fz ex)) (hlen : off + len ≤ rows.length) (hl : rows'.length = len)
      (h1 : ∀ (i : Nat) (row row' : List AV), rows[off + i]? = some row → rows'[i]? = some row' → row.length = row'.length)
      (h : ∀ (i j : Nat) (row row' : List AV) (a a' : AV), rows[off + i]? = some row → rows'[i]? = some row' → row[j]? = some a → row'[j]? = some a' → Frz S a a') : Frz S (.ob k sz off len cx) (.sl false rows')
  | pt {k sz i j : Nat} {rows : List (List AV)} {row row' : List AV} {fz : Nat} {ex : Bool} (hk : S.get k = some (.arr sz rows fz ex)) (hi : rows[i]? = some row) (hl : row'.length + j ≤ row.length)
      (h : ∀ (q : Nat) (a a' : AV), row[j + q]? = some a → row'[q]? = some a' → Frz S a a') : Frz S (.pt k sz i j) (.ip row')
  | fn {f : Fn} {l l' m m' : List AV} (hl : l.length = l'.length) (hm : m.length = m'.length) (h1 : ∀ (i : Nat) (a a' : AV), l[i]? = some a → l'[i]? = some a' → Frz S a a') (h2 : ∀ (i : Nat) (a a' : AV), m[i]? = some a → m'[i]? = some a' → Frz S a a') : Frz S (.fn f l m) (.fn f l' m')
  | sl {ex : Bool} {rows rows' : List (List AV)} (hl : rows.length = rows'.length) (h1 : ∀ (i : Nat) (row row' : List AV), rows[i]? = some row → rows'[i]? = some row' → row.length = row'.length)
      (h : ∀ (i j : Nat) (row row' : List AV) (a a' : AV), rows[i]? = some row → rows'[i]? = some row' → row[j]? = some a → row'[j]? = some a' → Frz S a a') : Frz S (.sl ex rows) (.sl false rows')
  | ip {cs cs' : List AV} (hl : cs'.length ≤ cs.length) (h : ∀ (j : Nat) (a a' : AV), cs[j]? = some a → cs'[j]? = some a' → Frz S a a') : Frz S (.ip cs) (.ip cs')
/-- the cells of every object count as cells that do not change. -/
def Gh.still (g : Gh) (S : Store) : Gh := ⟨g.ob, g.cp, g.al, fun b q => g.fz b q ∨ ∃ k sz rows fz ex, S.get k = some (.arr sz rows fz ex) ∧ g.al k ∧ b = g.ob k ∧ q < rows.length * sz⟩
theorem Frz.rep {A : Nat → Prop} {g : Gh} {w : World} (hS : St w0 A g S w) {a a' : AV} (hf : Frz S a a') : ∀ {v : Value}, Rep g w a v → Rep (g.still S) w a' v := by
  have hL : Later g w (g.still S) w := ⟨fun _ h => h, fun _ _ => rfl, fun _ _ => rfl, fun _ _ h => .inl h, fun _ _ _ => rfl⟩
  induction hf with
  | refl a => exact fun h => h.later hL
  | @agg l l' hl h ih =>
    intro v hr
    obtain ⟨cs, rfl, h1, h2⟩ := agg_inv hr
    refine .agg (h1.trans hl) (fun i a' x ha' hx => ?_)
    have hi : i < l.length := by rw [hl]; exact (List.getElem?_eq_some_iff.1 ha').1
    exact ih i _ a' (List.getElem?_eq_getElem hi) ha' (h2 i _ x (List.getElem?_eq_getElem hi) hx)
  | @tup l l' hl h ih =>
    intro v hr
    cases hr with
    | tup h1 h2 =>
      refine .tup (h1.trans hl) (fun i a' x ha' hx => ?_)
      have hi : i < l.length := by rw [hl]; exact (List.getElem?_eq_some_iff.1 ha').1
      exact ih i _ a' (List.getElem?_eq_getElem hi) ha' (h2 i _ x (List.getElem?_eq_getElem hi) hx)
  | @ob k sz off len cx rows rows' fz ex hk hlen hl h1 h ih =>
    intro v hr
    obtain ⟨c, rfl, hal, _, _, _, hle⟩ := ob_inv hr
    obtain ⟨k2, k3, cs, ty, p1, p2, p3, p4, p5, p6, p7⟩ := hS.obs k _ hk hal
    subst hl
    have hrow : ∀ (i : Nat) (row' : List AV), rows'[i]? = some row' → ∃ row, rows[off + i]? = some row ∧ row.length = sz ∧ row'.length = sz := by
      intro i row' hi
      have hlt : off + i < rows.length := by have := (List.getElem?_eq_some_iff.1 hi).1; omega
      have e := List.getElem?_eq_getElem hlt
      have e2 := (p5 _ _ e).1
      exact ⟨_, e, e2, by rw [← h1 i _ row' e hi]; exact e2⟩
    by_cases hn : rows' = []
    · subst hn
      exact .nil (fun h => by cases h)
    · refine .sl (sz := sz) (val := fun i j => cs.getD ((off + i) * sz + j) undef) hn (fun h => by cases h) hle (fun i row' hi => (hrow i row' hi).choose_spec.2.2) (fun i j row' a' hi hj => ?_) (fun i j row' a' hi hj => ?_)
      · obtain ⟨row, e1, e2, e3⟩ := hrow i row' hi
        have hj1 : j < sz := by rw [← e3]; exact (List.getElem?_eq_some_iff.1 hj).1
        have hj2 := List.getElem?_eq_getElem (show j < row.length by omega)
        obtain ⟨x, hx, hrx⟩ := (p5 _ _ e1).2 j _ hj2
        have e4 : off * sz + (i * sz + j) = (off + i) * sz + j := by rw [Nat.add_mul]; omega
        refine ⟨.inr ⟨k, sz, rows, fz, ex, hk, hal, rfl, ?_⟩, ?_⟩
        · rw [e4]; exact mul_in (List.getElem?_eq_some_iff.1 e1).1 hj1
        · rw [cell_of_row _ _ _ cs ty (0, 0) p1, e4, hx]
          simp [Array.getD_eq_getD_getElem?, hx]
      · obtain ⟨row, e1, e2, e3⟩ := hrow i row' hi
        have hj1 : j < sz := by rw [← e3]; exact (List.getElem?_eq_some_iff.1 hj).1
        have hj2 := List.getElem?_eq_getElem (show j < row.length by omega)
        obtain ⟨x, hx, hrx⟩ := (p5 _ _ e1).2 j _ hj2
        simp only [Array.getD_eq_getD_getElem?, hx, Option.getD_some]
        exact ih i j row row' _ a' e1 hi hj2 hj hrx
  | @pt k sz i j rows row row' fz ex hk hi hl h ih =>
    intro v hr
    cases hr with
    | pt hal =>
      obtain ⟨k2, k3, cs, ty, p1, p2, p3, p4, p5, p6, p7⟩ := hS.obs k _ hk hal
      obtain ⟨q1, q2⟩ := p5 i row hi
      have hin : ∀ (q : Nat) (a' : AV), row'[q]? = some a' → ∃ x, cs[i * sz + (j + q)]? = some x ∧ Rep (g.still S) w a' x := by
        intro q a' ha'
        have hq := (List.getElem?_eq_some_iff.1 ha').1
        have e1 : row[j + q]? = some (row[j + q]'(by omega)) := List.getElem?_eq_getElem (by omega)
        obtain ⟨x, hx, hrx⟩ := q2 _ _ e1
        exact ⟨x, hx, ih q _ a' e1 ha' hrx⟩
      have hlt : i < rows.length := (List.getElem?_eq_some_iff.1 hi).1
      refine .ip (val := fun q => cs.getD (i * sz + (j + q)) undef) (fun q a' ha' => ?_) (fun q a' ha' => ?_)
      · obtain ⟨x, hx, _⟩ := hin q a' ha'
        have hq := (List.getElem?_eq_some_iff.1 ha').1
        refine ⟨.inr ⟨k, sz, rows, fz, ex, hk, hal, rfl, ?_⟩, ?_⟩
        · rw [Nat.add_assoc]; exact mul_in hlt (by omega)
        · rw [cell_of_row _ _ _ cs ty (0, 0) p1, Nat.add_assoc, hx]
          simp [Array.getD_eq_getD_getElem?, hx]
      · obtain ⟨x, hx, hrx⟩ := hin q a' ha'
        simp only [Array.getD_eq_getD_getElem?, hx, Option.getD_some]
        exact hrx
  | @fn f l l' m m' hl hm h1 h2 ih1 ih2 =>
    intro v hr
    cases hr with
    | fn p1 p2 p3 p4 =>
      refine .fn (p1.trans hl) (p2.trans hm) (fun i a' x ha' hx => ?_) (fun i a' x ha' hx => ?_)
      · have hi : i < l.length := by rw [hl]; exact (List.getElem?_eq_some_iff.1 ha').1
        exact ih1 i _ a' (List.getElem?_eq_getElem hi) ha' (p3 i _ x (List.getElem?_eq_getElem hi) hx)
      · have hi : i < m.length := by rw [hm]; exact (List.getElem?_eq_some_iff.1 ha').1
        exact ih2 i _ a' (List.getElem?_eq_getElem hi) ha' (p4 i _ x (List.getElem?_eq_getElem hi) hx)
  | @sl ex rows rows' hl h1 h ih =>
    intro v hr
    cases hr with
    | nil hc =>
      have : rows' = [] := List.length_eq_zero_iff.1 (by rw [← hl]; rfl)
      subst this
      exact .nil (fun h => by cases h)
    | @sl _ _ b o sz c val hn hc hle hll p pr =>
      have hrow : ∀ (i : Nat) (row' : List AV), rows'[i]? = some row' → ∃ row, rows[i]? = some row ∧ row.length = sz ∧ row.length = row'.length := by
        intro i row' hi
        have hlt : i < rows.length := by rw [hl]; exact (List.getElem?_eq_some_iff.1 hi).1
        have e := List.getElem?_eq_getElem hlt
        exact ⟨_, e, hll i _ e, h1 i _ row' e hi⟩
      rw [hl]
      refine .sl (sz := sz) (val := val) (fun e => hn (List.length_eq_zero_iff.1 (by rw [hl, e]; rfl))) (fun h => by cases h) (by rw [← hl]; exact hle) (fun i row' hi => ?_) (fun i j row' a' hi hj => ?_) (fun i j row' a' hi hj => ?_)
      · obtain ⟨row, e1, e2, e3⟩ := hrow i row' hi
        omega
      · obtain ⟨row, e1, e2, e3⟩ := hrow i row' hi
        have hj1 : j < row.length := by rw [e3]; exact (List.getElem?_eq_some_iff.1 hj).1
        obtain ⟨q1, q2⟩ := p i j row _ e1 (List.getElem?_eq_getElem hj1)
        exact ⟨.inl q1, q2⟩
      · obtain ⟨row, e1, e2, e3⟩ := hrow i row' hi
        have hj1 : j < row.length := by rw [e3]; exact (List.getElem?_eq_some_iff.1 hj).1
        exact ih i j row row' _ a' e1 hi (List.getElem?_eq_getElem hj1) hj (pr i j row _ e1 (List.getElem?_eq_getElem hj1))
  | @ip cs cs' hl h ih =>
    intro v hr
    cases hr with
    | @ip _ b o val p pr =>
      have hrow : ∀ (i : Nat) (a' : AV), cs'[i]? = some a' → ∃ a, cs[i]? = some a := fun i a' hi => ⟨_, List.getElem?_eq_getElem (Nat.lt_of_lt_of_le (List.getElem?_eq_some_iff.1 hi).1 hl)⟩
      refine .ip (val := val) (fun i a' hi => ?_) (fun i a' hi => ?_)
      · obtain ⟨a, ha⟩ := hrow i a' hi
        exact ⟨.inl (p i a ha).1, (p i a ha).2⟩
      · obtain ⟨a, ha⟩ := hrow i a' hi
        exact ih i a a' ha hi (pr i a ha)
/-- the result of a function that keeps no object. -/
theorem PCal.of_wp {f : FuncId} {fn : Func} {c : Code} {args : List AV} (hf : P.funcs[f]? = some fn) (hb : fn.body = some c) (hc : ∀ (xs : Array Value) (w : World), (callFunc f xs).run P w = .ok (.enter f xs) w)
    (hn : fn.ntmps = n) (hargs : args.length ≤ n) (hp : Pure r) (h : ∃ ex α' S', Big P w0 n c ⟨argF args, []⟩ Store.none_ ex α' S' ∧ endK P fn.results (fun r' S => Frz S r' r) ex α' S') : PCal P w0 f args r := by
  obtain ⟨r', S', h1, h2⟩ := Cal.of_wp hf hb hc hn hargs h
  refine ⟨hp, Store.none_, h1.1, fun F m A g args' w hF hS hA => (h1.2 F m A g args' w hF hS hA).mono ?_⟩
  rintro e w' ⟨v, g', rfl, h3, h4, h5⟩
  have hk : ∀ b q, (g'.still S').fz b q → g.fz b q ∨ A b := by
    rintro b q (hq | ⟨k, sz, rows, fz, ex, hk, hal, rfl, hq⟩)
    · exact h5.nfz b q hq
    · exact .inr (h4.obs k _ hk hal).1
  have hr := h2.rep h4 h3
  obtain ⟨g2, hg2⟩ : ∃ g2 : Gh, g2 = ⟨g.ob, g.cp, fun _ => False, (g'.still S').fz⟩ := ⟨_, rfl⟩
  have hna : ∀ k, ¬ g.al k := fun k hk => absurd (hS.al k hk) (Nat.not_lt_zero k)
  have hL : Later g w g2 w' := by
    rw [hg2]
    exact ⟨fun k hk => hna k hk, fun _ _ => rfl, fun _ _ => rfl, fun b q hq => .inl (h5.fz b q hq), h5.cell⟩
  refine ⟨v, g2, rfl, ?_, ?_, { hL with size := h5.size, keep := h5.keep, nfz := by rw [hg2]; exact hk }⟩
  · rw [hg2]
    exact Rep.pure (g := g'.still S') (g' := ⟨g.ob, g.cp, fun _ => False, (g'.still S').fz⟩) (fun _ _ h => h) (fun _ _ _ => rfl) hr hp
  · have e0 : ∀ k o, ¬ Store.none_.get k = some o := fun k o h => by simp [Store.none_] at h
    refine ⟨h4.base, h4.up, h4.lo, fun k hk => ?_, fun k o hk => absurd hk (e0 k o), fun j k o p hj => absurd hj (e0 j o), ?_, fun b q hb => hL.fz b q (hS.fz0 b q hb)⟩
    · rw [hg2] at hk
      exact hk.elim
    · rw [hg2]
      rintro b q (hq | ⟨k, sz, rows, fz, ex, hk, hal, rfl, hq⟩)
      · exact h4.fzlt b q hq
      · exact (h4.obs k _ hk hal).2.1
theorem PCal.of_body {f : FuncId} {fn : Func} {c : Code} {args : List AV} (hf : P.funcs[f]? = some fn) (hb : fn.body = some c) (hc : ∀ (xs : Array Value) (w : World), (callFunc f xs).run P w = .ok (.enter f xs) w)
    (hn : fn.ntmps = n) (hargs : args.length ≤ n) (hp : Pure r) (h : awp P w0 n c (endK P fn.results fun r' S => Frz S r' r) ⟨argF args, []⟩ Store.none_) : PCal P w0 f args r := PCal.of_wp hf hb hc hn hargs hp (awp_sound h)
/-- the callee's view of the caller's world: no objects; all that is there stays. -/
theorem St.inner {A : Nat → Prop} {g : Gh} {w : World} (hS : St w0 A g S w) (fz : Nat → Nat → Prop) (h1 : ∀ b q, g.fz b q → fz b q) (h2 : ∀ b q, fz b q → b < w.heap.size) : St w0 (fun b => w.heap.size ≤ b) ⟨g.ob, g.cp, fun _ => False, fz⟩ Store.none_ w :=
  have e0 : ∀ k o, ¬ Store.none_.get k = some o := fun k o h => by simp [Store.none_] at h
  ⟨hS.base, fun b hb => hb, fun b hb => Nat.le_trans hS.base.size hb, fun k hk => hk.elim, fun k o hk => absurd hk (e0 k o), fun j k o p hj => absurd hj (e0 j o), h2, fun b q hb => h1 b q (hS.fz0 b q hb)⟩
/-- back from a call that knew no object: the caller's objects are as they were. -/
theorem St.outer {A : Nat → Prop} {g g1 : Gh} {w w' : World} {fz : Nat → Nat → Prop} (hS : St w0 A g S w) (h1 : ∀ b q, g.fz b q → fz b q) (h2 : ∀ b q, fz b q → b < w.heap.size) (hS1 : St w0 (fun b => w.heap.size ≤ b) g1 S' w') (hE : Ext (fun b => w.heap.size ≤ b) ⟨g.ob, g.cp, fun _ => False, fz⟩ w g1 w') :
    Ext A g w ⟨g.ob, g.cp, g.al, fun b q => g.fz b q ∨ (w.heap.size ≤ b ∧ g1.fz b q)⟩ w' ∧ St w0 A ⟨g.ob, g.cp, g.al, fun b q => g.fz b q ∨ (w.heap.size ≤ b ∧ g1.fz b q)⟩ S w' := by
  have hold : ∀ b, b < w.heap.size → w'.heap[b]? = w.heap[b]? := fun b hb => hE.keep b hb (by omega)
  have hL : Later g w ⟨g.ob, g.cp, g.al, fun b q => g.fz b q ∨ (w.heap.size ≤ b ∧ g1.fz b q)⟩ w' := ⟨fun _ h => h, fun _ _ => rfl, fun _ _ => rfl, fun _ _ h => .inl h, fun b q hq => World.cell?_of_block (hold b (hS.fzlt b q hq))⟩
  have hE2 : Ext A g w ⟨g.ob, g.cp, g.al, fun b q => g.fz b q ∨ (w.heap.size ≤ b ∧ g1.fz b q)⟩ w' := { hL with size := hE.size, keep := fun b hb _ => hold b hb, nfz := fun b q hq => hq.elim .inl fun h => .inr (hS.up b h.1) }
  refine ⟨hE2, ⟨hS1.base, fun b hb => hS.up b (Nat.le_trans hE.size hb), hS.lo, hS.al, fun k o hk ha => ?_, hS.inj, fun b q hq => ?_, fun b q hb => .inl (hS.fz0 b q hb)⟩⟩
  · obtain ⟨k2, k3, k4⟩ := hS.obs k o hk ha
    exact ⟨k2, Nat.lt_of_lt_of_le k3 hE.size, k4.later hL (hold _ k3) (fun q hq => hq.elim id fun h => absurd h.1 (by show ¬ w.heap.size ≤ g.ob k; omega))⟩
  · rcases hq with hq | hq
    · exact Nat.lt_of_lt_of_le (hS.fzlt b q hq) hE.size
    · exact hS1.fzlt b q hq.2
/-- a value whose meaning asks nothing of memory. -/
inductive Scal : AV → Prop where
  | v {x : Value} : Scal (.v x)
  | tup {l : List AV} (h : ∀ a ∈ l, Scal a) : Scal (.tup l)
  | agg {l : List AV} (h : ∀ a ∈ l, Scal a) : Scal (.agg l)
theorem Rep.scal {g g' : Gh} {w w' : World} {a : AV} (hs : Scal a) : ∀ {x : Value}, Rep g w a x → Rep g' w' a x := by
  induction hs with
  | v => intro x h; cases h; exact .v
  | tup hl ih => intro x h; cases h with | tup h1 h2 => exact .tup h1 fun i a y ha hy => ih _ (List.mem_of_getElem? ha) (h2 i a y ha hy)
  | agg hl ih => intro x h; cases h with | agg h1 h2 => exact .agg h1 fun i a y ha hy => ih _ (List.mem_of_getElem? ha) (h2 i a y ha hy)
/-- a pure call at a store: the arguments are pure. -/
theorem PCal.cal {f : FuncId} {args : List AV} (h : PCal P w0 f args r) (hp : ∀ a ∈ args, Pure a) (S : Store) : Cal P w0 f args S r S := by
  obtain ⟨hpr, S1, h1, h2⟩ := h
  refine ⟨h1, fun F m A g args' w hF hS hA => (h2 F m _ _ args' w hF (hS.inner g.fz (fun _ _ h => h) hS.fzlt) ⟨hA.1, fun i a x ha hx => Rep.pure (g := g) (g' := ⟨g.ob, g.cp, fun _ => False, g.fz⟩) (fun _ _ h => h) (fun _ _ _ => rfl) (hA.2 i a x ha hx) (hp a (List.mem_of_getElem? ha))⟩).mono ?_⟩
  rintro e w' ⟨v, g1, rfl, h3, h4, h5⟩
  obtain ⟨hE, hSt⟩ := hS.outer (fun _ _ h => h) hS.fzlt h4 h5
  refine ⟨v, _, rfl, ?_, hSt, hE⟩
  refine Rep.pure (g := g1) (fun b q hq => ?_) (fun _ _ _ => rfl) h3 hpr
  rcases h5.nfz b q hq with h | h
  · exact .inl h
  · exact .inr ⟨h, hq⟩
/-- a pure call at a store, its arguments read out of objects; its result asks nothing of memory. -/
theorem PCal.calS {f : FuncId} {args args0 : List AV} (h : PCal P w0 f args r) (hp : ∀ a ∈ args, Pure a) (hs : Scal r) (S : Store) (hl : args0.length = args.length) (hf : ∀ (i : Nat) (a0 a : AV), args0[i]? = some a0 → args[i]? = some a → Frz S a0 a) : Cal P w0 f args0 S r S := by
  obtain ⟨hpr, S1, h1, h2⟩ := h
  refine ⟨h1, fun F m A g args' w hF hS hA => ?_⟩
  have hlt : ∀ b q, (g.still S).fz b q → b < w.heap.size := by
    rintro b q (hq | ⟨k, sz, rows, fz, ex, hk, hal, rfl, hq⟩)
    · exact hS.fzlt b q hq
    · exact (hS.obs k _ hk hal).2.1
  refine (h2 F m _ _ args' w hF (hS.inner (g.still S).fz (fun _ _ h => .inl h) hlt) ⟨hA.1.trans hl, fun i a x ha hx => ?_⟩).mono ?_
  · have hi : i < args0.length := by rw [hl]; exact (List.getElem?_eq_some_iff.1 ha).1
    have ha0 := List.getElem?_eq_getElem hi
    exact Rep.pure (g := g.still S) (g' := ⟨g.ob, g.cp, fun _ => False, (g.still S).fz⟩) (fun _ _ h => h) (fun _ _ _ => rfl) ((hf i _ a ha0 ha).rep hS (hA.2 i _ x ha0 hx)) (hp a (List.mem_of_getElem? ha))
  · rintro e w' ⟨v, g1, rfl, h3, h4, h5⟩
    obtain ⟨hE, hSt⟩ := hS.outer (fun _ _ h => .inl h) hlt h4 h5
    exact ⟨v, _, rfl, h3.scal hs, hSt, hE⟩
end
end Go.Proofs.YtahhaiomdjlckaaDoor
