/-
  Regions that keep their order, and code: what awp says of a piece of code, it does.
-/
import Derived.Test.YtahhaiomdjlckaaDoorSound7
namespace Go.Proofs.YtahhaiomdjlckaaDoor
set_option linter.unusedVariables false
set_option linter.unusedSimpArgs false
open Go.RowKit

section
variable {P : Program} {w0 : World} {n : Nat} {o : Oper} {α : AA} {S S' : Store} {r : AV}
/-- a list of a region's operations, run in that order. -/
def OpsS (P : Program) (w0 : World) (n : Nat) (ops : Array Oper) (l : List Nat) (α : AA) (S : Store) (α' : AA) (S' : Store) : Prop :=
  ∀ (F : Fence) (m : Nat) (A : Nat → Prop) (g : Gh) (a : Act) (w : World) (Q : Exit → Act → World → Prop), Wide F → St w0 A g S w → ARep g w n α a →
    (∀ (a' : Act) (w' : World) (g' : Gh), St w0 A g' S' w' → ARep g' w' n α' a' → Ext A g w g' w' → Q .normal a' w') → wpOpsIn F m P ops Q l a w
theorem put_rep {g : Gh} {w : World} {a : Act} {x : Value} {b : AV} {d : Option Tmp} (hA : ARep g w n α a) (hd : (match d with | some d => Nat.blt d n | none => true) = true) (hx : Rep g w b x) : ARep g w n (α.put d b) (a.put d x) := by
  cases d with
  | none => exact hA.put_none
  | some d => exact hA.put (Nat.lt_of_lt_of_le (Nat.lt_succ_self d) (Nat.le_of_ble_eq_true hd)) hx
theorem yd_rep {g : Gh} {w : World} {a : Act} {ops : Array Oper} {j : Nat} {y : Option Bool} (hA : ARep g w n α a) (h : ydA ops α j = some y) : yielded ops a.tmps j = y := by
  unfold ydA at h
  unfold yielded
  split at h
  · rename_i t ht
    have key : ∀ x, α.tm t = .v x → a.tmps[t]? = some x := by
      intro x hc
      have hlt : t < n := by
        rcases Nat.lt_or_ge t n with h | h
        · exact h
        · have := hA.out t h; rw [this] at hc; cases hc
      have h1 := hA.tm t hlt
      rw [hc] at h1
      have h2 := rep_v h1
      have hs : t < a.tmps.size := by rw [hA.size]; exact hlt
      rw [Array.getElem?_eq_getElem hs]
      rw [Array.getD_eq_getD_getElem?, Array.getElem?_eq_getElem hs] at h2
      simpa using h2
    split at h
    · rename_i c hc
      obtain rfl := Option.some.inj h
      rw [ht]
      simp [key _ hc]
    · rename_i c hc
      obtain rfl := Option.some.inj h
      rw [ht]
      simp [key _ hc]
    · cases h
  · cases h
theorem OpsS.step {ops : Array Oper} {i : Nat} {rest : List Nat} {α' : AA} {S₁ : Store} (hi : ops[i]? = some o) (hd : (match o.dst with | some d => Nat.blt d n | none => true) = true)
    (hw : ∀ (g : Gh) (w : World) (a : Act), ARep g w n α a → Region.wanted o (yielded ops a.tmps) = true) (h : OpS P w0 n o α S r S₁) (k : OpsS P w0 n ops rest (α.put o.dst r) S₁ α' S') : OpsS P w0 n ops (i :: rest) α S α' S' := by
  intro F m A g a w Q hF hS hA hQ
  simp only [wpOpsIn, hi]
  rw [if_pos (hw g w a hA)]
  refine ⟨fun f _ => hF.1 f, h F m A g a w _ Q hF hS hA fun v w' g' hr hS' hE => ?_⟩
  exact k F m A g' _ w' Q hF hS' (put_rep (hA.later hE.toLater) hd hr) fun a' w'' g'' h1 h2 h3 => hQ a' w'' g'' h1 h2 (hE.trans h3)
theorem opsK_sound {ops : Array Oper} : ∀ {l : List Nat} {α : AA} {S : Store} {Q : AA → Store → Prop}, opsK P w0 n ops l Q α S → ∃ α' S', OpsS P w0 n ops l α S α' S' ∧ Q α' S'
  | [], α, S, Q, h => ⟨α, S, fun F m A g a w Q hF hS hA hQ => hQ a w g hS hA (Ext.refl ..), h⟩
  | i :: rest, α, S, Q, h => by
    simp only [opsK] at h
    split at h
    · rename_i hi
      obtain ⟨α', S', h1, h2⟩ := opsK_sound h
      refine ⟨α', S', fun F m A g a w Q hF hS hA hQ => ?_, h2⟩
      simp only [wpOpsIn, hi]
      exact h1 F m A g a w Q hF hS hA hQ
    · rename_i o hi
      split at h
      · rename_i hd
        split at h
        · rename_i hg
          obtain ⟨r, S₁, h1, h2⟩ := opK_sound (n := n) h
          obtain ⟨α', S', h3, h4⟩ := opsK_sound h2
          exact ⟨α', S', OpsS.step hi hd (fun g w a hA => by simp [Region.wanted, hg]) h1 h3, h4⟩
        · rename_i j want hg
          split at h
          · rename_i b hb
            have go : b = want → opK P w0 o.op α S (fun r S' => opsK P w0 n ops rest Q (α.put o.dst r) S') → ∃ α' S', OpsS P w0 n ops (i :: rest) α S α' S' ∧ Q α' S' := by
              intro e h
              obtain ⟨r, S₁, h1, h2⟩ := opK_sound (n := n) h
              obtain ⟨α', S', h3, h4⟩ := opsK_sound h2
              exact ⟨α', S', OpsS.step hi hd (fun g w a hA => by simp [Region.wanted, hg, yd_rep hA hb, e]) h1 h3, h4⟩
            have skip : ¬ b = want → opsK P w0 n ops rest Q (α.put o.dst (.v undef)) S → ∃ α' S', OpsS P w0 n ops (i :: rest) α S α' S' ∧ Q α' S' := by
              intro e h
              obtain ⟨α', S', h3, h4⟩ := opsK_sound h
              refine ⟨α', S', fun F m A g a w Q hF hS hA hQ => ?_, h4⟩
              have hnw : ¬ Region.wanted o (yielded ops a.tmps) = true := by simp [Region.wanted, hg, yd_rep hA hb, e]
              simp only [wpOpsIn, hi]
              rw [if_neg hnw]
              exact ⟨fun f _ => hF.1 f, h3 F m A g _ w Q hF hS (put_rep hA hd .v) hQ⟩
            cases want <;> cases b
            · exact go rfl h
            · exact skip (by simp) h
            · exact skip (by simp) h
            · exact go rfl h
          · rename_i hb
            obtain ⟨α', S', h3, h4⟩ := opsK_sound h
            refine ⟨α', S', fun F m A g a w Q hF hS hA hQ => ?_, h4⟩
            have hnw : ¬ Region.wanted o (yielded ops a.tmps) = true := by simp [Region.wanted, hg, yd_rep hA hb]
            simp only [wpOpsIn, hi]
            rw [if_neg hnw]
            exact ⟨fun f _ => hF.1 f, h3 F m A g _ w Q hF hS (put_rep hA hd .v) hQ⟩
          · exact h.elim
      · exact h.elim
theorem Big.region {id : Nat} {ops : Array Oper} {α' : AA} (h : OpsS P w0 n ops (List.range ops.size) α S α' S') : Big P w0 n (.region id ops false) α S .normal α' S' :=
  fun F m A g a w hF hS hA => wpIn_region (h F m A g a w _ hF hS hA fun a' w' g' h1 h2 h3 => ⟨rfl, g', h1, h2, h3⟩)

/-- what is to be shown of a piece of code; D: of regions that draw their order. -/
def awp (P : Program) (w0 : World) (n : Nat) : Code → (Exit → AA → Store → Prop) → AA → Store → Prop
  | .skip, Q, α, S => Q .normal α S
  | .region id ops draw, Q, α, S => match draw with
    | false => runK P w0 n ops.toList ops.toList (fun α S => Q .normal α S) α S
    | true => ∃ α' S', Big P w0 n (.region id ops true) α S .normal α' S' ∧ Q .normal α' S'
  | .seq a b, Q, α, S => awp P w0 n a (fun ex α S => match ex with | .normal => awp P w0 n b Q α S | e => Q e α S) α S
  | .cond c a b, Q, α, S => match α.ev c with
    | .v (.bool t) => br t (awp P w0 n a Q α S) (awp P w0 n b Q α S)
    | _ => False
  | .block id c, Q, α, S => awp P w0 n c (fun ex α S => match ex with | .exit j => (match Nat.beq j id with | true => Q .normal α S | false => Q (.exit j) α S) | e => Q e α S) α S
  | .loop c, Q, α, S => ∃ ex α' S', BigL P w0 n c α S ex α' S' ∧ Q ex α' S'
  | .rangeFunc f ps a c, Q, α, S => ∃ ex α' S', Big P w0 n (.rangeFunc f ps a c) α S ex α' S' ∧ Q ex α' S'
  | .exit id, Q, α, S => Q (.exit id) α S
  | .ret, Q, α, S => Q .ret α S
  | _, _, _, _ => False
theorem awp_sound : ∀ {c : Code} {Q : Exit → AA → Store → Prop} {α : AA} {S : Store}, awp P w0 n c Q α S → ∃ ex α' S', Big P w0 n c α S ex α' S' ∧ Q ex α' S'
  | .skip, Q, α, S, h => ⟨_, _, _, Big.skip, h⟩
  | .region id ops false, Q, α, S, h => let ⟨α', S', h1, h2⟩ := opsK_sound (runK_all h); ⟨_, α', S', Big.region h1, h2⟩
  | .region id ops true, Q, α, S, h => let ⟨α', S', h1, h2⟩ := h; ⟨_, α', S', h1, h2⟩
  | .seq a b, Q, α, S, h => by
    obtain ⟨ex, α₁, S₁, h1, h2⟩ := awp_sound (c := a) h
    cases ex with
    | normal =>
      obtain ⟨ex', α', S', h3, h4⟩ := awp_sound (c := b) h2
      exact ⟨ex', α', S', Big.seq h1 h3, h4⟩
    | _ => exact ⟨_, α₁, S₁, Big.seq_out h1 (by simp), h2⟩
  | .cond c a b, Q, α, S, h => by
    simp only [awp] at h
    split at h
    · rename_i t ht
      cases t with
      | true =>
        obtain ⟨ex, α', S', h1, h2⟩ := awp_sound (c := a) h
        exact ⟨ex, α', S', Big.cond ht h1, h2⟩
      | false =>
        obtain ⟨ex, α', S', h1, h2⟩ := awp_sound (c := b) h
        exact ⟨ex, α', S', Big.cond ht h1, h2⟩
    · exact h.elim
  | .block id c, Q, α, S, h => by
    obtain ⟨ex, α', S', h1, h2⟩ := awp_sound (c := c) h
    cases ex with
    | exit j =>
      simp only at h2
      split at h2
      · rename_i hj
        have := Nat.eq_of_beq_eq_true hj
        subst this
        exact ⟨_, α', S', Big.block_exit h1, h2⟩
      · rename_i hj
        have hne : j ≠ id := fun e => by subst e; rw [Nat.beq_refl] at hj; cases hj
        exact ⟨_, α', S', Big.block h1 (fun e => hne (by injection e)), h2⟩
    | _ => exact ⟨_, α', S', Big.block h1 (by simp), h2⟩
  | .loop c, Q, α, S, h => let ⟨ex, α', S', h1, h2⟩ := h; ⟨ex, α', S', Big.loop h1, h2⟩
  | .rangeFunc f ps a c, Q, α, S, h => h
  | .exit id, Q, α, S, h => ⟨_, _, _, Big.exit_ id, h⟩
  | .ret, Q, α, S, h => ⟨_, _, _, Big.ret, h⟩
/-- a loop, by an invariant and a number that falls. -/
theorem loopK {c : Code} {Q : Exit → AA → Store → Prop} (I : Nat → AA → Store → Prop) (h : ∀ k α S, I k α S → awp P w0 n c (fun ex α' S' => match ex with | .normal => ∃ j, j < k ∧ I j α' S' | e => Q e α' S') α S) :
    ∀ (k : Nat) {α : AA} {S : Store}, I k α S → ∃ ex α' S', BigL P w0 n c α S ex α' S' ∧ Q ex α' S' := by
  intro k
  induction k using Nat.strongRecOn with
  | _ k ih =>
    intro α S hI
    obtain ⟨ex, α₁, S₁, h1, h2⟩ := awp_sound (h k α S hI)
    cases ex with
    | normal =>
      obtain ⟨j, hj, hI'⟩ := h2
      obtain ⟨ex, α', S', h3, h4⟩ := ih j hj hI'
      exact ⟨ex, α', S', BigL.step h1 h3, h4⟩
    | _ => exact ⟨_, α₁, S₁, BigL.done h1 (by simp), h2⟩

/-- what a function returns. -/
def resV (P : Program) (α : AA) (S : Store) : ResultVar → Option AV
  | .tmp t => some (α.tm t)
  | .cell a t => loadA P S t (α.tm a)
def resL (P : Program) (α : AA) (S : Store) : List ResultVar → Option (List AV)
  | [] => some []
  | r :: rs => match resV P α S r with
    | some a => match resL P α S rs with | some l => some (a :: l) | none => none
    | none => none
def resA (P : Program) (rs : Array ResultVar) (α : AA) (S : Store) : Option AV :=
  match resL P α S rs.toList with
  | some [a] => some a
  | some l => some (.tup l)
  | none => none
def dropL (S : Store) : List Nat → Store
  | [] => S
  | k :: ks => dropL (S.set k none) ks
def dfOk (S : Store) : List Nat → Bool
  | [] => true
  | k :: ks => match S.get k with | some .df => dfOk (S.set k none) ks | _ => false
/-- the end of a function: its result goes to R. -/
def endK (P : Program) (rs : Array ResultVar) (R : AV → Store → Prop) (ex : Exit) (α : AA) (S : Store) : Prop :=
  match ex with
  | .normal | .ret => match dfOk S α.df, resA P rs α (dropL S α.df) with
    | true, some r => R r (dropL S α.df)
    | _, _ => False
  | _ => False
def resF (tmps : Array Value) (rv : ResultVar) : Sem Value :=
  match rv with
  | .tmp t => pure (tmps.getD t undef)
  | .cell c t => do loadVar t (← asAddr (tmps.getD c undef))
theorem results_eq (fn : Func) (tmps : Array Value) : results fn tmps = (do
    let vs ← fn.results.mapM (resF tmps)
    pure (if h : vs.size = 1 then vs[0] else .tuple vs)) := by
  unfold results
  congr 1
theorem resV_sound {A : Nat → Prop} {g : Gh} {w : World} {a : Act} {rv : ResultVar} {b : AV} (hS : St w0 A g S w) (hA : ARep g w n α a) (h : resV P α S rv = some b) :
    ∃ x, (resF a.tmps rv).run P w = .ok x w ∧ Rep g w b x := by
  have ev := fun t => hA.ev (.tmp t)
  cases rv with
  | tmp t =>
    obtain rfl := Option.some.inj h
    exact ⟨_, rfl, ev t⟩
  | cell c t =>
    obtain ⟨b', q, x, h1, h2, h3⟩ := loadA_sound (t := t) hS h (ev c)
    have h1 : a.tmps.getD c undef = .pointer (some ⟨b', q, none⟩) := h1
    exact ⟨x, by simp [resF, h1, asAddr, h2], h3⟩
theorem resL_sound {A : Nat → Prop} {g : Gh} {w : World} {a : Act} (hS : St w0 A g S w) (hA : ARep g w n α a) : ∀ {rs : List ResultVar} {l : List AV}, resL P α S rs = some l →
    ∃ xs : List Value, (rs.mapM (resF a.tmps)).run P w = .ok xs w ∧ xs.length = l.length ∧ ∀ (i : Nat) (b : AV) (x : Value), l[i]? = some b → xs[i]? = some x → Rep g w b x
  | [], l, h => by
    obtain rfl := Option.some.inj h
    exact ⟨[], by simp, rfl, fun i b x h => by simp at h⟩
  | rv :: rs, l, h => by
    simp only [resL] at h
    split at h
    · rename_i b hb
      split at h
      · rename_i l' hl
        obtain rfl := Option.some.inj h
        obtain ⟨x, h1, h2⟩ := resV_sound hS hA hb
        obtain ⟨xs, h3, h4, h5⟩ := resL_sound hS hA hl
        refine ⟨x :: xs, ?_, by simp [h4], fun i b' y hb' hy => ?_⟩
        · rw [List.mapM_cons]
          simp only [Sem.run_bind]
          rw [h1]
          simp only [Result.andThen_ok, Sem.run_bind]
          rw [h3]
          rfl
        · cases i with
          | zero => simp at hb' hy; subst hb' hy; exact h2
          | succ i => simp at hb' hy; exact h5 i b' y hb' hy
      · cases h
    · cases h
theorem resA_sound {A : Nat → Prop} {g : Gh} {w : World} {a : Act} {fn : Func} {b : AV} (hS : St w0 A g S w) (hA : ARep g w n α a) (h : resA P fn.results α S = some b) : ∃ x, (results fn a.tmps).run P w = .ok x w ∧ Rep g w b x := by
  have e : ∀ {l : List AV} {xs : List Value}, xs.length = l.length → (∀ (i : Nat) (b : AV) (x : Value), l[i]? = some b → xs[i]? = some x → Rep g w b x) → (xs.toArray.size = 1 → ∃ a, l = [a]) ∧ Rep g w (.tup l) (.tuple xs.toArray) := by
    intro l xs h1 h2
    refine ⟨fun h3 => ?_, .tup (by simpa using h1) (fun i b x hb hx => h2 i b x hb (by simpa using hx))⟩
    match l, h1 with
    | [a], _ => exact ⟨a, rfl⟩
    | [], h1 => simp only [List.size_toArray, h1, List.length_nil] at h3; cases h3
    | _ :: _ :: _, h1 => simp only [List.size_toArray, h1, List.length_cons] at h3; omega
  unfold resA at h
  split at h
  · rename_i a0 hl
    obtain rfl := Option.some.inj h
    obtain ⟨xs, h1, h2, h3⟩ := resL_sound hS hA hl
    clear e
    match xs, h2, h1, h3 with
    | [x], _, h1, h3 =>
      refine ⟨x, ?_, h3 0 _ x rfl rfl⟩
      simp only [results_eq, Array.mapM_eq_mapM_toList, Sem.run_bind, Sem.run_map]
      rw [h1]
      rfl
  · rename_i l hne hl
    obtain rfl := Option.some.inj h
    obtain ⟨xs, h1, h2, h3⟩ := resL_sound hS hA hl
    obtain ⟨e1, e2⟩ := e h2 h3
    refine ⟨_, ?_, e2⟩
    have hs : ¬ xs.toArray.size = 1 := fun h => by obtain ⟨a, rfl⟩ := e1 h; exact hne a rfl
    simp only [results_eq, Array.mapM_eq_mapM_toList, Sem.run_bind, Sem.run_map]
    rw [h1]
    simp only [Result.andThen_ok, dif_neg hs]
    rfl
  · cases h
end
end Go.Proofs.YtahhaiomdjlckaaDoor
