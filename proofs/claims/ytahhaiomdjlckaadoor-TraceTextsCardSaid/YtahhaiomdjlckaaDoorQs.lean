/-
  Steps of the machine on resolved code: what a proof of a function uses.
-/
import Derived.Test.YtahhaiomdjlckaaDoorQr
namespace Go.Proofs.YtahhaiomdjlckaaDoor
set_option linter.unusedVariables false
set_option linter.unusedSimpArgs false
open Go.RowKit

section
variable {P : Program} {w0 : World} {n : Nat} {α α' : AA} {S S' : Store} {Q : Exit → AA → Store → Prop} {ex : Exit} {r : AV} {i : QI} {l : List QI} {K : List QIt} {dr : Bool} {cf cf' : QF}
theorem wpQ.go (m : Nat) (h : goq m cf α S = (cf', α', S')) (k : wpQ P w0 n Q cf' α' S') : wpQ P w0 n Q cf α S := goq_sound h k
theorem wpQ.op (hw : wantQ α.tm i.g = some true) (h : Owe P w0 dr i.q α S r S') (k : wpQ P w0 n Q (.reg dr l K) (putQ i.d α r) S') : wpQ P w0 n Q (.reg dr (i :: l) K) α S := RegQ.op hw h k
theorem wpQ.bif {e : Bool} (hw : wantQ α.tm i.g = some true) (h : Owe P w0 dr i.q α S (.v (.bool e)) S') (k1 : e = true → wpQ P w0 n Q (.reg dr l K) (putQ i.d α (.v (.bool true))) S') (k2 : e = false → wpQ P w0 n Q (.reg dr l K) (putQ i.d α (.v (.bool false))) S') :
    wpQ P w0 n Q (.reg dr (i :: l) K) α S := by
  refine RegQ.op hw h ?_
  cases e with
  | true => exact k1 rfl
  | false => exact k2 rfl
theorem wpQ.bit {e : Bool} (hw : wantQ α.tm i.g = some true) (h : Owe P w0 dr i.q α S (.v (.bool e)) S') (k : ∀ d, e = d → wpQ P w0 n Q (.reg dr l K) (putQ i.d α (.v (.bool d))) S') : wpQ P w0 n Q (.reg dr (i :: l) K) α S := RegQ.op hw h (k e rfl)
theorem wpQ.int {ik : IntKind} {e : Int} (hw : wantQ α.tm i.g = some true) (h : Owe P w0 dr i.q α S (.v (.int ik e)) S') (k : ∀ d, d = e → wpQ P w0 n Q (.reg dr l K) (putQ i.d α (.v (.int ik d))) S') : wpQ P w0 n Q (.reg dr (i :: l) K) α S := RegQ.op hw h (k e rfl)
theorem wpQ.str {e : ByteArray} (hw : wantQ α.tm i.g = some true) (h : Owe P w0 dr i.q α S (.v (.string e)) S') (k : ∀ d, d = e → wpQ P w0 n Q (.reg dr l K) (putQ i.d α (.v (.string d))) S') : wpQ P w0 n Q (.reg dr (i :: l) K) α S := RegQ.op hw h (k e rfl)
theorem wpQ.sl {b : Bool} {e : List (List AV)} (hw : wantQ α.tm i.g = some true) (h : Owe P w0 dr i.q α S (.sl b e) S') (k : ∀ d, d = e → wpQ P w0 n Q (.reg dr l K) (putQ i.d α (.sl b d)) S') : wpQ P w0 n Q (.reg dr (i :: l) K) α S := RegQ.op hw h (k e rfl)
theorem wrapK {c : Int} (h1 : -9223372036854775808 ≤ c) (h2 : c ≤ 9223372036854775807) : IntKind.i64.wrap c = c := wrap64 h1 h2
theorem Owe.ari64 {op : BinOp} {isB : Bool} {x y : QO} {a b c : Int} (h1 : x.ev α.tm = .v (.int .i64 a)) (h2 : y.ev α.tm = .v (.int .i64 b)) (h : arith op a b = some c) (hl : -9223372036854775808 ≤ c) (hh : c ≤ 9223372036854775807) : Owe P w0 dr (.bin op isB x y) α S (.v (.int .i64 c)) S := by
  have := Owe.ari (P := P) (w0 := w0) (S := S) (dr := dr) (isB := isB) h1 h2 h
  rw [wrapK hl hh] at this
  exact this
theorem Owe.ari32 {op : BinOp} {isB : Bool} {x y : QO} {a b c : Int} (h1 : x.ev α.tm = .v (.int .i32 a)) (h2 : y.ev α.tm = .v (.int .i32 b)) (h : arith op a b = some c) (hl : -2147483648 ≤ c) (hh : c ≤ 2147483647) : Owe P w0 dr (.bin op isB x y) α S (.v (.int .i32 c)) S := by
  have := Owe.ari (P := P) (w0 := w0) (S := S) (dr := dr) (isB := isB) h1 h2 h
  rw [show IntKind.i32.wrap c = c by unfold IntKind.wrap; simp [IntKind.bits, IntKind.signed]; omega] at this
  exact this
theorem Owe.conv64 {x : QO} {k' : IntKind} {a : Int} (h1 : x.ev α.tm = .v (.int k' a)) (hl : -9223372036854775808 ≤ a) (hh : a ≤ 9223372036854775807) : Owe P w0 dr (.conv .i64 x) α S (.v (.int .i64 a)) S := by
  have := Owe.conv (P := P) (w0 := w0) (S := S) (dr := dr) (k := .i64) h1
  rw [wrapK hl hh] at this
  exact this
theorem Owe.pcall {f : QO} {as : List QO} {g : FuncId} {args : List AV} (h : calOf (f.ev α.tm) (as.map (·.ev α.tm)) = some (g, args)) (hc : PCal P w0 g args r) (hp : Pures args) : Owe P w0 dr (.call f as) α S r S := Owe.call h (hc.calp hp S) fun _ => rfl
theorem Owe.pcalz {f : QO} {as : List QO} {g : FuncId} {args args0 : List AV} (h : calOf (f.ev α.tm) (as.map (·.ev α.tm)) = some (g, args0)) (hc : PCal P w0 g args r) (hp : Pures args) (hs : Scal r) (hf : Frzs S args0 args) : Owe P w0 dr (.call f as) α S r S := Owe.call h (hc.calz hp hs hf) fun _ => rfl
theorem wpQ.cond {x : QO} {a b : QC} {t : Bool} (hx : x.ev α.tm = .v (.bool t)) (h1 : t = true → wpQ P w0 n Q (.run a K) α S) (h2 : t = false → wpQ P w0 n Q (.run b K) α S) : wpQ P w0 n Q (.run (.cond x a b) K) α S := by
  refine QWp.cond hx ?_
  cases t with
  | true => exact h1 rfl
  | false => exact h2 rfl
/-- the end of a round. -/
def lpQ (P : Program) (w0 : World) (n : Nat) (I : Nat → AA → Store → Prop) (Q : Exit → AA → Store → Prop) (K : List QIt) (k : Nat) : Exit → AA → Store → Prop :=
  fun ex α S => match ex with | .normal => ∃ j, j < k ∧ I j α S | e => wpQ P w0 n Q (.out e K) α S
theorem wpQ.loopI {c : QC} (I : Nat → AA → Store → Prop) (k : Nat) (hI : I k α S) (h : ∀ k α S, I k α S → wpQ P w0 n (lpQ P w0 n I Q K k) (.run c []) α S) : wpQ P w0 n Q (.run (.loop c) K) α S := by
  intro c0 hc hd
  obtain ⟨c1, rfl, h1⟩ := comp_loop hc
  have key : ∀ (k : Nat) {α : AA} {S : Store}, I k α S → ∃ ex α' S', BigL P w0 n c1 α S ex α' S' ∧ qcont P w0 n Q K ex α' S' := by
    intro k
    induction k using Nat.strongRecOn with
    | _ k ih =>
      intro α S hI
      obtain ⟨ex, α₁, S₁, h3, h4⟩ : Wp P w0 n c1 (lpQ P w0 n I Q K k) α S := h k α S hI c1 h1 hd
      cases ex with
      | normal =>
        obtain ⟨j, hj, hI'⟩ := h4
        obtain ⟨ex, α', S', h5, h6⟩ := ih j hj hI'
        exact ⟨ex, α', S', BigL.step h3 h5, h6⟩
      | _ => exact ⟨_, α₁, S₁, BigL.done h3 (by simp), h4⟩
  obtain ⟨ex, α', S', h2, h3⟩ := key k hI
  exact ⟨ex, α', S', Big.loop h2, h3⟩
/-- what is known at a loop's head: σ: what changes from round to round. -/
def LpI {σ : Type} (st : σ → List (Nat × AV)) (ds : List Nat) (so : σ → Store) (I : σ → Prop) (μ : σ → Nat) (k : Nat) (α : AA) (S : Store) : Prop := ∃ s, I s ∧ μ s = k ∧ α.has (st s) ∧ α.df = ds ∧ S = so s
def overF (f : Nat → AV) : List (Nat × AV) → Nat → AV
  | [] => f
  | p :: l => upd (overF f l) p.1 p.2
theorem over_overF : ∀ {l : List (Nat × AV)}, α.over l = overF α.tm l
  | [] => rfl
  | p :: l => by rw [AA.over, overF, over_overF]
theorem wpQ.loop {σ : Type} (st : σ → List (Nat × AV)) (ds : List Nat) (so : σ → Store) (I : σ → Prop) (μ : σ → Nat) (s0 : σ) {c : QC} (h0 : I s0) (hs : α.has (st s0)) (hd : α.df = ds) (hS : S = so s0)
    (h : ∀ s f, I s → wpQ P w0 n (lpQ P w0 n (LpI st ds so I μ) Q K (μ s)) (.run c []) ⟨overF f (st s), ds⟩ (so s)) : wpQ P w0 n Q (.run (.loop c) K) α S := by
  refine wpQ.loopI (LpI st ds so I μ) (μ s0) ⟨s0, h0, rfl, hs, hd, hS⟩ ?_
  rintro k α S ⟨s, h1, rfl, h2, h3, rfl⟩
  rw [AA.see h2 h3, over_overF]
  exact h s α.tm h1
theorem wpQ.next {σ : Type} {st : σ → List (Nat × AV)} {ds : List Nat} {so : σ → Store} {I : σ → Prop} {μ : σ → Nat} {k : Nat} (s : σ) (hI : I s) (hk : μ s < k) (h : α.has (st s)) (hd : α.df = ds) (hS : S = so s) :
    wpQ P w0 n (lpQ P w0 n (LpI st ds so I μ) Q K k) (.out .normal []) α S := ⟨μ s, hk, s, hI, rfl, h, hd, hS⟩
theorem wpQ.exit {I : Nat → AA → Store → Prop} {k id : Nat} (h : wpQ P w0 n Q (.out (.exit id) K) α S) : wpQ P w0 n (lpQ P w0 n I Q K k) (.out (.exit id) []) α S := h
theorem wpQ.ret {I : Nat → AA → Store → Prop} {k : Nat} (h : wpQ P w0 n Q (.out .ret K) α S) : wpQ P w0 n (lpQ P w0 n I Q K k) (.out .ret []) α S := h
inductive QR where
  | t (n : Nat)
  | cell (k : LK) (n : Nat)
def resR (T : Tables) : List ResultVar → Option (List QR)
  | [] => some []
  | .tmp n :: l => match resR T l with
    | some l' => some (.t n :: l')
    | none => none
  | .cell n t :: l => match lkT T t, resR T l with
    | some k, some l' => some (.cell k n :: l')
    | _, _ => none
def qresL (f : Nat → AV) (S : Store) : List QR → Option (List AV)
  | [] => some []
  | .t n :: l => match qresL f S l with
    | some l' => some (f n :: l')
    | none => none
  | .cell k n :: l => match loadAk k S (f n), qresL f S l with
    | some a, some l' => some (a :: l')
    | _, _ => none
/-- a function's end: its result, and the store. -/
def finq (qs : List QR) (ex : Exit) (α : AA) (S : Store) : Option (AV × Store) := match isEnd ex, dfOk S α.df with
  | true, true => match qresL α.tm (dropL S α.df) qs with
    | some [a] => some (a, dropL S α.df)
    | some l => some (.tup l, dropL S α.df)
    | none => none
  | _, _ => none
def endR (qs : List QR) (R : AV → Store → Prop) (ex : Exit) (α : AA) (S : Store) : Prop := ∃ r S', finq qs ex α S = some (r, S') ∧ R r S'
theorem qresL_eq {l : List ResultVar} : ∀ {qs : List QR} {m : List AV}, resR P.toTables l = some qs → qresL α.tm S qs = some m → resL P α S l = some m := by
  induction l with
  | nil => intro qs m h k; obtain rfl := Option.some.inj h; exact k
  | cons v l ih =>
    intro qs m h k
    cases v with
    | tmp n =>
      simp only [resR] at h
      split at h
      · rename_i l' hl
        obtain rfl := Option.some.inj h
        simp only [qresL] at k
        split at k
        · rename_i m' hm
          obtain rfl := Option.some.inj k
          simp only [resL, resV, ih hl hm]
        · cases k
      · cases h
    | cell n t =>
      simp only [resR] at h
      split at h
      · rename_i lk l' hk hl
        obtain rfl := Option.some.inj h
        simp only [qresL] at k
        split at k
        · rename_i a m' ha hm
          obtain rfl := Option.some.inj k
          rw [← loadAk_eq hk] at ha
          simp only [resL, resV, ha, ih hl hm]
        · cases k
      · cases h
theorem endR_K {rs : Array ResultVar} {qs : List QR} {R : AV → Store → Prop} (hr : resR P.toTables rs.toList = some qs) (h : endR qs R ex α S) : endK P rs R ex α S := by
  obtain ⟨r, S', h, k⟩ := h
  unfold finq at h
  split at h
  · rename_i he hd
    have key : ∀ m, qresL α.tm (dropL S α.df) qs = some m → resL P α (dropL S α.df) rs.toList = some m := fun m hm => qresL_eq hr hm
    unfold endK
    rw [hd]
    have fin : resA P rs α (dropL S α.df) = some r ∧ dropL S α.df = S' := by
      split at h
      · rename_i a hq
        injection h with h; injection h with h1 h2
        subst h1
        exact ⟨by unfold resA; rw [key _ hq], h2⟩
      · rename_i l hne hq
        injection h with h; injection h with h1 h2
        subst h1
        refine ⟨?_, h2⟩
        unfold resA
        rw [key _ hq]
        split
        · rename_i e; injection e with e; subst e; exact (hne _ rfl).elim
        · rename_i e; injection e with e; subst e; rfl
        · rename_i e; cases e
      · cases h
    rw [fin.1, fin.2]
    cases ex <;> first | exact k | cases he
  · cases h
theorem wpQ.fin {qs : List QR} {R : AV → Store → Prop} (h : finq qs ex α S = some (r, S')) (k : R r S') : wpQ P w0 n (endR qs R) (.out ex []) α S := ⟨r, S', h, k⟩
/-- a function with its code resolved. -/
structure QFn (P : Program) (f : FuncId) (q : QC × List QR) (n : Nat) : Prop where
  out : ∃ fn c, P.funcs[f]? = some fn ∧ fn.body = some c ∧ fn.ntmps = n ∧ resR P.toTables fn.results.toList = some q.2 ∧ comp P.toTables n c = some q.1 ∧ drawsOk P c = true ∧ ∀ (xs : Array Value) (w : World), (callFunc f xs).run P w = .ok (.enter f xs) w
def compF (T : Tables) (fn : Func) : Option (QC × List QR) := match fn.body with
  | some c => match comp T fn.ntmps c, resR T fn.results.toList with
    | some q, some qs => some (q, qs)
    | _, _ => none
  | none => none
def drawF (P : Program) (fn : Func) : Bool := match fn.body with | some c => drawsOk P c | none => false
theorem QFn.of {f : FuncId} {q : QC × List QR} {fn : Func} {T : Tables} (hf : P.funcs[f]? = some fn) (hq : compF T fn = some q) (hT : P.toTables = T) (hn : fn.ntmps = n) (hd : drawF P fn = true)
    (hc : ∀ (xs : Array Value) (w : World), (callFunc f xs).run P w = .ok (.enter f xs) w) : QFn P f q n := by
  subst hT
  unfold compF at hq
  unfold drawF at hd
  cases hb : fn.body with
  | none => rw [hb] at hq; cases hq
  | some c =>
    rw [hb] at hq hd
    simp only at hq
    split at hq
    · rename_i q1 qs h1 h2
      obtain rfl := Option.some.inj hq
      exact ⟨⟨fn, c, hf, hb, hn, h2, by rw [← hn]; exact h1, hd, hc⟩⟩
    · cases hq
theorem wpQ.mono {Q' : Exit → AA → Store → Prop} (hm : ∀ ex α S, Q ex α S → Q' ex α S) {c : QC} (h : wpQ P w0 n Q (.run c []) α S) : wpQ P w0 n Q' (.run c []) α S := by
  intro c0 hc hd
  obtain ⟨ex, α', S', h1, h2⟩ := h c0 hc hd
  exact ⟨ex, α', S', h1, hm _ _ _ h2⟩
theorem QFn.pcal {f : FuncId} {q : QC × List QR} {args : List AV} (F : QFn P f q n) (hargs : args.length ≤ n) (hp : Pure r) (h : wpQ P w0 n (endR q.2 fun r' S => Frz S r' r) (.run q.1 []) ⟨argF args, []⟩ Store.none_) : PCal P w0 f args r := by
  obtain ⟨fn, c, hf, hb, hn, hr, hq, hd, hc⟩ := F.out
  exact PCal.of_wp hf hb hc hn hargs hp (wpQ.mono (fun ex α S => endR_K hr) h c hq hd)
theorem QFn.cal {f : FuncId} {q : QC × List QR} {args : List AV} {R : AV → Store → Prop} (F : QFn P f q n) (hargs : args.length ≤ n) (h : wpQ P w0 n (endR q.2 R) (.run q.1 []) ⟨argF args, []⟩ S) : ∃ r S', Cal P w0 f args S r S' ∧ R r S' := by
  obtain ⟨fn, c, hf, hb, hn, hr, hq, hd, hc⟩ := F.out
  exact Cal.of_wp hf hb hc hn hargs (wpQ.mono (fun ex α S => endR_K hr) h c hq hd)
theorem Frz.of_eq {S : Store} {a b : AV} (h : a = b) : Frz S a b := by subst h; exact Frz.refl _
theorem wpQ.finV {qs : List QR} {r' : AV} (h : finq qs ex α S = some (r', S')) (e : r' = r) : wpQ P w0 n (endR qs fun r' S => Frz S r' r) (.out ex []) α S := wpQ.fin h (Frz.of_eq e)
end
end Go.Proofs.YtahhaiomdjlckaaDoor
