/-
  More operations that owe something: slices, appends, made slices, strings that are ranged over.
-/
import Derived.Test.YtahhaiomdjlckaaDoorQl
namespace Go.Proofs.YtahhaiomdjlckaaDoor
set_option linter.unusedVariables false
set_option linter.unusedSimpArgs false
open Go.RowKit

section
variable {P : Program} {w0 : World} {n : Nat} {o : Op} {α : AA} {S S' : Store} {r : AV} {q : QOp} {dr : Bool}
def optI (f : Nat → AV) : Option QO → Int → Option Int
  | none, d => some d
  | some x, _ => match x.ev f with
    | .v (.int _ i) => some i
    | _ => none
theorem optI_eq {lo : Option Operand} {d i : Int} (h : optI α.tm (lo.map qo) d = some i) : intA (lo.map α.ev) d = some i := by
  cases lo with
  | none => exact h
  | some x =>
    simp only [Option.map_some, optI, qo_ev] at h
    simp only [Option.map_some, intA]
    split at h
    · rename_i e; rw [e]; exact h
    · cases h
theorem res_sli {k : SK} {x : QO} {lo hi : Option QO} (h : res P.toTables o = some (.slice k x lo hi none)) : ∃ t u l1 h1, o = .slice t u l1 h1 none ∧ x = qo u ∧ lo = l1.map qo ∧ hi = h1.map qo ∧
    ((k = .str ∧ P.underlying t = some .string) ∨ ∃ e m, k = .sl m ∧ P.underlying t = some (.slice e) ∧ szT P e = some m) := by
  cases o with
  | slice t u l1 h1 m1 =>
    simp only [res, undT_eq, siT_eq] at h
    split at h
    · rename_i hu
      simp only [Option.some.injEq, QOp.slice.injEq, Option.map_eq_none_iff] at h
      obtain ⟨rfl, rfl, rfl, rfl, rfl⟩ := h
      exact ⟨_, _, _, _, rfl, rfl, rfl, rfl, .inl ⟨rfl, hu⟩⟩
    · rename_i e hu
      split at h
      · rename_i m hs
        simp only [Option.some.injEq, QOp.slice.injEq, Option.map_eq_none_iff] at h
        obtain ⟨rfl, rfl, rfl, rfl, rfl⟩ := h
        exact ⟨_, _, _, _, rfl, rfl, rfl, rfl, .inr ⟨_, _, rfl, hu, hs⟩⟩
      · cases h
    · cases h
  | _ =>
    simp only [res] at h
    repeat' split at h
    all_goals cases h
theorem Owe.sliS {x : QO} {lo hi : Option QO} {s : ByteArray} {l h : Int} (h1 : x.ev α.tm = .v (.string s)) (h2 : optI α.tm lo 0 = some l) (h3 : optI α.tm hi s.size = some h) (h4 : 0 ≤ l) (h5 : l ≤ h) (h6 : h ≤ s.size) :
    Owe P w0 dr (.slice .str x lo hi none) α S (.v (.string (s.extract l.toNat h.toNat))) S := by
  refine Owe.of rfl fun o hr => ?_
  obtain ⟨t, u, l1, i1, rfl, rfl, rfl, rfl, hu | ⟨e, m, hk, _⟩⟩ := res_sli hr
  · rw [qo_ev] at h1
    simp only [opK, sliceK, Option.map_none, h1, hu.2, optI_eq h2, optI_eq h3]
    exact ⟨h4, h5, h6, rfl, rfl⟩
  · cases hk
theorem Owe.sliL {m : Nat} {x : QO} {lo hi : Option QO} {ex : Bool} {rows : List (List AV)} {l h : Int} (h1 : x.ev α.tm = .sl ex rows) (h2 : optI α.tm lo 0 = some l) (h3 : optI α.tm hi rows.length = some h) (h0 : ∀ row ∈ rows, row.length = m) (h4 : 0 ≤ l) (h5 : l ≤ h) (h6 : h ≤ rows.length) :
    Owe P w0 dr (.slice (.sl m) x lo hi none) α S (.sl false ((rows.take h.toNat).drop l.toNat)) S := by
  refine Owe.of rfl fun o hr => ?_
  obtain ⟨t, u, l1, i1, rfl, rfl, rfl, rfl, hu | ⟨e, m', hk, hu, hs⟩⟩ := res_sli hr
  · cases hu.1
  · injection hk with hk
    subst hk
    rw [qo_ev] at h1
    simp only [opK, sliceK, Option.map_none, h1, hu, optI_eq h2, optI_eq h3, hs]
    exact ⟨fun row hr => by rw [h0 row hr], rfl, h4, h5, h6, rfl, rfl⟩
theorem res_app {sz by_ : Nat} {a b : QO} (h : res P.toTables o = some (.append sz by_ a b)) : ∃ c t t2 u v e e2 z, o = .call c ∧ c.callee = .builtin .append ∧ c.argTypes.toList = [t, t2] ∧ c.args.toList = [u, v] ∧ a = qo u ∧ b = qo v ∧ elemT P t = some e ∧ elemT P t2 = some e2 ∧ zeroT P e = some z ∧
    szT P e = some sz ∧ bytesT P e = some by_ ∧ Nat.beq z.cells.size sz = true ∧ Nat.blt 0 by_ = true := by
  cases o <;> simp only [res, undT_eq, siT_eq, byT_eq, zeT_eq, elT_eq] at h <;> (repeat' split at h) <;> (try cases h)
  rename_i hb
  simp only [Bool.and_eq_true] at hb
  exact ⟨_, _, _, _, _, _, _, _, rfl, by assumption, by assumption, by assumption, rfl, rfl, by assumption, by assumption, by assumption, by assumption, by assumption, hb.1, hb.2⟩
/-- what is appended. -/
def moreOf (S : Store) (b : AV) : Option (List (List AV)) := match rowsOf S b, lenA b with
  | some l, some k => match Nat.beq k l.length with | true => some l | false => none
  | _, _ => none
theorem moreOf_some {S : Store} {b : AV} {l : List (List AV)} (h : moreOf S b = some l) : rowsOf S b = some l ∧ lenA b = some l.length := by
  unfold moreOf at h
  split at h
  · rename_i h1 h2
    split at h
    · rename_i e
      obtain rfl := Option.some.inj h
      rw [Nat.eq_of_beq_eq_true e] at h2
      exact ⟨h1, h2⟩
    · cases h
  · cases h
theorem Owe.append {sz by_ : Nat} {a b : QO} {more : List (List AV)} (hm : rowsOf S (b.ev α.tm) = some more) (hl : lenA (b.ev α.tm) = some more.length)
    (h : ∀ e z, zeroT P e = some z → szT P e = some sz → bytesT P e = some by_ → Nat.blt 0 by_ = true → appendK P e (IsO r S') S more (a.ev α.tm)) : Owe P w0 dr (.append sz by_ a b) α S r S' := by
  refine Owe.of rfl fun o hr => ?_
  obtain ⟨c, t, t2, u, v, e, e2, z, rfl, h1, h2, h3, rfl, rfl, h4, h5, h6, h7, h8, h9, h10⟩ := res_app hr
  rw [qo_ev] at hm hl h
  simp only [opK, h1, builtinK, h2, h3, List.map_cons, List.map_nil, h4, h5, h6, h7, h9]
  exact gotA.mk hm ⟨hl, h e z h6 h7 h8 h10⟩
/-- nothing is appended to a slice. -/
theorem Owe.app0 {sz by_ : Nat} {a b : QO} {rows : List (List AV)} (h1 : a.ev α.tm = .sl true rows) (hm : moreOf S (b.ev α.tm) = some []) : Owe P w0 dr (.append sz by_ a b) α S (.sl true rows) S := by
  refine Owe.append (moreOf_some hm).1 (moreOf_some hm).2 fun e z hz hs hb hp => ?_
  rw [h1]
  exact ⟨rfl, rfl⟩
/-- to a slice that is full, for instance nil. -/
theorem Owe.app1 {sz by_ : Nat} {a b : QO} {rows more : List (List AV)} {x : List AV} (h1 : a.ev α.tm = .sl true rows) (hm : moreOf S (b.ev α.tm) = some (x :: more)) (h2 : ∀ row ∈ rows, row.length = sz) (h3 : ∀ row ∈ x :: more, row.length = sz)
    (h4 : (rows.length + (x :: more).length) * by_ ≤ 35184372088832) : Owe P w0 dr (.append sz by_ a b) α S (.ob S.nx sz 0 (rows.length + (x :: more).length) none) (S.new (.arr sz (rows ++ x :: more) 0 false)) := by
  refine Owe.append (moreOf_some hm).1 (moreOf_some hm).2 fun e z hz hs hb hp => ?_
  rw [h1]
  simp only [appendK, hs, hb, hp]
  exact ⟨h2, h3, h4, rfl, rfl⟩
/-- to an object. -/
theorem Owe.app2 {sz by_ k fz len : Nat} {ex : Bool} {a b : QO} {rows more : List (List AV)} {x : List AV} (h1 : a.ev α.tm = .ob k sz 0 len none) (hk : S.get k = some (.arr sz rows fz ex)) (hm : moreOf S (b.ev α.tm) = some (x :: more)) (h0 : fz ≤ len) (h2 : len ≤ rows.length)
    (h3 : ∀ row ∈ x :: more, row.length = sz ∧ row.all isCell = true) (h4 : (len + (x :: more).length) * by_ ≤ 35184372088832) :
    Owe P w0 dr (.append sz by_ a b) α S (.ob S.nx sz 0 (len + (x :: more).length) none) ((S.set k none).new (.arr sz (rows.take len ++ x :: more) fz false)) := by
  refine Owe.append (moreOf_some hm).1 (moreOf_some hm).2 fun e z hz hs hb hp => ?_
  rw [h1]
  simp only [appendK]
  refine gotA.mk (arrOf_of hk) ?_
  simp only [hs, hb, hp, Nat.beq_refl, Bool.and_self, Bool.true_and]
  exact ⟨h0, h2, h3, h4, rfl, rfl⟩
theorem Owe.app20 {sz by_ k fz len sz' : Nat} {ex : Bool} {a b : QO} {rows : List (List AV)} (h1 : a.ev α.tm = .ob k sz' 0 len none) (hk : S.get k = some (.arr sz' rows fz ex)) (hm : moreOf S (b.ev α.tm) = some []) :
    Owe P w0 dr (.append sz by_ a b) α S (.ob k sz' 0 len none) S := by
  refine Owe.append (moreOf_some hm).1 (moreOf_some hm).2 fun e z hz hs hb hp => ?_
  rw [h1]
  simp only [appendK]
  exact gotA.mk (arrOf_of hk) ⟨rfl, rfl⟩
theorem res_mks {z : List AV} {by_ : Nat} {l c : QO} (h : res P.toTables o = some (.mkslice z by_ l c)) : ∃ t u v e zv sz, o = .makeSlice t u v ∧ l = qo u ∧ c = qo v ∧ elemT P t = some e ∧ zeroT P e = some zv ∧ szT P e = some sz ∧ bytesT P e = some by_ ∧
    z = zv.cells.toList.map lift1 ∧ Nat.beq zv.cells.size sz = true ∧ Nat.blt 0 sz = true := by
  cases o with
  | makeSlice t u v =>
    simp only [res, siT_eq, byT_eq, zeT_eq, elT_eq] at h
    split at h
    · rename_i e he
      split at h
      · rename_i zv sz b1 hz hs hb
        split at h
        · rename_i hc
          simp only [Bool.and_eq_true] at hc
          simp only [Option.some.injEq, QOp.mkslice.injEq] at h
          obtain ⟨rfl, rfl, rfl, rfl⟩ := h
          exact ⟨_, _, _, _, _, _, rfl, rfl, rfl, he, hz, hs, hb, rfl, hc.1, hc.2⟩
        · cases h
      · cases h
    · cases h
  | _ =>
    simp only [res] at h
    repeat' split at h
    all_goals cases h
theorem Owe.mks {z : List AV} {by_ : Nat} {l c : QO} {k k' : IntKind} {a b : Int} (h1 : l.ev α.tm = .v (.int k a)) (h2 : c.ev α.tm = .v (.int k' b)) (h3 : 0 ≤ a) (h4 : a = b) (h5 : a * by_ ≤ 35184372088832) (h6 : a ≤ 9223372036854775807) :
    Owe P w0 dr (.mkslice z by_ l c) α S (.ob S.nx z.length 0 a.toNat none) (S.new (.arr z.length (List.replicate a.toNat z) 0 true)) := by
  refine Owe.of rfl fun o hr => ?_
  obtain ⟨t, u, v, e, zv, sz, rfl, rfl, rfl, e1, e2, e3, e4, rfl, e5, e6⟩ := res_mks hr
  have hz : (zv.cells.toList.map lift1).length = sz := by rw [← Nat.eq_of_beq_eq_true e5]; simp
  rw [qo_ev] at h1 h2
  rw [hz]
  simp only [opK, h1, h2, e1, e2, e3, e4, e5, e6, Bool.and_self]
  exact ⟨h3, h4, h5, h6, rfl, rfl⟩
theorem Owe.rngS {x : QO} {s : ByteArray} (h1 : x.ev α.tm = .v (.string s)) : Owe P w0 dr (.rangeS x) α S (.pt S.nx 0 0 0) (S.new (.si s 0)) := by
  refine Owe.of rfl fun o hr => ?_
  cases o <;> simp only [res, undT_eq] at hr <;> (repeat' split at hr) <;> (try cases hr)
  rw [qo_ev] at h1
  simp only [opK, *]
  exact ⟨rfl, rfl⟩
theorem Owe.nxtS {x : QO} {k sz pos : Nat} {s : ByteArray} (h1 : x.ev α.tm = .pt k sz 0 0) (hk : S.get k = some (.si s pos)) (hp : pos < s.size) :
    Owe P w0 dr (.nextS x) α S (.tup [.v (.bool true), .v (.int .i64 pos), .v (.int .i32 (Utf8.decode s pos).1)]) (S.set k (some (.si s (pos + (Utf8.decode s pos).2)))) := by
  refine Owe.of rfl fun o hr => ?_
  cases o <;> simp only [res, undT_eq] at hr <;> (repeat' split at hr) <;> (try cases hr)
  rw [qo_ev] at h1
  simp only [opK, h1]
  refine gotA.mk (a := (s, pos)) (by simp only [siOf, hk]) ⟨true, by simpa using hp, rfl, rfl⟩
theorem Owe.endS {x : QO} {k sz pos : Nat} {s : ByteArray} (h1 : x.ev α.tm = .pt k sz 0 0) (hk : S.get k = some (.si s pos)) (hp : s.size ≤ pos) : Owe P w0 dr (.nextS x) α S (.tup [.v (.bool false)]) S := by
  refine Owe.of rfl fun o hr => ?_
  cases o <;> simp only [res, undT_eq] at hr <;> (repeat' split at hr) <;> (try cases hr)
  rw [qo_ev] at h1
  simp only [opK, h1]
  refine gotA.mk (a := (s, pos)) (by simp only [siOf, hk]) ⟨false, by simpa using hp, rfl, rfl⟩
end
section
variable {P : Program} {w0 : World} {n : Nat} {α : AA} {S : Store} {ex : Exit} {rs : Array ResultVar} {r r' : AV} {Q : Exit → AA → Store → Prop} {l : List QI} {K : List QIt} {dr : Bool}
theorem wpQ.nxtS {d : Option Nat} {g : Option (Nat × Bool)} {x : QO} {k sz pos : Nat} {s : ByteArray} (hw : wantQ α.tm g = some true) (h1 : x.ev α.tm = .pt k sz 0 0) (hk : S.get k = some (.si s pos))
    (k1 : pos < s.size → ∀ (j c : Int) (p : Nat), j = pos → c = (Utf8.decode s pos).1 → p = pos + (Utf8.decode s pos).2 → wpQ P w0 n Q (.reg dr l K) (putQ d α (.tup [.v (.bool true), .v (.int .i64 j), .v (.int .i32 c)])) (S.set k (some (.si s p))))
    (k2 : s.size ≤ pos → wpQ P w0 n Q (.reg dr l K) (putQ d α (.tup [.v (.bool false)])) S) : wpQ P w0 n Q (.reg dr (⟨d, g, .nextS x⟩ :: l) K) α S := by
  rcases Nat.lt_or_ge pos s.size with h | h
  · exact wpQ.op (i := ⟨d, g, .nextS x⟩) hw (Owe.nxtS h1 hk h) (k1 h _ _ _ rfl rfl rfl)
  · exact wpQ.op (i := ⟨d, g, .nextS x⟩) hw (Owe.endS h1 hk h) (k2 h)
theorem wpQ.gen {i : QI} {S' : Store} {T : Type} (F : T → AV) {p : T} (hw : wantQ α.tm i.g = some true) (h : Owe P w0 dr i.q α S (F p) S') (k : ∀ p', p' = p → wpQ P w0 n Q (.reg dr l K) (putQ i.d α (F p')) S') : wpQ P w0 n Q (.reg dr (i :: l) K) α S := wpQ.op hw h (k p rfl)
/-- a call that returns a value and whether it is one. -/
theorem wpQ.tb {i : QI} {S' : Store} {T : Type} (F : T → AV) {p : T × Bool} (hw : wantQ α.tm i.g = some true) (h : Owe P w0 dr i.q α S (.tup [F p.1, .v (.bool p.2)]) S')
    (k1 : ∀ v, p = (v, true) → wpQ P w0 n Q (.reg dr l K) (putQ i.d α (.tup [F v, .v (.bool true)])) S') (k2 : ∀ v, p = (v, false) → wpQ P w0 n Q (.reg dr l K) (putQ i.d α (.tup [F v, .v (.bool false)])) S') : wpQ P w0 n Q (.reg dr (i :: l) K) α S := by
  obtain ⟨v, b⟩ := p
  refine wpQ.op hw h ?_
  cases b with
  | true => exact k1 v rfl
  | false => exact k2 v rfl
theorem Owe.sliH {ρ : Hd} {T : Type} {f : T → List AV} {xs : List T} {m : Nat} {x : QO} {lo hi : Option QO} {ex : Bool} {i j : Int} (h1 : x.ev α.tm = .sl ex (ρ.h (List.map f) xs)) (h2 : optI α.tm lo 0 = some i) (h3 : optI α.tm hi (ρ.h (List.map f) xs).length = some j)
    (h0 : ∀ x, (f x).length = m) (h4 : 0 ≤ i) (h5 : i ≤ j) (h6 : j ≤ xs.length) : Owe P w0 dr (.slice (.sl m) x lo hi none) α S (lst ρ f false ((xs.take j.toNat).drop i.toNat)) S := by
  have := Owe.sliL (P := P) (w0 := w0) (dr := dr) (S := S) h1 h2 h3 (lst_all h0) h4 h5 (by rw [lst_len]; exact h6)
  rw [lst_eq, List.map_drop, List.map_take, ← ρ.eq (List.map f) xs]
  exact this
theorem Owe.sliHR {ρ : Hd} {T : Type} {f : T → List AV} {xs : List T} {m : Nat} {x : QO} {lo : QO} {ex : Bool} {k : IntKind} {i : Int} (h1 : x.ev α.tm = .sl ex (ρ.h (List.map f) xs)) (h2 : lo.ev α.tm = .v (.int k i))
    (h0 : ∀ x, (f x).length = m) (h4 : 0 ≤ i) (h5 : i ≤ xs.length) : Owe P w0 dr (.slice (.sl m) x (some lo) none none) α S (lst ρ f false (xs.drop i.toNat)) S := by
  have := Owe.sliH (P := P) (w0 := w0) (dr := dr) (S := S) (lo := some lo) (hi := none) (i := i) (j := xs.length) h1 (by simp only [optI, h2]) (by simp only [optI, lst_len]) h0 h4 h5 (by omega)
  simpa using this
/-- a value whose every meaning is one of another value. -/
def Wk (a b : AV) : Prop := ∀ (g : Gh) (w : World) (x : Value), Rep g w a x → Rep g w b x
def Wks : List AV → List AV → Prop
  | [], [] => True
  | a :: l, b :: m => Wk a b ∧ Wks l m
  | _, _ => False
theorem Wk.refl (a : AV) : Wk a a := fun _ _ _ h => h
theorem Wks.len : ∀ {l m : List AV}, Wks l m → l.length = m.length
  | [], [], _ => rfl
  | _ :: _, _ :: _, h => by simp [h.2.len]
  | [], _ :: _, h => h.elim
  | _ :: _, [], h => h.elim
theorem Wks.at : ∀ {l m : List AV}, Wks l m → ∀ (i : Nat) (b : AV), m[i]? = some b → ∃ a, l[i]? = some a ∧ Wk a b
  | [], [], _, i, b, h => by simp at h
  | a :: l, b :: m, hw, i, c, h => by
    cases i with
    | zero => simp at h; subst h; exact ⟨a, rfl, hw.1⟩
    | succ i => simp at h; obtain ⟨d, h1, h2⟩ := hw.2.at i c h; exact ⟨d, by simpa using h1, h2⟩
  | [], _ :: _, h, _, _, _ => h.elim
  | _ :: _, [], h, _, _, _ => h.elim
theorem Wk.agg {l m : List AV} (h : Wks l m) : Wk (.agg l) (.agg m) := fun g w x hr => by
  cases hr with
  | agg hs hh =>
    refine .agg (hs.trans h.len) fun i b y hb hy => ?_
    obtain ⟨a, h1, h2⟩ := h.at i b hb
    exact h2 _ _ _ (hh i a y h1 hy)
theorem Wk.sl {ex : Bool} {rows : List (List AV)} : Wk (.sl ex rows) (.sl false rows) := fun g w x hr => by
  cases hr with
  | nil hc => exact .nil (fun h => by cases h)
  | sl hn hc hle hl h hr => exact .sl hn (fun h => by cases h) hle hl h hr
theorem Wk.nil {ρ : Hd} {T : Type} {f : T → List AV} {ex : Bool} : Wk (.sl ex []) (lst ρ f false []) := by rw [lst_eq]; exact Wk.sl
theorem Cal.wk {f : FuncId} {args args0 : List AV} {S' : Store} (h : Cal P w0 f args S r S') (hw : Wks args0 args) : Cal P w0 f args0 S r S' := by
  refine ⟨h.1, fun F m A g args' w hF hS hA => h.2 F m A g args' w hF hS ⟨hA.1.trans hw.len, fun i a x ha hx => ?_⟩⟩
  obtain ⟨b, h1, h2⟩ := hw.at i a ha
  exact h2 _ _ _ (hA.2 i b x h1 hx)
theorem Owe.pcallW {f : QO} {as : List QO} {g : FuncId} {args args0 : List AV} (h : calOf (f.ev α.tm) (as.map (·.ev α.tm)) = some (g, args0)) (hc : PCal P w0 g args r) (hp : Pures args) (hw : Wks args0 args) : Owe P w0 dr (.call f as) α S r S := Owe.call h ((hc.calp hp S).wk hw) fun _ => rfl
/- LISTS THAT GROW. -/
variable {ρ : Hd} {T : Type} {f : T → List AV} {acc : List T} {x : T}
theorem wpQ.appN {d : Option Nat} {g : Option (Nat × Bool)} {a b : QO} {sz by_ : Nat} (ρ : Hd) (f : T → List AV) (hw : wantQ α.tm g = some true) (h1 : a.ev α.tm = .sl true []) (hb : moreOf S (b.ev α.tm) = some [f x]) (hl : (f x).length = sz) (hy : by_ ≤ 35184372088832)
    (k : ∀ acc', acc' = [x] → wpQ P w0 n Q (.reg dr l K) (putQ d α (.ob S.nx sz 0 1 none)) (S.new (.arr sz (ρ.h (List.map f) acc') 0 false))) : wpQ P w0 n Q (.reg dr (⟨d, g, .append sz by_ a b⟩ :: l) K) α S := by
  have h := k _ rfl
  rw [ρ.eq] at h
  exact wpQ.op (i := ⟨d, g, .append sz by_ a b⟩) hw (Owe.app1 (rows := []) h1 hb (by simp) (by simpa using hl) (by simpa using hy)) h
theorem wpQ.appC {d : Option Nat} {g : Option (Nat × Bool)} {a b : QO} {sz by_ k len : Nat} {ex : Bool} (hw : wantQ α.tm g = some true) (h1 : a.ev α.tm = .ob k sz 0 len none) (hk : S.get k = some (.arr sz (ρ.h (List.map f) acc) 0 ex)) (hn : len = acc.length)
    (hb : moreOf S (b.ev α.tm) = some [f x]) (hl : (f x).length = sz) (hc : (f x).all isCell = true) (hy : (len + 1) * by_ ≤ 35184372088832)
    (kk : ∀ acc', acc' = acc ++ [x] → wpQ P w0 n Q (.reg dr l K) (putQ d α (.ob S.nx sz 0 (len + 1) none)) ((S.set k none).new (.arr sz (ρ.h (List.map f) acc') 0 false))) : wpQ P w0 n Q (.reg dr (⟨d, g, .append sz by_ a b⟩ :: l) K) α S := by
  have h := kk _ rfl
  have hlen : (ρ.h (List.map f) acc).length = acc.length := lst_len
  have e : (ρ.h (List.map f) acc).take len ++ [f x] = ρ.h (List.map f) (acc ++ [x]) := by
    rw [List.take_of_length_le (by omega), ρ.eq, ρ.eq, List.map_append]; rfl
  rw [← e] at h
  exact wpQ.op (i := ⟨d, g, .append sz by_ a b⟩) hw (Owe.app2 h1 hk hb (Nat.zero_le _) (by omega) (by simpa using ⟨hl, by simpa using hc⟩) (by simpa using hy)) h
def accA (B sz : Nat) : Nat → AV
  | 0 => .sl true []
  | n + 1 => .ob B sz 0 (n + 1) none
def accO (ρ : Hd) {T : Type} (f : T → List AV) (B sz : Nat) (acc : List T) : Nat → List (Nat × Ob)
  | 0 => []
  | _ + 1 => [(B, .arr sz (ρ.h (List.map f) acc) 0 false)]
theorem klt_nil {B : Nat} {ex : Bool} : KLt B (.sl ex []) := .sl fun r hr => by cases hr
theorem kob_lst {B sz fz : Nat} {ex : Bool} (h : ∀ x ∈ acc, ∀ a ∈ f x, Pure a) : KOb B (.arr sz (ρ.h (List.map f) acc) fz ex) := by
  rw [ρ.eq]
  intro row hr a ha
  obtain ⟨x, hx, rfl⟩ := List.mem_map.1 hr
  exact (h x hx a ha).klt
/-- a grown list at the end of a function. -/
theorem Frz.accC {S : Store} {k sz len : Nat} {ex : Bool} (hk : S.get k = some (.arr sz (ρ.h (List.map f) acc) 0 ex)) (hn : len = acc.length) : Frz S (.ob k sz 0 len none) (lst ρ f false acc) := by
  rw [lst_eq]
  rw [ρ.eq] at hk
  refine .ob hk (by simp; omega) (by simp [hn]) (fun i row row' h1 h2 => ?_) (fun i j row row' a a' h1 h2 h3 h4 => ?_)
  · rw [Nat.zero_add, h2] at h1
    rw [Option.some.inj h1]
  · rw [Nat.zero_add, h2] at h1
    rw [Option.some.inj h1, h3] at h4
    rw [Option.some.inj h4]
    exact .refl _
theorem Frz.accN {S : Store} (hn : acc = []) : Frz S (.sl true []) (lst ρ f false acc) := by
  subst hn
  rw [lst_eq]
  exact Frz.wk
end
end Go.Proofs.YtahhaiomdjlckaaDoor
