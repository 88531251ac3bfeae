/-
  The rules of the machine on resolved code.
-/
import Derived.Test.YtahhaiomdjlckaaDoorQm
import Derived.Laws.BytesString
namespace Go.Proofs.YtahhaiomdjlckaaDoor
set_option linter.unusedVariables false
set_option linter.unusedSimpArgs false
open Go.RowKit

section
variable {P : Program} {w0 : World} {n : Nat} {o : Op} {α : AA} {S S' : Store} {r : AV} {q : QOp} {dr : Bool}
theorem binV_of {op : BinOp} {isB : Bool} {t : TypeId} {a b : AV} {e : Bool} (hB : isB = true → P.underlying t = some .bool) (h : bitQ op isB a b = some e) : ∃ x y, a = .v x ∧ b = .v y ∧ binV P op t x y = some (.bool e) ∧ (∀ k i j, x = .int k i → y = .int k j → arith op i j = none) ∧ (∀ s s', x = .string s → y = .string s' → op ≠ .add) := by
  unfold bitQ at h
  split at h
  · rename_i k a k' b
    split at h
    · rename_i hk
      refine ⟨_, _, rfl, rfl, ?_, ?_, fun s s' h => by cases h⟩
      · simp only [binV, hk]
        cases op <;> simp only [Option.some.injEq, reduceCtorEq] at h ⊢ <;> subst h <;> rfl
      · intro k i j h1 h2
        cases op <;> simp only [reduceCtorEq] at h <;> rfl
    · cases h
  · rename_i a b
    refine ⟨_, _, rfl, rfl, ?_, (fun k i j h => by cases h), fun s s' h1 h2 he => ?_⟩
    · simp only [binV]
      cases op <;> simp only [Option.some.injEq, reduceCtorEq] at h ⊢ <;> subst h <;> rfl
    · subst he; simp at h
  · rename_i a b
    refine ⟨_, _, rfl, rfl, ?_, (fun k i j h => by cases h), fun s s' h => by cases h⟩
    split at h
    · simp only [binV, hB rfl]; simp only [Option.some.injEq] at h; subst h; rfl
    · simp only [binV, hB rfl]; simp only [Option.some.injEq] at h; subst h; rfl
    · cases h
  · cases h
theorem res_bin {op : BinOp} {isB : Bool} {x y : QO} (h : res P.toTables o = some (.bin op isB x y)) : ∃ t u v s, o = .binOp op t u v s ∧ x = qo u ∧ y = qo v ∧ (isB = true → P.underlying t = some .bool) := by
  cases o with
  | binOp op' t u v s =>
    simp only [res, undT_eq] at h
    split at h
    · rename_i hu
      injection h with h; injection h with h1 h2 h3 h4
      subst h1 h2 h3 h4
      exact ⟨_, _, _, _, rfl, rfl, rfl, fun _ => hu⟩
    · injection h with h; injection h with h1 h2 h3 h4
      subst h1 h2 h3 h4
      exact ⟨_, _, _, _, rfl, rfl, rfl, fun h => by cases h⟩
  | _ =>
    simp only [res] at h
    repeat' split at h
    all_goals cases h
theorem Owe.bit {op : BinOp} {isB : Bool} {x y : QO} {e : Bool} (h : bitQ op isB (x.ev α.tm) (y.ev α.tm) = some e) : Owe P w0 dr (.bin op isB x y) α S (.v (.bool e)) S := by
  refine Owe.of rfl fun o hr => ?_
  obtain ⟨t, u, v, s, rfl, rfl, rfl, hB⟩ := res_bin hr
  rw [qo_ev, qo_ev] at h
  obtain ⟨x, y, h1, h2, h3, h4, h5⟩ := binV_of hB h
  simp only [opK, h1, h2]
  split
  · rename_i k a k' b e1 e2
    injection e1 with e1; injection e2 with e2
    subst e1 e2
    split
    · rename_i c hc
      split
      · rename_i hk
        have : k = k' := of_decide_eq_true hk
        subst this
        rw [h4 _ _ _ rfl rfl] at hc; cases hc
      · rename_i hk
        simp only [binV] at h3
        rw [hk] at h3
        simp at h3
    · rw [h3]; exact boK.mk ⟨rfl, rfl⟩
  · rename_i a b e1 e2
    injection e1 with e1; injection e2 with e2
    subst e1 e2
    have h6 := h5 _ _ rfl rfl
    split
    · exact absurd rfl h6
    · rw [h3]; exact boK.mk ⟨rfl, rfl⟩
  · rename_i a b ha hb e1 e2
    injection e1 with e1; injection e2 with e2
    subst e1 e2
    rw [h3]; exact boK.mk ⟨rfl, rfl⟩
  · rename_i h7 h8 h9
    exact absurd rfl (h9 x y rfl)
theorem Owe.ari {op : BinOp} {isB : Bool} {x y : QO} {k : IntKind} {a b c : Int} (h1 : x.ev α.tm = .v (.int k a)) (h2 : y.ev α.tm = .v (.int k b)) (h : arith op a b = some c) : Owe P w0 dr (.bin op isB x y) α S (.v (.int k (k.wrap c))) S := by
  refine Owe.of rfl fun o hr => ?_
  obtain ⟨t, u, v, s, rfl, rfl, rfl, hB⟩ := res_bin hr
  rw [qo_ev] at h1 h2
  simp only [opK, h1, h2, h, decide_true]
  exact ⟨_, rfl, rfl, rfl⟩
theorem Owe.cat {isB : Bool} {x y : QO} {a b : ByteArray} (h1 : x.ev α.tm = .v (.string a)) (h2 : y.ev α.tm = .v (.string b)) (h : a.size + b.size ≤ 9223372036854775807) : Owe P w0 dr (.bin .add isB x y) α S (.v (.string (a ++ b))) S := by
  refine Owe.of rfl fun o hr => ?_
  obtain ⟨t, u, v, s, rfl, rfl, rfl, hB⟩ := res_bin hr
  rw [qo_ev] at h1 h2
  simp only [opK, h1, h2]
  exact ⟨h, rfl, rfl⟩
/-- an operation's inverse: only one form of it is resolved so. -/
theorem Owe.neg {x : QO} {k : IntKind} {a : Int} (h1 : x.ev α.tm = .v (.int k a)) : Owe P w0 dr (.neg x) α S (.v (.int k (k.wrap (0 - a)))) S := by
  refine Owe.of rfl fun o hr => ?_
  cases o <;> simp only [res] at hr <;> (repeat' split at hr) <;> (try cases hr)
  rw [qo_ev] at h1
  simp only [opK, h1]
  exact ⟨_, rfl, rfl, rfl⟩
theorem Owe.conv {x : QO} {k k' : IntKind} {a : Int} (h1 : x.ev α.tm = .v (.int k' a)) : Owe P w0 dr (.conv k x) α S (.v (.int k (k.wrap a))) S := by
  refine Owe.of rfl fun o hr => ?_
  cases o <;> simp only [res, undT_eq] at hr <;> (repeat' split at hr) <;> (try cases hr)
  rename_i e1 e2
  rw [qo_ev] at h1
  simp only [opK, h1, e1, e2]
  exact ⟨_, rfl, rfl, rfl⟩
theorem Owe.convS {x : QO} {a : ByteArray} (h1 : x.ev α.tm = .v (.string a)) : Owe P w0 dr (.convS x) α S (.v (.string a)) S := by
  refine Owe.of rfl fun o hr => ?_
  cases o <;> simp only [res, undT_eq] at hr <;> (repeat' split at hr) <;> (try cases hr)
  rename_i e1 e2
  rw [qo_ev] at h1
  simp only [opK, h1, e1, e2]
  exact ⟨rfl, rfl⟩
def calOf (f : AV) (args : List AV) : Option (FuncId × List AV) := match f with
  | .v (.func (.func g) a b) => match a.toList, b.toList with
    | [], [] => some (g, args)
    | _, _ => none
  | .fn (.func g) first cap => some (g, first ++ args ++ cap)
  | _ => none
theorem res_call {f : QO} {args : List QO} (h : res P.toTables o = some (.call f args)) : ∃ c u, o = .call c ∧ c.callee = .value u ∧ f = qo u ∧ args = c.args.toList.map qo := by
  cases o with
  | call c =>
    simp only [res] at h
    split at h
    · rename_i u hu
      injection h with h; injection h with h1 h2
      exact ⟨c, u, rfl, hu, h1.symm, h2.symm⟩
    · repeat' split at h
      all_goals cases h
    · cases h
  | _ =>
    simp only [res] at h
    repeat' split at h
    all_goals cases h
theorem ev_args {l : List Operand} : (l.map qo).map (·.ev α.tm) = l.map α.ev := by
  rw [List.map_map]
  exact List.map_congr_left fun x _ => qo_ev x
theorem Owe.call {f : QO} {as : List QO} {g : FuncId} {args : List AV} (h : calOf (f.ev α.tm) (as.map (·.ev α.tm)) = some (g, args)) (hc : Cal P w0 g args S r S') (hd : dr = true → S' = S) : Owe P w0 dr (.call f as) α S r S' := by
  cases dr with
  | false =>
    intro n o hr
    refine OpS.ofK ?_
    obtain ⟨c, u, ho, hu, rfl, rfl⟩ := res_call hr
    rw [ev_args, qo_ev] at h
    unfold calOf at h
    rw [ho]
    simp only [opK, hu]
    split at h
    · rename_i g' a b he
      split at h
      · rename_i e1 e2
        injection h with h; injection h with h1 h2
        subst h1 h2
        simp only [callK, he, e1, e2]
        exact ⟨r, S', hc, rfl, rfl⟩
      · cases h
    · rename_i g' a b he
      injection h with h; injection h with h1 h2
      subst h1 h2
      simp only [callK, he]
      exact ⟨r, S', hc, rfl, rfl⟩
    · cases h
  | true =>
    intro o hr
    obtain ⟨c, u, rfl, hu, rfl, rfl⟩ := res_call hr
    rw [ev_args, qo_ev] at h
    unfold calOf at h
    obtain rfl := hd rfl
    simp only [opD, hu]
    split at h
    · rename_i g' a b he
      split at h
      · rename_i e1 e2
        injection h with h; injection h with h1 h2
        subst h1 h2
        simp only [callD, he, e1, e2]
        exact ⟨r, hc, rfl, rfl⟩
      · cases h
    · rename_i g' a b he
      injection h with h; injection h with h1 h2
      subst h1 h2
      simp only [callD, he]
      exact ⟨r, hc, rfl, rfl⟩
    · cases h
def lenQ (str : Bool) : AV → Option Nat
  | .sl _ rows => match str with | false => some rows.length | true => none
  | .ob _ _ _ len _ => match str with | false => some len | true => none
  | .v (.string s) => match str with | true => some s.size | false => none
  | _ => none
theorem Owe.len {str : Bool} {x : QO} {m : Nat} (h : lenQ str (x.ev α.tm) = some m) : Owe P w0 dr (.len str x) α S (.v (.int .i64 m)) S := by
  refine Owe.of rfl fun o hr => ?_
  cases o <;> simp only [res, undT_eq] at hr <;> (repeat' split at hr) <;> (try cases hr)
  all_goals
    rw [qo_ev] at h
    simp only [opK, builtinK, List.map_cons, List.map_nil, *]
    refine gotA.mk (a := m) ?_ ⟨rfl, rfl⟩
    unfold lenOf
    unfold lenQ at h
    split at h <;> (try split at h) <;> (try cases h) <;> first | contradiction | simp only [isStr, lenA, *]
def idxQ (i : AV) (rows : List (List AV)) : Option (List AV) := match i with
  | .v (.int _ k) => idx rows k
  | _ => none
theorem Owe.ind {m : Nat} {x i : QO} {ex : Bool} {rows : List (List AV)} {row : List AV} {k : IntKind} {j : Int} (h1 : x.ev α.tm = .sl ex rows) (h2 : i.ev α.tm = .v (.int k j)) (h3 : idx rows j = some row) (h4 : ∀ r ∈ rows, r.length = m) : Owe P w0 dr (.iaddr m x i) α S (.ip row) S := by
  refine Owe.of rfl fun o hr => ?_
  cases o <;> simp only [res, undT_eq, siT_eq] at hr <;> (repeat' split at hr) <;> (try cases hr)
  rw [qo_ev] at h1 h2
  simp only [opK, *]
  exact gotA.mk rfl ⟨h4, rfl, rfl⟩
theorem Owe.indO {m : Nat} {x i : QO} {k off len : Nat} {cx : Option Nat} {ik : IntKind} {j : Int} (h1 : x.ev α.tm = .ob k m off len cx) (h2 : i.ev α.tm = .v (.int ik j)) (h3 : 0 ≤ j) (h4 : j < len) : Owe P w0 dr (.iaddr m x i) α S (.pt k m (off + j.toNat) 0) S := by
  refine Owe.of rfl fun o hr => ?_
  cases o <;> simp only [res, undT_eq, siT_eq] at hr <;> (repeat' split at hr) <;> (try cases hr)
  rw [qo_ev] at h1 h2
  rename_i e1 _ e2
  simp only [opK, h1, h2, e1, e2]
  exact ⟨trivial, h3, h4, rfl, rfl⟩
theorem Owe.indS {x i : QO} {s : ByteArray} {ik : IntKind} {j : Int} {b : UInt8} (h1 : x.ev α.tm = .v (.string s)) (h2 : i.ev α.tm = .v (.int ik j)) (h3 : idx s.data.toList j = some b) : Owe P w0 dr (.idxS x i) α S (.v (.int .u8 b.toNat)) S := by
  refine Owe.of rfl fun o hr => ?_
  cases o <;> simp only [res, undT_eq, siT_eq] at hr <;> (repeat' split at hr) <;> (try cases hr)
  rw [qo_ev] at h1 h2
  simp only [opK, *]
  exact gotA.mk rfl ⟨rfl, rfl⟩
theorem Owe.min {x y : QO} {k : IntKind} {a b : Int} (h1 : x.ev α.tm = .v (.int k a)) (h2 : y.ev α.tm = .v (.int k b)) : Owe P w0 dr (.min x y) α S (.v (.int k (min a b))) S := by
  refine Owe.of rfl fun o hr => ?_
  cases o <;> simp only [res, undT_eq] at hr <;> (repeat' split at hr) <;> (try cases hr)
  rw [qo_ev] at h1 h2
  simp only [opK, builtinK, List.map_cons, List.map_nil, decide_true, *]
  exact ⟨rfl, rfl⟩
theorem Owe.max {x y : QO} {k : IntKind} {a b : Int} (h1 : x.ev α.tm = .v (.int k a)) (h2 : y.ev α.tm = .v (.int k b)) : Owe P w0 dr (.max x y) α S (.v (.int k (max a b))) S := by
  refine Owe.of rfl fun o hr => ?_
  cases o <;> simp only [res, undT_eq] at hr <;> (repeat' split at hr) <;> (try cases hr)
  rw [qo_ev] at h1 h2
  simp only [opK, builtinK, List.map_cons, List.map_nil, decide_true, *]
  exact ⟨rfl, rfl⟩
theorem Owe.quo {isB : Bool} {x y : QO} {k : IntKind} {a b : Int} (h1 : x.ev α.tm = .v (.int k a)) (h2 : y.ev α.tm = .v (.int k b)) (hb : b ≠ 0) : Owe P w0 false (.bin .quo isB x y) α S (.v (.int k (k.wrap (a.tdiv b)))) S := by
  refine Owe.run fun n o hr => ?_
  obtain ⟨t, u, v, s, ho, rfl, rfl, hB⟩ := res_bin hr
  rw [qo_ev] at h1 h2
  refine RunV.quiet fun A g q w hS hA => ?_
  have e1 := hA.ev u
  have e2 := hA.ev v
  rw [h1] at e1
  rw [h2] at e2
  refine ⟨_, ?_, .v⟩
  simp [execOp, ho, rep_v e1, rep_v e2, eqGuard, binOp, Op.intDiv, hb]
theorem Owe.rem {isB : Bool} {x y : QO} {k : IntKind} {a b : Int} (h1 : x.ev α.tm = .v (.int k a)) (h2 : y.ev α.tm = .v (.int k b)) (hb : b ≠ 0) : Owe P w0 false (.bin .rem isB x y) α S (.v (.int k (a.tmod b))) S := by
  refine Owe.run fun n o hr => ?_
  obtain ⟨t, u, v, s, ho, rfl, rfl, hB⟩ := res_bin hr
  rw [qo_ev] at h1 h2
  refine RunV.quiet fun A g q w hS hA => ?_
  have e1 := hA.ev u
  have e2 := hA.ev v
  rw [h1] at e1
  rw [h2] at e2
  refine ⟨_, ?_, .v⟩
  simp [execOp, ho, rep_v e1, rep_v e2, eqGuard, binOp, Op.intDiv, hb]
theorem res_bstr {x : QO} (h : res P.toTables o = some (.bstr x)) : ∃ s d u e, o = .convert s d u ∧ x = qo u ∧ P.underlying s = some (.slice e) ∧ P.underlying d = some .string ∧ P.underlying e = some (.int .u8) := by
  cases o with
  | convert s d u =>
    simp only [res, undT_eq] at h
    split at h
    · cases h
    · cases h
    · rename_i e h1 h2
      split at h
      · rename_i h3
        injection h with h; injection h with h
        exact ⟨_, _, _, _, rfl, h.symm, h1, h2, h3⟩
      · cases h
    · cases h
  | _ =>
    simp only [res] at h
    repeat' split at h
    all_goals cases h
/-- bytes as a string. -/
theorem Owe.bstr {x : QO} {ex : Bool} {ns : List UInt8} (h1 : x.ev α.tm = .sl ex (ns.map fun c => [.v (.int .u8 c.toNat)])) : Owe P w0 false (.bstr x) α S (.v (.string ⟨ns.toArray⟩)) S := by
  refine Owe.run fun n o hr => ?_
  obtain ⟨s, d, u, e, ho, rfl, e1, e2, e3⟩ := res_bstr hr
  rw [qo_ev] at h1
  refine RunV.quiet fun A g q w hS hA => ?_
  have e4 := hA.ev u
  rw [h1] at e4
  have key : ∃ B len c, q.eval u = .slice B len c ∧ (Conv.bytesToString (.slice B len c)).run P w = .ok (.string ⟨ns.toArray⟩) w := by
    obtain ⟨x, hx⟩ : ∃ x, q.eval u = x := ⟨_, rfl⟩
    rw [hx] at e4 ⊢
    obtain ⟨rows, hr⟩ : ∃ rows, (ns.map fun c => [AV.v (.int .u8 c.toNat)]) = rows := ⟨_, rfl⟩
    rw [hr] at e4
    have fold : ∀ (ns : List UInt8) (r : ByteArray), (ns.map (fun c => (c.toNat : Int))).foldl (fun r n => r.push (UInt8.ofNat n.toNat)) r = ⟨r.data ++ ns.toArray⟩ := by
      intro ns
      induction ns with
      | nil => intro r; simp
      | cons c ns ih =>
        intro r
        rw [List.map_cons, List.foldl_cons, ih]
        simp [ByteArray.push]
    cases e4 with
    | @nil _ B c hc =>
      have : ns = [] := by simpa using hr
      subst this
      refine ⟨_, _, _, rfl, ?_⟩
      cases B with
      | none => simp [Conv.bytesToString, Sem.run_pure]; rfl
      | some b => 
        have := run_bytesToString (P := P) w b 0 c [] (by simp [loadCells, loadCellsFrom, Sem.run_pure])
        rw [this]
        rfl
    | @sl _ _ b o' sz c val hn hc hle hl h hv =>
      refine ⟨_, _, _, rfl, ?_⟩
      have h5 : rows.length = ns.length := by rw [← hr]; simp
      have h6 : sz = 1 := by
        cases rows with
        | nil => exact absurd rfl hn
        | cons r rs =>
          have := hl 0 r rfl
          cases ns with
          | nil => simp at hr
          | cons n ns => simp at hr; rw [← hr.1] at this; simpa using this.symm
      subst h6
      have h7 := run_bytesToString (P := P) w ⟨b, o', none⟩ rows.length c (ns.map fun c => (c.toNat : Int)) (by
        have := run_loadCells_list (P := P) (w := w) ⟨b, o', none⟩ ((ns.map fun c => (c.toNat : Int)).map (Value.int .u8)) (fun j v hj => by
          simp only [List.map_map, List.getElem?_map, Option.map_eq_some_iff, Function.comp] at hj
          obtain ⟨m, hm, rfl⟩ := hj
          have hrow : rows[j]? = some [AV.v (.int .u8 m.toNat)] := by rw [← hr]; simp [hm]
          have h8 := (h j 0 _ _ hrow rfl).2
          have h9 := hv j 0 _ _ hrow rfl
          rw [rep_v h9] at h8
          have h10 : w.cell? ⟨b, o' + j, none⟩ = some (Value.int .u8 m.toNat) := by simpa using h8
          rw [← h10]
          congr 1
          simp only [Addr.add]
          split
          · rename_i e; subst e; rfl
          · rfl)
        simpa [h5] using this)
      rw [h7, fold]
      simp
  obtain ⟨B, len, c, hq, hk⟩ := key
  refine ⟨_, ?_, .v⟩
  simp [execOp, ho, convert, run_underlying e1, run_underlying e2, run_underlying e3, hq, hk]
end
end Go.Proofs.YtahhaiomdjlckaaDoor
