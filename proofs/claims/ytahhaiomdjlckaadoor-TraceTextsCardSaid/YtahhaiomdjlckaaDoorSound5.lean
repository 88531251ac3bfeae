/-
  Append in place; parts of slices; calls; and all operations together.
-/
import Derived.Test.YtahhaiomdjlckaaDoorSound4
namespace Go.Proofs.YtahhaiomdjlckaaDoor
set_option linter.unusedVariables false
set_option linter.unusedSimpArgs false
open Go.RowKit

section
variable {P : Program} {w0 : World} {n : Nat} {o : Oper} {α : AA} {S S' : Store} {r : AV}
theorem src_cell {g : Gh} {w : World} {sz b q : Nat} {more : List (List AV)} {news : List Value} (h : Src g w sz more ⟨b, q, none⟩ news) (hc : ∀ row ∈ more, row.length = sz ∧ row.all isCell = true) : ∀ u ∈ news, u.oneCell' = true := by
  intro u hu
  obtain ⟨p, hp⟩ := List.getElem?_of_mem hu
  have hlt := (List.getElem?_eq_some_iff.1 hp).1
  rw [h.1] at hlt
  have hsz : 0 < sz := by
    rcases Nat.eq_zero_or_pos sz with e | e
    · rw [e] at hlt; simp at hlt
    · exact e
  have hi : p / sz < more.length := Nat.div_lt_of_lt_mul (by rw [Nat.mul_comm]; exact hlt)
  have hj : p % sz < sz := Nat.mod_lt _ hsz
  have hrow := List.getElem?_eq_getElem hi
  obtain ⟨hl, hall⟩ := hc _ (List.getElem_mem hi)
  have hj' : p % sz < (more[p / sz]).length := by omega
  have ha := List.getElem?_eq_getElem hj'
  obtain ⟨x, hx, hr⟩ := h.2.2 _ _ hrow _ _ ha
  rw [Nat.div_add_mod' p sz, hp] at hx
  obtain rfl := Option.some.inj hx
  exact isCell_rep (List.all_eq_true.1 hall _ (List.getElem_mem hj')) hr
/-- an append within the room of an object's block. -/
theorem append_place {A : Nat → Prop} {g : Gh} {w : World} {t t2 ty e e2 : TypeId} {sz k len c b2 q2 c2 : Nat} {rows more : List (List AV)} {fz : Nat} {ex : Bool} {news : List Value} (hS : St w0 A g S w) (ht : P.underlying t = some (.slice e)) (ht2 : P.underlying t2 = some (.slice e2)) (hs : szT P e = some sz)
    (hk : S.get k = some (.arr sz rows fz ex)) (ha : g.al k) (hcp : c = g.cp k) (hlc : len ≤ c) (hfz : fz ≤ len) (hlen : len ≤ rows.length) (hnew : Src g w sz more ⟨b2, q2, none⟩ news) (hl2 : ∀ row ∈ more, row.length = sz ∧ row.all isCell = true) (hroom : len + more.length ≤ c) :
    ∃ v w' g', (Builtin.append_ #[t, t2] ty #[.slice (some ⟨g.ob k, 0, none⟩) len c, .slice (some ⟨b2, q2, none⟩) more.length c2]).run P w = .ok v w' ∧ Rep g' w' (.ob S.nx sz 0 (len + more.length) none) v ∧ St w0 A g' ((S.set k none).new (.arr sz (rows.take len ++ more) fz false)) w' ∧ Ext A g w g' w' := by
  obtain ⟨i, hi, hsz⟩ := szT_info hs
  obtain ⟨k2, k3, cs, bty, h1, h2, h3, h4, h5, h6, h7⟩ := hS.obs k _ hk ha
  have hm : len * sz + more.length * sz ≤ g.cp k * sz := by rw [← Nat.add_mul]; exact Nat.mul_le_mul_right sz (by omega)
  have hfit : 0 + len * i.size + news.length ≤ cs.size := by rw [hnew.1, h2, hsz]; omega
  have hrun := run_append_room' (P := P) w t ty e bty i ht hi (g.ob k) 0 len c cs h1 ⟨b2, q2, none⟩ more.length c2 news (by rw [hnew.1, hsz]) hnew.2.1 (src_cell hnew hl2) hroom hfit
  simp only [Nat.zero_add, hsz] at hrun hfit
  obtain ⟨cs', hcs'⟩ : ∃ cs', cs' = (cs.toList.take (len * sz) ++ news ++ cs.toList.drop (len * sz + news.length)).toArray := ⟨_, rfl⟩
  rw [← hcs'] at hrun
  have hget : ∀ q, cs'[q]? = if q < len * sz then cs[q]? else if q < len * sz + news.length then news[q - len * sz]? else cs[q]? := by
    intro q
    rw [hcs', List.getElem?_toArray, lay_get _ _ _ (by simpa using hfit)]
    simp only [Array.getElem?_toList]
  have hsize : cs'.size = cs.size := by
    rw [hcs']
    simp
    omega
  have hlm : len * sz ≤ rows.length * sz := Nat.mul_le_mul_right sz hlen
  obtain ⟨hE, hSt⟩ := hS.row hk ha h1 (cs' := cs') (ob := .arr sz (rows.take len ++ more) fz false) (fun q hq => by
    rw [hget]
    rw [if_pos (Nat.lt_of_lt_of_le ((h7 q).1 hq) (Nat.mul_le_mul_right sz hfz))]) (fun hL => by
    refine ⟨cs', bty, setRow_heap w _ cs cs' bty (0, 0) h1, hsize.trans h2, by simp; omega, fun h => by simp at h, fun i row hr => ?_, by simp; omega, h7⟩
    · by_cases c1 : i < len
      · rw [List.getElem?_append_left (by simp; omega), List.getElem?_take, if_pos c1] at hr
        refine ⟨(h5 i row hr).1, fun j a ha' => ?_⟩
        obtain ⟨x, hx, hrx⟩ := (h5 i row hr).2 j a ha'
        have hj : j < sz := by rw [← (h5 i row hr).1]; exact (List.getElem?_eq_some_iff.1 ha').1
        exact ⟨x, by rw [hget, if_pos (mul_in c1 hj)]; exact hx, hrx.later hL⟩
      · rw [List.getElem?_append_right (by simp; omega)] at hr
        have e1 : min len rows.length = len := by omega
        simp only [List.length_take, e1] at hr
        have hrl := (hl2 row (List.mem_of_getElem? hr)).1
        refine ⟨hrl, fun j a ha' => ?_⟩
        obtain ⟨x, hx, hrx⟩ := hnew.2.2 _ row hr j a ha'
        have hlt := (List.getElem?_eq_some_iff.1 hx).1
        have e : i * sz = len * sz + (i - len) * sz := by rw [← Nat.add_mul]; congr 1; omega
        exact ⟨x, by rw [hget, if_neg (by omega), if_pos (by omega), show i * sz + j - len * sz = (i - len) * sz + j by omega]; exact hx, hrx.later hL⟩)
  have hk' : (S.set k (some (.arr sz (rows.take len ++ more) fz false))).get k = some (.arr sz (rows.take len ++ more) fz false) := upd_same _ _ _
  obtain ⟨hE2, hSt2⟩ := hSt.rename hk' ha
  have e : ((S.set k (some (.arr sz (rows.take len ++ more) fz false))).set k none).new (.arr sz (rows.take len ++ more) fz false) = (S.set k none).new (.arr sz (rows.take len ++ more) fz false) := by
    have : upd (upd S.get k (some (.arr sz (rows.take len ++ more) fz false))) k none = upd S.get k none := by
      funext j
      by_cases c : j = k
      · subst c; rw [upd_same, upd_same]
      · rw [upd_other _ _ c, upd_other _ _ c, upd_other _ _ c]
    simp only [Store.set, Store.new, this]
  rw [e] at hSt2
  refine ⟨_, _, _, (append_types ht ht2).trans hrun, ?_, hSt2, hE.trans hE2⟩
  have := Rep.ob (g := g.new S.nx (g.ob k) (g.cp k)) (w := w.setRow (g.ob k) cs') (k := S.nx) (sz := sz) (off := 0) (len := len + more.length) (c := c) (cx := none) (.inr rfl) (fun m h => by cases h)
    (by rw [Nat.zero_add, hcp]; exact Nat.le_of_eq (upd_same _ _ _).symm) (fun _ => by rw [Nat.zero_add, hcp]; exact (upd_same _ _ _).symm) hroom
  rw [show (g.new S.nx (g.ob k) (g.cp k)).ob S.nx = g.ob k from upd_same _ _ _, Nat.zero_mul] at this
  exact this
theorem append_same {t t2 ty e e2 : TypeId} {w : World} {B C : Option Addr} {m c c2 : Nat} {sz : Nat} (ht : P.underlying t = some (.slice e)) (ht2 : P.underlying t2 = some (.slice e2)) (hs : szT P e = some sz) (hle : m ≤ c) :
    (Builtin.append_ #[t, t2] ty #[.slice B m c, .slice C 0 c2]).run P w = .ok (.slice B m c) w := by
  rw [append_types ht ht2]
  have hf : (Builtin.firstCells sz 0 (.slice C 0 c2)).run P w = .ok #[] w := by
    cases C with
    | none => simp [Builtin.firstCells]
    | some b => simpa using run_firstCells_some (P := P) (w := w) sz 0 b 0 c2 [] (by simp) (fun j v h => by simp at h)
  cases B <;> simp [Builtin.append_, run_underlying ht, run_sizeT hs, Builtin.lenOf, hle, hf, storeCells]
theorem sl_inv {g : Gh} {w : World} {ex : Bool} {rows : List (List AV)} {v : Value} (h : Rep g w (.sl ex rows) v) : ∃ B c, v = .slice B rows.length c ∧ rows.length ≤ c ∧ (ex = true → c = rows.length) := by
  cases h with
  | nil hc => exact ⟨_, _, rfl, Nat.zero_le _, hc⟩
  | sl hn hc hle hl h hr => exact ⟨_, _, rfl, hle, hc⟩
theorem sl_none {g : Gh} {w : World} {rows : List (List AV)} {m c : Nat} (h : Rep g w (.sl true rows) (.slice none m c)) : rows = [] ∧ c = 0 := by
  cases h with
  | nil hc => exact ⟨rfl, hc rfl⟩
/-- the operation append. -/
theorem run_appendK {c : Call} {t t2 e e2 : TypeId} {x y : Operand} {a b : AV} {more : List (List AV)} {z : Value} {sz : Nat} {K : AV → Store → Prop} (ho : o.op = .call c) (hc : c.callee = .builtin .append) (hty : c.argTypes = #[t, t2]) (hargs : c.args = #[x, y])
    (hx : α.ev x = a) (hy : α.ev y = b) (ht : P.underlying t = some (.slice e)) (ht2 : P.underlying t2 = some (.slice e2)) (hm : rowsOf S b = some more) (hlen : lenA b = some more.length) (hz : zeroT P e = some z) (hs : szT P e = some sz) (hzs : z.cells.size = sz) (h : appendK P e K S more a) :
    ∃ r S', RunV P w0 n o α S r S' ∧ K r S' := by
  have hrun : ∀ (q : Act) (w : World), (execOp q.eval o).run P w = ((Builtin.append_ #[t, t2] o.type #[q.eval x, q.eval y]).run P w).andThen fun v w' => .ok (.value v) w' := by
    intro q w
    simp [execOp, ho, resolve, hc, hty, hargs, invoke, builtin]
  have same : ∀ {r : AV} {m cc : Nat}, more = [] → α.ev x = r → (∀ (g : Gh) (w : World) (v : Value), Rep g w r v → ∃ B m cc, v = .slice B m cc ∧ m ≤ cc) → RunV P w0 n o α S r S := by
    intro r m cc hm0 hxr hr
    refine RunV.quiet fun A g q w hS hA => ?_
    have h1 := hA.ev x
    have h2 := hA.ev y
    rw [hxr] at h1
    rw [hy] at h2
    subst hm0
    obtain ⟨B, c1, e1⟩ := rowsOf_nil (S := S) hlen hm h2
    obtain ⟨B', m', cc', e2, hle⟩ := hr g w _ h1
    refine ⟨q.eval x, ?_, h1⟩
    rw [hrun, e1, e2, append_same ht ht2 hs hle]
    rfl
  unfold appendK at h
  split at h
  · rename_i rows
    split at h
    · exact ⟨_, _, same (m := 0) (cc := 0) rfl hx (fun g w v hr => let ⟨B, c, e, hle, _⟩ := sl_inv hr; ⟨B, _, c, e, hle⟩), h⟩
    · rename_i m1 ms
      split at h
      · rename_i sz' by_ hs' hby
        split at h
        · rename_i hb
          obtain ⟨hl, hl2, hfit, hK⟩ := h
          have e0 : sz' = sz := by rw [hs] at hs'; exact (Option.some.inj hs').symm
          subst e0
          refine ⟨_, _, ?_, hK⟩
          intro A g q w hS hA
          have h1 := hA.ev x
          have h2 := hA.ev y
          rw [hx] at h1
          rw [hy] at h2
          obtain ⟨b2, q2, c2, news, e2, hle2, hsrc⟩ := rowsOf_src hS hm h2 (by simp) hl2 hlen
          obtain ⟨B, cc, e1, hle1, hcx⟩ := sl_inv h1
          have hcc := hcx rfl
          have hold : (B = none ∧ rows = [] ∧ cc = 0) ∨ ∃ b olds, B = some b ∧ Src g w sz' rows b olds := by
            by_cases hr0 : rows = []
            · subst hr0
              cases B with
              | none => exact .inl ⟨rfl, rfl, by simpa using hcc⟩
              | some bb => exact .inr ⟨bb, [], rfl, by simp, fun j u hu => by simp at hu, fun i row hi => by simp at hi⟩
            · obtain ⟨b, q, c', olds, e3, _, hs3⟩ := rowsOf_src (a := .sl true rows) hS rfl h1 hr0 hl rfl
              rw [e1] at e3
              injection e3 with e4
              exact .inr ⟨_, olds, e4, hs3⟩
          obtain ⟨v, w', g', hr, h3, h4, h5⟩ := append_new (ty := o.type) (c2 := c2) hS ht ht2 hz hs hby hzs hold hsrc hl hl2 (by simp) (by rw [hcc]; simp) hfit (Nat.lt_of_lt_of_le Nat.zero_lt_one (Nat.le_of_ble_eq_true hb))
          refine ⟨v, w', g', .inl ?_, h3, h4, h5⟩
          rw [hrun, e1, e2, hr]
          rfl
        · exact h.elim
      · exact h.elim
  · rename_i k szk len
    unfold gotA at h
    split at h
    · rename_i ob0 hob0
      obtain ⟨sz', rows, fz, ex⟩ := ob0
      have hk := arrOf_some hob0
      dsimp only at h
      split at h
      · exact ⟨_, _, same (m := 0) (cc := 0) rfl hx (fun g w v hr => let ⟨c, e, _, _, _, _, hle⟩ := ob_inv hr; ⟨_, _, c, e, hle⟩), h⟩
      · rename_i m1 ms
        split at h
        · rename_i sz2 by_ hs' hby
          split at h
          · rename_i hb
            simp only [Bool.and_eq_true] at hb
            obtain ⟨⟨hb1, hb2⟩, hb3⟩ := hb
            have hb1 := Nat.eq_of_beq_eq_true hb1
            have hb2 := Nat.eq_of_beq_eq_true hb2
            have e0 : sz2 = sz := by rw [hs] at hs'; exact (Option.some.inj hs').symm
            subst hb1 hb2 e0
            obtain ⟨hfz, hlr, hl2, hfit, hK⟩ := h
            refine ⟨_, _, ?_, hK⟩
            intro A g q w hS hA
            have h1 := hA.ev x
            have h2 := hA.ev y
            rw [hx] at h1
            rw [hy] at h2
            obtain ⟨b2, q2, c2, news, e2, hle2, hsrc⟩ := rowsOf_src hS hm h2 (by simp) (fun r hr => (hl2 r hr).1) hlen
            obtain ⟨cc, e1, hal, _, hcp, hcx, hlc⟩ := ob_inv h1
            have hcx := hcx rfl
            simp only [Nat.zero_add] at hcx hcp
            simp only [Nat.zero_mul] at e1
            by_cases hroom : len + (m1 :: ms).length ≤ cc
            · obtain ⟨v, w', g', hr, h3, h4, h5⟩ := append_place (ty := o.type) (c2 := c2) hS ht ht2 hs hk hal hcx hlc hfz hlr hsrc hl2 hroom
              refine ⟨v, w', g', .inl ?_, h3, h4, h5⟩
              rw [hrun, e1, e2, hr]
              rfl
            · obtain ⟨k2, k3, cs, bty, p1, p2, p3, p4, p5, p6, p7⟩ := hS.obs k _ hk hal
              have htl : (rows.take len).length = len := by simp; omega
              have hl : ∀ r ∈ rows.take len, r.length = sz2 := by
                intro r hr
                obtain ⟨i, hi⟩ := List.getElem?_of_mem (List.mem_of_mem_take hr)
                exact (p5 i r hi).1
              have hold : ∃ olds, Src g w sz2 (rows.take len) ⟨g.ob k, 0, none⟩ olds := by
                refine src_of_cells hl (fun i j row a hi hj => ?_)
                rw [List.getElem?_take] at hi
                split at hi
                · obtain ⟨u, hu, hru⟩ := (p5 i row hi).2 j a hj
                  exact ⟨u, by rw [cell_of_row _ _ _ cs bty (0, 0) p1, Nat.zero_add]; exact hu, hru⟩
                · cases hi
              obtain ⟨olds, hold⟩ := hold
              have hS1 : St w0 A g (S.set k none) w := hS.forget (Nat.le_refl _) (fun j p hj ha => by
                have hj : upd S.get k none j = some p := hj
                by_cases c : j = k
                · subst c; rw [upd_same] at hj; cases hj
                · rwa [upd_other _ _ c] at hj)
              have happ := append_new (ty := o.type) (c2 := c2) (sCap := cc) hS1 ht ht2 hz hs hby hzs (rows := rows.take len) (more := m1 :: ms) (B := some ⟨g.ob k, 0, none⟩) (news := news) (.inr ⟨_, olds, rfl, hold⟩) hsrc hl (fun r hr => (hl2 r hr).1) (by simp) (by rw [htl]; omega) (by rw [htl]; exact hfit)
                (Nat.lt_of_lt_of_le Nat.zero_lt_one (Nat.le_of_ble_eq_true hb3))
              rw [htl] at happ
              obtain ⟨v, w', g', hr, h3, h4, h5⟩ := happ
              have hal' : g'.al S.nx := by
                obtain ⟨_, _, hal, _⟩ := ob_inv h3
                exact hal
              obtain ⟨hE6, hS6⟩ := h4.freeze (k := S.nx) (upd_same _ _ _) hal' (m := fz) (Nat.zero_le _) (by simp; omega)
              refine ⟨v, w', _, .inl ?_, h3.later hE6.toLater, ?_, h5.trans hE6⟩
              · rw [hrun, e1, e2, hr]
                rfl
              · have e : ((((S.set k none).new (.arr sz2 (rows.take len ++ m1 :: ms) 0 false)).set S.nx (some (.arr sz2 (rows.take len ++ m1 :: ms) fz false)))) = (S.set k none).new (.arr sz2 (rows.take len ++ m1 :: ms) fz false) := by
                  have : ∀ (f : Nat → Option Ob) (a b : Option Ob), upd (upd f S.nx a) S.nx b = upd f S.nx b := by
                    intro f a b
                    funext j
                    by_cases c : j = S.nx
                    · subst c; rw [upd_same, upd_same]
                    · rw [upd_other _ _ c, upd_other _ _ c, upd_other _ _ c]
                  simp only [Store.set, Store.new, this]
                rw [← e]
                exact hS6
          · exact h.elim
        · exact h.elim
    · exact h.elim
  · rename_i k szk off len cc0
    unfold gotA at h
    split at h
    · rename_i ob0 hob0
      obtain ⟨sz', rows, fz, ex⟩ := ob0
      have hk := arrOf_some hob0
      dsimp only at h
      split at h
      · exact ⟨_, _, same (m := 0) (cc := 0) rfl hx (fun g w v hr => let ⟨c, e, _, _, _, _, hle⟩ := ob_inv hr; ⟨_, _, c, e, hle⟩), h⟩
      · rename_i m1 ms
        split at h
        · rename_i sz2 by_ hs' hby
          split at h
          · rename_i hb
            simp only [Bool.and_eq_true] at hb
            obtain ⟨⟨hb1, hb2⟩, hb3⟩ := hb
            have hb1 := Nat.eq_of_beq_eq_true hb1
            have hb2 := Nat.eq_of_beq_eq_true hb2
            have e0 : sz2 = sz := by rw [hs] at hs'; exact (Option.some.inj hs').symm
            subst hb1 hb2 e0
            obtain ⟨hcl, hlr, hl2, hfit, hK⟩ := h
            refine ⟨_, _, ?_, hK⟩
            intro A g q w hS hA
            have h1 := hA.ev x
            have h2 := hA.ev y
            rw [hx] at h1
            rw [hy] at h2
            obtain ⟨b2, q2, c2, news, e2, hle2, hsrc⟩ := rowsOf_src hS hm h2 (by simp) hl2 hlen
            obtain ⟨cc, e1, hal, hc0, hcp, hcx, hlc⟩ := ob_inv h1
            have hc0 := hc0 _ rfl
            obtain ⟨k2, k3, cs, bty, p1, p2, p3, p4, p5, p6, p7⟩ := hS.obs k _ hk hal
            have htl : ((rows.drop off).take len).length = len := by simp; omega
            have hl : ∀ r ∈ (rows.drop off).take len, r.length = sz2 := by
              intro r hr
              obtain ⟨i, hi⟩ := List.getElem?_of_mem (List.mem_of_mem_drop (List.mem_of_mem_take hr))
              exact (p5 i r hi).1
            have hold : ∃ olds, Src g w sz2 ((rows.drop off).take len) ⟨g.ob k, off * sz2, none⟩ olds := by
              refine src_of_cells hl (fun i j row a hi hj => ?_)
              obtain ⟨u, hu, hru⟩ := (p5 _ row (drop_take_get hi).2).2 j a hj
              exact ⟨u, by rw [cell_of_row _ _ _ cs bty (0, 0) p1, ← hu, Nat.add_mul, Nat.add_assoc], hru⟩
            obtain ⟨olds, hold⟩ := hold
            have happ := append_new (ty := o.type) (c2 := c2) (sCap := cc) hS ht ht2 hz hs hby hzs (rows := (rows.drop off).take len) (more := m1 :: ms) (B := some ⟨g.ob k, off * sz2, none⟩) (news := news) (.inr ⟨_, olds, rfl, hold⟩) hsrc hl hl2 (by simp) (by rw [htl]; simp; omega) (by rw [htl]; exact hfit)
              (Nat.lt_of_lt_of_le Nat.zero_lt_one (Nat.le_of_ble_eq_true hb3))
            rw [htl] at happ
            obtain ⟨v, w', g', hr, h3, h4, h5⟩ := happ
            refine ⟨v, w', g', .inl ?_, h3, h4, h5⟩
            rw [hrun, e1, e2, hr]
            rfl
          · exact h.elim
        · exact h.elim
    · exact h.elim
  · exact h.elim
end
end Go.Proofs.YtahhaiomdjlckaaDoor
