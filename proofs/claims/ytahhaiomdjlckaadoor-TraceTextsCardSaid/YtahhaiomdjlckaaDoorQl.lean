/-
  Loops whose rounds make objects: at the head of each round the objects bear the same numbers again.
-/
import Derived.Test.YtahhaiomdjlckaaDoorQh
namespace Go.Proofs.YtahhaiomdjlckaaDoor
set_option linter.unusedVariables false
set_option linter.unusedSimpArgs false
open Go.RowKit

/-- a value that names objects below B alone. -/
inductive KLt (B : Nat) : AV → Prop where
  | u : KLt B .u
  | v {x : Value} : KLt B (.v x)
  | agg {l : List AV} (h : ∀ a ∈ l, KLt B a) : KLt B (.agg l)
  | tup {l : List AV} (h : ∀ a ∈ l, KLt B a) : KLt B (.tup l)
  | sl {ex : Bool} {rows : List (List AV)} (h : ∀ row ∈ rows, ∀ a ∈ row, KLt B a) : KLt B (.sl ex rows)
  | ip {cs : List AV} (h : ∀ a ∈ cs, KLt B a) : KLt B (.ip cs)
  | ob {k sz off len : Nat} {cx : Option Nat} (h : k < B) : KLt B (.ob k sz off len cx)
  | pt {k sz i j : Nat} (h : k < B) : KLt B (.pt k sz i j)
  | mp {k : Nat} (h : k < B) : KLt B (.mp k)
  | yl {k : Nat} (h : k < B) : KLt B (.yl k)
  | fn {f : Fn} {l m : List AV} (h3 : ∀ a ∈ l, KLt B a) (h4 : ∀ a ∈ m, KLt B a) : KLt B (.fn f l m)
theorem Pure.klt {B : Nat} {a : AV} (h : Pure a) : KLt B a := by
  induction h with
  | v => exact .v
  | agg _ ih => exact .agg ih
  | tup _ ih => exact .tup ih
  | sl _ ih => exact .sl ih
  | ip _ ih => exact .ip ih
  | fn _ _ ih1 ih2 => exact .fn ih1 ih2
theorem Rep.klt {g g' : Gh} {w : World} {B : Nat} (hal : ∀ k, k < B → g.al k → g'.al k) (hob : ∀ k, k < B → g'.ob k = g.ob k) (hcp : ∀ k, k < B → g'.cp k = g.cp k) (hf : ∀ b o, g.fz b o → g'.fz b o) {a : AV} {x : Value} (h : Rep g w a x) (hp : KLt B a) :
    Rep g' w a x := by
  induction h with
  | u => exact .u
  | v => exact .v
  | agg hs h ih => cases hp with | agg hp => exact .agg hs fun i a x h1 h2 => ih i a x h1 h2 (hp _ (List.mem_of_getElem? h1))
  | tup hs h ih => cases hp with | tup hp => exact .tup hs fun i a x h1 h2 => ih i a x h1 h2 (hp _ (List.mem_of_getElem? h1))
  | nil hc => exact .nil hc
  | sl hn hc' hle hl h hr ih =>
    cases hp with
    | sl hp =>
      exact .sl hn hc' hle hl (fun i j row a h1 h2 => ⟨hf _ _ (h i j row a h1 h2).1, (h i j row a h1 h2).2⟩)
        (fun i j row a h1 h2 => ih i j row a h1 h2 (hp _ (List.mem_of_getElem? h1) _ (List.mem_of_getElem? h2)))
  | ip h hr ih =>
    cases hp with
    | ip hp => exact .ip (fun j a h1 => ⟨hf _ _ (h j a h1).1, (h j a h1).2⟩) (fun j a h1 => ih j a h1 (hp _ (List.mem_of_getElem? h1)))
  | ob hk hc h1 hx hle => cases hp with | ob hp => rw [← hob _ hp]; exact .ob (hal _ hp hk) hc (by rw [hcp _ hp]; exact h1) (by rw [hcp _ hp]; exact hx) hle
  | pt hk => cases hp with | pt hp => rw [← hob _ hp]; exact .pt (hal _ hp hk)
  | mp hk => cases hp with | mp hp => rw [← hob _ hp]; exact .mp (hal _ hp hk)
  | yl hk => cases hp with | yl hp => rw [← hob _ hp]; exact .yl (hal _ hp hk)
  | fn h1 h2 h3 h4 ih3 ih4 =>
    cases hp with
    | fn hp hq => exact .fn h1 h2 (fun i a x h1 h2 => ih3 i a x h1 h2 (hp _ (List.mem_of_getElem? h1))) (fun i a x h1 h2 => ih4 i a x h1 h2 (hq _ (List.mem_of_getElem? h1)))
def KOb (B : Nat) : Ob → Prop
  | .arr _ rows _ _ => ∀ row ∈ rows, ∀ a ∈ row, KLt B a
  | .mp es => ∀ e ∈ es, KLt B e.2
  | .lp _ _ tm _ _ _ => ∀ t, KLt B (tm t)
  | .df => True
  | .si _ _ => True
def oldK (B : Nat) (f : Nat → Nat) (j : Nat) : Nat := match Nat.blt j B with | true => j | false => f j
theorem oldK_lt {B j : Nat} {f : Nat → Nat} (h : j < B) : oldK B f j = j := by
  have : Nat.blt j B = true := Nat.ble_eq_true_of_le h
  simp only [oldK, this]
theorem oldK_ge {B j : Nat} {f : Nat → Nat} (h : B ≤ j) : oldK B f j = f j := by
  have : Nat.blt j B = false := by
    cases e : Nat.blt j B with
    | false => rfl
    | true => exact absurd (Nat.le_of_ble_eq_true e) (by omega)
  simp only [oldK, this]
def Gh.ren (g : Gh) (B N : Nat) (f : Nat → Nat) : Gh := ⟨fun j => g.ob (oldK B f j), fun j => g.cp (oldK B f j), fun j => j < N ∧ g.al (oldK B f j), g.fz⟩
section
variable {w0 : World} {A : Nat → Prop} {g gs : Gh} {S S' : Store} {w ws : World} {B : Nat} {f : Nat → Nat}
theorem Rep.ren {a : AV} {x : Value} {N : Nat} (hN : B ≤ N) (h : Rep g w a x) (hp : KLt B a) : Rep (g.ren B N f) w a x := by
  refine Rep.klt (g := g) (g' := g.ren B N f) (B := B) (fun k hk ha => (⟨by omega, by rw [oldK_lt hk]; exact ha⟩ : k < N ∧ g.al (oldK B f k))) (fun k hk => ?_) (fun k hk => ?_) (fun b o h => h) h hp
  · show g.ob (oldK B f k) = g.ob k
    rw [oldK_lt hk]
  · show g.cp (oldK B f k) = g.cp k
    rw [oldK_lt hk]
theorem ObRep.ren {b cp N : Nat} {o : Ob} (hN : B ≤ N) (h : ObRep g w b cp o) (hk : KOb B o) : ObRep (g.ren B N f) w b cp o := by
  cases o with
  | arr sz rows fz ex =>
    obtain ⟨cs, ty, h1, h2, h3, h4, h5, h6, h7⟩ := h
    refine ⟨cs, ty, h1, h2, h3, h4, fun i row hr => ⟨(h5 i row hr).1, fun j a ha => ?_⟩, h6, h7⟩
    obtain ⟨x, hx, hrx⟩ := (h5 i row hr).2 j a ha
    exact ⟨x, hx, hrx.ren hN (hk _ (List.mem_of_getElem? hr) _ (List.mem_of_getElem? ha))⟩
  | mp es =>
    obtain ⟨entries, clock, h1, h2, h3⟩ := h
    refine ⟨entries, clock, h1, h2, fun i k a ha => ?_⟩
    obtain ⟨e, he, hk', hr⟩ := h3 i k a ha
    exact ⟨e, he, hk', hr.ren hN (hk _ (List.mem_of_getElem? ha))⟩
  | lp st pend tm ps assign body =>
    obtain ⟨L, h1, h2, h3, h4, h5, h6, h7, h8⟩ := h
    exact ⟨L, h1, h2, h3, h4, h5, h6, fun t ht => (h7 t ht).ren hN (hk t), h8⟩
  | df => exact h
  | si s pos => exact h
theorem St.ren (hS : St w0 A g S w) (hN : B ≤ S'.nx) (hs : ∀ j o, S'.get j = some o → ∃ o₀, S.get (oldK B f j) = some o₀ ∧ ∀ b cp, ObRep g w b cp o₀ → ObRep (g.ren B S'.nx f) w b cp o)
    (hin : ∀ i j o p, S'.get i = some o → S'.get j = some p → oldK B f i = oldK B f j → i = j) : St w0 A (g.ren B S'.nx f) S' w := by
  refine ⟨hS.base, hS.up, hS.lo, fun k hk => hk.1, fun k o hk ha => ?_, fun i j o p hi hj ai aj e => ?_, hS.fzlt, hS.fz0⟩
  · obtain ⟨o₀, h0, ht⟩ := hs k o hk
    obtain ⟨h1, h2, h3⟩ := hS.obs _ o₀ h0 ha.2
    exact ⟨h1, h2, ht _ _ h3⟩
  · obtain ⟨o₀, h0, _⟩ := hs i o hi
    obtain ⟨p₀, h1, _⟩ := hs j p hj
    exact hin i j o p hi hj (hS.inj _ _ o₀ p₀ h0 h1 ai.2 aj.2 e)
theorem Ext.ren {N : Nat} (hE : Ext A gs ws g w) (hN : B ≤ N) (hB : ∀ k, gs.al k → k < B) : Ext A gs ws (g.ren B N f) w :=
  { al := fun k hk => ⟨by have := hB k hk; omega, by rw [oldK_lt (hB k hk)]; exact hE.al k hk⟩
    ob := fun k hk => by show g.ob (oldK B f k) = gs.ob k; rw [oldK_lt (hB k hk)]; exact hE.ob k hk
    cp := fun k hk => by show g.cp (oldK B f k) = gs.cp k; rw [oldK_lt (hB k hk)]; exact hE.cp k hk
    fz := hE.fz
    cell := hE.cell
    size := hE.size
    keep := hE.keep
    nfz := hE.nfz }
end
def renF : List (Nat × Nat) → Nat → Nat
  | [], j => j
  | p :: m, j => match Nat.beq p.1 j with | true => p.2 | false => renF m j
def lookL : List (Nat × Ob) → Nat → Option Ob
  | [], _ => none
  | p :: l, j => match Nat.beq p.1 j with | true => some p.2 | false => lookL l j
theorem lookL_mem : ∀ {l : List (Nat × Ob)} {j : Nat} {o : Ob}, lookL l j = some o → (j, o) ∈ l
  | [], j, o, h => by cases h
  | (a, b) :: l, j, o, h => by
    simp only [lookL] at h
    split at h
    · rename_i e
      obtain rfl := Nat.eq_of_beq_eq_true e
      obtain rfl := Option.some.inj h
      simp
    · exact List.mem_cons_of_mem _ (lookL_mem h)
/-- one slot at the head of a round. -/
inductive SlotC (B : Nat) (m : List (Nat × Nat)) (N : Nat) (f : Nat → AV) : Nat → AV → Prop where
  | old {t : Nat} {a : AV} (h : f t = a) (hk : KLt B a) : SlotC B m N f t a
  | new {t j sz off len : Nat} {cx : Option Nat} (h : f t = .ob (oldK B (renF m) j) sz off len cx) (hj : Nat.blt j N = true) : SlotC B m N f t (.ob j sz off len cx)
def slotsC (B : Nat) (m : List (Nat × Nat)) (N : Nat) (f : Nat → AV) : List (Nat × AV) → Prop
  | [] => True
  | p :: l => SlotC B m N f p.1 p.2 ∧ slotsC B m N f l
/-- a cell of an object at the head of a round. -/
inductive CellC (B : Nat) (m : List (Nat × Nat)) (N : Nat) : AV → AV → Prop where
  | old {a : AV} (hk : KLt B a) : CellC B m N a a
  | new {j k sz off len : Nat} {cx : Option Nat} (h : k = oldK B (renF m) j) (hj : Nat.blt j N = true) : CellC B m N (.ob k sz off len cx) (.ob j sz off len cx)
def cellsC (B : Nat) (m : List (Nat × Nat)) (N : Nat) : List AV → List AV → Prop
  | [], [] => True
  | a :: l, b :: l' => CellC B m N a b ∧ cellsC B m N l l'
  | _, _ => False
def rowsC (B : Nat) (m : List (Nat × Nat)) (N : Nat) : List (List AV) → List (List AV) → Prop
  | [], [] => True
  | a :: l, b :: l' => cellsC B m N a b ∧ rowsC B m N l l'
  | _, _ => False
theorem cellsC.at {B N : Nat} {m : List (Nat × Nat)} : ∀ {l l' : List AV}, cellsC B m N l l' → l.length = l'.length ∧ ∀ (i : Nat) (b : AV), l'[i]? = some b → ∃ a, l[i]? = some a ∧ CellC B m N a b
  | [], [], _ => ⟨rfl, fun i b h => by simp at h⟩
  | a :: l, b :: l', hc => ⟨by simp [hc.2.at.1], fun i c h => by
    cases i with
    | zero => simp at h; subst h; exact ⟨a, rfl, hc.1⟩
    | succ i => simp at h; obtain ⟨d, h1, h2⟩ := hc.2.at.2 i c h; exact ⟨d, by simpa using h1, h2⟩⟩
  | [], _ :: _, h => h.elim
  | _ :: _, [], h => h.elim
theorem rowsC.at {B N : Nat} {m : List (Nat × Nat)} : ∀ {l l' : List (List AV)}, rowsC B m N l l' → l.length = l'.length ∧ ∀ (i : Nat) (b : List AV), l'[i]? = some b → ∃ a, l[i]? = some a ∧ cellsC B m N a b
  | [], [], _ => ⟨rfl, fun i b h => by simp at h⟩
  | a :: l, b :: l', hc => ⟨by simp [hc.2.at.1], fun i c h => by
    cases i with
    | zero => simp at h; subst h; exact ⟨a, rfl, hc.1⟩
    | succ i => simp at h; obtain ⟨d, h1, h2⟩ := hc.2.at.2 i c h; exact ⟨d, by simpa using h1, h2⟩⟩
  | [], _ :: _, h => h.elim
  | _ :: _, [], h => h.elim
inductive ObC (B : Nat) (m : List (Nat × Nat)) (N : Nat) : Ob → Ob → Prop where
  | same {o : Ob} (hk : KOb B o) : ObC B m N o o
  | arr {sz fz : Nat} {rows rows' : List (List AV)} {ex : Bool} (h : rowsC B m N rows rows') : ObC B m N (.arr sz rows fz ex) (.arr sz rows' fz ex)
def objsC (B : Nat) (m : List (Nat × Nat)) (N : Nat) (S : Store) : List (Nat × Ob) → Prop
  | [] => True
  | p :: l => (∃ o₀, S.get (oldK B (renF m) p.1) = some o₀ ∧ ObC B m N o₀ p.2) ∧ objsC B m N S l
theorem objsC.mem {B N : Nat} {m : List (Nat × Nat)} {S : Store} : ∀ {l : List (Nat × Ob)}, objsC B m N S l → ∀ p ∈ l, ∃ o₀, S.get (oldK B (renF m) p.1) = some o₀ ∧ ObC B m N o₀ p.2
  | [], _, p, h => by cases h
  | q :: l, hc, p, h => by
    rcases List.mem_cons.1 h with rfl | h
    · exact hc.1
    · exact hc.2.mem p h
def distK (B : Nat) (m : List (Nat × Nat)) : List Nat → Bool
  | [] => true
  | j :: l => l.all (fun i => !Nat.beq (oldK B (renF m) i) (oldK B (renF m) j)) && distK B m l
theorem distK.inj {B : Nat} {m : List (Nat × Nat)} : ∀ {l : List Nat}, distK B m l = true → ∀ i j, i ∈ l → j ∈ l → oldK B (renF m) i = oldK B (renF m) j → i = j
  | [], _, i, j, h, _, _ => by cases h
  | a :: l, hd, i, j, hi, hj, e => by
    simp only [distK, Bool.and_eq_true, List.all_eq_true, Bool.not_eq_true'] at hd
    have ne : ∀ x ∈ l, oldK B (renF m) x ≠ oldK B (renF m) a := fun x hx h => by
      have := hd.1 x hx
      rw [h, Nat.beq_refl] at this
      cases this
    by_cases h1 : i = a
    · by_cases h2 : j = a
      · rw [h1, h2]
      · subst h1; exact absurd e.symm (ne _ ((List.mem_cons.1 hj).resolve_left h2))
    · by_cases h2 : j = a
      · subst h2; exact absurd e (ne _ ((List.mem_cons.1 hi).resolve_left h1))
      · exact distK.inj hd.2 i j ((List.mem_cons.1 hi).resolve_left h1) ((List.mem_cons.1 hj).resolve_left h2) e
def canA (l : List (Nat × AV)) (ds : List Nat) : AA := ⟨overF (fun _ => .u) l, ds⟩
def canS (l : List (Nat × Ob)) (N : Nat) : Store := ⟨lookL l, N⟩
/-- a state is, but for numbers and for what is forgotten, the one at the head of a round. -/
structure Canon (B N : Nat) (m : List (Nat × Nat)) (α : AA) (S : Store) (l : List (Nat × AV)) (ds : List Nat) (so : List (Nat × Ob)) : Prop where
  slots : slotsC B m N α.tm l
  df : α.df = ds
  objs : objsC B m N S so
  dist : distK B m (so.map (·.1)) = true
  bn : Nat.ble B N = true
  dl : ds.all (Nat.blt · B) = true
section
variable {P : Program} {w0 : World} {n : Nat} {A : Nat → Prop} {g gs : Gh} {S S' : Store} {w ws : World} {B N : Nat} {m : List (Nat × Nat)} {α : AA} {l : List (Nat × AV)} {ds : List Nat} {so : List (Nat × Ob)} {a : Act}
theorem blt_lt {i j : Nat} (h : Nat.blt i j = true) : i < j := Nat.le_of_ble_eq_true h
theorem CellC.rep {a b : AV} {x : Value} (hN : B ≤ N) (h : CellC B m N a b) (hr : Rep g w a x) : Rep (g.ren B N (renF m)) w b x := by
  cases h with
  | old hk => exact hr.ren hN hk
  | @new j k sz off len cx e hj =>
    subst e
    cases hr with
    | ob hk hc hp hx hle => exact .ob (g := g.ren B N (renF m)) (k := j) ⟨Nat.le_of_ble_eq_true hj, hk⟩ hc hp hx hle
theorem ObC.rep {o o' : Ob} {b cp : Nat} (hN : B ≤ N) (h : ObC B m N o o') (hr : ObRep g w b cp o) : ObRep (g.ren B N (renF m)) w b cp o' := by
  cases h with
  | same hk => exact hr.ren hN hk
  | @arr sz fz rows rows' ex hc =>
    obtain ⟨hl, ha⟩ := hc.at
    obtain ⟨cs, ty, h1, h2, h3, h4, h5, h6, h7⟩ := hr
    refine ⟨cs, ty, h1, h2, by rw [← hl]; exact h3, fun he => by rw [← hl]; exact h4 he, fun i row hr => ?_, by rw [← hl]; exact h6, h7⟩
    obtain ⟨row0, e1, e2⟩ := ha i row hr
    obtain ⟨hl2, ha2⟩ := e2.at
    refine ⟨by rw [← hl2]; exact (h5 i row0 e1).1, fun j a hj => ?_⟩
    obtain ⟨a0, e3, e4⟩ := ha2 j a hj
    obtain ⟨x, hx, hrx⟩ := (h5 i row0 e1).2 j a0 e3
    exact ⟨x, hx, e4.rep hN hrx⟩
theorem Canon.st (hC : Canon B N m α S l ds so) (hS : St w0 A g S w) : St w0 A (g.ren B N (renF m)) (canS so N) w :=
  St.ren (S' := canS so N) hS (Nat.le_of_ble_eq_true hC.bn) (fun j o h => by
      obtain ⟨o₀, h0, hc⟩ := hC.objs.mem _ (lookL_mem h)
      exact ⟨o₀, h0, fun b cp hr => hc.rep (Nat.le_of_ble_eq_true hC.bn) hr⟩)
    (fun i j o p hi hj e => distK.inj hC.dist i j (List.mem_map.2 ⟨_, lookL_mem hi, rfl⟩) (List.mem_map.2 ⟨_, lookL_mem hj, rfl⟩) e)
theorem slots_rep (hN : B ≤ N) (hA : ARep g w n α a) : ∀ {l : List (Nat × AV)}, slotsC B m N α.tm l → (∀ t, t < n → Rep (g.ren B N (renF m)) w (overF (fun _ => .u) l t) (a.tmps.getD t undef)) ∧ ∀ t, n ≤ t → overF (fun _ => .u) l t = .u
  | [], _ => ⟨fun _ _ => .u, fun _ _ => rfl⟩
  | (s, b) :: l, h => by
    obtain ⟨h1, h2⟩ := slots_rep hN hA h.2
    have hs : SlotC B m N α.tm s b := h.1
    refine ⟨fun t ht => ?_, fun t ht => ?_⟩
    · show Rep _ w (upd (overF (fun _ => .u) l) s b t) _
      by_cases e : t = s
      · subst e
        rw [upd_same]
        have hr := hA.tm t ht
        cases hs with
        | old e hk => rw [e] at hr; exact hr.ren hN hk
        | @new j sz off len cx e hj =>
          rw [e] at hr
          obtain ⟨x, hxx⟩ : ∃ x, a.tmps.getD t undef = x := ⟨_, rfl⟩
          rw [hxx] at hr ⊢
          cases hr with
          | ob hk hc hp hx hle => exact .ob (g := g.ren B N (renF m)) (k := j) ⟨blt_lt hj, hk⟩ hc hp hx hle
      · rw [upd_other _ _ e]; exact h1 t ht
    · show upd (overF (fun _ => .u) l) s b t = .u
      by_cases e : t = s
      · subst e
        rw [upd_same]
        have hr := hA.out t ht
        cases hs with
        | old e hk => exact e.symm.trans hr
        | new e hj => rw [hr] at e; cases e
      · rw [upd_other _ _ e]; exact h2 t ht
theorem Canon.arep (hC : Canon B N m α S l ds so) (hA : ARep g w n α a) : ARep (g.ren B N (renF m)) w n (canA l ds) a := by
  have hN := Nat.le_of_ble_eq_true hC.bn
  obtain ⟨h1, h2⟩ := slots_rep hN hA hC.slots
  have hd := hC.dl
  rw [List.all_eq_true] at hd
  refine ⟨hA.size, h1, h2, ?_, fun k hk => ?_⟩
  · rw [hA.df, hC.df]
    refine List.map_congr_left fun k hk => ?_
    show _ = ({ target := .collected (g.ob (oldK B (renF m) k)), args := #[] } : Deferred)
    rw [oldK_lt (blt_lt (hd k hk))]
  · have := blt_lt (hd k hk)
    refine ⟨by omega, ?_⟩
    rw [oldK_lt this]
    exact hA.dlt k (by rw [hC.df]; exact hk)
/-- the rounds of a loop, seen from where it began. -/
def BigR (P : Program) (w0 : World) (n B : Nat) (c : Code) (α : AA) (S : Store) (ex : Exit) (α' : AA) (S' : Store) : Prop :=
  ∀ (F : Fence) (m : Nat) (A : Nat → Prop) (g gs : Gh) (a : Act) (w ws : World), Wide F → St w0 A g S w → ARep g w n α a → Ext A gs ws g w → (∀ k, gs.al k → k < B) → ∀ (b : Frame) (k : List Item) (cs : List Frame), b.roundOf = F.round → F.fn b.fn → F.room (cs.length + 1 + m) →
    ∃ e a' w', BPost w0 n A gs ws ex α' S' e a' w' ∧ ArrivesIn (Machine.fenced P F) P (lone (b.atR a (.code c :: .inLoop c :: k)) cs w) b k cs e a' w'
section
variable {c : Code} {α₁ α' : AA} {S₁ : Store} {ex : Exit}
theorem BigR.step (h : Big P w0 n c α S .normal α₁ S₁) (hC : Canon B N m α₁ S₁ l ds so) (k : BigR P w0 n B c (canA l ds) (canS so N) ex α' S') : BigR P w0 n B c α S ex α' S' := by
  intro F mm A g gs a w ws hF hS hA hE hB b q cs hro hb hr
  obtain ⟨e, a₁, w₁, hq, harr⟩ := h F mm A g a w hF hS hA b (.inLoop c :: q) cs hro hb hr
  obtain ⟨rfl, g₁, hS₁, hA₁, hE₁⟩ := hq
  obtain ⟨e₂, a₂, w₂, hq₂, harr₂⟩ := k F mm A _ gs a₁ w₁ ws hF (hC.st hS₁) (hC.arep hA₁) ((hE.trans hE₁).ren (Nat.le_of_ble_eq_true hC.bn) hB) hB b q cs hro hb hr
  exact ⟨e₂, a₂, w₂, hq₂, .of_steps (StepsIn.trans harr (.one (fenced_calm hb hr rfl) stepR_inLoop)) harr₂⟩
theorem BigR.done (h : Big P w0 n c α S ex α' S') (he : ex ≠ .normal) : BigR P w0 n B c α S ex α' S' := by
  intro F mm A g gs a w ws hF hS hA hE hB b q cs hro hb hr
  obtain ⟨e, a₁, w₁, hq, harr⟩ := h F mm A g a w hF hS hA b (.inLoop c :: q) cs hro hb hr
  obtain ⟨rfl, hq⟩ := hq
  exact ⟨e, a₁, w₁, BPost.ext hE ⟨rfl, hq⟩, .pass (x := .inLoop c) rfl (fun _ _ => .inl he) harr⟩
theorem BigR.start (hn : Nat.ble S.nx B = true) (hC : Canon B N m α S l ds so) (k : BigR P w0 n B c (canA l ds) (canS so N) ex α' S') : BigL P w0 n c α S ex α' S' := by
  intro F mm A g a w hF hS hA b q cs hro hb hr
  have hB : ∀ k, g.al k → k < B := fun k hk => Nat.lt_of_lt_of_le (hS.al k hk) (Nat.le_of_ble_eq_true hn)
  exact k F mm A _ g a w w hF (hC.st hS) (hC.arep hA) ((Ext.refl A g w).ren (Nat.le_of_ble_eq_true hC.bn) hB) hB b q cs hro hb hr
end
/-- the end of a round. -/
def lpC {σ : Type} (P : Program) (w0 : World) (n B N : Nat) (st : σ → List (Nat × AV)) (ds : List Nat) (so : σ → List (Nat × Ob)) (I : σ → Prop) (μ : σ → Nat) (Q : Exit → AA → Store → Prop) (K : List QIt) (k : Nat) : Exit → AA → Store → Prop :=
  fun ex α S => match ex with | .normal => ∃ s m, I s ∧ μ s < k ∧ Canon B N m α S (st s) ds (so s) | e => wpQ P w0 n Q (.out e K) α S
variable {Q : Exit → AA → Store → Prop} {K : List QIt}
theorem wpQ.loopC {σ : Type} (B N : Nat) (m : List (Nat × Nat)) (st : σ → List (Nat × AV)) (ds : List Nat) (so : σ → List (Nat × Ob)) (I : σ → Prop) (μ : σ → Nat) (s0 : σ) {c : QC} (h0 : I s0) (hn : Nat.ble S.nx B = true) (hC : Canon B N m α S (st s0) ds (so s0))
    (h : ∀ s, I s → wpQ P w0 n (lpC P w0 n B N st ds so I μ Q K (μ s)) (.run c []) (canA (st s) ds) (canS (so s) N)) : wpQ P w0 n Q (.run (.loop c) K) α S := by
  intro c0 hc hd
  obtain ⟨c1, rfl, h1⟩ := comp_loop hc
  have key : ∀ (k : Nat) (s : σ), I s → μ s = k → ∃ ex α' S', BigR P w0 n B c1 (canA (st s) ds) (canS (so s) N) ex α' S' ∧ qcont P w0 n Q K ex α' S' := by
    intro k
    induction k using Nat.strongRecOn with
    | _ k ih =>
      intro s hI hk
      obtain ⟨ex, α₁, S₁, h3, h4⟩ : Wp P w0 n c1 (lpC P w0 n B N st ds so I μ Q K (μ s)) (canA (st s) ds) (canS (so s) N) := h s hI c1 h1 hd
      cases ex with
      | normal =>
        obtain ⟨s', m', hI', hlt, hC'⟩ := h4
        obtain ⟨ex, α', S', h5, h6⟩ := ih (μ s') (by omega) s' hI' rfl
        exact ⟨ex, α', S', BigR.step h3 hC' h5, h6⟩
      | _ => exact ⟨_, α₁, S₁, BigR.done h3 (by simp), h4⟩
  obtain ⟨ex, α', S', h2, h3⟩ := key _ s0 h0 rfl
  exact ⟨ex, α', S', Big.loop (BigR.start hn hC h2), h3⟩
theorem wpQ.nextC {σ : Type} {st : σ → List (Nat × AV)} {so : σ → List (Nat × Ob)} {I : σ → Prop} {μ : σ → Nat} {k : Nat} (s : σ) (m : List (Nat × Nat)) (hI : I s) (hk : μ s < k) (hC : Canon B N m α S (st s) ds (so s)) :
    wpQ P w0 n (lpC P w0 n B N st ds so I μ Q K k) (.out .normal []) α S := ⟨s, m, hI, hk, hC⟩
theorem wpQ.exitC {σ : Type} {st : σ → List (Nat × AV)} {so : σ → List (Nat × Ob)} {I : σ → Prop} {μ : σ → Nat} {k id : Nat} (h : wpQ P w0 n Q (.out (.exit id) K) α S) : wpQ P w0 n (lpC P w0 n B N st ds so I μ Q K k) (.out (.exit id) []) α S := h
theorem wpQ.retC {σ : Type} {st : σ → List (Nat × AV)} {so : σ → List (Nat × Ob)} {I : σ → Prop} {μ : σ → Nat} {k : Nat} (h : wpQ P w0 n Q (.out .ret K) α S) : wpQ P w0 n (lpC P w0 n B N st ds so I μ Q K k) (.out .ret []) α S := h
end
end Go.Proofs.YtahhaiomdjlckaaDoor
