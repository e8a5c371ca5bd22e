/- Shadows: loads, stores, new variables, new rows. -/
import Derived.Test.YtoadmjnaakbljaaDoorSh3
import Derived.Shelf.Abstract
import Derived.Great.BuildSlice
namespace Go.Proofs.YtoadmjnaakbljaaDoor
set_option linter.unusedVariables false
open Go Go.RowKit

/-- a type of one cell that is read as it is -/
def plainT (P : Program) (T : TypeId) : Bool :=
  match P.underlying T with
  | some (.struct _) | some (.array _ _) | none => false
  | _ => true
/-- the cells of a struct or an array -/
def aggN (P : Program) (T : TypeId) : Option Nat :=
  match P.underlying T with
  | some (.struct _) | some (.array _ _) => (P.info? T).map (·.size)
  | _ => none
def sizeT (P : Program) (T : TypeId) : Option Nat := (P.info? T).map (·.size)

theorem run_sizeOf' {P : Program} {T : TypeId} {n : Nat} (h : sizeT P T = some n) (w : World) : (sizeOf T).run P w = .ok n w := by
  unfold sizeT at h
  cases hi : P.info? T with
  | none => simp [hi] at h
  | some i =>
    simp [hi] at h
    simp [sizeOf, typeInfo, hi, h]
theorem run_isAgg_no {P : Program} {T : TypeId} (h : plainT P T = true) (w : World) : (isAgg T).run P w = .ok false w := by
  unfold plainT at h
  cases hu : P.underlying T with
  | none => simp [hu] at h
  | some d =>
    refine run_isAgg_plain hu ?_ w
    cases d <;> simp_all
theorem run_isAgg_yes {P : Program} {T : TypeId} {n : Nat} (h : aggN P T = some n) (w : World) : (isAgg T).run P w = .ok true w ∧ sizeT P T = some n := by
  unfold aggN at h
  cases hu : P.underlying T with
  | none => simp [hu] at h
  | some d =>
    unfold isAgg sizeT
    rw [Sem.run_bind, run_underlying hu w]
    cases d <;> simp_all
theorem run_load_plain {P : Program} {T : TypeId} (h : plainT P T = true) {w : World} {p : Addr} {v : Value} (hc : w.cell? p = some v) : (Instr.loadAt T (.pointer (some p))).run P w = .ok v w := by
  simp only [Instr.loadAt, Instr.sureAddr, Sem.run_bind, Sem.run_pure, Result.andThen_ok, loadVar, run_isAgg_no h w, Bool.false_eq_true, if_false]
  simp [load, Sem.run, hc]
theorem run_load_agg {P : Program} {T : TypeId} {n : Nat} (h : aggN P T = some n) {w : World} {p : Addr} {vs : List Value} (hn : vs.length = n) (hc : ∀ j v, vs[j]? = some v → w.cell? (p.add j) = some v) :
    (Instr.loadAt T (.pointer (some p))).run P w = .ok (.agg vs.toArray) w := by
  obtain ⟨h1, h2⟩ := run_isAgg_yes h w
  have h3 := run_loadCells_list (P := P) w p vs hc
  simp only [Instr.loadAt, Instr.sureAddr, Sem.run_bind, Sem.run_pure, Result.andThen_ok, loadVar, h1, if_true, run_sizeOf' h2 w, ← hn, h3]
theorem row_cell {w : World} {b : Nat} {vs : List Value} {T : TypeId} (h : w.heap[b]? = some (.cells vs.toArray T (0, 0))) (o : Nat) : w.cell? ⟨b, o, none⟩ = vs[o]? := by
  rw [cell_of_row w b o vs.toArray T (0, 0) h]
  simp
theorem addr_add (b o j : Nat) : (⟨b, o, none⟩ : Addr).add j = ⟨b, o + j, none⟩ := by unfold Addr.add; split <;> simp_all
theorem run_storeAt {P : Program} {T T0 : TypeId} {w : World} {b o : Nat} {vs : List Value} {v : Value} (hb : w.heap[b]? = some (.cells vs.toArray T0 (0, 0))) (hi : sizeT P T = some v.cells.size) (ho : o + v.cells.size ≤ vs.length)
    (h1 : ∀ u, u ∈ v.cells.toList → u.oneCell' = true) : (Instr.storeAt T (.pointer (some ⟨b, o, none⟩)) v).run P w = .ok () (w.setCells b o v.cells.toList) := by
  have := run_storeCells_cells (P := P) b o v.cells.toList 0 w (fun j hj => by
    rw [row_cell hb, Nat.add_zero, List.getElem?_eq_getElem (by simp at hj; omega)]; rfl) (fun j _ => frozen_row hb _) h1
  rw [Nat.add_zero] at this
  simp only [Instr.storeAt, Instr.sureAddr, Sem.run_bind, Sem.run_pure, Result.andThen_ok, storeVar, run_sizeOf' hi w, ne_eq, not_true, if_false]
  exact this

theorem CIn.append {S : Addr → Prop} {w : World} {tv : Nat → Value} : ∀ {ds es : List C} {vs us : List Value}, CIn S w tv ds vs → CIn S w tv es us → CIn S w tv (ds ++ es) (vs ++ us)
  | [], _, [], _, _, h => h
  | .d _ :: _, _, _ :: _, _, h, h2 => ⟨h.1, CIn.append h.2 h2⟩
  | .gh _ :: _, _, _ :: _, _, h, h2 => ⟨h.1, CIn.append h.2 h2⟩
  | [], _, _ :: _, _, h, _ => h.elim
  | .d _ :: _, _, [], _, h, _ => h.elim
  | .gh _ :: _, _, [], _, h, _ => h.elim
theorem CIn.drop {S : Addr → Prop} {w : World} {tv : Nat → Value} : ∀ (n : Nat) {ds : List C} {vs : List Value}, CIn S w tv ds vs → CIn S w tv (ds.drop n) (vs.drop n)
  | 0, _, _, h => h
  | _ + 1, [], [], _ => trivial
  | n + 1, .d _ :: _, _ :: _, h => CIn.drop n h.2
  | n + 1, .gh _ :: _, _ :: _, h => CIn.drop n h.2
  | _ + 1, [], _ :: _, h => h.elim
  | _ + 1, .d _ :: _, [], h => h.elim
  | _ + 1, .gh _ :: _, [], h => h.elim
theorem CIn.take {S : Addr → Prop} {w : World} {tv : Nat → Value} : ∀ (n : Nat) {ds : List C} {vs : List Value}, CIn S w tv ds vs → CIn S w tv (ds.take n) (vs.take n)
  | 0, _, _, _ => trivial
  | _ + 1, [], [], _ => trivial
  | n + 1, .d _ :: _, _ :: _, h => ⟨h.1, CIn.take n h.2⟩
  | n + 1, .gh _ :: _, _ :: _, h => ⟨h.1, CIn.take n h.2⟩
  | _ + 1, [], _ :: _, h => h.elim
  | _ + 1, .d _ :: _, [], h => h.elim
  | _ + 1, .gh _ :: _, [], h => h.elim
theorem CIn.plain {S : Addr → Prop} {w : World} {tv : Nat → Value} : ∀ {ds : List D} {vs : List Value}, CIn S w tv (ds.map .d) vs → LIn S w ds vs
  | [], [], _ => trivial
  | _ :: _, _ :: _, h => ⟨h.1, CIn.plain h.2⟩
  | [], _ :: _, h => h.elim
  | _ :: _, [], h => h.elim
def splice (xs : List C) (o : Nat) (ds : List C) : List C := xs.take o ++ ds ++ xs.drop (o + ds.length)
theorem CIn.splice {S : Addr → Prop} {w : World} {tv : Nat → Value} {xs ds : List C} {vs us : List Value} (h : CIn S w tv xs vs) (h2 : CIn S w tv ds us) (o : Nat) :
    CIn S w tv (splice xs o ds) (vs.take o ++ us ++ vs.drop (o + us.length)) := by
  unfold Go.Proofs.YtoadmjnaakbljaaDoor.splice
  rw [← h2.len]
  exact ((h.take o).append h2).append (h.drop _)

def plainCs : List C → Option (List D)
  | [] => some []
  | .d d :: r => (plainCs r).map (d :: ·)
  | .gh _ :: _ => none
theorem plainCs_ok : ∀ {xs : List C} {ds : List D}, plainCs xs = some ds → xs = ds.map .d
  | [], ds, h => by cases h; rfl
  | .d d :: r, ds, h => by
    rw [plainCs, Option.map_eq_some_iff] at h
    obtain ⟨ds', h1, rfl⟩ := h
    rw [plainCs_ok h1]; rfl
  | .gh _ :: _, _, h => by cases h

section
variable {P : Program} {o : Oper} {l : List (Nat × F)} {d : Nat}

/-! loads -/
theorem r_load {T T0 : TypeId} {x : Operand} {y n : Nat} {xs : List C} {u : D} (ho : o.op = .load T x) (hd : o.dst = some d) (hT : plainT P T = true) (hx : opd l x = some (.ptr y n)) (hy : find l y = some (.var T0 xs)) (hu : xs[n]? = some (.d u)) :
    Does P o (rdOf x ++ [y]) [] l [(d, .c u)] :=
  Does.val hd trivial fun S ρ tv a w hv => by
    have h1 : a.eval x = .pointer (some ⟨ρ y, n, none⟩) := hv.fv hx (fun _ h => List.mem_append_left _ h) (by intro T xs e; cases e)
    obtain ⟨vs, h2, h3⟩ := hv.vr y _ _ hy (List.mem_append_right _ (by simp))
    obtain ⟨v, h4, h5⟩ := h3.get n _ hu
    refine ⟨v, ?_, h5.1⟩
    simp only [execOp, ho, h1, Sem.run_bind, run_load_plain hT ((row_cell h2 n).trans h4)]
    rfl
theorem r_loadA {T T0 : TypeId} {x : Operand} {y n m : Nat} {xs : List C} {us : List D} (ho : o.op = .load T x) (hd : o.dst = some d) (hT : aggN P T = some m) (hx : opd l x = some (.ptr y n)) (hy : find l y = some (.var T0 xs)) (hu : plainCs ((xs.drop n).take m) = some us)
    (hm : us.length = m) : Does P o (rdOf x ++ [y]) [] l [(d, .agg us)] :=
  Does.val hd trivial fun S ρ tv a w hv => by
    have h1 : a.eval x = .pointer (some ⟨ρ y, n, none⟩) := hv.fv hx (fun _ h => List.mem_append_left _ h) (by intro T xs e; cases e)
    obtain ⟨vs, h2, h3⟩ := hv.vr y _ _ hy (List.mem_append_right _ (by simp))
    have h4 := (h3.drop n).take m
    rw [plainCs_ok hu] at h4
    have h5 := h4.plain
    refine ⟨.agg ((vs.drop n).take m).toArray, ?_, _, rfl, h5⟩
    simp only [execOp, ho, h1, Sem.run_bind]
    rw [run_load_agg hT (by rw [← h5.len, hm]) (fun j v hj => by
      rw [addr_add, row_cell h2]
      rw [List.getElem?_take] at hj
      split at hj
      · rw [List.getElem?_drop] at hj; exact hj
      · cases hj)]
    rfl
theorem r_loadEl {T : TypeId} {x : Operand} {n : Nat} {row : List D} {u : D} (ho : o.op = .load T x) (hd : o.dst = some d) (hT : plainT P T = true) (hx : opd l x = some (.el row n)) (hu : row[n]? = some u) :
    Does P o (rdOf x) [] l [(d, .c u)] :=
  Does.val hd trivial fun S ρ tv a w hv => by
    obtain ⟨p, h1, h2⟩ := hv.fv hx (fun _ h => h) (by intro T xs e; cases e)
    obtain ⟨_, v, h4, h5⟩ := h2 0 u hu
    refine ⟨v, ?_, h5⟩
    simp only [execOp, ho, h1, Sem.run_bind, run_load_plain hT (show w.cell? p = some v from h4)]
    rfl
theorem r_loadElA {T : TypeId} {x : Operand} {n m : Nat} {row us : List D} (ho : o.op = .load T x) (hd : o.dst = some d) (hT : aggN P T = some m) (hx : opd l x = some (.el row n)) (hu : (row.drop n).take m = us) (hm : us.length = m) :
    Does P o (rdOf x) [] l [(d, .agg us)] :=
  Does.val hd trivial fun S ρ tv a w hv => by
    obtain ⟨p, h1, h2⟩ := hv.fv hx (fun _ h => h) (by intro T xs e; cases e)
    have hj : ∀ j u, us[j]? = some u → ∃ v, w.cell? (p.add j) = some v ∧ DIn S w u v := by
      intro j u hj
      rw [← hu, List.getElem?_take] at hj
      split at hj
      · rw [List.getElem?_drop] at hj
        obtain ⟨_, v, h4, h5⟩ := h2 j u hj
        exact ⟨v, h4, h5⟩
      · cases hj
    have hvs : ∃ vs : List Value, LIn S w us vs ∧ ∀ j v, vs[j]? = some v → w.cell? (p.add j) = some v := by
      clear hu hm
      have : ∀ (us : List D) (k : Nat), (∀ j u, us[j]? = some u → ∃ v, w.cell? (p.add (k + j)) = some v ∧ DIn S w u v) → ∃ vs : List Value, LIn S w us vs ∧ ∀ j v, vs[j]? = some v → w.cell? (p.add (k + j)) = some v := by
        intro us
        induction us with
        | nil => exact fun k _ => ⟨[], trivial, fun j v h => by simp at h⟩
        | cons u us ih =>
          intro k h
          obtain ⟨v, h1, h2⟩ := h 0 u rfl
          obtain ⟨vs, h3, h4⟩ := ih (k + 1) (fun j u hj => by
            obtain ⟨v, h5, h6⟩ := h (j + 1) u (by simpa using hj)
            exact ⟨v, by rw [← h5, show k + 1 + j = k + (j + 1) by omega], h6⟩)
          refine ⟨v :: vs, ⟨h2, h3⟩, fun j v' hj => ?_⟩
          cases j with
          | zero => simp at hj; subst hj; exact h1
          | succ j => rw [← h4 j v' (by simpa using hj), show k + 1 + j = k + (j + 1) by omega]
      obtain ⟨vs, h3, h4⟩ := this us 0 (fun j u h => by rw [Nat.zero_add]; exact hj j u h)
      exact ⟨vs, h3, fun j v h => by rw [← h4 j v h, Nat.zero_add]⟩
    obtain ⟨vs, h3, h4⟩ := hvs
    refine ⟨.agg vs.toArray, ?_, vs, rfl, h3⟩
    simp only [execOp, ho, h1, Sem.run_bind]
    rw [run_load_agg hT (by rw [← h3.len, hm]) h4]
    rfl

/-! addresses, parts -/
def fieldAt? (P : Program) (T : TypeId) (i : Nat) : Option (Nat × Nat) :=
  match P.underlying T with
  | some (.struct fs) => (fs[i]?).bind fun f => (sizeT P f.type).bind fun n => bif Nat.beq n 0 then none else some (f.offset, n)
  | _ => none
theorem run_fieldAt {P : Program} {T : TypeId} {i off n : Nat} (h : fieldAt? P T i = some (off, n)) (p : Addr) (w : World) : (Instr.fieldAt T (.pointer (some p)) i).run P w = .ok (.pointer (some (p.add off))) w := by
  unfold fieldAt? at h
  cases hu : P.underlying T with
  | none => simp [hu] at h
  | some dd =>
    rw [hu] at h
    cases dd with
    | struct fs =>
      simp only [Option.bind_eq_some_iff] at h
      obtain ⟨f, hf, m, hm, h⟩ := h
      cases hz : Nat.beq m 0 with
      | true => simp [hz] at h
      | false =>
        simp only [hz, cond_false, Option.some.injEq, Prod.mk.injEq] at h
        obtain ⟨rfl, rfl⟩ := h
        have hne : m ≠ 0 := by intro e; rw [e] at hz; cases hz
        simp only [Instr.fieldAt, Sem.run_bind, run_underlying hu w, Result.andThen_ok, hf, Instr.sureAddr, Sem.run_pure, fieldPlace, run_sizeOf' hm w, if_neg hne]
    | _ => simp at h
theorem r_fieldAddr {T : TypeId} {x : Operand} {y n i off m : Nat} (ho : o.op = .fieldAddr T x i) (hd : o.dst = some d) (hT : fieldAt? P T i = some (off, m)) (hx : opd l x = some (.ptr y n)) : Does P o (rdOf x) [] l [(d, .ptr y (n + off))] :=
  Does.val hd trivial fun S ρ tv a w hv => by
    have h1 : a.eval x = .pointer (some ⟨ρ y, n, none⟩) := hv.fv hx (fun _ h => h) (by intro T xs e; cases e)
    refine ⟨_, ?_, rfl⟩
    simp only [execOp, ho, h1, Sem.run_bind, run_fieldAt hT, addr_add]
    rfl
theorem add_add' (p : Addr) (i j : Nat) : (p.add i).add j = p.add (i + j) := add_of_add p i j
theorem r_fieldAddrEl {T : TypeId} {x : Operand} {n i off m : Nat} {row : List D} (ho : o.op = .fieldAddr T x i) (hd : o.dst = some d) (hT : fieldAt? P T i = some (off, m)) (hx : opd l x = some (.el row n)) : Does P o (rdOf x) [] l [(d, .el row (n + off))] :=
  Does.val hd trivial fun S ρ tv a w hv => by
    obtain ⟨p, h1, h2⟩ := hv.fv hx (fun _ h => h) (by intro T xs e; cases e)
    refine ⟨.pointer (some (p.add off)), ?_, p.add off, rfl, fun j u hj => ?_⟩
    · simp only [execOp, ho, h1, Sem.run_bind, run_fieldAt hT]
      rfl
    · rw [add_add']
      exact h2 (off + j) u (by rw [← Nat.add_assoc]; exact hj)
def elemOf? (P : Program) (T : TypeId) : Option (TypeId × Nat) :=
  match P.underlying T with
  | some (.slice e) => (sizeT P e).map fun n => (e, n)
  | _ => none
theorem elemOf?_some {P : Program} {T e : TypeId} {n : Nat} (h : elemOf? P T = some (e, n)) : P.underlying T = some (.slice e) ∧ sizeT P e = some n := by
  unfold elemOf? at h
  cases hu : P.underlying T with
  | none => simp [hu] at h
  | some dd =>
    rw [hu] at h
    cases dd with
    | slice e' =>
      simp only [Option.map_eq_some_iff] at h
      obtain ⟨m, hm, h⟩ := h
      cases h
      exact ⟨rfl, hm⟩
    | _ => simp at h
theorem r_indexAddr {T e : TypeId} {x i : Operand} {sz : Nat} {els : List (List D)} {k : IntKind} {n : Int} {row : List D} (ho : o.op = .indexAddr T x i) (hd : o.dst = some d) (hT : elemOf? P T = some (e, sz)) (hx : opd l x = some (.c (.sl sz els)))
    (hi : opd l i = some (.c (.lit (.int k n)))) (h0 : 0 ≤ n) (hr : els[n.toNat]? = some row) : Does P o (rdOf x ++ rdOf i) [] l [(d, .el row 0)] :=
  Does.val hd trivial fun S ρ tv a w hv => by
    obtain ⟨A, c, h1, hc, hne, hlen, h2⟩ := DIn.row (hv.fv hx (fun _ h => List.mem_append_left _ h) (by intro T xs e; cases e))
    have h3 := lit_val (hv.fv hi (fun _ h => List.mem_append_right _ h) (by intro T xs e; cases e))
    obtain ⟨hu, hs⟩ := elemOf?_some hT
    have hlt : n.toNat < els.length := by
      rcases Nat.lt_or_ge n.toNat els.length with h | h
      · exact h
      · rw [List.getElem?_eq_none h] at hr; cases hr
    have hlt' : 0 ≤ n ∧ n < (els.length : Int) := by omega
    have hrow : ∀ j u, row[j]? = some u → D.at els n.toNat j = some u := fun j u h => by rw [D.at, hr]; exact h
    cases A with
    | some ad =>
      refine ⟨.pointer (some (ad.add (n.toNat * sz))), ?_, _, rfl, fun j u hj => ?_⟩
      · simp only [execOp, ho, h1, h3, Instr.indexAt, asIntOf, Sem.run_bind, Sem.run_pure, Result.andThen_ok, run_underlying hu w, if_pos hlt', run_sizeOf' hs w]
      · rw [Nat.zero_add] at hj
        obtain ⟨ad', v, e1, h4, h5, h6⟩ := h2 _ _ _ (hrow j u hj)
        cases e1
        rw [add_add']
        exact ⟨h4, v, h5, h6⟩
    | none =>
      obtain ⟨ad, e1⟩ := hne (by omega)
      cases e1
end

end Go.Proofs.YtoadmjnaakbljaaDoor
