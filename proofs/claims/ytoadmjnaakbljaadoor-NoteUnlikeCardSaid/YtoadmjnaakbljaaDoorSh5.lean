/- Shadows: stores, new variables, new rows. -/
import Derived.Test.YtoadmjnaakbljaaDoorSh4
namespace Go.Proofs.YtoadmjnaakbljaaDoor
set_option linter.unusedVariables false
open Go Go.RowKit

theorem Fr.write {vol0 : Addr → Prop} {w0 w w' : World} (h : Fr vol0 w0 w) {b : Nat} (hos : w'.os = w.os ∧ w'.tape = w.tape ∧ w'.output = w.output) (hsz : w'.heap.size = w.heap.size) (hoth : ∀ k, k ≠ b → w'.heap[k]? = w.heap[k]?)
    (hv : b < w0.heap.size → ∀ p : Addr, p.block = b → vol0 p) : Fr vol0 w0 w' where
  os := hos.1.trans h.os
  tape := hos.2.1.trans h.tape
  output := hos.2.2.trans h.output
  size := by rw [hsz]; exact h.size
  cell p hp hn := by
    rw [← h.cell p hp hn]
    exact World.cell?_of_block (hoth _ (fun e => hn (hv (by omega) p e)))
  block k hk hn := by
    rw [← h.block k hk hn]
    refine hoth _ (fun e => ?_)
    exact hn ⟨k, 0, none⟩ rfl (hv (by omega) _ e)

inductive WkD : D → D → Prop
  | refl (x : D) : WkD x x
  | any (x : D) : WkD x .any
  | nil (sz : Nat) : WkD (.lit (.slice none 0 0)) (.sl sz [])
theorem WkD.ok {S : Addr → Prop} {w : World} {x y : D} {v : Value} (h : WkD x y) (hx : DIn S w x v) : DIn S w y v := by
  cases h with
  | refl => exact hx
  | any => exact .any v hx.one
  | nil sz => cases hx; exact DIn.nil _ _
def WkDs : List D → List D → Prop
  | [], [] => True
  | x :: xs, y :: ys => WkD x y ∧ WkDs xs ys
  | _, _ => False
theorem WkDs.ok {S : Addr → Prop} {w : World} : ∀ {xs ys : List D} {vs : List Value}, WkDs xs ys → LIn S w xs vs → LIn S w ys vs
  | [], [], [], _, _ => trivial
  | _ :: _, _ :: _, _ :: _, hw, hl => ⟨hw.1.ok hl.1, WkDs.ok hw.2 hl.2⟩
  | [], [], _ :: _, _, h => h.elim
  | _ :: _, _ :: _, [], _, h => h.elim
  | [], _ :: _, _, h, _ => h.elim
  | _ :: _, [], _, h, _ => h.elim

section
variable {P : Program} {o : Oper} {l : List (Nat × F)} {d : Nat}

theorem Does.write {rd : List Nat} {x : Nat} {T : TypeId} {xs ys : List C} (hd : o.dst = none) (hx : find l x = some (.var T xs)) (hrd : x ∈ rd)
    (h : ∀ S ρ tv a w vs, View l rd S ρ tv a w → w.heap[ρ x]? = some (.cells vs.toArray T (0, 0)) → CIn S w tv xs vs → ∃ n us, (execOp a.eval o).run P w = .ok .skip (w.setCells (ρ x) n us) ∧ n + us.length ≤ vs.length ∧ CIn S w tv ys (vs.take n ++ us ++ vs.drop (n + us.length))) :
    Does P o rd [] l [(x, .var T ys)] := by
  intro e σ a w next Q hn hdn hσ _ hR hnext
  obtain ⟨hdf, hsz, hfr, ρ, tv, htv, hin, hvz, hrr⟩ := hR
  have hxσ : σ x = some (.var T xs) := by rw [hσ x hrd]; exact hx
  obtain ⟨vs, hb, hc⟩ := hrr.rel x _ hxσ
  obtain ⟨n, us, hrun, hle, hc'⟩ := h _ ρ tv a w vs (view_of hσ htv hrr) hb hc
  unfold Oper.wp
  rw [hrun, Oper.upon_skip, hd]
  have hw := setCells_row (ρ x) T us n w vs hb hle
  obtain ⟨h1, h2⟩ := hrr.write (w' := w.setCells (ρ x) n us) hxσ (setCells_size _ _ _ _) (fun k hk => setCells_other _ _ _ _ _ hk) hw hc'
  refine hnext _ _ ⟨hdf, hsz, hfr.write (b := ρ x) (setCells_keep _ _ _ _) (setCells_size _ _ _ _) (fun k hk => setCells_other _ _ _ _ _ hk) (fun hlt p hp => ?_), ρ, tv, htv, hin, fun p hp => hvz p (h2 p hp), h1⟩
  rcases hvz p ⟨x, _, hxσ, by rw [hp]; rfl, Nat.zero_le _⟩ with h3 | h3
  · exact h3
  · omega

theorem r_store {T T0 : TypeId} {x y : Operand} {v n : Nat} {xs : List C} {u : D} (ho : o.op = .store T x y) (hd : o.dst = none) (hT : sizeT P T = some 1) (hx : opd l x = some (.ptr v n)) (hv : find l v = some (.var T0 xs)) (hn : Nat.blt n xs.length = true) (hy : opd l y = some (.c u)) :
    Does P o (v :: (rdOf x ++ rdOf y)) [] l [(v, .var T0 (splice xs n [.d u]))] :=
  Does.write hd hv (by simp) fun S ρ tv a w vs hview hb hc => by
    have hn : n < xs.length := Nat.le_of_ble_eq_true hn
    have h1 : a.eval x = .pointer (some ⟨ρ v, n, none⟩) := hview.fv hx (fun _ h => List.mem_cons_of_mem _ (List.mem_append_left _ h)) (by intro T xs e; cases e)
    have h2 : DIn S w u (a.eval y) := hview.fv hy (fun _ h => List.mem_cons_of_mem _ (List.mem_append_right _ h)) (by intro T xs e; cases e)
    have hone := h2.one
    have hcl : (a.eval y).cells = #[a.eval y] := by revert hone; cases a.eval y <;> simp [Value.oneCell', Value.cells]
    have hlen := hc.len
    refine ⟨n, [a.eval y], ?_, by simp; omega, CIn.splice (ds := [.d u]) (us := [a.eval y]) hc ⟨h2, trivial⟩ n⟩
    have := run_storeAt (P := P) (T := T) (o := n) (v := a.eval y) hb (by rw [hcl]; exact hT) (by rw [hcl]; simp; omega) (by rw [hcl]; intro u hu; simp at hu; rw [hu]; exact hone)
    rw [hcl] at this
    simp only [execOp, ho, h1, Sem.run_bind, this]
    rfl
theorem r_storeA {T T0 : TypeId} {x y : Operand} {v n m : Nat} {xs : List C} {us : List D} (ho : o.op = .store T x y) (hd : o.dst = none) (hT : sizeT P T = some m) (hx : opd l x = some (.ptr v n)) (hv : find l v = some (.var T0 xs)) (hy : opd l y = some (.agg us)) (hm : us.length = m)
    (hn : Nat.ble (n + m) xs.length = true) : Does P o (v :: (rdOf x ++ rdOf y)) [] l [(v, .var T0 (splice xs n (us.map .d)))] :=
  Does.write hd hv (by simp) fun S ρ tv a w vs hview hb hc => by
    have h1 : a.eval x = .pointer (some ⟨ρ v, n, none⟩) := hview.fv hx (fun _ h => List.mem_cons_of_mem _ (List.mem_append_left _ h)) (by intro T xs e; cases e)
    have hn : n + m ≤ xs.length := Nat.le_of_ble_eq_true hn
    obtain ⟨ws, h2, h3⟩ := hview.fv hy (fun _ h => List.mem_cons_of_mem _ (List.mem_append_right _ h)) (by intro T xs e; cases e)
    have hlen := hc.len
    have hlw := h3.len
    refine ⟨n, ws, ?_, by omega, hc.splice (CIn.ofL h3) n⟩
    have := run_storeAt (P := P) (T := T) (o := n) (v := .agg ws.toArray) hb (by rw [hT]; simp [Value.cells]; omega) (by simp [Value.cells]; omega) (by intro u hu; exact h3.one u (by simpa [Value.cells] using hu))
    simp only [Value.cells] at this
    simp only [execOp, ho, h1, h2, Sem.run_bind, this]
    rfl

/-- a new variable -/
theorem Does.newVar {rd : List Nat} {x : Nat} {T : TypeId} {xs : List D} (hd : o.dst = some d) (hx : 2000 ≤ x)
    (h : ∀ S ρ tv a w, View l rd S ρ tv a w → ∃ vs : List Value, (execOp a.eval o).run P w = .ok (.value (.pointer (some ⟨w.heap.size, 0, none⟩))) (w.alloc (.cells vs.toArray T)) ∧ LIn S w xs vs) :
    Does P o rd [(x, [])] l [(d, .ptr x 0), (x, .var T (xs.map .d))] := by
  intro e σ a w next Q hn hdn hσ hfr hR hnext
  obtain ⟨hdf, hsz, hf, ρ, tv, htv, hin, hvz, hrr⟩ := hR
  obtain ⟨hxin, hfresh⟩ := hfr (x, []) (by simp)
  obtain ⟨vs, hrun, hl⟩ := h _ ρ tv a w (view_of hσ htv hrr)
  unfold Oper.wp
  rw [hrun, Oper.upon_value, hd]
  have hdn' := hdn d hd
  obtain ⟨h1, h2⟩ := hrr.newVar hx (T := T) (fun k o' hk => by
    have := hfresh k _ (by simp) hk
    simp [refB] at this) hl
  have hbl : Below w.heap.size w (w.alloc (.cells vs.toArray T)) := (Below.refl _ _).alloc (Nat.le_refl _) _
  have e1 : upd σ [(d, .ptr x 0), (x, .var T (xs.map .d))] = upd (upd σ [(x, .var T (xs.map .d))]) [(d, .ptr x 0)] := by
    funext k
    unfold upd
    simp only [find_cons]
    by_cases hk : d = k <;> by_cases hk2 : x = k <;> simp [hk, hk2, find]
  rw [e1] at hnext
  refine hnext _ _ (R.put (ρ := fun y => if y = x then w.heap.size else ρ y) (tv := tv) hdf hsz (hf.grow hbl) htv (fun y hy => ?_) (fun p hp => ?_) h1 hdn' hn (f := .ptr x 0) trivial (by
    show _ = Value.pointer (some ⟨(if x = x then w.heap.size else ρ x), 0, none⟩)
    rw [if_pos rfl]))
  · rw [if_neg (fun e => hxin (by rw [← e]; exact hy))]; exact hin y hy
  · rcases h2 p hp with h3 | h3
    · exact hvz p h3
    · exact .inr (by rw [h3]; exact hf.size)

def zeroT (P : Program) (T : TypeId) : Option (List Value) := ((P.info? T).bind (·.zero)).bind fun z => bif z.cells.all (·.oneCell') then some z.cells.toList else none
theorem zeroT_some {P : Program} {T : TypeId} {zs : List Value} (h : zeroT P T = some zs) : ∃ z, (∀ w : World, (zeroValue T).run P w = .ok z w) ∧ z.cells = zs.toArray ∧ ∀ v, v ∈ zs → v.oneCell' = true := by
  unfold zeroT at h
  cases hi : P.info? T with
  | none => simp [hi] at h
  | some i =>
    cases hz : i.zero with
    | none => simp [hi, hz] at h
    | some z =>
      simp only [hi, Option.bind_some, hz] at h
      cases hb : z.cells.all (·.oneCell') with
      | false => rw [hb] at h; cases h
      | true =>
        rw [hb] at h
        cases h
        exact ⟨z, fun w => by simp [zeroValue, typeInfo, hi, hz], by simp, fun v hv => (Array.all_eq_true_iff_forall_mem.1 hb) v (by simpa using hv)⟩
theorem LIn.lits {S : Addr → Prop} {w : World} {vs : List Value} (h : ∀ v, v ∈ vs → v.oneCell' = true) : LIn S w (vs.map .lit) vs :=
  LIn.of (by simp) fun j d v h1 h2 => by
    rw [List.getElem?_map, h2] at h1
    simp at h1
    subst h1
    exact .lit v (h v (List.mem_of_getElem? h2))
theorem r_alloc {T : TypeId} {x : Nat} {zs : List Value} (ds : List D) (ho : o.op = .alloc T) (hd : o.dst = some d) (hx : Nat.ble 2000 x = true) (hz : zeroT P T = some zs) (hw : WkDs (zs.map .lit) ds) : Does P o [] [(x, [])] l [(d, .ptr x 0), (x, .var T (ds.map .d))] :=
  Does.newVar hd (Nat.le_of_ble_eq_true hx) fun S ρ tv a w hv => by
    obtain ⟨z, h1, h2, h3⟩ := zeroT_some hz
    refine ⟨zs, ?_, hw.ok (LIn.lits h3)⟩
    simp only [execOp, ho, Instr.alloc, Sem.run_bind, h1, Result.andThen_ok, newVar, newRow, h2, Sem.run_pure, run_newObj_alloc]
theorem r_box {T : TypeId} {x : Nat} {y : Operand} {u : D} (ho : o.op = .box T y) (hd : o.dst = some d) (hx : Nat.ble 2000 x = true) (hy : opd l y = some (.c u)) : Does P o (rdOf y) [(x, [])] l [(d, .ptr x 0), (x, .var T ([u].map .d))] :=
  Does.newVar hd (Nat.le_of_ble_eq_true hx) fun S ρ tv a w hv => by
    have h2 : DIn S w u (a.eval y) := hv.fv hy (fun _ h => h) (by intro T xs e; cases e)
    have hone := h2.one
    have hcl : (a.eval y).cells = #[a.eval y] := by revert hone; cases a.eval y <;> simp [Value.oneCell', Value.cells]
    refine ⟨[a.eval y], ?_, h2, trivial⟩
    simp only [execOp, ho, Instr.box, Sem.run_bind, Result.andThen_ok, newVar, newRow, hcl, Sem.run_pure, run_newObj_alloc]
theorem r_boxA {T : TypeId} {x : Nat} {y : Operand} {us : List D} (ho : o.op = .box T y) (hd : o.dst = some d) (hx : Nat.ble 2000 x = true) (hy : opd l y = some (.agg us)) : Does P o (rdOf y) [(x, [])] l [(d, .ptr x 0), (x, .var T (us.map .d))] :=
  Does.newVar hd (Nat.le_of_ble_eq_true hx) fun S ρ tv a w hv => by
    obtain ⟨ws, h2, h3⟩ := hv.fv hy (fun _ h => h) (by intro T xs e; cases e)
    refine ⟨ws, ?_, h3⟩
    simp only [execOp, ho, Instr.box, h2, Value.cells, Sem.run_bind, Result.andThen_ok, newVar, newRow, Sem.run_pure, run_newObj_alloc]

/-- a new row that nobody writes any more -/
theorem Does.newRow {rd : List Nat} {f : F} (hd : o.dst = some d) (hp : Plain f)
    (h : ∀ S ρ tv a w, View l rd S ρ tv a w → ∃ v w', (execOp a.eval o).run P w = .ok (.value v) w' ∧ Below w.heap.size w w' ∧ ∀ S' : Addr → Prop, (∀ p, S p → S' p) → (∀ p : Addr, w.heap.size ≤ p.block → p.block < w'.heap.size → S' p) → (∀ p, S p → p.block < w.heap.size) → FV S' ρ w' f v) :
    Does P o rd [] l [(d, f)] := by
  intro e σ a w next Q hn hdn hσ _ hR hnext
  obtain ⟨hdf, hsz, hfr, ρ, tv, htv, hin, hvz, hrr⟩ := hR
  obtain ⟨v, w', hrun, hbl, hf⟩ := h _ ρ tv a w (view_of hσ htv hrr)
  unfold Oper.wp
  rw [hrun, Oper.upon_value, hd]
  exact hnext _ _ (R.put hdf hsz (hfr.grow hbl) htv hin hvz (hrr.grow hbl) (hdn d hd) hn hp (hf _ (fun p hp => RR.coldOld hbl.size hp) (fun p h1 h2 => hrr.coldNew h1 h2) (fun p hp => hp.1)))

/-- the parts of a literal -/
def partsD (l : List (Nat × F)) : List (Nat × Operand) → Option (List (Nat × List D))
  | [] => some []
  | (i, x) :: r => match opd l x, partsD l r with
    | some (.c u), some ps => some ((i, [u]) :: ps)
    | some (.agg us), some ps => some ((i, us) :: ps)
    | _, _ => none
def fillD (place : Nat → Option (Nat × Nat)) (cells : List D) : List (Nat × List D) → Option (List D)
  | [] => some cells
  | (i, us) :: rest => match place i with
    | none => none
    | some (off, size) => bif Nat.beq us.length size && Nat.ble (off + us.length) cells.length then fillD place (cells.take off ++ us ++ cells.drop (off + us.length)) rest else none
theorem foldl_set : ∀ (us : List Value) (k off : Nat) (cs : Array Value), off + k + us.length ≤ cs.size → (us.zipIdx k).foldl (fun (cs : Array Value) (x : Value × Nat) => cs.setIfInBounds (off + x.2) x.1) cs = (cs.toList.take (off + k) ++ us ++ cs.toList.drop (off + k + us.length)).toArray
  | [], k, off, cs, _ => by simp
  | u :: us, k, off, cs, h => by
    simp only [List.length_cons] at h
    rw [List.zipIdx_cons, List.foldl_cons, foldl_set us (k + 1) off _ (by simp; omega)]
    simp only [Array.toList_setIfInBounds]
    have e1 : (cs.toList.set (off + k) u).take (off + (k + 1)) = cs.toList.take (off + k) ++ [u] := by
      rw [← Nat.add_assoc, List.take_succ_eq_append_getElem (by simp; omega)]
      simp [List.take_set_of_le]
    have e2 : (cs.toList.set (off + k) u).drop (off + (k + 1) + us.length) = cs.toList.drop (off + k + (us.length + 1)) := by
      rw [List.drop_set_of_lt (by omega), show off + (k + 1) + us.length = off + k + (us.length + 1) by omega]
    rw [e1, e2]
    simp
theorem fill_ok {S : Addr → Prop} {w : World} {ρ : Nat → Nat} {a : Act} {place : Nat → Option (Nat × Nat)} : ∀ (parts : List (Nat × Operand)) (ps : List (Nat × List D)) (cs : List D) (vs : List Value) (out : List D),
    (∀ x, x ∈ parts → ∀ f, opd l x.2 = some f → (∀ T xs, f ≠ .var T xs) → FV S ρ w f (a.eval x.2)) → partsD l parts = some ps → LIn S w cs vs → fillD place cs ps = some out →
    ∃ outv : List Value, Instr.fill place vs.toArray (parts.map fun (i, x) => (i, a.eval x)) = some outv.toArray ∧ LIn S w out outv
  | [], ps, cs, vs, out, _, hps, hl, hf => by
    cases hps
    cases hf
    exact ⟨vs, rfl, hl⟩
  | (i, x) :: r, ps, cs, vs, out, hev, hps, hl, hf => by
    have key : ∃ us ps' ws, ps = (i, us) :: ps' ∧ partsD l r = some ps' ∧ (a.eval x).cells = ws.toArray ∧ LIn S w us ws := by
      rw [partsD] at hps
      split at hps
      · rename_i u ps' h1 h2
        cases hps
        have h3 : DIn S w u (a.eval x) := hev (i, x) (by simp) _ h1 (by intro T xs e; cases e)
        have hone := h3.one
        have hcl : (a.eval x).cells = #[a.eval x] := by revert hone; cases a.eval x <;> simp [Value.oneCell', Value.cells]
        exact ⟨_, _, [a.eval x], rfl, h2, hcl, h3, trivial⟩
      · rename_i us ps' h1 h2
        cases hps
        obtain ⟨ws, h3, h4⟩ := hev (i, x) (by simp) _ h1 (by intro T xs e; cases e)
        exact ⟨_, _, ws, rfl, h2, by rw [h3]; rfl, h4⟩
      · cases hps
    obtain ⟨us, ps', ws, rfl, hr, hcl, hus⟩ := key
    rw [fillD] at hf
    rw [List.map_cons, Instr.fill]
    cases hp : place i with
    | none => rw [hp] at hf; cases hf
    | some q =>
      obtain ⟨off, size⟩ := q
      rw [hp] at hf
      simp only at hf ⊢
      cases hb : (Nat.beq us.length size && Nat.ble (off + us.length) cs.length) with
      | false => rw [hb] at hf; cases hf
      | true =>
        rw [hb, cond_true] at hf
        rw [Bool.and_eq_true] at hb
        have h1 := Nat.eq_of_beq_eq_true hb.1
        have h2 := Nat.le_of_ble_eq_true hb.2
        have h3 := hus.len
        have h4 := hl.len
        rw [hcl]
        rw [if_neg (by simp; omega)]
        have e1 := foldl_set ws 0 off vs.toArray (by simp; omega)
        have e2 : Array.foldl (fun (cs : Array Value) (x : Value × Nat) => cs.setIfInBounds (off + x.2) x.1) vs.toArray ws.toArray.zipIdx = (vs.take off ++ ws ++ vs.drop (off + ws.length)).toArray := by
          rw [← Array.foldl_toList]
          simpa using e1
        rw [e2]
        exact fill_ok r ps' _ _ out (fun x hx => hev x (List.mem_cons_of_mem _ hx)) hr (by
          rw [← h3]
          exact ((hl.take off).append hus).append (hl.drop _)) hf

def rdsOf (parts : List (Nat × Operand)) : List Nat := parts.flatMap fun x => rdOf x.2
def placesT (P : Program) (T : TypeId) : Option (List (Nat × Nat)) :=
  match P.underlying T with
  | some (.struct fs) => fs.toList.mapM fun f => (sizeT P f.type).map fun n => (f.offset, n)
  | _ => none
theorem places_ok {P : Program} : ∀ (fs : List Field) (qs : List (Nat × Nat)), (fs.mapM fun f => (sizeT P f.type).map fun n => (f.offset, n)) = some qs → ∀ w : World,
    (fs.mapM fun f => (do pure (f.offset, ← sizeOf f.type) : Sem (Nat × Nat))).run P w = .ok qs w
  | [], qs, h, w => by
    simp at h
    subst h
    rfl
  | f :: fs, qs, h, w => by
    rw [List.mapM_cons] at h
    cases hs : sizeT P f.type with
    | none => simp [hs] at h
    | some n =>
      cases hr : fs.mapM fun f => (sizeT P f.type).map fun n => (f.offset, n) with
      | none => simp [hs, hr] at h
      | some qs' =>
        simp [hs, hr] at h
        subst h
        rw [List.mapM_cons]
        simp only [Sem.run_bind, run_sizeOf' hs w, Result.andThen_ok, Sem.run_pure, places_ok fs qs' hr w]
theorem r_build {T : TypeId} {parts : Array (Nat × Operand)} {zs : List Value} {qs : List (Nat × Nat)} {ps : List (Nat × List D)} {out : List D} (ds : List D) (ho : o.op = .build T parts) (hd : o.dst = some d) (hz : zeroT P T = some zs) (hq : placesT P T = some qs)
    (hw : WkDs (zs.map .lit) ds) (hp : partsD l parts.toList = some ps) (hf : fillD (fun i => qs[i]?) ds ps = some out) : Does P o (rdsOf parts.toList) [] l [(d, .agg out)] :=
  Does.val hd trivial fun S ρ tv a w hv => by
    obtain ⟨z, h1, h2, h3⟩ := zeroT_some hz
    obtain ⟨outv, h4, h5⟩ := fill_ok (l := l) (S := S) (w := w) (ρ := ρ) (a := a) (place := fun i => qs[i]?) parts.toList ps _ zs out (fun x hx f h1 h2 => hv.fv h1 (fun k hk => by
      unfold rdsOf
      exact List.mem_flatMap.2 ⟨x, hx, hk⟩) h2) hp (hw.ok (LIn.lits h3)) hf
    refine ⟨.agg outv.toArray, ?_, outv, rfl, h5⟩
    unfold placesT at hq
    cases hu : P.underlying T with
    | none => simp [hu] at hq
    | some dd =>
      rw [hu] at hq
      cases dd with
      | struct fs =>
        have hpl := places_ok fs.toList qs hq w
        have hpl' : (fs.mapM fun f => (do pure (f.offset, ← sizeOf f.type) : Sem (Nat × Nat))).run P w = .ok qs.toArray w := by
          rw [Array.mapM_eq_mapM_toList]
          change Sem.run P (List.mapM _ fs.toList >>= fun a => pure a.toArray) w = _
          rw [Sem.run_bind, hpl]
          rfl
        have h6 : Instr.fill (fun x => qs.toArray[x]?) z.cells (parts.map fun (i, x) => (i, a.eval x)).toList = some outv.toArray := by
          rw [h2, Array.toList_map]
          simpa using h4
        simp only [execOp, ho, Instr.build, Sem.run_bind, h1, Result.andThen_ok, run_underlying hu w, hpl', h6, Sem.run_pure]
      | _ => simp at hq
end

end Go.Proofs.YtoadmjnaakbljaaDoor
