/- Shadows: a round of a range over a function; the range itself; a function that holds one. -/
import Derived.Test.YtlagglkpbnbmeaaGreatDoorSh26
import Derived.RangeFuncIn
import Derived.RangeFuncLeaves
namespace Go.Proofs.YtlagglkpbnbmeaaGreatDoor
open Go Go.RowKit
set_option linter.unusedVariables false

def tfOK (ks : List Nat) (tf : List (Nat × F)) : Bool := tf.all fun (k, f) => Nat.blt k 1000 && (match f with | .ptr x _ => ks.any (fun y => Nat.beq x y) | .rel kk _ => kk.all (fun x => ks.any (fun y => Nat.beq x y)) | _ => false)
def stOK (ks : List Nat) (st : List (Nat × F)) : Bool := st.all fun (k, f) => Nat.ble 2000 k && ks.any (fun y => Nat.beq k y) && (match f with | .var _ xs => xs.all (fun | .gh _ => false | _ => true) | _ => false)
def tfV (ρ : Nat → Nat) (f : F) (v : Value) : Prop := match f with
  | .ptr x o => v = ptrV (ρ x) o
  | .rel kk C => C (kk.map ρ) v
  | _ => False
theorem tf_ok {ks : List Nat} {tf : List (Nat × F)} (h : tfOK ks tf = true) {k : Nat} {f : F} (hk : find tf k = some f) : k < 1000 ∧ ((∃ x o, f = .ptr x o ∧ x ∈ ks) ∨ ∃ kk C, f = .rel kk C ∧ ∀ x, x ∈ kk → x ∈ ks) := by
  unfold tfOK at h
  rw [List.all_eq_true] at h
  have h1 := h _ (find_mem hk)
  rw [Bool.and_eq_true] at h1
  refine ⟨Nat.le_of_ble_eq_true h1.1, ?_⟩
  cases f with
  | ptr x o => exact .inl ⟨x, o, rfl, any_beq.1 h1.2⟩
  | rel kk C =>
    refine .inr ⟨kk, C, rfl, fun x hx => ?_⟩
    have h2 := h1.2
    simp only [List.all_eq_true] at h2
    exact any_beq.1 (h2 x hx)
  | _ => cases h1.2
theorem tf_ex {ks : List Nat} {tf : List (Nat × F)} (h : tfOK ks tf = true) {k : Nat} {f : F} (hk : find tf k = some f) {ρ : Nat → Nat} {tv : Nat → Value} {b : Nat} : ex ρ tv k f ≠ some b := by
  intro hb
  rcases (tf_ok h hk).2 with ⟨x, o, rfl, _⟩ | ⟨kk, C, rfl, _⟩ <;> cases hb
theorem tf_kv {ks : List Nat} {tf : List (Nat × F)} (h : tfOK ks tf = true) {k : Nat} {f : F} (hk : find tf k = some f) {S : Addr → Prop} {ρ ρ0 : Nat → Nat} {tv : Nat → Value} {w : World} (hv : tfV ρ0 f (tv k)) (hρ : ∀ x, x ∈ ks → ρ x = ρ0 x) : KV S ρ tv w k f := by
  rcases (tf_ok h hk).2 with ⟨x, o, rfl, hx⟩ | ⟨kk, C, rfl, hx⟩
  · show tv k = ptrV (ρ x) o
    rw [hρ x hx]; exact hv
  · show C (kk.map ρ) (tv k)
    rw [List.map_congr_left (fun x hx' => hρ x (hx x hx'))]; exact hv
theorem kv_tf {ks : List Nat} {tf : List (Nat × F)} (h : tfOK ks tf = true) {k : Nat} {f : F} (hk : find tf k = some f) {S : Addr → Prop} {ρ : Nat → Nat} {tv : Nat → Value} {w : World} (hv : KV S ρ tv w k f) : tfV ρ f (tv k) := by
  rcases (tf_ok h hk).2 with ⟨x, o, rfl, hx⟩ | ⟨kk, C, rfl, hx⟩ <;> exact hv
theorem st_ok {ks : List Nat} {st : List (Nat × F)} (h : stOK ks st = true) {k : Nat} {f : F} (hk : find st k = some f) : 2000 ≤ k ∧ k ∈ ks ∧ ∃ T xs, f = .var T xs ∧ ∀ g, C.gh g ∉ xs := by
  unfold stOK at h
  rw [List.all_eq_true] at h
  have h1 := h _ (find_mem hk)
  rw [Bool.and_eq_true, Bool.and_eq_true] at h1
  refine ⟨Nat.le_of_ble_eq_true h1.1.1, any_beq.1 h1.1.2, ?_⟩
  cases f with
  | var T xs =>
    refine ⟨T, xs, rfl, fun g hg => ?_⟩
    have h2 := h1.2
    simp only [List.all_eq_true] at h2
    have := h2 _ hg
    cases this
  | _ => cases h1.2
def recB (fn : FuncId) (tmps : Array Value) (ps : Array Tmp) (ag bd : Code) (D : Nat) (b : Bool) : Obj :=
  .loop { state := if b then .ready else .done, pending := if b then none else some .ret, fn := fn, tmps := tmps, params := ps, assign := ag, body := bd, defers := D }
theorem Fr.put (w : World) (L : Nat) (o : Obj) : Fr (fun q => q.block = L) w (w.putObj L o) :=
  ⟨rfl, rfl, rfl, by simp, fun q _ hn => by
    unfold World.cell?
    rw [World.putObj_heap_other hn], fun k _ hn => World.putObj_heap_other (hn ⟨k, 0, none⟩ rfl)⟩
theorem Fr.wide {v0 v1 : Addr → Prop} {a b : World} (h : Fr v1 a b) (hv : ∀ q : Addr, q.block < a.heap.size → v1 q → v0 q) : Fr v0 a b := (Fr.refl v0 a).trans h hv
theorem RR.putV {V : Addr → Prop} {ρ : Nat → Nat} {tv : Nat → Value} {w : World} {σ : Sta} (h : RR V ρ tv w σ) {L : Nat} (hL : ∀ q : Addr, q.block = L → V q) (o : Obj) : RR V ρ tv (w.putObj L o) σ := by
  refine h.to (by simp) (fun p hp => ⟨hp.2.2, ?_⟩) (fun k f hf => .inl ⟨hf, h.same hf rfl (fun _ _ => rfl) (fun _ _ _ => rfl) (fun _ _ _ => rfl) (fun b hb => ?_)⟩) h.dist (fun k f b h1 h2 => by rw [World.putObj_size]; exact h.exb k f b h1 h2)
  · unfold World.cell?
    rw [World.putObj_heap_other (fun e => hp.2.1 (hL p e))]
  · exact World.putObj_heap_other (fun e => (h.exb k f b hf hb).2 ⟨b, 0, none⟩ rfl (hL _ e))

section
variable {P : Program} {α β : Type} {n p Lk : Nat} {ks : List Nat} {tf : List (Nat × F)} {St : Bool → α → List (Nat × F)} {enc : β → List D} {cont : α → β → Bool} {step : α → β → α} {ag bd : Code} {lB : α → β → List (Nat × F)} {PY : α → β → Prop}

theorem find_two {st : List (Nat × F)} {k Lk : Nat} {g f : F} (h : find (st ++ [(Lk, g)]) k = some f) : find st k = some f ∨ (k = Lk ∧ f = g) := by
  rcases find_append_none h with h1 | ⟨_, h1⟩
  · exact .inl h1
  · rw [find_cons] at h1
    by_cases e : Lk = k
    · rw [if_pos e] at h1; cases h1; exact .inr ⟨e.symm, rfl⟩
    · rw [if_neg e] at h1; cases h1
theorem find_two_l {st : List (Nat × F)} {k Lk : Nat} {g f : F} (h : find st k = some f) : find (st ++ [(Lk, g)]) k = some f := by rw [find_append, h]
theorem find_two_r {st : List (Nat × F)} {Lk : Nat} {g : F} (h : find st Lk = none) : find (st ++ [(Lk, g)]) Lk = some g := by rw [find_append, h, find_cons, if_pos rfl]

set_option maxHeartbeats 1000000 in
theorem round_con (hn : n ≤ 1000) (hpn : p < n) (htf : tfOK ks tf = true) (hst : ∀ b s, stOK ks (St b s) = true) (hLk : Lk ∉ ks) (hLk2 : 2000 ≤ Lk)
    (has : ∀ s y, PY s y → J P n ks ((p, .agg (enc y)) :: (tf ++ St true s)) ag (fun z l' => z = .normal ∧ sub (lB s y) l'))
    (hbd : ∀ s y, PY s y → J P n ks (lB s y) bd (fun z l' => ((z = .normal ∧ cont s y = true) ∨ (z = .ret ∧ cont s y = false)) ∧ sub (St (cont s y) (step s y)) l'))
    (tmps : Array Value) (hts : tmps.size = n) (ρ0 : Nat → Nat) (L dD : Nat) (fn : FuncId) (htv0 : ∀ k f, find tf k = some f → tfV ρ0 f (tmps.getD k undef)) (s : α) (y : β) (hy : PY s y) :
    ConV P (Lk :: ks) (fun bs v => v = .func (.yield L) #[] #[] ∧ bs = L :: ks.map ρ0) [.agg (enc y)] (St true s ++ [(Lk, .ob fun o => o = recB fn tmps #[p] ag bd dD true)]) (.c (.lit (.bool (cont s y)))) (St (cont s y) (step s y) ++ [(Lk, .ob fun o => o = recB fn tmps #[p] ag bd dD (cont s y))]) := by
  intro V ρ tv w args B fv hC hsz htv hrr htt hvB hB
  obtain ⟨hfv, hbs⟩ := hC
  rw [List.map_cons] at hbs
  injection hbs with hρL hρk'
  have hρk : ∀ x, x ∈ ks → ρ x = ρ0 x := fun x hx => List.map_inj_left.1 hρk' x hx
  have hnL : ∀ b s, find (St b s) Lk = none := fun b s => by
    cases h : find (St b s) Lk with
    | none => rfl
    | some f => exact absurd (st_ok (hst b s) h).2.1 hLk
  have hcl : ∀ k f, find (ini [.agg (enc y)] (St true s ++ [(Lk, .ob fun o => o = recB fn tmps #[p] ag bd dD true)])) k = some f → (k = 0 ∧ f = .agg (enc y)) ∨ find (St true s) k = some f ∨ (k = Lk ∧ f = .ob fun o => o = recB fn tmps #[p] ag bd dD true) := by
    intro k f h
    change find ((0, .agg (enc y)) :: (St true s ++ _)) k = some f at h
    rw [find_cons] at h
    by_cases e : 0 = k
    · rw [if_pos e] at h; cases h; exact .inl ⟨e.symm, rfl⟩
    · rw [if_neg e] at h; exact .inr (find_two h)
  have hS : ∀ k f, find (St true s) k = some f → find (ini [.agg (enc y)] (St true s ++ [(Lk, .ob fun o => o = recB fn tmps #[p] ag bd dD true)])) k = some f := fun k f h => by
    change find ((0, .agg (enc y)) :: (St true s ++ _)) k = some f
    rw [find_cons, if_neg (by have := (st_ok (hst _ _) h).1; omega)]
    exact find_two_l h
  have hL0 : find (ini [.agg (enc y)] (St true s ++ [(Lk, .ob fun o => o = recB fn tmps #[p] ag bd dD true)])) Lk = some (.ob fun o => o = recB fn tmps #[p] ag bd dD true) := by
    change find ((0, .agg (enc y)) :: (St true s ++ _)) Lk = _
    rw [find_cons, if_neg (by omega)]
    exact find_two_r (hnL _ _)
  have h00 : find (ini [.agg (enc y)] (St true s ++ [(Lk, .ob fun o => o = recB fn tmps #[p] ag bd dD true)])) 0 = some (.agg (enc y)) := rfl
  generalize hσ : find (ini [.agg (enc y)] (St true s ++ [(Lk, .ob fun o => o = recB fn tmps #[p] ag bd dD true)])) = σ at *
  obtain ⟨oL, hoL, rfl⟩ := hrr.rel Lk _ hL0
  rw [hρL] at hoL
  have hLlt : L < w.heap.size := (Array.getElem?_eq_some_iff.1 hoL).1
  obtain ⟨v0, rfl⟩ : ∃ v0, args = #[v0] := by
    cases args with
    | mk xs =>
      match xs, hsz with
      | [x], _ => exact ⟨x, rfl⟩
  have hv0 : tv 0 = v0 := htv 0 (by simp)
  obtain ⟨us, hus, hlin⟩ : FV (cold V σ ρ tv w) ρ w (.agg (enc y)) (tv 0) := hrr.rel 0 _ h00
  rw [hv0] at hus
  have hyy := run_yield (P := P) (args := #[v0]) (w := w) (l := L) hoL rfl
  refine ⟨L, hfv, fn, _, ag, bd, hyy, roundIn_of_wpIn trivial ?_⟩
  simp only [List.zip_toArray, List.zip_cons_cons, List.zip_nil_right, List.size_toArray, List.length_cons, List.length_nil, List.foldl_toArray', List.foldl_cons, List.foldl_nil]
  -- the state in which a round begins
  let V3 : Addr → Prop := fun q => V q ∨ q.block = L
  let tvA : Nat → Value := fun t => if t < 1000 then (tmps.setIfInBounds p v0).getD t undef else tv t
  let lA : List (Nat × F) := (p, .agg (enc y)) :: (tf ++ St true s)
  have hvolL : ∀ q : Addr, q.block = L → vol σ ρ tv q := fun q hq => ⟨Lk, _, hL0, by rw [hq, ← hρL]; rfl, Nat.zero_le _⟩
  have hkA : ∀ k f, find lA k = some f → (k = p ∧ f = .agg (enc y)) ∨ (k ≠ p ∧ find tf k = some f) ∨ (find (St true s) k = some f) := by
    intro k f h
    change find ((p, .agg (enc y)) :: (tf ++ St true s)) k = some f at h
    rw [find_cons] at h
    by_cases e : p = k
    · rw [if_pos e] at h; cases h; exact .inl ⟨e.symm, rfl⟩
    · rw [if_neg e] at h
      rcases find_append_none h with h1 | ⟨_, h1⟩
      · exact .inr (.inl ⟨fun e2 => e e2.symm, h1⟩)
      · exact .inr (.inr h1)
  have hexA : ∀ k f b, find lA k = some f → ex ρ tvA k f = some b → σ k = some f ∧ ex ρ tv k f = some b ∧ k ∈ ks ∧ b = ρ k := by
    intro k f b hk hb
    rcases hkA k f hk with ⟨_, rfl⟩ | ⟨_, h1⟩ | h1
    · cases hb
    · exact absurd hb (tf_ex htf h1)
    · obtain ⟨_, h3, T, xs, rfl, _⟩ := st_ok (hst _ _) h1
      cases hb
      exact ⟨hS k _ h1, rfl, h3, rfl⟩
  have hneL : ∀ k f b, find lA k = some f → ex ρ tvA k f = some b → b ≠ L := fun k f b hk hb e => by
    obtain ⟨h1, h2, h3, _⟩ := hexA k f b hk hb
    have := hrr.dist k f Lk _ b h1 hL0 h2 (by rw [e, ← hρL]; rfl)
    exact hLk (this ▸ h3)
  have hvolA : ∀ q, vol (find lA) ρ tvA q → vol σ ρ tv q := fun q ⟨k, f, h1, h2, h3⟩ => by
    obtain ⟨h4, h5, _⟩ := hexA k f _ h1 h2
    exact ⟨k, f, h4, h5, h3⟩
  have hcoldA : ∀ q, cold V σ ρ tv w q → cold V3 (find lA) ρ tvA w q := fun q hq =>
    ⟨hq.1, fun h => h.elim hq.2.1 (fun h => hq.2.2 (hvolL q h)), fun h => hq.2.2 (hvolA q h)⟩
  have htA : ∀ t, t < 1000 → tvA t = (tmps.setIfInBounds p v0).getD t undef := fun t ht => if_pos ht
  have hgA : ∀ g, 1000 ≤ g → tvA g = tv g := fun g hg => if_neg (by omega)
  have hput : ∀ t, (tmps.setIfInBounds p v0).getD t undef = if t = p then v0 else tmps.getD t undef := fun t =>
    put_getD { tmps := tmps, defers := [] } p v0 (by simp [hts, hpn]) t
  have hrrA : RR V3 ρ tvA w (find lA) := by
    refine ⟨fun q hq => ?_, fun k f hk => ?_, fun k f k' f' b h1 h2 h3 h4 => ?_, fun k f b h1 h2 => ?_⟩
    · rcases hq with hq | hq
      · exact hrr.vb q hq
      · rw [hq]; exact hLlt
    · rcases hkA k f hk with ⟨rfl, rfl⟩ | ⟨hkp, h1⟩ | h1
      · refine ⟨us, ?_, hlin.mono hcoldA (fun _ _ => rfl)⟩
        rw [htA _ (by omega), hput, if_pos rfl, hus]
      · refine tf_kv htf h1 (ρ0 := ρ0) ?_ hρk
        rw [htA _ (tf_ok htf h1).1, hput, if_neg hkp]
        exact htv0 k f h1
      · obtain ⟨h2, h3, T, xs, rfl, hgh⟩ := st_ok (hst _ _) h1
        exact (hrr.rel k _ (hS k _ h1)).mono hcoldA (fun _ _ => rfl) ⟨rfl, rfl, fun g hg => absurd hg (hgh g)⟩
    · obtain ⟨a1, a2, _⟩ := hexA _ _ _ h1 h3
      obtain ⟨b1, b2, _⟩ := hexA _ _ _ h2 h4
      exact hrr.dist _ _ _ _ _ a1 b1 a2 b2
    · obtain ⟨a1, a2, _⟩ := hexA _ _ _ h1 h2
      obtain ⟨b1, b2⟩ := hrr.exb _ _ _ a1 a2
      exact ⟨b1, fun q hq hV => hV.elim (b2 q hq) (fun h => hneL _ _ _ h1 h2 (by rw [← hq]; exact h))⟩
  let eA : Env := { V := V3, ρ0 := ρ, ins := ks, w0 := w, vol0 := vol (find lA) ρ tvA, n := n, B := B, tt := htt, hv := fun q hq => hvB q (hvolA q hq), hB := hB }
  have hRA : R eA (find lA) { tmps := tmps.setIfInBounds p v0, defers := [] } w :=
    ⟨rfl, by simp [eA, hts], Fr.refl _ _, ρ, tvA, htA, fun _ _ => rfl, fun q hq => .inl hq, hrrA⟩
  refine has s y hy (some L) eA _ rfl rfl ?_ _ _ hRA
  intro z l1 a1 w1 hz1 hR1
  obtain ⟨hz1, hsub1⟩ := hz1
  rw [hz1]
  obtain ⟨hdf1, hsz1, hfr1, ρ1, tv1, htv1, hin1, hvz1, hrr1⟩ := hR1.weak (sub_ok hsub1)
  have hL1 : w1.heap[L]? = some (recB fn tmps #[p] ag bd dD true) := by
    refine (hfr1.block L hLlt (fun q hq hv => ?_)).trans hoL
    obtain ⟨k, f, h1, h2, _⟩ := hv
    exact hneL k f _ h1 h2 hq
  have hVL : ∀ q : Addr, q.block = L → V3 q := fun q hq => .inr hq
  show ∃ w₂, (Instr.beginRound L).run P w1 = .ok () w₂ ∧ bd.wpIn (FR (some L)) 0 P (roundPost P L (conP _ _ _ _ V ρ tv w)) a1 w₂
  refine ⟨_, run_beginRound hL1 rfl, ?_⟩
  generalize hbusy : (Obj.loop _ : Obj) = ob
  have hfr12 : Fr (vol σ ρ tv) w (w1.putObj L ob) := (hfr1.wide (fun q _ hq => hvolA q hq)).trans (Fr.put w1 L ob) (fun q _ hq => hvolL q hq)
  have hBL : B ≤ L := hvB ⟨L, 0, none⟩ (hvolL _ rfl)
  have hBw1 : B ≤ w1.heap.size := Nat.le_trans hB hfr1.size
  have hv1 : ∀ q, vol (find (lB s y)) ρ1 tv1 q → B ≤ q.block := fun q hq => by
    rcases hvz1 q hq with h | h
    · exact hvB q (hvolA q h)
    · exact Nat.le_trans hB h
  let eB : Env := { V := V3, ρ0 := ρ1, ins := ks, w0 := w1.putObj L ob, vol0 := vol (find (lB s y)) ρ1 tv1, n := n, B := B, tt := htt.below (hfr12.belowB (fun q hq => hvB q hq) hB), hv := hv1, hB := by rw [World.putObj_size]; exact hBw1 }
  have hRB : R eB (find (lB s y)) a1 (w1.putObj L ob) := ⟨hdf1, hsz1, Fr.refl _ _, ρ1, tv1, htv1, fun _ _ => rfl, fun q hq => .inl hq, hrr1.putV hVL ob⟩
  refine hbd s y hy (some L) eB _ rfl rfl ?_ _ _ hRB
  intro z l5 a5 w5 hz hR5
  obtain ⟨hz, hsub5⟩ := hz
  obtain ⟨hdf5, hsz5, hfr5, ρ5, tv5, htv5, hin5, hvz5, hrr5⟩ := hR5.weak (sub_ok hsub5)
  have hL5 : w5.heap[L]? = some ob := by
    rw [hfr5.block L (by rw [World.putObj_size]; exact Nat.lt_of_lt_of_le hLlt hfr1.size) (fun q hq ⟨k, f, h1, h2, _⟩ => (hrr1.exb k f _ h1 h2).2 q rfl (hVL q hq))]
    exact World.putObj_heap_same (Nat.lt_of_lt_of_le hLlt hfr1.size)
  have hL5lt : L < w5.heap.size := (Array.getElem?_eq_some_iff.1 hL5).1
  have hρ5 : ∀ x, x ∈ ks → ρ5 x = ρ x := fun x hx => (hin5 x hx).trans (hin1 x hx)
  have hfinal : conP [.agg (enc y)] (St true s ++ [(Lk, .ob fun o => o = recB fn tmps #[p] ag bd dD true)]) (.c (.lit (.bool (cont s y)))) (St (cont s y) (step s y) ++ [(Lk, .ob fun o => o = recB fn tmps #[p] ag bd dD (cont s y))]) V ρ tv w (.returned (.bool (cont s y))) (w5.putObj L (recB fn tmps #[p] ag bd dD (cont s y))) := by
    generalize cont s y = b at hrr5 hvz5 ⊢
    generalize step s y = s' at hrr5 hvz5 ⊢
    have hkF : ∀ k f, find ((0, .c (.lit (.bool b))) :: (St b s' ++ [(Lk, .ob fun o => o = recB fn tmps #[p] ag bd dD b)])) k = some f → (k = 0 ∧ f = .c (.lit (.bool b))) ∨ (k ≠ 0 ∧ find (St b s') k = some f) ∨ (k = Lk ∧ f = .ob fun o => o = recB fn tmps #[p] ag bd dD b) := by
      intro k f h
      rw [find_cons] at h
      by_cases e : 0 = k
      · rw [if_pos e] at h; cases h; exact .inl ⟨e.symm, rfl⟩
      · rw [if_neg e] at h
        rcases find_two h with h1 | h1
        · exact .inr (.inl ⟨fun e2 => e e2.symm, h1⟩)
        · exact .inr (.inr h1)
    let tv' : Nat → Value := fun k => if k = 0 then .bool b else tv5 k
    have hexF : ∀ k f q, find ((0, .c (.lit (.bool b))) :: (St b s' ++ [(Lk, .ob fun o => o = recB fn tmps #[p] ag bd dD b)])) k = some f → ex ρ tv' k f = some q → (find (St b s') k = some f ∧ ex ρ5 tv5 k f = some q ∧ q ≠ L ∧ k ∈ ks) ∨ (k = Lk ∧ q = L) := by
      intro k f q hk hq
      rcases hkF k f hk with ⟨_, rfl⟩ | ⟨_, h1⟩ | ⟨rfl, rfl⟩
      · cases hq
      · obtain ⟨h2, h3, T, xs, rfl, _⟩ := st_ok (hst _ _) h1
        have h4 : ex ρ5 tv5 k (.var T xs) = some q := by
          rw [← hq]; show some (ρ5 k) = some (ρ k); rw [hρ5 k h3]
        exact .inl ⟨h1, h4, fun e => (hrr5.exb k _ q h1 h4).2 ⟨q, 0, none⟩ rfl (hVL _ e), h3⟩
      · cases hq; exact .inr ⟨rfl, hρL⟩
    have hvolF : ∀ q, vol (find ((0, .c (.lit (.bool b))) :: (St b s' ++ [(Lk, .ob fun o => o = recB fn tmps #[p] ag bd dD b)]))) ρ tv' q → vol (find (St b s')) ρ5 tv5 q ∨ q.block = L := by
      rintro q ⟨k, f, h1, h2, h3⟩
      rcases hexF k f _ h1 h2 with ⟨h4, h5, _⟩ | ⟨_, h4⟩
      · exact .inl ⟨k, f, h4, h5, h3⟩
      · exact .inr h4
    have hcoldF : ∀ q, cold V3 (find (St b s')) ρ5 tv5 w5 q → cold V (find ((0, .c (.lit (.bool b))) :: (St b s' ++ [(Lk, .ob fun o => o = recB fn tmps #[p] ag bd dD b)]))) ρ tv' (w5.putObj L (recB fn tmps #[p] ag bd dD b)) q := fun q hq =>
      ⟨by rw [World.putObj_size]; exact hq.1, fun h => hq.2.1 (.inl h), fun h => (hvolF q h).elim hq.2.2 (fun h => hq.2.1 (.inr h))⟩
    have hcellF : ∀ q, cold V3 (find (St b s')) ρ5 tv5 w5 q → (w5.putObj L (recB fn tmps #[p] ag bd dD b)).cell? q = w5.cell? q := fun q hq =>
      (Fr.put w5 L _).cell q hq.1 (fun h => hq.2.1 (.inr h))
    refine ⟨.bool b, tv', rfl, rfl, ?_, ?_, ?_⟩
    · rw [hσ]
      refine ((hfr12.trans hfr5 (fun q hq h => ?_))).trans (Fr.put w5 L _) (fun q _ h => hvolL q h)
      rcases hvz1 q h with h1 | h1
      · exact hvolA q h1
      · exact absurd hq (by show ¬ q.block < w.heap.size; have : w.heap.size ≤ q.block := h1; omega)
    · refine ⟨fun q hq => by rw [World.putObj_size]; exact hrr5.vb q (.inl hq), fun k f hk => ?_, fun k f k' f' q h1 h2 h3 h4 => ?_, fun k f q h1 h2 => ?_⟩
      · rcases hkF k f hk with ⟨rfl, rfl⟩ | ⟨_, h1⟩ | ⟨rfl, rfl⟩
        · exact .lit _ rfl
        · obtain ⟨h2, h3, T, xs, rfl, hgh⟩ := st_ok (hst _ _) h1
          refine (hrr5.rel k _ h1).mono hcoldF hcellF ⟨(hρ5 k h3).symm, ?_, fun g hg => absurd hg (hgh g)⟩
          exact World.putObj_heap_other (fun e => (hrr5.exb k _ _ h1 rfl).2 ⟨ρ5 k, 0, none⟩ rfl (hVL _ e))
        · exact ⟨_, by rw [hρL]; exact World.putObj_heap_same hL5lt, rfl⟩
      · rcases hexF _ _ _ h1 h3 with ⟨a1, a2, a3, _⟩ | ⟨a1, a2⟩ <;> rcases hexF _ _ _ h2 h4 with ⟨b1, b2, b3, _⟩ | ⟨b1, b2⟩
        · exact hrr5.dist _ _ _ _ _ a1 b1 a2 b2
        · exact absurd b2 a3
        · exact absurd a2 b3
        · rw [a1, b1]
      · rw [World.putObj_size]
        rcases hexF _ _ _ h1 h2 with ⟨a1, a2, a3, _⟩ | ⟨a1, a2⟩
        · obtain ⟨b1, b2⟩ := hrr5.exb _ _ _ a1 a2
          exact ⟨b1, fun q' hq' hV => b2 q' hq' (.inl hV)⟩
        · refine ⟨by rw [a2]; exact hL5lt, fun q' hq' hV => ?_⟩
          exact (hrr.exb Lk _ (ρ Lk) hL0 rfl).2 q' (by rw [hq', a2, hρL]) hV
    · intro q hq
      rw [hσ]
      rcases hvolF q hq with h | h
      · rcases hvz5 q h with h1 | h1
        · rcases hvz1 q h1 with h2 | h2
          · exact .inl (hvolA q h2)
          · exact .inr h2
        · refine .inr ?_
          have h3 : (w1.putObj L ob).heap.size ≤ q.block := h1
          rw [World.putObj_size] at h3
          exact Nat.le_trans hfr1.size h3
      · exact .inl (hvolL q h)
  subst hbusy
  rcases hz with ⟨rfl, hc⟩ | ⟨rfl, hc⟩
  · rw [hc] at hfinal ⊢
    exact ⟨.bool true, _, run_endRound none hL5, hfinal⟩
  · rw [hc] at hfinal ⊢
    exact ⟨.bool false, _, run_endRound (some .ret) hL5, hfinal⟩
end

theorem run_enter {P : Program} {f : FuncId} (hc : callOK P f = true) (args : Array Value) (w : World) : (callFunc f args).run P w = .ok (.enter f args) w := by
  unfold callOK at hc
  cases hf : P.funcs[f]? with
  | none => rw [hf] at hc; cases hc
  | some fn =>
    rw [hf] at hc
    simp only [Bool.and_eq_true, Bool.not_eq_true'] at hc
    have hb : fn.body.isNone = false := by
      cases h : fn.body with
      | none => rw [h] at hc; exact absurd hc.2 (by decide)
      | some c => rfl
    have hp : (program).run P w = .ok P w := rfl
    simp only [callFunc, Sem.run_bind, hp, Result.andThen_ok, hf, hc.1, hb, Bool.false_eq_true, if_false, Sem.run_pure]

structure Behind (e : Env) (e2 : Env) (w2 : World) (D : Nat) : Prop where
  ds : e2.ds = [{ target := .collected D, args := #[] }]
  new : e.w0.heap.size ≤ D
  blk : w2.heap[D]? = some (.deferred (some []))
  hid : ∀ q : Addr, q.block = D → e2.V q
  hidV : ∀ q, e.V q → e2.V q
  fr : Fr e.vol0 e.w0 w2
  vol : ∀ q, e2.vol0 q → e.vol0 q ∨ e.w0.heap.size ≤ q.block
  volD : ∀ q, e2.vol0 q → q.block ≠ D
  start : Fr e2.vol0 e2.w0 w2
  old : D < e2.w0.heap.size ∧ e.w0.heap.size ≤ e2.w0.heap.size

section
variable {P : Program} {α β : Type} {n p Lk : Nat} {ks : List Nat} {tf : List (Nat × F)} {St : Bool → α → List (Nat × F)} {enc : β → List D} {cont : α → β → Bool} {step : α → β → α} {ag bd : Code} {lB : α → β → List (Nat × F)} {PY : α → β → Prop}

set_option maxHeartbeats 1000000 in
theorem RE_range (hn : n ≤ 1000) (hpn : p < n) (htf : tfOK ks tf = true) (hst : ∀ b s, stOK ks (St b s) = true) (hLk : Lk ∉ ks) (hLk2 : 2000 ≤ Lk)
    (has : ∀ s y, PY s y → J P n ks ((p, .agg (enc y)) :: (tf ++ St true s)) ag (fun z l' => z = .normal ∧ sub (lB s y) l'))
    (hbd : ∀ s y, PY s y → J P n ks (lB s y) bd (fun z l' => ((z = .normal ∧ cont s y = true) ∨ (z = .ret ∧ cont s y = false)) ∧ sub (St (cont s y) (step s y)) l'))
    {tg gf : Nat} {row : List D} {s0 s1 : α} {ok : Bool} {r0 : F} {l1 : List (Nat × F)} (htg : tg < 1000) (hgf : callOK P gf = true)
    (hit : ∀ (C : List Nat → Value → Prop) (rec : Bool → Obj → Prop), (∀ s y, PY s y → ConV P (Lk :: ks) C [.agg (enc y)] (St true s ++ [(Lk, .ob (rec true))]) (.c (.lit (.bool (cont s y)))) (St (cont s y) (step s y) ++ [(Lk, .ob (rec (cont s y)))])) →
      Con P gf [.rel (Lk :: ks) C, .el row 0] (St true s0 ++ [(Lk, .ob (rec true))]) r0 (St ok s1 ++ [(Lk, .ob (rec ok))]))
    {e : Env} {a : Act} {w : World} {Q : Exit → Act → World → Prop} (hen : e.n = n) (hds : e.ds = []) (hR : R e (find l1) a w) (hsub : sub ((tg, .clo gf row) :: (tf ++ St true s0)) l1) (htgt : find tf tg = none)
    (hQ : ∀ (z : Exit) (e2 : Env) (a2 : Act) (w2 : World) (D : Nat), ((z = .normal ∧ ok = true) ∨ (z = .ret ∧ ok = false)) → e2.n = n → e2.ins = ks → R e2 (find (tf ++ St ok s1)) a2 w2 → Behind e e2 w2 D → Q z a2 w2) :
    (Code.rangeFunc (.tmp tg) #[p] ag bd).wpIn (FR none) 0 P Q a w := by
  refine wpIn_rangeFunc (F := FR none) ?_
  intro fn _
  obtain ⟨hdf, hsz, hfr, ρ, tv, htv, hin, hvz, hrr⟩ := hR.weak (sub_ok hsub)
  have hnL : ∀ b s, find (St b s) Lk = none := fun b s => by
    cases h : find (St b s) Lk with
    | none => rfl
    | some f => exact absurd (st_ok (hst b s) h).2.1 hLk
  have htg2 : ∀ k f, find (tf ++ St true s0) k = some f → k ≠ tg := fun k f h e2 => by
    subst e2
    rcases find_append_none h with h1 | ⟨_, h1⟩
    · rw [htgt] at h1; cases h1
    · have := (st_ok (hst _ _) h1).1; omega
  have hl : ∀ k f, find (tf ++ St true s0) k = some f → find ((tg, F.clo gf row) :: (tf ++ St true s0)) k = some f := fun k f h => by
    rw [find_cons, if_neg (fun e2 => htg2 k f h e2.symm)]; exact h
  have hSt0 : ∀ k f, find (St true s0) k = some f → find ((tg, F.clo gf row) :: (tf ++ St true s0)) k = some f := fun k f h => by
    refine hl k f ?_
    rw [find_append]
    cases h1 : find tf k with
    | none => exact h
    | some g => have := (tf_ok htf h1).1; have := (st_ok (hst _ _) h).1; omega
  have hclo : FV (cold e.V (find ((tg, F.clo gf row) :: (tf ++ St true s0))) ρ tv w) ρ w (.clo gf row) (tv tg) := hrr.rel tg (.clo gf row) (by rw [find_cons, if_pos rfl])
  obtain ⟨pa, hpa, hrow⟩ := hclo
  have hev : a.eval (.tmp tg) = .func (.func gf) #[] #[.pointer (some pa)] := (htv tg htg).symm.trans hpa
  let D := w.heap.size
  let L := w.heap.size + 1
  let rec0 : Obj := recB fn a.tmps #[p] ag bd D true
  let W1 : World := (w.alloc (.deferred (some []))).alloc rec0
  have hW1s : W1.heap.size = w.heap.size + 2 := by simp [W1]
  have hbel : Below w.heap.size w W1 := ((Below.refl _ w).alloc (Nat.le_refl _) _).alloc (by simp) _
  have hL1 : W1.heap[L]? = some rec0 := by
    have := World.alloc_heap_new (w.alloc (.deferred (some []))) rec0
    rwa [World.size_alloc] at this
  have hD1 : W1.heap[D]? = some (.deferred (some [])) := (Below.heap_alloc _ _ _ (by simp [D])).trans (World.alloc_heap_new w _)
  refine ⟨L, [{ target := .collected D, args := #[] }], W1, { target := .fn (.func gf) #[.pointer (some pa)], args := #[.func (.yield L) #[] #[]] }, W1, gf, #[.func (.yield L) #[] #[]] ++ #[.pointer (some pa)], W1,
    run_enterLoop_outer _ _ _ _ _, ?_, fun _ _ => trivial, ?_, fun h => (by cases h), callsIn_wide.2 ?_⟩
  · simp only [resolve, hev]
    simp [go_sem]
  · simp [invoke, go_sem, run_enter hgf]
  let C : List Nat → Value → Prop := fun bs v => v = .func (.yield L) #[] #[] ∧ bs = L :: ks.map ρ
  let rc : Bool → Obj → Prop := fun b o => o = recB fn a.tmps #[p] ag bd D b
  have hats : a.tmps.size = n := hsz.trans hen
  have htv0 : ∀ k f, find tf k = some f → tfV ρ f (a.tmps.getD k undef) := fun k f h => by
    have h1 := kv_tf htf h (hrr.rel k f (hl k _ (by rw [find_append, h])))
    rw [← htv k (tf_ok htf h).1]
    exact h1
  have hcon := hit C rc (fun s y hy => round_con hn hpn htf hst hLk hLk2 has hbd a.tmps hats ρ L D fn htv0 s y hy)
  let V' : Addr → Prop := fun q => e.V q ∨ q.block = D
  let ρ' : Nat → Nat := fun k => if k = Lk then L else ρ k
  let tvc : Nat → Value := fun k => if k = 0 then .func (.yield L) #[] #[] else if k = 1 then .pointer (some pa) else tv k
  have hρ'L : ρ' Lk = L := if_pos rfl
  have hρ' : ∀ x, x ∈ ks → ρ' x = ρ x := fun x hx => if_neg (fun (e2 : x = Lk) => hLk (by rw [← e2]; exact hx))
  have hkc : ∀ k f, find (ini [.rel (Lk :: ks) C, .el row 0] (St true s0 ++ [(Lk, .ob (rc true))])) k = some f → (k = 0 ∧ f = .rel (Lk :: ks) C) ∨ (k = 1 ∧ f = .el row 0) ∨ find (St true s0) k = some f ∨ (k = Lk ∧ f = .ob (rc true)) := by
    intro k f h
    change find ((0, .rel (Lk :: ks) C) :: (1, .el row 0) :: (St true s0 ++ _)) k = some f at h
    rw [find_cons] at h
    by_cases e0 : 0 = k
    · rw [if_pos e0] at h; cases h; exact .inl ⟨e0.symm, rfl⟩
    · rw [if_neg e0, find_cons] at h
      by_cases e1 : 1 = k
      · rw [if_pos e1] at h; cases h; exact .inr (.inl ⟨e1.symm, rfl⟩)
      · rw [if_neg e1] at h; exact .inr (.inr (find_two h))
  have hexc : ∀ k f b, find (ini [.rel (Lk :: ks) C, .el row 0] (St true s0 ++ [(Lk, .ob (rc true))])) k = some f → ex ρ' tvc k f = some b → (find ((tg, F.clo gf row) :: (tf ++ St true s0)) k = some f ∧ ex ρ tv k f = some b ∧ b < w.heap.size) ∨ (k = Lk ∧ b = L) := by
    intro k f b hk hb
    rcases hkc k f hk with ⟨_, rfl⟩ | ⟨_, rfl⟩ | h1 | ⟨rfl, rfl⟩
    · cases hb
    · cases hb
    · obtain ⟨h2, h3, T, xs, rfl, _⟩ := st_ok (hst _ _) h1
      have h4 : ex ρ tv k (.var T xs) = some b := by rw [← hb]; show some (ρ k) = some (ρ' k); rw [hρ' k h3]
      exact .inl ⟨hSt0 k _ h1, h4, (hrr.exb k _ b (hSt0 k _ h1) h4).1⟩
    · cases hb; exact .inr ⟨rfl, hρ'L⟩
  have hvolc : ∀ q, vol (find (ini [.rel (Lk :: ks) C, .el row 0] (St true s0 ++ [(Lk, .ob (rc true))]))) ρ' tvc q → (vol (find ((tg, F.clo gf row) :: (tf ++ St true s0))) ρ tv q ∧ q.block < w.heap.size) ∨ q.block = L := by
    rintro q ⟨k, f, h1, h2, h3⟩
    rcases hexc k f _ h1 h2 with ⟨h4, h5, h6⟩ | ⟨_, h4⟩
    · exact .inl ⟨⟨k, f, h4, h5, h3⟩, h6⟩
    · exact .inr h4
  have hcoldc : ∀ q, cold e.V (find ((tg, F.clo gf row) :: (tf ++ St true s0))) ρ tv w q → cold V' (find (ini [.rel (Lk :: ks) C, .el row 0] (St true s0 ++ [(Lk, .ob (rc true))]))) ρ' tvc W1 q := fun q hq =>
    ⟨by rw [hW1s]; have := hq.1; omega, fun h => h.elim hq.2.1 (fun h => by have := hq.1; have h' : q.block = w.heap.size := h; omega), fun h => (hvolc q h).elim (fun h => hq.2.2 h.1) (fun h => by have := hq.1; have h' : q.block = w.heap.size + 1 := h; omega)⟩
  have hcell1 : ∀ q, cold e.V (find ((tg, F.clo gf row) :: (tf ++ St true s0))) ρ tv w q → W1.cell? q = w.cell? q := fun q hq => hbel.cell hq.1
  have hrr1 : RR V' ρ' tvc W1 (find (ini [.rel (Lk :: ks) C, .el row 0] (St true s0 ++ [(Lk, .ob (rc true))]))) := by
    refine ⟨fun q hq => ?_, fun k f hk => ?_, fun k f k' f' b h1 h2 h3 h4 => ?_, fun k f b h1 h2 => ?_⟩
    · rw [hW1s]
      rcases hq with hq | hq
      · have := hrr.vb q hq; omega
      · have h' : q.block = w.heap.size := hq; omega
    · rcases hkc k f hk with ⟨rfl, rfl⟩ | ⟨rfl, rfl⟩ | h1 | ⟨rfl, rfl⟩
      · refine ⟨rfl, ?_⟩
        rw [List.map_cons, hρ'L, List.map_congr_left hρ']
      · refine ⟨pa, rfl, fun j d hd => ?_⟩
        obtain ⟨h2, u, h3, h4⟩ := hrow j d hd
        exact ⟨hcoldc _ h2, u, (hcell1 _ h2).trans h3, h4.mono hcoldc hcell1⟩
      · obtain ⟨h2, h3, T, xs, rfl, hgh⟩ := st_ok (hst _ _) h1
        exact (hrr.rel k _ (hSt0 k _ h1)).mono hcoldc hcell1 ⟨hρ' k h3, hbel.block _ (hrr.exb k _ _ (hSt0 k _ h1) rfl).1, fun g hg => absurd hg (hgh g)⟩
      · exact ⟨rec0, by rw [hρ'L]; exact hL1, rfl⟩
    · rcases hexc _ _ _ h1 h3 with ⟨a1, a2, a3⟩ | ⟨a1, a2⟩ <;> rcases hexc _ _ _ h2 h4 with ⟨b1, b2, b3⟩ | ⟨b1, b2⟩
      · exact hrr.dist _ _ _ _ _ a1 b1 a2 b2
      · have h' : b = w.heap.size + 1 := b2; omega
      · have h' : b = w.heap.size + 1 := a2; omega
      · rw [a1, b1]
    · rw [hW1s]
      rcases hexc _ _ _ h1 h2 with ⟨a1, a2, a3⟩ | ⟨a1, a2⟩
      · refine ⟨by omega, fun q hq hV => hV.elim ((hrr.exb _ _ _ a1 a2).2 q hq) (fun h => ?_)⟩
        have h' : q.block = w.heap.size := h; omega
      · have h' : b = w.heap.size + 1 := a2
        refine ⟨by omega, fun q hq hV => hV.elim (fun h => ?_) (fun h => ?_)⟩
        · have := hrr.vb q h; omega
        · have h2' : q.block = w.heap.size := h; omega
  have hBw : e.B ≤ w.heap.size := Nat.le_trans e.hB hfr.size
  have hvB : ∀ q, vol (find ((tg, F.clo gf row) :: (tf ++ St true s0))) ρ tv q → e.B ≤ q.block := fun q hq => (hvz q hq).elim (e.hv q) (fun h => Nat.le_trans e.hB h)
  refine (hcon V' ρ' tvc W1 _ e.B rfl (fun i hi => ?_) hrr1 (e.tt.below (((hfr.belowB e.hv e.hB)).trans (hbel.mono hBw))) (fun q hq => (hvolc q hq).elim (fun h => hvB q h.1) (fun h => by have h' : q.block = w.heap.size + 1 := h; omega)) (by rw [hW1s]; omega)).mono ?_
  · match i, hi with
    | 0, _ => rfl
    | 1, _ => rfl
    | i + 2, hi => exact absurd hi (by simp)
  rintro e' w3 ⟨v, tv3, rfl, _, hFr3, hrr3, hvz3⟩
  have hS3 : ∀ k f, find (St ok s1) k = some f → find ((0, r0) :: (St ok s1 ++ [(Lk, .ob (rc ok))])) k = some f := fun k f h => by
    rw [find_cons, if_neg (by have := (st_ok (hst _ _) h).1; omega)]
    exact find_two_l h
  have hLk3 : find ((0, r0) :: (St ok s1 ++ [(Lk, .ob (rc ok))])) Lk = some (.ob (rc ok)) := by
    rw [find_cons, if_neg (by omega)]
    exact find_two_r (hnL _ _)
  obtain ⟨oL, hoL, hoL2⟩ := hrr3.rel Lk _ hLk3
  have hoL2' : oL = recB fn a.tmps #[p] ag bd D ok := hoL2
  subst hoL2'
  rw [hρ'L] at hoL
  have hLlt : L < w3.heap.size := (Array.getElem?_eq_some_iff.1 hoL).1
  have hend := run_endLoop (P := P) hoL (by cases ok <;> simp)
  refine ⟨_, _, hend, ?_⟩
  generalize (Obj.loop _ : Obj) = ob
  have hD3 : w3.heap[D]? = some (.deferred (some [])) := by
    refine (hFr3.block D (by rw [hW1s]; show w.heap.size < _; omega) (fun q hq hv => ?_)).trans hD1
    obtain ⟨k, f, h1, h2, _⟩ := hv
    exact (hrr1.exb k f _ h1 h2).2 q rfl (.inr hq)
  have hDL : D ≠ L := by show w.heap.size ≠ w.heap.size + 1; omega
  have hs3 : w.heap.size + 2 ≤ w3.heap.size := by rw [← hW1s]; exact hFr3.size
  have hFrE : Fr e.vol0 e.w0 (w3.putObj L ob) := by
    refine ((hfr.trans (Fr.of_below (v0 := fun _ => False) hbel) (fun _ _ h => h.elim)).trans hFr3 (fun q hq h => ?_)).trans (Fr.put w3 L ob) (fun q hq h => ?_)
    · rcases hvolc q h with ⟨h1, _⟩ | h1
      · rcases hvz q h1 with h2 | h2
        · exact h2
        · omega
      · have h' : q.block = w.heap.size + 1 := h1; have := hfr.size; omega
    · have h' : q.block = w.heap.size + 1 := h; have := hfr.size; omega
  let tvE : Nat → Value := fun t => if t < 1000 then a.tmps.getD t undef else tv3 t
  have hkE : ∀ k f, find (tf ++ St ok s1) k = some f → find tf k = some f ∨ find (St ok s1) k = some f := fun k f h => (find_append_none h).imp id (·.2)
  have hexE : ∀ k f b, find (tf ++ St ok s1) k = some f → ex ρ' tvE k f = some b → find ((0, r0) :: (St ok s1 ++ [(Lk, .ob (rc ok))])) k = some f ∧ ex ρ' tv3 k f = some b ∧ b ≠ L := by
    intro k f b hk hb
    rcases hkE k f hk with h1 | h1
    · exact absurd hb (tf_ex htf h1)
    · obtain ⟨h2, h3, T, xs, rfl, _⟩ := st_ok (hst _ _) h1
      refine ⟨hS3 k _ h1, hb, fun e2 => ?_⟩
      have := hrr3.dist k _ Lk _ b (hS3 k _ h1) hLk3 hb (by rw [e2, ← hρ'L]; rfl)
      exact hLk (this ▸ h3)
  have hvolE : ∀ q, vol (find (tf ++ St ok s1)) ρ' tvE q → vol (find ((0, r0) :: (St ok s1 ++ [(Lk, .ob (rc ok))]))) ρ' tv3 q ∧ q.block ≠ L := by
    rintro q ⟨k, f, h1, h2, h3⟩
    obtain ⟨h4, h5, h6⟩ := hexE k f _ h1 h2
    exact ⟨⟨k, f, h4, h5, h3⟩, h6⟩
  let V2 : Addr → Prop := fun q => V' q ∨ q.block = L
  have hcoldE : ∀ q, cold V' (find ((0, r0) :: (St ok s1 ++ [(Lk, .ob (rc ok))]))) ρ' tv3 w3 q → q.block ≠ L ∧ cold V2 (find (tf ++ St ok s1)) ρ' tvE (w3.putObj L ob) q := fun q hq => by
    have h1 : q.block ≠ L := fun h => hq.2.2 ⟨Lk, _, hLk3, by rw [h, ← hρ'L]; rfl, Nat.zero_le _⟩
    exact ⟨h1, by rw [World.putObj_size]; exact hq.1, fun h => h.elim hq.2.1 h1, fun h => hq.2.2 (hvolE q h).1⟩
  have hcellE : ∀ q, cold V' (find ((0, r0) :: (St ok s1 ++ [(Lk, .ob (rc ok))]))) ρ' tv3 w3 q → (w3.putObj L ob).cell? q = w3.cell? q := fun q hq => (Fr.put w3 L ob).cell q hq.1 (hcoldE q hq).1
  have hrrE : RR V2 ρ' tvE (w3.putObj L ob) (find (tf ++ St ok s1)) := by
    refine ⟨fun q hq => ?_, fun k f hk => ?_, fun k f k' f' b h1 h2 h3 h4 => ?_, fun k f b h1 h2 => ?_⟩
    · rw [World.putObj_size]
      rcases hq with hq | hq
      · exact hrr3.vb q hq
      · rw [hq]; exact hLlt
    · rcases hkE k f hk with h1 | h1
      · refine tf_kv htf h1 (ρ0 := ρ) ?_ hρ'
        show tfV ρ f (if k < 1000 then _ else _)
        rw [if_pos (tf_ok htf h1).1]
        exact htv0 k f h1
      · obtain ⟨h2, h3, T, xs, rfl, hgh⟩ := st_ok (hst _ _) h1
        refine (hrr3.rel k _ (hS3 k _ h1)).mono (fun q hq => (hcoldE q hq).2) hcellE ⟨rfl, ?_, fun g hg => absurd hg (hgh g)⟩
        exact World.putObj_heap_other (hexE k _ _ hk rfl).2.2
    · obtain ⟨a1, a2, _⟩ := hexE _ _ _ h1 h3
      obtain ⟨b1, b2, _⟩ := hexE _ _ _ h2 h4
      exact hrr3.dist _ _ _ _ _ a1 b1 a2 b2
    · obtain ⟨a1, a2, a3⟩ := hexE _ _ _ h1 h2
      obtain ⟨b1, b2⟩ := hrr3.exb _ _ _ a1 a2
      exact ⟨by rw [World.putObj_size]; exact b1, fun q hq hV => hV.elim (b2 q hq) (fun h => a3 (by rw [← hq]; exact h))⟩
  have hvE : ∀ q, vol (find (tf ++ St ok s1)) ρ' tvE q → e.vol0 q ∨ e.w0.heap.size ≤ q.block := fun q hq => by
    rcases hvz3 q (hvolE q hq).1 with h | h
    · rcases hvolc q h with ⟨h1, _⟩ | h1
      · exact hvz q h1
      · have h' : q.block = w.heap.size + 1 := h1; have := hfr.size; exact .inr (by omega)
    · rw [hW1s] at h; have := hfr.size; exact .inr (by omega)
  have hvE2 : ∀ q, vol (find (tf ++ St ok s1)) ρ' tvE q → q.block ≠ D := fun q hq hD => by
    obtain ⟨k, f, h1, h2, _⟩ := hq
    exact (hrrE.exb k f _ h1 h2).2 q rfl (.inl (.inr hD))
  let e2 : Env := { V := V2, ρ0 := ρ', ins := ks, w0 := w3.putObj L ob, vol0 := vol (find (tf ++ St ok s1)) ρ' tvE, n := n, B := e.B, tt := e.tt.below (hFrE.belowB e.hv e.hB), hv := fun q hq => (hvE q hq).elim (e.hv q) (fun h => Nat.le_trans e.hB h), hB := Nat.le_trans e.hB hFrE.size, ds := [{ target := .collected D, args := #[] }] }
  have hbehind : Behind e e2 (w3.putObj L ob) D := ⟨rfl, hfr.size, (World.putObj_heap_other hDL).trans hD3, fun q hq => .inl (.inr hq), fun q hq => .inl (.inl hq), hFrE, hvE, hvE2, Fr.refl _ _, by show w.heap.size < _; rw [World.putObj_size]; omega, hFrE.size⟩
  have hR2 : R e2 (find (tf ++ St ok s1)) { a with defers := [{ target := .collected D, args := #[] }] ++ a.defers } (w3.putObj L ob) :=
    ⟨by show _ ++ a.defers = _; rw [hdf, hds]; rfl, hats, Fr.refl _ _, ρ', tvE, fun t ht => if_pos ht, fun _ _ => rfl, fun q hq => .inl hq, hrrE⟩
  cases ok with
  | true => exact hQ .normal e2 _ _ D (.inl ⟨rfl, rfl⟩) rfl rfl hR2 hbehind
  | false => exact wpIn_ret (hQ .ret e2 _ _ D (.inr ⟨rfl, rfl⟩) rfl rfl hR2 hbehind)
end

def FinM (P : Program) (rs : List ResultVar) (r : D) (e : Env) (z : Exit) (a2 : Act) (w2 : World) : Prop :=
  (z = .ret ∨ z = .normal) ∧ ∃ e2 l2 D, R e2 (find l2) a2 w2 ∧ resF P l2 rs = some (.c r) ∧ Behind e e2 w2 D
theorem FinM.tail {P : Program} {rs : List ResultVar} {r : D} {e e2 : Env} {l : List (Nat × F)} {a : Act} {w : World} {D n : Nat} {ks : List Nat} {c : Code} {Q : Exit → Act → World → Prop} (hn : e2.n = n) (hi : e2.ins = ks) (hR : R e2 (find l) a w) (hB : Behind e e2 w D)
    (hJ : J P n ks l c (fun z l' => (z = .ret ∨ z = .normal) ∧ resF P l' rs = some (.c r))) (hQ : ∀ z a2 w2, FinM P rs r e z a2 w2 → Q z a2 w2) : c.wpIn (FR none) 0 P Q a w := by
  refine hJ none e2 Q hn hi (fun z l' a' w' hz hR' => hQ z a' w' ⟨hz.1, e2, l', D, hR', hz.2, ?_⟩) a w hR
  have hf := hR'.fr
  have hf0 := hR.fr
  refine ⟨hB.ds, hB.new, ?_, hB.hid, hB.hidV, ?_, hB.vol, hB.volD, hf, hB.old⟩
  · have h1 : w'.heap[D]? = e2.w0.heap[D]? := hf.block D hB.old.1 (fun q hq h => hB.volD q h hq)
    have h2 : w.heap[D]? = e2.w0.heap[D]? := hf0.block D hB.old.1 (fun q hq h => hB.volD q h hq)
    rw [h1, ← h2]; exact hB.blk
  · have hs := hB.old.2
    have hcell : ∀ q : Addr, q.block < e.w0.heap.size → ¬ e.vol0 q → ¬ e2.vol0 q := fun q hq hn h => (hB.vol q h).elim hn (fun h => by omega)
    refine ⟨hf.os.trans (hf0.os.symm.trans hB.fr.os), hf.tape.trans (hf0.tape.symm.trans hB.fr.tape), hf.output.trans (hf0.output.symm.trans hB.fr.output), Nat.le_trans hs hf.size, fun q hq hn => ?_, fun k hk hn => ?_⟩
    · exact (hf.cell q (by omega) (hcell q hq hn)).trans ((hf0.cell q (by omega) (hcell q hq hn)).symm.trans (hB.fr.cell q hq hn))
    · have h1 : ∀ q : Addr, q.block = k → ¬ e2.vol0 q := fun q hq h => hcell q (by omega) (hn q hq) h
      exact (hf.block k (by omega) h1).trans ((hf0.block k (by omega) h1).symm.trans (hB.fr.block k hk hn))

theorem con_range {P : Program} {f : FuncId} {fn : Func} {c : Code} {fs : List F} {x : ResultVar} {v0 : Value} (hf : P.funcs[f]? = some fn) (hb : fn.body = some c) (hn : (Nat.ble fs.length fn.ntmps && Nat.ble fn.ntmps 1000) = true) (hx : fn.results.toList = [x]) (hxc : ∃ y T, x = .cell y T)
    (hJ : ∀ (e : Env) (a : Act) (w : World) (Q : Exit → Act → World → Prop), e.n = fn.ntmps → e.ins = [] → e.ds = [] → R e (find (ini fs [])) a w → (∀ z a2 w2, FinM P [x] (.lit v0) e z a2 w2 → Q z a2 w2) → c.wpIn (FR none) 0 P Q a w) :
    Con P f fs [] (.c (.lit v0)) [] := by
  intro V ρ tv w args B hsz htv hrr htt hBv hBw
  rw [Bool.and_eq_true] at hn
  have hn1 := Nat.le_of_ble_eq_true hn.1
  have hn2 := Nat.le_of_ble_eq_true hn.2
  let tmps : Array Value := args ++ Array.replicate (fn.ntmps - args.size) undef
  let tv1 : Nat → Value := fun k => if k < 1000 then tmps.getD k undef else tv k
  have htmps : tmps.size = fn.ntmps := by simp [tmps]; omega
  have hkeys : ∀ k g, find (ini fs []) k = some g → k < fs.length := by
    intro k g hk
    unfold ini at hk
    rw [List.append_nil, find_nums] at hk
    simp only [Nat.zero_le, if_true, Nat.sub_zero] at hk
    rcases Nat.lt_or_ge k fs.length with h1 | h1
    · exact h1
    · rw [List.getElem?_eq_none h1] at hk; cases hk
  have htv1 : ∀ k g, find (ini fs []) k = some g → tv1 k = tv k := by
    intro k g hk
    have h1 := hkeys k g hk
    show (if k < 1000 then _ else _) = _
    rw [if_pos (by omega), htv k (by omega)]
    simp only [tmps, Array.getD_eq_getD_getElem?]
    rw [Array.getElem?_append_left (by omega)]
  have hg1 : ∀ g, 1000 ≤ g → tv1 g = tv g := fun g hg => by show (if g < 1000 then _ else _) = _; rw [if_neg (by omega)]
  have hex1 : ∀ k g, find (ini fs []) k = some g → ex ρ tv1 k g = ex ρ tv k g := fun k g hk => by
    cases g <;> simp only [ex, htv1 k _ hk]
  have hvol1 : ∀ p, vol (find (ini fs [])) ρ tv1 p ↔ vol (find (ini fs [])) ρ tv p := fun p =>
    ⟨fun ⟨k, g, h1, h2, h3⟩ => ⟨k, g, h1, by rw [← hex1 k g h1]; exact h2, h3⟩, fun ⟨k, g, h1, h2, h3⟩ => ⟨k, g, h1, by rw [hex1 k g h1]; exact h2, h3⟩⟩
  have hrr1 : RR V ρ tv1 w (find (ini fs [])) := hrr.to (Nat.le_refl _) (fun p hp => ⟨fun e => hp.2.2 ((hvol1 p).1 e), rfl⟩)
    (fun k g hk => .inl ⟨hk, hrr.same hk (htv1 k g hk) hg1 (fun _ _ _ => rfl) (fun _ _ _ => rfl) (fun _ _ => rfl)⟩)
    (fun k g k' g' b h1 h2 h3 h4 => hrr.dist k g k' g' b h1 h2 (by rw [← hex1 k g h1]; exact h3) (by rw [← hex1 k' g' h2]; exact h4)) (fun k g b h1 h2 => hrr.exb k g b h1 (by rw [← hex1 k g h1]; exact h2))
  let e : Env := { V := V, ρ0 := ρ, ins := [], w0 := w, vol0 := vol (find (ini fs [])) ρ tv, n := fn.ntmps, B := B, tt := htt, hv := hBv, hB := hBw }
  refine callsIn_wide.1 (callsIn_of_wp_marks (n := 0) (F := FR none) hf hb trivial (hJ e _ w _ rfl rfl rfl ⟨rfl, htmps, Fr.refl _ _, ρ, tv1, fun t ht => by show (if t < 1000 then _ else _) = _; rw [if_pos ht], fun _ _ => rfl, fun p hp => .inl ((hvol1 p).1 hp), hrr1⟩ ?_) rfl)
  rintro z a2 w2 ⟨hz, e2, l2, D, hR2, hres, hB⟩
  obtain ⟨hdf2, hsz2, hfr2, ρ2, tv2, htv2, hin2, hvz2, hrr2⟩ := hR2
  have hrrD := hrr2.putV hB.hid (.deferred none)
  have hlast : LeavesInM (FR none) 0 P fn a2.tmps (fun e' w' => ∃ v tv', e' = .returned v ∧ tv' 0 = v ∧ Fr (vol (find (ini fs [])) ρ tv) w w' ∧ RR V ρ tv' w' (find [(0, .c (.lit v0))]) ∧ ∀ p, vol (find [(0, .c (.lit v0))]) ρ tv' p → vol (find (ini fs [])) ρ tv p ∨ w.heap.size ≤ p.block) a2.defers .returning w2 := by
    rw [hdf2, hB.ds]
    refine ⟨by simp, .inl ⟨D, _, rfl, run_takeDeferred hB.blk, ?_⟩⟩
    obtain ⟨y, T, rfl⟩ := hxc
    have hres' : resE P l2 (.cell y T) = some (.c (.lit v0)) := by
      have h1 : (resE P l2 (.cell y T)).map (fun | .c d => F.c d | .agg ds => F.agg ds) = some (.c (.lit v0)) := hres
      rw [Option.map_eq_some_iff] at h1
      obtain ⟨ee, h2, h3⟩ := h1
      cases ee with
      | c d => cases h3; exact h2
      | agg ds => cases h3
    obtain ⟨v, h3, h4⟩ := resE_ok hres' htv2 hrrD
    have hv : v = v0 := by
      have h5 : DIn _ _ (.lit v0) v := h4
      cases h5; rfl
    have hone : v0.oneCell' = true := by
      have h5 : DIn _ _ (.lit v0) v := h4
      rw [← hv]; exact h5.one
    refine ⟨v, ?_, v, fun _ => v, rfl, rfl, ?_, ?_, ?_⟩
    · rw [results_eq, Sem.run_bind, Array.mapM_eq_mapM_toList]
      change (Sem.run P (List.mapM _ fn.results.toList >>= fun a => pure a.toArray) _).andThen _ = _
      rw [hx, Sem.run_bind, List.mapM_cons, Sem.run_bind, h3]
      rfl
    · refine hB.fr.trans (Fr.put w2 D (.deferred none)) (fun q hq h => ?_)
      have h1 : w.heap.size ≤ D := hB.new
      have h2 : q.block = D := h
      have h3 : q.block < w.heap.size := hq
      omega
    · have hk : ∀ k g, find [(0, F.c (.lit v0))] k = some g → g = .c (.lit v0) := fun k g h => by
        rw [find_cons] at h
        by_cases e0 : 0 = k
        · rw [if_pos e0] at h; cases h; rfl
        · rw [if_neg e0] at h; cases h
      refine ⟨fun q hq => ?_, fun k g h => ?_, fun k g k' g' b h1 _ h3 _ => ?_, fun k g b h1 h2 => ?_⟩
      · rw [World.putObj_size]; exact Nat.lt_of_lt_of_le (hrr.vb q hq) hB.fr.size
      · rw [hk k g h]
        show DIn _ _ (.lit v0) v
        rw [hv]; exact .lit _ hone
      · rw [hk k g h1] at h3; cases h3
      · rw [hk k g h1] at h2; cases h2
    · rintro q ⟨k, g, h1, h2, _⟩
      rw [find_cons] at h1
      by_cases e0 : 0 = k
      · rw [if_pos e0] at h1; cases h1; cases h2
      · rw [if_neg e0] at h1; cases h1
  rcases hz with rfl | rfl
  · exact hlast
  · exact hlast

end Go.Proofs.YtlagglkpbnbmeaaGreatDoor
