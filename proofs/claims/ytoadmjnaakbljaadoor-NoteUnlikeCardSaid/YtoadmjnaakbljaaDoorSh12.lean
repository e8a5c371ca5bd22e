/- Shadows: rows that go into variables and out of them; what follows from what; the other operations. -/
import Derived.Test.YtoadmjnaakbljaaDoorSh11
namespace Go.Proofs.YtoadmjnaakbljaaDoor
set_option linter.unusedVariables false
open Go Go.RowKit

/-! rows of the call's own in the cells of variables -/
section
variable {P : Program} {o : Oper} {l : List (Nat × F)} {d : Nat}
theorem r_loadOwn {T T0 e : TypeId} {x : Operand} {y n g sz : Nat} {xs : List C} {els : List (List D)} (ho : o.op = .load T x) (hd : o.dst = some d) (hT : plainT P T = true) (hx : opd l x = some (.ptr y n)) (hy : find l y = some (.var T0 xs)) (hu : xs[n]? = some (.gh g)) (hg : find l g = some (.own e sz els)) :
    Does P o (rdOf x ++ [y, g]) [] l [(d, .own e sz els), (g, .non)] := by
  intro en σ a w next Q hnn hdn hσ _ hR hnext
  obtain ⟨hdf, hsz, hfr, ρ, tv, htv, hin, hvz, hrr⟩ := hR
  have hview := view_of hσ htv hrr
  have h1 : a.eval x = .pointer (some ⟨ρ y, n, none⟩) := hview.fv hx (fun _ h => List.mem_append_left _ h) (by intro T xs e; cases e)
  obtain ⟨vs, h2, h3⟩ := hview.vr y _ _ hy (List.mem_append_right _ (by simp))
  obtain ⟨v, h4, h5⟩ := h3.get n _ hu
  have hv : v = tv g := h5.1.1
  have hσg : σ g = some (.own e sz els) := by rw [hσ g (List.mem_append_right _ (by simp))]; exact hg
  have hrun : (execOp a.eval o).run P w = .ok (.value (tv g)) w := by
    simp only [execOp, ho, h1, Sem.run_bind, run_load_plain hT ((row_cell h2 n).trans h4)]
    rw [hv]; rfl
  unfold Oper.wp
  rw [hrun, Oper.upon_value, hd]
  exact hnext _ _ (R.own (w := w) hdf hsz hfr htv hin hvz hfr.size (hdn d hd) hnn (hrr.moveOwn (Nat.lt_of_lt_of_le (hdn d hd) hnn) hσg))
def noGh (g : Nat) (xs : List C) : Bool := xs.all fun | .gh h => !Nat.beq g h | _ => true
theorem noGh_ok {g : Nat} {xs : List C} (h : noGh g xs = true) : C.gh g ∉ xs := by
  intro hm
  unfold noGh at h
  rw [List.all_eq_true] at h
  have := h _ hm
  simp [Nat.beq_refl] at this
theorem refB_gh {g : Nat} {T : TypeId} {xs : List C} (h : refB g (.var T xs) = false) : C.gh g ∉ xs := by
  intro hm
  have h4 : refB g (.var T xs) = true := List.any_eq_true.2 ⟨_, hm, Nat.beq_refl g⟩
  rw [h4] at h; cases h
theorem r_storeOwn (g : Nat) {T T0 e : TypeId} {x : Operand} {t v n sz : Nat} {xs : List C} {els : List (List D)} (ho : o.op = .store T x (.tmp t)) (hd : o.dst = none) (hT : sizeT P T = some 1) (hx : opd l x = some (.ptr v n)) (hv : find l v = some (.var T0 xs)) (hn : Nat.blt n xs.length = true) (ht : opd l (.tmp t) = some (.own e sz els))
    (hng : (noGh g (xs.set n (.d .any)) && Nat.ble 1000 g && Nat.blt g 2000 && Nat.ble 2000 v) = true) : Does P o (v :: t :: rdOf x) [(g, [v])] l [(v, .var T0 (splice xs n [.gh g])), (g, .own e sz els), (t, .non)] := by
  have hn : n < xs.length := Nat.le_of_ble_eq_true hn
  simp only [Bool.and_eq_true] at hng
  obtain ⟨⟨⟨hng, hg1⟩, hg2⟩, hv2⟩ := hng
  have hg1 := Nat.le_of_ble_eq_true hg1
  have hg2 : g < 2000 := Nat.le_of_ble_eq_true hg2
  have hv2 := Nat.le_of_ble_eq_true hv2
  have hng := noGh_ok hng
  intro en σ a w next Q hnn hdn hσ hfresh hR hnext
  obtain ⟨hdf, hsz, hfr, ρ, tv, htv, hin, hvz, hrr⟩ := hR
  have hview := view_of hσ htv hrr
  have h1 : a.eval x = .pointer (some ⟨ρ v, n, none⟩) := hview.fv hx (fun _ h => by simp [h]) (by intro T xs e; cases e)
  have htl : t < 1000 := by
    simp only [opd] at ht
    cases hb : Nat.blt t 1000 with
    | false => rw [hb] at ht; cases ht
    | true => exact Nat.le_of_ble_eq_true hb
  have hσt : σ t = some (.own e sz els) := by
    rw [hσ t (by simp)]
    simp only [opd] at ht
    cases hb : Nat.blt t 1000 with
    | false => rw [hb] at ht; cases ht
    | true => rw [hb] at ht; exact ht
  have hσv : σ v = some (.var T0 xs) := by rw [hσ v (by simp)]; exact hv
  have hev : a.eval (.tmp t) = tv t := (htv t htl).symm
  obtain ⟨vs, hb, hc⟩ := hrr.rel v _ hσv
  have hlen := hc.len
  -- the row goes to the ghost
  have hfr2 : ∀ k f, k ≠ v → σ k = some f → refB g f = false := fun k f hk hf => (hfresh (g, [v]) (by simp)).2 k f (by simpa using hk) hf
  -- first: nothing is known of the cell
  have hone : (tv t).oneCell' = true := by
    obtain ⟨us, hown, _⟩ := hrr.rel t _ hσt
    rcases hown.2 with ⟨h, _⟩ | ⟨g', cap, cur, h, _⟩ <;> rw [h] <;> rfl
  obtain ⟨hw1, hw2⟩ := hrr.write (w' := w.setCells (ρ v) n [tv t]) (ys := xs.set n (.d .any)) hσv (setCells_size _ _ _ _) (fun k hk => setCells_other _ _ _ _ _ hk) (setCells_row (ρ v) T0 [tv t] n w vs hb (by simp; omega)) (by
    have e1 : vs.take n ++ [tv t] ++ vs.drop (n + [tv t].length) = vs.set n (tv t) := by
      rw [List.set_eq_take_append_cons_drop]
      simp [show n < vs.length by omega]
    rw [e1]
    exact hc.set n ⟨.any _ hone, trivial⟩)
  have hσt1 : upd σ [(v, .var T0 (xs.set n (.d .any)))] t = some (.own e sz els) := by rw [upd_one, if_neg (by omega)]; exact hσt
  obtain ⟨us, hown, hro, hlo⟩ := hw1.rel t _ hσt1
  have hgfree : ∀ k T xs', upd σ [(v, .var T0 (xs.set n (.d .any)))] k = some (.var T xs') → C.gh g ∉ xs' := by
    intro k T xs' hk
    rw [upd_one] at hk
    by_cases e1 : k = v
    · rw [if_pos e1] at hk; cases hk; exact hng
    · rw [if_neg e1] at hk
      exact refB_gh (hfr2 k _ e1 hk)
  obtain ⟨ho1, ho2⟩ := hw1.own (t := t) (d := g) (w' := w.setCells (ρ v) n [tv t]) (.inr hgfree) (v := tv t) (fun p => (tv t).ownBlock = some p.block ∧ els.length * sz ≤ p.off) (fun p hp => ⟨_, hσt1, hp.1, hp.2⟩) (Nat.le_refl _) (fun _ _ _ => rfl) (fun _ _ _ => rfl) hown hro hlo (fun p hp hoo => .inl ⟨hp, hoo⟩) (fun b hbb => .inl ⟨_, hσt1, hbb⟩)
  -- then the cell is the ghost's
  have hσv2 : upd (upd σ [(v, .var T0 (xs.set n (.d .any)))]) [(g, .own e sz els), (t, .non)] v = some (.var T0 (xs.set n (.d .any))) := by
    unfold upd
    simp only [find_cons]
    rw [if_neg (by omega), if_neg (by omega)]
    simp [find]
  obtain ⟨vs2, hb2, hc2⟩ := ho1.rel v _ hσv2
  have hvs2 : vs2 = vs.take n ++ [tv t] ++ vs.drop (n + 1) := by
    have := setCells_row (ρ v) T0 [tv t] n w vs hb (by simp; omega)
    rw [this] at hb2
    simp at hb2
    rw [← hb2]; simp
  have hcell : CIn (cold en.V (upd (upd σ [(v, .var T0 (xs.set n (.d .any)))]) [(g, .own e sz els), (t, .non)]) ρ (setv tv g (tv t)) (w.setCells (ρ v) n [tv t])) (w.setCells (ρ v) n [tv t]) (setv tv g (tv t)) (splice xs n [.gh g]) vs2 := by
    have h5 := CIn.set n hc2 (c := .gh g) (v := tv t) ⟨⟨(setv_same _ _ _).symm, ⟨hg1, hg2⟩, hone⟩, trivial⟩
    have e2 : (xs.set n (.d .any)).set n (.gh g) = splice xs n [.gh g] := by
      rw [List.set_set]
      unfold splice
      rw [List.set_eq_take_append_cons_drop]
      simp [show n < xs.length from hn]
    have e3 : vs2.set n (tv t) = vs2 := by
      rw [hvs2]
      have : n = (vs.take n).length := by rw [List.length_take]; omega
      rw [List.append_assoc]
      conv => lhs; rw [this]
      rw [← this]
      simp [List.set_append, show ¬ n < min n vs.length by omega, show n - min n vs.length = 0 by omega]
    rw [e2, e3] at h5
    exact h5
  obtain ⟨hf1, hf2⟩ := ho1.write (w' := w.setCells (ρ v) n [tv t]) hσv2 rfl (fun _ _ => rfl) hb2 hcell
  have hstate : upd (upd (upd σ [(v, .var T0 (xs.set n (.d .any)))]) [(g, .own e sz els), (t, .non)]) [(v, .var T0 (splice xs n [.gh g]))] = upd σ [(v, .var T0 (splice xs n [.gh g])), (g, .own e sz els), (t, .non)] := by
    funext k
    unfold upd
    simp only [find_cons]
    by_cases k1 : v = k
    · simp [k1]
    · by_cases k2 : g = k
      · simp [k1, k2, find]
      · by_cases k3 : t = k <;> simp [k1, k2, k3, find]
  rw [hstate] at hf1 hf2
  have hrun : (execOp a.eval o).run P w = .ok .skip (w.setCells (ρ v) n [tv t]) := by
    have hcl : (tv t).cells = #[tv t] := by revert hone; cases tv t <;> simp [Value.oneCell', Value.cells]
    have := run_storeAt (P := P) (T := T) (o := n) (v := tv t) hb (by rw [hcl]; exact hT) (by rw [hcl]; simp; omega) (by rw [hcl]; intro u hu; simp at hu; rw [hu]; exact hone)
    rw [hcl] at this
    simp only [execOp, ho, h1, hev, Sem.run_bind, this]
    rfl
  unfold Oper.wp
  rw [hrun, Oper.upon_skip, hd]
  refine hnext _ _ ⟨hdf, hsz, hfr.write (b := ρ v) (setCells_keep _ _ _ _) (setCells_size _ _ _ _) (fun k hk => setCells_other _ _ _ _ _ hk) (fun hlt p hp => ?_), ρ, setv tv g (tv t), fun t' ht' => ?_, hin, fun p hp => ?_, hf1⟩
  · rcases hvz p ⟨v, _, hσv, by rw [hp]; rfl, Nat.zero_le _⟩ with h3 | h3
    · exact h3
    · omega
  · rw [setv_other _ _ _ (by omega)]; exact htv t' ht'
  · rcases ho2 p (hf2 p hp) with h3 | h3
    · exact hvz p (hw2 p h3)
    · rw [setCells_size] at h3; have := hfr.size; exact .inr (by omega)
end

/-! what follows from what -/
/-- from state to state, the run standing still -/
def Turns (l l' : List (Nat × F)) (fr : List (Nat × List Nat)) : Prop := ∀ e a w, (∀ q, q ∈ fr → q.1 ∉ e.ins) → R e (find l) a w → R e (find l') a w
theorem J_turn {P : Program} {n : Nat} {ins : List Nat} {l l' : List (Nat × F)} {K : Cont} {c : Code} {fr : List (Nat × List Nat)} (h : Turns l l' fr) (hf : (fr.all fun q => !ins.any fun y => Nat.beq q.1 y) = true) (hJ : J P n ins l' c K) : J P n ins l c K :=
  fun e Q h1 h2 hK a w hR => hJ e Q h1 h2 hK a w (h e a w (fun q hq hm => by
    rw [List.all_eq_true] at hf
    have := hf q hq
    rw [h2] at hm
    rw [any_beq.2 hm] at this
    cases this) hR)
/-- nil is an empty row of one's own -/
theorem t_nilOwn {l : List (Nat × F)} (t : Nat) (T : TypeId) (sz : Nat) (hl : Nat.blt t 1000 = true) (ht : find l t = some (.c (.lit (.slice none 0 0)))) : Turns l ((t, .own T sz []) :: l) [] := by
  intro e a w _ hR
  obtain ⟨hdf, hsz, hfr, ρ, tv, htv, hin, hvz, hrr⟩ := hR
  have htl : t < 1000 := Nat.le_of_ble_eq_true hl
  have hv : tv t = .slice none 0 0 := lit_val (ρ := ρ) (hrr.rel t _ ht)
  have hs : setv tv t (tv t) = tv := by funext k; unfold setv; by_cases h : k = t <;> simp [h]
  obtain ⟨h1, h2⟩ := hrr.own (t := t) (d := t) (w' := w) (T := T) (sz := sz) (els := []) (v := tv t) (us := []) (.inl htl) (fun _ => False) (fun p h => h.elim) (Nat.le_refl _) (fun _ _ _ => rfl) (fun _ _ _ => rfl) (by rw [hv]; exact World.ownsRow_nil _ _ _ _) (fun _ h => by simp at h) trivial (fun p hp => by rw [hv] at hp; simp [Value.ownBlock] at hp) (fun b hp => by rw [hv] at hp; simp [Value.ownBlock] at hp)
  have hst : upd (find l) [(t, .own T sz []), (t, .non)] = find ((t, .own T sz []) :: l) := by
    funext k
    unfold upd
    simp only [find_cons]
    by_cases h : t = k <;> simp [h, find]
  rw [hs, hst] at h1 h2
  refine ⟨hdf, hsz, hfr, ρ, tv, htv, hin, fun p hp => ?_, h1⟩
  rcases h2 p hp with h3 | h3
  · exact hvz p h3
  · have := hfr.size; exact .inr (by omega)
/-- a row of one's own is a row -/
theorem t_ownC {l : List (Nat × F)} (t : Nat) {T : TypeId} {sz : Nat} {els : List (List D)} (ht : find l t = some (.own T sz els)) : Turns l ((t, .c (.sl sz els)) :: l) [] := by
  intro e a w _ hR
  obtain ⟨hdf, hsz, hfr, ρ, tv, htv, hin, hvz, hrr⟩ := hR
  have hst : find ((t, .c (.sl sz els)) :: l) = upd (find l) [(t, .c (.sl sz els))] := by funext k; rw [upd_find]; rfl
  rw [hst]
  have hnew : ∀ k g b, upd (find l) [(t, .c (.sl sz els))] k = some g → ex ρ tv k g = some b → k ≠ t ∧ find l k = some g := by
    intro k g b hk hb
    rw [upd_one] at hk
    by_cases h : k = t
    · rw [if_pos h] at hk; cases hk; cases hb
    · rw [if_neg h] at hk; exact ⟨h, hk⟩
  have hvol : ∀ p, vol (upd (find l) [(t, .c (.sl sz els))]) ρ tv p → vol (find l) ρ tv p := fun p ⟨k, g, h1, h2, h3⟩ => ⟨k, g, (hnew k g _ h1 h2).2, h2, h3⟩
  obtain ⟨us, hown, hr, hl⟩ := hrr.rel t _ ht
  have hcold : ∀ p, cold e.V (find l) ρ tv w p → cold e.V (upd (find l) [(t, .c (.sl sz els))]) ρ tv w p := fun p hp => ⟨hp.1, hp.2.1, fun h => hp.2.2 (hvol p h)⟩
  refine ⟨hdf, hsz, hfr, ρ, tv, htv, hin, fun p hp => hvz p (hvol p hp), hrr.to (Nat.le_refl _) (fun p hp => ⟨(hcold p hp).2.2, rfl⟩) (fun k g hk => ?_) (fun k g k' g' b h1 h2 h3 h4 => hrr.dist _ _ _ _ _ (hnew _ _ _ h1 h3).2 (hnew _ _ _ h2 h4).2 h3 h4) (fun k g b h1 h2 => hrr.exb _ _ _ (hnew _ _ _ h1 h2).2 h2)⟩
  have hk0 := hk
  rw [upd_one] at hk
  by_cases h : k = t
  · rw [if_pos h] at hk
    cases hk
    refine .inr ?_
    rw [h]
    show DIn _ _ _ _
    rcases hown.2 with ⟨h1, h2⟩ | ⟨g, cap, cur, h1, _, h3, h4, _⟩
    · rw [h1]
      have : els = [] := List.eq_nil_of_length_eq_zero h2
      rw [this]
      exact DIn.nil _ _
    · have hcells := hown.cells (g := g) (by rw [h1]; rfl)
      have hb := hrr.exb t _ g ht (by show (tv t).ownBlock = _; rw [h1]; rfl)
      rw [h1]
      refine DIn.rows h4 hr (hl.mono hcold (fun _ _ => rfl)) (fun j u hj => ?_)
      have hc := hcells j u hj
      refine ⟨⟨?_, ?_, ?_⟩, hc⟩
      · rw [block_of_add]; exact hb.1
      · exact hb.2 _ (by rw [block_of_add])
      · rintro ⟨k', g', q1, q2, q3⟩
        rw [block_of_add] at q2
        obtain ⟨q4, q5⟩ := hnew k' g' _ q1 q2
        exact q4 (hrr.dist _ _ _ _ _ q5 ht q2 (by show (tv t).ownBlock = _; rw [h1]; rfl))
  · rw [if_neg h] at hk
    exact .inl ⟨hk, hrr.same hk rfl (fun _ _ => rfl) (fun _ _ _ => rfl) (fun _ _ _ => rfl) (fun _ _ => rfl)⟩
/-- less is known of a temporary's cell -/
theorem t_wkC {l : List (Nat × F)} (t : Nat) {x y : D} (ht : find l t = some (.c x)) (hw : WkD x y) : Turns l ((t, .c y) :: l) [] := by
  intro e a w _ hR
  obtain ⟨hdf, hsz, hfr, ρ, tv, htv, hin, hvz, hrr⟩ := hR
  have hst : find ((t, .c y) :: l) = upd (find l) [(t, .c y)] := by funext k; rw [upd_find]; rfl
  rw [hst]
  have hnew : ∀ k g b, upd (find l) [(t, .c y)] k = some g → ex ρ tv k g = some b → k ≠ t ∧ find l k = some g := by
    intro k g b hk hb
    rw [upd_one] at hk
    by_cases h : k = t
    · rw [if_pos h] at hk; cases hk; cases hb
    · rw [if_neg h] at hk; exact ⟨h, hk⟩
  have hvol : ∀ p, vol (upd (find l) [(t, .c y)]) ρ tv p → vol (find l) ρ tv p := fun p ⟨k, g, h1, h2, h3⟩ => ⟨k, g, (hnew k g _ h1 h2).2, h2, h3⟩
  have hcold : ∀ p, cold e.V (find l) ρ tv w p → cold e.V (upd (find l) [(t, .c y)]) ρ tv w p := fun p hp => ⟨hp.1, hp.2.1, fun h => hp.2.2 (hvol p h)⟩
  refine ⟨hdf, hsz, hfr, ρ, tv, htv, hin, fun p hp => hvz p (hvol p hp), hrr.to (Nat.le_refl _) (fun p hp => ⟨(hcold p hp).2.2, rfl⟩) (fun k g hk => ?_) (fun k g k' g' b h1 h2 h3 h4 => hrr.dist _ _ _ _ _ (hnew _ _ _ h1 h3).2 (hnew _ _ _ h2 h4).2 h3 h4) (fun k g b h1 h2 => hrr.exb _ _ _ (hnew _ _ _ h1 h2).2 h2)⟩
  rw [upd_one] at hk
  by_cases h : k = t
  · rw [if_pos h] at hk
    cases hk
    refine .inr ?_
    rw [h]
    exact hw.ok ((show DIn _ _ _ _ from hrr.rel t _ ht).mono hcold (fun _ _ => rfl))
  · rw [if_neg h] at hk
    exact .inl ⟨hk, hrr.same hk rfl (fun _ _ => rfl) (fun _ _ _ => rfl) (fun _ _ _ => rfl) (fun _ _ => rfl)⟩
/-- less is known of a variable's cells -/
inductive WkC (l : List (Nat × F)) : C → C → Prop
  | refl (x : C) : WkC l x x
  | d {x y : D} : WkD x y → WkC l (.d x) (.d y)
  | gh {g : Nat} {x : D} : find l g = some (.c x) → WkC l (.gh g) (.d x)
  | no (g : Nat) : WkC l (.gh g) (.d .any)
def WkCs (l : List (Nat × F)) : List C → List C → Prop
  | [], [] => True
  | x :: xs, y :: ys => WkC l x y ∧ WkCs l xs ys
  | _, _ => False
theorem WkCs.ok {l : List (Nat × F)} {V : Addr → Prop} {ρ : Nat → Nat} {tv : Nat → Value} {w : World} (h : RR V ρ tv w (find l)) : ∀ {xs ys : List C} {vs : List Value}, WkCs l xs ys → CIn (cold V (find l) ρ tv w) w tv xs vs → CIn (cold V (find l) ρ tv w) w tv ys vs
  | [], [], [], _, _ => trivial
  | x :: xs, y :: ys, v :: vs, hw, hc => by
    have hhd : CIn (cold V (find l) ρ tv w) w tv [x] [v] ∧ CIn (cold V (find l) ρ tv w) w tv xs vs := by
      cases x with
      | d _ => exact ⟨⟨hc.1, trivial⟩, hc.2⟩
      | gh _ => exact ⟨⟨hc.1, trivial⟩, hc.2⟩
    have ih := WkCs.ok h hw.2 hhd.2
    have hd := hw.1
    have h1 := hhd.1
    clear hc hhd hw
    cases hd with
    | refl => cases x with
      | d _ => exact ⟨h1.1, ih⟩
      | gh _ => exact ⟨h1.1, ih⟩
    | d hx => exact ⟨hx.ok h1.1, ih⟩
    | gh hx => exact ⟨by rw [h1.1.1]; exact h.rel _ _ hx, ih⟩
    | no g => exact ⟨.any _ h1.1.2.2, ih⟩
  | [], _ :: _, _, hw, _ => hw.elim
  | _ :: _, [], _, hw, _ => hw.elim
  | [], [], _ :: _, _, hc => hc.elim
  | x :: _, _ :: _, [], _, hc => by cases x <;> exact hc.elim
theorem t_wkV {l : List (Nat × F)} (x : Nat) {T : TypeId} {xs : List C} (ys : List C) (hx : find l x = some (.var T xs)) (hw : WkCs l xs ys) : Turns l ((x, .var T ys) :: l) [] := by
  intro e a w _ hR
  obtain ⟨hdf, hsz, hfr, ρ, tv, htv, hin, hvz, hrr⟩ := hR
  have hst : find ((x, .var T ys) :: l) = upd (find l) [(x, .var T ys)] := by funext k; rw [upd_find]; rfl
  rw [hst]
  obtain ⟨vs, hb, hc⟩ := hrr.rel x _ hx
  obtain ⟨h1, h2⟩ := hrr.write (w' := w) hx rfl (fun _ _ => rfl) hb (WkCs.ok hrr hw hc)
  exact ⟨hdf, hsz, hfr, ρ, tv, htv, hin, fun p hp => hvz p (h2 p hp), h1⟩

/-- a nil cell is an empty row of a ghost's own -/
theorem t_nilGh {l : List (Nat × F)} (x n g : Nat) {T : TypeId} {xs : List C} (e : TypeId) (sz : Nat) (hx : find l x = some (.var T xs)) (hn : xs[n]? = some (.d (.lit (.slice none 0 0)))) (hg : (Nat.ble 1000 g && Nat.blt g 2000 && Nat.ble 2000 x && freshIn (g, []) l) = true) :
    Turns l ((x, .var T (xs.set n (.gh g))) :: (g, .own e sz []) :: l) [(g, [])] := by
  intro en a w _ hR
  simp only [Bool.and_eq_true] at hg
  obtain ⟨⟨⟨hg1, hg2⟩, hx2⟩, hfr0⟩ := hg
  have hg1 := Nat.le_of_ble_eq_true hg1
  have hg2 : g < 2000 := Nat.le_of_ble_eq_true hg2
  have hx2 := Nat.le_of_ble_eq_true hx2
  obtain ⟨hdf, hsz, hfr, ρ, tv, htv, hin, hvz, hrr⟩ := hR
  have hgfree : ∀ k T xs', find l k = some (.var T xs') → C.gh g ∉ xs' := fun k T xs' hk => refB_gh (freshIn_ok (q := (g, [])) hfr0 k _ (by simp) hk)
  obtain ⟨h1, h2⟩ := hrr.own (t := g) (d := g) (w' := w) (T := e) (sz := sz) (els := []) (v := .slice none 0 0) (us := []) (.inr hgfree) (fun _ => False) (fun p h => h.elim) (Nat.le_refl _) (fun _ _ _ => rfl) (fun _ _ _ => rfl) (World.ownsRow_nil _ _ _ _) (fun _ h => by simp at h) trivial (fun p hp => by simp [Value.ownBlock] at hp) (fun b hp => by simp [Value.ownBlock] at hp)
  have hσx : upd (find l) [(g, .own e sz []), (g, .non)] x = some (.var T xs) := by
    unfold upd
    simp only [find_cons]
    rw [if_neg (by omega), if_neg (by omega)]
    simp [find, hx]
  obtain ⟨vs, hb, hc⟩ := h1.rel x _ hσx
  obtain ⟨v, hv1, hv2⟩ := hc.get n _ hn
  have hvn : v = .slice none 0 0 := by have := hv2.1; cases this; rfl
  have hc2 := CIn.set n hc (c := .gh g) (v := v) ⟨⟨by rw [setv_same]; exact hvn, ⟨hg1, hg2⟩, by rw [hvn]; rfl⟩, trivial⟩
  have hset : vs.set n v = vs := by
    have hlt : n < vs.length := by
      rcases Nat.lt_or_ge n vs.length with h | h
      · exact h
      · rw [List.getElem?_eq_none h] at hv1; cases hv1
    rw [List.getElem?_eq_getElem hlt] at hv1
    cases hv1
    exact List.set_getElem_self ..
  rw [hset] at hc2
  obtain ⟨h3, h4⟩ := h1.write (w' := w) hσx rfl (fun _ _ => rfl) hb hc2
  have hst : upd (upd (find l) [(g, .own e sz []), (g, .non)]) [(x, .var T (xs.set n (.gh g)))] = find ((x, .var T (xs.set n (.gh g))) :: (g, .own e sz []) :: l) := by
    funext k
    unfold upd
    simp only [find_cons]
    by_cases k1 : x = k <;> by_cases k2 : g = k <;> simp [k1, k2, find]
  rw [hst] at h3 h4
  refine ⟨hdf, hsz, hfr, ρ, _, fun t' ht' => ?_, hin, fun p hp => ?_, h3⟩
  · rw [setv_other _ _ _ (by omega)]; exact htv t' ht'
  · rcases h2 p (h4 p hp) with h5 | h5
    · exact hvz p h5
    · have := hfr.size; exact .inr (by omega)

end Go.Proofs.YtoadmjnaakbljaaDoor
