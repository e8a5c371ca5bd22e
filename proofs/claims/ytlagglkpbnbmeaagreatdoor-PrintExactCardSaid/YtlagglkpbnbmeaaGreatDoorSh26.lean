/- Shadows: functions that are handed over: the call of yield, a closure over a variable. -/
import Derived.Test.YtlagglkpbnbmeaaGreatDoorS2
import Derived.RangeFuncRecord
import Derived.RangeFuncSeq
namespace Go.Proofs.YtlagglkpbnbmeaaGreatDoor
open Go Go.RowKit
set_option linter.unusedVariables false

def conP (fs : List F) (vs : List (Nat × F)) (r : F) (vs' : List (Nat × F)) (V : Addr → Prop) (ρ : Nat → Nat) (tv : Nat → Value) (w : World) : Ending → World → Prop := fun e w' =>
  ∃ v tv', e = .returned v ∧ tv' 0 = v ∧ Fr (vol (find (ini fs vs)) ρ tv) w w' ∧ RR V ρ tv' w' (find ((0, r) :: vs')) ∧ ∀ p, vol (find ((0, r) :: vs')) ρ tv' p → vol (find (ini fs vs)) ρ tv p ∨ w.heap.size ≤ p.block
def ConV (P : Program) (ks : List Nat) (C : List Nat → Value → Prop) (fs : List F) (vs : List (Nat × F)) (r : F) (vs' : List (Nat × F)) : Prop :=
  ∀ (V : Addr → Prop) (ρ : Nat → Nat) (tv : Nat → Value) (w : World) (args : Array Value) (B : Nat) (fv : Value), C (ks.map ρ) fv → args.size = fs.length → (∀ i, i < args.size → tv i = args.getD i undef) → RR V ρ tv w (find (ini fs vs)) → TT B w →
    (∀ p, vol (find (ini fs vs)) ρ tv p → B ≤ p.block) → B ≤ w.heap.size → ∃ l, fv = .func (.yield l) #[] #[] ∧ YieldAt Fence.wide 0 P l args w (conP fs vs r vs' V ρ tv w)

section
variable {P : Program} {o : Oper} {l : List (Nat × F)} {d : Nat}
theorem r_yield {t : Nat} {ks : List Nat} {C : List Nat → Value → Prop} {args : Array Operand} {ts : Array TypeId} {fs : List F} {vs vs' : List (Nat × F)} {r : F} (hC : ConV P ks C fs vs r vs') (ho : o.op = .call { callee := .value (.tmp t), args := args, argTypes := ts }) (hd : o.dst = some d)
    (ht : opd l (.tmp t) = some (.rel ks C)) (ha : argsF l args.toList = some fs) (hvs : sub vs l) (hck : (keysOK vs vs' r && oneOwn fs && ghostsOK vs' && Nat.ble fs.length 1000) = true) :
    Does P o ((args.toList.flatMap rdOf ++ vs.map (·.1)) ++ [t]) (frCall vs vs') l (postCall l d r args.toList vs vs') := by
  refine Does.call (rdx := [t]) (fun S tv0 V ρ tv w a B hview hsz htv hrr htt hvB hB next hnext => ?_) hd ha hvs hck
  have hrel : C (ks.map ρ) (a.eval (.tmp t)) := hview.fv ht (fun _ h => by simpa [rdOf] using h) (by intro T xs e; cases e)
  obtain ⟨l0, hfv, fn, tmps, assign, body, hy, hR⟩ := hC V ρ tv w _ B _ hrel hsz htv hrr htt hvB hB
  have hrun : (execOp a.eval o).run P w = .ok (.round l0 fn tmps assign body) w := by
    simp only [execOp, ho, resolve, hfv, Deferred.ofValue, Sem.run_bind, Sem.run_pure, Result.andThen_ok, invoke, Array.empty_append]
    exact hy
  unfold wq
  rw [hrun, uq_round]
  refine hR.mono ?_
  rintro e' w' ⟨v, tv', rfl, hv0, hFr, hrr', hvz'⟩
  exact hnext v tv' w' hv0 hFr hrr' hvz'

theorem r_makeFunc {g v : Nat} {T : TypeId} {x : Operand} {xs : List C} {ds : List D} (ho : o.op = .makeFunc (.func g) #[] #[x]) (hd : o.dst = some d) (hx : opd l x = some (.ptr v 0)) (hv : find l v = some (.var T xs)) (hT : Nat.beq T mapT = false) (hp : plainCs xs = some ds) :
    Does P o (rdOf x ++ [v]) [] l [(d, .clo g ds), (v, .non)] := by
  intro e σ a w next Q hn hdn hσ _ hR hnext
  obtain ⟨hdf, hsz, hfr, ρ, tv, htv, hin, hvz, hrr⟩ := hR
  have hview := view_of hσ htv hrr
  have h1 : a.eval x = ptrV (ρ v) 0 := hview.fv hx (fun _ h => List.mem_append_left _ h) (by intro T xs e; cases e)
  rw [ptrV_ptr (by rfl)] at h1
  have hσv : σ v = some (.var T xs) := (hσ v (List.mem_append_right _ (by simp))).trans hv
  have hrun : (execOp a.eval o).run P w = .ok (.value (.func (.func g) #[] #[.pointer (some ⟨ρ v, 0, none⟩)])) w := by
    simp [execOp, ho, Instr.makeFunc, h1]
  let σ0 : Sta := fun k => if k = v then none else σ k
  have hs0 : ∀ k f, σ0 k = some f → σ k = some f ∧ k ≠ v := fun k f h => by
    have h' : (if k = v then none else σ k) = some f := h
    by_cases e : k = v
    · rw [if_pos e] at h'; cases h'
    · rw [if_neg e] at h'; exact ⟨h', e⟩
  obtain ⟨hrr0, hvol0⟩ := hrr.weak (fun k f h => (hs0 k f h).1)
  obtain ⟨us, hb, hc⟩ := hrr.rel v _ hσv
  rw [objV_row _ hT] at hb
  have hxv := hrr.exb v (.var T xs) (ρ v) hσv rfl
  have hcold : ∀ p : Addr, p.block = ρ v → cold e.V σ0 ρ tv w p := fun p hp => ⟨by rw [hp]; exact hxv.1, hxv.2 p hp, fun ⟨k, f, h1, h2, _⟩ => by
    obtain ⟨h3, h4⟩ := hs0 k f h1
    exact h4 (hrr.dist k f v _ _ h3 hσv h2 (by rw [hp]; rfl))⟩
  have hsub : ∀ p, cold e.V σ ρ tv w p → cold e.V σ0 ρ tv w p := fun p hp => ⟨hp.1, hp.2.1, fun h => hp.2.2 (hvol0 p h)⟩
  have hlin := (plainCs_ok hp ▸ hc).plain
  have hfv : FV (cold e.V σ0 ρ tv w) ρ w (.clo g ds) (.func (.func g) #[] #[.pointer (some ⟨ρ v, 0, none⟩)]) := by
    refine ⟨⟨ρ v, 0, none⟩, rfl, fun j dd hj => ?_⟩
    rw [Nat.zero_add] at hj
    obtain ⟨u, hu, hdu⟩ := hlin.get j dd hj
    refine ⟨hcold _ (by rw [addr_add]), u, ?_, hdu.mono hsub (fun _ _ => rfl)⟩
    rw [addr_add, row_cell hb, Nat.zero_add]
    exact hu
  have hst := R.put (e := e) (σ := σ0) hdf hsz hfr htv hin (fun p h => hvz p (hvol0 p h)) hrr0 (hdn d hd) hn (f := .clo g ds) trivial hfv
  obtain ⟨hdf2, hsz2, hfr2, ρ2, tv2, htv2, hin2, hvz2, hrr2⟩ := hst
  unfold wq
  rw [hrun, uq_value, hd]
  refine hnext _ _ ⟨hdf2, hsz2, hfr2, ρ2, tv2, htv2, hin2, ?_, ?_⟩
  · have hk : ∀ k f, upd σ [(d, .clo g ds), (v, .non)] k = some f → f = .non ∨ upd σ0 [(d, .clo g ds)] k = some f := fun k f h => by
      unfold upd at h ⊢
      simp only [find_cons] at h ⊢
      by_cases e1 : d = k
      · rw [if_pos e1] at h ⊢; exact .inr h
      · rw [if_neg e1] at h ⊢
        by_cases e2 : v = k
        · rw [if_pos e2] at h; cases h; exact .inl rfl
        · rw [if_neg e2] at h
          refine .inr ?_
          show (match find [] k with | some f => some f | none => if k = v then none else σ k) = _
          simp only [find]
          rw [if_neg (fun e => e2 e.symm)]
          exact h
    rintro p ⟨k, f, h1, h2, h3⟩
    rcases hk k f h1 with rfl | h4
    · cases h2
    · exact hvz2 p ⟨k, f, h4, h2, h3⟩
  · have hk : ∀ k f, upd σ [(d, .clo g ds), (v, .non)] k = some f → f = .non ∨ upd σ0 [(d, .clo g ds)] k = some f := fun k f h => by
      unfold upd at h ⊢
      simp only [find_cons] at h ⊢
      by_cases e1 : d = k
      · rw [if_pos e1] at h ⊢; exact .inr h
      · rw [if_neg e1] at h ⊢
        by_cases e2 : v = k
        · rw [if_pos e2] at h; cases h; exact .inl rfl
        · rw [if_neg e2] at h
          refine .inr ?_
          show (match find [] k with | some f => some f | none => if k = v then none else σ k) = _
          simp only [find]
          rw [if_neg (fun e => e2 e.symm)]
          exact h
    have hvol : ∀ p, vol (upd σ [(d, .clo g ds), (v, .non)]) ρ2 tv2 p → vol (upd σ0 [(d, .clo g ds)]) ρ2 tv2 p := by
      rintro p ⟨k, f, h1, h2, h3⟩
      rcases hk k f h1 with rfl | h4
      · cases h2
      · exact ⟨k, f, h4, h2, h3⟩
    refine hrr2.to (Nat.le_refl _) (fun p hp => ⟨fun h => hp.2.2 (hvol p h), rfl⟩) (fun k f h => ?_) (fun k f k' f' b h1 h2 h3 h4 => ?_) (fun k f b h1 h2 => ?_)
    · rcases hk k f h with rfl | h4
      · exact .inr trivial
      · exact .inl ⟨h4, hrr2.same h4 rfl (fun _ _ => rfl) (fun _ _ _ => rfl) (fun _ _ _ => rfl) (fun _ _ => rfl)⟩
    · rcases hk k f h1 with rfl | h5
      · cases h3
      · rcases hk k' f' h2 with rfl | h6
        · cases h4
        · exact hrr2.dist _ _ _ _ _ h5 h6 h3 h4
    · rcases hk k f h1 with rfl | h5
      · cases h2
      · exact hrr2.exb _ _ _ h5 h2
end

section
variable {P : Program} {o : Oper} {l : List (Nat × F)} {d : Nat}
theorem r_storePtr (g : Nat) {T T0 : TypeId} {x : Operand} {t v n M m : Nat} {xs : List C} (ho : o.op = .store T x (.tmp t)) (hd : o.dst = none) (hT : sizeT P T = some 1) (hx : opd l x = some (.ptr v n)) (hv : find l v = some (.var T0 xs)) (hn : Nat.blt n xs.length = true) (ht : opd l (.tmp t) = some (.ptr M m))
    (hng : (noGh g (xs.set n (.d .any)) && Nat.ble 1000 g && Nat.blt g 2000 && Nat.ble 2000 v) = true) (hmm : (Nat.blt n mapT && !Nat.beq T0 mapT) = true := by exact rfl) : Does P o (v :: t :: rdOf x) [(g, [v])] l [(v, .var T0 (splice xs n [.gh g])), (g, .ptr M m)] := by
  have hn : n < xs.length := Nat.le_of_ble_eq_true hn
  simp only [Bool.and_eq_true] at hng
  obtain ⟨⟨⟨hng, hg1⟩, hg2⟩, hv2⟩ := hng
  have hg1 := Nat.le_of_ble_eq_true hg1
  have hg2 : g < 2000 := Nat.le_of_ble_eq_true hg2
  have hv2 := Nat.le_of_ble_eq_true hv2
  have hng := noGh_ok hng
  intro en σ a w next Q hnn hdn hσ hfresh hR hnext
  obtain ⟨hdf, hsz, hfr, ρ, tv, htv, hin, hvz, hrr⟩ := hR
  have hview := view_of hσ htv hrr
  have h1 : a.eval x = .pointer (some ⟨ρ v, n, none⟩) := Eq.trans (hview.fv hx (fun _ h => by simp [h]) (by intro T xs e; cases e)) (ptrV_ptr (and_mapT hmm).1)
  have hbt : Nat.blt t 1000 = true := by
    simp only [opd] at ht
    cases hb : Nat.blt t 1000 with
    | false => rw [hb] at ht; cases ht
    | true => rfl
  have htl : t < 1000 := Nat.le_of_ble_eq_true hbt
  have hσt : σ t = some (.ptr M m) := by
    rw [hσ t (by simp)]
    simp only [opd, hbt, cond_true] at ht
    exact ht
  have hσv : σ v = some (.var T0 xs) := by rw [hσ v (by simp)]; exact hv
  have hev : a.eval (.tmp t) = tv t := (htv t htl).symm
  have htp : tv t = ptrV (ρ M) m := hrr.rel t _ hσt
  obtain ⟨vs, hb, hc⟩ := hrr.rel v _ hσv
  rw [objV_row _ (and_mapT hmm).2] at hb
  have hlen := hc.len
  have hfr2 : ∀ k f, k ≠ v → σ k = some f → refB g f = false := fun k f hk hf => (hfresh (g, [v]) (by simp)).2 k f (by simpa using hk) hf
  have hone : (tv t).oneCell' = true := by
    rw [htp]; unfold ptrV
    cases Nat.beq m mapT <;> rfl
  obtain ⟨hw1, hw2⟩ := hrr.write (w' := w.setCells (ρ v) n [tv t]) (ys := xs.set n (.d .any)) hσv (setCells_size _ _ _ _) (fun k hk => setCells_other _ _ _ _ _ hk) ((setCells_row (ρ v) T0 [tv t] n w vs hb (by simp; omega)).trans (by rw [objV_row _ (and_mapT hmm).2])) (by
    have e1 : vs.take n ++ [tv t] ++ vs.drop (n + [tv t].length) = vs.set n (tv t) := by
      rw [List.set_eq_take_append_cons_drop]
      simp [show n < vs.length by omega]
    rw [e1]
    exact hc.set n ⟨.any _ hone, trivial⟩)
  have hσv1 : upd σ [(v, .var T0 (xs.set n (.d .any)))] v = some (.var T0 (xs.set n (.d .any))) := by rw [upd_one, if_pos rfl]
  have hgfree : ∀ k T xs', upd σ [(v, .var T0 (xs.set n (.d .any)))] k = some (.var T xs') → C.gh g ∉ xs' := by
    intro k T xs' hk
    rw [upd_one] at hk
    by_cases e1 : k = v
    · rw [if_pos e1] at hk; cases hk; exact hng
    · rw [if_neg e1] at hk
      exact refB_gh (hfr2 k _ e1 hk)
  obtain ⟨vs2, hb2, hc2⟩ := hw1.rel v _ hσv1
  have hvs2 : vs2 = vs.take n ++ [tv t] ++ vs.drop (n + 1) := by
    have := setCells_row (ρ v) T0 [tv t] n w vs hb (by simp; omega)
    rw [this, objV_row _ (and_mapT hmm).2] at hb2
    simp at hb2
    rw [← hb2]; simp
  have hcl : ∀ k f, upd σ [(v, .var T0 (splice xs n [.gh g])), (g, .ptr M m)] k = some f → (k = v ∧ f = .var T0 (splice xs n [.gh g])) ∨ (k = g ∧ f = .ptr M m) ∨ (k ≠ v ∧ k ≠ g ∧ upd σ [(v, .var T0 (xs.set n (.d .any)))] k = some f) := by
    intro k f hk
    unfold upd at hk
    simp only [find_cons] at hk
    by_cases e1 : v = k
    · rw [if_pos e1] at hk; cases hk; exact .inl ⟨e1.symm, rfl⟩
    · rw [if_neg e1] at hk
      by_cases e2 : g = k
      · rw [if_pos e2] at hk; cases hk; exact .inr (.inl ⟨e2.symm, rfl⟩)
      · rw [if_neg e2] at hk
        refine .inr (.inr ⟨fun e => e1 e.symm, fun e => e2 e.symm, ?_⟩)
        rw [upd_one, if_neg (fun e => e1 e.symm)]
        exact hk
  have hex : ∀ k f b, upd σ [(v, .var T0 (splice xs n [.gh g])), (g, .ptr M m)] k = some f → ex ρ (setv tv g (tv t)) k f = some b → ∃ f', upd σ [(v, .var T0 (xs.set n (.d .any)))] k = some f' ∧ ex ρ tv k f' = some b ∧ lo f' = lo f := by
    intro k f b hk hb
    rcases hcl k f hk with ⟨rfl, rfl⟩ | ⟨rfl, rfl⟩ | ⟨_, h3, h4⟩
    · exact ⟨_, hσv1, hb, rfl⟩
    · cases hb
    · refine ⟨f, h4, ?_, rfl⟩
      cases f <;> simp only [ex, setv_other _ _ _ h3] at hb ⊢ <;> exact hb
  have hvol : ∀ p, vol (upd σ [(v, .var T0 (splice xs n [.gh g])), (g, .ptr M m)]) ρ (setv tv g (tv t)) p → vol (upd σ [(v, .var T0 (xs.set n (.d .any)))]) ρ tv p := by
    rintro p ⟨k, f, h1, h2, h3⟩
    obtain ⟨f', h4, h5, h6⟩ := hex k f _ h1 h2
    exact ⟨k, f', h4, h5, h6 ▸ h3⟩
  have hcold : ∀ p, cold en.V (upd σ [(v, .var T0 (xs.set n (.d .any)))]) ρ tv (w.setCells (ρ v) n [tv t]) p → cold en.V (upd σ [(v, .var T0 (splice xs n [.gh g])), (g, .ptr M m)]) ρ (setv tv g (tv t)) (w.setCells (ρ v) n [tv t]) p := fun p hp => ⟨hp.1, hp.2.1, fun h => hp.2.2 (hvol p h)⟩
  have hcell : CIn (cold en.V (upd σ [(v, .var T0 (splice xs n [.gh g])), (g, .ptr M m)]) ρ (setv tv g (tv t)) (w.setCells (ρ v) n [tv t])) (w.setCells (ρ v) n [tv t]) (setv tv g (tv t)) (splice xs n [.gh g]) vs2 := by
    have h5 := CIn.set n (hc2.mono hcold (fun _ _ => rfl) (fun h hh => setv_other tv g (tv t) (fun e => hng (e ▸ hh)))) (c := .gh g) (v := tv t) ⟨⟨(setv_same _ _ _).symm, ⟨hg1, hg2⟩, hone⟩, trivial⟩
    have e2 : (xs.set n (.d .any)).set n (.gh g) = splice xs n [.gh g] := by
      rw [List.set_set]
      unfold splice
      rw [List.set_eq_take_append_cons_drop]
      simp [show n < xs.length from hn]
    have e3 : vs2.set n (tv t) = vs2 := by
      rw [hvs2]
      have : n = (vs.take n).length := by rw [List.length_take]; omega
      rw [List.append_assoc]
      conv => lhs; rw [this]
      rw [← this]
      simp [List.set_append, show ¬ n < min n vs.length by omega, show n - min n vs.length = 0 by omega]
    rw [e2, e3] at h5
    exact h5
  have hf1 : RR en.V ρ (setv tv g (tv t)) (w.setCells (ρ v) n [tv t]) (upd σ [(v, .var T0 (splice xs n [.gh g])), (g, .ptr M m)]) := by
    refine hw1.to (Nat.le_refl _) (fun p hp => ⟨(hcold p hp).2.2, rfl⟩) (fun k f hk => ?_) (fun k f k' f' b h1 h2 h3 h4 => ?_) (fun k f b h1 h2 => ?_)
    · rcases hcl k f hk with ⟨rfl, rfl⟩ | ⟨rfl, rfl⟩ | ⟨h2, h3, h4⟩
      · exact .inr ⟨vs2, hb2, hcell⟩
      · refine .inr ?_
        show setv tv k (tv t) k = _
        rw [setv_same]; exact htp
      · exact .inl ⟨h4, hw1.same2 h4 (setv_other _ _ _ h3) (fun T xs' e g' _ hm => setv_other _ _ _ (fun e2 => by subst e e2; exact hgfree k T xs' h4 hm)) (fun _ _ _ => rfl) (fun _ _ _ => rfl) (fun _ _ => rfl)⟩
    · obtain ⟨f1, a1, a2, _⟩ := hex _ _ _ h1 h3
      obtain ⟨f2, b1, b2, _⟩ := hex _ _ _ h2 h4
      exact hw1.dist _ _ _ _ _ a1 b1 a2 b2
    · obtain ⟨f1, a1, a2, _⟩ := hex _ _ _ h1 h2
      exact hw1.exb _ _ _ a1 a2
  have hrun : (execOp a.eval o).run P w = .ok .skip (w.setCells (ρ v) n [tv t]) := by
    have hcl : (tv t).cells = #[tv t] := by revert hone; cases tv t <;> simp [Value.oneCell', Value.cells]
    have := run_storeAt (P := P) (T := T) (o := n) (v := tv t) hb (by rw [hcl]; exact hT) (by rw [hcl]; simp; omega) (by rw [hcl]; intro u hu; simp at hu; rw [hu]; exact hone)
    rw [hcl] at this
    simp only [execOp, ho, h1, hev, Sem.run_bind, this]
    rfl
  unfold wq
  rw [hrun, uq_skip, hd]
  refine hnext _ _ ⟨hdf, hsz, hfr.write (b := ρ v) (setCells_keep _ _ _ _) (setCells_size _ _ _ _) (fun k hk => setCells_other _ _ _ _ _ hk) (fun hlt p hp => ?_), ρ, setv tv g (tv t), fun t' ht' => ?_, hin, fun p hp => ?_, hf1⟩
  · rcases hvz p ⟨v, _, hσv, by rw [hp]; rfl, Nat.zero_le _⟩ with h3 | h3
    · exact h3
    · omega
  · rw [setv_other _ _ _ (by omega)]; exact htv t' ht'
  · exact hvz p (hw2 p (hvol p hp))
theorem r_loadPin {T T0 : TypeId} {x : Operand} {y n M b : Nat} {xs : List C} (ho : o.op = .load T x) (hd : o.dst = some d) (hT : plainT P T = true) (hx : opd l x = some (.ptr y n)) (hy : find l y = some (.var T0 xs)) (hu : xs[n]? = some (.d (.lit (.map (some b))))) (hq : find l 999 = some (.rel [M] fun bs _ => bs = [b])) (hmm : (Nat.blt n mapT && !Nat.beq T0 mapT) = true := by exact rfl) :
    Does P o (rdOf x ++ [y, 999]) [] l [(d, .ptr M mapT)] :=
  Does.val hd trivial fun S ρ tv a w hv => by
    have h1 : a.eval x = .pointer (some ⟨ρ y, n, none⟩) := Eq.trans (hv.fv hx (fun _ h => List.mem_append_left _ h) (by intro T xs e; cases e)) (ptrV_ptr (and_mapT hmm).1)
    obtain ⟨vs, h2, h3⟩ := hv.vr y _ _ hy (List.mem_append_right _ (by simp))
    rw [objV_row _ (and_mapT hmm).2] at h2
    obtain ⟨v, h4, h5⟩ := h3.get n _ hu
    have h6 : DIn S w (.lit (.map (some b))) v := h5.1
    have h7 : ([M].map ρ = [b]) := hv.fv (x := .tmp 999) (show opd l (.tmp 999) = _ from hq) (fun k h => List.mem_append_right _ (by simp [rdOf] at h; simp [h])) (by intro T xs e; cases e)
    have h8 : ρ M = b := by simpa using h7
    refine ⟨v, ?_, ?_⟩
    · simp only [execOp, ho, h1, Sem.run_bind, run_load_plain hT ((row_cell h2 n).trans h4)]
      rfl
    · show v = ptrV (ρ M) mapT
      cases h6
      rw [h8]; rfl
end
theorem R_pin {l : List (Nat × F)} {e : Env} {a : Act} {w : World} {v M g : Nat} {T : TypeId} (hv : find l v = some (.var T [.gh g])) (hg : find l g = some (.ptr M mapT)) (hR : R e (find l) a w) :
    ∃ b, R e (find ((999, .rel [M] (fun bs _ => bs = [b])) :: (v, .var T [.d (.lit (.map (some b)))]) :: l)) a w := by
  obtain ⟨hdf, hsz, hfr, ρ, tv, htv, hin, hvz, hrr⟩ := hR
  refine ⟨ρ M, ?_⟩
  have hcl : ∀ k f, find ((999, F.rel [M] (fun bs _ => bs = [ρ M])) :: (v, .var T [.d (.lit (.map (some (ρ M))))]) :: l) k = some f → (k = 999 ∧ f = .rel [M] (fun bs _ => bs = [ρ M])) ∨ (k = v ∧ f = .var T [.d (.lit (.map (some (ρ M))))]) ∨ (k ≠ v ∧ find l k = some f) := by
    intro k f hk
    rw [find_cons] at hk
    by_cases e1 : 999 = k
    · rw [if_pos e1] at hk; cases hk; exact .inl ⟨e1.symm, rfl⟩
    · rw [if_neg e1, find_cons] at hk
      by_cases e2 : v = k
      · rw [if_pos e2] at hk; cases hk; exact .inr (.inl ⟨e2.symm, rfl⟩)
      · rw [if_neg e2] at hk; exact .inr (.inr ⟨fun e => e2 e.symm, hk⟩)
  have hex : ∀ k f b, find ((999, F.rel [M] (fun bs _ => bs = [ρ M])) :: (v, .var T [.d (.lit (.map (some (ρ M))))]) :: l) k = some f → ex ρ tv k f = some b → ∃ f', find l k = some f' ∧ ex ρ tv k f' = some b ∧ lo f' = lo f := by
    intro k f b hk hb
    rcases hcl k f hk with ⟨_, rfl⟩ | ⟨rfl, rfl⟩ | ⟨_, h3⟩
    · cases hb
    · exact ⟨_, hv, hb, rfl⟩
    · exact ⟨f, h3, hb, rfl⟩
  have hvol : ∀ p, vol (find ((999, F.rel [M] (fun bs _ => bs = [ρ M])) :: (v, .var T [.d (.lit (.map (some (ρ M))))]) :: l)) ρ tv p → vol (find l) ρ tv p := by
    rintro p ⟨k, f, h1, h2, h3⟩
    obtain ⟨f', h4, h5, h6⟩ := hex k f _ h1 h2
    exact ⟨k, f', h4, h5, h6 ▸ h3⟩
  have hgt : tv g = .map (some (ρ M)) := hrr.rel g _ hg
  refine ⟨hdf, hsz, hfr, ρ, tv, htv, hin, fun p hp => hvz p (hvol p hp), hrr.to (Nat.le_refl _) (fun p hp => ⟨fun h => hp.2.2 (hvol p h), rfl⟩) (fun k f hk => ?_) (fun k f k' f' b h1 h2 h3 h4 => ?_) (fun k f b h1 h2 => ?_)⟩
  · rcases hcl k f hk with ⟨_, rfl⟩ | ⟨rfl, rfl⟩ | ⟨_, h3⟩
    · exact .inr rfl
    · obtain ⟨vs, hb, hc⟩ := hrr.rel k _ hv
      refine .inr ⟨vs, hb, ?_⟩
      match vs, hc with
      | [u], hc =>
        have hu : u = tv g := hc.1.1
        refine ⟨?_, trivial⟩
        rw [hu, hgt]; exact .lit _ rfl
    · exact .inl ⟨h3, hrr.same h3 rfl (fun _ _ => rfl) (fun _ _ _ => rfl) (fun _ _ _ => rfl) (fun _ _ => rfl)⟩
  · obtain ⟨f1, a1, a2, _⟩ := hex _ _ _ h1 h3
    obtain ⟨f2, b1, b2, _⟩ := hex _ _ _ h2 h4
    exact hrr.dist _ _ _ _ _ a1 b1 a2 b2
  · obtain ⟨f1, a1, a2, _⟩ := hex _ _ _ h1 h2
    exact hrr.exb _ _ _ a1 a2

theorem RE_seq {P : Program} {n : Nat} {ins : List Nat} {l l1 : List (Nat × F)} {x y : Code} {e : Env} {Q : Exit → Act → World → Prop} {a : Act} {w : World} {r : Option Nat} (hx : J P n ins l x (fun z l' => z = .normal ∧ sub l1 l')) (hn : e.n = n) (hi : e.ins = ins)
    (hR : R e (find l) a w) (hy : ∀ a w, R e (find l1) a w → y.wpIn (FR r) 0 P Q a w) : (Code.seq x y).wpIn (FR r) 0 P Q a w :=
  wpIn_seq (hx r e _ hn hi (fun z l' a w hz hR' => by
    obtain ⟨rfl, hs⟩ := hz
    exact hy a w (hR'.weak (sub_ok hs))) a w hR)

end Go.Proofs.YtlagglkpbnbmeaaGreatDoor
