/- The program's tree: patterns that are right. -/
import Derived.Test.YtlagglkpbnbmeaaRi2
namespace Go.Proofs.Ytlagglkpbnbmeaa
open Go Go.RowKit
set_option maxRecDepth 100000
set_option maxHeartbeats 4000000
set_option linter.unusedVariables false
set_option linter.unusedSimpArgs false

def contP (s : List (List UInt8)) (q : Pa) : Bool := okPa q && !(decide (q.kind = 2) && s.contains q.nm)
def stepP (s : List (List UInt8)) (q : Pa) : List (List UInt8) := if contP s q && decide (q.kind = 2) then s ++ [q.nm] else s
def mCheckPat (p : Pa) : Bool := (runL contP stepP [] p.list).1

theorem cPats {n : Nat} (hn : n ≤ 1000000000) (mb : Nat) (C : List Nat → Value → Prop) (rec : Bool → Obj → Prop) (cont : List (List UInt8) → Pa → Bool) (step : List (List UInt8) → Pa → List (List UInt8))
    (hY : ∀ s y, PaK n y → ConV Try.prog [3000, 3001, 3002, 3003] C [.agg (paX y)] [(3001, erF true), (3002, mbF mb), (3003, seenF s), (3000, .ob (rec true))] (.c (.lit (.bool (cont s y)))) [(3001, erF (cont s y)), (3002, mbF mb), (3003, seenF (step s y)), (3000, .ob (rec (cont s y)))])
    {p : Pa} (hp : PaK n p) (z0 : List (List UInt8)) : Con Try.prog 63 [.rel [3000, 3001, 3002, 3003] C, .el (paX p) 0] [(3001, erF true), (3002, mbF mb), (3003, seenF z0), (3000, .ob (rec true))] (.tup []) [(3001, erF (runL cont step z0 p.list).1), (3002, mbF mb), (3003, seenF (runL cont step z0 p.list).2), (3000, .ob (rec (runL cont step z0 p.list).1))] := by
  have hg := gPats hn mb C rec cont step hY hp z0
  refine con_intro rfl rfl (by kernel_rfl) (by kernel_rfl) ?_
  refine JR.start ?_
  refine u rfl rfl (eA 7) ?_
  refine u rfl rfl mv ?_
  refine u rfl rfl (r_call (hg) rfl rfl rfl ⟨rfl, rfl, rfl, rfl, trivial⟩ (by kernel_rfl)) ?_
  refine jd ?_
  exact ⟨.inr rfl, _, rfl, .refl _, rfl, rfl, rfl, rfl, trivial⟩

theorem cExprs {n : Nat} (hn : n ≤ 1000000000) (C : List Nat → Value → Prop) (rec : Bool → Obj → Prop) (cont : Unit → Ex → Bool) (step : Unit → Ex → Unit)
    (hY : ∀ s y, ExK n y → ConV Try.prog [3000, 3001] C [.agg (exX y)] [(3001, erF true), (3000, .ob (rec true))] (.c (.lit (.bool (cont s y)))) [(3001, erF (cont s y)), (3000, .ob (rec (cont s y)))])
    {p : Ex} (hp : ExK n p) (z0 : Unit) : Con Try.prog 27 [.rel [3000, 3001] C, .el (exX p) 0] [(3001, erF true), (3000, .ob (rec true))] (.tup []) [(3001, erF (runL cont step z0 p.list).1), (3000, .ob (rec (runL cont step z0 p.list).1))] := by
  have hg := gExprs hn C rec cont step hY hp z0
  refine con_intro rfl rfl (by kernel_rfl) (by kernel_rfl) ?_
  refine JR.start ?_
  refine u rfl rfl (eA 16) ?_
  refine u rfl rfl mv ?_
  refine u rfl rfl (cl (hg)) ?_
  refine jd ?_
  exact ⟨.inr rfl, _, rfl, .refl _, rfl, rfl, trivial⟩

theorem tPats (p : Pa) : Con Try.prog 52 [.agg (paX p)] [] (.clo 63 (paX p)) [] := by
  refine con_intro rfl rfl (by kernel_rfl) (by kernel_rfl) ?_
  refine js ?_
  refine u rfl rfl (r_boxA (x := 2001) rfl rfl rfl rfl) ?_
  refine u rfl rfl asg ?_
  refine jd ?_
  refine w3 1 2 2001 ?_
  refine js ?_
  refine u rfl rfl (r_makeFunc rfl rfl rfl rfl rfl rfl) ?_
  refine u rfl rfl asg ?_
  refine jd ?_
  refine w1 2 ?_
  refine J_ret ?_
  exact ⟨.inl rfl, _, rfl, .refl _, trivial⟩

theorem tAll (p : Ex) : Con Try.prog 10 [.agg (exX p)] [] (.clo 27 (exX p)) [] := by
  refine con_intro rfl rfl (by kernel_rfl) (by kernel_rfl) ?_
  refine js ?_
  refine u rfl rfl (r_boxA (x := 2001) rfl rfl rfl rfl) ?_
  refine u rfl rfl asg ?_
  refine jd ?_
  refine w3 1 2 2001 ?_
  refine js ?_
  refine u rfl rfl (r_makeFunc rfl rfl rfl rfl rfl rfl) ?_
  refine u rfl rfl asg ?_
  refine jd ?_
  refine w1 2 ?_
  refine J_ret ?_
  exact ⟨.inl rfl, _, rfl, .refl _, trivial⟩

def stP (mb : Nat) (b : Bool) (s : List (List UInt8)) : List (Nat × F) := [(3001, erF b), (3002, mbF mb), (3003, seenF s)]
def tfP (mb : Nat) : List (Nat × F) := [(2, .ptr 3001 0), (3, .ptr 3002 0), (999, .rel [3003] fun bs _ => bs = [mb])]
def lbP (mb : Nat) (s : List (List UInt8)) (y : Pa) : List (Nat × F) := (4, .ptr 2004 0) :: (2004, .var 54 ((paX y).map .d)) :: (tfP mb ++ stP mb true s)
theorem tCheckPat {n : Nat} (hn : n ≤ 1000000000) {p : Pa} (hp : PaK n p) : Con Try.prog 33 [.agg (paX p)] [] (.c (.lit (.int .i64 (if mCheckPat p then 0 else 1)))) [] := by
  have hone : ∀ {y : Pa}, PaK n y → Con Try.prog 53 [.agg (paX y)] [] (.c (.lit (.bool (okPa y)))) [] := fun hy => tOnePat hn hy
  refine con_range rfl rfl (by kernel_rfl) rfl ⟨_, _, rfl⟩ (fun e a w Q hen hi hds hR hQ => ?_)
  refine RE_seq (l1 := [(1, .ptr 2001 0), (2, .ptr 3001 0), (2001, .var 54 ((paX p).map .d)), (3001, erF true)]) ?_ hen hi hR (fun a1 wd1 hR1 => ?_)
  · skip
    refine JR.start ?_
    refine u rfl rfl (r_boxA (x := 2001) rfl rfl rfl rfl) ?_
    refine u rfl rfl (r_alloc (x := 3001) (zs := [.int .i64 0]) [.lit (.int .i64 0)] rfl rfl rfl (by kernel_rfl) ⟨.refl _, trivial⟩) ?_
    refine jd ?_
    exact ⟨rfl, rfl, rfl, rfl, rfl, trivial⟩
  refine RE_seq (l1 := [(1, .ptr 2001 0), (2, .ptr 3001 0), (3, .ptr 3002 0), (2001, .var 54 ((paX p).map .d)), (3001, erF true), (3002, .var 86 [.gh 1100]), (1100, .ptr 3003 mapT), (3003, seenF [])]) ?_ hen hi hR1 (fun a2 wd2 hR2 => ?_)
  · skip
    refine JR.start ?_
    refine u rfl rfl (r_makeMap (x := 3003) rfl rfl rfl) ?_
    refine u rfl rfl (r_alloc (x := 3002) (zs := [.map none]) [.lit (.map none)] rfl rfl rfl (by kernel_rfl) ⟨.refl _, trivial⟩) ?_
    refine u rfl rfl (r_storePtr 1100 rfl rfl (by kernel_rfl) rfl rfl (by kernel_rfl) rfl (by kernel_rfl)) ?_
    refine jd ?_
    exact ⟨rfl, rfl, rfl, rfl, rfl, rfl, rfl, rfl, rfl, trivial⟩
  obtain ⟨mb, hR2⟩ := R_pin (v := 3002) (M := 3003) (g := 1100) rfl rfl hR2
  refine wpIn_seq ?_
  refine RE_seq (l1 := ((7, .clo 63 (paX p)) :: ([(2, .ptr 3001 0), (3, .ptr 3002 0), (999, .rel [3003] fun bs _ => bs = [mb])] ++ [(3001, erF true), (3002, mbF mb), (3003, seenF [])]))) ?_ hen hi hR2 (fun a3 wd3 hR3 => ?_)
  · skip
    refine JR.start ?_
    refine u rfl rfl (lA 7) ?_
    refine u rfl rfl (cl (tPats p)) ?_
    refine jd ?_
    exact ⟨rfl, rfl, rfl, rfl, rfl, rfl, rfl, rfl, trivial⟩
  refine wpIn_block ?_
  refine RE_range (α := List (List UInt8)) (β := Pa) (n := 32) (p := 8) (Lk := 3000) (ks := [3001, 3002, 3003]) (tf := tfP mb) (St := stP mb) (enc := paX) (cont := contP) (step := stepP) (lB := lbP mb) (PY := fun _ y => PaK n y) (s0 := []) (s1 := (runL contP stepP [] p.list).2) (ok := (runL contP stepP [] p.list).1)
    (by decide) (by decide) rfl (fun _ _ => rfl) (by decide) (by decide) (fun s y hy => ?_) (fun s y hy => ?_) (by decide) (by kernel_rfl) (fun C rec hc => cPats hn mb C rec contP stepP hc hp []) hen hds hR3 ⟨rfl, rfl, rfl, rfl, rfl, rfl, rfl, trivial⟩ rfl (fun z e2 a4 wd4 dD hz h2n h2i hR4 hB => ?_)
  · skip
    refine JR.start ?_
    refine u rfl rfl (r_alloc (x := 2004) (zs := zp) dp rfl rfl rfl (by kernel_rfl) kp) ?_
    refine u rfl rfl sA ?_
    refine jd ?_
    exact ⟨rfl, rfl, rfl, rfl, rfl, rfl, rfl, rfl, rfl, trivial⟩
  · have hnm : y.nm.length ≤ n := by cases hy; assumption
    rcases hs : s.contains y.nm with _ | _
    · skip
      refine J_block ?_
      refine J_seq ?_
      refine js ?_
      refine u rfl rfl (lA 7) ?_
      refine JR.runC rfl rfl (cl (hone hy)) rfl ?_ ?_
      · intro h10
        refine u rfl rfl nt ?_
        refine u rfl rfl mv ?_
        refine u rfl rfl (fA 0 1) ?_
        refine u rfl rfl ld ?_
        refine JR.runB rfl rfl (r_eqI rfl rfl rfl rfl) ?_ ?_
        · intro h15
          replace h15 := of_decide_eq_true h15
          refine u rfl rfl mv ?_
          refine u rfl rfl (r_loadPin rfl rfl (by kernel_rfl) rfl rfl rfl rfl) ?_
          refine u rfl rfl (fA 3 1) ?_
          refine u rfl rfl ld ?_
          refine u rfl rfl (r_lookup (dk := .string) (0) rfl rfl (by kernel_rfl) rfl rfl rfl trivial seenV_key (.inl ⟨seenV_no hs, rfl⟩)) ?_
          refine u rfl rfl (r_gtI rfl rfl rfl rfl) ?_
          refine u rfl rfl pT ?_
          refine u rfl rfl pF ?_
          refine jd ?_
          refine w9 2 3 4 23 999 2004 3001 3002 3003 ?_
          refine J_condF rfl ?_
          refine J_skip ?_
          refine js ?_
          refine u rfl rfl (fA 0 1) ?_
          refine u rfl rfl ld ?_
          refine JR.runB rfl rfl (r_eqI rfl rfl rfl rfl) ?_ ?_
          · intro h26
            replace h26 := of_decide_eq_true h26
            refine jd ?_
            refine w9 2 3 4 26 999 2004 3001 3002 3003 ?_
            refine J_condT rfl ?_
            refine JR.start ?_
            refine u rfl rfl (r_loadPin rfl rfl (by kernel_rfl) rfl rfl rfl rfl) ?_
            refine u rfl rfl (fA 3 1) ?_
            refine u rfl rfl ld ?_
            refine u rfl rfl (r_lookup (dk := .string) (0) rfl rfl (by kernel_rfl) rfl rfl rfl trivial seenV_key (.inl ⟨seenV_no hs, rfl⟩)) ?_
            refine u rfl rfl (r_addI rfl rfl rfl rfl (by omega)) ?_
            refine u rfl rfl (r_mapPush (dk := .string) rfl rfl (by kernel_rfl) rfl rfl rfl rfl trivial seenV_key (seenV_no hs)) ?_
            refine jd ?_
            have hct : contP s y = true := by unfold contP; simp_all
            have hst : stepP s y = s ++ [y.nm] := by unfold stepP; rw [hct]; simp_all
            rw [hct, hst]
            exact ⟨.inl ⟨rfl, rfl⟩, rfl, rfl, by rw [show seenF (s ++ [y.nm]) = .var mapT (vmap (seenV s ++ [(str y.nm, 1)])) from by rw [seenF, seenV_snoc]]; rfl, trivial⟩
          · intro h26
            replace h26 := of_decide_eq_false h26
            refine jd ?_
            refine w9 2 3 4 26 999 2004 3001 3002 3003 ?_
            refine J_condF rfl ?_
            refine J_skip ?_
            have hct : contP s y = true := by unfold contP; simp_all
            have hst : stepP s y = s := by unfold stepP; rw [hct]; simp_all
            rw [hct, hst]
            exact ⟨.inl ⟨rfl, rfl⟩, rfl, rfl, rfl, trivial⟩
        · intro h15
          replace h15 := of_decide_eq_false h15
          refine u rfl rfl mv ?_
          refine sk ?_
          refine sk ?_
          refine sk ?_
          refine sk ?_
          refine sk ?_
          refine u rfl rfl pF ?_
          refine u rfl rfl pF ?_
          refine jd ?_
          refine w9 2 3 4 23 999 2004 3001 3002 3003 ?_
          refine J_condF rfl ?_
          refine J_skip ?_
          refine js ?_
          refine u rfl rfl (fA 0 1) ?_
          refine u rfl rfl ld ?_
          refine JR.runB rfl rfl (r_eqI rfl rfl rfl rfl) ?_ ?_
          · intro h26
            replace h26 := of_decide_eq_true h26
            refine jd ?_
            refine w9 2 3 4 26 999 2004 3001 3002 3003 ?_
            refine J_condT rfl ?_
            refine JR.start ?_
            refine u rfl rfl (r_loadPin rfl rfl (by kernel_rfl) rfl rfl rfl rfl) ?_
            refine u rfl rfl (fA 3 1) ?_
            refine u rfl rfl ld ?_
            refine u rfl rfl (r_lookup (dk := .string) (0) rfl rfl (by kernel_rfl) rfl rfl rfl trivial seenV_key (.inl ⟨seenV_no hs, rfl⟩)) ?_
            refine u rfl rfl (r_addI rfl rfl rfl rfl (by omega)) ?_
            refine u rfl rfl (r_mapPush (dk := .string) rfl rfl (by kernel_rfl) rfl rfl rfl rfl trivial seenV_key (seenV_no hs)) ?_
            refine jd ?_
            have hct : contP s y = true := by unfold contP; simp_all
            have hst : stepP s y = s ++ [y.nm] := by unfold stepP; rw [hct]; simp_all
            rw [hct, hst]
            exact ⟨.inl ⟨rfl, rfl⟩, rfl, rfl, by rw [show seenF (s ++ [y.nm]) = .var mapT (vmap (seenV s ++ [(str y.nm, 1)])) from by rw [seenF, seenV_snoc]]; rfl, trivial⟩
          · intro h26
            replace h26 := of_decide_eq_false h26
            refine jd ?_
            refine w9 2 3 4 26 999 2004 3001 3002 3003 ?_
            refine J_condF rfl ?_
            refine J_skip ?_
            have hct : contP s y = true := by unfold contP; simp_all
            have hst : stepP s y = s := by unfold stepP; rw [hct]; simp_all
            rw [hct, hst]
            exact ⟨.inl ⟨rfl, rfl⟩, rfl, rfl, rfl, trivial⟩
      · intro h10
        refine u rfl rfl nt ?_
        refine u rfl rfl mv ?_
        refine sk ?_
        refine sk ?_
        refine sk ?_
        refine sk ?_
        refine sk ?_
        refine sk ?_
        refine sk ?_
        refine sk ?_
        refine sk ?_
        refine sk ?_
        refine u rfl rfl pT ?_
        refine jd ?_
        refine w9 2 3 4 23 999 2004 3001 3002 3003 ?_
        refine J_condT rfl ?_
        refine js ?_
        refine u rfl rfl sT ?_
        refine jd ?_
        refine w8 2 3 4 999 2004 3001 3002 3003 ?_
        refine J_ret ?_
        have hcf : contP s y = false := by unfold contP; simp_all
        have hst : stepP s y = s := by unfold stepP; rw [hcf]; rfl
        rw [hcf, hst]
        exact ⟨.inr ⟨rfl, rfl⟩, rfl, rfl, rfl, trivial⟩
    · skip
      refine J_block ?_
      refine J_seq ?_
      refine js ?_
      refine u rfl rfl (lA 7) ?_
      refine JR.runC rfl rfl (cl (hone hy)) rfl ?_ ?_
      · intro h10
        refine u rfl rfl nt ?_
        refine u rfl rfl mv ?_
        refine u rfl rfl (fA 0 1) ?_
        refine u rfl rfl ld ?_
        refine JR.runB rfl rfl (r_eqI rfl rfl rfl rfl) ?_ ?_
        · intro h15
          replace h15 := of_decide_eq_true h15
          refine u rfl rfl mv ?_
          refine u rfl rfl (r_loadPin rfl rfl (by kernel_rfl) rfl rfl rfl rfl) ?_
          refine u rfl rfl (fA 3 1) ?_
          refine u rfl rfl ld ?_
          refine u rfl rfl (r_lookup (dk := .string) (1) rfl rfl (by kernel_rfl) rfl rfl rfl trivial seenV_key (.inr (seenV_yes hs))) ?_
          refine u rfl rfl (r_gtI rfl rfl rfl rfl) ?_
          refine u rfl rfl pT ?_
          refine u rfl rfl pF ?_
          refine jd ?_
          refine w9 2 3 4 23 999 2004 3001 3002 3003 ?_
          refine J_condT rfl ?_
          refine js ?_
          refine u rfl rfl sT ?_
          refine jd ?_
          refine w8 2 3 4 999 2004 3001 3002 3003 ?_
          refine J_ret ?_
          have hcf : contP s y = false := by unfold contP; simp_all
          have hst : stepP s y = s := by unfold stepP; rw [hcf]; rfl
          rw [hcf, hst]
          exact ⟨.inr ⟨rfl, rfl⟩, rfl, rfl, rfl, trivial⟩
        · intro h15
          replace h15 := of_decide_eq_false h15
          refine u rfl rfl mv ?_
          refine sk ?_
          refine sk ?_
          refine sk ?_
          refine sk ?_
          refine sk ?_
          refine u rfl rfl pF ?_
          refine u rfl rfl pF ?_
          refine jd ?_
          refine w9 2 3 4 23 999 2004 3001 3002 3003 ?_
          refine J_condF rfl ?_
          refine J_skip ?_
          refine js ?_
          refine u rfl rfl (fA 0 1) ?_
          refine u rfl rfl ld ?_
          refine JR.runB rfl rfl (r_eqI rfl rfl rfl rfl) ?_ ?_
          · intro h26
            replace h26 := of_decide_eq_true h26
            exact absurd h26 h15
          · intro h26
            replace h26 := of_decide_eq_false h26
            refine jd ?_
            refine w9 2 3 4 26 999 2004 3001 3002 3003 ?_
            refine J_condF rfl ?_
            refine J_skip ?_
            have hct : contP s y = true := by unfold contP; simp_all
            have hst : stepP s y = s := by unfold stepP; rw [hct]; simp_all
            rw [hct, hst]
            exact ⟨.inl ⟨rfl, rfl⟩, rfl, rfl, rfl, trivial⟩
      · intro h10
        refine u rfl rfl nt ?_
        refine u rfl rfl mv ?_
        refine sk ?_
        refine sk ?_
        refine sk ?_
        refine sk ?_
        refine sk ?_
        refine sk ?_
        refine sk ?_
        refine sk ?_
        refine sk ?_
        refine sk ?_
        refine u rfl rfl pT ?_
        refine jd ?_
        refine w9 2 3 4 23 999 2004 3001 3002 3003 ?_
        refine J_condT rfl ?_
        refine js ?_
        refine u rfl rfl sT ?_
        refine jd ?_
        refine w8 2 3 4 999 2004 3001 3002 3003 ?_
        refine J_ret ?_
        have hcf : contP s y = false := by unfold contP; simp_all
        have hst : stepP s y = s := by unfold stepP; rw [hcf]; rfl
        rw [hcf, hst]
        exact ⟨.inr ⟨rfl, rfl⟩, rfl, rfl, rfl, trivial⟩
  rcases hz with ⟨rfl, hok⟩ | ⟨rfl, hok⟩
  · show Code.wpIn _ _ _ _ Q _ _
    rw [hok] at hR4
    refine FinM.tail (rs := [.cell 2 32]) h2n h2i hR4 hB ?_ hQ
    refine js ?_
    refine u rfl rfl sT ?_
    refine jd ?_
    refine w2 2 3001 ?_
    refine J_ret ?_
    refine ⟨.inl rfl, ?_⟩
    show _ = some (F.c (.lit (.int .i64 (if mCheckPat p then 0 else 1))))
    rw [show mCheckPat p = true from hok]; rfl
  · refine hQ _ _ _ ⟨.inl rfl, e2, _, dD, hR4, ?_, hB⟩
    show _ = some (F.c (.lit (.int .i64 (if mCheckPat p then 0 else 1))))
    rw [hok, show mCheckPat p = false from hok]; rfl

end Go.Proofs.Ytlagglkpbnbmeaa
