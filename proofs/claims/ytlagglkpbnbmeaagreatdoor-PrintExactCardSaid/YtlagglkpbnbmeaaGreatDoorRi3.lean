/- The program's tree: patterns that are right. -/
import Derived.Test.YtlagglkpbnbmeaaGreatDoorShC
import Derived.Test.YtlagglkpbnbmeaaGreatDoorShZ
import Derived.Test.YtlagglkpbnbmeaaGreatDoorRi2
namespace Go.Proofs.YtlagglkpbnbmeaaGreatDoor
open Go Go.RowKit
set_option maxRecDepth 100000
set_option maxHeartbeats 4000000
set_option linter.unusedVariables false
set_option linter.unusedSimpArgs false

def contP (s : List (List UInt8)) (q : Pa) : Bool := okPa q && !(decide (q.kind = 2) && s.contains q.nm)
def stepP (s : List (List UInt8)) (q : Pa) : List (List UInt8) := if contP s q && decide (q.kind = 2) then s ++ [q.nm] else s
def mCheckPat (p : Pa) : Bool := (runL contP stepP [] p.list).1

theorem cPats {n : Nat} (hn : n ≤ 1000000000) (mb : Nat) (C : List Nat → Value → Prop) (rec : Bool → Obj → Prop) (cont : List (List UInt8) → Pa → Bool) (step : List (List UInt8) → Pa → List (List UInt8))
    (hY : ∀ s y, PaK n y → ConV Tryz.prog [3000, 3001, 3002, 3003] C [.agg (paX y)] [(3001, erF true), (3002, mbF mb), (3003, seenF s), (3000, .ob (rec true))] (.c (.lit (.bool (cont s y)))) [(3001, erF (cont s y)), (3002, mbF mb), (3003, seenF (step s y)), (3000, .ob (rec (cont s y)))])
    {p : Pa} (hp : PaK n p) (z0 : List (List UInt8)) : Con Tryz.prog 107 [.rel [3000, 3001, 3002, 3003] C, .el (paX p) 0] [(3001, erF true), (3002, mbF mb), (3003, seenF z0), (3000, .ob (rec true))] (.tup []) [(3001, erF (runL cont step z0 p.list).1), (3002, mbF mb), (3003, seenF (runL cont step z0 p.list).2), (3000, .ob (rec (runL cont step z0 p.list).1))] := by
  have hg := gPats hn mb C rec cont step hY hp z0; refine gg [38,37,21,7,2] ?_; refine u rfl rfl (r_call (hg) rfl rfl rfl ⟨rfl, rfl, rfl, rfl, trivial⟩ (by kernel_rfl)) ?_; refine jd ?_; exact ⟨.inr rfl, _, rfl, .refl _, rfl, rfl, rfl, rfl, trivial⟩

theorem cExprs {n : Nat} (hn : n ≤ 1000000000) (C : List Nat → Value → Prop) (rec : Bool → Obj → Prop) (cont : Unit → Ex → Bool) (step : Unit → Ex → Unit)
    (hY : ∀ s y, ExK n y → ConV Tryz.prog [3000, 3001] C [.agg (exX y)] [(3001, erF true), (3000, .ob (rec true))] (.c (.lit (.bool (cont s y)))) [(3001, erF (cont s y)), (3000, .ob (rec (cont s y)))])
    {p : Ex} (hp : ExK n p) (z0 : Unit) : Con Tryz.prog 93 [.rel [3000, 3001] C, .el (exX p) 0] [(3001, erF true), (3000, .ob (rec true))] (.tup []) [(3001, erF (runL cont step z0 p.list).1), (3000, .ob (rec (runL cont step z0 p.list).1))] := by
  have hg := gExprs hn C rec cont step hY hp z0; refine gg [38,37,21,16,2] ?_; refine gc (hg) [0] ?_; exact ⟨.inr rfl, _, rfl, .refl _, rfl, rfl, trivial⟩

theorem tPats (p : Pa) : Con Tryz.prog 67 [.agg (paX p)] [] (.clo 107 (paX p)) [] := by
  refine gg [38,5,22,2001,1,0,9,3,2001,2,1,5] ?_; refine u rfl rfl (r_makeFunc rfl rfl rfl rfl rfl rfl) ?_; refine gg [1,0,9,1,2,33] ?_; exact ⟨.inl rfl, _, rfl, .refl _, trivial⟩

theorem tAll (p : Ex) : Con Tryz.prog 54 [.agg (exX p)] [] (.clo 93 (exX p)) [] := by
  refine gg [38,5,22,2001,1,0,9,3,2001,2,1,5] ?_; refine u rfl rfl (r_makeFunc rfl rfl rfl rfl rfl rfl) ?_; refine gg [1,0,9,1,2,33] ?_; exact ⟨.inl rfl, _, rfl, .refl _, trivial⟩

def stP (mb : Nat) (b : Bool) (s : List (List UInt8)) : List (Nat × F) := [(3001, erF b), (3002, mbF mb), (3003, seenF s)]
def tfP (mb : Nat) : List (Nat × F) := [(2, .ptr 3001 0), (3, .ptr 3002 0), (999, .rel [3003] fun bs _ => bs = [mb])]
def lbP (mb : Nat) (s : List (List UInt8)) (y : Pa) : List (Nat × F) := (4, .ptr 2004 0) :: (2004, .var 40 ((paX y).map .d)) :: (tfP mb ++ stP mb true s)
theorem tCheckPat {n : Nat} (hn : n ≤ 1000000000) {p : Pa} (hp : PaK n p) : Con Tryz.prog 32 [.agg (paX p)] [] (.c (.lit (.int .i64 (if mCheckPat p then 0 else 1)))) [] := by
  have hone : ∀ {y : Pa}, PaK n y → Con Tryz.prog 68 [.agg (paX y)] [] (.c (.lit (.bool (okPa y)))) [] := fun hy => tOnePat hn hy
  refine con_range rfl rfl (by kernel_rfl) rfl ⟨_, _, rfl⟩ (fun e a w Q hen hi hds hR hQ => ?_); refine RE_seq (l1 := [(1, .ptr 2001 0), (2, .ptr 3001 0), (2001, .var 40 ((paX p).map .d)), (3001, erF true)]) ?_ hen hi hR (fun a1 wd1 hR1 => ?_)
  · skip
    refine gg [37,22,2001] ?_; refine u rfl rfl (r_alloc (x := 3001) (zs := [.int .i64 0]) [.lit (.int .i64 0)] rfl rfl rfl (by kernel_rfl) ⟨.refl _, trivial⟩) ?_; refine jd ?_; exact ⟨rfl, rfl, rfl, rfl, rfl, trivial⟩
  refine RE_seq (l1 := [(1, .ptr 2001 0), (2, .ptr 3001 0), (3, .ptr 3002 0), (2001, .var 40 ((paX p).map .d)), (3001, erF true), (3002, .var 92 [.gh 1100]), (1100, .ptr 3003 mapT), (3003, seenF [])]) ?_ hen hi hR1 (fun a2 wd2 hR2 => ?_)
  · skip
    refine gg [37] ?_; refine u rfl rfl (r_makeMap (x := 3003) rfl rfl rfl) ?_; refine u rfl rfl (r_alloc (x := 3002) (zs := [.map none]) [.lit (.map none)] rfl rfl rfl (by kernel_rfl) ⟨.refl _, trivial⟩) ?_; refine u rfl rfl (r_storePtr 1100 rfl rfl (by kernel_rfl) rfl rfl (by kernel_rfl) rfl (by kernel_rfl)) ?_; refine jd ?_; exact ⟨rfl, rfl, rfl, rfl, rfl, rfl, rfl, rfl, rfl, trivial⟩
  obtain ⟨mb, hR2⟩ := R_pin (v := 3002) (M := 3003) (g := 1100) rfl rfl hR2; refine wpIn_seq ?_; refine RE_seq (l1 := ((7, .clo 107 (paX p)) :: ([(2, .ptr 3001 0), (3, .ptr 3002 0), (999, .rel [3003] fun bs _ => bs = [mb])] ++ [(3001, erF true), (3002, mbF mb), (3003, seenF [])]))) ?_ hen hi hR2 (fun a3 wd3 hR3 => ?_)
  · skip
    refine gg [37,20,7] ?_; refine gc (tPats p) [0] ?_; exact ⟨rfl, rfl, rfl, rfl, rfl, rfl, rfl, rfl, trivial⟩
  refine wpIn_block ?_; refine RE_range (α := List (List UInt8)) (β := Pa) (n := 32) (p := 8) (Lk := 3000) (ks := [3001, 3002, 3003]) (tf := tfP mb) (St := stP mb) (enc := paX) (cont := contP) (step := stepP) (lB := lbP mb) (PY := fun _ y => PaK n y) (s0 := []) (s1 := (runL contP stepP [] p.list).2) (ok := (runL contP stepP [] p.list).1)
    (by decide) (by decide) rfl (fun _ _ => rfl) (by decide) (by decide) (fun s y hy => ?_) (fun s y hy => ?_) (by decide) (by kernel_rfl) (fun C rec hc => cPats hn mb C rec contP stepP hc hp []) hen hds hR3 ⟨rfl, rfl, rfl, rfl, rfl, rfl, rfl, trivial⟩ rfl (fun z e2 a4 wd4 dD hz h2n h2i hR4 hB => ?_)
  · skip
    refine gg [37,24,2004,10,0] ?_; exact ⟨rfl, rfl, rfl, rfl, rfl, rfl, rfl, rfl, rfl, trivial⟩
  · have hnm : y.nm.length ≤ n := by cases hy; assumption
    rcases hs : s.contains y.nm with _ | _
    · skip
      refine gg [35,31,5,20,7] ?_; refine JR.runC rfl rfl (cl (hone hy)) rfl ?_ ?_
      · intro h10; refine gg [15,2,6,0,1,7] ?_; refine bE ?_ ?_
        · intro h15; refine gg [2] ?_; refine u rfl rfl (r_loadPin rfl rfl (by kernel_rfl) rfl rfl rfl rfl) ?_; refine gg [6,3,1,7] ?_; refine u rfl rfl (r_lookup (dk := .string) (0) rfl rfl (by kernel_rfl) rfl rfl rfl trivial seenV_key (.inl ⟨seenV_no hs, rfl⟩)) ?_; refine u rfl rfl (r_gtI rfl rfl rfl rfl) ?_; refine gg [16,17,0,9,9,3003,3002,3001,2004,999,23,4,3,2,8,34,5,6,0,1,7] ?_; refine bE ?_ ?_
          · intro h26; refine gg [0,9,9,3003,3002,3001,2004,999,26,4,3,2,32,37] ?_; refine u rfl rfl (r_loadPin rfl rfl (by kernel_rfl) rfl rfl rfl rfl) ?_; refine gg [6,3,1,7] ?_; refine u rfl rfl (r_lookup (dk := .string) (0) rfl rfl (by kernel_rfl) rfl rfl rfl trivial seenV_key (.inl ⟨seenV_no hs, rfl⟩)) ?_; refine gg [27] ?_; refine u rfl rfl (r_mapPush (dk := .string) rfl rfl (by kernel_rfl) rfl rfl rfl rfl trivial seenV_key (seenV_no hs)) ?_; refine jd ?_; have hct : contP s y = true := by unfold contP; simp_all
            have hst : stepP s y = s ++ [y.nm] := by unfold stepP; rw [hct]; simp_all
            rw [hct, hst]; exact ⟨.inl ⟨rfl, rfl⟩, rfl, rfl, by rw [show seenF (s ++ [y.nm]) = .var mapT (vmap (seenV s ++ [(str y.nm, 1)])) from by rw [seenF, seenV_snoc]]; rfl, trivial⟩
          intro h26; refine gg [0,9,9,3003,3002,3001,2004,999,26,4,3,2,8,34] ?_; have hct : contP s y = true := by unfold contP; simp_all
          have hst : stepP s y = s := by unfold stepP; rw [hct]; simp_all
          rw [hct, hst]; exact ⟨.inl ⟨rfl, rfl⟩, rfl, rfl, rfl, trivial⟩
        intro h15; refine gg [2,39,5,17,17,0,9,9,3003,3002,3001,2004,999,23,4,3,2,8,34,5,6,0,1,7] ?_; refine bE ?_ ?_
        · intro h26; refine gg [0,9,9,3003,3002,3001,2004,999,26,4,3,2,32,37] ?_; refine u rfl rfl (r_loadPin rfl rfl (by kernel_rfl) rfl rfl rfl rfl) ?_; refine gg [6,3,1,7] ?_; refine u rfl rfl (r_lookup (dk := .string) (0) rfl rfl (by kernel_rfl) rfl rfl rfl trivial seenV_key (.inl ⟨seenV_no hs, rfl⟩)) ?_; refine gg [27] ?_; refine u rfl rfl (r_mapPush (dk := .string) rfl rfl (by kernel_rfl) rfl rfl rfl rfl trivial seenV_key (seenV_no hs)) ?_; refine jd ?_; have hct : contP s y = true := by unfold contP; simp_all
          have hst : stepP s y = s ++ [y.nm] := by unfold stepP; rw [hct]; simp_all
          rw [hct, hst]; exact ⟨.inl ⟨rfl, rfl⟩, rfl, rfl, by rw [show seenF (s ++ [y.nm]) = .var mapT (vmap (seenV s ++ [(str y.nm, 1)])) from by rw [seenF, seenV_snoc]]; rfl, trivial⟩
        intro h26; refine gg [0,9,9,3003,3002,3001,2004,999,26,4,3,2,8,34] ?_; have hct : contP s y = true := by unfold contP; simp_all
        have hst : stepP s y = s := by unfold stepP; rw [hct]; simp_all
        rw [hct, hst]; exact ⟨.inl ⟨rfl, rfl⟩, rfl, rfl, rfl, trivial⟩
      intro h10; refine gg [15,2,39,10,16,0,9,9,3003,3002,3001,2004,999,23,4,3,2,32,5,11,0,9,8,3003,3002,3001,2004,999,4,3,2,33] ?_; have hcf : contP s y = false := by unfold contP; simp_all
      have hst : stepP s y = s := by unfold stepP; rw [hcf]; rfl
      rw [hcf, hst]; exact ⟨.inr ⟨rfl, rfl⟩, rfl, rfl, rfl, trivial⟩
    skip
    refine gg [35,31,5,20,7] ?_; refine JR.runC rfl rfl (cl (hone hy)) rfl ?_ ?_
    · intro h10; refine gg [15,2,6,0,1,7] ?_; refine bE ?_ ?_
      · intro h15; refine gg [2] ?_; refine u rfl rfl (r_loadPin rfl rfl (by kernel_rfl) rfl rfl rfl rfl) ?_; refine gg [6,3,1,7] ?_; refine u rfl rfl (r_lookup (dk := .string) (1) rfl rfl (by kernel_rfl) rfl rfl rfl trivial seenV_key (.inr (seenV_yes hs))) ?_; refine u rfl rfl (r_gtI rfl rfl rfl rfl) ?_; refine gg [16,17,0,9,9,3003,3002,3001,2004,999,23,4,3,2,32,5,11,0,9,8,3003,3002,3001,2004,999,4,3,2,33] ?_; have hcf : contP s y = false := by unfold contP; simp_all
        have hst : stepP s y = s := by unfold stepP; rw [hcf]; rfl
        rw [hcf, hst]; exact ⟨.inr ⟨rfl, rfl⟩, rfl, rfl, rfl, trivial⟩
      intro h15; refine gg [2,39,5,17,17,0,9,9,3003,3002,3001,2004,999,23,4,3,2,8,34,5,6,0,1,7] ?_; refine bE ?_ ?_
      · intro h26; exact absurd h26 h15
      intro h26; refine gg [0,9,9,3003,3002,3001,2004,999,26,4,3,2,8,34] ?_; have hct : contP s y = true := by unfold contP; simp_all
      have hst : stepP s y = s := by unfold stepP; rw [hct]; simp_all
      rw [hct, hst]; exact ⟨.inl ⟨rfl, rfl⟩, rfl, rfl, rfl, trivial⟩
    intro h10; refine gg [15,2,39,10,16,0,9,9,3003,3002,3001,2004,999,23,4,3,2,32,5,11,0,9,8,3003,3002,3001,2004,999,4,3,2,33] ?_; have hcf : contP s y = false := by unfold contP; simp_all
    have hst : stepP s y = s := by unfold stepP; rw [hcf]; rfl
    rw [hcf, hst]; exact ⟨.inr ⟨rfl, rfl⟩, rfl, rfl, rfl, trivial⟩
  rcases hz with ⟨rfl, hok⟩ | ⟨rfl, hok⟩
  · show Code.wpIn _ _ _ _ Q _ _
    rw [hok] at hR4; refine FinM.tail (rs := [.cell 2 33]) h2n h2i hR4 hB ?_ hQ; refine gg [5,11,0,9,2,3001,2,33] ?_; refine ⟨.inl rfl, ?_⟩
    show _ = some (F.c (.lit (.int .i64 (if mCheckPat p then 0 else 1))))
    rw [show mCheckPat p = true from hok]; rfl
  refine hQ _ _ _ ⟨.inl rfl, e2, _, dD, hR4, ?_, hB⟩
  show _ = some (F.c (.lit (.int .i64 (if mCheckPat p then 0 else 1))))
  rw [hok, show mCheckPat p = false from hok]; rfl

end Go.Proofs.YtlagglkpbnbmeaaGreatDoor
