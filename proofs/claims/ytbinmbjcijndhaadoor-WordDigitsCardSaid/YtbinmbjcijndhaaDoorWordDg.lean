/- The law WordDigits: which digits are a number's text. -/
import Derived.Test.YtbinmbjcijndhaaDoorWordC
import Derived.Test.YtbinmbjcijndhaaDoorWordNu
namespace Go.Proofs.YtbinmbjcijndhaaDoor
open Go Go.RowKit

set_option maxHeartbeats 2000000
set_option maxRecDepth 100000
set_option linter.unusedSimpArgs false

def dg (x : UInt8) : UInt8 := UInt8.ofNat (48 + x.toNat % 10)
def digs (l : List UInt8) : List UInt8 := l.map dg
def sgn (neg : Bool) : List UInt8 := if neg then [126] else []
theorem dg_nat (x : UInt8) : (dg x).toNat = 48 + x.toNat % 10 := digC_nat (by omega)
theorem digs_dig (l : List UInt8) : (digs l).all isDig = true := by
  unfold digs
  rw [List.all_map, List.all_eq_true]
  intro x _
  simp only [Function.comp, isDig_iff_, dg_nat]
  omega
theorem digs_len (l : List UInt8) : (digs l).length = l.length := by simp [digs]
theorem valD_lt : ∀ (n : Nat) (l : List UInt8), l.length = n → l.all isDig = true → valD 0 l < 10 ^ n
  | 0, l, h, _ => by
    rw [List.eq_nil_of_length_eq_zero h]
    decide
  | n + 1, l, h, hd => by
    have hne : l ≠ [] := by intro e; subst e; simp at h
    obtain ⟨i, c, rfl⟩ : ∃ i c, l = i ++ [c] := ⟨_, _, (List.dropLast_concat_getLast hne).symm⟩
    rw [List.length_append, List.length_singleton] at h
    simp only [List.all_append, List.all_cons, List.all_nil, Bool.and_true, Bool.and_eq_true, isDig_iff_] at hd
    have := valD_lt n i (by omega) hd.1
    rw [valD_snoc, Nat.pow_succ]
    omega
theorem dig_slice8 (d : Nat) (h : d < 10) (w : World) : (Instr.slice 9 (.string ⟨#[48, 49, 50, 51, 52, 53, 54, 55, 56, 57]⟩) (some (.int .u8 (d : Int))) (some (.int .u8 ((d : Int) + 1))) none).run Tryd.prog w = .ok (str [UInt8.ofNat (48 + d)]) w := by
  have hd : d = 0 ∨ d = 1 ∨ d = 2 ∨ d = 3 ∨ d = 4 ∨ d = 5 ∨ d = 6 ∨ d = 7 ∨ d = 8 ∨ d = 9 := by omega
  rcases hd with rfl | rfl | rfl | rfl | rfl | rfl | rfl | rfl | rfl | rfl <;> rfl

/-- how digits are read as a number -/
theorem parse_digs (x : UInt8) (r : List UInt8) (neg : Bool) : mParseNum (sgn neg ++ digs (x :: r)) = if decide ((x :: r).length ≤ 19) && !(decide (x.toNat % 10 = 0) && (neg || decide (1 < (x :: r).length))) then numRange neg (valD 0 (digs (x :: r))) else none := by
  have hd := digs_dig (x :: r)
  have hl := digs_len (x :: r)
  have hh : ((digs (x :: r)).head? == some 48) = decide (x.toNat % 10 = 0) := by
    have e : (digs (x :: r)).head? = some (dg x) := rfl
    rw [e]
    by_cases h : x.toNat % 10 = 0
    · rw [decide_eq_true h, beq_iff_eq]
      congr 1
      exact UInt8.toNat_inj.1 (by rw [dg_nat, h]; rfl)
    · rw [decide_eq_false h, beq_eq_false_iff_ne]
      intro e2
      injection e2 with e2
      have := congrArg UInt8.toNat e2
      rw [dg_nat] at this
      simp at this
      omega
  have key : ∀ S, mNeg S = neg → mMag S = digs (x :: r) → mParseNum S = if decide ((x :: r).length ≤ 19) && !(decide (x.toNat % 10 = 0) && (neg || decide (1 < (x :: r).length))) then numRange neg (valD 0 (digs (x :: r))) else none := by
    intro S h1 h2
    rw [mParseNum, h1, h2, hd, Bool.and_true, numShape, hh, hl]
    have h3 : decide (1 ≤ (x :: r).length) = true := by simp
    rw [h3, Bool.true_and]
  cases neg
  · refine key _ ?_ ?_
    · show mNeg (dg x :: digs r) = false
      simp only [mNeg, List.head?_cons]
      rw [beq_eq_false_iff_ne]
      intro e
      injection e with e
      have := congrArg UInt8.toNat e
      rw [dg_nat] at this
      simp at this
      omega
    · show mMag (dg x :: digs r) = _
      have hn : mNeg (dg x :: digs r) = false := by
        simp only [mNeg, List.head?_cons]
        rw [beq_eq_false_iff_ne]
        intro e
        injection e with e
        have := congrArg UInt8.toNat e
        rw [dg_nat] at this
        simp at this
        omega
      rw [mMag, hn]
      rfl
  · exact key _ rfl rfl

theorem take_min (k : Nat) (h : k < 19) : min (k + 1) 19 = k + 1 ∧ min k 19 = k := by omega

theorem may_law (x : UInt8) (r : List UInt8) (neg : Bool) (u : Nat) (hu : u = valD 0 (digs ((x :: r).take (min (x :: r).length 19)))) (may : Bool)
    (hm : may = (decide ((x :: r).length < 20) && (!decide (x.toNat % 10 = 0) || (decide ((x :: r).length = 1) && !neg)) && (decide (u ≤ 9223372036854775807) || (neg && decide (u = 9223372036854775808))))) :
    (may = false ∧ mParseNum (sgn neg ++ digs (x :: r)) = none) ∨ (may = true ∧ ∃ N : Int, mParseNum (sgn neg ++ digs (x :: r)) = some N ∧ ((neg = true ∧ N < 0) ∨ (neg = false ∧ 0 ≤ N ∧ N = (u : Int)))) := by
  rw [parse_digs]
  by_cases hn : (x :: r).length < 20
  · rw [List.take_of_length_le (by omega)] at hu
    rw [← hu]
    rw [decide_eq_true hn, Bool.true_and] at hm
    rw [decide_eq_true (show (x :: r).length ≤ 19 by omega), Bool.true_and]
    have hpos : ¬ x.toNat % 10 = 0 → 0 < u := by
      intro h
      rw [hu]
      refine valD_lead _ (digs_dig _) (by simp [digs]) ?_
      have e : (digs (x :: r)).head? = some (dg x) := rfl
      rw [e]
      intro e2
      injection e2 with e2
      have := congrArg UInt8.toNat e2
      rw [dg_nat] at this
      simp at this
      omega
    have hz0 : x.toNat % 10 = 0 → (x :: r).length = 1 → u = 0 := by
      intro h1 h2
      have : r = [] := by cases r with | nil => rfl | cons a b => simp at h2
      subst this
      rw [hu]
      show 0 * 10 + ((dg x).toNat - 48) = 0
      rw [dg_nat]
      omega
    have hlen : 1 ≤ (x :: r).length := by simp
    generalize (x :: r).length = n at *
    by_cases hz : x.toNat % 10 = 0
    · by_cases h1 : n = 1
      · have hu0 := hz0 hz h1
        subst h1
        cases neg
        · exact .inr ⟨by rw [hm]; simp [hz, hu0], 0, by simp [hz, numRange, hu0], .inr ⟨rfl, by omega, by rw [hu0]; rfl⟩⟩
        · exact .inl ⟨by rw [hm]; simp [hz], by simp [hz]⟩
      · have : 1 < n := by omega
        refine .inl ⟨by rw [hm]; simp [hz, h1], ?_⟩
        simp [hz, this]
    · have hp := hpos hz
      simp only [hz, decide_false, Bool.not_false, Bool.true_or, Bool.true_and, Bool.false_and, if_true] at hm ⊢
      cases neg
      · simp only [Bool.false_and, Bool.or_false] at hm
        by_cases hr : u ≤ 9223372036854775807
        · exact .inr ⟨by rw [hm]; simp [hr], _, by rw [numRange, if_neg (by decide), if_pos (by omega)], .inr ⟨rfl, by omega, rfl⟩⟩
        · exact .inl ⟨by rw [hm]; simp [hr], by rw [numRange, if_neg (by decide), if_neg (by omega)]⟩
      · simp only [Bool.true_and] at hm
        by_cases hr : u ≤ 9223372036854775808
        · refine .inr ⟨?_, _, by rw [numRange, if_pos rfl, if_pos hr], .inl ⟨rfl, by omega⟩⟩
          rw [hm, Bool.or_eq_true, decide_eq_true_eq, decide_eq_true_eq]
          omega
        · refine .inl ⟨?_, by rw [numRange, if_pos rfl, if_neg hr]⟩
          rw [hm, Bool.or_eq_false_iff, decide_eq_false_iff_not, decide_eq_false_iff_not]
          omega
  · refine .inl ⟨by rw [hm, decide_eq_false hn]; rfl, ?_⟩
    rw [decide_eq_false (show ¬ (x :: r).length ≤ 19 by omega), Bool.false_and]
    rfl

theorem wordDigits_any (A : Option Addr) (c : Nat) (bs : List UInt8) (neg : Bool) (w : World) (hb : RdB w A bs) (hcap : bs.length ≤ c) (htab : tab10 w w.heap.size) :
    Calls Tryd.prog 5 #[.slice A bs.length c, .bool neg] w fun e w' => e = .returned (.bool true) ∧ Below w.heap.size w w' := by
  by_cases h0 : bs.length = 0
  · have h0' : ((bs.length : Int) == 0) = true := by rw [beq_iff_eq]; omega
    have h1 := hide h0; clear h0 htab
    go_enter Tryd.func5, Tryd.ntmps5
    go_wp2_with fail
    go_ret
    exact ⟨rfl, Below.refl _ _⟩
  have h0' : ((bs.length : Int) == 0) = false := by rw [beq_eq_false_iff_ne]; omega
  by_cases hbig : 30 < bs.length
  · have hbig' : (30 : Int) < bs.length := by omega
    clear htab
    go_enter Tryd.func5, Tryd.ntmps5
    go_wp2_with fail
    go_ret
    exact ⟨rfl, Below.refl _ _⟩
  have hbig' : (bs.length : Int) ≤ 30 := by omega
  have ht := hide htab; clear htab
  obtain ⟨sg, hsg⟩ : ∃ sg, sg = sgn neg := ⟨_, rfl⟩
  have hsgl : sg.length ≤ 1 := by rw [hsg]; cases neg <;> decide
  go_enter Tryd.func5, Tryd.ntmps5
  go_upto_if 19 with fail
  go_cut [5] (fun v wc => v = str sg ∧ wc = w)
  case first =>
    go_wp2_with fail
    all_goals
      go_meet
      exact ⟨by rw [hsg, ‹neg = _›]; rfl, rfl⟩
  case rest =>
    obtain ⟨rfl, hwc⟩ := hcut
    subst hwc
    have hsg' := hide hsg; clear hsg
    go_wp2_with fail
    go_loopw [5, 6, 7] (fun s b i wr => ∃ (k u : Nat), k ≤ bs.length ∧ i = .int .i64 k ∧ s = str (sg ++ digs (bs.take k)) ∧ b = .int .u64 u ∧ u = valD 0 (digs (bs.take (min k 19))) ∧ Below wc.heap.size wc wr) (fun _ _ i _ => bs.length - (intOf i).toNat)
    case atStart => exact ⟨0, 0, by omega, rfl, by simp [digs], rfl, rfl, Below.refl _ _⟩
    case round =>
      obtain ⟨k, u, hk, rfl, rfl, rfl, hu, hbl⟩ := hrel
      have hszr := hbl.size
      by_cases hlt : k < bs.length
      · obtain ⟨ad, hA, hcx⟩ := (hb.below hbl) k hlt
        subst hA
        obtain ⟨x, hx⟩ : ∃ x, x = bs[k] := ⟨_, rfl⟩
        rw [← hx] at hcx
        obtain ⟨d, hd⟩ : ∃ d, d = x.toNat % 10 := ⟨_, rfl⟩
        have hd9 : d < 10 := by omega
        have m1 : Int.tmod (x.toNat : Int) 10 = (d : Int) := by rw [Int.tmod_eq_emod_of_nonneg (by omega)]; omega
        have m2 : IntKind.u8.wrap ((d : Int) + 1) = (d : Int) + 1 := IntWalk.u8_in _ (by omega)
        have m3 := dig_slice8 d hd9
        have hdg : dg x = UInt8.ofNat (48 + d) := by rw [hd]; rfl
        have hx' := hide hx; have hd' := hide hd; have hdg' := hide hdg; have hu' := hide hu; have hb' := hide hb
        clear hx hd hdg hu hb
        have hlt' : (k : Int) < bs.length := by omega
        obtain ⟨q, hq⟩ : ∃ q, q = sg ++ digs (bs.take k) := ⟨_, rfl⟩
        have hql : q.length ≤ 40 := by rw [hq, List.length_append, digs_len, List.length_take]; omega
        rw [← hq]
        have hq' := hide hq; clear hq
        have m4 : ¬ 9223372036854775807 < q.length + 1 := by omega
        go_upto_region 10 with fail
        refine drawn_start (by kernel_rfl) ?_
        refine take_at (v := ?_) 0 rfl (by kernel_rfl) (by kernel_rfl) (by kernel_rfl) rfl (fun w' hw' => ?_) ?_; rotate_left; · (go_simp <;> with_reducible rfl)
        simp only [Act.put, List.setIfInBounds_toArray, List.set_cons_zero, List.set_cons_succ]
        refine take_at (v := ?_) 1 rfl (by kernel_rfl) (by kernel_rfl) (by kernel_rfl) rfl (fun w' hw' => ?_) ?_; rotate_left; · (go_simp <;> with_reducible rfl)
        simp only [Act.put, List.setIfInBounds_toArray, List.set_cons_zero, List.set_cons_succ]
        refine take_at (v := ?_) 2 rfl (by kernel_rfl) (by kernel_rfl) (by kernel_rfl) rfl (fun w' hw' => ?_) ?_; rotate_left; · (go_simp <;> with_reducible rfl)
        simp only [Act.put, List.setIfInBounds_toArray, List.set_cons_zero, List.set_cons_succ]
        refine take_at (v := ?_) 3 rfl (by kernel_rfl) (by kernel_rfl) (by kernel_rfl) rfl (fun w' hw' => ?_) ?_; rotate_left; · (go_simp <;> with_reducible rfl)
        simp only [Act.put, List.setIfInBounds_toArray, List.set_cons_zero, List.set_cons_succ]
        refine take_at (v := ?_) 4 rfl (by kernel_rfl) (by kernel_rfl) (by kernel_rfl) rfl (fun w' hw' => ?_) ?_; rotate_left; · (have hl := (hw'.2 _ (World.block_lt_of_cell? wr _ hcx)).trans hcx; go_simp <;> with_reducible rfl)
        simp only [Act.put, List.setIfInBounds_toArray, List.set_cons_zero, List.set_cons_succ]
        refine take_at (v := ?_) 5 rfl (by kernel_rfl) (by kernel_rfl) (by kernel_rfl) rfl (fun w' hw' => ?_) ?_; rotate_left; · (go_simp <;> with_reducible rfl)
        simp only [Act.put, List.setIfInBounds_toArray, List.set_cons_zero, List.set_cons_succ]
        refine take_at (v := ?_) 6 rfl (by kernel_rfl) (by kernel_rfl) (by kernel_rfl) rfl (fun w' hw' => ?_) ?_; rotate_left; · (go_simp <;> with_reducible rfl)
        simp only [Act.put, List.setIfInBounds_toArray, List.set_cons_zero, List.set_cons_succ]
        refine take_at (v := ?_) 7 rfl (by kernel_rfl) (by kernel_rfl) (by kernel_rfl) rfl (fun w' hw' => ?_) ?_; rotate_left; · (go_simp <;> with_reducible rfl)
        simp only [Act.put, List.setIfInBounds_toArray, List.set_cons_zero, List.set_cons_succ]
        refine take_at (v := ?_) 8 rfl (by kernel_rfl) (by kernel_rfl) (by kernel_rfl) rfl (fun w' hw' => ?_) ?_; rotate_left; · (go_simp <;> with_reducible rfl)
        simp only [Act.put, List.setIfInBounds_toArray, List.set_cons_zero, List.set_cons_succ]
        refine take_at (v := ?_) 9 rfl (by kernel_rfl) (by kernel_rfl) (by kernel_rfl) rfl (fun w' hw' => ?_) ?_; rotate_left; · (have hl := (hw'.2 _ (World.block_lt_of_cell? wr _ hcx)).trans hcx; go_simp <;> with_reducible rfl)
        simp only [Act.put, List.setIfInBounds_toArray, List.set_cons_zero, List.set_cons_succ]
        refine take_at (v := ?_) 10 rfl (by kernel_rfl) (by kernel_rfl) (by kernel_rfl) rfl (fun w' hw' => ?_) ?_; rotate_left; · (go_simp <;> with_reducible rfl)
        simp only [Act.put, List.setIfInBounds_toArray, List.set_cons_zero, List.set_cons_succ]
        refine take_at (v := ?_) 11 rfl (by kernel_rfl) (by kernel_rfl) (by kernel_rfl) rfl (fun w' hw' => ?_) ?_; rotate_left; · (go_simp <;> with_reducible rfl)
        simp only [Act.put, List.setIfInBounds_toArray, List.set_cons_zero, List.set_cons_succ]
        refine take_at (v := ?_) 12 rfl (by kernel_rfl) (by kernel_rfl) (by kernel_rfl) rfl (fun w' hw' => ?_) ?_; rotate_left; · (go_simp <;> with_reducible rfl)
        simp only [Act.put, List.setIfInBounds_toArray, List.set_cons_zero, List.set_cons_succ]
        refine take_at (v := ?_) 13 rfl (by kernel_rfl) (by kernel_rfl) (by kernel_rfl) rfl (fun w' hw' => ?_) ?_; rotate_left; · (go_simp <;> with_reducible rfl)
        simp only [Act.put, List.setIfInBounds_toArray, List.set_cons_zero, List.set_cons_succ]
        refine take_at (v := ?_) 14 rfl (by kernel_rfl) (by kernel_rfl) (by kernel_rfl) rfl (fun w' hw' => ?_) ?_; rotate_left; · (go_simp <;> with_reducible rfl)
        simp only [Act.put, List.setIfInBounds_toArray, List.set_cons_zero, List.set_cons_succ]
        refine drawn_done (by kernel_rfl) ?_
        have hxd : bs.take (k + 1) = bs.take k ++ [x] := by rw [← List.take_append_getElem hlt, ← hx'.out]
        have hqd : sg ++ digs (bs.take (k + 1)) = q ++ [UInt8.ofNat (48 + d)] := by rw [hxd, digs, List.map_append, ← digs, ← List.append_assoc, ← hq'.out, List.map_cons, List.map_nil, hdg'.out]
        have hqd' := hide hqd; have hxd' := hide hxd; clear hqd hxd
        by_cases h19 : k < 19
        · have h19' : (k : Int) < 19 := by omega
          have hu2 : u = valD 0 (digs (bs.take k)) := by rw [hu'.out, show min k 19 = k by omega]
          have hub : u < 10 ^ k := by
            rw [hu2]
            exact valD_lt k _ (by rw [digs_len, List.length_take]; omega) (digs_dig _)
          have hub2 : 10 ^ k ≤ 10 ^ 18 := Nat.pow_le_pow_right (by omega) (by omega)
          have hub3 : u ≤ 1000000000000000000 := by omega
          have hu2' := hide hu2
          clear hub hub2 hu2
          have n1 : IntKind.u64.wrap (10 * (u : Int)) = 10 * (u : Int) := IntWalk.u64_in _ (by omega)
          have n2 : IntKind.u64.wrap (10 * (u : Int) + (d : Int)) = 10 * (u : Int) + (d : Int) := IntWalk.u64_in _ (by omega)
          go_wp2_with fail
          go_round
          case rel =>
            refine ⟨k + 1, u * 10 + d, by omega, by go_num, ?_, ?_, ?_, hbl.drew⟩
            · rw [hqd'.out, UInt8.ofNat_add]; rfl
            · go_num
            · rw [show min (k + 1) 19 = k + 1 by omega, hxd'.out, digs, List.map_append, ← digs, List.map_cons, List.map_nil, valD_snoc, ← hu2'.out, hdg'.out, digC_nat hd9]
              omega
          case measure => simp [intOf]; omega
        · have h19' : ¬ (k : Int) < 19 := by omega
          go_wp2_with fail
          go_round
          case rel =>
            refine ⟨k + 1, u, by omega, by go_num, ?_, rfl, ?_, hbl.drew⟩
            · rw [hqd'.out, UInt8.ofNat_add]; rfl
            · rw [hu'.out, show min (k + 1) 19 = min k 19 by omega]
          case measure => simp [intOf]; omega
      · have hk2 : k = bs.length := by omega
        subst hk2
        have hlt' : ¬ (bs.length : Int) < bs.length := by omega
        rw [List.take_length]
        obtain ⟨x, r, hbs⟩ : ∃ x r, bs = x :: r := by
          cases bs with
          | nil => exact absurd rfl h0
          | cons x r => exact ⟨x, r, rfl⟩
        obtain ⟨ad, hA, hcx⟩ := (hb.below hbl) 0 (by omega)
        subst hA
        have hb0 : bs[0]'(by omega) = x := by simp only [hbs, List.getElem_cons_zero]
        rw [hb0] at hcx
        obtain ⟨d, hd⟩ : ∃ d, d = x.toNat % 10 := ⟨_, rfl⟩
        have hd9 : d < 10 := by omega
        have m1 : Int.tmod (x.toNat : Int) 10 = (d : Int) := by rw [Int.tmod_eq_emod_of_nonneg (by omega)]; omega
        obtain ⟨may, hm⟩ : ∃ may, may = (decide (bs.length < 20) && (!decide (d = 0) || (decide (bs.length = 1) && !neg)) && (decide (u ≤ 9223372036854775807) || (neg && decide (u = 9223372036854775808)))) := ⟨_, rfl⟩
        have hlaw := may_law x r neg u (by rw [← hbs]; exact hu) may (by rw [← hbs, ← hd]; exact hm)
        rw [← hbs, ← hsg'.out] at hlaw
        obtain ⟨S, hS⟩ : ∃ S, S = sg ++ digs bs := ⟨_, rfl⟩
        rw [← hS] at hlaw
        have hlaw' := hide hlaw
        have hSl : S.length ≤ 40 := by rw [hS, List.length_append, digs_len]; omega
        rw [← hS]
        have hS' := hide hS; have hbs' := hide hbs; have hm' := hide hm; have hd' := hide hd
        clear hS hbs hm hd hlaw hb0 hu hb
        go_upto_region 13 with fail
        go_cut [8] (fun v wd => v = .bool may ∧ wd = wr)
        case first =>
          have hc0 : wr.cell? ad = some (.int .u8 (x.toNat : Int)) := by rw [← hcx, Addr.add_zero']
          by_cases c1 : bs.length < 20
          · have t1 : (bs.length : Int) < 20 := by omega
            by_cases c2 : d = 0
            · have t2 : ((d : Int) == 0) = true := by rw [beq_iff_eq]; omega
              by_cases c3 : bs.length = 1
              · have t3 : ((bs.length : Int) == 1) = true := by rw [beq_iff_eq]; omega
                have c3' := hide c3; clear c3
                cases neg
                · by_cases c5 : u ≤ 9223372036854775807
                  · have t5 : (u : Int) ≤ 9223372036854775807 := by omega
                    go_wp2_with fail
                    go_meet
                    exact ⟨by rw [hm'.out]; simp [c1, c2, c3'.out, c5], rfl⟩
                  · have t5 : ¬ (u : Int) ≤ 9223372036854775807 := by omega
                    go_wp2_with fail
                    go_meet
                    exact ⟨by rw [hm'.out]; simp [c1, c2, c3'.out, c5], rfl⟩
                · go_wp2_with fail
                  go_meet
                  exact ⟨by rw [hm'.out]; simp [c1, c2, c3'.out], rfl⟩
              · have t3 : ((bs.length : Int) == 1) = false := by rw [beq_eq_false_iff_ne]; omega
                go_wp2_with fail
                go_meet
                exact ⟨by rw [hm'.out]; simp [c1, c2, c3], rfl⟩
            · have t2 : ((d : Int) == 0) = false := by rw [beq_eq_false_iff_ne]; omega
              by_cases c5 : u ≤ 9223372036854775807
              · have t5 : (u : Int) ≤ 9223372036854775807 := by omega
                go_wp2_with fail
                go_meet
                exact ⟨by rw [hm'.out]; simp [c1, c2, c5], rfl⟩
              · have t5 : ¬ (u : Int) ≤ 9223372036854775807 := by omega
                cases neg
                · go_wp2_with fail
                  go_meet
                  exact ⟨by rw [hm'.out]; simp [c1, c2, c5], rfl⟩
                · by_cases c6 : u = 9223372036854775808
                  · have t6 : ((u : Int) == 9223372036854775808) = true := by rw [beq_iff_eq]; omega
                    have c6' := hide c6; clear c6
                    go_wp2_with fail
                    go_meet
                    exact ⟨by rw [hm'.out]; simp [c1, c2, c5, c6'.out], rfl⟩
                  · have t6 : ((u : Int) == 9223372036854775808) = false := by rw [beq_eq_false_iff_ne]; omega
                    go_wp2_with fail
                    go_meet
                    exact ⟨by rw [hm'.out]; simp [c1, c2, c5, c6], rfl⟩
          · have t1 : ¬ (bs.length : Int) < 20 := by omega
            go_wp2_with fail
            go_meet
            exact ⟨by rw [hm'.out]; simp [c1], rfl⟩
        case rest =>
          obtain ⟨rfl, hwc⟩ := hcut
          subst hwc
          clear hcx
          have hcp := fun W => wordParseNum_any S W (by omega)
          rcases hlaw'.out with ⟨rfl, hp⟩ | ⟨rfl, N, hp, hN⟩
          · obtain ⟨v1, v2⟩ := numVE_none hp
            rw [v1, v2] at hcp
            go_wp2_with fail
            refine (hcp _).mono ?_
            rintro e w2 ⟨rfl, rfl⟩
            go_wp2_with fail
            refine (wakesW_any _ (tabNow (ht.out.on hbl) hbl.size)).mono ?_
            rintro e w4 ⟨rfl, hb4⟩
            go_wp2_with fail
            go_ret
            exact ⟨rfl, hbl.trans (hb4.mono hbl.size)⟩
          · obtain ⟨v1, v2⟩ := numVE_some hp
            rw [v1, v2] at hcp
            obtain ⟨i1, i2, i3⟩ := parse_inv hp
            clear v1 v2 hp
            rcases hN with ⟨rfl, hN⟩ | ⟨rfl, hN, hNu⟩
            · have h2 : (N < 0) = True := eq_true hN
              go_wp2_with fail
              refine (hcp _).mono ?_
              rintro e w2 ⟨rfl, rfl⟩
              go_wp2_with fail
              refine (wordNum_any N i2 i3 _ (ht.out.on hbl).here).mono ?_
              rintro e w3 ⟨rfl, hb3⟩
              have hb13 : Below _ _ w3 := hbl.trans (hb3.mono hbl.size)
              have hsz3 := hb13.size
              rw [i1]
              go_wp2_with fail
              refine (wakesW_any _ (tabNow (ht.out.on hb13) hsz3)).mono ?_
              rintro e w4 ⟨rfl, hb4⟩
              go_wp2_with fail
              go_ret
              exact ⟨rfl, hb13.trans (hb4.mono hsz3)⟩
            · have h2 : ¬ N < 0 := by omega
              have h3 : IntKind.u64.wrap N = (u : Int) := by rw [hNu]; exact IntWalk.u64_in _ (by omega)
              have hNu' := hide hNu; clear hNu
              go_wp2_with fail
              refine (hcp _).mono ?_
              rintro e w2 ⟨rfl, rfl⟩
              go_wp2_with fail
              refine (wordNum_any N i2 i3 _ (ht.out.on hbl).here).mono ?_
              rintro e w3 ⟨rfl, hb3⟩
              have hb13 : Below _ _ w3 := hbl.trans (hb3.mono hbl.size)
              have hsz3 := hb13.size
              rw [i1]
              go_wp2_with fail
              refine (wakesW_any _ (tabNow (ht.out.on hb13) hsz3)).mono ?_
              rintro e w4 ⟨rfl, hb4⟩
              go_wp2_with fail
              go_ret
              exact ⟨(by rw [decide_eq_false (show ¬ N < 0 by omega)]; rfl : Ending.returned (.bool (!decide (N < 0))) = .returned (.bool true)), hb13.trans (hb4.mono hsz3)⟩

end Go.Proofs.YtbinmbjcijndhaaDoor
