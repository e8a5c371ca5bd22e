/-
  for all arguments the law returns true, and the arguments read behind the call as they read before; the three tables of Go's library (strconv, math/bits) start as the program's text lays them.
-/
import Derived.Test.YtlagglkpbnbmeaaGreatDoorPx
import Derived.Test.YtlagglkpbnbmeaaGreatDoorGY
import Derived.Test.YtlagglkpbnbmeaaGreatDoorFR
import Derived.Carry
namespace Go.Proofs.YtlagglkpbnbmeaaGreatDoor
open Go.ChangeShapes Go.WideShapes Go.ChangeAt Go.RowKit
open Go.ChangeMaps (open_string shut_string)
set_option linter.unusedVariables false

set_option maxRecDepth 100000 in
theorem printExact_lifted (os : Os) (started : os.Started) (H : Type) (enc : TypeId × Value → H) :
    ReturnsInHanded {} Tryz.checked os 4 .any (fun w args => (Rows.printExactSpec.pre enc Tryz.prog Tryz.f4 [] false w args ∧ laidMetH Tryz.prog laid3 w) ∧ sizedMet enc Tryz.prog Tryz.f4 (OpenSpec.ofChange Rows.printExactSpec) false w args)
      (Rows.printExactSpec.post enc Tryz.prog Tryz.f4 false true false false) := by
  refine returnsInHanded_of_change_and (C := Tryz.checked) (X := fun w _ => laidMetH Tryz.prog laid3 w) (fun _ _ _ hh h => h.of_heap hh) own started (by kernel_rfl) Tryz.func4
    (ChangeSpec.witness_shaped (enc := enc) (C := Tryz.checked) (os := os) (X := fun w _ => laidMetH Tryz.prog laid3 w) false (World.laidAll Tryz.prog os laid3) #[.agg #[.int .i64 0, .int .i64 0, .int .i64 0, .string ByteArray.empty, .string ByteArray.empty, .int .i64 0, .string ByteArray.empty, .int .i64 0, .int .i64 0, .int .i64 0, .slice none 0 0, .int .i64 0, .int .i64 0, .slice none 0 0, .slice none 0 0, .slice none 0 0], .agg #[.int .i64 0, .int .i64 0, .int .i64 0, .string ByteArray.empty, .int .i64 0, .string ByteArray.empty, .slice none 0 0]] 8 (World.laidAll_os _ _ _) (World.shaped_of_ZipB (by kernel_rfl) (by kernel_rfl)) (by kernel_rfl) (by kernel_rfl) (by kernel_rfl) (laid_met os _)) ?_
  intro W base args ds gs before hval0 hW _ hwt hL _
  have hval : ∀ (j : Nat) t v, Tryz.f4.params[j]? = some t → args[j]? = some v → Value.okWide Tryz.prog W .any base t v := hval0
  have hW' := hW
  obtain ⟨p, q, hA0, hV, rfl, hfz, hnd⟩ := hW
  have hA : DataW.TrodAll enc Tryz.prog W 0 (fun _ => true) true Tryz.f4.params.toList args.toList ds p := hA0
  rw [Tryz.params4] at hA hval
  obtain ⟨v0, vs0, d0, ds0, p0, q0, hargs, rfl, rfl, h0, r0⟩ := trodAll_cons hA
  obtain ⟨v1, vs1, d1, ds1, p1, q1, rfl, rfl, rfl, h1, r1⟩ := trodAll_cons r0
  obtain ⟨rfl, rfl, rfl⟩ := trodAll_nil r1
  obtain rfl : args = #[v0, v1] := by cases args; simp_all
  obtain ⟨rfl, rfl⟩ := trodVars_none hV
  have k0 := h0
  have lt0 : ∀ x ∈ p0, x.block < W.heap.size := by obtain ⟨m, hm⟩ := k0; exact DataW.trod_lt m _ _ _ hm
  have k1 := h1
  have lt1 : ∀ x ∈ p1, x.block < W.heap.size := by obtain ⟨m, hm⟩ := k1; exact DataW.trod_lt m _ _ _ hm
  have hw0 : ∀ q ∈ d0.weights Tryz.prog 30, q ≤ reachBytes := fun q hq => by
    have := List.all_eq_true.1 hwt q (DataW.weights_mem_each (j := 0) (t := 30) (d := d0) (by rw [Tryz.params4]; rfl) rfl q hq)
    simpa using this
  obtain ⟨t0, fv0, pl0, pn0, pp0⟩ := open_ex (hval 0 30 v0 rfl rfl) h0 hw0
  have hw1 : ∀ q ∈ d1.weights Tryz.prog 40, q ≤ reachBytes := fun q hq => by
    have := List.all_eq_true.1 hwt q (DataW.weights_mem_each (j := 1) (t := 40) (d := d1) (by rw [Tryz.params4]; rfl) rfl q hq)
    simpa using this
  obtain ⟨t1, fv1, pl1, pn1⟩ := open_pa (hval 1 40 v1 rfl rfl) h1 hw1
  clear hA0 hval0
  simp only [List.append_nil] at hW'
  refine (con_calls (lExact t0 pl0 pn0 pp0 t1 pl1 pn1) (by simp [Flat]) rfl (fun i g hg => ?_) (tab_of hL)).mono fun e W' ⟨he, bel⟩ => ?_
  · match i, g, hg with
    | 0, _, rfl => exact fv0
    | 1, _, rfl => exact fv1
    | _ + 2, _, hg => cases hg
  subst he
  exact ⟨_, rfl, _, _, _, [], _, [], hW', trodAll_mk1 (shut_bool Tryz.underlying4 _), (trodAll_cons_mk (Below.trod laidOut (by kernel_rfl) (of_decide_eq_true (by kernel_rfl)) k0 bel lt0) (trodAll_cons_mk (Below.trod laidOut (by kernel_rfl) (of_decide_eq_true (by kernel_rfl)) k1 bel lt1) trodAll_mk0)), rfl, bel.frame _, fun h => by cases h⟩

theorem printExact_over : Rows.printExactRow.holds Tryz.pinned (OpenSpec.ofChange Rows.printExactSpec) :=
  OpenClaim.holds_of_wide 4 Tryz.f4 rfl rfl rfl rfl rfl rfl rfl ⟨rfl, rfl, rfl, rfl, rfl⟩ rfl rfl rfl rfl rfl (by kernel_rfl) Tryz.func4 (by kernel_rfl)
    (of_decide_eq_true (by kernel_rfl)) (by unfold Func.isWrapper; first | (rw [if_pos (by decide +kernel)]; kernel_rfl) | (rw [if_neg (by decide +kernel)]; exact ⟨rfl, rfl⟩))
    (fun os started H enc _ => printExact_lifted os started H enc)

theorem printExact_holds : Rows.PrintExactSaid := printExact_over

theorem printExact_card : Rows.PrintExactCardSaid :=
  Claim7.holds_tied_plain_at .later [] [.data, .data, .data] true (true, "a48726b1e5fbc06954be8ff153f9e6df40b9d7adbf194faf00343c012ad15245") false
    printExact_holds (fun _ h => by cases h) (by kernel_rfl) (fun _ h => by cases h) printExact_row_tie rfl ⟨rfl, rfl⟩ (by kernel_rfl) rfl
    (fun f fn hf hfn => by
      obtain rfl : f = 4 := Option.some.inj ((show Tryz.prog.funcNamed "surety/suretylaw07.PrintExact" = some 4 by kernel_rfl).symm.trans hf) |>.symm
      obtain rfl : fn = Tryz.f4 := (Option.some.inj (Tryz.func4.symm.trans hfn)).symm
      exact ⟨by kernel_rfl, fun j t ht => by
        rw [Tryz.params4] at ht
        have hm : t ∈ ([30, 40] : List TypeId) := by simpa using Array.mem_of_getElem? ht
        have hall : (([30, 40] : List TypeId).all fun u => !Tryz.prog.wantsStandIn u) = true := by kernel_rfl
        exact (show Tryz.prog.wantsStandIn t = false by simpa using List.all_eq_true.1 hall t hm)⟩)
    (by kernel_rfl)

end Go.Proofs.YtlagglkpbnbmeaaGreatDoor
