/- The reference's reader of types. -/
import Derived.Test.YtoadmjnaakbljaaDoorNr2
namespace Go.Proofs.YtoadmjnaakbljaaDoor
open Go Go.RowKit
set_option maxRecDepth 100000
set_option linter.unusedVariables false

def rRdr (ts : List Tok) (i : Nat) (b : Int) : F := .var 65 [.d (toksD ts), .d (.lit (.int .i64 (i : Int))), .d (.lit (.int .i64 b))]

theorem rMayT (ts : List Tok) (i k : Nat) (s : List UInt8) (hm : ts.length ≤ 1000000000) (h : hit k s (ts.drop i) = true) : Con Tryd.prog 50 [.ptr 3000 0, .c (.lit (.int .i64 (k : Int))), .c (.lit (str s))] [(3000, rRdr ts i (-1))] (.c (.lit (.bool true))) [(3000, rRdr ts (i + 1) (-1))] := by
  refine con_intro rfl rfl (by kernel_rfl) (by kernel_rfl) ?_
  have h1 := hit_lt' h
  obtain ⟨x, hx⟩ : ∃ x, ts[i]? = some x := ⟨ts[i], List.getElem?_eq_getElem h1⟩
  have hlt : (i : Int) < (((ts.map tokD).length : Nat) : Int) := by simp; omega
  rw [hit_at hx, Bool.and_eq_true, beq_iff_eq, beq_iff_eq] at h
  obtain ⟨h2, h3⟩ := h
  refine J_seq ?_
  refine JR.start ?_
  refine JR.run rfl rfl (r_assign rfl rfl rfl trivial) ?_
  refine JR.done [] (by kernel_rfl) rfl (by kernel_rfl) ?_
  refine J_weak [(0, _), (1, _), (2, _), (6, _), (3000, _)] ⟨rfl, rfl, rfl, rfl, rfl, trivial⟩ ?_
  refine J_seq ?_
  refine JR.start ?_
  refine JR.run rfl rfl (r_move rfl rfl rfl trivial) ?_
  refine JR.run rfl rfl (r_nilCheck rfl rfl rfl) ?_
  refine JR.run rfl rfl (r_fieldAddr (off := 2) (m := 1) rfl rfl (by kernel_rfl) rfl) ?_
  refine JR.run rfl rfl (r_load rfl rfl (by kernel_rfl) rfl rfl rfl) ?_
  refine JR.run rfl rfl ((r_ltI rfl rfl rfl rfl).cast (by rfl)) ?_
  refine JR.run rfl rfl (r_move rfl rfl rfl trivial) ?_
  refine JR.run rfl rfl (r_move rfl rfl rfl trivial) ?_
  refine JR.run rfl rfl (r_nilCheck rfl rfl rfl) ?_
  refine JR.run rfl rfl (r_fieldAddr (off := 1) (m := 1) rfl rfl (by kernel_rfl) rfl) ?_
  refine JR.run rfl rfl (r_load rfl rfl (by kernel_rfl) rfl rfl rfl) ?_
  refine JR.run rfl rfl (r_move rfl rfl rfl trivial) ?_
  refine JR.run rfl rfl (r_nilCheck rfl rfl rfl) ?_
  refine JR.run rfl rfl (r_fieldAddr (off := 0) (m := 1) rfl rfl (by kernel_rfl) rfl) ?_
  refine JR.run rfl rfl (r_load rfl rfl (by kernel_rfl) rfl rfl rfl) ?_
  refine JR.run rfl rfl (r_len rfl rfl (by kernel_rfl) rfl) ?_
  refine JR.run rfl rfl ((r_ltI rfl rfl rfl rfl).cast (by rw [decide_eq_true hlt])) ?_
  refine JR.run rfl rfl (r_pickT rfl rfl rfl rfl trivial) ?_
  refine JR.run rfl rfl (r_move rfl rfl rfl trivial) ?_
  refine JR.run rfl rfl (r_move rfl rfl rfl trivial) ?_
  refine JR.run rfl rfl (r_nilCheck rfl rfl rfl) ?_
  refine JR.run rfl rfl (r_fieldAddr (off := 0) (m := 1) rfl rfl (by kernel_rfl) rfl) ?_
  refine JR.run rfl rfl (r_load rfl rfl (by kernel_rfl) rfl rfl rfl) ?_
  refine JR.run rfl rfl (r_move rfl rfl rfl trivial) ?_
  refine JR.run rfl rfl (r_nilCheck rfl rfl rfl) ?_
  refine JR.run rfl rfl (r_fieldAddr (off := 1) (m := 1) rfl rfl (by kernel_rfl) rfl) ?_
  refine JR.run rfl rfl (r_load rfl rfl (by kernel_rfl) rfl rfl rfl) ?_
  refine JR.run rfl rfl (r_indexAddr (e := 54) (sz := 5) rfl rfl (by kernel_rfl) rfl rfl (by omega) (toksD_get hx)) ?_
  refine JR.run rfl rfl (r_fieldAddrEl (off := 0) (m := 1) rfl rfl (by kernel_rfl) rfl) ?_
  refine JR.run rfl rfl (r_loadEl rfl rfl (by kernel_rfl) rfl rfl) ?_
  refine JR.run rfl rfl (r_move rfl rfl rfl trivial) ?_
  refine JR.run rfl rfl ((r_eqI rfl rfl rfl rfl).cast (by rw [decide_eq_true (by rw [h2])])) ?_
  refine JR.run rfl rfl (r_pickT rfl rfl rfl rfl trivial) ?_
  refine JR.run rfl rfl (r_move rfl rfl rfl trivial) ?_
  refine JR.run rfl rfl (r_move rfl rfl rfl trivial) ?_
  refine JR.run rfl rfl (r_nilCheck rfl rfl rfl) ?_
  refine JR.run rfl rfl (r_fieldAddr (off := 0) (m := 1) rfl rfl (by kernel_rfl) rfl) ?_
  refine JR.run rfl rfl (r_load rfl rfl (by kernel_rfl) rfl rfl rfl) ?_
  refine JR.run rfl rfl (r_move rfl rfl rfl trivial) ?_
  refine JR.run rfl rfl (r_nilCheck rfl rfl rfl) ?_
  refine JR.run rfl rfl (r_fieldAddr (off := 1) (m := 1) rfl rfl (by kernel_rfl) rfl) ?_
  refine JR.run rfl rfl (r_load rfl rfl (by kernel_rfl) rfl rfl rfl) ?_
  refine JR.run rfl rfl (r_indexAddr (e := 54) (sz := 5) rfl rfl (by kernel_rfl) rfl rfl (by omega) (toksD_get hx)) ?_
  refine JR.run rfl rfl (r_fieldAddrEl (off := 3) (m := 1) rfl rfl (by kernel_rfl) rfl) ?_
  refine JR.run rfl rfl (r_loadEl rfl rfl (by kernel_rfl) rfl rfl) ?_
  refine JR.run rfl rfl (r_move rfl rfl rfl trivial) ?_
  refine JR.run rfl rfl ((r_eqS rfl rfl rfl rfl).cast (by rw [h3, beq_self_eq_true])) ?_
  refine JR.run rfl rfl (r_pickT rfl rfl rfl rfl trivial) ?_
  refine JR.run rfl rfl (r_assign rfl rfl rfl trivial) ?_
  refine JR.done [[], [0], [0, 1], [0, 1, 2], [0, 1, 2, 3], [0, 1, 2, 3, 4], [0, 1, 2, 3, 4, 5], [0, 1, 2, 3, 4, 5, 6], [0, 1, 2, 3, 4, 5, 6, 7], [0, 1, 2, 3, 4, 5, 6, 7, 8], [0, 1, 2, 3, 4, 5], [0, 1, 2, 3, 4, 5, 10], [0, 1, 2, 3, 4, 5, 10, 11], [0, 1, 2, 3, 4, 5, 10, 11, 12], [0, 1, 2, 3, 4, 5, 10, 11, 12, 13], [0, 1, 2, 3, 4, 5, 6, 7, 8, 9, 10, 11, 12, 13, 14], [0, 1, 2, 3, 4, 5, 6, 7, 8, 9, 10, 11, 12, 13, 14, 15], [0, 1, 2, 3, 4, 5, 6, 7, 8, 9, 10, 11, 12, 13, 14, 15, 16], [0, 1, 2, 3, 4, 5, 6, 7, 8, 9, 10, 11, 12, 13, 14, 15, 16, 17], [0, 1, 2, 3, 4, 5, 6, 7, 8, 9, 10, 11, 12, 13, 14, 15, 16, 17, 18], [0, 1, 2, 3, 4, 5, 6, 7, 8, 9, 10, 11, 12, 13, 14, 15, 16, 17, 18, 19], [0, 1, 2, 3, 4, 5, 6, 7, 8, 9, 10, 11, 12, 13, 14, 15, 16, 17, 18, 19, 20], [0, 1, 2, 3, 4, 5, 6, 7, 8, 9, 10, 11, 12, 13, 14, 15, 16, 17], [0, 1, 2, 3, 4, 5, 6, 7, 8, 9, 10, 11, 12, 13, 14, 15, 16, 17, 22], [0, 1, 2, 3, 4, 5, 6, 7, 8, 9, 10, 11, 12, 13, 14, 15, 16, 17, 22, 23], [0, 1, 2, 3, 4, 5, 6, 7, 8, 9, 10, 11, 12, 13, 14, 15, 16, 17, 22, 23, 24], [0, 1, 2, 3, 4, 5, 6, 7, 8, 9, 10, 11, 12, 13, 14, 15, 16, 17, 18, 19, 20, 21, 22, 23, 24, 25], [0, 1, 2, 3, 4, 5, 6, 7, 8, 9, 10, 11, 12, 13, 14, 15, 16, 17, 18, 19, 20, 21, 22, 23, 24, 25, 26], [0, 1, 2, 3, 4, 5, 6, 7, 8, 9, 10, 11, 12, 13, 14, 15, 16, 17, 18, 19, 20, 21, 22, 23, 24, 25, 26, 27], [0, 1, 2, 3, 4, 5, 6, 7, 8, 9, 10, 11, 12, 13, 14, 15, 16, 17], [0, 1, 2, 3, 4, 5, 6, 7, 8, 9, 10, 11, 12, 13, 14, 15, 16, 17, 18, 19, 20, 21, 22, 23, 24, 25, 26, 27, 28, 29], [0, 1, 2, 3, 4, 5, 6, 7, 8, 9, 10, 11, 12, 13, 14, 15, 16, 17, 18, 19, 20, 21, 22, 23, 24, 25, 26, 27, 28, 29, 30], [0, 1, 2, 3, 4, 5, 6, 7, 8, 9, 10, 11, 12, 13, 14, 15, 16, 17, 18, 19, 20, 21, 22, 23, 24, 25, 26, 27, 28, 29, 30, 31], [0, 1, 2, 3, 4, 5, 6, 7, 8, 9, 10, 11, 12, 13, 14, 15, 16, 17, 18, 19, 20, 21, 22, 23, 24, 25, 26, 27, 28, 29, 30, 31, 32], [0, 1, 2, 3, 4, 5, 6, 7, 8, 9, 10, 11, 12, 13, 14, 15, 16, 17, 18, 19, 20, 21, 22, 23, 24, 25, 26, 27, 28, 29, 30, 31, 32, 33], [0, 1, 2, 3, 4, 5, 6, 7, 8, 9, 10, 11, 12, 13, 14, 15, 16, 17, 18, 19, 20, 21, 22, 23, 24, 25, 26, 27, 28, 29, 30, 31, 32, 33, 34], [0, 1, 2, 3, 4, 5, 6, 7, 8, 9, 10, 11, 12, 13, 14, 15, 16, 17, 18, 19, 20, 21, 22, 23, 24, 25, 26, 27, 28, 29, 30, 31, 32, 33, 34, 35], [0, 1, 2, 3, 4, 5, 6, 7, 8, 9, 10, 11, 12, 13, 14, 15, 16, 17, 18, 19, 20, 21, 22, 23, 24, 25, 26, 27, 28, 29, 30, 31, 32], [0, 1, 2, 3, 4, 5, 6, 7, 8, 9, 10, 11, 12, 13, 14, 15, 16, 17, 18, 19, 20, 21, 22, 23, 24, 25, 26, 27, 28, 29, 30, 31, 32, 37], [0, 1, 2, 3, 4, 5, 6, 7, 8, 9, 10, 11, 12, 13, 14, 15, 16, 17, 18, 19, 20, 21, 22, 23, 24, 25, 26, 27, 28, 29, 30, 31, 32, 37, 38], [0, 1, 2, 3, 4, 5, 6, 7, 8, 9, 10, 11, 12, 13, 14, 15, 16, 17, 18, 19, 20, 21, 22, 23, 24, 25, 26, 27, 28, 29, 30, 31, 32, 37, 38, 39], [0, 1, 2, 3, 4, 5, 6, 7, 8, 9, 10, 11, 12, 13, 14, 15, 16, 17, 18, 19, 20, 21, 22, 23, 24, 25, 26, 27, 28, 29, 30, 31, 32, 33, 34, 35, 36, 37, 38, 39, 40], [0, 1, 2, 3, 4, 5, 6, 7, 8, 9, 10, 11, 12, 13, 14, 15, 16, 17, 18, 19, 20, 21, 22, 23, 24, 25, 26, 27, 28, 29, 30, 31, 32, 33, 34, 35, 36, 37, 38, 39, 40, 41], [0, 1, 2, 3, 4, 5, 6, 7, 8, 9, 10, 11, 12, 13, 14, 15, 16, 17, 18, 19, 20, 21, 22, 23, 24, 25, 26, 27, 28, 29, 30, 31, 32, 33, 34, 35, 36, 37, 38, 39, 40, 41, 42], [0, 1, 2, 3, 4, 5, 6, 7, 8, 9, 10, 11, 12, 13, 14, 15, 16, 17, 18, 19, 20, 21, 22, 23, 24, 25, 26, 27, 28, 29, 30, 31, 32], [0, 1, 2, 3, 4, 5, 6, 7, 8, 9, 10, 11, 12, 13, 14, 15, 16, 17, 18, 19, 20, 21, 22, 23, 24, 25, 26, 27, 28, 29, 30, 31, 32, 33, 34, 35, 36, 37, 38, 39, 40, 41, 42, 43, 44], [0, 1, 2, 3, 4, 5, 6, 7, 8, 9, 10, 11, 12, 13, 14, 15, 16, 17, 18, 19, 20, 21, 22, 23, 24, 25, 26, 27, 28, 29, 30, 31, 32, 33, 34, 35, 36, 37, 38, 39, 40, 41, 42, 43, 44, 45], [0, 1, 2, 3, 4, 5, 6, 7, 8, 9, 10, 11, 12, 13, 14, 15, 16, 17, 18, 19, 20, 21, 22, 23, 24, 25, 26, 27, 28, 29, 30, 31, 32, 33, 34, 35, 36, 37, 38, 39, 40, 41, 42, 43, 44, 45, 46]] (by kernel_rfl) rfl (by kernel_rfl) ?_
  refine J_weak [(0, _), (6, _), (7, _), (3000, _)] ⟨rfl, rfl, rfl, rfl, trivial⟩ ?_
  refine J_seq ?_
  refine J_seq ?_
  refine JR.start ?_
  refine JR.run rfl rfl (r_move rfl rfl rfl trivial) ?_
  refine JR.done [] (by kernel_rfl) rfl (by kernel_rfl) ?_
  refine J_weak [(0, _), (6, _), (7, _), (55, _), (3000, _)] ⟨rfl, rfl, rfl, rfl, rfl, trivial⟩ ?_
  refine J_condT rfl ?_
  refine JR.start ?_
  refine JR.run rfl rfl (r_move rfl rfl rfl trivial) ?_
  refine JR.run rfl rfl (r_nilCheck rfl rfl rfl) ?_
  refine JR.run rfl rfl (r_fieldAddr (off := 1) (m := 1) rfl rfl (by kernel_rfl) rfl) ?_
  refine JR.run rfl rfl (r_load rfl rfl (by kernel_rfl) rfl rfl rfl) ?_
  refine JR.run rfl rfl (r_addI rfl rfl rfl rfl (by omega)) ?_
  refine JR.run rfl rfl (r_nilCheck rfl rfl rfl) ?_
  refine JR.run rfl rfl (r_fieldAddr (off := 1) (m := 1) rfl rfl (by kernel_rfl) rfl) ?_
  refine JR.run rfl rfl (r_store rfl rfl (by kernel_rfl) rfl rfl rfl rfl) ?_
  refine JR.done [] (by kernel_rfl) rfl (by kernel_rfl) ?_
  refine J_weak [(6, _), (7, _), (3000, _)] ⟨rfl, rfl, rfl, trivial⟩ ?_
  refine J_seq ?_
  refine JR.start ?_
  refine JR.run rfl rfl (r_move rfl rfl rfl trivial) ?_
  refine JR.run rfl rfl (r_assign rfl rfl rfl trivial) ?_
  refine JR.done [] (by kernel_rfl) rfl (by kernel_rfl) ?_
  refine J_weak [(6, _), (3000, _)] ⟨rfl, rfl, trivial⟩ ?_
  refine J_ret ?_
  exact ⟨.inl rfl, _, rfl, .refl _, rfl, trivial⟩
theorem rMayF (ts : List Tok) (i k : Nat) (s : List UInt8) (hm : ts.length ≤ 1000000000) (h : hit k s (ts.drop i) = false) : Con Tryd.prog 50 [.ptr 3000 0, .c (.lit (.int .i64 (k : Int))), .c (.lit (str s))] [(3000, rRdr ts i (-1))] (.c (.lit (.bool false))) [(3000, rRdr ts i (-1))] := by
  refine con_intro rfl rfl (by kernel_rfl) (by kernel_rfl) ?_
  by_cases h1 : i < ts.length
  · obtain ⟨x, hx⟩ : ∃ x, ts[i]? = some x := ⟨ts[i], List.getElem?_eq_getElem h1⟩
    have hlt : (i : Int) < (((ts.map tokD).length : Nat) : Int) := by simp; omega
    rw [hit_at hx] at h
    by_cases h2 : x.k = k
    · rw [beq_iff_eq.2 h2, Bool.true_and] at h
      refine J_seq ?_
      refine JR.start ?_
      refine JR.run rfl rfl (r_assign rfl rfl rfl trivial) ?_
      refine JR.done [] (by kernel_rfl) rfl (by kernel_rfl) ?_
      refine J_weak [(0, _), (1, _), (2, _), (6, _), (3000, _)] ⟨rfl, rfl, rfl, rfl, rfl, trivial⟩ ?_
      refine J_seq ?_
      refine JR.start ?_
      refine JR.run rfl rfl (r_move rfl rfl rfl trivial) ?_
      refine JR.run rfl rfl (r_nilCheck rfl rfl rfl) ?_
      refine JR.run rfl rfl (r_fieldAddr (off := 2) (m := 1) rfl rfl (by kernel_rfl) rfl) ?_
      refine JR.run rfl rfl (r_load rfl rfl (by kernel_rfl) rfl rfl rfl) ?_
      refine JR.run rfl rfl ((r_ltI rfl rfl rfl rfl).cast (by rfl)) ?_
      refine JR.run rfl rfl (r_move rfl rfl rfl trivial) ?_
      refine JR.run rfl rfl (r_move rfl rfl rfl trivial) ?_
      refine JR.run rfl rfl (r_nilCheck rfl rfl rfl) ?_
      refine JR.run rfl rfl (r_fieldAddr (off := 1) (m := 1) rfl rfl (by kernel_rfl) rfl) ?_
      refine JR.run rfl rfl (r_load rfl rfl (by kernel_rfl) rfl rfl rfl) ?_
      refine JR.run rfl rfl (r_move rfl rfl rfl trivial) ?_
      refine JR.run rfl rfl (r_nilCheck rfl rfl rfl) ?_
      refine JR.run rfl rfl (r_fieldAddr (off := 0) (m := 1) rfl rfl (by kernel_rfl) rfl) ?_
      refine JR.run rfl rfl (r_load rfl rfl (by kernel_rfl) rfl rfl rfl) ?_
      refine JR.run rfl rfl (r_len rfl rfl (by kernel_rfl) rfl) ?_
      refine JR.run rfl rfl ((r_ltI rfl rfl rfl rfl).cast (by rw [decide_eq_true hlt])) ?_
      refine JR.run rfl rfl (r_pickT rfl rfl rfl rfl trivial) ?_
      refine JR.run rfl rfl (r_move rfl rfl rfl trivial) ?_
      refine JR.run rfl rfl (r_move rfl rfl rfl trivial) ?_
      refine JR.run rfl rfl (r_nilCheck rfl rfl rfl) ?_
      refine JR.run rfl rfl (r_fieldAddr (off := 0) (m := 1) rfl rfl (by kernel_rfl) rfl) ?_
      refine JR.run rfl rfl (r_load rfl rfl (by kernel_rfl) rfl rfl rfl) ?_
      refine JR.run rfl rfl (r_move rfl rfl rfl trivial) ?_
      refine JR.run rfl rfl (r_nilCheck rfl rfl rfl) ?_
      refine JR.run rfl rfl (r_fieldAddr (off := 1) (m := 1) rfl rfl (by kernel_rfl) rfl) ?_
      refine JR.run rfl rfl (r_load rfl rfl (by kernel_rfl) rfl rfl rfl) ?_
      refine JR.run rfl rfl (r_indexAddr (e := 54) (sz := 5) rfl rfl (by kernel_rfl) rfl rfl (by omega) (toksD_get hx)) ?_
      refine JR.run rfl rfl (r_fieldAddrEl (off := 0) (m := 1) rfl rfl (by kernel_rfl) rfl) ?_
      refine JR.run rfl rfl (r_loadEl rfl rfl (by kernel_rfl) rfl rfl) ?_
      refine JR.run rfl rfl (r_move rfl rfl rfl trivial) ?_
      refine JR.run rfl rfl ((r_eqI rfl rfl rfl rfl).cast (by rw [decide_eq_true (by rw [h2])])) ?_
      refine JR.run rfl rfl (r_pickT rfl rfl rfl rfl trivial) ?_
      refine JR.run rfl rfl (r_move rfl rfl rfl trivial) ?_
      refine JR.run rfl rfl (r_move rfl rfl rfl trivial) ?_
      refine JR.run rfl rfl (r_nilCheck rfl rfl rfl) ?_
      refine JR.run rfl rfl (r_fieldAddr (off := 0) (m := 1) rfl rfl (by kernel_rfl) rfl) ?_
      refine JR.run rfl rfl (r_load rfl rfl (by kernel_rfl) rfl rfl rfl) ?_
      refine JR.run rfl rfl (r_move rfl rfl rfl trivial) ?_
      refine JR.run rfl rfl (r_nilCheck rfl rfl rfl) ?_
      refine JR.run rfl rfl (r_fieldAddr (off := 1) (m := 1) rfl rfl (by kernel_rfl) rfl) ?_
      refine JR.run rfl rfl (r_load rfl rfl (by kernel_rfl) rfl rfl rfl) ?_
      refine JR.run rfl rfl (r_indexAddr (e := 54) (sz := 5) rfl rfl (by kernel_rfl) rfl rfl (by omega) (toksD_get hx)) ?_
      refine JR.run rfl rfl (r_fieldAddrEl (off := 3) (m := 1) rfl rfl (by kernel_rfl) rfl) ?_
      refine JR.run rfl rfl (r_loadEl rfl rfl (by kernel_rfl) rfl rfl) ?_
      refine JR.run rfl rfl (r_move rfl rfl rfl trivial) ?_
      refine JR.run rfl rfl ((r_eqS rfl rfl rfl rfl).cast (by rw [h])) ?_
      refine JR.run rfl rfl (r_pickT rfl rfl rfl rfl trivial) ?_
      refine JR.run rfl rfl (r_assign rfl rfl rfl trivial) ?_
      refine JR.done [[], [0], [0, 1], [0, 1, 2], [0, 1, 2, 3], [0, 1, 2, 3, 4], [0, 1, 2, 3, 4, 5], [0, 1, 2, 3, 4, 5, 6], [0, 1, 2, 3, 4, 5, 6, 7], [0, 1, 2, 3, 4, 5, 6, 7, 8], [0, 1, 2, 3, 4, 5], [0, 1, 2, 3, 4, 5, 10], [0, 1, 2, 3, 4, 5, 10, 11], [0, 1, 2, 3, 4, 5, 10, 11, 12], [0, 1, 2, 3, 4, 5, 10, 11, 12, 13], [0, 1, 2, 3, 4, 5, 6, 7, 8, 9, 10, 11, 12, 13, 14], [0, 1, 2, 3, 4, 5, 6, 7, 8, 9, 10, 11, 12, 13, 14, 15], [0, 1, 2, 3, 4, 5, 6, 7, 8, 9, 10, 11, 12, 13, 14, 15, 16], [0, 1, 2, 3, 4, 5, 6, 7, 8, 9, 10, 11, 12, 13, 14, 15, 16, 17], [0, 1, 2, 3, 4, 5, 6, 7, 8, 9, 10, 11, 12, 13, 14, 15, 16, 17, 18], [0, 1, 2, 3, 4, 5, 6, 7, 8, 9, 10, 11, 12, 13, 14, 15, 16, 17, 18, 19], [0, 1, 2, 3, 4, 5, 6, 7, 8, 9, 10, 11, 12, 13, 14, 15, 16, 17, 18, 19, 20], [0, 1, 2, 3, 4, 5, 6, 7, 8, 9, 10, 11, 12, 13, 14, 15, 16, 17], [0, 1, 2, 3, 4, 5, 6, 7, 8, 9, 10, 11, 12, 13, 14, 15, 16, 17, 22], [0, 1, 2, 3, 4, 5, 6, 7, 8, 9, 10, 11, 12, 13, 14, 15, 16, 17, 22, 23], [0, 1, 2, 3, 4, 5, 6, 7, 8, 9, 10, 11, 12, 13, 14, 15, 16, 17, 22, 23, 24], [0, 1, 2, 3, 4, 5, 6, 7, 8, 9, 10, 11, 12, 13, 14, 15, 16, 17, 18, 19, 20, 21, 22, 23, 24, 25], [0, 1, 2, 3, 4, 5, 6, 7, 8, 9, 10, 11, 12, 13, 14, 15, 16, 17, 18, 19, 20, 21, 22, 23, 24, 25, 26], [0, 1, 2, 3, 4, 5, 6, 7, 8, 9, 10, 11, 12, 13, 14, 15, 16, 17, 18, 19, 20, 21, 22, 23, 24, 25, 26, 27], [0, 1, 2, 3, 4, 5, 6, 7, 8, 9, 10, 11, 12, 13, 14, 15, 16, 17], [0, 1, 2, 3, 4, 5, 6, 7, 8, 9, 10, 11, 12, 13, 14, 15, 16, 17, 18, 19, 20, 21, 22, 23, 24, 25, 26, 27, 28, 29], [0, 1, 2, 3, 4, 5, 6, 7, 8, 9, 10, 11, 12, 13, 14, 15, 16, 17, 18, 19, 20, 21, 22, 23, 24, 25, 26, 27, 28, 29, 30], [0, 1, 2, 3, 4, 5, 6, 7, 8, 9, 10, 11, 12, 13, 14, 15, 16, 17, 18, 19, 20, 21, 22, 23, 24, 25, 26, 27, 28, 29, 30, 31], [0, 1, 2, 3, 4, 5, 6, 7, 8, 9, 10, 11, 12, 13, 14, 15, 16, 17, 18, 19, 20, 21, 22, 23, 24, 25, 26, 27, 28, 29, 30, 31, 32], [0, 1, 2, 3, 4, 5, 6, 7, 8, 9, 10, 11, 12, 13, 14, 15, 16, 17, 18, 19, 20, 21, 22, 23, 24, 25, 26, 27, 28, 29, 30, 31, 32, 33], [0, 1, 2, 3, 4, 5, 6, 7, 8, 9, 10, 11, 12, 13, 14, 15, 16, 17, 18, 19, 20, 21, 22, 23, 24, 25, 26, 27, 28, 29, 30, 31, 32, 33, 34], [0, 1, 2, 3, 4, 5, 6, 7, 8, 9, 10, 11, 12, 13, 14, 15, 16, 17, 18, 19, 20, 21, 22, 23, 24, 25, 26, 27, 28, 29, 30, 31, 32, 33, 34, 35], [0, 1, 2, 3, 4, 5, 6, 7, 8, 9, 10, 11, 12, 13, 14, 15, 16, 17, 18, 19, 20, 21, 22, 23, 24, 25, 26, 27, 28, 29, 30, 31, 32], [0, 1, 2, 3, 4, 5, 6, 7, 8, 9, 10, 11, 12, 13, 14, 15, 16, 17, 18, 19, 20, 21, 22, 23, 24, 25, 26, 27, 28, 29, 30, 31, 32, 37], [0, 1, 2, 3, 4, 5, 6, 7, 8, 9, 10, 11, 12, 13, 14, 15, 16, 17, 18, 19, 20, 21, 22, 23, 24, 25, 26, 27, 28, 29, 30, 31, 32, 37, 38], [0, 1, 2, 3, 4, 5, 6, 7, 8, 9, 10, 11, 12, 13, 14, 15, 16, 17, 18, 19, 20, 21, 22, 23, 24, 25, 26, 27, 28, 29, 30, 31, 32, 37, 38, 39], [0, 1, 2, 3, 4, 5, 6, 7, 8, 9, 10, 11, 12, 13, 14, 15, 16, 17, 18, 19, 20, 21, 22, 23, 24, 25, 26, 27, 28, 29, 30, 31, 32, 33, 34, 35, 36, 37, 38, 39, 40], [0, 1, 2, 3, 4, 5, 6, 7, 8, 9, 10, 11, 12, 13, 14, 15, 16, 17, 18, 19, 20, 21, 22, 23, 24, 25, 26, 27, 28, 29, 30, 31, 32, 33, 34, 35, 36, 37, 38, 39, 40, 41], [0, 1, 2, 3, 4, 5, 6, 7, 8, 9, 10, 11, 12, 13, 14, 15, 16, 17, 18, 19, 20, 21, 22, 23, 24, 25, 26, 27, 28, 29, 30, 31, 32, 33, 34, 35, 36, 37, 38, 39, 40, 41, 42], [0, 1, 2, 3, 4, 5, 6, 7, 8, 9, 10, 11, 12, 13, 14, 15, 16, 17, 18, 19, 20, 21, 22, 23, 24, 25, 26, 27, 28, 29, 30, 31, 32], [0, 1, 2, 3, 4, 5, 6, 7, 8, 9, 10, 11, 12, 13, 14, 15, 16, 17, 18, 19, 20, 21, 22, 23, 24, 25, 26, 27, 28, 29, 30, 31, 32, 33, 34, 35, 36, 37, 38, 39, 40, 41, 42, 43, 44], [0, 1, 2, 3, 4, 5, 6, 7, 8, 9, 10, 11, 12, 13, 14, 15, 16, 17, 18, 19, 20, 21, 22, 23, 24, 25, 26, 27, 28, 29, 30, 31, 32, 33, 34, 35, 36, 37, 38, 39, 40, 41, 42, 43, 44, 45], [0, 1, 2, 3, 4, 5, 6, 7, 8, 9, 10, 11, 12, 13, 14, 15, 16, 17, 18, 19, 20, 21, 22, 23, 24, 25, 26, 27, 28, 29, 30, 31, 32, 33, 34, 35, 36, 37, 38, 39, 40, 41, 42, 43, 44, 45, 46]] (by kernel_rfl) rfl (by kernel_rfl) ?_
      refine J_weak [(0, _), (6, _), (7, _), (3000, _)] ⟨rfl, rfl, rfl, rfl, trivial⟩ ?_
      refine J_seq ?_
      refine J_seq ?_
      refine JR.start ?_
      refine JR.run rfl rfl (r_move rfl rfl rfl trivial) ?_
      refine JR.done [] (by kernel_rfl) rfl (by kernel_rfl) ?_
      refine J_weak [(0, _), (6, _), (7, _), (55, _), (3000, _)] ⟨rfl, rfl, rfl, rfl, rfl, trivial⟩ ?_
      refine J_condF rfl ?_
      refine J_skip ?_
      refine J_seq ?_
      refine JR.start ?_
      refine JR.run rfl rfl (r_move rfl rfl rfl trivial) ?_
      refine JR.run rfl rfl (r_assign rfl rfl rfl trivial) ?_
      refine JR.done [] (by kernel_rfl) rfl (by kernel_rfl) ?_
      refine J_weak [(6, _), (3000, _)] ⟨rfl, rfl, trivial⟩ ?_
      refine J_ret ?_
      exact ⟨.inl rfl, _, rfl, .refl _, rfl, trivial⟩
    · clear h
      refine J_seq ?_
      refine JR.start ?_
      refine JR.run rfl rfl (r_assign rfl rfl rfl trivial) ?_
      refine JR.done [] (by kernel_rfl) rfl (by kernel_rfl) ?_
      refine J_weak [(0, _), (1, _), (2, _), (6, _), (3000, _)] ⟨rfl, rfl, rfl, rfl, rfl, trivial⟩ ?_
      refine J_seq ?_
      refine JR.start ?_
      refine JR.run rfl rfl (r_move rfl rfl rfl trivial) ?_
      refine JR.run rfl rfl (r_nilCheck rfl rfl rfl) ?_
      refine JR.run rfl rfl (r_fieldAddr (off := 2) (m := 1) rfl rfl (by kernel_rfl) rfl) ?_
      refine JR.run rfl rfl (r_load rfl rfl (by kernel_rfl) rfl rfl rfl) ?_
      refine JR.run rfl rfl ((r_ltI rfl rfl rfl rfl).cast (by rfl)) ?_
      refine JR.run rfl rfl (r_move rfl rfl rfl trivial) ?_
      refine JR.run rfl rfl (r_move rfl rfl rfl trivial) ?_
      refine JR.run rfl rfl (r_nilCheck rfl rfl rfl) ?_
      refine JR.run rfl rfl (r_fieldAddr (off := 1) (m := 1) rfl rfl (by kernel_rfl) rfl) ?_
      refine JR.run rfl rfl (r_load rfl rfl (by kernel_rfl) rfl rfl rfl) ?_
      refine JR.run rfl rfl (r_move rfl rfl rfl trivial) ?_
      refine JR.run rfl rfl (r_nilCheck rfl rfl rfl) ?_
      refine JR.run rfl rfl (r_fieldAddr (off := 0) (m := 1) rfl rfl (by kernel_rfl) rfl) ?_
      refine JR.run rfl rfl (r_load rfl rfl (by kernel_rfl) rfl rfl rfl) ?_
      refine JR.run rfl rfl (r_len rfl rfl (by kernel_rfl) rfl) ?_
      refine JR.run rfl rfl ((r_ltI rfl rfl rfl rfl).cast (by rw [decide_eq_true hlt])) ?_
      refine JR.run rfl rfl (r_pickT rfl rfl rfl rfl trivial) ?_
      refine JR.run rfl rfl (r_move rfl rfl rfl trivial) ?_
      refine JR.run rfl rfl (r_move rfl rfl rfl trivial) ?_
      refine JR.run rfl rfl (r_nilCheck rfl rfl rfl) ?_
      refine JR.run rfl rfl (r_fieldAddr (off := 0) (m := 1) rfl rfl (by kernel_rfl) rfl) ?_
      refine JR.run rfl rfl (r_load rfl rfl (by kernel_rfl) rfl rfl rfl) ?_
      refine JR.run rfl rfl (r_move rfl rfl rfl trivial) ?_
      refine JR.run rfl rfl (r_nilCheck rfl rfl rfl) ?_
      refine JR.run rfl rfl (r_fieldAddr (off := 1) (m := 1) rfl rfl (by kernel_rfl) rfl) ?_
      refine JR.run rfl rfl (r_load rfl rfl (by kernel_rfl) rfl rfl rfl) ?_
      refine JR.run rfl rfl (r_indexAddr (e := 54) (sz := 5) rfl rfl (by kernel_rfl) rfl rfl (by omega) (toksD_get hx)) ?_
      refine JR.run rfl rfl (r_fieldAddrEl (off := 0) (m := 1) rfl rfl (by kernel_rfl) rfl) ?_
      refine JR.run rfl rfl (r_loadEl rfl rfl (by kernel_rfl) rfl rfl) ?_
      refine JR.run rfl rfl (r_move rfl rfl rfl trivial) ?_
      refine JR.run rfl rfl ((r_eqI rfl rfl rfl rfl).cast (by rw [decide_eq_false (by omega)])) ?_
      refine JR.run rfl rfl (r_pickT rfl rfl rfl rfl trivial) ?_
      refine JR.run rfl rfl (r_move rfl rfl rfl trivial) ?_
      refine JR.skip rfl rfl ?_
      refine JR.skip rfl rfl ?_
      refine JR.skip rfl rfl ?_
      refine JR.skip rfl rfl ?_
      refine JR.skip rfl rfl ?_
      refine JR.skip rfl rfl ?_
      refine JR.skip rfl rfl ?_
      refine JR.skip rfl rfl ?_
      refine JR.skip rfl rfl ?_
      refine JR.skip rfl rfl ?_
      refine JR.skip rfl rfl ?_
      refine JR.skip rfl rfl ?_
      refine JR.skip rfl rfl ?_
      refine JR.run rfl rfl (r_pickF rfl rfl rfl rfl trivial) ?_
      refine JR.run rfl rfl (r_assign rfl rfl rfl trivial) ?_
      refine JR.done [[], [0], [0, 1], [0, 1, 2], [0, 1, 2, 3], [0, 1, 2, 3, 4], [0, 1, 2, 3, 4, 5], [0, 1, 2, 3, 4, 5, 6], [0, 1, 2, 3, 4, 5, 6, 7], [0, 1, 2, 3, 4, 5, 6, 7, 8], [0, 1, 2, 3, 4, 5], [0, 1, 2, 3, 4, 5, 10], [0, 1, 2, 3, 4, 5, 10, 11], [0, 1, 2, 3, 4, 5, 10, 11, 12], [0, 1, 2, 3, 4, 5, 10, 11, 12, 13], [0, 1, 2, 3, 4, 5, 6, 7, 8, 9, 10, 11, 12, 13, 14], [0, 1, 2, 3, 4, 5, 6, 7, 8, 9, 10, 11, 12, 13, 14, 15], [0, 1, 2, 3, 4, 5, 6, 7, 8, 9, 10, 11, 12, 13, 14, 15, 16], [0, 1, 2, 3, 4, 5, 6, 7, 8, 9, 10, 11, 12, 13, 14, 15, 16, 17], [0, 1, 2, 3, 4, 5, 6, 7, 8, 9, 10, 11, 12, 13, 14, 15, 16, 17, 18], [0, 1, 2, 3, 4, 5, 6, 7, 8, 9, 10, 11, 12, 13, 14, 15, 16, 17, 18, 19], [0, 1, 2, 3, 4, 5, 6, 7, 8, 9, 10, 11, 12, 13, 14, 15, 16, 17, 18, 19, 20], [0, 1, 2, 3, 4, 5, 6, 7, 8, 9, 10, 11, 12, 13, 14, 15, 16, 17], [0, 1, 2, 3, 4, 5, 6, 7, 8, 9, 10, 11, 12, 13, 14, 15, 16, 17, 22], [0, 1, 2, 3, 4, 5, 6, 7, 8, 9, 10, 11, 12, 13, 14, 15, 16, 17, 22, 23], [0, 1, 2, 3, 4, 5, 6, 7, 8, 9, 10, 11, 12, 13, 14, 15, 16, 17, 22, 23, 24], [0, 1, 2, 3, 4, 5, 6, 7, 8, 9, 10, 11, 12, 13, 14, 15, 16, 17, 18, 19, 20, 21, 22, 23, 24, 25], [0, 1, 2, 3, 4, 5, 6, 7, 8, 9, 10, 11, 12, 13, 14, 15, 16, 17, 18, 19, 20, 21, 22, 23, 24, 25, 26], [0, 1, 2, 3, 4, 5, 6, 7, 8, 9, 10, 11, 12, 13, 14, 15, 16, 17, 18, 19, 20, 21, 22, 23, 24, 25, 26, 27], [0, 1, 2, 3, 4, 5, 6, 7, 8, 9, 10, 11, 12, 13, 14, 15, 16, 17], [0, 1, 2, 3, 4, 5, 6, 7, 8, 9, 10, 11, 12, 13, 14, 15, 16, 17, 18, 19, 20, 21, 22, 23, 24, 25, 26, 27, 28, 29], [0, 1, 2, 3, 4, 5, 6, 7, 8, 9, 10, 11, 12, 13, 14, 15, 16, 17, 18, 19, 20, 21, 22, 23, 24, 25, 26, 27, 28, 29, 30], [0, 1, 2, 3, 4, 5, 6, 7, 8, 9, 10, 11, 12, 13, 14, 15, 16, 17, 18, 19, 20, 21, 22, 23, 24, 25, 26, 27, 28, 29, 30, 31], [0, 1, 2, 3, 4, 5, 6, 7, 8, 9, 10, 11, 12, 13, 14, 15, 16, 17, 18, 19, 20, 21, 22, 23, 24, 25, 26, 27, 28, 29, 30, 31, 32], [0, 1, 2, 3, 4, 5, 6, 7, 8, 9, 10, 11, 12, 13, 14, 15, 16, 17, 18, 19, 20, 21, 22, 23, 24, 25, 26, 27, 28, 29, 30, 31, 32, 33], [0, 1, 2, 3, 4, 5, 6, 7, 8, 9, 10, 11, 12, 13, 14, 15, 16, 17, 18, 19, 20, 21, 22, 23, 24, 25, 26, 27, 28, 29, 30, 31, 32, 33, 34], [0, 1, 2, 3, 4, 5, 6, 7, 8, 9, 10, 11, 12, 13, 14, 15, 16, 17, 18, 19, 20, 21, 22, 23, 24, 25, 26, 27, 28, 29, 30, 31, 32, 33, 34, 35], [0, 1, 2, 3, 4, 5, 6, 7, 8, 9, 10, 11, 12, 13, 14, 15, 16, 17, 18, 19, 20, 21, 22, 23, 24, 25, 26, 27, 28, 29, 30, 31, 32], [0, 1, 2, 3, 4, 5, 6, 7, 8, 9, 10, 11, 12, 13, 14, 15, 16, 17, 18, 19, 20, 21, 22, 23, 24, 25, 26, 27, 28, 29, 30, 31, 32, 37], [0, 1, 2, 3, 4, 5, 6, 7, 8, 9, 10, 11, 12, 13, 14, 15, 16, 17, 18, 19, 20, 21, 22, 23, 24, 25, 26, 27, 28, 29, 30, 31, 32, 37, 38], [0, 1, 2, 3, 4, 5, 6, 7, 8, 9, 10, 11, 12, 13, 14, 15, 16, 17, 18, 19, 20, 21, 22, 23, 24, 25, 26, 27, 28, 29, 30, 31, 32, 37, 38, 39], [0, 1, 2, 3, 4, 5, 6, 7, 8, 9, 10, 11, 12, 13, 14, 15, 16, 17, 18, 19, 20, 21, 22, 23, 24, 25, 26, 27, 28, 29, 30, 31, 32, 33, 34, 35, 36, 37, 38, 39, 40], [0, 1, 2, 3, 4, 5, 6, 7, 8, 9, 10, 11, 12, 13, 14, 15, 16, 17, 18, 19, 20, 21, 22, 23, 24, 25, 26, 27, 28, 29, 30, 31, 32, 33, 34, 35, 36, 37, 38, 39, 40, 41], [0, 1, 2, 3, 4, 5, 6, 7, 8, 9, 10, 11, 12, 13, 14, 15, 16, 17, 18, 19, 20, 21, 22, 23, 24, 25, 26, 27, 28, 29, 30, 31, 32, 33, 34, 35, 36, 37, 38, 39, 40, 41, 42], [0, 1, 2, 3, 4, 5, 6, 7, 8, 9, 10, 11, 12, 13, 14, 15, 16, 17, 18, 19, 20, 21, 22, 23, 24, 25, 26, 27, 28, 29, 30, 31, 32], [0, 1, 2, 3, 4, 5, 6, 7, 8, 9, 10, 11, 12, 13, 14, 15, 16, 17, 18, 19, 20, 21, 22, 23, 24, 25, 26, 27, 28, 29, 30, 31, 32, 33, 34, 35, 36, 37, 38, 39, 40, 41, 42, 43, 44], [0, 1, 2, 3, 4, 5, 6, 7, 8, 9, 10, 11, 12, 13, 14, 15, 16, 17, 18, 19, 20, 21, 22, 23, 24, 25, 26, 27, 28, 29, 30, 31, 32, 33, 34, 35, 36, 37, 38, 39, 40, 41, 42, 43, 44, 45], [0, 1, 2, 3, 4, 5, 6, 7, 8, 9, 10, 11, 12, 13, 14, 15, 16, 17, 18, 19, 20, 21, 22, 23, 24, 25, 26, 27, 28, 29, 30, 31, 32, 33, 34, 35, 36, 37, 38, 39, 40, 41, 42, 43, 44, 45, 46]] (by kernel_rfl) rfl (by kernel_rfl) ?_
      refine J_weak [(0, _), (6, _), (7, _), (3000, _)] ⟨rfl, rfl, rfl, rfl, trivial⟩ ?_
      refine J_seq ?_
      refine J_seq ?_
      refine JR.start ?_
      refine JR.run rfl rfl (r_move rfl rfl rfl trivial) ?_
      refine JR.done [] (by kernel_rfl) rfl (by kernel_rfl) ?_
      refine J_weak [(0, _), (6, _), (7, _), (55, _), (3000, _)] ⟨rfl, rfl, rfl, rfl, rfl, trivial⟩ ?_
      refine J_condF rfl ?_
      refine J_skip ?_
      refine J_seq ?_
      refine JR.start ?_
      refine JR.run rfl rfl (r_move rfl rfl rfl trivial) ?_
      refine JR.run rfl rfl (r_assign rfl rfl rfl trivial) ?_
      refine JR.done [] (by kernel_rfl) rfl (by kernel_rfl) ?_
      refine J_weak [(6, _), (3000, _)] ⟨rfl, rfl, trivial⟩ ?_
      refine J_ret ?_
      exact ⟨.inl rfl, _, rfl, .refl _, rfl, trivial⟩
  · have hlt : ¬ (i : Int) < (((ts.map tokD).length : Nat) : Int) := by simp; omega
    refine J_seq ?_
    refine JR.start ?_
    refine JR.run rfl rfl (r_assign rfl rfl rfl trivial) ?_
    refine JR.done [] (by kernel_rfl) rfl (by kernel_rfl) ?_
    refine J_weak [(0, _), (1, _), (2, _), (6, _), (3000, _)] ⟨rfl, rfl, rfl, rfl, rfl, trivial⟩ ?_
    refine J_seq ?_
    refine JR.start ?_
    refine JR.run rfl rfl (r_move rfl rfl rfl trivial) ?_
    refine JR.run rfl rfl (r_nilCheck rfl rfl rfl) ?_
    refine JR.run rfl rfl (r_fieldAddr (off := 2) (m := 1) rfl rfl (by kernel_rfl) rfl) ?_
    refine JR.run rfl rfl (r_load rfl rfl (by kernel_rfl) rfl rfl rfl) ?_
    refine JR.run rfl rfl ((r_ltI rfl rfl rfl rfl).cast (by rfl)) ?_
    refine JR.run rfl rfl (r_move rfl rfl rfl trivial) ?_
    refine JR.run rfl rfl (r_move rfl rfl rfl trivial) ?_
    refine JR.run rfl rfl (r_nilCheck rfl rfl rfl) ?_
    refine JR.run rfl rfl (r_fieldAddr (off := 1) (m := 1) rfl rfl (by kernel_rfl) rfl) ?_
    refine JR.run rfl rfl (r_load rfl rfl (by kernel_rfl) rfl rfl rfl) ?_
    refine JR.run rfl rfl (r_move rfl rfl rfl trivial) ?_
    refine JR.run rfl rfl (r_nilCheck rfl rfl rfl) ?_
    refine JR.run rfl rfl (r_fieldAddr (off := 0) (m := 1) rfl rfl (by kernel_rfl) rfl) ?_
    refine JR.run rfl rfl (r_load rfl rfl (by kernel_rfl) rfl rfl rfl) ?_
    refine JR.run rfl rfl (r_len rfl rfl (by kernel_rfl) rfl) ?_
    refine JR.run rfl rfl ((r_ltI rfl rfl rfl rfl).cast (by rw [decide_eq_false hlt])) ?_
    refine JR.run rfl rfl (r_pickT rfl rfl rfl rfl trivial) ?_
    refine JR.run rfl rfl (r_move rfl rfl rfl trivial) ?_
    refine JR.skip rfl rfl ?_
    refine JR.skip rfl rfl ?_
    refine JR.skip rfl rfl ?_
    refine JR.skip rfl rfl ?_
    refine JR.skip rfl rfl ?_
    refine JR.skip rfl rfl ?_
    refine JR.skip rfl rfl ?_
    refine JR.skip rfl rfl ?_
    refine JR.skip rfl rfl ?_
    refine JR.skip rfl rfl ?_
    refine JR.skip rfl rfl ?_
    refine JR.skip rfl rfl ?_
    refine JR.skip rfl rfl ?_
    refine JR.run rfl rfl (r_pickF rfl rfl rfl rfl trivial) ?_
    refine JR.run rfl rfl (r_move rfl rfl rfl trivial) ?_
    refine JR.skip rfl rfl ?_
    refine JR.skip rfl rfl ?_
    refine JR.skip rfl rfl ?_
    refine JR.skip rfl rfl ?_
    refine JR.skip rfl rfl ?_
    refine JR.skip rfl rfl ?_
    refine JR.skip rfl rfl ?_
    refine JR.skip rfl rfl ?_
    refine JR.skip rfl rfl ?_
    refine JR.skip rfl rfl ?_
    refine JR.skip rfl rfl ?_
    refine JR.skip rfl rfl ?_
    refine JR.skip rfl rfl ?_
    refine JR.run rfl rfl (r_pickF rfl rfl rfl rfl trivial) ?_
    refine JR.run rfl rfl (r_assign rfl rfl rfl trivial) ?_
    refine JR.done [[], [0], [0, 1], [0, 1, 2], [0, 1, 2, 3], [0, 1, 2, 3, 4], [0, 1, 2, 3, 4, 5], [0, 1, 2, 3, 4, 5, 6], [0, 1, 2, 3, 4, 5, 6, 7], [0, 1, 2, 3, 4, 5, 6, 7, 8], [0, 1, 2, 3, 4, 5], [0, 1, 2, 3, 4, 5, 10], [0, 1, 2, 3, 4, 5, 10, 11], [0, 1, 2, 3, 4, 5, 10, 11, 12], [0, 1, 2, 3, 4, 5, 10, 11, 12, 13], [0, 1, 2, 3, 4, 5, 6, 7, 8, 9, 10, 11, 12, 13, 14], [0, 1, 2, 3, 4, 5, 6, 7, 8, 9, 10, 11, 12, 13, 14, 15], [0, 1, 2, 3, 4, 5, 6, 7, 8, 9, 10, 11, 12, 13, 14, 15, 16], [0, 1, 2, 3, 4, 5, 6, 7, 8, 9, 10, 11, 12, 13, 14, 15, 16, 17], [0, 1, 2, 3, 4, 5, 6, 7, 8, 9, 10, 11, 12, 13, 14, 15, 16, 17, 18], [0, 1, 2, 3, 4, 5, 6, 7, 8, 9, 10, 11, 12, 13, 14, 15, 16, 17, 18, 19], [0, 1, 2, 3, 4, 5, 6, 7, 8, 9, 10, 11, 12, 13, 14, 15, 16, 17, 18, 19, 20], [0, 1, 2, 3, 4, 5, 6, 7, 8, 9, 10, 11, 12, 13, 14, 15, 16, 17], [0, 1, 2, 3, 4, 5, 6, 7, 8, 9, 10, 11, 12, 13, 14, 15, 16, 17, 22], [0, 1, 2, 3, 4, 5, 6, 7, 8, 9, 10, 11, 12, 13, 14, 15, 16, 17, 22, 23], [0, 1, 2, 3, 4, 5, 6, 7, 8, 9, 10, 11, 12, 13, 14, 15, 16, 17, 22, 23, 24], [0, 1, 2, 3, 4, 5, 6, 7, 8, 9, 10, 11, 12, 13, 14, 15, 16, 17, 18, 19, 20, 21, 22, 23, 24, 25], [0, 1, 2, 3, 4, 5, 6, 7, 8, 9, 10, 11, 12, 13, 14, 15, 16, 17, 18, 19, 20, 21, 22, 23, 24, 25, 26], [0, 1, 2, 3, 4, 5, 6, 7, 8, 9, 10, 11, 12, 13, 14, 15, 16, 17, 18, 19, 20, 21, 22, 23, 24, 25, 26, 27], [0, 1, 2, 3, 4, 5, 6, 7, 8, 9, 10, 11, 12, 13, 14, 15, 16, 17], [0, 1, 2, 3, 4, 5, 6, 7, 8, 9, 10, 11, 12, 13, 14, 15, 16, 17, 18, 19, 20, 21, 22, 23, 24, 25, 26, 27, 28, 29], [0, 1, 2, 3, 4, 5, 6, 7, 8, 9, 10, 11, 12, 13, 14, 15, 16, 17, 18, 19, 20, 21, 22, 23, 24, 25, 26, 27, 28, 29, 30], [0, 1, 2, 3, 4, 5, 6, 7, 8, 9, 10, 11, 12, 13, 14, 15, 16, 17, 18, 19, 20, 21, 22, 23, 24, 25, 26, 27, 28, 29, 30, 31], [0, 1, 2, 3, 4, 5, 6, 7, 8, 9, 10, 11, 12, 13, 14, 15, 16, 17, 18, 19, 20, 21, 22, 23, 24, 25, 26, 27, 28, 29, 30, 31, 32], [0, 1, 2, 3, 4, 5, 6, 7, 8, 9, 10, 11, 12, 13, 14, 15, 16, 17, 18, 19, 20, 21, 22, 23, 24, 25, 26, 27, 28, 29, 30, 31, 32, 33], [0, 1, 2, 3, 4, 5, 6, 7, 8, 9, 10, 11, 12, 13, 14, 15, 16, 17, 18, 19, 20, 21, 22, 23, 24, 25, 26, 27, 28, 29, 30, 31, 32, 33, 34], [0, 1, 2, 3, 4, 5, 6, 7, 8, 9, 10, 11, 12, 13, 14, 15, 16, 17, 18, 19, 20, 21, 22, 23, 24, 25, 26, 27, 28, 29, 30, 31, 32, 33, 34, 35], [0, 1, 2, 3, 4, 5, 6, 7, 8, 9, 10, 11, 12, 13, 14, 15, 16, 17, 18, 19, 20, 21, 22, 23, 24, 25, 26, 27, 28, 29, 30, 31, 32], [0, 1, 2, 3, 4, 5, 6, 7, 8, 9, 10, 11, 12, 13, 14, 15, 16, 17, 18, 19, 20, 21, 22, 23, 24, 25, 26, 27, 28, 29, 30, 31, 32, 37], [0, 1, 2, 3, 4, 5, 6, 7, 8, 9, 10, 11, 12, 13, 14, 15, 16, 17, 18, 19, 20, 21, 22, 23, 24, 25, 26, 27, 28, 29, 30, 31, 32, 37, 38], [0, 1, 2, 3, 4, 5, 6, 7, 8, 9, 10, 11, 12, 13, 14, 15, 16, 17, 18, 19, 20, 21, 22, 23, 24, 25, 26, 27, 28, 29, 30, 31, 32, 37, 38, 39], [0, 1, 2, 3, 4, 5, 6, 7, 8, 9, 10, 11, 12, 13, 14, 15, 16, 17, 18, 19, 20, 21, 22, 23, 24, 25, 26, 27, 28, 29, 30, 31, 32, 33, 34, 35, 36, 37, 38, 39, 40], [0, 1, 2, 3, 4, 5, 6, 7, 8, 9, 10, 11, 12, 13, 14, 15, 16, 17, 18, 19, 20, 21, 22, 23, 24, 25, 26, 27, 28, 29, 30, 31, 32, 33, 34, 35, 36, 37, 38, 39, 40, 41], [0, 1, 2, 3, 4, 5, 6, 7, 8, 9, 10, 11, 12, 13, 14, 15, 16, 17, 18, 19, 20, 21, 22, 23, 24, 25, 26, 27, 28, 29, 30, 31, 32, 33, 34, 35, 36, 37, 38, 39, 40, 41, 42], [0, 1, 2, 3, 4, 5, 6, 7, 8, 9, 10, 11, 12, 13, 14, 15, 16, 17, 18, 19, 20, 21, 22, 23, 24, 25, 26, 27, 28, 29, 30, 31, 32], [0, 1, 2, 3, 4, 5, 6, 7, 8, 9, 10, 11, 12, 13, 14, 15, 16, 17, 18, 19, 20, 21, 22, 23, 24, 25, 26, 27, 28, 29, 30, 31, 32, 33, 34, 35, 36, 37, 38, 39, 40, 41, 42, 43, 44], [0, 1, 2, 3, 4, 5, 6, 7, 8, 9, 10, 11, 12, 13, 14, 15, 16, 17, 18, 19, 20, 21, 22, 23, 24, 25, 26, 27, 28, 29, 30, 31, 32, 33, 34, 35, 36, 37, 38, 39, 40, 41, 42, 43, 44, 45], [0, 1, 2, 3, 4, 5, 6, 7, 8, 9, 10, 11, 12, 13, 14, 15, 16, 17, 18, 19, 20, 21, 22, 23, 24, 25, 26, 27, 28, 29, 30, 31, 32, 33, 34, 35, 36, 37, 38, 39, 40, 41, 42, 43, 44, 45, 46]] (by kernel_rfl) rfl (by kernel_rfl) ?_
    refine J_weak [(0, _), (6, _), (7, _), (3000, _)] ⟨rfl, rfl, rfl, rfl, trivial⟩ ?_
    refine J_seq ?_
    refine J_seq ?_
    refine JR.start ?_
    refine JR.run rfl rfl (r_move rfl rfl rfl trivial) ?_
    refine JR.done [] (by kernel_rfl) rfl (by kernel_rfl) ?_
    refine J_weak [(0, _), (6, _), (7, _), (55, _), (3000, _)] ⟨rfl, rfl, rfl, rfl, rfl, trivial⟩ ?_
    refine J_condF rfl ?_
    refine J_skip ?_
    refine J_seq ?_
    refine JR.start ?_
    refine JR.run rfl rfl (r_move rfl rfl rfl trivial) ?_
    refine JR.run rfl rfl (r_assign rfl rfl rfl trivial) ?_
    refine JR.done [] (by kernel_rfl) rfl (by kernel_rfl) ?_
    refine J_weak [(6, _), (3000, _)] ⟨rfl, rfl, trivial⟩ ?_
    refine J_ret ?_
    exact ⟨.inl rfl, _, rfl, .refl _, rfl, trivial⟩
theorem rMayB (ts : List Tok) (i : Nat) (b : Int) (k : Nat) (s : List UInt8) (hb : 0 ≤ b) : Con Tryd.prog 50 [.ptr 3000 0, .c (.lit (.int .i64 (k : Int))), .c (.lit (str s))] [(3000, rRdr ts i b)] (.c (.lit (.bool false))) [(3000, rRdr ts i b)] := by
  have h : ¬ b < 0 := by omega
  refine con_intro rfl rfl (by kernel_rfl) (by kernel_rfl) ?_
  refine J_seq ?_
  refine JR.start ?_
  refine JR.run rfl rfl (r_assign rfl rfl rfl trivial) ?_
  refine JR.done [] (by kernel_rfl) rfl (by kernel_rfl) ?_
  refine J_weak [(0, _), (1, _), (2, _), (6, _), (3000, _)] ⟨rfl, rfl, rfl, rfl, rfl, trivial⟩ ?_
  refine J_seq ?_
  refine JR.start ?_
  refine JR.run rfl rfl (r_move rfl rfl rfl trivial) ?_
  refine JR.run rfl rfl (r_nilCheck rfl rfl rfl) ?_
  refine JR.run rfl rfl (r_fieldAddr (off := 2) (m := 1) rfl rfl (by kernel_rfl) rfl) ?_
  refine JR.run rfl rfl (r_load rfl rfl (by kernel_rfl) rfl rfl rfl) ?_
  refine JR.run rfl rfl ((r_ltI rfl rfl rfl rfl).cast (by rw [decide_eq_false h])) ?_
  refine JR.run rfl rfl (r_move rfl rfl rfl trivial) ?_
  refine JR.skip rfl rfl ?_
  refine JR.skip rfl rfl ?_
  refine JR.skip rfl rfl ?_
  refine JR.skip rfl rfl ?_
  refine JR.skip rfl rfl ?_
  refine JR.skip rfl rfl ?_
  refine JR.skip rfl rfl ?_
  refine JR.skip rfl rfl ?_
  refine JR.skip rfl rfl ?_
  refine JR.skip rfl rfl ?_
  refine JR.run rfl rfl (r_pickF rfl rfl rfl rfl trivial) ?_
  refine JR.run rfl rfl (r_move rfl rfl rfl trivial) ?_
  refine JR.skip rfl rfl ?_
  refine JR.skip rfl rfl ?_
  refine JR.skip rfl rfl ?_
  refine JR.skip rfl rfl ?_
  refine JR.skip rfl rfl ?_
  refine JR.skip rfl rfl ?_
  refine JR.skip rfl rfl ?_
  refine JR.skip rfl rfl ?_
  refine JR.skip rfl rfl ?_
  refine JR.skip rfl rfl ?_
  refine JR.skip rfl rfl ?_
  refine JR.skip rfl rfl ?_
  refine JR.skip rfl rfl ?_
  refine JR.run rfl rfl (r_pickF rfl rfl rfl rfl trivial) ?_
  refine JR.run rfl rfl (r_move rfl rfl rfl trivial) ?_
  refine JR.skip rfl rfl ?_
  refine JR.skip rfl rfl ?_
  refine JR.skip rfl rfl ?_
  refine JR.skip rfl rfl ?_
  refine JR.skip rfl rfl ?_
  refine JR.skip rfl rfl ?_
  refine JR.skip rfl rfl ?_
  refine JR.skip rfl rfl ?_
  refine JR.skip rfl rfl ?_
  refine JR.skip rfl rfl ?_
  refine JR.skip rfl rfl ?_
  refine JR.skip rfl rfl ?_
  refine JR.skip rfl rfl ?_
  refine JR.run rfl rfl (r_pickF rfl rfl rfl rfl trivial) ?_
  refine JR.run rfl rfl (r_assign rfl rfl rfl trivial) ?_
  refine JR.done [[], [0], [0, 1], [0, 1, 2], [0, 1, 2, 3], [0, 1, 2, 3, 4], [0, 1, 2, 3, 4, 5], [0, 1, 2, 3, 4, 5, 6], [0, 1, 2, 3, 4, 5, 6, 7], [0, 1, 2, 3, 4, 5, 6, 7, 8], [0, 1, 2, 3, 4, 5], [0, 1, 2, 3, 4, 5, 10], [0, 1, 2, 3, 4, 5, 10, 11], [0, 1, 2, 3, 4, 5, 10, 11, 12], [0, 1, 2, 3, 4, 5, 10, 11, 12, 13], [0, 1, 2, 3, 4, 5, 6, 7, 8, 9, 10, 11, 12, 13, 14], [0, 1, 2, 3, 4, 5, 6, 7, 8, 9, 10, 11, 12, 13, 14, 15], [0, 1, 2, 3, 4, 5, 6, 7, 8, 9, 10, 11, 12, 13, 14, 15, 16], [0, 1, 2, 3, 4, 5, 6, 7, 8, 9, 10, 11, 12, 13, 14, 15, 16, 17], [0, 1, 2, 3, 4, 5, 6, 7, 8, 9, 10, 11, 12, 13, 14, 15, 16, 17, 18], [0, 1, 2, 3, 4, 5, 6, 7, 8, 9, 10, 11, 12, 13, 14, 15, 16, 17, 18, 19], [0, 1, 2, 3, 4, 5, 6, 7, 8, 9, 10, 11, 12, 13, 14, 15, 16, 17, 18, 19, 20], [0, 1, 2, 3, 4, 5, 6, 7, 8, 9, 10, 11, 12, 13, 14, 15, 16, 17], [0, 1, 2, 3, 4, 5, 6, 7, 8, 9, 10, 11, 12, 13, 14, 15, 16, 17, 22], [0, 1, 2, 3, 4, 5, 6, 7, 8, 9, 10, 11, 12, 13, 14, 15, 16, 17, 22, 23], [0, 1, 2, 3, 4, 5, 6, 7, 8, 9, 10, 11, 12, 13, 14, 15, 16, 17, 22, 23, 24], [0, 1, 2, 3, 4, 5, 6, 7, 8, 9, 10, 11, 12, 13, 14, 15, 16, 17, 18, 19, 20, 21, 22, 23, 24, 25], [0, 1, 2, 3, 4, 5, 6, 7, 8, 9, 10, 11, 12, 13, 14, 15, 16, 17, 18, 19, 20, 21, 22, 23, 24, 25, 26], [0, 1, 2, 3, 4, 5, 6, 7, 8, 9, 10, 11, 12, 13, 14, 15, 16, 17, 18, 19, 20, 21, 22, 23, 24, 25, 26, 27], [0, 1, 2, 3, 4, 5, 6, 7, 8, 9, 10, 11, 12, 13, 14, 15, 16, 17], [0, 1, 2, 3, 4, 5, 6, 7, 8, 9, 10, 11, 12, 13, 14, 15, 16, 17, 18, 19, 20, 21, 22, 23, 24, 25, 26, 27, 28, 29], [0, 1, 2, 3, 4, 5, 6, 7, 8, 9, 10, 11, 12, 13, 14, 15, 16, 17, 18, 19, 20, 21, 22, 23, 24, 25, 26, 27, 28, 29, 30], [0, 1, 2, 3, 4, 5, 6, 7, 8, 9, 10, 11, 12, 13, 14, 15, 16, 17, 18, 19, 20, 21, 22, 23, 24, 25, 26, 27, 28, 29, 30, 31], [0, 1, 2, 3, 4, 5, 6, 7, 8, 9, 10, 11, 12, 13, 14, 15, 16, 17, 18, 19, 20, 21, 22, 23, 24, 25, 26, 27, 28, 29, 30, 31, 32], [0, 1, 2, 3, 4, 5, 6, 7, 8, 9, 10, 11, 12, 13, 14, 15, 16, 17, 18, 19, 20, 21, 22, 23, 24, 25, 26, 27, 28, 29, 30, 31, 32, 33], [0, 1, 2, 3, 4, 5, 6, 7, 8, 9, 10, 11, 12, 13, 14, 15, 16, 17, 18, 19, 20, 21, 22, 23, 24, 25, 26, 27, 28, 29, 30, 31, 32, 33, 34], [0, 1, 2, 3, 4, 5, 6, 7, 8, 9, 10, 11, 12, 13, 14, 15, 16, 17, 18, 19, 20, 21, 22, 23, 24, 25, 26, 27, 28, 29, 30, 31, 32, 33, 34, 35], [0, 1, 2, 3, 4, 5, 6, 7, 8, 9, 10, 11, 12, 13, 14, 15, 16, 17, 18, 19, 20, 21, 22, 23, 24, 25, 26, 27, 28, 29, 30, 31, 32], [0, 1, 2, 3, 4, 5, 6, 7, 8, 9, 10, 11, 12, 13, 14, 15, 16, 17, 18, 19, 20, 21, 22, 23, 24, 25, 26, 27, 28, 29, 30, 31, 32, 37], [0, 1, 2, 3, 4, 5, 6, 7, 8, 9, 10, 11, 12, 13, 14, 15, 16, 17, 18, 19, 20, 21, 22, 23, 24, 25, 26, 27, 28, 29, 30, 31, 32, 37, 38], [0, 1, 2, 3, 4, 5, 6, 7, 8, 9, 10, 11, 12, 13, 14, 15, 16, 17, 18, 19, 20, 21, 22, 23, 24, 25, 26, 27, 28, 29, 30, 31, 32, 37, 38, 39], [0, 1, 2, 3, 4, 5, 6, 7, 8, 9, 10, 11, 12, 13, 14, 15, 16, 17, 18, 19, 20, 21, 22, 23, 24, 25, 26, 27, 28, 29, 30, 31, 32, 33, 34, 35, 36, 37, 38, 39, 40], [0, 1, 2, 3, 4, 5, 6, 7, 8, 9, 10, 11, 12, 13, 14, 15, 16, 17, 18, 19, 20, 21, 22, 23, 24, 25, 26, 27, 28, 29, 30, 31, 32, 33, 34, 35, 36, 37, 38, 39, 40, 41], [0, 1, 2, 3, 4, 5, 6, 7, 8, 9, 10, 11, 12, 13, 14, 15, 16, 17, 18, 19, 20, 21, 22, 23, 24, 25, 26, 27, 28, 29, 30, 31, 32, 33, 34, 35, 36, 37, 38, 39, 40, 41, 42], [0, 1, 2, 3, 4, 5, 6, 7, 8, 9, 10, 11, 12, 13, 14, 15, 16, 17, 18, 19, 20, 21, 22, 23, 24, 25, 26, 27, 28, 29, 30, 31, 32], [0, 1, 2, 3, 4, 5, 6, 7, 8, 9, 10, 11, 12, 13, 14, 15, 16, 17, 18, 19, 20, 21, 22, 23, 24, 25, 26, 27, 28, 29, 30, 31, 32, 33, 34, 35, 36, 37, 38, 39, 40, 41, 42, 43, 44], [0, 1, 2, 3, 4, 5, 6, 7, 8, 9, 10, 11, 12, 13, 14, 15, 16, 17, 18, 19, 20, 21, 22, 23, 24, 25, 26, 27, 28, 29, 30, 31, 32, 33, 34, 35, 36, 37, 38, 39, 40, 41, 42, 43, 44, 45], [0, 1, 2, 3, 4, 5, 6, 7, 8, 9, 10, 11, 12, 13, 14, 15, 16, 17, 18, 19, 20, 21, 22, 23, 24, 25, 26, 27, 28, 29, 30, 31, 32, 33, 34, 35, 36, 37, 38, 39, 40, 41, 42, 43, 44, 45, 46]] (by kernel_rfl) rfl (by kernel_rfl) ?_
  refine J_weak [(0, _), (6, _), (7, _), (3000, _)] ⟨rfl, rfl, rfl, rfl, trivial⟩ ?_
  refine J_seq ?_
  refine J_seq ?_
  refine JR.start ?_
  refine JR.run rfl rfl (r_move rfl rfl rfl trivial) ?_
  refine JR.done [] (by kernel_rfl) rfl (by kernel_rfl) ?_
  refine J_weak [(0, _), (6, _), (7, _), (55, _), (3000, _)] ⟨rfl, rfl, rfl, rfl, rfl, trivial⟩ ?_
  refine J_condF rfl ?_
  refine J_skip ?_
  refine J_seq ?_
  refine JR.start ?_
  refine JR.run rfl rfl (r_move rfl rfl rfl trivial) ?_
  refine JR.run rfl rfl (r_assign rfl rfl rfl trivial) ?_
  refine JR.done [] (by kernel_rfl) rfl (by kernel_rfl) ?_
  refine J_weak [(6, _), (3000, _)] ⟨rfl, rfl, trivial⟩ ?_
  refine J_ret ?_
  exact ⟨.inl rfl, _, rfl, .refl _, rfl, trivial⟩

theorem rLeaf (k : Int) : Con Tryd.prog 62 [.c (.lit (.int .i64 k))] [] (.agg (tyD (.leaf k))) [] := by
  refine con_intro rfl rfl (by kernel_rfl) (by kernel_rfl) ?_
  refine J_seq ?_
  refine JR.start ?_
  refine JR.run rfl rfl (r_alloc (x := 2002) (zs := [.int .i64 0, .int .i64 0, .slice none 0 0]) [.lit (.int .i64 0), .lit (.int .i64 0), .sl 3 []] rfl rfl rfl (by kernel_rfl) ⟨.refl _, .refl _, .nil _, trivial⟩) ?_
  refine JR.done [] (by kernel_rfl) rfl (by kernel_rfl) ?_
  refine J_weak [(0, _), (2, _), (2002, _)] ⟨rfl, rfl, rfl, trivial⟩ ?_
  refine J_seq ?_
  refine JR.start ?_
  refine JR.run rfl rfl (r_move rfl rfl rfl trivial) ?_
  refine JR.run rfl rfl (r_build (zs := [.int .i64 0, .int .i64 0, .slice none 0 0]) (qs := [(0, 1), (1, 1), (2, 1)]) [.lit (.int .i64 0), .lit (.int .i64 0), .sl 3 []] rfl rfl (by kernel_rfl) (by kernel_rfl) ⟨.refl _, .refl _, .nil _, trivial⟩ rfl rfl) ?_
  refine JR.run rfl rfl (r_storeA rfl rfl (by kernel_rfl) rfl rfl rfl rfl rfl) ?_
  refine JR.done [] (by kernel_rfl) rfl (by kernel_rfl) ?_
  refine J_weak [(2, _), (2002, _)] ⟨rfl, rfl, trivial⟩ ?_
  refine J_ret ?_
  exact ⟨.inl rfl, _, rfl, .refl _, trivial⟩

theorem rList (t : Ty) : Con Tryd.prog 21 [.agg [.lit (.int .i64 t.kind), .lit (.int .i64 t.num), .sl 3 (tysD t.kids)]] [] (.agg [.lit (.int .i64 8), .lit (.int .i64 0), .sl 3 [tyD t]]) [] := by
  refine con_intro rfl rfl (by kernel_rfl) (by kernel_rfl) ?_
  refine J_seq ?_
  refine JR.start ?_
  refine JR.run rfl rfl (r_boxA (x := 2001) rfl rfl rfl rfl) ?_
  refine JR.run rfl rfl (r_alloc (x := 2002) (zs := [.int .i64 0, .int .i64 0, .slice none 0 0]) [.lit (.int .i64 0), .lit (.int .i64 0), .sl 3 []] rfl rfl rfl (by kernel_rfl) ⟨.refl _, .refl _, .nil _, trivial⟩) ?_
  refine JR.done [] (by kernel_rfl) rfl (by kernel_rfl) ?_
  refine J_weak [(1, _), (2, _), (2001, _), (2002, _)] ⟨rfl, rfl, rfl, rfl, trivial⟩ ?_
  refine J_seq ?_
  refine JR.start ?_
  refine JR.run rfl rfl (r_loadA (m := 3) (us := _) rfl rfl (by kernel_rfl) rfl rfl rfl rfl) ?_
  refine JR.run rfl rfl (r_buildSlice (e := 24) (sz := 3) (zs := [.int .i64 0, .int .i64 0, .slice none 0 0]) ([tyD t]) rfl rfl (by kernel_rfl) (by kernel_rfl) rfl rfl (by simp only [tyD_eq]; rfl) (by simp only [tyD_eq]; rfl)) ?_
  refine JR.run rfl rfl (r_build (zs := [.int .i64 0, .int .i64 0, .slice none 0 0]) (qs := [(0, 1), (1, 1), (2, 1)]) [.lit (.int .i64 0), .lit (.int .i64 0), .sl 3 []] rfl rfl (by kernel_rfl) (by kernel_rfl) ⟨.refl _, .refl _, .nil _, trivial⟩ rfl rfl) ?_
  refine JR.run rfl rfl (r_storeA rfl rfl (by kernel_rfl) rfl rfl rfl rfl rfl) ?_
  refine JR.done [] (by kernel_rfl) rfl (by kernel_rfl) ?_
  refine J_weak [(2, _), (2002, _)] ⟨rfl, rfl, trivial⟩ ?_
  refine J_ret ?_
  exact ⟨.inl rfl, _, rfl, .refl _, trivial⟩

theorem rTwoD (k : Int) (x0 x1 x2 y0 y1 y2 : D) : Con Tryd.prog 20 [.c (.lit (.int .i64 k)), .agg [x0, x1, x2], .agg [y0, y1, y2]] [] (.agg [.lit (.int .i64 k), .lit (.int .i64 0), .sl 3 [[x0, x1, x2], [y0, y1, y2]]]) [] := by
  refine con_intro rfl rfl (by kernel_rfl) (by kernel_rfl) ?_
  refine J_seq ?_
  refine JR.start ?_
  refine JR.run rfl rfl (r_boxA (x := 2004) rfl rfl rfl rfl) ?_
  refine JR.run rfl rfl (r_boxA (x := 2005) rfl rfl rfl rfl) ?_
  refine JR.run rfl rfl (r_alloc (x := 2006) (zs := [.int .i64 0, .int .i64 0, .slice none 0 0]) [.lit (.int .i64 0), .lit (.int .i64 0), .sl 3 []] rfl rfl rfl (by kernel_rfl) ⟨.refl _, .refl _, .nil _, trivial⟩) ?_
  refine JR.done [] (by kernel_rfl) rfl (by kernel_rfl) ?_
  refine J_weak [(0, _), (4, _), (5, _), (6, _), (2004, _), (2005, _), (2006, _)] ⟨rfl, rfl, rfl, rfl, rfl, rfl, rfl, trivial⟩ ?_
  refine J_seq ?_
  refine JR.start ?_
  refine JR.run rfl rfl (r_move rfl rfl rfl trivial) ?_
  refine JR.run rfl rfl (r_loadA (m := 3) (us := _) rfl rfl (by kernel_rfl) rfl rfl rfl rfl) ?_
  refine JR.run rfl rfl (r_loadA (m := 3) (us := _) rfl rfl (by kernel_rfl) rfl rfl rfl rfl) ?_
  refine JR.run rfl rfl (r_buildSlice (e := 24) (sz := 3) (zs := [.int .i64 0, .int .i64 0, .slice none 0 0]) ([[x0, x1, x2], [y0, y1, y2]]) rfl rfl (by kernel_rfl) (by kernel_rfl) rfl rfl rfl rfl) ?_
  refine JR.run rfl rfl (r_build (zs := [.int .i64 0, .int .i64 0, .slice none 0 0]) (qs := [(0, 1), (1, 1), (2, 1)]) [.lit (.int .i64 0), .lit (.int .i64 0), .sl 3 []] rfl rfl (by kernel_rfl) (by kernel_rfl) ⟨.refl _, .refl _, .nil _, trivial⟩ rfl rfl) ?_
  refine JR.run rfl rfl (r_storeA rfl rfl (by kernel_rfl) rfl rfl rfl rfl rfl) ?_
  refine JR.done [] (by kernel_rfl) rfl (by kernel_rfl) ?_
  refine J_weak [(6, _), (2006, _)] ⟨rfl, rfl, trivial⟩ ?_
  refine J_ret ?_
  exact ⟨.inl rfl, _, rfl, .refl _, trivial⟩

/-- where none goes on -/
def badE {α : Type} (n : Nat) : PR α → Int
  | .ok _ => -1
  | .error k => ((n - k : Nat) : Int)
/-- what was read, or whatever -/
def retR {α : Type} (m : Nat) (f : α → List D) : PR α → F
  | .ok (t, _) => .agg (f t)
  | .error _ => .agg (List.replicate m .any)
def RrOK (f : FuncId) (m : List Tok → PR Ty) (ts : List Tok) (i : Nat) : Prop :=
  Con Tryd.prog f [.ptr 3000 0] [(3000, rRdr ts i (-1))] (retR 3 tyD (m (ts.drop i))) [(3000, rRdr ts (posE ts.length (m (ts.drop i))) (badE ts.length (m (ts.drop i))))]
def RrTyp (f : Nat) : Prop := ∀ (ts : List Tok) (i : Nat), ts.length ≤ 1000000000 → i ≤ ts.length → ts.length - i < f → RrOK 37 (mTypF f) ts i

theorem rAtom_1 (f : Nat) (ts : List Tok) (i : Nat) (hm : ts.length ≤ 1000000000) (h1 : hit 2 tkInt (ts.drop i) = true) : RrOK 58 (mAtom (mTypF f)) ts i := by
  have hM : mAtom (mTypF f) (ts.drop i) = .ok (.leaf 1, ts.drop (i + 1)) := by
    rw [mAtom, if_pos h1, hit_tail h1]
  have hlt := hit_lt h1
  unfold RrOK
  rw [hM]
  simp only [retR, posE, badE, pos_drop (show i + 1 ≤ ts.length by omega)]
  refine con_intro rfl rfl (by kernel_rfl) (by kernel_rfl) ?_
  refine J_seq ?_
  refine JR.start ?_
  refine JR.run rfl rfl (r_alloc (x := 2002) (zs := [.int .i64 0, .int .i64 0, .slice none 0 0]) [.lit (.int .i64 0), .lit (.int .i64 0), .sl 3 []] rfl rfl rfl (by kernel_rfl) ⟨.refl _, .refl _, .nil _, trivial⟩) ?_
  refine JR.done [] (by kernel_rfl) rfl (by kernel_rfl) ?_
  refine J_weak [(0, _), (2, _), (2002, _), (3000, _)] ⟨rfl, rfl, rfl, rfl, trivial⟩ ?_
  refine J_seq ?_
  refine J_block ?_
  refine J_seq ?_
  refine JR.start ?_
  refine JR.run rfl rfl (r_move rfl rfl rfl trivial) ?_
  refine JR.run rfl rfl (r_call (rMayT ts i 2 tkInt hm h1) rfl rfl rfl ⟨rfl, trivial⟩ (by kernel_rfl)) ?_
  refine JR.run rfl rfl (r_assign rfl rfl rfl trivial) ?_
  refine JR.done [] (by kernel_rfl) rfl (by kernel_rfl) ?_
  refine J_weak [(0, _), (2, _), (4, _), (2002, _), (3000, _)] ⟨rfl, rfl, rfl, rfl, rfl, trivial⟩ ?_
  refine J_condT rfl ?_
  refine J_seq ?_
  refine JR.start ?_
  refine JR.run rfl rfl (r_call (rLeaf 1) rfl rfl rfl trivial (by kernel_rfl)) ?_
  refine JR.run rfl rfl (r_storeA rfl rfl (by kernel_rfl) rfl rfl rfl rfl rfl) ?_
  refine JR.done [] (by kernel_rfl) rfl (by kernel_rfl) ?_
  refine J_weak [(0, _), (2, _), (2002, _), (3000, _)] ⟨rfl, rfl, rfl, rfl, trivial⟩ ?_
  refine J_ret ?_
  exact ⟨.inl rfl, _, rfl, .refl _, rfl, trivial⟩

theorem rAtom_2 (f : Nat) (ts : List Tok) (i : Nat) (hm : ts.length ≤ 1000000000) (h1 : hit 2 tkInt (ts.drop i) = false) (h2 : hit 2 tkBool (ts.drop i) = true) : RrOK 58 (mAtom (mTypF f)) ts i := by
  have hM : mAtom (mTypF f) (ts.drop i) = .ok (.leaf 2, ts.drop (i + 1)) := by
    rw [mAtom, if_neg (by rw [h1]; decide), if_pos h2, hit_tail h2]
  have hlt := hit_lt h2
  unfold RrOK
  rw [hM]
  simp only [retR, posE, badE, pos_drop (show i + 1 ≤ ts.length by omega)]
  refine con_intro rfl rfl (by kernel_rfl) (by kernel_rfl) ?_
  refine J_seq ?_
  refine JR.start ?_
  refine JR.run rfl rfl (r_alloc (x := 2002) (zs := [.int .i64 0, .int .i64 0, .slice none 0 0]) [.lit (.int .i64 0), .lit (.int .i64 0), .sl 3 []] rfl rfl rfl (by kernel_rfl) ⟨.refl _, .refl _, .nil _, trivial⟩) ?_
  refine JR.done [] (by kernel_rfl) rfl (by kernel_rfl) ?_
  refine J_weak [(0, _), (2, _), (2002, _), (3000, _)] ⟨rfl, rfl, rfl, rfl, trivial⟩ ?_
  refine J_seq ?_
  refine J_block ?_
  refine J_seq ?_
  refine JR.start ?_
  refine JR.run rfl rfl (r_move rfl rfl rfl trivial) ?_
  refine JR.run rfl rfl (r_call (rMayF ts i 2 tkInt hm h1) rfl rfl rfl ⟨rfl, trivial⟩ (by kernel_rfl)) ?_
  refine JR.run rfl rfl (r_assign rfl rfl rfl trivial) ?_
  refine JR.done [] (by kernel_rfl) rfl (by kernel_rfl) ?_
  refine J_weak [(0, _), (2, _), (4, _), (2002, _), (3000, _)] ⟨rfl, rfl, rfl, rfl, rfl, trivial⟩ ?_
  refine J_condF rfl ?_
  refine J_seq ?_
  refine JR.start ?_
  refine JR.run rfl rfl (r_move rfl rfl rfl trivial) ?_
  refine JR.run rfl rfl (r_call (rMayT ts i 2 tkBool hm h2) rfl rfl rfl ⟨rfl, trivial⟩ (by kernel_rfl)) ?_
  refine JR.run rfl rfl (r_assign rfl rfl rfl trivial) ?_
  refine JR.done [] (by kernel_rfl) rfl (by kernel_rfl) ?_
  refine J_weak [(0, _), (2, _), (8, _), (2002, _), (3000, _)] ⟨rfl, rfl, rfl, rfl, rfl, trivial⟩ ?_
  refine J_condT rfl ?_
  refine J_seq ?_
  refine JR.start ?_
  refine JR.run rfl rfl (r_call (rLeaf 2) rfl rfl rfl trivial (by kernel_rfl)) ?_
  refine JR.run rfl rfl (r_storeA rfl rfl (by kernel_rfl) rfl rfl rfl rfl rfl) ?_
  refine JR.done [] (by kernel_rfl) rfl (by kernel_rfl) ?_
  refine J_weak [(0, _), (2, _), (2002, _), (3000, _)] ⟨rfl, rfl, rfl, rfl, trivial⟩ ?_
  refine J_ret ?_
  exact ⟨.inl rfl, _, rfl, .refl _, rfl, trivial⟩

theorem rAtom_3 (f : Nat) (ts : List Tok) (i : Nat) (hm : ts.length ≤ 1000000000) (h1 : hit 2 tkInt (ts.drop i) = false) (h2 : hit 2 tkBool (ts.drop i) = false) (h3 : hit 2 tkString (ts.drop i) = true) : RrOK 58 (mAtom (mTypF f)) ts i := by
  have hM : mAtom (mTypF f) (ts.drop i) = .ok (.leaf 3, ts.drop (i + 1)) := by
    rw [mAtom, if_neg (by rw [h1]; decide), if_neg (by rw [h2]; decide), if_pos h3, hit_tail h3]
  have hlt := hit_lt h3
  unfold RrOK
  rw [hM]
  simp only [retR, posE, badE, pos_drop (show i + 1 ≤ ts.length by omega)]
  refine con_intro rfl rfl (by kernel_rfl) (by kernel_rfl) ?_
  refine J_seq ?_
  refine JR.start ?_
  refine JR.run rfl rfl (r_alloc (x := 2002) (zs := [.int .i64 0, .int .i64 0, .slice none 0 0]) [.lit (.int .i64 0), .lit (.int .i64 0), .sl 3 []] rfl rfl rfl (by kernel_rfl) ⟨.refl _, .refl _, .nil _, trivial⟩) ?_
  refine JR.done [] (by kernel_rfl) rfl (by kernel_rfl) ?_
  refine J_weak [(0, _), (2, _), (2002, _), (3000, _)] ⟨rfl, rfl, rfl, rfl, trivial⟩ ?_
  refine J_seq ?_
  refine J_block ?_
  refine J_seq ?_
  refine JR.start ?_
  refine JR.run rfl rfl (r_move rfl rfl rfl trivial) ?_
  refine JR.run rfl rfl (r_call (rMayF ts i 2 tkInt hm h1) rfl rfl rfl ⟨rfl, trivial⟩ (by kernel_rfl)) ?_
  refine JR.run rfl rfl (r_assign rfl rfl rfl trivial) ?_
  refine JR.done [] (by kernel_rfl) rfl (by kernel_rfl) ?_
  refine J_weak [(0, _), (2, _), (4, _), (2002, _), (3000, _)] ⟨rfl, rfl, rfl, rfl, rfl, trivial⟩ ?_
  refine J_condF rfl ?_
  refine J_seq ?_
  refine JR.start ?_
  refine JR.run rfl rfl (r_move rfl rfl rfl trivial) ?_
  refine JR.run rfl rfl (r_call (rMayF ts i 2 tkBool hm h2) rfl rfl rfl ⟨rfl, trivial⟩ (by kernel_rfl)) ?_
  refine JR.run rfl rfl (r_assign rfl rfl rfl trivial) ?_
  refine JR.done [] (by kernel_rfl) rfl (by kernel_rfl) ?_
  refine J_weak [(0, _), (2, _), (8, _), (2002, _), (3000, _)] ⟨rfl, rfl, rfl, rfl, rfl, trivial⟩ ?_
  refine J_condF rfl ?_
  refine J_seq ?_
  refine JR.start ?_
  refine JR.run rfl rfl (r_move rfl rfl rfl trivial) ?_
  refine JR.run rfl rfl (r_call (rMayT ts i 2 tkString hm h3) rfl rfl rfl ⟨rfl, trivial⟩ (by kernel_rfl)) ?_
  refine JR.run rfl rfl (r_assign rfl rfl rfl trivial) ?_
  refine JR.done [] (by kernel_rfl) rfl (by kernel_rfl) ?_
  refine J_weak [(0, _), (2, _), (12, _), (2002, _), (3000, _)] ⟨rfl, rfl, rfl, rfl, rfl, trivial⟩ ?_
  refine J_condT rfl ?_
  refine J_seq ?_
  refine JR.start ?_
  refine JR.run rfl rfl (r_call (rLeaf 3) rfl rfl rfl trivial (by kernel_rfl)) ?_
  refine JR.run rfl rfl (r_storeA rfl rfl (by kernel_rfl) rfl rfl rfl rfl rfl) ?_
  refine JR.done [] (by kernel_rfl) rfl (by kernel_rfl) ?_
  refine J_weak [(0, _), (2, _), (2002, _), (3000, _)] ⟨rfl, rfl, rfl, rfl, trivial⟩ ?_
  refine J_ret ?_
  exact ⟨.inl rfl, _, rfl, .refl _, rfl, trivial⟩

theorem rAtom_4 (f : Nat) (ts : List Tok) (i : Nat) (hm : ts.length ≤ 1000000000) (h1 : hit 2 tkInt (ts.drop i) = false) (h2 : hit 2 tkBool (ts.drop i) = false) (h3 : hit 2 tkString (ts.drop i) = false) (h4 : hit 2 tkUnit (ts.drop i) = true) : RrOK 58 (mAtom (mTypF f)) ts i := by
  have hM : mAtom (mTypF f) (ts.drop i) = .ok (.leaf 4, ts.drop (i + 1)) := by
    rw [mAtom, if_neg (by rw [h1]; decide), if_neg (by rw [h2]; decide), if_neg (by rw [h3]; decide), if_pos h4, hit_tail h4]
  have hlt := hit_lt h4
  unfold RrOK
  rw [hM]
  simp only [retR, posE, badE, pos_drop (show i + 1 ≤ ts.length by omega)]
  refine con_intro rfl rfl (by kernel_rfl) (by kernel_rfl) ?_
  refine J_seq ?_
  refine JR.start ?_
  refine JR.run rfl rfl (r_alloc (x := 2002) (zs := [.int .i64 0, .int .i64 0, .slice none 0 0]) [.lit (.int .i64 0), .lit (.int .i64 0), .sl 3 []] rfl rfl rfl (by kernel_rfl) ⟨.refl _, .refl _, .nil _, trivial⟩) ?_
  refine JR.done [] (by kernel_rfl) rfl (by kernel_rfl) ?_
  refine J_weak [(0, _), (2, _), (2002, _), (3000, _)] ⟨rfl, rfl, rfl, rfl, trivial⟩ ?_
  refine J_seq ?_
  refine J_block ?_
  refine J_seq ?_
  refine JR.start ?_
  refine JR.run rfl rfl (r_move rfl rfl rfl trivial) ?_
  refine JR.run rfl rfl (r_call (rMayF ts i 2 tkInt hm h1) rfl rfl rfl ⟨rfl, trivial⟩ (by kernel_rfl)) ?_
  refine JR.run rfl rfl (r_assign rfl rfl rfl trivial) ?_
  refine JR.done [] (by kernel_rfl) rfl (by kernel_rfl) ?_
  refine J_weak [(0, _), (2, _), (4, _), (2002, _), (3000, _)] ⟨rfl, rfl, rfl, rfl, rfl, trivial⟩ ?_
  refine J_condF rfl ?_
  refine J_seq ?_
  refine JR.start ?_
  refine JR.run rfl rfl (r_move rfl rfl rfl trivial) ?_
  refine JR.run rfl rfl (r_call (rMayF ts i 2 tkBool hm h2) rfl rfl rfl ⟨rfl, trivial⟩ (by kernel_rfl)) ?_
  refine JR.run rfl rfl (r_assign rfl rfl rfl trivial) ?_
  refine JR.done [] (by kernel_rfl) rfl (by kernel_rfl) ?_
  refine J_weak [(0, _), (2, _), (8, _), (2002, _), (3000, _)] ⟨rfl, rfl, rfl, rfl, rfl, trivial⟩ ?_
  refine J_condF rfl ?_
  refine J_seq ?_
  refine JR.start ?_
  refine JR.run rfl rfl (r_move rfl rfl rfl trivial) ?_
  refine JR.run rfl rfl (r_call (rMayF ts i 2 tkString hm h3) rfl rfl rfl ⟨rfl, trivial⟩ (by kernel_rfl)) ?_
  refine JR.run rfl rfl (r_assign rfl rfl rfl trivial) ?_
  refine JR.done [] (by kernel_rfl) rfl (by kernel_rfl) ?_
  refine J_weak [(0, _), (2, _), (12, _), (2002, _), (3000, _)] ⟨rfl, rfl, rfl, rfl, rfl, trivial⟩ ?_
  refine J_condF rfl ?_
  refine J_seq ?_
  refine JR.start ?_
  refine JR.run rfl rfl (r_move rfl rfl rfl trivial) ?_
  refine JR.run rfl rfl (r_call (rMayT ts i 2 tkUnit hm h4) rfl rfl rfl ⟨rfl, trivial⟩ (by kernel_rfl)) ?_
  refine JR.run rfl rfl (r_assign rfl rfl rfl trivial) ?_
  refine JR.done [] (by kernel_rfl) rfl (by kernel_rfl) ?_
  refine J_weak [(0, _), (2, _), (16, _), (2002, _), (3000, _)] ⟨rfl, rfl, rfl, rfl, rfl, trivial⟩ ?_
  refine J_condT rfl ?_
  refine J_seq ?_
  refine JR.start ?_
  refine JR.run rfl rfl (r_call (rLeaf 4) rfl rfl rfl trivial (by kernel_rfl)) ?_
  refine JR.run rfl rfl (r_storeA rfl rfl (by kernel_rfl) rfl rfl rfl rfl rfl) ?_
  refine JR.done [] (by kernel_rfl) rfl (by kernel_rfl) ?_
  refine J_weak [(0, _), (2, _), (2002, _), (3000, _)] ⟨rfl, rfl, rfl, rfl, trivial⟩ ?_
  refine J_ret ?_
  exact ⟨.inl rfl, _, rfl, .refl _, rfl, trivial⟩

theorem rAtom_5 (f : Nat) (ts : List Tok) (i : Nat) (hm : ts.length ≤ 1000000000) (h1 : hit 2 tkInt (ts.drop i) = false) (h2 : hit 2 tkBool (ts.drop i) = false) (h3 : hit 2 tkString (ts.drop i) = false) (h4 : hit 2 tkUnit (ts.drop i) = false) (h5 : hit 5 [63] (ts.drop i) = true) : RrOK 58 (mAtom (mTypF f)) ts i := by
  have hM : mAtom (mTypF f) (ts.drop i) = .ok (.leaf 5, ts.drop (i + 1)) := by
    rw [mAtom, if_neg (by rw [h1]; decide), if_neg (by rw [h2]; decide), if_neg (by rw [h3]; decide), if_neg (by rw [h4]; decide), if_pos h5, hit_tail h5]
  have hlt := hit_lt h5
  unfold RrOK
  rw [hM]
  simp only [retR, posE, badE, pos_drop (show i + 1 ≤ ts.length by omega)]
  refine con_intro rfl rfl (by kernel_rfl) (by kernel_rfl) ?_
  refine J_seq ?_
  refine JR.start ?_
  refine JR.run rfl rfl (r_alloc (x := 2002) (zs := [.int .i64 0, .int .i64 0, .slice none 0 0]) [.lit (.int .i64 0), .lit (.int .i64 0), .sl 3 []] rfl rfl rfl (by kernel_rfl) ⟨.refl _, .refl _, .nil _, trivial⟩) ?_
  refine JR.done [] (by kernel_rfl) rfl (by kernel_rfl) ?_
  refine J_weak [(0, _), (2, _), (2002, _), (3000, _)] ⟨rfl, rfl, rfl, rfl, trivial⟩ ?_
  refine J_seq ?_
  refine J_block ?_
  refine J_seq ?_
  refine JR.start ?_
  refine JR.run rfl rfl (r_move rfl rfl rfl trivial) ?_
  refine JR.run rfl rfl (r_call (rMayF ts i 2 tkInt hm h1) rfl rfl rfl ⟨rfl, trivial⟩ (by kernel_rfl)) ?_
  refine JR.run rfl rfl (r_assign rfl rfl rfl trivial) ?_
  refine JR.done [] (by kernel_rfl) rfl (by kernel_rfl) ?_
  refine J_weak [(0, _), (2, _), (4, _), (2002, _), (3000, _)] ⟨rfl, rfl, rfl, rfl, rfl, trivial⟩ ?_
  refine J_condF rfl ?_
  refine J_seq ?_
  refine JR.start ?_
  refine JR.run rfl rfl (r_move rfl rfl rfl trivial) ?_
  refine JR.run rfl rfl (r_call (rMayF ts i 2 tkBool hm h2) rfl rfl rfl ⟨rfl, trivial⟩ (by kernel_rfl)) ?_
  refine JR.run rfl rfl (r_assign rfl rfl rfl trivial) ?_
  refine JR.done [] (by kernel_rfl) rfl (by kernel_rfl) ?_
  refine J_weak [(0, _), (2, _), (8, _), (2002, _), (3000, _)] ⟨rfl, rfl, rfl, rfl, rfl, trivial⟩ ?_
  refine J_condF rfl ?_
  refine J_seq ?_
  refine JR.start ?_
  refine JR.run rfl rfl (r_move rfl rfl rfl trivial) ?_
  refine JR.run rfl rfl (r_call (rMayF ts i 2 tkString hm h3) rfl rfl rfl ⟨rfl, trivial⟩ (by kernel_rfl)) ?_
  refine JR.run rfl rfl (r_assign rfl rfl rfl trivial) ?_
  refine JR.done [] (by kernel_rfl) rfl (by kernel_rfl) ?_
  refine J_weak [(0, _), (2, _), (12, _), (2002, _), (3000, _)] ⟨rfl, rfl, rfl, rfl, rfl, trivial⟩ ?_
  refine J_condF rfl ?_
  refine J_seq ?_
  refine JR.start ?_
  refine JR.run rfl rfl (r_move rfl rfl rfl trivial) ?_
  refine JR.run rfl rfl (r_call (rMayF ts i 2 tkUnit hm h4) rfl rfl rfl ⟨rfl, trivial⟩ (by kernel_rfl)) ?_
  refine JR.run rfl rfl (r_assign rfl rfl rfl trivial) ?_
  refine JR.done [] (by kernel_rfl) rfl (by kernel_rfl) ?_
  refine J_weak [(0, _), (2, _), (16, _), (2002, _), (3000, _)] ⟨rfl, rfl, rfl, rfl, rfl, trivial⟩ ?_
  refine J_condF rfl ?_
  refine J_seq ?_
  refine JR.start ?_
  refine JR.run rfl rfl (r_move rfl rfl rfl trivial) ?_
  refine JR.run rfl rfl (r_call (rMayT ts i 5 [63] hm h5) rfl rfl rfl ⟨rfl, trivial⟩ (by kernel_rfl)) ?_
  refine JR.run rfl rfl (r_assign rfl rfl rfl trivial) ?_
  refine JR.done [] (by kernel_rfl) rfl (by kernel_rfl) ?_
  refine J_weak [(0, _), (2, _), (20, _), (2002, _), (3000, _)] ⟨rfl, rfl, rfl, rfl, rfl, trivial⟩ ?_
  refine J_condT rfl ?_
  refine J_seq ?_
  refine JR.start ?_
  refine JR.run rfl rfl (r_call (rLeaf 5) rfl rfl rfl trivial (by kernel_rfl)) ?_
  refine JR.run rfl rfl (r_storeA rfl rfl (by kernel_rfl) rfl rfl rfl rfl rfl) ?_
  refine JR.done [] (by kernel_rfl) rfl (by kernel_rfl) ?_
  refine J_weak [(0, _), (2, _), (2002, _), (3000, _)] ⟨rfl, rfl, rfl, rfl, trivial⟩ ?_
  refine J_ret ?_
  exact ⟨.inl rfl, _, rfl, .refl _, rfl, trivial⟩

theorem rAtom_7 (f : Nat) (ts : List Tok) (i : Nat) (hm : ts.length ≤ 1000000000) (hi : i ≤ ts.length) (h1 : hit 2 tkInt (ts.drop i) = false) (h2 : hit 2 tkBool (ts.drop i) = false) (h3 : hit 2 tkString (ts.drop i) = false) (h4 : hit 2 tkUnit (ts.drop i) = false) (h5 : hit 5 [63] (ts.drop i) = false) (h6 : hit 5 [40] (ts.drop i) = false) : RrOK 58 (mAtom (mTypF f)) ts i := by
  have hM : mAtom (mTypF f) (ts.drop i) = .error (ts.drop i).length := by
    rw [mAtom, if_neg (by rw [h1]; decide), if_neg (by rw [h2]; decide), if_neg (by rw [h3]; decide), if_neg (by rw [h4]; decide), if_neg (by rw [h5]; decide), if_neg (by rw [h6]; decide)]
  unfold RrOK
  rw [hM]
  simp only [retR, posE, badE, pos_drop hi]
  refine con_intro rfl rfl (by kernel_rfl) (by kernel_rfl) ?_
  refine J_seq ?_
  refine JR.start ?_
  refine JR.run rfl rfl (r_alloc (x := 2002) (zs := [.int .i64 0, .int .i64 0, .slice none 0 0]) [.lit (.int .i64 0), .lit (.int .i64 0), .sl 3 []] rfl rfl rfl (by kernel_rfl) ⟨.refl _, .refl _, .nil _, trivial⟩) ?_
  refine JR.done [] (by kernel_rfl) rfl (by kernel_rfl) ?_
  refine J_weak [(0, _), (2, _), (2002, _), (3000, _)] ⟨rfl, rfl, rfl, rfl, trivial⟩ ?_
  refine J_seq ?_
  refine J_block ?_
  refine J_seq ?_
  refine JR.start ?_
  refine JR.run rfl rfl (r_move rfl rfl rfl trivial) ?_
  refine JR.run rfl rfl (r_call (rMayF ts i 2 tkInt hm h1) rfl rfl rfl ⟨rfl, trivial⟩ (by kernel_rfl)) ?_
  refine JR.run rfl rfl (r_assign rfl rfl rfl trivial) ?_
  refine JR.done [] (by kernel_rfl) rfl (by kernel_rfl) ?_
  refine J_weak [(0, _), (2, _), (4, _), (2002, _), (3000, _)] ⟨rfl, rfl, rfl, rfl, rfl, trivial⟩ ?_
  refine J_condF rfl ?_
  refine J_seq ?_
  refine JR.start ?_
  refine JR.run rfl rfl (r_move rfl rfl rfl trivial) ?_
  refine JR.run rfl rfl (r_call (rMayF ts i 2 tkBool hm h2) rfl rfl rfl ⟨rfl, trivial⟩ (by kernel_rfl)) ?_
  refine JR.run rfl rfl (r_assign rfl rfl rfl trivial) ?_
  refine JR.done [] (by kernel_rfl) rfl (by kernel_rfl) ?_
  refine J_weak [(0, _), (2, _), (8, _), (2002, _), (3000, _)] ⟨rfl, rfl, rfl, rfl, rfl, trivial⟩ ?_
  refine J_condF rfl ?_
  refine J_seq ?_
  refine JR.start ?_
  refine JR.run rfl rfl (r_move rfl rfl rfl trivial) ?_
  refine JR.run rfl rfl (r_call (rMayF ts i 2 tkString hm h3) rfl rfl rfl ⟨rfl, trivial⟩ (by kernel_rfl)) ?_
  refine JR.run rfl rfl (r_assign rfl rfl rfl trivial) ?_
  refine JR.done [] (by kernel_rfl) rfl (by kernel_rfl) ?_
  refine J_weak [(0, _), (2, _), (12, _), (2002, _), (3000, _)] ⟨rfl, rfl, rfl, rfl, rfl, trivial⟩ ?_
  refine J_condF rfl ?_
  refine J_seq ?_
  refine JR.start ?_
  refine JR.run rfl rfl (r_move rfl rfl rfl trivial) ?_
  refine JR.run rfl rfl (r_call (rMayF ts i 2 tkUnit hm h4) rfl rfl rfl ⟨rfl, trivial⟩ (by kernel_rfl)) ?_
  refine JR.run rfl rfl (r_assign rfl rfl rfl trivial) ?_
  refine JR.done [] (by kernel_rfl) rfl (by kernel_rfl) ?_
  refine J_weak [(0, _), (2, _), (16, _), (2002, _), (3000, _)] ⟨rfl, rfl, rfl, rfl, rfl, trivial⟩ ?_
  refine J_condF rfl ?_
  refine J_seq ?_
  refine JR.start ?_
  refine JR.run rfl rfl (r_move rfl rfl rfl trivial) ?_
  refine JR.run rfl rfl (r_call (rMayF ts i 5 [63] hm h5) rfl rfl rfl ⟨rfl, trivial⟩ (by kernel_rfl)) ?_
  refine JR.run rfl rfl (r_assign rfl rfl rfl trivial) ?_
  refine JR.done [] (by kernel_rfl) rfl (by kernel_rfl) ?_
  refine J_weak [(0, _), (2, _), (20, _), (2002, _), (3000, _)] ⟨rfl, rfl, rfl, rfl, rfl, trivial⟩ ?_
  refine J_condF rfl ?_
  refine J_seq ?_
  refine JR.start ?_
  refine JR.run rfl rfl (r_move rfl rfl rfl trivial) ?_
  refine JR.run rfl rfl (r_call (rMayF ts i 5 [40] hm h6) rfl rfl rfl ⟨rfl, trivial⟩ (by kernel_rfl)) ?_
  refine JR.run rfl rfl (r_assign rfl rfl rfl trivial) ?_
  refine JR.done [] (by kernel_rfl) rfl (by kernel_rfl) ?_
  refine J_weak [(0, _), (2, _), (24, _), (2002, _), (3000, _)] ⟨rfl, rfl, rfl, rfl, rfl, trivial⟩ ?_
  refine J_condF rfl ?_
  refine J_skip ?_
  refine J_seq ?_
  refine J_seq ?_
  refine JR.start ?_
  refine JR.run rfl rfl (r_move rfl rfl rfl trivial) ?_
  refine JR.run rfl rfl (r_nilCheck rfl rfl rfl) ?_
  refine JR.run rfl rfl (r_fieldAddr (off := 2) (m := 1) rfl rfl (by kernel_rfl) rfl) ?_
  refine JR.run rfl rfl (r_load rfl rfl (by kernel_rfl) rfl rfl rfl) ?_
  refine JR.run rfl rfl ((r_ltI rfl rfl rfl rfl).cast (by rfl)) ?_
  refine JR.done [] (by kernel_rfl) rfl (by kernel_rfl) ?_
  refine J_weak [(0, _), (2, _), (36, _), (2002, _), (3000, _)] ⟨rfl, rfl, rfl, rfl, rfl, trivial⟩ ?_
  refine J_condT rfl ?_
  refine JR.start ?_
  refine JR.run rfl rfl (r_move rfl rfl rfl trivial) ?_
  refine JR.run rfl rfl (r_move rfl rfl rfl trivial) ?_
  refine JR.run rfl rfl (r_nilCheck rfl rfl rfl) ?_
  refine JR.run rfl rfl (r_fieldAddr (off := 1) (m := 1) rfl rfl (by kernel_rfl) rfl) ?_
  refine JR.run rfl rfl (r_load rfl rfl (by kernel_rfl) rfl rfl rfl) ?_
  refine JR.run rfl rfl (r_nilCheck rfl rfl rfl) ?_
  refine JR.run rfl rfl (r_fieldAddr (off := 2) (m := 1) rfl rfl (by kernel_rfl) rfl) ?_
  refine JR.run rfl rfl (r_store rfl rfl (by kernel_rfl) rfl rfl rfl rfl) ?_
  refine JR.done [] (by kernel_rfl) rfl (by kernel_rfl) ?_
  refine J_weak [(2, _), (2002, _), (3000, _)] ⟨rfl, rfl, rfl, trivial⟩ ?_
  refine J_seq ?_
  refine JR.start ?_
  refine JR.run rfl rfl (r_build (zs := [.int .i64 0, .int .i64 0, .slice none 0 0]) (qs := [(0, 1), (1, 1), (2, 1)]) [.lit (.int .i64 0), .lit (.int .i64 0), .sl 3 []] rfl rfl (by kernel_rfl) (by kernel_rfl) ⟨.refl _, .refl _, .nil _, trivial⟩ rfl rfl) ?_
  refine JR.run rfl rfl (r_storeA rfl rfl (by kernel_rfl) rfl rfl rfl rfl rfl) ?_
  refine JR.done [] (by kernel_rfl) rfl (by kernel_rfl) ?_
  refine J_weak [(2, _), (2002, _), (3000, _)] ⟨rfl, rfl, rfl, trivial⟩ ?_
  refine J_ret ?_
  exact ⟨.inl rfl, _, rfl, .agg ⟨.any _, .any _, .any _, trivial⟩, rfl, trivial⟩

theorem rAtom_6 (f : Nat) (hT : RrTyp f) (ts : List Tok) (i : Nat) (hm : ts.length ≤ 1000000000) (hi : i ≤ ts.length) (hf : ts.length - i < f + 1) (h1 : hit 2 tkInt (ts.drop i) = false) (h2 : hit 2 tkBool (ts.drop i) = false) (h3 : hit 2 tkString (ts.drop i) = false) (h4 : hit 2 tkUnit (ts.drop i) = false) (h5 : hit 5 [63] (ts.drop i) = false) (h6 : hit 5 [40] (ts.drop i) = true) : RrOK 58 (mAtom (mTypF f)) ts i := by
  have hM : mAtom (mTypF f) (ts.drop i) = (match mTypF f (ts.drop (i + 1)) with
    | .error e => .error e
    | .ok (t, r) => if hit 5 [41] r then .ok (t, r.tail) else .error r.length) := by
    rw [mAtom, if_neg (by rw [h1]; decide), if_neg (by rw [h2]; decide), if_neg (by rw [h3]; decide), if_neg (by rw [h4]; decide), if_neg (by rw [h5]; decide), if_pos h6, hit_tail h6]
    rcases mTypF f (ts.drop (i + 1)) with e | ⟨t, r⟩ <;> rfl
  have hlt := hit_lt h6
  have hc := hT ts (i + 1) hm (by omega) (by omega)
  have hok := mTypF_ok f (ts.drop (i + 1))
  unfold RrOK at hc ⊢
  cases hx : mTypF f (ts.drop (i + 1)) with
  | error k =>
    rw [hx] at hc hM
    rw [hM]
    simp only [retR, posE, badE] at hc ⊢
    have hb : ¬ ((ts.length - k : Nat) : Int) < 0 := by omega
    refine con_intro rfl rfl (by kernel_rfl) (by kernel_rfl) ?_
    refine J_seq ?_
    refine JR.start ?_
    refine JR.run rfl rfl (r_alloc (x := 2002) (zs := [.int .i64 0, .int .i64 0, .slice none 0 0]) [.lit (.int .i64 0), .lit (.int .i64 0), .sl 3 []] rfl rfl rfl (by kernel_rfl) ⟨.refl _, .refl _, .nil _, trivial⟩) ?_
    refine JR.done [] (by kernel_rfl) rfl (by kernel_rfl) ?_
    refine J_weak [(0, _), (2, _), (2002, _), (3000, _)] ⟨rfl, rfl, rfl, rfl, trivial⟩ ?_
    refine J_seq ?_
    refine J_block ?_
    refine J_seq ?_
    refine JR.start ?_
    refine JR.run rfl rfl (r_move rfl rfl rfl trivial) ?_
    refine JR.run rfl rfl (r_call (rMayF ts i 2 tkInt hm h1) rfl rfl rfl ⟨rfl, trivial⟩ (by kernel_rfl)) ?_
    refine JR.run rfl rfl (r_assign rfl rfl rfl trivial) ?_
    refine JR.done [] (by kernel_rfl) rfl (by kernel_rfl) ?_
    refine J_weak [(0, _), (2, _), (4, _), (2002, _), (3000, _)] ⟨rfl, rfl, rfl, rfl, rfl, trivial⟩ ?_
    refine J_condF rfl ?_
    refine J_seq ?_
    refine JR.start ?_
    refine JR.run rfl rfl (r_move rfl rfl rfl trivial) ?_
    refine JR.run rfl rfl (r_call (rMayF ts i 2 tkBool hm h2) rfl rfl rfl ⟨rfl, trivial⟩ (by kernel_rfl)) ?_
    refine JR.run rfl rfl (r_assign rfl rfl rfl trivial) ?_
    refine JR.done [] (by kernel_rfl) rfl (by kernel_rfl) ?_
    refine J_weak [(0, _), (2, _), (8, _), (2002, _), (3000, _)] ⟨rfl, rfl, rfl, rfl, rfl, trivial⟩ ?_
    refine J_condF rfl ?_
    refine J_seq ?_
    refine JR.start ?_
    refine JR.run rfl rfl (r_move rfl rfl rfl trivial) ?_
    refine JR.run rfl rfl (r_call (rMayF ts i 2 tkString hm h3) rfl rfl rfl ⟨rfl, trivial⟩ (by kernel_rfl)) ?_
    refine JR.run rfl rfl (r_assign rfl rfl rfl trivial) ?_
    refine JR.done [] (by kernel_rfl) rfl (by kernel_rfl) ?_
    refine J_weak [(0, _), (2, _), (12, _), (2002, _), (3000, _)] ⟨rfl, rfl, rfl, rfl, rfl, trivial⟩ ?_
    refine J_condF rfl ?_
    refine J_seq ?_
    refine JR.start ?_
    refine JR.run rfl rfl (r_move rfl rfl rfl trivial) ?_
    refine JR.run rfl rfl (r_call (rMayF ts i 2 tkUnit hm h4) rfl rfl rfl ⟨rfl, trivial⟩ (by kernel_rfl)) ?_
    refine JR.run rfl rfl (r_assign rfl rfl rfl trivial) ?_
    refine JR.done [] (by kernel_rfl) rfl (by kernel_rfl) ?_
    refine J_weak [(0, _), (2, _), (16, _), (2002, _), (3000, _)] ⟨rfl, rfl, rfl, rfl, rfl, trivial⟩ ?_
    refine J_condF rfl ?_
    refine J_seq ?_
    refine JR.start ?_
    refine JR.run rfl rfl (r_move rfl rfl rfl trivial) ?_
    refine JR.run rfl rfl (r_call (rMayF ts i 5 [63] hm h5) rfl rfl rfl ⟨rfl, trivial⟩ (by kernel_rfl)) ?_
    refine JR.run rfl rfl (r_assign rfl rfl rfl trivial) ?_
    refine JR.done [] (by kernel_rfl) rfl (by kernel_rfl) ?_
    refine J_weak [(0, _), (2, _), (20, _), (2002, _), (3000, _)] ⟨rfl, rfl, rfl, rfl, rfl, trivial⟩ ?_
    refine J_condF rfl ?_
    refine J_seq ?_
    refine JR.start ?_
    refine JR.run rfl rfl (r_move rfl rfl rfl trivial) ?_
    refine JR.run rfl rfl (r_call (rMayT ts i 5 [40] hm h6) rfl rfl rfl ⟨rfl, trivial⟩ (by kernel_rfl)) ?_
    refine JR.run rfl rfl (r_assign rfl rfl rfl trivial) ?_
    refine JR.done [] (by kernel_rfl) rfl (by kernel_rfl) ?_
    refine J_weak [(0, _), (2, _), (24, _), (2002, _), (3000, _)] ⟨rfl, rfl, rfl, rfl, rfl, trivial⟩ ?_
    refine J_condT rfl ?_
    refine J_seq ?_
    refine JR.start ?_
    refine JR.run rfl rfl (r_move rfl rfl rfl trivial) ?_
    refine JR.run rfl rfl (r_call (hc) rfl rfl rfl ⟨rfl, trivial⟩ (by kernel_rfl)) ?_
    refine JR.run rfl rfl (r_alloc (x := 2003) (zs := [.int .i64 0, .int .i64 0, .slice none 0 0]) [.lit (.int .i64 0), .lit (.int .i64 0), .sl 3 []] rfl rfl rfl (by kernel_rfl) ⟨.refl _, .refl _, .nil _, trivial⟩) ?_
    refine JR.run rfl rfl (r_storeA rfl rfl (by kernel_rfl) rfl rfl rfl rfl rfl) ?_
    refine JR.done [] (by kernel_rfl) rfl (by kernel_rfl) ?_
    refine J_weak [(0, _), (2, _), (3, _), (2002, _), (2003, _), (3000, _)] ⟨rfl, rfl, rfl, rfl, rfl, rfl, trivial⟩ ?_
    refine J_seq ?_
    refine JR.start ?_
    refine JR.run rfl rfl (r_move rfl rfl rfl trivial) ?_
    refine JR.run rfl rfl (r_call (rMayB ts _ _ 5 [41] (by omega)) rfl rfl rfl ⟨rfl, trivial⟩ (by kernel_rfl)) ?_
    refine JR.done [] (by kernel_rfl) rfl (by kernel_rfl) ?_
    refine J_weak [(0, _), (2, _), (3, _), (30, _), (2002, _), (2003, _), (3000, _)] ⟨rfl, rfl, rfl, rfl, rfl, rfl, rfl, trivial⟩ ?_
    refine J_condF rfl ?_
    refine J_skip ?_
    refine J_seq ?_
    refine J_seq ?_
    refine JR.start ?_
    refine JR.run rfl rfl (r_move rfl rfl rfl trivial) ?_
    refine JR.run rfl rfl (r_nilCheck rfl rfl rfl) ?_
    refine JR.run rfl rfl (r_fieldAddr (off := 2) (m := 1) rfl rfl (by kernel_rfl) rfl) ?_
    refine JR.run rfl rfl (r_load rfl rfl (by kernel_rfl) rfl rfl rfl) ?_
    refine JR.run rfl rfl ((r_ltI rfl rfl rfl rfl).cast (by rw [decide_eq_false hb])) ?_
    refine JR.done [] (by kernel_rfl) rfl (by kernel_rfl) ?_
    refine J_weak [(0, _), (2, _), (36, _), (2002, _), (3000, _)] ⟨rfl, rfl, rfl, rfl, rfl, trivial⟩ ?_
    refine J_condF rfl ?_
    refine J_skip ?_
    refine J_seq ?_
    refine JR.start ?_
    refine JR.run rfl rfl (r_build (zs := [.int .i64 0, .int .i64 0, .slice none 0 0]) (qs := [(0, 1), (1, 1), (2, 1)]) [.lit (.int .i64 0), .lit (.int .i64 0), .sl 3 []] rfl rfl (by kernel_rfl) (by kernel_rfl) ⟨.refl _, .refl _, .nil _, trivial⟩ rfl rfl) ?_
    refine JR.run rfl rfl (r_storeA rfl rfl (by kernel_rfl) rfl rfl rfl rfl rfl) ?_
    refine JR.done [] (by kernel_rfl) rfl (by kernel_rfl) ?_
    refine J_weak [(2, _), (2002, _), (3000, _)] ⟨rfl, rfl, rfl, trivial⟩ ?_
    refine J_ret ?_
    exact ⟨.inl rfl, _, rfl, .agg ⟨.any _, .any _, .any _, trivial⟩, rfl, trivial⟩
  | ok p =>
    obtain ⟨t, r⟩ := p
    obtain ⟨j, hj1, hj2, rfl⟩ := ok_drop hok hx (by omega)
    rw [hx] at hc hM
    rw [hM]
    simp only [retR, posE, badE, pos_drop hj2, tyD_eq] at hc ⊢
    cases h7 : hit 5 [41] (ts.drop j) with
    | true =>
      have hlj := hit_lt h7
      simp only [if_true, hit_tail h7, pos_drop (show j + 1 ≤ ts.length by omega)]
      refine con_intro rfl rfl (by kernel_rfl) (by kernel_rfl) ?_
      refine J_seq ?_
      refine JR.start ?_
      refine JR.run rfl rfl (r_alloc (x := 2002) (zs := [.int .i64 0, .int .i64 0, .slice none 0 0]) [.lit (.int .i64 0), .lit (.int .i64 0), .sl 3 []] rfl rfl rfl (by kernel_rfl) ⟨.refl _, .refl _, .nil _, trivial⟩) ?_
      refine JR.done [] (by kernel_rfl) rfl (by kernel_rfl) ?_
      refine J_weak [(0, _), (2, _), (2002, _), (3000, _)] ⟨rfl, rfl, rfl, rfl, trivial⟩ ?_
      refine J_seq ?_
      refine J_block ?_
      refine J_seq ?_
      refine JR.start ?_
      refine JR.run rfl rfl (r_move rfl rfl rfl trivial) ?_
      refine JR.run rfl rfl (r_call (rMayF ts i 2 tkInt hm h1) rfl rfl rfl ⟨rfl, trivial⟩ (by kernel_rfl)) ?_
      refine JR.run rfl rfl (r_assign rfl rfl rfl trivial) ?_
      refine JR.done [] (by kernel_rfl) rfl (by kernel_rfl) ?_
      refine J_weak [(0, _), (2, _), (4, _), (2002, _), (3000, _)] ⟨rfl, rfl, rfl, rfl, rfl, trivial⟩ ?_
      refine J_condF rfl ?_
      refine J_seq ?_
      refine JR.start ?_
      refine JR.run rfl rfl (r_move rfl rfl rfl trivial) ?_
      refine JR.run rfl rfl (r_call (rMayF ts i 2 tkBool hm h2) rfl rfl rfl ⟨rfl, trivial⟩ (by kernel_rfl)) ?_
      refine JR.run rfl rfl (r_assign rfl rfl rfl trivial) ?_
      refine JR.done [] (by kernel_rfl) rfl (by kernel_rfl) ?_
      refine J_weak [(0, _), (2, _), (8, _), (2002, _), (3000, _)] ⟨rfl, rfl, rfl, rfl, rfl, trivial⟩ ?_
      refine J_condF rfl ?_
      refine J_seq ?_
      refine JR.start ?_
      refine JR.run rfl rfl (r_move rfl rfl rfl trivial) ?_
      refine JR.run rfl rfl (r_call (rMayF ts i 2 tkString hm h3) rfl rfl rfl ⟨rfl, trivial⟩ (by kernel_rfl)) ?_
      refine JR.run rfl rfl (r_assign rfl rfl rfl trivial) ?_
      refine JR.done [] (by kernel_rfl) rfl (by kernel_rfl) ?_
      refine J_weak [(0, _), (2, _), (12, _), (2002, _), (3000, _)] ⟨rfl, rfl, rfl, rfl, rfl, trivial⟩ ?_
      refine J_condF rfl ?_
      refine J_seq ?_
      refine JR.start ?_
      refine JR.run rfl rfl (r_move rfl rfl rfl trivial) ?_
      refine JR.run rfl rfl (r_call (rMayF ts i 2 tkUnit hm h4) rfl rfl rfl ⟨rfl, trivial⟩ (by kernel_rfl)) ?_
      refine JR.run rfl rfl (r_assign rfl rfl rfl trivial) ?_
      refine JR.done [] (by kernel_rfl) rfl (by kernel_rfl) ?_
      refine J_weak [(0, _), (2, _), (16, _), (2002, _), (3000, _)] ⟨rfl, rfl, rfl, rfl, rfl, trivial⟩ ?_
      refine J_condF rfl ?_
      refine J_seq ?_
      refine JR.start ?_
      refine JR.run rfl rfl (r_move rfl rfl rfl trivial) ?_
      refine JR.run rfl rfl (r_call (rMayF ts i 5 [63] hm h5) rfl rfl rfl ⟨rfl, trivial⟩ (by kernel_rfl)) ?_
      refine JR.run rfl rfl (r_assign rfl rfl rfl trivial) ?_
      refine JR.done [] (by kernel_rfl) rfl (by kernel_rfl) ?_
      refine J_weak [(0, _), (2, _), (20, _), (2002, _), (3000, _)] ⟨rfl, rfl, rfl, rfl, rfl, trivial⟩ ?_
      refine J_condF rfl ?_
      refine J_seq ?_
      refine JR.start ?_
      refine JR.run rfl rfl (r_move rfl rfl rfl trivial) ?_
      refine JR.run rfl rfl (r_call (rMayT ts i 5 [40] hm h6) rfl rfl rfl ⟨rfl, trivial⟩ (by kernel_rfl)) ?_
      refine JR.run rfl rfl (r_assign rfl rfl rfl trivial) ?_
      refine JR.done [] (by kernel_rfl) rfl (by kernel_rfl) ?_
      refine J_weak [(0, _), (2, _), (24, _), (2002, _), (3000, _)] ⟨rfl, rfl, rfl, rfl, rfl, trivial⟩ ?_
      refine J_condT rfl ?_
      refine J_seq ?_
      refine JR.start ?_
      refine JR.run rfl rfl (r_move rfl rfl rfl trivial) ?_
      refine JR.run rfl rfl (r_call (hc) rfl rfl rfl ⟨rfl, trivial⟩ (by kernel_rfl)) ?_
      refine JR.run rfl rfl (r_alloc (x := 2003) (zs := [.int .i64 0, .int .i64 0, .slice none 0 0]) [.lit (.int .i64 0), .lit (.int .i64 0), .sl 3 []] rfl rfl rfl (by kernel_rfl) ⟨.refl _, .refl _, .nil _, trivial⟩) ?_
      refine JR.run rfl rfl (r_storeA rfl rfl (by kernel_rfl) rfl rfl rfl rfl rfl) ?_
      refine JR.done [] (by kernel_rfl) rfl (by kernel_rfl) ?_
      refine J_weak [(0, _), (2, _), (3, _), (2002, _), (2003, _), (3000, _)] ⟨rfl, rfl, rfl, rfl, rfl, rfl, trivial⟩ ?_
      refine J_seq ?_
      refine JR.start ?_
      refine JR.run rfl rfl (r_move rfl rfl rfl trivial) ?_
      refine JR.run rfl rfl (r_call (rMayT ts j 5 [41] hm h7) rfl rfl rfl ⟨rfl, trivial⟩ (by kernel_rfl)) ?_
      refine JR.done [] (by kernel_rfl) rfl (by kernel_rfl) ?_
      refine J_weak [(0, _), (2, _), (3, _), (30, _), (2002, _), (2003, _), (3000, _)] ⟨rfl, rfl, rfl, rfl, rfl, rfl, rfl, trivial⟩ ?_
      refine J_condT rfl ?_
      refine J_seq ?_
      refine JR.start ?_
      refine JR.run rfl rfl (r_loadA (m := 3) (us := _) rfl rfl (by kernel_rfl) rfl rfl rfl rfl) ?_
      refine JR.run rfl rfl (r_storeA rfl rfl (by kernel_rfl) rfl rfl rfl rfl rfl) ?_
      refine JR.done [] (by kernel_rfl) rfl (by kernel_rfl) ?_
      refine J_weak [(0, _), (2, _), (2002, _), (3000, _)] ⟨rfl, rfl, rfl, rfl, trivial⟩ ?_
      refine J_ret ?_
      exact ⟨.inl rfl, _, rfl, .refl _, rfl, trivial⟩
    | false =>
      simp only [Bool.false_eq_true, if_false, pos_drop hj2]
      refine con_intro rfl rfl (by kernel_rfl) (by kernel_rfl) ?_
      refine J_seq ?_
      refine JR.start ?_
      refine JR.run rfl rfl (r_alloc (x := 2002) (zs := [.int .i64 0, .int .i64 0, .slice none 0 0]) [.lit (.int .i64 0), .lit (.int .i64 0), .sl 3 []] rfl rfl rfl (by kernel_rfl) ⟨.refl _, .refl _, .nil _, trivial⟩) ?_
      refine JR.done [] (by kernel_rfl) rfl (by kernel_rfl) ?_
      refine J_weak [(0, _), (2, _), (2002, _), (3000, _)] ⟨rfl, rfl, rfl, rfl, trivial⟩ ?_
      refine J_seq ?_
      refine J_block ?_
      refine J_seq ?_
      refine JR.start ?_
      refine JR.run rfl rfl (r_move rfl rfl rfl trivial) ?_
      refine JR.run rfl rfl (r_call (rMayF ts i 2 tkInt hm h1) rfl rfl rfl ⟨rfl, trivial⟩ (by kernel_rfl)) ?_
      refine JR.run rfl rfl (r_assign rfl rfl rfl trivial) ?_
      refine JR.done [] (by kernel_rfl) rfl (by kernel_rfl) ?_
      refine J_weak [(0, _), (2, _), (4, _), (2002, _), (3000, _)] ⟨rfl, rfl, rfl, rfl, rfl, trivial⟩ ?_
      refine J_condF rfl ?_
      refine J_seq ?_
      refine JR.start ?_
      refine JR.run rfl rfl (r_move rfl rfl rfl trivial) ?_
      refine JR.run rfl rfl (r_call (rMayF ts i 2 tkBool hm h2) rfl rfl rfl ⟨rfl, trivial⟩ (by kernel_rfl)) ?_
      refine JR.run rfl rfl (r_assign rfl rfl rfl trivial) ?_
      refine JR.done [] (by kernel_rfl) rfl (by kernel_rfl) ?_
      refine J_weak [(0, _), (2, _), (8, _), (2002, _), (3000, _)] ⟨rfl, rfl, rfl, rfl, rfl, trivial⟩ ?_
      refine J_condF rfl ?_
      refine J_seq ?_
      refine JR.start ?_
      refine JR.run rfl rfl (r_move rfl rfl rfl trivial) ?_
      refine JR.run rfl rfl (r_call (rMayF ts i 2 tkString hm h3) rfl rfl rfl ⟨rfl, trivial⟩ (by kernel_rfl)) ?_
      refine JR.run rfl rfl (r_assign rfl rfl rfl trivial) ?_
      refine JR.done [] (by kernel_rfl) rfl (by kernel_rfl) ?_
      refine J_weak [(0, _), (2, _), (12, _), (2002, _), (3000, _)] ⟨rfl, rfl, rfl, rfl, rfl, trivial⟩ ?_
      refine J_condF rfl ?_
      refine J_seq ?_
      refine JR.start ?_
      refine JR.run rfl rfl (r_move rfl rfl rfl trivial) ?_
      refine JR.run rfl rfl (r_call (rMayF ts i 2 tkUnit hm h4) rfl rfl rfl ⟨rfl, trivial⟩ (by kernel_rfl)) ?_
      refine JR.run rfl rfl (r_assign rfl rfl rfl trivial) ?_
      refine JR.done [] (by kernel_rfl) rfl (by kernel_rfl) ?_
      refine J_weak [(0, _), (2, _), (16, _), (2002, _), (3000, _)] ⟨rfl, rfl, rfl, rfl, rfl, trivial⟩ ?_
      refine J_condF rfl ?_
      refine J_seq ?_
      refine JR.start ?_
      refine JR.run rfl rfl (r_move rfl rfl rfl trivial) ?_
      refine JR.run rfl rfl (r_call (rMayF ts i 5 [63] hm h5) rfl rfl rfl ⟨rfl, trivial⟩ (by kernel_rfl)) ?_
      refine JR.run rfl rfl (r_assign rfl rfl rfl trivial) ?_
      refine JR.done [] (by kernel_rfl) rfl (by kernel_rfl) ?_
      refine J_weak [(0, _), (2, _), (20, _), (2002, _), (3000, _)] ⟨rfl, rfl, rfl, rfl, rfl, trivial⟩ ?_
      refine J_condF rfl ?_
      refine J_seq ?_
      refine JR.start ?_
      refine JR.run rfl rfl (r_move rfl rfl rfl trivial) ?_
      refine JR.run rfl rfl (r_call (rMayT ts i 5 [40] hm h6) rfl rfl rfl ⟨rfl, trivial⟩ (by kernel_rfl)) ?_
      refine JR.run rfl rfl (r_assign rfl rfl rfl trivial) ?_
      refine JR.done [] (by kernel_rfl) rfl (by kernel_rfl) ?_
      refine J_weak [(0, _), (2, _), (24, _), (2002, _), (3000, _)] ⟨rfl, rfl, rfl, rfl, rfl, trivial⟩ ?_
      refine J_condT rfl ?_
      refine J_seq ?_
      refine JR.start ?_
      refine JR.run rfl rfl (r_move rfl rfl rfl trivial) ?_
      refine JR.run rfl rfl (r_call (hc) rfl rfl rfl ⟨rfl, trivial⟩ (by kernel_rfl)) ?_
      refine JR.run rfl rfl (r_alloc (x := 2003) (zs := [.int .i64 0, .int .i64 0, .slice none 0 0]) [.lit (.int .i64 0), .lit (.int .i64 0), .sl 3 []] rfl rfl rfl (by kernel_rfl) ⟨.refl _, .refl _, .nil _, trivial⟩) ?_
      refine JR.run rfl rfl (r_storeA rfl rfl (by kernel_rfl) rfl rfl rfl rfl rfl) ?_
      refine JR.done [] (by kernel_rfl) rfl (by kernel_rfl) ?_
      refine J_weak [(0, _), (2, _), (3, _), (2002, _), (2003, _), (3000, _)] ⟨rfl, rfl, rfl, rfl, rfl, rfl, trivial⟩ ?_
      refine J_seq ?_
      refine JR.start ?_
      refine JR.run rfl rfl (r_move rfl rfl rfl trivial) ?_
      refine JR.run rfl rfl (r_call (rMayF ts j 5 [41] hm h7) rfl rfl rfl ⟨rfl, trivial⟩ (by kernel_rfl)) ?_
      refine JR.done [] (by kernel_rfl) rfl (by kernel_rfl) ?_
      refine J_weak [(0, _), (2, _), (3, _), (30, _), (2002, _), (2003, _), (3000, _)] ⟨rfl, rfl, rfl, rfl, rfl, rfl, rfl, trivial⟩ ?_
      refine J_condF rfl ?_
      refine J_skip ?_
      refine J_seq ?_
      refine J_seq ?_
      refine JR.start ?_
      refine JR.run rfl rfl (r_move rfl rfl rfl trivial) ?_
      refine JR.run rfl rfl (r_nilCheck rfl rfl rfl) ?_
      refine JR.run rfl rfl (r_fieldAddr (off := 2) (m := 1) rfl rfl (by kernel_rfl) rfl) ?_
      refine JR.run rfl rfl (r_load rfl rfl (by kernel_rfl) rfl rfl rfl) ?_
      refine JR.run rfl rfl ((r_ltI rfl rfl rfl rfl).cast (by rfl)) ?_
      refine JR.done [] (by kernel_rfl) rfl (by kernel_rfl) ?_
      refine J_weak [(0, _), (2, _), (36, _), (2002, _), (3000, _)] ⟨rfl, rfl, rfl, rfl, rfl, trivial⟩ ?_
      refine J_condT rfl ?_
      refine JR.start ?_
      refine JR.run rfl rfl (r_move rfl rfl rfl trivial) ?_
      refine JR.run rfl rfl (r_move rfl rfl rfl trivial) ?_
      refine JR.run rfl rfl (r_nilCheck rfl rfl rfl) ?_
      refine JR.run rfl rfl (r_fieldAddr (off := 1) (m := 1) rfl rfl (by kernel_rfl) rfl) ?_
      refine JR.run rfl rfl (r_load rfl rfl (by kernel_rfl) rfl rfl rfl) ?_
      refine JR.run rfl rfl (r_nilCheck rfl rfl rfl) ?_
      refine JR.run rfl rfl (r_fieldAddr (off := 2) (m := 1) rfl rfl (by kernel_rfl) rfl) ?_
      refine JR.run rfl rfl (r_store rfl rfl (by kernel_rfl) rfl rfl rfl rfl) ?_
      refine JR.done [] (by kernel_rfl) rfl (by kernel_rfl) ?_
      refine J_weak [(2, _), (2002, _), (3000, _)] ⟨rfl, rfl, rfl, trivial⟩ ?_
      refine J_seq ?_
      refine JR.start ?_
      refine JR.run rfl rfl (r_build (zs := [.int .i64 0, .int .i64 0, .slice none 0 0]) (qs := [(0, 1), (1, 1), (2, 1)]) [.lit (.int .i64 0), .lit (.int .i64 0), .sl 3 []] rfl rfl (by kernel_rfl) (by kernel_rfl) ⟨.refl _, .refl _, .nil _, trivial⟩ rfl rfl) ?_
      refine JR.run rfl rfl (r_storeA rfl rfl (by kernel_rfl) rfl rfl rfl rfl rfl) ?_
      refine JR.done [] (by kernel_rfl) rfl (by kernel_rfl) ?_
      refine J_weak [(2, _), (2002, _), (3000, _)] ⟨rfl, rfl, rfl, trivial⟩ ?_
      refine J_ret ?_
      exact ⟨.inl rfl, _, rfl, .agg ⟨.any _, .any _, .any _, trivial⟩, rfl, trivial⟩

theorem rAtom_any (f : Nat) (hT : RrTyp f) (ts : List Tok) (i : Nat) (hm : ts.length ≤ 1000000000) (hi : i ≤ ts.length) (hf : ts.length - i < f + 1) : RrOK 58 (mAtom (mTypF f)) ts i := by
  cases h1 : hit 2 tkInt (ts.drop i)
  · cases h2 : hit 2 tkBool (ts.drop i)
    · cases h3 : hit 2 tkString (ts.drop i)
      · cases h4 : hit 2 tkUnit (ts.drop i)
        · cases h5 : hit 5 [63] (ts.drop i)
          · cases h6 : hit 5 [40] (ts.drop i)
            · exact rAtom_7 f ts i hm hi h1 h2 h3 h4 h5 h6
            · exact rAtom_6 f hT ts i hm hi hf h1 h2 h3 h4 h5 h6
          · exact rAtom_5 f ts i hm h1 h2 h3 h4 h5
        · exact rAtom_4 f ts i hm h1 h2 h3 h4
      · exact rAtom_3 f ts i hm h1 h2 h3
    · exact rAtom_2 f ts i hm h1 h2
  · exact rAtom_1 f ts i hm h1

end Go.Proofs.YtoadmjnaakbljaaDoor
