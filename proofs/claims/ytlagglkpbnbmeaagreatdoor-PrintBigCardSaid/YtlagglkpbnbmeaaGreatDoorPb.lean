/- The walk of the law PrintBig. -/
import Derived.Test.YtlagglkpbnbmeaaGreatDoorShC
import Derived.Test.YtlagglkpbnbmeaaGreatDoorShZ
import Derived.Test.YtlagglkpbnbmeaaGreatDoorRU
import Derived.Test.YtlagglkpbnbmeaaGreatDoorKI
namespace Go.Proofs.YtlagglkpbnbmeaaGreatDoor
open Go Go.RowKit
set_option maxRecDepth 100000
set_option maxHeartbeats 4000000
set_option linter.unusedVariables false
set_option linter.unusedSimpArgs false

theorem r_mulI {P : Program} {o : Oper} {d : Nat} {l : List (Nat × F)} {T T' : TypeId} {x y : Operand} {i j : Int} (ho : o.op = .binOp .mul T x y T') (hd : o.dst = some d) (hx : opd l x = some (.c (.lit (.int .i64 i)))) (hy : opd l y = some (.c (.lit (.int .i64 j))))
    (hb : -9223372036854775808 ≤ i * j ∧ i * j ≤ 9223372036854775807) : Does P o (rdOf x ++ rdOf y) [] l [(d, .c (.lit (.int .i64 (i * j))))] :=
  r_bin ho hd hx hy rfl fun w => by
    have := IntWalk.i64_in (i * j) hb
    simp [eqGuard, binOp, Op.intArith, this]
theorem tx_ok {e : Ex} (h : mCheck e = true) (hl : (xEx e).length ≤ 16384) : textOf e = xEx e ∧ textErr e = 0 := by
  rw [textOf, textErr, if_pos h, if_pos h, if_pos hl, if_pos hl]; exact ⟨rfl, rfl⟩
theorem tx_big {e : Ex} (h : mCheck e = true) (hl : ¬ (xEx e).length ≤ 16384) : textOf e = [] ∧ textErr e = 2 := by
  rw [textOf, textErr, if_pos h, if_pos h, if_neg hl, if_neg hl]; exact ⟨rfl, rfl⟩
def dbl (e : Ex) : Ex := .mk 6 0 0 [] [] 0 [] 0 noTy noTy [] [e, e]
def Good (e : Ex) : Prop := mCheck e = true ∧ ExK 100000 e ∧ ExN e
theorem dbl_good {e : Ex} (h : Good e) : Good (dbl e) := by
  obtain ⟨h1, h2, h3⟩ := h; refine ⟨?_, .mk (by decide) (by decide) (by decide) (by decide) (by decide) (by decide) (by simp) (fun p hp => by cases hp) (fun x hx => ?_), .mk ⟨by decide, by decide⟩ (fun p hp => by cases hp) (fun x hx => ?_)⟩
  · rw [dbl, check_mk7]; have : oneE (.mk 6 0 0 [] [] 0 [] 0 noTy noTy [] [e, e]) = true := rfl; rw [this, List.all_cons, List.all_cons, h1]
    rfl
  · simp at hx; rw [hx]; exact h2
  · simp at hx; rw [hx]; exact h3
theorem dbl_len (e : Ex) : (xEx (dbl e)).length = 2 * (xEx e).length + 4 := by
  rw [dbl, xEx_6]; simp only [List.length_cons, List.length_append, List.length_nil]
  omega
theorem dbl_X (q : Ex) : exX (dbl q) = [.lit (.int .i64 6), .lit (.int .i64 0), .lit (.int .i64 0), .lit (str []), .lit (str []), .lit (.int .i64 0), .lit (str []), .lit (.int .i64 0), .lit (.int .i64 0), .lit (.int .i64 0), .sl 3 [], .lit (.int .i64 0), .lit (.int .i64 0), .sl 3 [], .sl 7 [], .sl 16 [exX q, exX q]] := by
  have h : exsD [q, q] = [exX q, exX q] := by rw [exsD_map]; rfl
  rw [← h]
  rfl
theorem exsD_one (e : Ex) : exsD [e] = [exX e] := by rw [exsD_map]; rfl
theorem lBig (e : Ex) (hL : ExL e) (hN : ExN e) (n : Int) (hn : I64 n) : Con Tryz.prog 3 [.agg (exX e), .c (.lit (.int .i64 n))] [] (.c (.lit (.bool true))) [] := by
  have hH := tHeavy [e] (by simp) (fun x hx => by simp at hx; rw [hx]; exact hL); rw [exsD_one, hLst, hLst] at hH
  by_cases hb : 400 < hEx e 0
  · rw [decide_eq_true hb] at hH; refine gg [38, 5, 22, 2002, 1, 0, 9, 4, 2002, 4, 2, 1, 31, 5, 20, 16] ?_; refine u rfl rfl (r_buildSlice (e := 30) (sz := 16) (zs := zx) ([exX e]) rfl rfl (by kernel_rfl) (by kernel_rfl) rfl rfl rfl rfl) ?_; refine gc (hH) [2, 3, 3, 3, 16, 0, 9, 5, 2002, 19, 4, 2, 1, 32, 5, 1, 0, 9, 4, 2002, 4, 2, 1, 33] ?_; exact ⟨.inl rfl, _, rfl, .refl _, trivial⟩
  rw [decide_eq_false hb] at hH; obtain ⟨hW, hg⟩ := light hL hN hb; have hR := rRight hW; rw [right_check hW] at hR
  by_cases hm : mCheck e = true
  · rw [hm] at hR; obtain ⟨hK, hl⟩ := hg hm; have hT := tText hK hN (fun _ => hl)
    by_cases hs : (xEx e).length ≤ 16384
    · obtain ⟨t1, t2⟩ := tx_ok hm hs; rw [t1, t2] at hT; obtain ⟨k, hk, hk2⟩ := u64_modm n 12 (by decide) (by decide); have hI := kKeepInt n 12 k (by decide) (by decide) hk2; refine gg [38, 5, 22, 2002, 1, 0, 9, 4, 2002, 4, 2, 1, 31, 5, 20, 16] ?_; refine u rfl rfl (r_buildSlice (e := 30) (sz := 16) (zs := zx) ([exX e]) rfl rfl (by kernel_rfl) (by kernel_rfl) rfl rfl rfl rfl) ?_; refine gc (hH) [2, 20, 16] ?_; refine gc (hR) [15, 17, 0, 9, 5, 2002, 19, 4, 2, 1, 8, 34, 5, 20, 16] ?_; refine gc (hT) [2, 14, 14, 1, 1, 0, 9, 6, 2002, 6, 5, 4, 2, 1, 31, 5, 2] ?_; refine u rfl rfl (r_neI rfl rfl rfl rfl) ?_; refine gg [0, 9, 7, 2002, 26, 6, 5, 4, 2, 1, 8, 34, 5, 2, 30, 1, 0, 9, 5, 2002, 7, 4, 2, 1, 5, 2] ?_; refine gc (hI) [1, 0, 9, 5, 2002, 8, 7, 4, 2, 31, 5, 1, 0, 9, 6, 2002, 9, 8, 7, 4, 2, 35] ?_; refine J_loopF (α := { p : Nat × Ex // p.1 ≤ k ∧ Good p.2 ∧ (xEx p.2).length ≤ 40000 }) (fun p => [(9, .c (.lit (.int .i64 (p.1.1 : Int)))), (7, .c (.lit (.int .i64 ((xEx p.1.2).length : Int)))), (2002, .var 30 (List.map C.d (exX p.1.2)))]) [(2, _), (4, _), (8, _)] (fun p => k - p.1.1) ⟨(0, e), Nat.zero_le _, ⟨hm, hK, hN⟩, by dsimp only; omega⟩ ⟨rfl, rfl, rfl, rfl, rfl, rfl, trivial⟩ ?_
      rintro ⟨⟨i, q⟩, hi, hq, hz⟩; dsimp only at hi hq hz ⊢; have hd := dbl_len q; have hQ := tText hq.2.1 hq.2.2 (fun _ => by omega); refine gg [31, 5, 2, 2] ?_; refine bL ?_ ?_
      · intro h38; refine gg [2, 2] ?_; refine bM ?_ ?_
        · intro h41; refine gg [16, 0, 9, 13, 2002, 42, 41, 40, 39, 38, 37, 36, 9, 8, 7, 4, 2, 32, 34, 31, 35, 5, 20, 16, 20, 16] ?_; refine u rfl rfl (r_buildSlice (e := 30) (sz := 16) (zs := zx) ([exX q, exX q]) rfl rfl (by kernel_rfl) (by kernel_rfl) rfl rfl rfl rfl) ?_; refine u rfl rfl (r_build (zs := zx) (qs := [(0, 1), (1, 2), (3, 1), (4, 1), (5, 1), (6, 1), (7, 1), (8, 3), (11, 3), (14, 1), (15, 1)]) dx rfl rfl (by kernel_rfl) (by kernel_rfl) kx rfl rfl) ?_; refine gg [10, 0, 9, 17, 2002, 48, 47, 46, 45, 42, 41, 40, 39, 38, 37, 36, 9, 8, 7, 4, 2, 37, 2] ?_; refine u rfl rfl (r_mulI rfl rfl rfl rfl (by omega)) ?_; refine gg [27, 1, 0, 9, 20, 2002, 51, 50, 49, 48, 47, 46, 45, 42, 41, 40, 39, 38, 37, 36, 9, 8, 7, 4, 2, 37, 2, 27, 1, 0] ?_; refine ⟨⟨(i + 1, dbl q), by dsimp only; omega, dbl_good hq, by dsimp only; omega⟩, by simp only; omega, ?_⟩; have hz2 : 2 * ((xEx q).length : Int) + 4 = ((xEx (dbl q)).length : Int) := by omega
          rw [hz2]; exact ⟨rfl, rfl, (by show _ = some (F.var _ (List.map C.d (exX (dbl q)))); rw [dbl_X]; rfl), rfl, rfl, rfl, trivial⟩
        · intro h41; refine gg [16, 0, 9, 13, 2002, 42, 41, 40, 39, 38, 37, 36, 9, 8, 7, 4, 2, 8, 36, 5, 20, 16] ?_; refine gc (hQ) [2, 14, 14, 1, 1, 0, 9, 4, 11, 10, 7, 4, 31, 5, 2] ?_; refine bG ?_ ?_
          · intro h58; obtain ⟨g1, g2⟩ := tx_big hq.1 (by omega); refine gg [0, 9, 5, 58, 11, 10, 7, 4, 32, 5, 2] ?_; refine u rfl rfl ((r_eqI rfl rfl rfl rfl).cast (cast_b (b' := true) (by rw [g2]; kernel_rfl))) ?_; refine gg [2, 2] ?_; refine u rfl rfl ((r_eqS rfl rfl rfl rfl).cast (cast_b (b' := true) (by rw [g1]; kernel_rfl))) ?_; refine gg [16, 2] ?_; refine gc (kWakes7) [16, 1, 0, 9, 4, 11, 10, 7, 4, 33] ?_; exact ⟨.inl rfl, _, rfl, .refl _, trivial⟩
          · intro h58; obtain ⟨g1, g2⟩ := tx_ok hq.1 (by omega); refine gg [0, 9, 5, 58, 11, 10, 7, 4, 8, 34, 5, 2] ?_; refine u rfl rfl ((r_eqI rfl rfl rfl rfl).cast (cast_b (b' := true) (by rw [g2]; kernel_rfl))) ?_; refine gg [2, 2, 30, 2] ?_; refine u rfl rfl ((r_eqI rfl rfl rfl rfl).cast (cast_b (b' := true) (by rw [g1]; exact decide_eq_true rfl))) ?_; refine gg [16, 2] ?_; refine gc (kWakes7) [16, 1, 0, 9, 1, 4, 33] ?_; exact ⟨.inl rfl, _, rfl, .refl _, trivial⟩
      · intro h38; refine gg [2, 3, 3, 17, 0, 9, 11, 2002, 42, 39, 38, 37, 36, 9, 8, 7, 4, 2, 8, 36, 5, 20, 16] ?_; refine gc (hQ) [2, 14, 14, 1, 1, 0, 9, 4, 11, 10, 7, 4, 31, 5, 2] ?_; refine bG ?_ ?_
        · intro h58; obtain ⟨g1, g2⟩ := tx_big hq.1 (by omega); refine gg [0, 9, 5, 58, 11, 10, 7, 4, 32, 5, 2] ?_; refine u rfl rfl ((r_eqI rfl rfl rfl rfl).cast (cast_b (b' := true) (by rw [g2]; kernel_rfl))) ?_; refine gg [2, 2] ?_; refine u rfl rfl ((r_eqS rfl rfl rfl rfl).cast (cast_b (b' := true) (by rw [g1]; kernel_rfl))) ?_; refine gg [16, 2] ?_; refine gc (kWakes7) [16, 1, 0, 9, 4, 11, 10, 7, 4, 33] ?_; exact ⟨.inl rfl, _, rfl, .refl _, trivial⟩
        · intro h58; obtain ⟨g1, g2⟩ := tx_ok hq.1 (by omega); refine gg [0, 9, 5, 58, 11, 10, 7, 4, 8, 34, 5, 2] ?_; refine u rfl rfl ((r_eqI rfl rfl rfl rfl).cast (cast_b (b' := true) (by rw [g2]; kernel_rfl))) ?_; refine gg [2, 2, 30, 2] ?_; refine u rfl rfl ((r_eqI rfl rfl rfl rfl).cast (cast_b (b' := true) (by rw [g1]; exact decide_eq_true rfl))) ?_; refine gg [16, 2] ?_; refine gc (kWakes7) [16, 1, 0, 9, 1, 4, 33] ?_; exact ⟨.inl rfl, _, rfl, .refl _, trivial⟩
    · obtain ⟨t1, t2⟩ := tx_big hm hs; rw [t1, t2] at hT; refine gg [38, 5, 22, 2002, 1, 0, 9, 4, 2002, 4, 2, 1, 31, 5, 20, 16] ?_; refine u rfl rfl (r_buildSlice (e := 30) (sz := 16) (zs := zx) ([exX e]) rfl rfl (by kernel_rfl) (by kernel_rfl) rfl rfl rfl rfl) ?_; refine gc (hH) [2, 20, 16] ?_; refine gc (hR) [15, 17, 0, 9, 5, 2002, 19, 4, 2, 1, 8, 34, 5, 20, 16] ?_; refine gc (hT) [2, 14, 14, 1, 1, 0, 9, 6, 2002, 6, 5, 4, 2, 1, 31, 5, 2] ?_; refine u rfl rfl (r_neI rfl rfl rfl rfl) ?_; refine gg [0, 9, 7, 2002, 26, 6, 5, 4, 2, 1, 32, 5, 2, 26, 2] ?_; refine gc (kWakes7) [16, 1, 0, 9, 5, 2002, 5, 4, 2, 1, 33] ?_; exact ⟨.inl rfl, _, rfl, .refl _, trivial⟩
  · rw [Bool.not_eq_true] at hm; rw [hm] at hR; refine gg [38, 5, 22, 2002, 1, 0, 9, 4, 2002, 4, 2, 1, 31, 5, 20, 16] ?_; refine u rfl rfl (r_buildSlice (e := 30) (sz := 16) (zs := zx) ([exX e]) rfl rfl (by kernel_rfl) (by kernel_rfl) rfl rfl rfl rfl) ?_; refine gc (hH) [2, 20, 16] ?_; refine gc (hR) [15, 17, 0, 9, 5, 2002, 19, 4, 2, 1, 32, 5, 1, 0, 9, 4, 2002, 4, 2, 1, 33] ?_; exact ⟨.inl rfl, _, rfl, .refl _, trivial⟩

end Go.Proofs.YtlagglkpbnbmeaaGreatDoor
