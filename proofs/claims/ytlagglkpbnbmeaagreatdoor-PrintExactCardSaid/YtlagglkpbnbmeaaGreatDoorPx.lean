/- The walk of the law PrintExact. -/
import Derived.Test.YtlagglkpbnbmeaaGreatDoorShC
import Derived.Test.YtlagglkpbnbmeaaGreatDoorRU
import Derived.Test.YtlagglkpbnbmeaaGreatDoorLG
import Derived.Test.YtlagglkpbnbmeaaGreatDoorCk
import Derived.Test.YtlagglkpbnbmeaaGreatDoorEs
namespace Go.Proofs.YtlagglkpbnbmeaaGreatDoor
open Go Go.RowKit
set_option maxRecDepth 100000
set_option maxHeartbeats 4000000
set_option linter.unusedVariables false
set_option linter.unusedSimpArgs false

theorem paB_w {p : Pa} (h : PaK 400 p) : PaB 2000000000000 p := by
  induction h with
  | mk h1 h2 h3 _ ih => exact .mk (by omega) ih
theorem exB_p {e : Ex} (h : ExW e) : ExP e → ExB 2000000000000 e := by
  induction h with
  | @mk k a b nm arg m s op A B pats kids _ _ _ hA hB _ hl2 hp _ ih =>
    intro hP
    cases hP with
    | mk h1 h2 => exact .mk (by omega) (by omega) (by omega) (by omega) (fun p hq => paB_w (hp p hq).1) (fun e he => ih e he (h2 e he))
theorem gText {e : Ex} (hW : ExW e) (hN : ExN e) (hl : mCheck e = true → (xEx e).length ≤ 1000000000) : Con Tryz.prog 16 [.agg (exX e)] [] (.tup [.c (.lit (str (textOf e))), .c (.lit (.int .i64 (textErr e)))]) [] := by
  have hR := rRight hW; rw [right_check hW] at hR
  by_cases hm : mCheck e = true
  · rw [hm] at hR; have hle := hl hm; have hG := gLong (rex_of hN hm) (exK_of hW) hle
    by_cases hs : (xEx e).length ≤ 16384
    · obtain ⟨t1, t2⟩ := tx_ok hm hs; rw [t1, t2]; refine gg [38,5,22,2001,1,1,0,9,4,2001,3,2,1,31,5,20,16] ?_; refine gc (hR) [15,0,9,5,2001,7,3,2,1,8,34,5,20,16] ?_; refine gc (hG) [1,0,9,3,4,3,2,31,5,2,30] ?_; refine u rfl rfl ((r_gtI rfl rfl rfl rfl).cast (cast_b (b' := false) (by exact decide_eq_false (by omega)))) ?_; refine gg [0,9,4,12,4,3,2,8,34,5,2,1,1,0,9,2,3,2,33] ?_; exact ⟨.inl rfl, _, rfl, .refl _, trivial⟩
    obtain ⟨t1, t2⟩ := tx_big hm hs; rw [t1, t2]; refine gg [38,5,22,2001,1,1,0,9,4,2001,3,2,1,31,5,20,16] ?_; refine gc (hR) [15,0,9,5,2001,7,3,2,1,8,34,5,20,16] ?_; refine gc (hG) [1,0,9,3,4,3,2,31,5,2,30] ?_; refine u rfl rfl ((r_gtI rfl rfl rfl rfl).cast (cast_b (b' := true) (by exact decide_eq_true (by omega)))) ?_; refine gg [0,9,4,12,4,3,2,32,5,1,1,0,9,3,4,3,2,33] ?_; exact ⟨.inl rfl, _, rfl, .refl _, trivial⟩
  obtain ⟨t1, t2⟩ := tx_no hm; rw [t1, t2]; rw [Bool.not_eq_true] at hm; rw [hm] at hR; refine gg [38,5,22,2001,1,1,0,9,4,2001,3,2,1,31,5,20,16] ?_; refine gc (hR) [15,0,9,5,2001,7,3,2,1,32,5,1,1,0,9,4,2001,3,2,1,33] ?_; exact ⟨.inl rfl, _, rfl, .refl _, trivial⟩
theorem exsD_one (e : Ex) : exsD [e] = [exX e] := by rw [exsD_map]; rfl
theorem lExact (e : Ex) (hL : ExL e) (hN : ExN e) (hP : ExP e) (p : Pa) (hL2 : PaL p) (hN2 : PaN p) : Con Tryz.prog 4 [.agg (exX e), .agg (paX p)] [] (.c (.lit (.bool true))) [] := by
  have hH := tHeavy [e] (by simp) (fun x hx => by simp at hx; rw [hx]; exact hL); rw [exsD_one, hLst, hLst] at hH; have hH2 := tHeavyPat hL2
  by_cases hb : 400 < hEx e 0
  · rw [decide_eq_true hb] at hH; refine gg [38,5,22,2002,22,2003,1,0,9,5,2003,2002,4,3,2,31,5,20,16] ?_; refine u rfl rfl (r_buildSlice (e := 30) (sz := 16) (zs := zx) ([exX e]) rfl rfl (by kernel_rfl) (by kernel_rfl) rfl rfl rfl rfl) ?_; refine gc (hH) [2,3,3,16,0,9,6,2003,2002,20,4,3,2,32,5,1,0,9,5,2003,2002,4,3,2,33] ?_; exact ⟨.inl rfl, _, rfl, .refl _, trivial⟩
  rw [decide_eq_false hb] at hH
  by_cases hb2 : 400 < hPa p 0
  · rw [decide_eq_true hb2] at hH2; refine gg [38,5,22,2002,22,2003,1,0,9,5,2003,2002,4,3,2,31,5,20,16] ?_; refine u rfl rfl (r_buildSlice (e := 30) (sz := 16) (zs := zx) ([exX e]) rfl rfl (by kernel_rfl) (by kernel_rfl) rfl rfl rfl rfl) ?_; refine gc (hH) [2,20,7] ?_; refine gc (hH2) [17,0,9,6,2003,2002,20,4,3,2,32,5,1,0,9,5,2003,2002,4,3,2,33] ?_; exact ⟨.inl rfl, _, rfl, .refl _, trivial⟩
  rw [decide_eq_false hb2] at hH2; obtain ⟨hW, hg⟩ := light hL hN hb; have hT := tText (exK_of hW) hN (fun hm => (hg hm).2); have hG := gText hW hN (fun hm => (hg hm).2); have hK := kKeepExpr hW hP; have hS := sSameAt (n := 2000000000000) (by decide) (exB_p hW hP); have hns : ∀ z : Pa, (nms z).length ≤ z.list.length := fun z => by unfold nms; rw [List.length_map]; exact List.length_filter_le _ _
  obtain ⟨hK2, hz2⟩ := hPa_sz p 0 (by omega) (by omega); have hR := rRightPat (n := 400) (by decide) hK2 (by have := hns p; omega)
  generalize textOf e = te at hT hG
  generalize textErr e = tr at hT hG
  by_cases hm : mCheckPat p = true
  · rw [hm] at hR; have rp := rpa_of hN2 (runP_own _ _ hm); have l1 := len_pat rp; have hP := tPatText (paK_mono hK2) hN2 (fun _ => by omega); have hG2 := gPat rp (by omega); rw [show patOf p = xPat p by rw [patOf, if_pos hm], show patErr p = 0 by rw [patErr, if_pos hm]] at hP; refine gg [38,5,22,2002,22,2003,1,0,9,5,2003,2002,4,3,2,31,5,20,16] ?_; refine u rfl rfl (r_buildSlice (e := 30) (sz := 16) (zs := zx) ([exX e]) rfl rfl (by kernel_rfl) (by kernel_rfl) rfl rfl rfl rfl) ?_; refine gc (hH) [2,20,7] ?_; refine gc (hH2) [17,0,9,6,2003,2002,20,4,3,2,8,34,5,20,16] ?_; refine gc (hK) [23,2005,10,0,9,7,2005,2003,2002,5,4,3,2,5,20,16] ?_; refine gc (hT) [2,14,14,1,1,0,9,9,2005,2003,2002,7,6,5,4,3,2,5,20,16] ?_; refine gc (hG) [2,14,14,1,1,0,9,11,2005,2003,2002,9,8,7,6,5,4,3,2,5,20,7] ?_; refine gc (hP) [2,14,14,1,1,0,9,13,2005,2003,2002,11,10,9,8,7,6,5,4,3,2,5,1,1,0,9,15,2005,2003,2002,13,12,11,10,9,8,7,6,5,4,3,2,31,5,20,7] ?_
    refine gc (hR) [0,9,16,2005,2003,2002,39,13,12,11,10,9,8,7,6,5,4,3,2,32,37,20,7] ?_; refine gc (hG2) [1,1,0,9,13,2005,2002,13,12,11,10,9,8,7,6,5,4,2,5,2,2] ?_; refine u rfl rfl ((r_eqS rfl rfl rfl rfl).cast (cast_b (b' := true) (by exact beq_self_eq_true _))) ?_; refine gg [2,2,2] ?_; refine u rfl rfl ((r_eqI rfl rfl rfl rfl).cast (cast_b (b' := true) (by exact decide_eq_true rfl))) ?_; refine gg [16,2,2,2] ?_; refine u rfl rfl ((r_eqS rfl rfl rfl rfl).cast (cast_b (b' := true) (by exact beq_self_eq_true _))) ?_; refine gg [16,2,2,2] ?_; refine u rfl rfl ((r_eqI rfl rfl rfl rfl).cast (cast_b (b' := true) (by exact decide_eq_true rfl))) ?_; refine gg [16,2,20,16,20,16] ?_; refine gc (hS) [16,2] ?_; refine gc (kWakes7) [16,1,0,9,1,4,33] ?_; exact ⟨.inl rfl, _, rfl, .refl _, trivial⟩
  have hP := tPatText (paK_mono hK2) hN2 (fun h => absurd h hm); rw [show patOf p = [] by rw [patOf, if_neg hm], show patErr p = 1 by rw [patErr, if_neg hm]] at hP; rw [Bool.not_eq_true] at hm; rw [hm] at hR; refine gg [38,5,22,2002,22,2003,1,0,9,5,2003,2002,4,3,2,31,5,20,16] ?_; refine u rfl rfl (r_buildSlice (e := 30) (sz := 16) (zs := zx) ([exX e]) rfl rfl (by kernel_rfl) (by kernel_rfl) rfl rfl rfl rfl) ?_; refine gc (hH) [2,20,7] ?_; refine gc (hH2) [17,0,9,6,2003,2002,20,4,3,2,8,34,5,20,16] ?_; refine gc (hK) [23,2005,10,0,9,7,2005,2003,2002,5,4,3,2,5,20,16] ?_; refine gc (hT) [2,14,14,1,1,0,9,9,2005,2003,2002,7,6,5,4,3,2,5,20,16] ?_; refine gc (hG) [2,14,14,1,1,0,9,11,2005,2003,2002,9,8,7,6,5,4,3,2,5,20,7] ?_; refine gc (hP) [2,14,14,1,1,0,9,13,2005,2003,2002,11,10,9,8,7,6,5,4,3,2,5,1,1,0,9,15,2005,2003,2002,13,12,11,10,9,8,7,6,5,4,3,2,31,5,20,7] ?_; refine gc (hR) [0,9,16,2005,2003,2002,39,13,12,11,10,9,8,7,6,5,4,3,2,8,34,5,2,2] ?_
  refine u rfl rfl ((r_eqS rfl rfl rfl rfl).cast (cast_b (b' := true) (by exact beq_self_eq_true _))) ?_; refine gg [2,2,2] ?_; refine u rfl rfl ((r_eqI rfl rfl rfl rfl).cast (cast_b (b' := true) (by exact decide_eq_true rfl))) ?_; refine gg [16,2,2,2] ?_; refine u rfl rfl ((r_eqS rfl rfl rfl rfl).cast (cast_b (b' := true) (by kernel_rfl))) ?_; refine gg [16,2,2,2] ?_; refine u rfl rfl ((r_eqI rfl rfl rfl rfl).cast (cast_b (b' := true) (by exact decide_eq_true rfl))) ?_; refine gg [16,2,20,16,20,16] ?_; refine gc (hS) [16,2] ?_; refine gc (kWakes7) [16,1,0,9,1,4,33] ?_; exact ⟨.inl rfl, _, rfl, .refl _, trivial⟩

end Go.Proofs.YtlagglkpbnbmeaaGreatDoor
