/- The walk of the law TellParts. -/
import Derived.Test.YtccdnmjijakofaaDoorTl
namespace Go.Proofs.YtccdnmjijakofaaDoor
open Go Go.RowKit
set_option maxRecDepth 100000
set_option maxHeartbeats 1000000
set_option linter.unusedVariables false
set_option linter.unusedSimpArgs false

theorem vasD_atI {l : List Va} {i : Int} {x : Va} (h : l[i.toNat]? = some x) : (vasD l)[i.toNat]? = some (vaX x) := by rw [vasD_map]; simp [h]
theorem kTvalT (t : Tl) (h : t.ok) (hs : t.va.size ≤ 1000) : Con Tryd.prog 7 [.agg (vaX t.va)] [] (.c (.lit (str (t.tx false)))) [] := by
  have c := kTval t.va (tl_I h) (tl_light h) hs
  rw [tlT_va h] at c
  exact c
theorem lTellParts (l : List Va) (hl : ∀ x, x ∈ l → x.I ∧ x.L) (st : Int) (hst : I64 st) : Con Tryd.prog 4 [.c (.sl 9 (vasD l)), .c (.lit (.int .i64 st))] [] (.c (.lit (.bool true))) [] := by
  have hll := vasD_len l
  refine con_intro rfl rfl (by kernel_rfl) (by kernel_rfl) ?_
  refine js ?_
  refine u rfl rfl asg ?_
  refine jd ?_
  refine w3 0 1 4 ?_
  refine J_seq ?_
  refine js ?_
  refine u rfl rfl mv ?_
  refine u rfl rfl ln0 ?_
  refine JR.runB rfl rfl (r_eqI rfl rfl rfl rfl) ?_ ?_
  · intro h11
    replace h11 := of_decide_eq_true h11
    refine u rfl rfl mv ?_
    refine sk ?_
    refine sk ?_
    refine sk ?_
    refine u rfl rfl pT ?_
    refine u rfl rfl mv ?_
    refine sk ?_
    refine sk ?_
    refine u rfl rfl pT ?_
    refine jd ?_
    refine w4 0 1 4 20 ?_
    refine J_condT rfl ?_
    refine js ?_
    refine u rfl rfl asg ?_
    refine jd ?_
    refine w3 0 1 4 ?_
    refine J_ret ?_
    exact ⟨.inl rfl, _, rfl, .refl _, trivial⟩
  · intro h11
    replace h11 := of_decide_eq_false h11
    refine u rfl rfl mv ?_
    refine u rfl rfl mv ?_
    refine u rfl rfl ln0 ?_
    refine JR.runB rfl rfl (r_gtI rfl rfl rfl rfl) ?_ ?_
    · intro h15
      replace h15 := of_decide_eq_true h15
      refine u rfl rfl pF ?_
      refine u rfl rfl mv ?_
      refine sk ?_
      refine sk ?_
      refine u rfl rfl pT ?_
      refine jd ?_
      refine w4 0 1 4 20 ?_
      refine J_condT rfl ?_
      refine js ?_
      refine u rfl rfl asg ?_
      refine jd ?_
      refine w3 0 1 4 ?_
      refine J_ret ?_
      exact ⟨.inl rfl, _, rfl, .refl _, trivial⟩
    · intro h15
      replace h15 := of_decide_eq_false h15
      refine u rfl rfl pF ?_
      refine u rfl rfl mv ?_
      refine u rfl rfl mv ?_
      refine JR.runC rfl rfl (cl (kVaHeavy l (by omega) (fun x hx => (hl x hx).2))) rfl ?_ ?_
      · intro h19
        refine u rfl rfl pF ?_
        refine jd ?_
        refine w4 0 1 4 20 ?_
        refine J_condT rfl ?_
        refine js ?_
        refine u rfl rfl asg ?_
        refine jd ?_
        refine w3 0 1 4 ?_
        refine J_ret ?_
        exact ⟨.inl rfl, _, rfl, .refl _, trivial⟩
      · intro h19
        obtain ⟨hsz0, hlg⟩ := not_heavy h19
        refine u rfl rfl pF ?_
        refine jd ?_
        refine w4 0 1 4 20 ?_
        refine J_condF rfl ?_
        refine J_skip ?_
        refine js ?_
        refine u rfl rfl (r_build (zs := [.int .i64 0, .int .i64 0, str [], .int .i64 0, .int .i64 0, .int .i64 0, .bool false, .slice none 0 0, .slice none 0 0]) (qs := [(0, 1), (1, 1), (2, 1), (3, 5), (8, 1)]) [.lit (.int .i64 0), .lit (.int .i64 0), .lit (str []), .lit (.int .i64 0), .lit (.int .i64 0), .lit (.int .i64 0), .lit (.bool false), .sl 5 [], .sl 9 []] rfl rfl (by kernel_rfl) (by kernel_rfl) ⟨.refl _, .refl _, .refl _, .refl _, .refl _, .refl _, .refl _, .nil _, .nil _, trivial⟩ rfl rfl) ?_
        refine u rfl rfl (r_alloc (x := 2005) (zs := [.int .i64 0, .int .i64 0, str [], .int .i64 0, .int .i64 0, .int .i64 0, .bool false, .slice none 0 0, .slice none 0 0]) [.lit (.int .i64 0), .lit (.int .i64 0), .lit (str []), .lit (.int .i64 0), .lit (.int .i64 0), .lit (.int .i64 0), .lit (.bool false), .sl 5 [], .sl 9 []] rfl rfl rfl (by kernel_rfl) ⟨.refl _, .refl _, .refl _, .refl _, .refl _, .refl _, .refl _, .nil _, .nil _, trivial⟩) ?_
        refine u rfl rfl sA ?_
        refine jd ?_
        refine w5 0 1 4 5 2005 ?_
        refine js ?_
        refine u rfl rfl asg ?_
        refine jd ?_
        refine w6 0 1 4 5 6 2005 ?_
        refine J_seq ?_
        refine js ?_
        refine u rfl rfl mv ?_
        refine u rfl rfl ln0 ?_
        refine u rfl rfl (r_subI rfl rfl rfl rfl (by omega)) ?_
        refine u rfl rfl asg ?_
        refine jd ?_
        refine w7 0 1 4 5 6 7 2005 ?_
        refine J_block ?_
        refine J_loopF (α := { p : Int × Tl × List UInt8 // -1 ≤ p.1 ∧ p.1 < l.length ∧ p.2.1.isL = true ∧ p.2.1.ok ∧ p.2.1.va.size ≤ 1 + Va.sizes (l.drop (p.1 + 1).toNat) + (l.length - (p.1 + 1).toNat) ∧ p.2.2 = Tl.rt 0 p.2.1 ∧ (p.1 + 1 < l.length → ∃ a r, p.2.1 = .cons a r ∧ l[(p.1 + 1).toNat]? = some a.va) }) (fun p => [(7, .c (.lit (.int .i64 p.1.1))), (6, .c (.lit (str p.1.2.2))), (2005, .var 27 ((vaX p.1.2.1.va).map .d))]) [(0, _), (1, _), (4, _), (5, _)] (fun p => (p.1.1 + 1).toNat) ⟨((((vasD l).length : Nat) : Int) - 1, .nil, []), by simp only; omega, by simp only; omega, rfl, trivial, by simp only [Tl.va, Va.size, Va.sizes]; omega, rfl, fun h => by simp only at h; omega⟩ ⟨rfl, rfl, rfl, rfl, rfl, rfl, rfl, trivial⟩ ?_
        rintro ⟨⟨i, z, s⟩, hi1, hi2, hL, hok, hsz, hs, hne⟩
        dsimp only at hi1 hi2 hL hok hsz hs hne ⊢
        have hds := drop_sizes l (i + 1).toNat
        have hrl := rt_len z hL hok
        rw [← hs] at hrl
        refine J_seq ?_
        refine js ?_
        refine u rfl rfl mv ?_
        refine JR.runB rfl rfl (r_geI rfl rfl rfl rfl) ?_ ?_
        · intro h26
          replace h26 := of_decide_eq_true h26
          obtain ⟨x, hx⟩ := get_some (l := l) (i := i.toNat) (by omega)
          have hxm := List.mem_of_getElem? hx
          have hxs := sizes_mem hxm
          have ctx := kRTold x (hlg x hxm) (by omega)
          rw [rTold_eq] at ctx
          refine jd ?_
          refine w9 0 1 4 5 6 7 25 26 2005 ?_
          refine J_condT rfl ?_
          refine J_skip ?_
          refine J_seq ?_
          refine J_block ?_
          refine J_seq ?_
          refine js ?_
          refine u rfl rfl mv ?_
          refine u rfl rfl mv ?_
          refine u rfl rfl (r_indexAddr (e := 27) (sz := 9) rfl rfl (by kernel_rfl) rfl rfl (by omega) (vasD_atI hx)) ?_
          refine u rfl rfl (eA 9) ?_
          refine JR.runC rfl rfl (cl (ctx)) rfl ?_ ?_
          · intro h33
            obtain ⟨a, hao, rfl⟩ := told_of (hl x hxm).1 h33
            have cta := kTvalT a hao (by omega)
            have hal := a.tx_len false hao
            refine u rfl rfl nt ?_
            refine jd ?_
            refine w15 0 1 4 5 6 7 25 26 29 30 31 32 33 34 2005 ?_
            refine J_condF rfl ?_
            refine J_skip ?_
            refine js ?_
            refine u rfl rfl mv ?_
            refine u rfl rfl mv ?_
            refine u rfl rfl (r_indexAddr (e := 27) (sz := 9) rfl rfl (by kernel_rfl) rfl rfl (by omega) (vasD_atI hx)) ?_
            refine u rfl rfl (eA 9) ?_
            refine u rfl rfl (lA 9) ?_
            refine u rfl rfl (r_buildSlice (e := 27) (sz := 9) (zs := [.int .i64 0, .int .i64 0, str [], .int .i64 0, .int .i64 0, .int .i64 0, .bool false, .slice none 0 0, .slice none 0 0]) (vasD [a.va, z.va]) rfl rfl (by kernel_rfl) (by kernel_rfl) rfl rfl (by simp only [vasD, vaD_eq]; rfl) (by simp only [vasD, vaD_eq]; rfl)) ?_
            refine u rfl rfl (r_build (zs := [.int .i64 0, .int .i64 0, str [], .int .i64 0, .int .i64 0, .int .i64 0, .bool false, .slice none 0 0, .slice none 0 0]) (qs := [(0, 1), (1, 1), (2, 1), (3, 5), (8, 1)]) [.lit (.int .i64 0), .lit (.int .i64 0), .lit (str []), .lit (.int .i64 0), .lit (.int .i64 0), .lit (.int .i64 0), .lit (.bool false), .sl 5 [], .sl 9 []] rfl rfl (by kernel_rfl) (by kernel_rfl) ⟨.refl _, .refl _, .refl _, .refl _, .refl _, .refl _, .refl _, .nil _, .nil _, trivial⟩ rfl rfl) ?_
            refine u rfl rfl sA ?_
            refine jD [0, 0, 3, 7, 0, 31, 63, 127] ?_
            refine J_weak [(0, _), (1, _), (4, _), (5, _), (6, _), (7, _), (25, _), (26, _), (29, _), (30, _), (31, _), (32, _), (33, _), (34, _), (35, _), (36, _), (37, _), (38, _), (39, _), (40, _), (41, _), (2005, _)] ⟨rfl, rfl, rfl, rfl, rfl, rfl, rfl, rfl, rfl, rfl, rfl, rfl, rfl, rfl, rfl, rfl, rfl, rfl, rfl, rfl, rfl, rfl, trivial⟩ ?_
            refine J_seq ?_
            refine js ?_
            refine u rfl rfl mv ?_
            refine JR.runB rfl rfl (r_neS rfl rfl rfl rfl) ?_ ?_
            · intro h43
              replace h43 := nT h43
              refine jd ?_
              refine J_weak [(0, _), (1, _), (4, _), (5, _), (6, _), (7, _), (25, _), (26, _), (29, _), (30, _), (31, _), (32, _), (33, _), (34, _), (35, _), (36, _), (37, _), (38, _), (39, _), (40, _), (41, _), (42, _), (43, _), (2005, _)] ⟨rfl, rfl, rfl, rfl, rfl, rfl, rfl, rfl, rfl, rfl, rfl, rfl, rfl, rfl, rfl, rfl, rfl, rfl, rfl, rfl, rfl, rfl, rfl, rfl, trivial⟩ ?_
              refine J_condT rfl ?_
              refine JR.start ?_
              refine u rfl rfl mv ?_
              refine u rfl rfl (r_catS rfl rfl rfl rfl (by first | omega | (simp only [List.length_append, List.length_cons, List.length_nil]; omega))) ?_
              refine u rfl rfl asg ?_
              refine jd ?_
              refine J_weak [(0, _), (1, _), (4, _), (5, _), (6, _), (7, _), (25, _), (26, _), (29, _), (30, _), (31, _), (32, _), (33, _), (34, _), (35, _), (36, _), (37, _), (38, _), (39, _), (40, _), (41, _), (42, _), (43, _), (44, _), (45, _), (2005, _)] ⟨rfl, rfl, rfl, rfl, rfl, rfl, rfl, rfl, rfl, rfl, rfl, rfl, rfl, rfl, rfl, rfl, rfl, rfl, rfl, rfl, rfl, rfl, rfl, rfl, rfl, rfl, trivial⟩ ?_
              refine JR.start ?_
              refine u rfl rfl mv ?_
              refine u rfl rfl mv ?_
              refine u rfl rfl (r_indexAddr (e := 27) (sz := 9) rfl rfl (by kernel_rfl) rfl rfl (by omega) (vasD_atI hx)) ?_
              refine u rfl rfl (eA 9) ?_
              refine u rfl rfl (cl (cta)) ?_
              refine u rfl rfl mv ?_
              refine u rfl rfl (r_catS rfl rfl rfl rfl (by first | omega | (simp only [List.length_append, List.length_cons, List.length_nil]; omega))) ?_
              refine u rfl rfl asg ?_
              refine jd ?_
              refine J_weak [(0, _), (1, _), (4, _), (5, _), (6, _), (7, _), (25, _), (26, _), (29, _), (30, _), (31, _), (32, _), (33, _), (34, _), (35, _), (36, _), (37, _), (38, _), (39, _), (40, _), (41, _), (42, _), (43, _), (44, _), (45, _), (46, _), (47, _), (48, _), (49, _), (50, _), (51, _), (52, _), (2005, _)] ⟨rfl, rfl, rfl, rfl, rfl, rfl, rfl, rfl, rfl, rfl, rfl, rfl, rfl, rfl, rfl, rfl, rfl, rfl, rfl, rfl, rfl, rfl, rfl, rfl, rfl, rfl, rfl, rfl, rfl, rfl, rfl, rfl, rfl, trivial⟩ ?_
              refine JR.start ?_
              refine u rfl rfl mv ?_
              refine u rfl rfl (r_subI rfl rfl rfl rfl (by omega)) ?_
              refine u rfl rfl asg ?_
              refine jd ?_
              have hit : (i - 1 + 1).toNat = i.toNat := by omega
              have hsd := sizes_drop hx
              rw [show i.toNat + 1 = (i + 1).toNat by omega] at hsd
              refine ⟨⟨(i - 1, .cons a z, _), by simp only; omega, by simp only; omega, rfl, ⟨hao, hok, hL⟩, ?_, (hs ▸ (rt_ne a hL (by rw [← hs]; exact fun e => by rw [e] at h43; simp at h43)).symm), fun _ => ⟨a, z, rfl, by simp only; rw [hit]; exact hx⟩⟩, by simp only; omega, rfl, rfl, rfl, rfl, rfl, rfl, rfl, trivial⟩
              simp only [Tl.va, Va.size, Va.sizes]
              rw [hit, hsd]
              omega
            · intro h43
              replace h43 := nF h43
              refine jd ?_
              refine J_weak [(0, _), (1, _), (4, _), (5, _), (6, _), (7, _), (25, _), (26, _), (29, _), (30, _), (31, _), (32, _), (33, _), (34, _), (35, _), (36, _), (37, _), (38, _), (39, _), (40, _), (41, _), (42, _), (43, _), (2005, _)] ⟨rfl, rfl, rfl, rfl, rfl, rfl, rfl, rfl, rfl, rfl, rfl, rfl, rfl, rfl, rfl, rfl, rfl, rfl, rfl, rfl, rfl, rfl, rfl, rfl, trivial⟩ ?_
              refine J_condF rfl ?_
              refine J_skip ?_
              refine JR.start ?_
              refine u rfl rfl mv ?_
              refine u rfl rfl mv ?_
              refine u rfl rfl (r_indexAddr (e := 27) (sz := 9) rfl rfl (by kernel_rfl) rfl rfl (by omega) (vasD_atI hx)) ?_
              refine u rfl rfl (eA 9) ?_
              refine u rfl rfl (cl (cta)) ?_
              refine u rfl rfl mv ?_
              refine u rfl rfl (r_catS rfl rfl rfl rfl (by first | omega | (simp only [List.length_append, List.length_cons, List.length_nil]; omega))) ?_
              refine u rfl rfl asg ?_
              refine jd ?_
              refine J_weak [(0, _), (1, _), (4, _), (5, _), (6, _), (7, _), (25, _), (26, _), (29, _), (30, _), (31, _), (32, _), (33, _), (34, _), (35, _), (36, _), (37, _), (38, _), (39, _), (40, _), (41, _), (42, _), (43, _), (46, _), (47, _), (48, _), (49, _), (50, _), (51, _), (52, _), (2005, _)] ⟨rfl, rfl, rfl, rfl, rfl, rfl, rfl, rfl, rfl, rfl, rfl, rfl, rfl, rfl, rfl, rfl, rfl, rfl, rfl, rfl, rfl, rfl, rfl, rfl, rfl, rfl, rfl, rfl, rfl, rfl, rfl, trivial⟩ ?_
              refine JR.start ?_
              refine u rfl rfl mv ?_
              refine u rfl rfl (r_subI rfl rfl rfl rfl (by omega)) ?_
              refine u rfl rfl asg ?_
              refine jd ?_
              have hit : (i - 1 + 1).toNat = i.toNat := by omega
              have hsd := sizes_drop hx
              rw [show i.toNat + 1 = (i + 1).toNat by omega] at hsd
              refine ⟨⟨(i - 1, .cons a z, _), by simp only; omega, by simp only; omega, rfl, ⟨hao, hok, hL⟩, ?_, (hs ▸ (rt_e a hL (by rw [← hs]; simpa using h43)).symm), fun _ => ⟨a, z, rfl, by simp only; rw [hit]; exact hx⟩⟩, by simp only; omega, rfl, rfl, rfl, rfl, rfl, rfl, rfl, trivial⟩
              simp only [Tl.va, Va.size, Va.sizes]
              rw [hit, hsd]
              omega
          · intro h33
            refine u rfl rfl nt ?_
            refine jd ?_
            refine w15 0 1 4 5 6 7 25 26 29 30 31 32 33 34 2005 ?_
            refine J_condT rfl ?_
            refine js ?_
            refine u rfl rfl asg ?_
            refine jd ?_
            refine w15 0 1 4 5 6 7 25 26 29 30 31 32 33 34 2005 ?_
            refine J_ret ?_
            exact ⟨.inl rfl, _, rfl, .refl _, trivial⟩
        · intro h26
          replace h26 := of_decide_eq_false h26
          have hi0 : i = -1 := by omega
          subst hi0
          obtain ⟨a, r, rfl, hx⟩ := hne (by omega)
          have hx0 : l[0]? = some a.va := hx
          have hxs := sizes_mem (List.mem_of_getElem? hx0)
          have hdz := drop_sizes l ((-1 : Int) + 1).toNat
          have hul := (Tl.cons a r).tx_len false hok
          have hal := a.tx_len false hok.1
          have cu := kTvalT (.cons a r) hok (by omega)
          have ca := kTvalT a hok.1 (by omega)
          have psz : (Tl.pair a (.cons a r)).va.size ≤ 1000 := by simp only [Tl.va, Va.size, Va.sizes] at hsz ⊢; omega
          have cp := kTvalT (.pair a (.cons a r)) ⟨hok.1, hok⟩ psz
          have crs := con_nilSl1 (kTresult 1 (Tl.pair a (.cons a r)).va 0 false 0 0 st [] (tl_I ⟨hok.1, hok⟩) (tl_light ⟨hok.1, hok⟩) psz i64_0 i64_0 i64_0 (by simp))
          rw [show rsT 1 (Tl.pair a (.cons a r)).va 0 false 0 0 [] = [118, 97, 108, 117, 101, 32] ++ tlT (Tl.pair a (.cons a r)).va from rfl, tlT_va (show (Tl.pair a (.cons a r)).ok from ⟨hok.1, hok⟩)] at crs
          have hpl := (Tl.pair a (.cons a r)).tx_len false ⟨hok.1, hok⟩
          have etx := Tl.tx_list hL
          refine jd ?_
          refine w9 0 1 4 5 6 7 25 26 2005 ?_
          refine J_condF rfl ?_
          refine J_exit ?_
          refine js ?_
          refine u rfl rfl mv ?_
          refine u rfl rfl (r_indexAddr (e := 27) (sz := 9) rfl rfl (by kernel_rfl) rfl rfl (Int.le_refl 0) (vasD_at (i := 0) hx0)) ?_
          refine u rfl rfl (eA 9) ?_
          refine u rfl rfl (lA 9) ?_
          refine u rfl rfl (r_buildSlice (e := 27) (sz := 9) (zs := [.int .i64 0, .int .i64 0, str [], .int .i64 0, .int .i64 0, .int .i64 0, .bool false, .slice none 0 0, .slice none 0 0]) (vasD [a.va, (Tl.cons a r).va]) rfl rfl (by kernel_rfl) (by kernel_rfl) rfl rfl (by simp only [vasD, vaD_eq]; rfl) (by simp only [vasD, vaD_eq]; rfl)) ?_
          refine u rfl rfl (r_build (zs := [.int .i64 0, .int .i64 0, str [], .int .i64 0, .int .i64 0, .int .i64 0, .bool false, .slice none 0 0, .slice none 0 0]) (qs := [(0, 1), (1, 1), (2, 1), (3, 5), (8, 1)]) [.lit (.int .i64 0), .lit (.int .i64 0), .lit (str []), .lit (.int .i64 0), .lit (.int .i64 0), .lit (.int .i64 0), .lit (.bool false), .sl 5 [], .sl 9 []] rfl rfl (by kernel_rfl) (by kernel_rfl) ⟨.refl _, .refl _, .refl _, .refl _, .refl _, .refl _, .refl _, .nil _, .nil _, trivial⟩ rfl rfl) ?_
          refine u rfl rfl (r_alloc (x := 2008) (zs := [.int .i64 0, .int .i64 0, str [], .int .i64 0, .int .i64 0, .int .i64 0, .bool false, .slice none 0 0, .slice none 0 0]) [.lit (.int .i64 0), .lit (.int .i64 0), .lit (str []), .lit (.int .i64 0), .lit (.int .i64 0), .lit (.int .i64 0), .lit (.bool false), .sl 5 [], .sl 9 []] rfl rfl rfl (by kernel_rfl) ⟨.refl _, .refl _, .refl _, .refl _, .refl _, .refl _, .refl _, .nil _, .nil _, trivial⟩) ?_
          refine u rfl rfl sA ?_
          refine jD [0, 1, 3, 0, 15, 31, 0, 127] ?_
          refine w8 0 1 4 5 6 8 2005 2008 ?_
          refine js ?_
          refine u rfl rfl (lA 9) ?_
          refine u rfl rfl (cl (cu)) ?_
          refine u rfl rfl mv ?_
          refine u rfl rfl (r_catS rfl rfl rfl rfl (by first | omega | (simp only [List.length_append, List.length_cons, List.length_nil]; omega))) ?_
          refine u rfl rfl (r_catS rfl rfl rfl rfl (by first | omega | (simp only [List.length_append, List.length_cons, List.length_nil]; omega))) ?_
          refine u rfl rfl ((r_eqS rfl rfl rfl rfl).cast (cast_b (b' := true) (by rw [etx, hs]; simp))) ?_
          refine u rfl rfl mv ?_
          refine u rfl rfl (lA 9) ?_
          refine u rfl rfl (cl (cp)) ?_
          refine u rfl rfl mv ?_
          refine u rfl rfl (r_indexAddr (e := 27) (sz := 9) rfl rfl (by kernel_rfl) rfl rfl (Int.le_refl 0) (vasD_at (i := 0) hx0)) ?_
          refine u rfl rfl (eA 9) ?_
          refine u rfl rfl (cl (ca)) ?_
          refine u rfl rfl (r_catS rfl rfl rfl rfl (by first | omega | (simp only [List.length_append, List.length_cons, List.length_nil]; omega))) ?_
          refine u rfl rfl (r_catS rfl rfl rfl rfl (by first | omega | (simp only [List.length_append, List.length_cons, List.length_nil]; omega))) ?_
          refine u rfl rfl mv ?_
          refine u rfl rfl (r_catS rfl rfl rfl rfl (by first | omega | (simp only [List.length_append, List.length_cons, List.length_nil]; omega))) ?_
          refine u rfl rfl (r_catS rfl rfl rfl rfl (by first | omega | (simp only [List.length_append, List.length_cons, List.length_nil]; omega))) ?_
          refine u rfl rfl ((r_eqS rfl rfl rfl rfl).cast (cast_b (b' := true) (by rw [hs, show (Tl.pair a (.cons a r)).tx false = 40 :: (a.tx false ++ ([44, 32] ++ ((Tl.cons a r).tx false ++ [41]))) from rfl, etx]; simp))) ?_
          refine u rfl rfl pT ?_
          refine u rfl rfl mv ?_
          refine u rfl rfl (lA 9) ?_
          refine u rfl rfl mv ?_
          refine u rfl rfl (r_build (zs := [.int .i64 0, .int .i64 0, .int .i64 0, str [], .int .i64 0, .int .i64 0, .int .i64 0, .bool false, .slice none 0 0, .slice none 0 0, .int .i64 0, .bool false, .int .i64 0, .int .i64 0, .int .i64 0]) (qs := [(0, 1), (1, 9), (10, 1), (11, 1), (12, 2), (14, 1)]) [.lit (.int .i64 0), .lit (.int .i64 0), .lit (.int .i64 0), .lit (str []), .lit (.int .i64 0), .lit (.int .i64 0), .lit (.int .i64 0), .lit (.bool false), .sl 5 [], .sl 9 [], .lit (.int .i64 0), .lit (.bool false), .lit (.int .i64 0), .lit (.int .i64 0), .lit (.int .i64 0)] rfl rfl (by kernel_rfl) (by kernel_rfl) ⟨.refl _, .refl _, .refl _, .refl _, .refl _, .refl _, .refl _, .refl _, .nil _, .nil _, .refl _, .refl _, .refl _, .refl _, .refl _, trivial⟩ rfl rfl) ?_
          refine u rfl rfl (cl (crs)) ?_
          refine u rfl rfl (lA 9) ?_
          refine u rfl rfl (cl (cp)) ?_
          refine u rfl rfl (r_catS rfl rfl rfl rfl (by first | omega | (simp only [List.length_append, List.length_cons, List.length_nil]; omega))) ?_
          refine u rfl rfl ((r_eqS rfl rfl rfl rfl).cast (cast_b (b' := true) (by simp))) ?_
          refine u rfl rfl pT ?_
          refine u rfl rfl mv ?_
          refine u rfl rfl (cl (kWakes27)) ?_
          refine u rfl rfl pT ?_
          refine u rfl rfl asg ?_
          refine jD [0, 1, 0, 4, 12, 31, 63, 127, 255, 127, 639, 1663, 4095, 8191, 16383, 127, 65535, 131071, 262143, 524287, 1048575, 2097151, 2097151, 8388607, 16777215, 2097151, 67108863, 134217727, 268435455, 536870911, 1073741823, 2147483647, 4294967295, 8589934591] ?_
          refine w1 4 ?_
          refine J_ret ?_
          exact ⟨.inl rfl, _, rfl, .refl _, trivial⟩

end Go.Proofs.YtccdnmjijakofaaDoor
