/- The law LexRefused: what stands ahead of an error can be scanned; a source behind another, with a line's end between, adds its tokens, or its error, further on. -/
import Derived.Test.YtbinmbjcijndhaaLexB
import Derived.Test.YtbinmbjcijndhaaDrawn
import Derived.Test.YtbinmbjcijndhaaLexS
import Derived.Test.YtbinmbjcijndhaaBytes2
namespace Go.Proofs.Ytbinmbjcijndhaa
open Go Go.RowKit

set_option maxHeartbeats 2000000
set_option maxRecDepth 100000

/-- a prefix of a row of tokens, as a slice -/
theorem slice_toT {A : Option Addr} {n c : Nat} (hi : Nat) (h2 : hi ≤ n) (hc : n ≤ c) :
    ∃ A2 c2, (∀ W, (Instr.slice 23 (.slice A n c) none (some (.int .i64 (hi : Int))) none).run Try.prog W = .ok (.slice A2 hi c2) W) ∧ ∀ W (ts : List Tok), RdT W A ts → ts.length = n → RdT W A2 (ts.take hi) := by
  refine ⟨if c = 0 then A else A.map (·.add (0 * 5)), c - 0, fun W => ?_, fun W ts h hl => ?_⟩
  · have ht : Try.prog.underlying 23 = some (.slice (Try.prog.elem 23)) := by kernel_rfl
    have hz : (sizeOf (Try.prog.elem 23)).run Try.prog W = .ok 5 W := by kernel_rfl
    rw [run_slice_h _ _ _ _ _ ht _ _ (by omega) (by omega), hz]
    rfl
  · have hA : (if c = 0 then A else A.map (·.add (0 * 5))) = A := by
      split
      · rfl
      · cases A with
        | none => rfl
        | some a => simp [Addr.add]
    rw [hA]
    intro j hj
    rw [List.length_take] at hj
    obtain ⟨ad, hA, hlt, hcc⟩ := h j (by omega)
    exact ⟨ad, hA, hlt, fun k hk => by rw [List.getElem_take]; exact hcc k hk⟩

theorem lexRefused_any (A : Option Addr) (c : Nat) (bs : List UInt8) (A2 : Option Addr) (c2 : Nat) (cs : List UInt8) (w : World) (hb : RdB w A bs) (hcap : bs.length ≤ c) (hb2 : RdB w A2 cs) (hcap2 : cs.length ≤ c2) :
    Calls Try.prog 6 #[.slice A bs.length c, .slice A2 cs.length c2] w fun e w' => e = .returned (.bool true) ∧ Below w.heap.size w w' := by
  by_cases hbig : 3000 < bs.length
  · have hbig' : (3000 : Int) < bs.length := by omega
    go_enter Try.func6, Try.ntmps6
    go_wp2_with fail
    go_ret
    exact ⟨rfl, Below.refl _ _⟩
  have hbig' : (bs.length : Int) ≤ 3000 := by omega
  by_cases hbig2 : 3000 < cs.length
  · have hbig2' : (3000 : Int) < cs.length := by omega
    go_enter Try.func6, Try.ntmps6
    go_wp2_with fail
    go_ret
    exact ⟨rfl, Below.refl _ _⟩
  have hbig2' : (cs.length : Int) ≤ 3000 := by omega
  have hs1 := hide (mScan_small (l := bs) (by omega))
  have hs2 := hide (mScan_small (l := cs) (by omega))
  go_enter Try.func6, Try.ntmps6
  go_wp2_with fail
  refine (lexScan_any A c bs _ hb hcap (by omega)).mono ?_
  rintro e w1 ⟨hres1, hb1⟩
  have hsz1 := hb1.size
  cases hm : mScan bs with
  | error p =>
    rw [hm] at hres1
    obtain rfl : e = _ := hres1
    rw [hs1.out] at hm
    obtain ⟨hp, ts0, hts0⟩ := scan_ahead hm
    have hm' := hide hm; clear hm
    obtain ⟨s, A3, c3, hs, hl, hle, hsl, hrds⟩ := slice_to (A := A) hcap p (by omega)
    have hms : mScan s = .ok ts0 := by rw [hs, mScan_small (by rw [List.length_take]; omega)]; exact hts0
    have hms' := hide hms
    have hsn : s.length ≤ 3000 := by omega
    clear hs hms hts0 hl
    have hp1 : (p : Int) < bs.length := by omega
    go_wp2_with fail
    refine (lexScan_any A3 c3 s _ (hrds _ (hb.below hb1)) hle (by omega)).mono ?_
    rintro e w2 ⟨hres2, hb2'⟩
    have hsz2 := hb2'.size
    rw [hms'.out] at hres2
    obtain ⟨A4, c4, rfl, _⟩ := hres2
    have hbw2 : Below w.heap.size w w2 := hb1.trans (hb2'.mono hsz1)
    clear hb1 hb2'
    go_wp2_with fail
    refine (lexScan_any A2 c2 cs _ (hb2.below hbw2) hcap2 (by omega)).mono ?_
    rintro e w3 ⟨hres3, hb3⟩
    have hsz3 := hb3.size
    have hbw3 : Below w.heap.size w w3 := hbw2.trans (hb3.mono (by omega))
    cases hm2 : mScan cs with
    | error q =>
      rw [hm2] at hres3
      obtain rfl : e = _ := hres3
      clear hm2
      go_wp2_with fail
      refine (wakes_any _).mono ?_
      rintro e w4 ⟨rfl, hb4⟩
      go_wp2_with fail
      go_ret
      exact ⟨rfl, hbw3.trans (hb4.mono (by omega))⟩
    | ok ms =>
      rw [hm2] at hres3
      obtain ⟨A5, c5, rfl, hown5⟩ := hres3
      rw [hs2.out] at hm2
      have hj := scan_join (b := bs) hm2
      rw [hm'.out] at hj
      have hj' := hide hj; have hm2' := hide hm2; clear hj hm2
      have hc3 := hb2.below hbw3
      have hB3 := hb.below hbw3
      go_wp2_with (first | (at_builtin; refine wpList_appBA rfl (.tmp 68) (.tmp 69) rfl w3.heap.size (some ⟨w3.heap.size, 0, none⟩) 0 [] rfl (OwnB.made w3 [] (by simp)) A2 cs.length c2 cs rfl rfl (hc3.alloc _) (by simp; omega) (by simp) ?_; intro A6 c6 w6 d1 hd1 hown6 hB6; have hd1' := hide hd1; have hdl1 : d1.length ≤ 3000 := (by rw [hd1]; simp; omega); clear hd1) | (at_builtin; refine wpList_appBA rfl (.tmp 70) (.tmp 71) rfl w3.heap.size A6 c6 d1 rfl (hown6.alloc _) (some ⟨w6.heap.size, 0, none⟩) 1 1 [10] rfl rfl (rdB_mark w6 [10] _ _ _ rfl) (by simp; omega) (by have := hB6.size; simp at this; simp; omega) ?_; intro A7 c7 w7 d2 hd2 hown7 hB7; have hd2' := hide hd2; have hdl2 : d2.length ≤ 3001 := (by rw [hd2]; simp; omega); clear hd2) | (at_builtin; refine wpList_appBA rfl (.tmp 72) (.tmp 73) rfl w3.heap.size A7 c7 d2 rfl hown7 A bs.length c bs rfl rfl (hB3.below (((Below.refl _ _).alloc (Nat.le_refl _) _).trans (hB6.trans (((Below.refl _ _).alloc (by have := hB6.size; simp at this; omega) _).trans hB7)))) (by omega) (by have := hB6.size; have h7 := hB7.size; simp at this h7; omega) ?_; intro A8 c8 w8 d3 hd3 hown8 hB8; have hd3' := hide hd3; have hdl3 : d3.length ≤ 6001 := (by rw [hd3]; simp; omega); clear hd3))
      have hbw8 : Below w.heap.size w w8 := hbw3.trans ((((Below.refl _ _).alloc (Nat.le_refl _) _).trans (hB6.trans (((Below.refl _ _).alloc (by have := hB6.size; simp at this; omega) _).trans (hB7.trans hB8)))).mono (by omega))
      have hmd : mScan d3 = .error (p + (cs.length + 1)) := by
        have e : d3 = cs ++ 10 :: bs := by rw [hd3'.out, hd2'.out, hd1'.out]; simp
        rw [mScan_small (by omega), e]
        exact hj'.out
      have hmd' := hide hmd; clear hmd
      have hd8 := hown8.rd
      have hdc8 := hown8.le
      go_wp2_with fail
      refine (lexScan_any A8 c8 d3 _ hd8 hdc8 (by omega)).mono ?_
      rintro e w9 ⟨hres9, hb9⟩
      rw [hmd'.out] at hres9
      obtain rfl : e = _ := hres9
      have e1 : ((p + (cs.length + 1) : Nat) : Int) = p + cs.length + 1 := by omega
      rw [e1]
      clear e1
      have hsz9 := hb9.size
      have hsz8 := hbw8.size
      go_wp2_with fail
      refine (wakes_any _).mono ?_
      rintro e w4 ⟨rfl, hb4⟩
      go_wp2_with fail
      go_ret
      exact ⟨rfl, (hbw8.trans (hb9.mono hsz8)).trans (hb4.mono (by omega))⟩
  | ok ts =>
    rw [hm] at hres1
    obtain ⟨A1, c1, rfl, hown1⟩ := hres1
    rw [hs1.out] at hm
    have hlt := scans_len (scans_of_ok hm)
    have hati := (scans_at (scans_of_ok hm)).1
    have hati' := hide hati; clear hati
    have hm' := hide hm; clear hm
    have hlt' : (ts.length : Int) ≤ 3000 := by omega
    go_wp2_with fail
    refine (lexScan_any A2 c2 cs _ (hb2.below hb1) hcap2 (by omega)).mono ?_
    rintro e w3 ⟨hres3, hb3⟩
    have hsz3 := hb3.size
    have hbw3 : Below w.heap.size w w3 := hb1.trans (hb3.mono (by omega))
    have hown3 : OwnT w3 w.heap.size A1 c1 ts := hown1.keep hb3
    clear hown1
    cases hm2 : mScan cs with
    | error q =>
      rw [hm2] at hres3
      obtain rfl : e = _ := hres3
      clear hm2
      go_wp2_with fail
      refine (wakes_any _).mono ?_
      rintro e w4 ⟨rfl, hb4⟩
      go_wp2_with fail
      go_ret
      exact ⟨rfl, hbw3.trans (hb4.mono (by omega))⟩
    | ok ms =>
      rw [hm2] at hres3
      obtain ⟨A5, c5, rfl, hown5⟩ := hres3
      rw [hs2.out] at hm2
      have hlm := scans_len (scans_of_ok hm2)
      have hlm' : (ms.length : Int) ≤ 3000 := by omega
      have hj := scan_join (b := bs) hm2
      rw [hm'.out] at hj
      have hj' := hide hj; have hm2' := hide hm2; clear hj hm2
      have hc3 := hb2.below hbw3
      have hB3 := hb.below hbw3
      go_wp2_with (first | (at_builtin; refine wpList_appBA rfl (.tmp 68) (.tmp 69) rfl w3.heap.size (some ⟨w3.heap.size, 0, none⟩) 0 [] rfl (OwnB.made w3 [] (by simp)) A2 cs.length c2 cs rfl rfl (hc3.alloc _) (by simp; omega) (by simp) ?_; intro A6 c6 w6 d1 hd1 hown6 hB6; have hd1' := hide hd1; have hdl1 : d1.length ≤ 3000 := (by rw [hd1]; simp; omega); clear hd1) | (at_builtin; refine wpList_appBA rfl (.tmp 70) (.tmp 71) rfl w3.heap.size A6 c6 d1 rfl (hown6.alloc _) (some ⟨w6.heap.size, 0, none⟩) 1 1 [10] rfl rfl (rdB_mark w6 [10] _ _ _ rfl) (by simp; omega) (by have := hB6.size; simp at this; simp; omega) ?_; intro A7 c7 w7 d2 hd2 hown7 hB7; have hd2' := hide hd2; have hdl2 : d2.length ≤ 3001 := (by rw [hd2]; simp; omega); clear hd2) | (at_builtin; refine wpList_appBA rfl (.tmp 72) (.tmp 73) rfl w3.heap.size A7 c7 d2 rfl hown7 A bs.length c bs rfl rfl (hB3.below (((Below.refl _ _).alloc (Nat.le_refl _) _).trans (hB6.trans (((Below.refl _ _).alloc (by have := hB6.size; simp at this; omega) _).trans hB7)))) (by omega) (by have := hB6.size; have h7 := hB7.size; simp at this h7; omega) ?_; intro A8 c8 w8 d3 hd3 hown8 hB8; have hd3' := hide hd3; have hdl3 : d3.length ≤ 6001 := (by rw [hd3]; simp; omega); clear hd3))
      have hbl38 : Below w3.heap.size w3 w8 := (((Below.refl _ _).alloc (Nat.le_refl _) _).trans (hB6.trans (((Below.refl _ _).alloc (by have := hB6.size; simp at this; omega) _).trans (hB7.trans hB8))))
      have hbw8 : Below w.heap.size w w8 := hbw3.trans (hbl38.mono (by omega))
      have hown8T : OwnT w8 w.heap.size A1 c1 ts := hown3.keep hbl38
      have hown5T : OwnT w8 w1.heap.size A5 c5 ms := hown5.keep hbl38
      clear hown3 hown5 hB6 hB7 hB8 hb3
      have hmd : mScan d3 = .ok (ms ++ ts.map (Tok.shift (cs.length + 1))) := by
        have e : d3 = cs ++ 10 :: bs := by rw [hd3'.out, hd2'.out, hd1'.out]; simp
        rw [mScan_small (by omega), e]
        exact hj'.out
      have hmd' := hide hmd; clear hmd
      have hd8 := hown8.rd
      have hdc8 := hown8.le
      obtain ⟨ns, hns⟩ : ∃ ns, ns = ms ++ ts.map (Tok.shift (cs.length + 1)) := ⟨_, rfl⟩
      have hnl : ns.length = ms.length + ts.length := by rw [hns, List.length_append, List.length_map]
      rw [← hns] at hmd'
      go_wp2_with fail
      refine (lexScan_any A8 c8 d3 _ hd8 hdc8 (by omega)).mono ?_
      rintro e w9 ⟨hres9, hb9⟩
      rw [hmd'.out] at hres9
      obtain ⟨A9, c9, rfl, hown9⟩ := hres9
      have hnle := hown9.le
      rw [hnl]
      have hnl' := hide hnl; have hns' := hide hns
      have hnle' : ms.length + ts.length ≤ c9 := by omega
      clear hnl hns hnle
      have hown9T : OwnT w9 w.heap.size A1 c1 ts := hown8T.keep hb9
      have hown9M : OwnT w9 w1.heap.size A5 c5 ms := hown5T.keep hb9
      clear hown8T hown5T hown8 hd8
      have hsz9 := hb9.size
      have hsz8 := hbw8.size
      have hbw9 : Below w.heap.size w w9 := hbw8.trans (hb9.mono hsz8)
      go_wp2_with fail
      go_loopw [18] (fun i wr => ∃ k : Nat, k ≤ ts.length ∧ i = .int .i64 k ∧ Below w9.heap.size w9 wr) (fun i _ => ts.length - (intOf i).toNat)
      case atStart => exact ⟨0, by omega, rfl, Below.refl _ _⟩
      case round =>
        obtain ⟨k, hk, rfl, hbl⟩ := hrel
        have hszr := hbl.size
        have hownl : OwnT wr w.heap.size A1 c1 ts := hown9T.keep hbl
        have hownn : OwnT wr w8.heap.size A9 c9 ns := hown9.keep hbl
        by_cases hkl : k < ts.length
        · have hnlen := hnl'.out
          obtain ⟨t, ht⟩ : ∃ t, t = ts[k] := ⟨_, rfl⟩
          have htn : ns[ms.length + k]'(by omega) = t.shift (cs.length + 1) := by
            simp only [hns'.out, ht]
            rw [List.getElem_append_right (by omega)]
            simp
          obtain ⟨g, rfl, hg, x0, x1, x2, x3, x4⟩ := own_cells hownl hkl
          rw [← ht] at x0 x1 x2 x3 x4
          obtain ⟨g9, rfl, hg9, y0, y1, y2, y3, y4⟩ := own_cells hownn (j := ms.length + k) (by omega)
          rw [htn] at y0 y1 y2 y3 y4
          obtain ⟨b1, b2, b3⟩ := hati'.out t (by rw [ht]; exact List.getElem_mem _)
          have e1 : (((t.shift (cs.length + 1)).a : Nat) : Int) = t.a + cs.length + 1 := by simp only [Tok.shift]; omega
          have e2 : (((t.shift (cs.length + 1)).b : Nat) : Int) = t.b + cs.length + 1 := by simp only [Tok.shift]; omega
          have e0 : (t.shift (cs.length + 1)).k = t.k := rfl
          have e3 : (t.shift (cs.length + 1)).s = t.s := rfl
          have e4 : (t.shift (cs.length + 1)).n = t.n := rfl
          rw [e1] at y1
          rw [e2] at y2
          rw [e0] at y0
          rw [e3] at y3
          rw [e4] at y4
          clear e0 e1 e2 e3 e4 htn
          have ht' := hide ht; clear ht hnlen
          have hk1 : (k : Int) < ts.length := by omega
          have q1 : (t.a : Int) ≤ 3000 := by omega
          have q2 : (t.b : Int) ≤ 3000 := by omega
          have q3 : (ms.length : Int) + k < (ms.length : Int) + ts.length := by omega
          go_wp2_with fail
          go_quiet (fail)
          go_wp2_with fail
          go_roundw
          case rel => exact ⟨k + 1, by omega, by go_num, below_drewN (hbl.alloc (by omega) _) nq⟩
          case measure => simp [intOf]; omega
        · have hk2 : (ts.length : Int) ≤ k := by omega
          obtain ⟨A10, c10, hsl, hrds⟩ := slice_toT (A := A9) (n := ms.length + ts.length) (c := c9) ms.length (by omega) hnle'
          have hrd10 : RdT wr A10 ms := by
            have := hrds wr ns (hownn.rd (fun _ => rfl)) hnl'.out
            rw [hns'.out, List.take_left] at this
            exact this
          have hm5 : RdT wr A5 ms := (hown9M.keep hbl).rd (fun _ => rfl)
          have hkt := keepTokens_any A10 A5 c10 c5 ms ms wr hrd10 hm5 (by omega) (by omega)
          have hkt' := hide hkt; clear hkt hrd10 hm5
          go_wp2_with fail
          refine (Calls.mono hkt'.out ?_)
          rintro e w10 ⟨rfl, hb10⟩
          have hsz10 := hb10.size
          go_wp2_with fail
          refine (wakes_any _).mono ?_
          rintro e w11 ⟨rfl, hb11⟩
          go_wp2_with fail
          go_ret
          exact ⟨rfl, ((hbw9.trans (hbl.mono (by omega))).trans (hb10.mono (by omega))).trans (hb11.mono (by omega))⟩

end Go.Proofs.Ytbinmbjcijndhaa
