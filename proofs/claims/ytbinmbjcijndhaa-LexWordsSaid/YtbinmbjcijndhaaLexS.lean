/- The law LexSpans: tokens follow one another, between them there are none, and each one's bytes are that one token. -/
import Derived.Test.YtbinmbjcijndhaaLexB
import Derived.Test.YtbinmbjcijndhaaDrawn
import Derived.Test.YtbinmbjcijndhaaBytes2
namespace Go.Proofs.Ytbinmbjcijndhaa
open Go Go.RowKit

set_option maxHeartbeats 2000000
set_option maxRecDepth 100000

theorem bcell {W w1 : World} (hb : Below W.heap.size W w1) : ∀ b o, b < W.heap.size → w1.cell? ⟨b, o, none⟩ = W.cell? ⟨b, o, none⟩ := fun b o h => hb.cell (p := ⟨b, o, none⟩) h

/-- the cells of one token of a row of the call's own -/
theorem own_cells {w : World} {base c : Nat} {A : Option Addr} {xs : List Tok} (h : OwnT w base A c xs) {j : Nat} (hj : j < xs.length) :
    ∃ g, A = some ⟨g, 0, none⟩ ∧ g < w.heap.size ∧ w.cell? ⟨g, j * 5, none⟩ = some (.int .i64 xs[j].k) ∧ w.cell? ⟨g, j * 5 + 1, none⟩ = some (.int .i64 xs[j].a) ∧ w.cell? ⟨g, j * 5 + 2, none⟩ = some (.int .i64 xs[j].b) ∧ w.cell? ⟨g, j * 5 + 3, none⟩ = some (str xs[j].s) ∧ w.cell? ⟨g, j * 5 + 4, none⟩ = some (.int .i64 xs[j].n) := by
  obtain ⟨g, hA, hc⟩ := h.form (fun _ => rfl) (by omega)
  have hx := List.getElem?_eq_getElem hj
  have hlt : g < w.heap.size := World.block_lt_of_cell? w ⟨g, j * 5, none⟩ (hc j 0 _ _ hx rfl)
  exact ⟨g, hA, hlt, hc j 0 _ _ hx rfl, hc j 1 _ _ hx rfl, hc j 2 _ _ hx rfl, hc j 3 _ _ hx rfl, hc j 4 _ _ hx rfl⟩

/-- 'bare', in whatever world has grown out of one in which the row is read: the cells of its token j -/
theorem bare_at {w0 : World} {A : Option Addr} {c : Nat} {ts : List Tok} (ha : RdT w0 A ts) (h1 : ts.length ≤ 1000000000) {j : Nat} {y : Tok} (hj : ts[j]? = some y) (x : Tok) (e1 : y.k = x.k) (e2 : y.s = x.s) (e3 : y.n = x.n) (W : World) (hW : Below w0.heap.size w0 W) :
    Calls Try.prog 12 #[.slice A ts.length c] W fun e w' => ∃ g c', e = .returned (.slice (some ⟨g, 0, none⟩) ts.length c') ∧ Later W w' ∧ g < w'.heap.size ∧ w'.cell? ⟨g, j * 5, none⟩ = some (.int .i64 x.k) ∧ w'.cell? ⟨g, j * 5 + 1, none⟩ = some (.int .i64 0) ∧ w'.cell? ⟨g, j * 5 + 2, none⟩ = some (.int .i64 0) ∧ w'.cell? ⟨g, j * 5 + 3, none⟩ = some (str x.s) ∧ w'.cell? ⟨g, j * 5 + 4, none⟩ = some (.int .i64 x.n) ∧ Below w0.heap.size w0 w' := by
  refine (bare_any A c ts W (ha.below hW) h1).mono ?_
  rintro e w' ⟨⟨A', c', rfl, hown⟩, hb⟩
  have hjl : j < ts.length := by
    rcases Nat.lt_or_ge j ts.length with h | h
    · exact h
    · rw [List.getElem?_eq_none h] at hj; cases hj
  have hy : (ts.map Tok.nude)[j]? = some y.nude := by rw [List.getElem?_map, hj]; rfl
  obtain ⟨g, rfl, hc⟩ := hown.form (fun _ => rfl) (by rw [List.length_map]; omega)
  have c0 := hc j 0 _ _ hy rfl
  rw [← e1, ← e2, ← e3]
  refine ⟨g, c', by rw [List.length_map], later_of hb, World.block_lt_of_cell? w' _ c0, c0, hc j 1 _ _ hy rfl, hc j 2 _ _ hy rfl, hc j 3 _ _ hy rfl, hc j 4 _ _ hy rfl, hW.trans (hb.mono hW.size)⟩

theorem lexSpans_any (A : Option Addr) (c : Nat) (bs : List UInt8) (w : World) (hb : RdB w A bs) (hcap : bs.length ≤ c) :
    Calls Try.prog 5 #[.slice A bs.length c] w fun e w' => e = .returned (.bool true) ∧ Below w.heap.size w w' := by
  by_cases hbig : 3000 < bs.length
  · have hbig' : (3000 : Int) < bs.length := by omega
    go_enter Try.func5, Try.ntmps5
    go_wp2_with fail
    go_ret
    exact ⟨rfl, Below.refl _ _⟩
  · have hbig' : (bs.length : Int) ≤ 3000 := by omega
    have hsm : mScan bs = mScanR 0 bs := mScan_small (by omega)
    have hsm' := hide hsm; clear hsm
    go_enter Try.func5, Try.ntmps5
    go_wp2_with fail
    refine (lexScan_any A c bs _ hb hcap (by omega)).mono ?_
    rintro e w1 ⟨hres1, hb1⟩
    cases hm : mScan bs with
    | error p =>
      rw [hm] at hres1
      obtain rfl : e = _ := hres1
      clear hm
      have hsz1 := hb1.size
      go_wp2_with fail
      refine (wakes_any _).mono ?_
      rintro e w4 ⟨rfl, hb4⟩
      go_wp2_with fail
      go_ret
      exact ⟨rfl, hb1.trans (hb4.mono hsz1)⟩
    | ok ts =>
      rw [hm] at hres1
      obtain ⟨A1, c1, rfl, hown1⟩ := hres1
      have hlen := mScan_len hm
      have hat0 := at_zero (by rw [← hsm'.out]; exact hm)
      clear hm
      have hlen' : (ts.length : Int) ≤ 16384 := by omega
      have hsz1 := hb1.size
      go_wp2_with fail
      go_loopw [6, 7] (fun at_ i wr => ∃ (k p : Nat), k ≤ ts.length ∧ i = .int .i64 k ∧ at_ = .int .i64 p ∧ At bs p (ts.drop k) none ∧ Below w1.heap.size w1 wr) (fun _ i _ => ts.length + 1 - (intOf i).toNat)
      case atStart => exact ⟨0, 0, by omega, rfl, rfl, hat0, Below.refl _ _⟩
      case round =>
        obtain ⟨k, p, hk, rfl, rfl, hat, hbl⟩ := hrel
        have hsz := hbl.size
        have hrd : RdB wr A bs := (hb.below hb1).below hbl
        have hownr : OwnT wr w.heap.size A1 c1 ts := hown1.keep hbl
        by_cases hlt : k < ts.length
        · obtain ⟨t, ht⟩ : ∃ t, t = ts[k] := ⟨_, rfl⟩
          rw [List.drop_eq_getElem_cons hlt, ← ht] at hat
          obtain ⟨a1, a2, a3, a4, a5, _, a6⟩ := at_step hat
          obtain ⟨g, rfl, hg, x0, x1, x2, x3, x4⟩ := own_cells hownr hlt
          rw [← ht] at x0 x1 x2 x3 x4
          have ht' := hide ht; clear ht
          obtain ⟨s, A2, c2, hs, hl, hle, hsl, hrds⟩ := slice_sub (A := A) hcap p t.a a1 (by omega)
          have hms : mScan s = .ok [] := by
            refine mScan_blank (by omega) ?_
            rw [hs]
            exact a4
          obtain ⟨s2, A4, c4, hs2, hl2, hle2, hsl2, hrds2⟩ := slice_sub (A := A) hcap t.a t.b (by omega) a3
          have hms2 : mScan s2 = .ok [t.bare.at 0 (t.b - t.a)] := by
            rw [hs2]
            exact a5 (by omega)
          have hsn : s.length ≤ 3000 := by omega
          have hsn2 : s2.length ≤ 3000 := by omega
          have hms' := hide hms; have hms2' := hide hms2; have ha6 := hide a6
          clear hms hms2 hs hs2 hl hl2 hat a4 a5 a6
          have hk1 : (k : Int) ≤ ts.length := by omega
          have hk2 : (k : Int) < ts.length := by omega
          have hk3 : ((k : Int) == ts.length) = false := by rw [beq_eq_false_iff_ne]; omega
          have i1 : (p : Int) ≤ t.a := by omega
          have i2 : (t.a : Int) ≤ bs.length := by omega
          have i3 : (t.a : Int) < t.b := by omega
          have i4 : (t.b : Int) ≤ bs.length := by omega
          go_wp2_with fail
          refine (lexScan_any A2 c2 s _ (hrds _ hrd) hle (by omega)).mono ?_
          rintro e w3 ⟨hres3, hb3⟩
          rw [hms'.out] at hres3
          obtain ⟨A3, c3, rfl, hown3⟩ := hres3
          have hsz3 := hb3.size
          have y2 : w3.cell? ⟨g, k * 5 + 2, none⟩ = some (.int .i64 t.b) := by rw [bcell hb3 _ _ hg]; exact x2
          go_wp2_with fail
          refine (lexScan_any A4 c4 s2 _ (hrds2 _ (hrd.below hb3)) hle2 (by omega)).mono ?_
          rintro e w4 ⟨hres4, hb4⟩
          rw [hms2'.out] at hres4
          obtain ⟨A5, c5, rfl, hown5⟩ := hres4
          have hsz4 := hb4.size
          obtain ⟨g5, rfl, hg5, z0, z1, z2, z3, z4⟩ := own_cells hown5 (j := 0) (by simp)
          have hz2 : w4.cell? ⟨g5, 2, none⟩ = some (.int .i64 ((t.b : Int) - t.a)) := by
            rw [show ((t.b : Int) - t.a) = ((t.b - t.a : Nat) : Int) by omega]
            have e : (t.bare.at 0 (t.b - t.a)).b = t.b - t.a := rfl
            simpa [e] using z2
          have hts : ts[k]? = some t := by rw [ht'.out]; exact List.getElem?_eq_getElem hlt
          have hownr4 : OwnT w4 w.heap.size (some ⟨g, 0, none⟩) c1 ts := (hownr.keep hb3).keep hb4
          have hbl4 := bare_at (c := c1) (hownr4.rd (fun _ => rfl)) (by omega) hts t rfl rfl rfl
          have hbm4 := bare_at (c := c5) (j := 0) (hown5.rd (fun _ => rfl)) (by simp) rfl t rfl rfl rfl
          have hbl4' := hide hbl4; have hbm4' := hide hbm4; have hts' := hide hts
          clear hbl4 hbm4 hts z0 z1 z2 z3 z4 x0 x1 x2 x3 x4 y2 hownr4
          have hbase : Below w.heap.size w w4 := (hb1.trans (hbl.mono hsz1)).trans ((hb3.mono (by omega)).trans (hb4.mono (by omega)))
          have hsz14 : w1.heap.size ≤ w4.heap.size := by omega
          have hbl14 : Below w1.heap.size w1 w4 := (hbl.trans (hb3.mono hsz)).trans (hb4.mono (by omega))
          have hwr : ((t.b : Int) - t.a != IntKind.i64.wrap ((t.b : Int) - t.a)) = false := by rw [IntWalk.i64_in _ (by omega)]; simp
          have hwr' := hide hwr; clear hwr
          clear hb3 hb4 hown3 hown5 hownr
          go_wp2_with fail
          go_cut [126] (fun v wc => v = .bool false ∧ Below w4.heap.size w4 wc)
          case first =>
            have j1 : (0 : Int) ≤ k := by omega
            clear hb hcap hbig hbig' hsm' hb1 hown1 hlen hat0 hlen' hsz1 hbl hsz hrd a1 a2 a3 hg ht' hle hsl hrds hle2 hsl2 hrds2 hsn hsn2 hms' hms2' ha6 hk1 hk3 i1 i2 i3 i4 hsz3 hsz4 hts' hbase hsz14 hbl14 hlt hk
            refine drawn_start (by kernel_rfl) ?_
            refine take_at (v := ?_) 0 rfl (by kernel_rfl) (by kernel_rfl) (by kernel_rfl) rfl (fun w' hw' => ?_) ?_; rotate_left; · (go_simp <;> with_reducible rfl)
            simp only [Act.put, List.setIfInBounds_toArray, List.set_cons_zero, List.set_cons_succ]
            refine take_at (v := ?_) 1 rfl (by kernel_rfl) (by kernel_rfl) (by kernel_rfl) rfl (fun w' hw' => ?_) ?_; rotate_left; · (go_simp <;> with_reducible rfl)
            simp only [Act.put, List.setIfInBounds_toArray, List.set_cons_zero, List.set_cons_succ]
            refine take_at (v := ?_) 2 rfl (by kernel_rfl) (by kernel_rfl) (by kernel_rfl) rfl (fun w' hw' => ?_) ?_; rotate_left; · (go_simp <;> with_reducible rfl)
            simp only [Act.put, List.setIfInBounds_toArray, List.set_cons_zero, List.set_cons_succ]
            refine take_at (v := ?_) 3 rfl (by kernel_rfl) (by kernel_rfl) (by kernel_rfl) rfl (fun w' hw' => ?_) ?_; rotate_left; · (go_simp <;> with_reducible rfl)
            simp only [Act.put, List.setIfInBounds_toArray, List.set_cons_zero, List.set_cons_succ]
            refine take_at (v := ?_) 4 rfl (by kernel_rfl) (by kernel_rfl) (by kernel_rfl) rfl (fun w' hw' => ?_) ?_; rotate_left; · (go_simp <;> with_reducible rfl)
            simp only [Act.put, List.setIfInBounds_toArray, List.set_cons_zero, List.set_cons_succ]
            refine take_at (v := ?_) 5 rfl (by kernel_rfl) (by kernel_rfl) (by kernel_rfl) rfl (fun w' hw' => ?_) ?_; rotate_left; · (go_simp <;> with_reducible rfl)
            simp only [Act.put, List.setIfInBounds_toArray, List.set_cons_zero, List.set_cons_succ]
            refine take_at (v := ?_) 6 rfl (by kernel_rfl) (by kernel_rfl) (by kernel_rfl) rfl (fun w' hw' => ?_) ?_; rotate_left; · (go_simp <;> with_reducible rfl)
            simp only [Act.put, List.setIfInBounds_toArray, List.set_cons_zero, List.set_cons_succ]
            refine take_at (v := ?_) 7 rfl (by kernel_rfl) (by kernel_rfl) (by kernel_rfl) rfl (fun w' hw' => ?_) ?_; rotate_left; · (go_simp <;> with_reducible rfl)
            simp only [Act.put, List.setIfInBounds_toArray, List.set_cons_zero, List.set_cons_succ]
            refine take_at (v := ?_) 8 rfl (by kernel_rfl) (by kernel_rfl) (by kernel_rfl) rfl (fun w' hw' => ?_) ?_; rotate_left; · (go_simp <;> with_reducible rfl)
            simp only [Act.put, List.setIfInBounds_toArray, List.set_cons_zero, List.set_cons_succ]
            refine take_at (v := ?_) 12 rfl (by kernel_rfl) (by kernel_rfl) (by kernel_rfl) rfl (fun w' hw' => ?_) ?_; rotate_left; · (go_simp <;> with_reducible rfl)
            simp only [Act.put, List.setIfInBounds_toArray, List.set_cons_zero, List.set_cons_succ]
            refine take_at (v := ?_) 14 rfl (by kernel_rfl) (by kernel_rfl) (by kernel_rfl) rfl (fun w' hw' => ?_) ?_; rotate_left; · (go_simp <;> with_reducible rfl)
            simp only [Act.put, List.setIfInBounds_toArray, List.set_cons_zero, List.set_cons_succ]
            refine sole_at 9 (by kernel_rfl) rfl rfl (fun K hK => ?_)
            go_simp
            refine (hbm4'.out _ ?_).mono ?_; · exact (Below.refl _ _).drew
            rintro e w5 ⟨g6, c6, rfl, hl5, hg6, m0, m1, m2, m3, m4, hb5⟩; simp only [Nat.zero_mul, Nat.zero_add] at m0 m1 m2 m3 m4; have hz3 := (hl5.2 ⟨g5, 2, none⟩ hg5).trans hz2
            have hsz5 := hl5.1; clear hl5
            go_wp2_with fail
            refine hK.out _ _ ?_ ?_; · exact (later_of hb5).drew
            clear hK K
            refine take_at (v := ?_) 10 rfl (by kernel_rfl) (by kernel_rfl) (by kernel_rfl) rfl (fun w' hw' => ?_) ?_; rotate_left; · (go_simp <;> with_reducible rfl)
            simp only [Act.put, List.setIfInBounds_toArray, List.set_cons_zero, List.set_cons_succ]
            refine take_at (v := ?_) 11 rfl (by kernel_rfl) (by kernel_rfl) (by kernel_rfl) rfl (fun w' hw' => ?_) ?_; rotate_left; · (have hl := hw'.2; go_simp <;> with_reducible rfl)
            simp only [Act.put, List.setIfInBounds_toArray, List.set_cons_zero, List.set_cons_succ]
            refine sole_at 13 (by kernel_rfl) rfl rfl (fun K hK => ?_)
            go_simp
            refine (hbl4'.out _ hb5).mono ?_
            rintro e w6 ⟨g7, c7, rfl, hl6, hg7, n0, n1, n2, n3, n4, hb6⟩; have hz4 := (hl6.2 ⟨g5, 2, none⟩ (Nat.lt_of_lt_of_le hg5 hb5.size)).trans hz3; have hg56 := Nat.lt_of_lt_of_le hg5 (Nat.le_trans hb5.size hl6.1)
            go_wp2_with fail
            refine hK.out _ _ ?_ ?_; · exact hl6
            clear hK K
            refine take_at (v := ?_) 15 rfl (by kernel_rfl) (by kernel_rfl) (by kernel_rfl) rfl (fun w' hw' => ?_) ?_; rotate_left; · (go_simp <;> with_reducible rfl)
            simp only [Act.put, List.setIfInBounds_toArray, List.set_cons_zero, List.set_cons_succ]
            refine take_at (v := ?_) 16 rfl (by kernel_rfl) (by kernel_rfl) (by kernel_rfl) rfl (fun w' hw' => ?_) ?_; rotate_left; · (have hl := hw'.2; go_simp <;> with_reducible rfl)
            simp only [Act.put, List.setIfInBounds_toArray, List.set_cons_zero, List.set_cons_succ]
            refine take_at (v := ?_) 17 rfl (by kernel_rfl) (by kernel_rfl) (by kernel_rfl) rfl (fun w' hw' => ?_) ?_; rotate_left; · (go_simp <;> with_reducible rfl)
            simp only [Act.put, List.setIfInBounds_toArray, List.set_cons_zero, List.set_cons_succ]
            refine take_at (v := ?_) 18 rfl (by kernel_rfl) (by kernel_rfl) (by kernel_rfl) rfl (fun w' hw' => ?_) ?_; rotate_left; · (go_simp <;> with_reducible rfl)
            simp only [Act.put, List.setIfInBounds_toArray, List.set_cons_zero, List.set_cons_succ]
            refine take_at (v := ?_) 19 rfl (by kernel_rfl) (by kernel_rfl) (by kernel_rfl) rfl (fun w' hw' => ?_) ?_; rotate_left; · (go_simp <;> with_reducible rfl)
            simp only [Act.put, List.setIfInBounds_toArray, List.set_cons_zero, List.set_cons_succ]
            refine take_at (v := ?_) 20 rfl (by kernel_rfl) (by kernel_rfl) (by kernel_rfl) rfl (fun w' hw' => ?_) ?_; rotate_left; · (go_simp <;> with_reducible rfl)
            simp only [Act.put, List.setIfInBounds_toArray, List.set_cons_zero, List.set_cons_succ]
            refine take_at (v := ?_) 21 rfl (by kernel_rfl) (by kernel_rfl) (by kernel_rfl) rfl (fun w' hw' => ?_) ?_; rotate_left; · (go_simp <;> with_reducible rfl)
            simp only [Act.put, List.setIfInBounds_toArray, List.set_cons_zero, List.set_cons_succ]
            refine take_at (v := ?_) 22 rfl (by kernel_rfl) (by kernel_rfl) (by kernel_rfl) rfl (fun w' hw' => ?_) ?_; rotate_left; · (go_simp <;> with_reducible rfl)
            simp only [Act.put, List.setIfInBounds_toArray, List.set_cons_zero, List.set_cons_succ]
            refine take_at (v := ?_) 23 rfl (by kernel_rfl) (by kernel_rfl) (by kernel_rfl) rfl (fun w' hw' => ?_) ?_; rotate_left; · (have hl := hw'.2; go_simp <;> with_reducible rfl)
            simp only [Act.put, List.setIfInBounds_toArray, List.set_cons_zero, List.set_cons_succ]
            refine take_at (v := ?_) 24 rfl (by kernel_rfl) (by kernel_rfl) (by kernel_rfl) rfl (fun w' hw' => ?_) ?_; rotate_left; · (go_simp <;> with_reducible rfl)
            simp only [Act.put, List.setIfInBounds_toArray, List.set_cons_zero, List.set_cons_succ]
            refine take_at (v := ?_) 25 rfl (by kernel_rfl) (by kernel_rfl) (by kernel_rfl) rfl (fun w' hw' => ?_) ?_; rotate_left; · (go_simp <;> with_reducible rfl)
            simp only [Act.put, List.setIfInBounds_toArray, List.set_cons_zero, List.set_cons_succ]
            refine take_at (v := ?_) 26 rfl (by kernel_rfl) (by kernel_rfl) (by kernel_rfl) rfl (fun w' hw' => ?_) ?_; rotate_left; · (go_simp <;> with_reducible rfl)
            simp only [Act.put, List.setIfInBounds_toArray, List.set_cons_zero, List.set_cons_succ]
            refine take_at (v := ?_) 27 rfl (by kernel_rfl) (by kernel_rfl) (by kernel_rfl) rfl (fun w' hw' => ?_) ?_; rotate_left; · (go_simp <;> with_reducible rfl)
            simp only [Act.put, List.setIfInBounds_toArray, List.set_cons_zero, List.set_cons_succ]
            refine take_at (v := ?_) 28 rfl (by kernel_rfl) (by kernel_rfl) (by kernel_rfl) rfl (fun w' hw' => ?_) ?_; rotate_left; · (go_simp <;> with_reducible rfl)
            simp only [Act.put, List.setIfInBounds_toArray, List.set_cons_zero, List.set_cons_succ]
            refine drawn_done (by kernel_rfl) ?_
            go_wp2_with fail
            go_meet
            exact ⟨congrArg Value.bool hwr'.out, hb6⟩
          case rest =>
            obtain ⟨rfl, hbc⟩ := hcut
            go_wp2_with fail
            go_roundw
            case rel => exact ⟨k + 1, t.b, by omega, by go_num, rfl, ha6.out, hbl14.trans (hbc.mono hsz14)⟩
            case measure => simp [intOf]; omega
        · have hkl : k = ts.length := by omega
          rw [hkl, List.drop_length] at hat
          have hend := at_end hat
          have hp := hat.1
          obtain ⟨s, A2, c2, hs, hl, hle, hsl, hrds⟩ := slice_sub (A := A) hcap p bs.length hp (Nat.le_refl _)
          have hms : mScan s = .ok [] := by
            refine mScan_blank (by omega) ?_
            rw [hs, List.take_of_length_le (by rw [List.length_drop]; omega)]
            exact hend
          have hms' := hide hms; have hs' := hide hs; have hl' := hide hl; have hkl' := hide hkl
          clear hms hs hl hkl hat hend
          have hsl2 : s.length ≤ 3000 := by have := hl'.out; omega
          have hk2 : (ts.length : Int) ≤ k := by have := hkl'.out; omega
          have hk3 : ((k : Int) == ts.length) = true := by have := hkl'.out; rw [beq_iff_eq]; omega
          have hp2 : (p : Int) ≤ bs.length := by omega
          go_wp2_with fail
          refine (lexScan_any A2 c2 s _ (hrds _ hrd) hle (by omega)).mono ?_
          rintro e w3 ⟨hres3, hb3⟩
          rw [hms'.out] at hres3
          obtain ⟨A3, c3, rfl, hown3⟩ := hres3
          have hsz3 := hb3.size
          go_wp2_with fail
          refine (wakes_any _).mono ?_
          rintro e w4 ⟨rfl, hb4⟩
          go_wp2_with fail
          go_ret
          exact ⟨rfl, ((hb1.trans (hbl.mono hsz1)).trans (hb3.mono (by omega))).trans (hb4.mono (by omega))⟩

end Go.Proofs.Ytbinmbjcijndhaa
