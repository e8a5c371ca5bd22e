/- The law WordCut: a text's text with a byte changed is none, or it is that of the text that is read. -/
import Derived.Test.YtbinmbjcijndhaaDoorWordT
import Derived.Deep.DeepCutAuto
import Derived.Deep.CutBlock
namespace Go.Proofs.YtbinmbjcijndhaaDoor
open Go Go.RowKit

set_option maxHeartbeats 2000000
set_option maxRecDepth 100000

theorem rem_in (a : Int) {n : Nat} (h : (0 : Int) < n) (h2 : (n : Int) ≤ 602) : 0 ≤ wrap64 ((IntKind.u64.wrap a).tmod n) ∧ wrap64 ((IntKind.u64.wrap a).tmod n) < n := by
  have h0 : 0 ≤ IntKind.u64.wrap a := by rw [IntKind.wrap_u64]; omega
  rw [Int.tmod_eq_emod_of_nonneg h0]
  have h3 := Int.emod_nonneg (IntKind.u64.wrap a) (show (n : Int) ≠ 0 by omega)
  have h4 := Int.emod_lt_of_pos (IntKind.u64.wrap a) h
  unfold wrap64
  omega
theorem later_alloc (W : World) (o : Obj) : Later W (W.alloc o) := ⟨by simp, fun p hp => World.cell?_alloc_lt W o p hp⟩
theorem rdB_later {W w : World} {A : Option Addr} {bs : List UInt8} (h : RdB W A bs) (hl : Later W w) : RdB w A bs := by
  intro j hj
  obtain ⟨ad, hA, hc⟩ := h j hj
  exact ⟨ad, hA, (hl.2 _ (World.block_lt_of_cell? W _ hc)).trans hc⟩
theorem slice_strTo (q : List UInt8) (i : Nat) (hi : i ≤ q.length) (w : World) : (Instr.slice 9 (.string ⟨q.toArray⟩) none (some (.int .i64 (i : Int))) none).run Tryd.prog w = .ok (.string ⟨(q.take i).toArray⟩) w := by
  rw [run_slice_string_h _ _ _ Tryd.underlying9 _ _ (by omega) (by simp [ByteArray.size]; omega)]
  simp [ByteArray.extract_mk]
theorem slice_strFrom (q : List UInt8) (i : Nat) (hi : i ≤ q.length) (w : World) : (Instr.slice 9 (.string ⟨q.toArray⟩) (some (.int .i64 (i : Int))) none none).run Tryd.prog w = .ok (.string ⟨(q.drop i).toArray⟩) w := by
  rw [run_slice_string_l _ _ _ Tryd.underlying9 _ _ (by omega) (by simp [ByteArray.size]; omega)]
  have e : (q.drop i).take (q.length - i) = q.drop i := List.take_of_length_le (by rw [List.length_drop]; omega)
  simp [ByteArray.extract_mk, ByteArray.size, e]

theorem wordCut_any (a0 : ByteArray) (a1 : Int) (a2 : Int) (w : World) (w0 : a0.size ≤ maxLen) (w1 : (Lit.int .i64 a1).wf = true) (w2 : (Lit.int .u8 a2).wf = true) (htab : tab10 w w.heap.size) :
    Calls Tryd.prog 8 #[.string a0, .int .i64 a1, .int .u8 a2] w fun e w' => e = .returned (.bool true) ∧ Below w.heap.size w w' := by
  obtain ⟨s, rfl⟩ := str_bytes a0
  have hsl : s.length ≤ 9223372036854775807 := by simpa [ByteArray.size, maxLen] using w0
  obtain ⟨hn1, hn2⟩ := wf_i64 w1
  obtain ⟨c, rfl⟩ : ∃ c : UInt8, a2 = (c.toNat : Int) := by
    simp only [Lit.wf, Bool.and_eq_true, decide_eq_true_eq] at w2
    have h1 : 0 ≤ a2 := w2.1
    have h2 : a2 ≤ 255 := w2.2
    exact ⟨UInt8.ofNat a2.toNat, by simp; omega⟩
  clear w0 w1 w2
  by_cases hbig : 200 < s.length
  · have hbig' : (200 : Int) < s.length := by omega
    clear htab
    go_enter Tryd.func8, Tryd.ntmps8
    go_wp2_with fail
    go_ret
    exact ⟨rfl, Below.refl _ _⟩
  have hs2 : s.length ≤ 200 := by omega
  have hbig' : (s.length : Int) ≤ 200 := by omega
  have ht := hide htab; clear htab
  have hq1 : quoV s = mLong s := by simp [quoV, mQuote, hs2]
  have hq2 : quoE s = 0 := by simp [quoE, mQuote, hs2]
  have hu := unqVE_some (mUnquote_long s hs2)
  obtain ⟨l1, l2⟩ := long_ge s
  have hc := wordQuote_any s w hsl
  rw [hq1, hq2] at hc
  have hc' := hide hc; clear hc hq1 hq2
  obtain ⟨q, hq⟩ : ∃ q, q = mLong s := ⟨_, rfl⟩
  rw [← hq] at hc' l1 l2
  have hq' := hide hq; clear hq
  have hql : ((q.length : Int) == 0) = false := by rw [beq_eq_false_iff_ne]; omega
  have hql0 : (0 : Int) < q.length := by omega
  have hql2 : (q.length : Int) ≤ 602 := by omega
  go_enter Tryd.func8, Tryd.ntmps8
  go_wp2_with fail
  refine (Calls.mono hc'.out ?_)
  rintro e W ⟨rfl, hbW⟩
  have hszW := hbW.size
  clear hc'
  go_upto_region 6 with fail
  go_cut [9] (fun v wc => ∃ z : Int, v = .int .i64 z ∧ 0 ≤ z ∧ z < q.length ∧ wc = W)
  case first =>
    go_wp2_with fail
    go_meet
    exact ⟨_, rfl, (rem_in a1 hql0 hql2).1, (rem_in a1 hql0 hql2).2, rfl⟩
  case rest =>
    obtain ⟨z, rfl, hz1, hz2, hwc⟩ := hcut
    subst hwc
    obtain ⟨i, rfl⟩ : ∃ i : Nat, z = (i : Int) := ⟨z.toNat, by omega⟩
    have hi : i < q.length := by omega
    obtain ⟨t, hts⟩ : ∃ t, t = q.take i ++ c :: q.drop (i + 1) := ⟨_, rfl⟩
    have htl : t.length ≤ 602 := by rw [hts, List.length_append, List.length_cons, List.length_take, List.length_drop]; omega
    have hts' := hide hts; clear hts
    have f1 := slice_strTo q i (by omega)
    have f2 := slice_strFrom q (i + 1) (by omega)
    rw [show ((i + 1 : Nat) : Int) = (i : Int) + 1 by omega] at f2
    obtain ⟨qa, hqa⟩ : ∃ qa, qa = q.take i := ⟨_, rfl⟩
    obtain ⟨qb, hqb⟩ : ∃ qb, qb = q.drop (i + 1) := ⟨_, rfl⟩
    rw [← hqa] at f1
    rw [← hqb] at f2
    have la : qa.length ≤ 602 := by rw [hqa, List.length_take]; omega
    have lb : qb.length ≤ 602 := by rw [hqb, List.length_drop]; omega
    have hqab := hide (And.intro hqa hqb); clear hqa hqb
    go_upto_region 7 with fail
    have hw1 : IntKind.i64.wrap ((i : Int) + 1) = (i : Int) + 1 := IntWalk.i64_in _ (by omega)
    have hw2 : (0 : Int) ≤ (i : Int) + 1 := by omega
    have g1 : ¬ 9223372036854775807 < qa.length + 1 := by omega
    have g2 : ¬ 9223372036854775807 < qa.length + 1 + qb.length := by omega
    go_cut [10] (fun v wd => v = str t ∧ Below wc.heap.size wc wd)
    case first =>
      refine drawn_start (by kernel_rfl) ?_
      refine take_at (v := ?_) 0 rfl (by kernel_rfl) (by kernel_rfl) (by kernel_rfl) rfl (fun w' hw' => ?_) ?_; rotate_left; · (go_simp <;> with_reducible rfl)
      simp only [Act.put, List.setIfInBounds_toArray, List.set_cons_zero, List.set_cons_succ]
      refine take_at (v := ?_) 1 rfl (by kernel_rfl) (by kernel_rfl) (by kernel_rfl) rfl (fun w' hw' => ?_) ?_; rotate_left; · (go_simp <;> with_reducible rfl)
      simp only [Act.put, List.setIfInBounds_toArray, List.set_cons_zero, List.set_cons_succ]
      refine take_at (v := ?_) 2 rfl (by kernel_rfl) (by kernel_rfl) (by kernel_rfl) rfl (fun w' hw' => ?_) ?_; rotate_left; · (go_simp <;> with_reducible rfl)
      simp only [Act.put, List.setIfInBounds_toArray, List.set_cons_zero, List.set_cons_succ]
      refine take_at (v := ?_) 3 rfl (by kernel_rfl) (by kernel_rfl) (by kernel_rfl) rfl (fun w' hw' => ?_) ?_; rotate_left; · (go_simp <;> with_reducible rfl)
      simp only [Act.put, List.setIfInBounds_toArray, List.set_cons_zero, List.set_cons_succ]
      refine take_at (v := ?_) 7 rfl (by kernel_rfl) (by kernel_rfl) (by kernel_rfl) rfl (fun w' hw' => ?_) ?_; rotate_left; · (go_simp <;> with_reducible rfl)
      simp only [Act.put, List.setIfInBounds_toArray, List.set_cons_zero, List.set_cons_succ]
      refine take_at (v := ?_) 8 rfl (by kernel_rfl) (by kernel_rfl) (by kernel_rfl) rfl (fun w' hw' => ?_) ?_; rotate_left; · (go_simp <;> with_reducible rfl)
      simp only [Act.put, List.setIfInBounds_toArray, List.set_cons_zero, List.set_cons_succ]
      refine take_at (v := ?_) 9 rfl (by kernel_rfl) (by kernel_rfl) (by kernel_rfl) rfl (fun w' hw' => ?_) ?_; rotate_left; · (go_simp <;> with_reducible rfl)
      simp only [Act.put, List.setIfInBounds_toArray, List.set_cons_zero, List.set_cons_succ]
      refine take_at (v := ?_) 10 rfl (by kernel_rfl) (by kernel_rfl) (by kernel_rfl) rfl (fun w' hw' => ?_) ?_; rotate_left; · (go_simp <;> with_reducible rfl)
      simp only [Act.put, List.setIfInBounds_toArray, List.set_cons_zero, List.set_cons_succ]
      refine sole_at 4 (by kernel_rfl) rfl rfl (fun K hK => ?_)
      go_simp
      refine hK.out _ _ (later_alloc _ _) ?_
      clear hK K
      refine take_at (v := ?_) 5 rfl (by kernel_rfl) (by kernel_rfl) (by kernel_rfl) rfl (fun w' hw' => ?_) ?_; rotate_left; · (have hcv : (convert 28 9 (.slice (some ⟨wc.heap.size, 0, none⟩) 1 1)).run Tryd.prog w' = .ok (.string ⟨#[c]⟩) w' := run_conv (bs := [c]) (rdB_later (rdB_mark0 wc.drew [c] 5 _ rfl) hw') rfl Tryd.underlying28 Tryd.underlying5 Tryd.underlying9; go_simp <;> with_reducible rfl)
      simp only [Act.put, List.setIfInBounds_toArray, List.set_cons_zero, List.set_cons_succ]
      refine take_at (v := ?_) 6 rfl (by kernel_rfl) (by kernel_rfl) (by kernel_rfl) rfl (fun w' hw' => ?_) ?_; rotate_left; · (go_simp <;> with_reducible rfl)
      simp only [Act.put, List.setIfInBounds_toArray, List.set_cons_zero, List.set_cons_succ]
      refine take_at (v := ?_) 11 rfl (by kernel_rfl) (by kernel_rfl) (by kernel_rfl) rfl (fun w' hw' => ?_) ?_; rotate_left; · (go_simp <;> with_reducible rfl)
      simp only [Act.put, List.setIfInBounds_toArray, List.set_cons_zero, List.set_cons_succ]
      refine take_at (v := ?_) 12 rfl (by kernel_rfl) (by kernel_rfl) (by kernel_rfl) rfl (fun w' hw' => ?_) ?_; rotate_left; · (go_simp <;> with_reducible rfl)
      simp only [Act.put, List.setIfInBounds_toArray, List.set_cons_zero, List.set_cons_succ]
      refine drawn_done (by kernel_rfl) ?_
      go_wp2_with fail
      go_meet
      refine ⟨?_, ((Below.refl _ _).drew).alloc (Nat.le_refl _) _⟩
      rw [hts'.out, hqab.out.1, hqab.out.2]
    case rest =>
      obtain ⟨rfl, hbd⟩ := hcut
      have hbd2 : Below w.heap.size w wc := hbW.trans (hbd.mono hszW)
      have hszd := hbd2.size
      clear f1 f2 hw1 hw2 g1 g2 la lb hql hql0
      have hcu := fun W => wordUnquote_any t W (by omega)
      cases hmu : mUnquote t with
      | none =>
        obtain ⟨e1, e2⟩ := unqVE_none hmu
        rw [e1, e2] at hcu
        clear hmu e1 e2
        go_wp2_with fail
        refine (hcu _).mono ?_
        rintro e w2 ⟨rfl, hb2⟩
        have hb12 : Below w.heap.size w w2 := hbd2.trans (hb2.mono hszd)
        go_wp2_with fail
        refine (wakesW_any _ (tabNow (ht.out.on hb12) hb12.size)).mono ?_
        rintro e w3 ⟨rfl, hb3⟩
        go_wp2_with fail
        go_ret
        exact ⟨rfl, hb12.trans (hb3.mono hb12.size)⟩
      | some u =>
        obtain ⟨e1, e2⟩ := unqVE_some hmu
        rw [e1, e2] at hcu
        obtain ⟨hlu, hul⟩ := mUnquote_inv t u hmu
        have hcq := fun W => wordQuote_any u W (by omega)
        have hv1 : quoV u = t := by simp [quoV, mQuote, hul, hlu]
        have hv2 : quoE u = 0 := by simp [quoE, mQuote, hul]
        rw [hv1, hv2] at hcq
        have hsame : u = s ∧ t = q ∨ ((u == s) = false ∧ (t == q) = false) := by
          by_cases h : u = s
          · exact .inl ⟨h, by rw [← hlu, hq'.out, h]⟩
          · refine .inr ⟨by rw [beq_eq_false_iff_ne]; exact h, ?_⟩
            rw [beq_eq_false_iff_ne]
            intro h2
            have h3 := mUnquote_long s hs2
            rw [← hq'.out, ← h2, hmu] at h3
            exact h (Option.some.inj h3)
        have hlu' := hide hlu
        clear hmu e1 e2 hv1 hv2 hlu
        have hcu' := hide hcu; have hcq' := hide hcq; clear hcu hcq hts' hqab hu
        rcases hsame with ⟨rfl, rfl⟩ | ⟨m1, m2⟩
        all_goals
          go_wp2_with fail
          refine (Calls.mono (hcu'.out _) ?_)
          rintro e w2 ⟨rfl, hb2⟩
          have hb12 : Below w.heap.size w w2 := hbd2.trans (hb2.mono hszd)
          have hsz2 := hb12.size
          go_wp2_with fail
          refine (Calls.mono (hcq'.out _) ?_)
          rintro e w3 ⟨rfl, hb3⟩
          have hb13 : Below w.heap.size w w3 := hb12.trans (hb3.mono hsz2)
          go_wp2_with fail
          refine (wakesW_any _ (tabNow (ht.out.on hb13) hb13.size)).mono ?_
          rintro e w4 ⟨rfl, hb4⟩
          go_wp2_with fail
          go_ret
          exact ⟨rfl, hb13.trans (hb4.mono hb13.size)⟩

end Go.Proofs.YtbinmbjcijndhaaDoor
