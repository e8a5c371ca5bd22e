/- Walks: the reference's scanner; two rows of tokens held against each other. -/
import Derived.Test.YtbinmbjcijndhaaLexW7
import Derived.Test.YtbinmbjcijndhaaLexW8
namespace Go.Proofs.Ytbinmbjcijndhaa
open Go Go.RowKit Go.BigFrame

set_option maxHeartbeats 2000000
set_option maxRecDepth 100000

theorem newsG_at {α : Type} (f : α → List Value) (w : World) (g : Nat) (hg : g = w.heap.size) (xs : List α) (t : TypeId) : ∀ j u, (xs.flatMap f)[j]? = some u → (w.alloc (.cells (xs.flatMap f).toArray t)).cell? ((⟨g, 0, none⟩ : Addr).add j) = some u := by
  subst hg
  exact newsG w xs t

theorem tok_refLen {l : List UInt8} {t : BTok} {n : Nat} (hm : mTok l = some (t, n)) (h0 : refLen l ≠ 0) : n = refLen l := by
  match l with
  | [] => simp [mTok] at hm
  | x :: r =>
    cases h : isSmall x
    · by_cases h2 : isDig x = true ∨ x.toNat = 126
      · obtain ⟨s, _, hsl, htok⟩ := tok_num (r := r) h h2
        rw [htok] at hm
        rw [← hsl]
        exact mNumber_len hm
      · have h3 : isDig x = false := by
          cases hd : isDig x
          · rfl
          · exact absurd (.inl hd) h2
        have h3' : x.toNat ≠ 126 := fun e => h2 (.inr e)
        by_cases h4 : x.toNat = 34
        · have : x = 34 := UInt8.toNat_inj.1 h4
          subst this
          obtain ⟨s, _, hsl, htok⟩ := tok_text h0
          rw [htok] at hm
          rw [← hsl]
          split at hm
          · cases hm; rfl
          · cases hm
        · obtain ⟨s, _, hsl, htok⟩ := tok_sign h h3 h3' h4 h0
          rw [htok] at hm
          rw [← hsl]
          cases hm
          rfl
    · obtain ⟨s, _, hsl, htok⟩ := tok_small (r := r) h
      rw [htok] at hm
      rw [← hsl]
      exact mWord_len hm

theorem refScan_any (A : Option Addr) (c : Nat) (bs : List UInt8) (w : World) (hb : RdB w A bs) (hcap : bs.length ≤ c) (hmax : bs.length ≤ 140737488351232) :
    Calls Try.prog 9 #[.slice A bs.length c] w fun e w' => ScanRes (mScan bs) w.heap.size e w' ∧ Below w.heap.size w w' := by
  by_cases hbig : 16384 < bs.length
  · have hm : mScan bs = .error 16384 := by rw [mScan, if_pos hbig]
    have hm' := hide hm; clear hm
    have hbig' : (16384 : Int) < bs.length := by omega
    go_enter Try.func9, Try.ntmps9
    go_wp2_with fail
    go_ret3
    rw [hm'.out]
    exact ⟨rfl, Below.refl _ _⟩
  · have hm : mScan bs = mScanR 0 bs := by rw [mScan, if_neg hbig]
    have hm' := hide hm; clear hm
    have hbig' : (bs.length : Int) ≤ 16384 := by omega
    have h0 := refSkip_any A c 0 bs w hb (by omega) (by omega)
    rw [show ((0 : Nat) : Int) = 0 from rfl] at h0
    have h0' := hide h0; clear h0
    go_enter Try.func9, Try.ntmps9
    go_wp2_with (go_at_call 24; refine (Calls.mono h0'.out ?_); rintro e w' ⟨rfl, rfl⟩)
    go_loopw [5, 6] (fun l i wr => ∃ (k : Nat) (ts : List Tok) (A' : Option Addr) (c' : Nat), k ≤ bs.length ∧ i = .int .i64 k ∧ mSkip false (bs.drop k) = bs.drop k ∧ ts.length ≤ k ∧ l = .slice A' ts.length c' ∧ OwnT wr w.heap.size A' c' ts ∧ mScanR 0 bs = pre ts (mScanR k (bs.drop k)) ∧ Below w.heap.size w wr) (fun _ i _ => bs.length - (intOf i).toNat)
    case atStart =>
      refine ⟨_, [], none, 0, by omega, rfl, ?_, by simp, rfl, OwnG.nil _ _, ?_, Below.refl _ _⟩
      · have h := mSkip_drop false bs
        rw [h, mSkip_idem]
      · rw [pre_nil]
        exact mScanR_skip bs 0 (by omega)
    case round =>
      obtain ⟨k, ts, A', c', hk, rfl, hsk, htk, rfl, hown, he, hbl⟩ := hrel
      have he' := hide he; have hsk' := hide hsk; clear he hsk
      have hsz := hbl.size
      have hrd : RdB wr A bs := hb.below hbl
      by_cases hlt : k < bs.length
      · obtain ⟨ad, x, rfl, hc, hd⟩ := hrd.at hlt
        have hne0 : bs.drop k ≠ [] := by rw [hd]; simp
        have hend : mTok (bs.drop k) = none → mScanR 0 bs = .error k := fun hmt => by
          rw [he'.out, mScanR_none _ _ (by rw [hsk'.out]; exact hne0) (by rw [hsk'.out]; exact hmt), hsk'.out, Nat.sub_self]
          rfl
        have hend' := hide hend; clear hend
        have hE := refEnd_any (some ad) c k bs wr hrd hlt hcap (by omega)
        by_cases h0 : refLen (bs.drop k) = 0
        · have hfin := hend'.out (by rw [hd]; rw [hd] at h0; exact tok_none h0)
          have hfin' := hide hfin; clear hfin
          rw [h0, endV, if_pos rfl] at hE
          have hE' := hide hE; clear hE hd
          go_wp2_with (go_at_call 25; refine (Calls.mono hE'.out ?_); rintro e w' ⟨rfl, rfl⟩)
          go_ret3
          refine ⟨?_, hbl⟩
          rw [hm'.out, hfin'.out]
          rfl
        · obtain ⟨j, hj⟩ : ∃ j, j = k + refLen (bs.drop k) := ⟨_, rfl⟩
          have hle := refLen_le (bs.drop k)
          rw [List.length_drop] at hle
          have hkj : k < j := by omega
          have hjl : j ≤ bs.length := by omega
          have hT := refToken_any (some ad) c k j bs wr hrd hlt hcap (by omega) h0 hj
          rw [endV, if_neg h0, ← hj] at hE
          have hE' := hide hE; have hT' := hide hT; have hj' := hide hj; have h0' := hide h0; clear hE hT hj hd hc hle h0
          have hj0 : ((j : Int) == 0) = false := by rw [beq_eq_false_iff_ne]; omega
          cases hmt : mTok (bs.drop k) with
          | none =>
            have hfin' := hide (hend'.out hmt)
            have hmt' := hide hmt; clear hmt
            go_wp2_with (first | (go_at_call 25; refine (Calls.mono hE'.out ?_); rintro e w' ⟨rfl, rfl⟩) | (go_at_call 26; refine (Calls.mono hT'.out ?_); rintro e w1 ⟨⟨kk, a, b, s, n, rfl, hres⟩, hbl1⟩; rw [hmt'.out]; clear hres))
            go_ret3
            have hsz1 := hbl1.size
            refine ⟨?_, (hbl.trans (hbl1.mono hsz)).alloc (by omega) _⟩
            rw [hm'.out, hfin'.out]
            rfl
          | some p =>
            obtain ⟨t, len⟩ := p
            obtain ⟨hn1, hn2⟩ := mTok_len hmt
            rw [List.length_drop] at hn2
            have hstep : mScanR 0 bs = pre (ts ++ [t.at k (k + len)]) (mScanR (k + len) (bs.drop (k + len))) := by
              rw [he'.out, mScanR_some _ _ (by rw [hsk'.out]; exact hne0) (by rw [hsk'.out]; exact hmt), hsk'.out, Nat.sub_self, Nat.add_zero, pre_pre, List.drop_drop]
            have hjlen : j = k + len := by rw [hj'.out, ← tok_refLen hmt h0'.out]
            subst hjlen
            have hstep' := hide hstep; clear hstep
            have hmt' := hide hmt; clear hmt
            go_wp2_with (first | (go_at_call 25; refine (Calls.mono hE'.out ?_); rintro e w' ⟨rfl, rfl⟩) | (go_at_call 26; refine (Calls.mono hT'.out ?_); rintro e w1 ⟨⟨kk, a, b, s, n, rfl, hres⟩, hbl1⟩; obtain ⟨rfl, rfl, rfl, rfl, rfl⟩ := hres t len hmt'.out; rw [hmt'.out]; clear hres; have hownc : OwnT w1 w.heap.size A' c' ts := hown.keep hbl1; have hsz1 := hbl1.size) | (at_builtin; refine wpList_appG rowTok rfl (.tmp 35) (.tmp 37) rfl w.heap.size A' c' ts rfl ((hownc.alloc _).alloc _) ⟨w1.heap.size + 1, 0, none⟩ 1 1 [t.at k (k + len)] rfl rfl (newsG_at tokC _ _ (by simp) [t.at k (k + len)] _) (by omega) (by omega) (by simp; omega) ?_; intro A2 c3' w2 ts2 ht2 hown2 hB2 hg2; have ht2' := hide ht2; clear ht2))
            have hbw2 : Below w.heap.size w w2 := (((hbl.trans (hbl1.mono hsz)).alloc (by omega) _).alloc (by simp; omega) _).trans hB2
            have hrd2 : RdB w2 (some ad) bs := hb.below hbw2
            have hs := refSkip_any (some ad) c (k + len) bs w2 hrd2 (by omega) (by omega)
            rw [Int.natCast_add] at hs
            have hs' := hide hs; clear hs
            go_wp2_with (go_at_call 24; refine (Calls.mono hs'.out ?_); rintro e w' ⟨rfl, rfl⟩)
            go_roundw
            case rel =>
              have hle := mSkip_le false (bs.drop (k + len))
              rw [List.length_drop] at hle
              refine ⟨_, ts2, A2, c3', by omega, rfl, ?_, ?_, rfl, hown2, ?_, hbw2⟩
              · rw [skip_drop bs (k + len) (by omega), mSkip_idem]
              · rw [ht2'.out, List.length_append, List.length_singleton]; omega
              · rw [hstep'.out, ht2'.out, ← mScanR_skip bs (k + len) (by omega)]
            case measure =>
              have hle := mSkip_le false (bs.drop (k + len))
              rw [List.length_drop] at hle
              simp [intOf]; omega
      · have hkl : k = bs.length := by omega
        have hlt' : (bs.length : Int) ≤ k := by omega
        have hkl' := hide hkl; clear hkl
        go_wp2_with fail
        go_ret3
        refine ⟨?_, hbl⟩
        rw [hm'.out, he'.out, mScanR_nil _ _ (by rw [List.drop_eq_nil_of_le (by omega)]; rfl)]
        simp only [pre, List.append_nil]
        exact ⟨A', c', rfl, hown⟩

theorem RdG.at_ {α : Type} {sz : Nat} {f : α → List Value} {w : World} {A : Option Addr} {xs : List α} (h : RdG sz f w A xs) {k : Nat} (hk : k < xs.length) :
    ∃ ad p x, A = some ad ∧ ad.add (k * sz) = p ∧ xs[k]? = some x ∧ xs.drop k = x :: xs.drop (k + 1) ∧ (∀ j, j < sz → w.cell? (p.add j) = (f x)[j]?) := by
  obtain ⟨ad, hA, _, hc⟩ := h k hk
  exact ⟨ad, _, xs[k], hA, rfl, List.getElem?_eq_getElem hk, List.drop_eq_getElem_cons hk, fun j hj => by rw [add_of_add]; exact hc j hj⟩
/-- the cells of one token -/
theorem tok_cells {w : World} {p : Addr} {x : Tok} (h : ∀ j, j < 5 → w.cell? (p.add j) = (tokC x)[j]?) :
    w.cell? p = some (.int .i64 x.k) ∧ w.cell? ⟨p.block, p.off + 1, none⟩ = some (.int .i64 x.a) ∧ w.cell? ⟨p.block, p.off + 2, none⟩ = some (.int .i64 x.b) ∧ w.cell? ⟨p.block, p.off + 3, none⟩ = some (str x.s) ∧ w.cell? ⟨p.block, p.off + 4, none⟩ = some (.int .i64 x.n) :=
  ⟨h 0 (by omega), h 1 (by omega), h 2 (by omega), h 3 (by omega), h 4 (by omega)⟩

def tokEq (x y : Tok) : Bool := decide (x = y)
theorem eqTok (x y : Tok) (w : World) : (Op.equalIn 10000 32 (.agg #[.int .i64 x.k, .int .i64 x.a, .int .i64 x.b, str x.s, .int .i64 x.n]) (.agg #[.int .i64 y.k, .int .i64 y.a, .int .i64 y.b, str y.s, .int .i64 y.n])).run Try.prog w = .ok (tokEq x y) w := by
  have hS : Try.prog.underlying 32 = some (.struct (Try.prog.fieldsOf 32)) := by kernel_rfl
  have hp : Try.prog.stoodInHeld 32 = false := by kernel_rfl
  rw [show (10000 : Nat) = 9999 + 1 from rfl, run_equalIn_agg w 9999 32 _ _ hS hp]
  simp only [Program.fieldsOf, Try.underlying32]
  go_simp
  obtain ⟨k, a, b, s, n⟩ := x
  obtain ⟨k', a', b', s', n'⟩ := y
  unfold tokEq
  dsimp only
  simp only [Tok.mk.injEq, Int.natCast_inj]
  by_cases h1 : k = k' <;> by_cases h2 : a = a' <;> by_cases h3 : b = b' <;> by_cases h4 : s = s' <;> by_cases h5 : n = n' <;> simp [h1, h2, h3, h4, h5]
attribute [go_sem high] eqTok

theorem keepTokens_any (A B : Option Addr) (c d : Nat) (ts us : List Tok) (w : World) (ha : RdT w A ts) (hb : RdT w B us) (h1 : ts.length ≤ 1000000000) (h2 : us.length ≤ 1000000000) :
    Calls Try.prog 10 #[.slice A ts.length c, .slice B us.length d] w fun e w' => e = .returned (.bool (decide (ts = us))) ∧ Below w.heap.size w w' := by
  by_cases hl : ts.length = us.length
  · have hl' : ((ts.length : Int) != (us.length : Int)) = false := by rw [bne_eq_false_iff_eq]; omega
    have hl2 := hide hl; clear hl
    go_enter Try.func10, Try.ntmps10
    go_wp2_with fail
    go_loopw [5] (fun i wr => ∃ k : Nat, k ≤ ts.length ∧ i = .int .i64 k ∧ (decide (ts = us) = decide (ts.drop k = us.drop k)) ∧ Below w.heap.size w wr) (fun i _ => ts.length - (intOf i).toNat)
    case atStart => exact ⟨0, by omega, rfl, rfl, Below.refl _ _⟩
    case round =>
      obtain ⟨k, hk, rfl, he, hbl⟩ := hrel
      have he' := hide he; clear he
      by_cases hlt : k < ts.length
      · obtain ⟨ad, p, x, rfl, hp, hx, hdx, hcx⟩ := (ha.below hbl).at_ hlt
        obtain ⟨bd, q, y, rfl, hq, hy, hdy, hcy⟩ := (hb.below hbl).at_ (k := k) (by rw [← hl2.out]; exact hlt)
        have hdx' := hide hdx; have hdy' := hide hdy; clear hdx hdy hx hy
        obtain ⟨x0, x1, x2, x3, x4⟩ := tok_cells hcx
        obtain ⟨y0, y1, y2, y3, y4⟩ := tok_cells hcy
        clear hcx hcy
        have hku : (k : Int) < us.length := by have := hl2.out; omega
        have hkt : (k : Int) < ts.length := by omega
        by_cases hxy : x = y
        · have hne : tokEq x y = true := decide_eq_true hxy
          have hxy' := hide hxy; clear hxy
          go_wp2_with fail
          go_quiet (fail)
          go_wp2_with fail
          refine ⟨⟨k + 1, by omega, by rw [Int.natCast_add]; rfl, ?_, ?_⟩, ?_⟩
          · rw [he'.out, hdx'.out, hdy'.out, hxy'.out]
            simp
          · exact below_drewN hbl nq
          · simp only [intOf]; omega
        · have hne : tokEq x y = false := decide_eq_false hxy
          have hxy' := hide hxy; clear hxy
          go_wp2_with fail
          go_quiet (fail)
          go_wp2_with fail
          go_ret
          refine ⟨ret_bool ?_, below_drewN hbl nq⟩
          symm
          rw [he'.out, hdx'.out, hdy'.out, decide_eq_false_iff_not]
          intro h; exact hxy'.out (List.cons.inj h).1
      · have hkl : k = ts.length := by omega
        have hkt : ¬ (k : Int) < ts.length := by omega
        go_wp2_with fail
        go_ret
        refine ⟨ret_bool ?_, hbl⟩
        symm
        have hl3 := hl2.out
        rw [he'.out, List.drop_eq_nil_of_le (by omega), List.drop_eq_nil_of_le (by omega)]
        rfl
  · have hl' : ((ts.length : Int) != (us.length : Int)) = true := by rw [bne_iff_ne]; omega
    go_enter Try.func10, Try.ntmps10
    go_wp2_with fail
    go_ret
    refine ⟨ret_bool ?_, Below.refl _ _⟩
    symm
    rw [decide_eq_false_iff_not]
    rintro rfl
    exact hl rfl

end Go.Proofs.Ytbinmbjcijndhaa
