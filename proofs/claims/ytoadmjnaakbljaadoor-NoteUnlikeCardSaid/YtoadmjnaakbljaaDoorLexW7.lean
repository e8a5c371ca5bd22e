/- Walks: the program's scanner. -/
import Derived.Test.YtoadmjnaakbljaaDoorLexW6
import Derived.Test.YtoadmjnaakbljaaDoorLexP2
import Derived.Test.YtoadmjnaakbljaaDoorRowsG
namespace Go.Proofs.YtoadmjnaakbljaaDoor
open Go Go.RowKit

set_option maxHeartbeats 2000000
set_option maxRecDepth 100000

def tokC (t : Tok) : List Value := [.int .i64 t.k, .int .i64 t.a, .int .i64 t.b, str t.s, .int .i64 t.n]
theorem infoT : (Tryd.prog.info? 54).map (fun i => (i.zero, i.size, i.bytes)) = some (some (.agg #[.int .i64 0, .int .i64 0, .int .i64 0, str [], .int .i64 0]), 5, 48) := by kernel_rfl
theorem rowTok : RowT Tryd.prog 34 54 5 48 tokC where
  ht := Tryd.underlying34
  info := by
    obtain ⟨i0, hi, hz0, hz1, hz2⟩ := info_parts infoT
    exact ⟨i0, _, hi, hz0, hz1, hz2, rfl⟩
  pos := by omega
  len := fun _ => rfl
  one := fun x u hu => by
    simp only [tokC, List.mem_cons, List.not_mem_nil, or_false] at hu
    rcases hu with rfl | rfl | rfl | rfl | rfl <;> rfl
abbrev OwnT := OwnG 54 5 tokC
abbrev RdT := RdG 5 tokC

/-- a token was read into block b, if there is one -/
def CutTok (m : Option (BTok × Nat)) (k : Nat) (wr wc : World) : Prop :=
  ∃ (kk a b : Int) (s : List UInt8) (n : Int), wc.cell? ⟨wr.heap.size, 0, none⟩ = some (.int .i64 kk) ∧ wc.cell? ⟨wr.heap.size, 1, none⟩ = some (.int .i64 a) ∧ wc.cell? ⟨wr.heap.size, 2, none⟩ = some (.int .i64 b) ∧
    wc.cell? ⟨wr.heap.size, 3, none⟩ = some (str s) ∧ wc.cell? ⟨wr.heap.size, 4, none⟩ = some (.int .i64 n) ∧ (∀ t len, m = some (t, len) → kk = t.k ∧ a = k ∧ b = (k + len : Nat) ∧ s = t.s ∧ n = t.n) ∧
    Below wr.heap.size wr wc ∧ wr.heap.size < wc.heap.size
theorem CutTok.mk {m : Option (BTok × Nat)} {k : Nat} {wr w1 : World} {kk a b : Int} {s : List UInt8} {n : Int} {cs : Array Value} (hc : ∀ j, w1.cell? ⟨wr.heap.size, j, none⟩ = cs[j]?) (h5 : cs.size = 5) (hlt : wr.heap.size < w1.heap.size) (hb : Below wr.heap.size wr w1)
    (hres : ∀ t len, m = some (t, len) → kk = t.k ∧ a = k ∧ b = (k + len : Nat) ∧ s = t.s ∧ n = t.n) :
    CutTok m k wr (((((w1.setCell ⟨wr.heap.size, 0, none⟩ (.int .i64 kk)).setCell ⟨wr.heap.size, 1, none⟩ (.int .i64 a)).setCell ⟨wr.heap.size, 2, none⟩ (.int .i64 b)).setCell ⟨wr.heap.size, 3, none⟩ (str s)).setCell ⟨wr.heap.size, 4, none⟩ (.int .i64 n)) := by
  obtain ⟨u0, e0⟩ : ∃ u, cs[0]? = some u := ⟨cs[0], by simp [h5]⟩
  obtain ⟨u1, e1⟩ : ∃ u, cs[1]? = some u := ⟨cs[1], by simp [h5]⟩
  obtain ⟨u2, e2⟩ : ∃ u, cs[2]? = some u := ⟨cs[2], by simp [h5]⟩
  obtain ⟨u3, e3⟩ : ∃ u, cs[3]? = some u := ⟨cs[3], by simp [h5]⟩
  obtain ⟨u4, e4⟩ : ∃ u, cs[4]? = some u := ⟨cs[4], by simp [h5]⟩
  have h0 := (hc 0).trans e0
  have h1 := (hc 1).trans e1
  have h2 := (hc 2).trans e2
  have h3 := (hc 3).trans e3
  have h4 := (hc 4).trans e4
  refine ⟨kk, a, b, s, n, ?_, ?_, ?_, ?_, ?_, hres, ?_, by simpa [World.setCell] using hlt⟩
  · go_simp
  · go_simp
  · go_simp
  · go_simp
  · go_simp
  · go_grown

/-- what a scan gives -/
def ScanRes (m : Except Nat (List Tok)) (base : Nat) (e : Ending) (w' : World) : Prop :=
  match m with
  | .ok ts => ∃ A c, e = .returned (.tuple #[.slice A ts.length c, .int .i64 0, .int .i64 0]) ∧ OwnT w' base A c ts
  | .error at_ => e = .returned (.tuple #[.slice none 0 0, .int .i64 at_, .int .i64 3])

theorem mTok_small {c : UInt8} {r : List UInt8} (h : isSmall c = true) : mTok (c :: r) = mWord (c :: r.takeWhile isPart) := by rw [mTok, if_pos h]
theorem mTok_num {c : UInt8} {r : List UInt8} (h : isSmall c = false) (h2 : isDig c = true ∨ c.toNat = 126) : mTok (c :: r) = mNumber (c :: r.takeWhile isDig) := by
  rw [mTok, if_neg (by simp [h]), if_pos (by simpa using h2)]
theorem mTok_text {r : List UInt8} : mTok (34 :: r) = mText r := by rfl
theorem mTok_sign {c : UInt8} {r : List UInt8} (h : isSmall c = false) (h2 : isDig c = false) (h3 : c.toNat ≠ 126) (h4 : c.toNat ≠ 34) : mTok (c :: r) = mSign (c :: r) := by
  rw [mTok, if_neg (by simp [h]), if_neg (by simp [h2, h3]), if_neg h4]

theorem lexScan_any (A : Option Addr) (c : Nat) (bs : List UInt8) (w : World) (hb : RdB w A bs) (hcap : bs.length ≤ c) (hmax : bs.length ≤ 140737488351232) :
    Calls Tryd.prog 15 #[.slice A bs.length c] w fun e w' => ScanRes (mScan bs) w.heap.size e w' ∧ Below w.heap.size w w' := by
  by_cases hbig : 16384 < bs.length
  · have hm : mScan bs = .error 16384 := by rw [mScan, if_pos hbig]
    have hm' := hide hm; clear hm
    have hbig' : (16384 : Int) < bs.length := by omega
    go_enter Tryd.func15, Tryd.ntmps15
    go_wp2_with fail
    go_ret3
    rw [hm'.out]
    exact ⟨rfl, Below.refl _ _⟩
  · have hm : mScan bs = mScanR 0 bs := by rw [mScan, if_neg hbig]
    have hm' := hide hm; clear hm
    have hbig' : (bs.length : Int) ≤ 16384 := by omega
    go_enter Tryd.func15, Tryd.ntmps15
    have h0 := lexSkip_any A c 0 bs w hb (by omega) (by omega)
    rw [show ((0 : Nat) : Int) = 0 from rfl] at h0
    have h0' := hide h0; clear h0
    go_wp2_with (go_at_call 29; refine (Calls.mono h0'.out ?_); rintro e w' ⟨rfl, rfl⟩)
    go_loopw [2, 5] (fun l i wr => ∃ (k : Nat) (ts : List Tok) (A' : Option Addr) (c' : Nat), k ≤ bs.length ∧ i = .int .i64 k ∧ mSkip false (bs.drop k) = bs.drop k ∧ ts.length ≤ k ∧ l = .slice A' ts.length c' ∧ OwnT wr w.heap.size A' c' ts ∧ mScanR 0 bs = pre ts (mScanR k (bs.drop k)) ∧ Below w.heap.size w wr) (fun _ i _ => bs.length - (intOf i).toNat)
    case atStart =>
      refine ⟨_, [], none, 0, by omega, rfl, ?_, by simp, rfl, OwnG.nil _ _, ?_, Below.refl _ _⟩
      · have h := mSkip_drop false bs
        rw [h, mSkip_idem]
      · rw [pre_nil]
        exact mScanR_skip bs 0 (by omega)
    case round =>
      obtain ⟨k, ts, A', c', hk, rfl, hsk, htk, rfl, hown, he, hbl⟩ := hrel
      have he' := hide he; have hsk' := hide hsk; clear he hsk
      have hsz := hbl.size
      have hrd : RdB wr A bs := hb.below hbl
      by_cases hlt : k < bs.length
      · obtain ⟨ad, x, rfl, hc, hd⟩ := hrd.at hlt
        have hd' := hide hd; clear hd
        have hc' : ∀ o, (wr.alloc o).cell? (ad.add k) = some (.int .u8 (x.toNat : Int)) := fun o => by
          rw [World.cell?_alloc_lt wr o _ (World.block_lt_of_cell? wr _ hc)]
          exact hc
        clear hc
        have hne0 : bs.drop k ≠ [] := by rw [hd'.out]; simp
        have hclass : (∃ F : Nat, isSmall x = true ∧ F = 31 ∧ ∀ o, Calls Tryd.prog F #[.slice (some ad) bs.length c, .int .i64 k] (wr.alloc o) fun e w' => LexRes (mTok (bs.drop k)) k e ∧ Below (wr.alloc o).heap.size (wr.alloc o) w') ∨
            (∃ F : Nat, isSmall x = false ∧ isDig x = true ∧ F = 33 ∧ ∀ o, Calls Tryd.prog F #[.slice (some ad) bs.length c, .int .i64 k] (wr.alloc o) fun e w' => LexRes (mTok (bs.drop k)) k e ∧ Below (wr.alloc o).heap.size (wr.alloc o) w') ∨
            (∃ F : Nat, isSmall x = false ∧ isDig x = false ∧ ((x.toNat : Int) == 126) = true ∧ F = 33 ∧ ∀ o, Calls Tryd.prog F #[.slice (some ad) bs.length c, .int .i64 k] (wr.alloc o) fun e w' => LexRes (mTok (bs.drop k)) k e ∧ Below (wr.alloc o).heap.size (wr.alloc o) w') ∨
            (∃ F : Nat, isSmall x = false ∧ isDig x = false ∧ ((x.toNat : Int) == 126) = false ∧ ((x.toNat : Int) == 34) = true ∧ F = 34 ∧ ∀ o, Calls Tryd.prog F #[.slice (some ad) bs.length c, .int .i64 k] (wr.alloc o) fun e w' => LexRes (mTok (bs.drop k)) k e ∧ Below (wr.alloc o).heap.size (wr.alloc o) w') ∨
            (∃ F : Nat, isSmall x = false ∧ isDig x = false ∧ ((x.toNat : Int) == 126) = false ∧ ((x.toNat : Int) == 34) = false ∧ F = 35 ∧ ∀ o, Calls Tryd.prog F #[.slice (some ad) bs.length c, .int .i64 k] (wr.alloc o) fun e w' => LexRes (mTok (bs.drop k)) k e ∧ Below (wr.alloc o).heap.size (wr.alloc o) w') := by
          cases h1 : isSmall x
          · cases h2 : isDig x
            · by_cases h3 : x.toNat = 126
              · refine .inr (.inr (.inl ⟨_, rfl, rfl, by rw [beq_iff_eq]; omega, rfl, fun o => ?_⟩))
                rw [hd'.out, mTok_num h1 (.inr h3)]
                exact lexNumber_any _ c k bs _ (hrd.alloc o) hlt hcap (by omega) x _ hd'.out
              · by_cases h4 : x.toNat = 34
                · have hx34 : x = 34 := UInt8.toNat_inj.1 h4
                  refine .inr (.inr (.inr (.inl ⟨_, rfl, rfl, by rw [beq_eq_false_iff_ne]; omega, by rw [beq_iff_eq]; omega, rfl, fun o => ?_⟩)))
                  have hd2 := hd'.out
                  rw [hx34] at hd2
                  rw [hd2, mTok_text]
                  exact lexText_any _ c k bs _ (hrd.alloc o) hlt hcap (by omega) _ hd2
                · refine .inr (.inr (.inr (.inr ⟨_, rfl, rfl, by rw [beq_eq_false_iff_ne]; omega, by rw [beq_eq_false_iff_ne]; omega, rfl, fun o => ?_⟩)))
                  rw [hd'.out, mTok_sign h1 h2 h3 h4]
                  exact lexSign_any _ c k bs _ (hrd.alloc o) hlt hcap (by omega) x _ hd'.out
            · refine .inr (.inl ⟨_, rfl, rfl, rfl, fun o => ?_⟩)
              rw [hd'.out, mTok_num h1 (.inl h2)]
              exact lexNumber_any _ c k bs _ (hrd.alloc o) hlt hcap (by omega) x _ hd'.out
          · refine .inl ⟨_, rfl, rfl, fun o => ?_⟩
            rw [hd'.out, mTok_small h1]
            exact lexNamed_any _ c k bs _ (hrd.alloc o) hlt hcap (by omega) x _ hd'.out
        go_upto_block 2 with fail
        go_cut [7] (fun s7 wc => s7 = .bool (mTok (bs.drop k)).isSome ∧ CutTok (mTok (bs.drop k)) k wr wc)
        case first =>
          rcases hclass with ⟨F, f1, rfl, hcon⟩ | ⟨F, f1, f2, rfl, hcon⟩ | ⟨F, f1, f2, f3, rfl, hcon⟩ | ⟨F, f1, f2, f3, f4, rfl, hcon⟩ | ⟨F, f1, f2, f3, f4, rfl, hcon⟩
          all_goals
            have hcon' := hide hcon; clear hcon
            go_wp2_with (first | (go_at_call 30; with_reducible refine (lexSmall_any x _).mono ?_; rintro e w' ⟨rfl, rfl⟩) | (go_at_call 32; with_reducible refine (lexDigit_any x _).mono ?_; rintro e w' ⟨rfl, rfl⟩))
            refine (Calls.mono (hcon'.out _) ?_)
            rintro e w1 ⟨⟨kk, a, b, s, n, rfl, hres⟩, hbl1⟩
            obtain ⟨z1, z2, z3, z4⟩ := kept_cells hbl1
            clear hbl1
            have hres' := hide hres; clear hres
            go_wp2_with fail
            go_meet
            exact ⟨rfl, CutTok.mk z1 rfl z3 z4 hres'.out⟩
        case rest =>
          obtain ⟨rfl, hct⟩ := hcut
          obtain ⟨kk, a, b, s, n, c0, c1, c2, c3, c4, hres, hbl1, hlt1⟩ := hct
          have hbw : Below w.heap.size w wc := hbl.trans (hbl1.mono hsz)
          clear hclass hc'
          cases hmt : mTok (bs.drop k) with
          | none =>
            have hend : mScanR 0 bs = .error k := by
              rw [he'.out, mScanR_none _ _ (by rw [hsk'.out]; exact hne0) (by rw [hsk'.out]; exact hmt), hsk'.out, Nat.sub_self]
              rfl
            have hend' := hide hend; clear hend hres hmt
            go_wp2_with fail
            go_ret3
            refine ⟨?_, hbw⟩
            rw [hm'.out, hend'.out]
            rfl
          | some p =>
            obtain ⟨t, len⟩ := p
            obtain ⟨hn1, hn2⟩ := mTok_len hmt
            rw [List.length_drop] at hn2
            have hstep : mScanR 0 bs = pre (ts ++ [t.at k (k + len)]) (mScanR (k + len) (bs.drop (k + len))) := by
              rw [he'.out, mScanR_some _ _ (by rw [hsk'.out]; exact hne0) (by rw [hsk'.out]; exact hmt), hsk'.out, Nat.sub_self, Nat.add_zero, pre_pre, List.drop_drop]
            have hstep' := hide hstep; clear hstep
            obtain ⟨rfl, rfl, rfl, rfl, rfl⟩ := hres t len hmt
            have hres' := hide hres; clear hres hmt
            have hownc : OwnT wc w.heap.size A' c' ts := hown.keep hbl1
            have hlast := hown.at
            go_wp2_with (at_builtin; refine wpList_appG rowTok rfl (.tmp 65) (.tmp 67) rfl w.heap.size A' c' ts rfl (hownc.alloc _) ⟨wc.heap.size, 0, none⟩ 1 1 [t.at k (k + len)] rfl rfl (newsG wc [t.at k (k + len)] _) (by omega) (by omega) (by simp; omega) ?_; intro A2 c3' w2 ts2 ht2 hown2 hB2 hg2; have ht2' := hide ht2; clear ht2; have hz2 : w2.cell? ⟨wr.heap.size, 2, none⟩ = some (.int .i64 ((k + len : Nat) : Int)) := World.grownBy.cell hg2 (by rw [World.cell?_alloc_lt _ _ _ hlt1]; exact c2) (fun e => absurd (hlast _ e.symm).2 (Nat.lt_irrefl _)); rw [Int.natCast_add] at hz2)
            have hrd2 : RdB w2 (some ad) bs := hb.below (hbw.trans (((Below.refl _ _).alloc hbw.size _).trans hB2))
            have hs := lexSkip_any (some ad) c (k + len) bs w2 hrd2 (by omega) (by omega)
            rw [Int.natCast_add] at hs
            have hs' := hide hs; clear hs
            go_wp2_with (go_at_call 29; refine (Calls.mono hs'.out ?_); rintro e w' ⟨rfl, rfl⟩)
            have hbw2 : Below w.heap.size w w2 := hbw.trans (((Below.refl _ _).alloc hbw.size _).trans hB2)
            go_roundw
            case rel =>
              have hle := mSkip_le false (bs.drop (k + len))
              rw [List.length_drop] at hle
              refine ⟨_, ts2, A2, c3', by omega, rfl, ?_, ?_, rfl, hown2, ?_, hbw2⟩
              · rw [skip_drop bs (k + len) (by omega), mSkip_idem]
              · rw [ht2'.out, List.length_append, List.length_singleton]; omega
              · rw [hstep'.out, ht2'.out, ← mScanR_skip bs (k + len) (by omega)]
            case measure =>
              have hle := mSkip_le false (bs.drop (k + len))
              rw [List.length_drop] at hle
              simp [intOf]; omega
      · have hkl : k = bs.length := by omega
        have hlt' : (bs.length : Int) ≤ k := by omega
        have hkl' := hide hkl; clear hkl
        go_wp2_with fail
        go_ret3
        refine ⟨?_, hbl⟩
        rw [hm'.out, he'.out, mScanR_nil _ _ (by rw [List.drop_eq_nil_of_le (by omega)]; rfl)]
        simp only [pre, List.append_nil]
        exact ⟨A', c', rfl, hown⟩

end Go.Proofs.YtoadmjnaakbljaaDoor
