/- Walks: one token, by the program. -/
import Derived.Test.YtoadmjnaakbljaaDoorLexW5
import Derived.Deep.DeepCutAuto
import Derived.Deep.CutBlock
import Derived.StillTailTactics
namespace Go.Proofs.YtoadmjnaakbljaaDoor
open Go Go.RowKit

set_option maxHeartbeats 1000000
set_option maxRecDepth 100000

/-- a part of a row of bytes -/
theorem RdB.sub {w : World} {ad : Addr} {bs : List UInt8} (h : RdB w (some ad) bs) (i m : Nat) : RdB w (some (ad.add i)) ((bs.drop i).take m) := by
  intro j hj
  rw [List.length_take, List.length_drop] at hj
  obtain ⟨ad', hA, hc⟩ := h (i + j) (by omega)
  cases hA
  refine ⟨_, rfl, ?_⟩
  rw [add_of_add, hc]
  simp
theorem RdB.alloc {w : World} {A : Option Addr} {bs : List UInt8} (h : RdB w A bs) (o : Obj) : RdB (w.alloc o) A bs := h.below ((Below.refl _ _).alloc (Nat.le_refl _) _)
theorem RdB.some_ {w : World} {A : Option Addr} {bs : List UInt8} (h : RdB w A bs) {i : Nat} (hi : i < bs.length) : ∃ ad, A = some ad := by
  obtain ⟨ad, hA, _⟩ := h i hi
  exact ⟨ad, hA⟩
theorem take_step {bs : List UInt8} {i k : Nat} {y : UInt8} (hik : i ≤ k) (hd : bs.drop k = y :: bs.drop (k + 1)) : (bs.drop i).take (k + 1 - i) = (bs.drop i).take (k - i) ++ [y] := by
  have e : (bs.drop i).drop (k - i) = y :: bs.drop (k + 1) := by rw [List.drop_drop, ← hd]; congr 1; omega
  have e2 : k + 1 - i = (k - i) + 1 := by omega
  rw [e2, List.take_add, e]
  simp

/-- a token's value -/
abbrev tokV (k a b : Int) (s : List UInt8) (n : Int) : Value := .agg #[.int .i64 k, .int .i64 a, .int .i64 b, str s, .int .i64 n]
/-- what reading one token gives: the token, if there is one -/
def LexRes (m : Option (BTok × Nat)) (i : Nat) (e : Ending) : Prop :=
  ∃ (k a b : Int) (s : List UInt8) (n : Int), e = .returned (.tuple #[tokV k a b s n, .bool m.isSome]) ∧ ∀ t len, m = some (t, len) → k = t.k ∧ a = i ∧ b = (i + len : Nat) ∧ s = t.s ∧ n = t.n

theorem still_left {P : Program} {f : FuncId} {args : Array Value} {w : World} {v : Value} (h : Calls P f args w fun e w' => e = .returned v ∧ w = w') :
    Calls P f args w fun e w' => e = .returned v ∧ w' = w := h.mono fun _ _ ⟨he, hm⟩ => ⟨he, hm.symm⟩
/-- a block that the caller made, behind a call that leaves what there was -/
theorem kept_cells {w w1 : World} {cs : Array Value} {T : TypeId} (h : Below (w.alloc (.cells cs T)).heap.size (w.alloc (.cells cs T)) w1) :
    (∀ j, w1.cell? ⟨w.heap.size, j, none⟩ = cs[j]?) ∧ (∀ j, w1.frozen? ⟨w.heap.size, j, none⟩ = false) ∧ w.heap.size < w1.heap.size ∧ Below w.heap.size w w1 := by
  have hlt : w.heap.size < (w.alloc (.cells cs T)).heap.size := by simp
  refine ⟨fun j => ?_, fun j => ?_, ?_, ((Below.refl _ _).alloc (Nat.le_refl _) _).trans (h.mono (by simp))⟩
  · rw [h.cell (p := ⟨w.heap.size, j, none⟩) hlt]
    exact cell_of_row _ w.heap.size j cs T (0, 0) (heap_alloc_new w _)
  · rw [h.frozen (p := ⟨w.heap.size, j, none⟩) hlt]
    unfold World.frozen?
    rw [heap_alloc_new]
    simp
  · have := h.size
    simp at this
    omega

theorem span_cases {w : World} {ad : Addr} {bs : List UInt8} (hb : RdB w (some ad) bs) (k : Nat) (p : UInt8 → Bool) :
    (∃ y, k < bs.length ∧ (∀ o, (w.alloc o).cell? (ad.add k) = some (.int .u8 (y.toNat : Int))) ∧ Hid (bs.drop k = y :: bs.drop (k + 1)) ∧ Hid (p y = true)) ∨
    (∃ y, k < bs.length ∧ (∀ o, (w.alloc o).cell? (ad.add k) = some (.int .u8 (y.toNat : Int))) ∧ Hid (bs.drop k = y :: bs.drop (k + 1)) ∧ Hid (p y = false) ∧ Hid ((bs.drop k).takeWhile p = [])) ∨
    (bs.length ≤ k ∧ Hid ((bs.drop k).takeWhile p = [])) := by
  by_cases hlt : k < bs.length
  · obtain ⟨ad', y, hA, hc, hdy⟩ := hb.at hlt
    cases hA
    have hc' : ∀ o, (w.alloc o).cell? (ad.add k) = some (.int .u8 (y.toNat : Int)) := fun o => by
      rw [World.cell?_alloc_lt w o _ (World.block_lt_of_cell? w _ hc)]
      exact hc
    cases hp : p y
    · exact .inr (.inl ⟨y, hlt, hc', hide hdy, hide hp, hide (by rw [hdy]; simp [hp])⟩)
    · exact .inl ⟨y, hlt, hc', hide hdy, hide hp⟩
  · exact .inr (.inr ⟨by omega, hide (by rw [List.drop_eq_nil_of_le (by omega)]; rfl)⟩)

/-- the read part of a row as a text -/
theorem conv_sub {w : World} {ad : Addr} {bs : List UInt8} (hb : RdB w (some ad) bs) (i m d : Nat) (hm : i + m ≤ bs.length) :
    ∃ s, s = (bs.drop i).take m ∧ s.length = m ∧ ∀ o, (convert 25 9 (.slice (some (ad.add i)) m d)).run Tryd.prog (w.alloc o) = .ok (str s) (w.alloc o) := by
  refine ⟨_, rfl, by simp; omega, fun o => ?_⟩
  exact run_conv ((hb.alloc o).sub i m) (by simp; omega) Tryd.underlying25 Tryd.underlying5 Tryd.underlying9

theorem mWord_key {s : List UInt8} (h : mKey s = true) : mWord s = some (⟨2, s, 0⟩, s.length) := by rw [mWord, if_pos h]
theorem mWord_name {s : List UInt8} (h : mKey s = false) (h2 : mName s = true) : mWord s = some (⟨1, s, 0⟩, s.length) := by rw [mWord, if_neg (by simp [h]), if_pos h2]
theorem mWord_none {s : List UInt8} (h : mKey s = false) (h2 : mName s = false) : mWord s = none := by rw [mWord, if_neg (by simp [h]), if_neg (by simp [h2])]

theorem LexRes.mk_some {m : Option (BTok × Nat)} {t : BTok} {len : Nat} (h : m = some (t, len)) (i : Nat) : LexRes m i (.returned (.tuple #[tokV t.k i (i + len : Nat) t.s t.n, .bool true])) := by
  subst h
  refine ⟨_, _, _, _, _, rfl, ?_⟩
  intro t' len' h
  cases h
  exact ⟨rfl, rfl, rfl, rfl, rfl⟩
theorem LexRes.mk_none {m : Option (BTok × Nat)} (h : m = none) (i : Nat) (k a b : Int) (s : List UInt8) (n : Int) : LexRes m i (.returned (.tuple #[tokV k a b s n, .bool false])) := by
  subst h
  refine ⟨_, _, _, _, _, rfl, ?_⟩
  intro t' len' h
  cases h

theorem LexRes.mk_if {m : Option (BTok × Nat)} {t : BTok} {len : Nat} {b : Bool} (h : m = if b then some (t, len) else none) (i : Nat) : LexRes m i (.returned (.tuple #[tokV t.k i (i + len : Nat) t.s t.n, .bool b])) := by
  cases b
  · exact LexRes.mk_none h _ _ _ _ _ _
  · exact LexRes.mk_some h i

theorem lexNamed_any (A : Option Addr) (c i : Nat) (bs : List UInt8) (w : World) (hb : RdB w A bs) (hi : i < bs.length) (hcap : bs.length ≤ c) (hmax : bs.length ≤ 1000000) (x : UInt8) (r : List UInt8) (hx : bs.drop i = x :: r) :
    Calls Tryd.prog 31 #[.slice A bs.length c, .int .i64 i] w fun e w' => LexRes (mWord (x :: r.takeWhile isPart)) i e ∧ Below w.heap.size w w' := by
  obtain ⟨ad, rfl⟩ := hb.some_ hi
  have hne : ¬ c = i := by omega
  have hx' := hide hx; clear hx
  have hr : r = bs.drop (i + 1) := by
    have := hx'.out
    rw [List.drop_eq_getElem_cons hi] at this
    injection this with _ h
    exact h.symm
  have hr' := hide hr; clear hr
  go_enter Tryd.func31, Tryd.ntmps31
  go_wp2_with fail
  go_loop [6] (fun j => ∃ k : Nat, i < k ∧ k ≤ bs.length ∧ j = .int .i64 k ∧ x :: r.takeWhile isPart = (bs.drop i).take (k - i) ++ (bs.drop k).takeWhile isPart) (fun j => bs.length - (intOf j).toNat)
  case atStart =>
    refine ⟨i + 1, by omega, by omega, by go_num, ?_⟩
    rw [hx'.out, hr'.out, show i + 1 - i = 1 by omega]
    rfl
  case round =>
    obtain ⟨k, hik, hk, rfl, he⟩ := hrel
    have he' := hide he; clear he
    rcases span_cases hb k isPart with ⟨y, hlt, hc', hdy', hp'⟩ | ⟨y, hlt, hc', hdy', hp', hq⟩ | ⟨hge, hq⟩
    · go_wp2_with (go_at_call 42; with_reducible refine (lexBelongs_any y _).mono ?_; rintro e w' ⟨rfl, rfl⟩; rw [hp'.out])
      go_round
      case rel =>
        refine ⟨k + 1, by omega, by omega, by go_num, ?_⟩
        rw [he'.out, take_step (by omega) hdy'.out, hdy'.out]
        simp [hp'.out]
      case measure => simp [intOf]; omega
    all_goals
      obtain ⟨s, hs, hl, hcv⟩ := conv_sub hb i (k - i) (c - i) (by omega)
      have hw : x :: r.takeWhile isPart = s := by rw [he'.out, hq.out, List.append_nil, hs]
      have hw' := hide hw; have hl' := hide hl; have hs' := hide hs
      clear hw hs hl
      have hsl : s.length ≤ 1000000 := by have := hl'.out; omega
      cases hkey : mKey s
      · have hkey' := hide hkey; clear hkey
        have hcall := fun W => still_left (wordName_any s W (by omega))
        go_wp2_with (first | (go_at_call 42; with_reducible refine (lexBelongs_any y _).mono ?_; rintro e w' ⟨rfl, rfl⟩; rw [hp'.out]) | (go_at_call 43; with_reducible refine (wordKey_any s _).mono ?_; rintro e w' ⟨rfl, rfl⟩; rw [hkey'.out]))
        refine wp_region_still_tail 4 (by kernel_rfl) (by kernel_rfl) ?_
        simp only [List.take_succ_cons, List.take_zero, List.drop_succ_cons, List.drop_zero]
        change wpStill _ _ (World.drew _) _ _ _
        repeat still_step
        still_call (hcall _)
        refine wpStill_nil ?_
        change wpList _ _ _ _ _ (World.drew _)
        go_wp2_with fail
        obtain rfl : k = i + s.length := by have := hl'.out; omega
        exact bodyPost_ret (v := .tuple #[tokV 1 i (i + s.length : Nat) s 0, .bool (mName s)]) (by simp [results, Tryd.results31, go_sem]) rfl ⟨LexRes.mk_if (t := ⟨1, s, 0⟩) (by rw [hw'.out, mWord, hkey'.out]; rfl) _, by go_grown⟩
      · have hkey' := hide hkey; clear hkey
        go_wp2_with (first | (go_at_call 42; with_reducible refine (lexBelongs_any y _).mono ?_; rintro e w' ⟨rfl, rfl⟩; rw [hp'.out]) | (go_at_call 43; with_reducible refine (wordKey_any s _).mono ?_; rintro e w' ⟨rfl, rfl⟩; rw [hkey'.out]))
        obtain rfl : k = i + s.length := by have := hl'.out; omega
        exact bodyPost_ret (v := .tuple #[tokV 2 i (i + s.length : Nat) s 0, .bool true]) (by simp [results, Tryd.results31, go_sem]) rfl ⟨LexRes.mk_some (t := ⟨2, s, 0⟩) (by rw [hw'.out]; exact mWord_key hkey'.out) _, by go_grown⟩

theorem lexNumber_any (A : Option Addr) (c i : Nat) (bs : List UInt8) (w : World) (hb : RdB w A bs) (hi : i < bs.length) (hcap : bs.length ≤ c) (hmax : bs.length ≤ 1000000) (x : UInt8) (r : List UInt8) (hx : bs.drop i = x :: r) :
    Calls Tryd.prog 33 #[.slice A bs.length c, .int .i64 i] w fun e w' => LexRes (mNumber (x :: r.takeWhile isDig)) i e ∧ Below w.heap.size w w' := by
  obtain ⟨ad, rfl⟩ := hb.some_ hi
  have hne : ¬ c = i := by omega
  have hx' := hide hx; clear hx
  have hr : r = bs.drop (i + 1) := by
    have := hx'.out
    rw [List.drop_eq_getElem_cons hi] at this
    injection this with _ h
    exact h.symm
  have hr' := hide hr; clear hr
  go_enter Tryd.func33, Tryd.ntmps33
  go_wp2_with fail
  go_loop [6] (fun j => ∃ k : Nat, i < k ∧ k ≤ bs.length ∧ j = .int .i64 k ∧ x :: r.takeWhile isDig = (bs.drop i).take (k - i) ++ (bs.drop k).takeWhile isDig) (fun j => bs.length - (intOf j).toNat)
  case atStart =>
    refine ⟨i + 1, by omega, by omega, by go_num, ?_⟩
    rw [hx'.out, hr'.out, show i + 1 - i = 1 by omega]
    rfl
  case round =>
    obtain ⟨k, hik, hk, rfl, he⟩ := hrel
    have he' := hide he; clear he
    rcases span_cases hb k isDig with ⟨y, hlt, hc', hdy', hp'⟩ | ⟨y, hlt, hc', hdy', hp', hq⟩ | ⟨hge, hq⟩
    · go_wp2_with (go_at_call 32; with_reducible refine (lexDigit_any y _).mono ?_; rintro e w' ⟨rfl, rfl⟩; rw [hp'.out])
      go_round
      case rel =>
        refine ⟨k + 1, by omega, by omega, by go_num, ?_⟩
        rw [he'.out, take_step (by omega) hdy'.out, hdy'.out]
        simp [hp'.out]
      case measure => simp [intOf]; omega
    all_goals
      obtain ⟨s, hs, hl, hcv⟩ := conv_sub hb i (k - i) (c - i) (by omega)
      have hw : x :: r.takeWhile isDig = s := by rw [he'.out, hq.out, List.append_nil, hs]
      have hw' := hide hw; have hl' := hide hl; have hs' := hide hs
      clear hw hs hl
      have hsl : s.length ≤ 1000000 := by have := hl'.out; omega
      cases hpn : mParseNum s with
      | none =>
        have hpn' := hide hpn; clear hpn
        go_wp2_with (first | (go_at_call 32; with_reducible refine (lexDigit_any y _).mono ?_; rintro e w' ⟨rfl, rfl⟩; rw [hp'.out]) | (go_at_call 45; with_reducible refine (wordParseNum_any s _ (by omega)).mono ?_; rintro e w' ⟨rfl, rfl⟩; rw [(numVE_none hpn'.out).1, (numVE_none hpn'.out).2]))
        obtain rfl : k = i + s.length := by have := hl'.out; omega
        exact bodyPost_ret (v := .tuple #[tokV 3 i (i + s.length : Nat) [] 0, .bool false]) (by simp [results, Tryd.results33, go_sem]) rfl ⟨LexRes.mk_none (by rw [hw'.out, mNumber, hpn'.out]) _ _ _ _ _ _, by go_grown⟩
      | some n =>
        have hpn' := hide hpn; clear hpn
        go_wp2_with (first | (go_at_call 32; with_reducible refine (lexDigit_any y _).mono ?_; rintro e w' ⟨rfl, rfl⟩; rw [hp'.out]) | (go_at_call 45; with_reducible refine (wordParseNum_any s _ (by omega)).mono ?_; rintro e w' ⟨rfl, rfl⟩; rw [(numVE_some hpn'.out).1, (numVE_some hpn'.out).2]))
        obtain rfl : k = i + s.length := by have := hl'.out; omega
        exact bodyPost_ret (v := .tuple #[tokV 3 i (i + s.length : Nat) [] n, .bool true]) (by simp [results, Tryd.results33, go_sem]) rfl ⟨LexRes.mk_some (t := ⟨3, [], n⟩) (len := s.length) (by rw [hw'.out, mNumber, hpn'.out]) _, by go_grown⟩

/-- a byte other than the quote -/
def notQ (x : UInt8) : Bool := x.toNat != 34
theorem lexText_any (A : Option Addr) (c i : Nat) (bs : List UInt8) (w : World) (hb : RdB w A bs) (hi : i < bs.length) (hcap : bs.length ≤ c) (hmax : bs.length ≤ 1000000) (r : List UInt8) (hx : bs.drop i = 34 :: r) :
    Calls Tryd.prog 34 #[.slice A bs.length c, .int .i64 i] w fun e w' => LexRes (mText r) i e ∧ Below w.heap.size w w' := by
  obtain ⟨ad, rfl⟩ := hb.some_ hi
  have hne : ¬ c = i := by omega
  have hx' := hide hx; clear hx
  have hr : r = bs.drop (i + 1) := by
    have := hx'.out
    rw [List.drop_eq_getElem_cons hi] at this
    injection this with _ h
    exact h.symm
  have hr' := hide hr; clear hr
  go_enter Tryd.func34, Tryd.ntmps34
  go_wp2_with fail
  go_loop [6] (fun j => ∃ k : Nat, i < k ∧ k ≤ bs.length ∧ j = .int .i64 k ∧ r.takeWhile notQ = (bs.drop (i + 1)).take (k - (i + 1)) ++ (bs.drop k).takeWhile notQ) (fun j => bs.length - (intOf j).toNat)
  case atStart =>
    refine ⟨i + 1, by omega, by omega, by go_num, ?_⟩
    rw [hr'.out, Nat.sub_self]
    rfl
  case round =>
    obtain ⟨k, hik, hk, rfl, he⟩ := hrel
    have he' := hide he; clear he
    rcases span_cases hb k notQ with ⟨y, hlt, hc', hdy', hp'⟩ | ⟨y, hlt, hc', hdy', hp', hq⟩ | ⟨hge, hq⟩
    · have hy : ((y.toNat : Int) != 34) = true := by
        have := hp'.out
        simp only [notQ, bne_iff_ne] at *
        omega
      go_wp2_with fail
      go_round
      case rel =>
        refine ⟨k + 1, by omega, by omega, by go_num, ?_⟩
        rw [he'.out, take_step (by omega) hdy'.out, hdy'.out]
        simp [hp'.out]
      case measure => simp [intOf]; omega
    · have hy : ((y.toNat : Int) != 34) = false := by
        have := hp'.out
        simp only [notQ, bne_eq_false_iff_eq] at *
        omega
      have hkn : ((k : Int) == (bs.length : Int)) = false := by rw [beq_eq_false_iff_ne]; omega
      obtain ⟨s, hs, hl, hcv⟩ := conv_sub hb i (k + 1 - i) (c - i) (by omega)
      have hy34 : y = 34 := by
        have := hp'.out
        simp only [notQ, bne_eq_false_iff_eq] at this
        exact UInt8.toNat_inj.1 this
      have hbody : r.takeWhile notQ = (bs.drop (i + 1)).take (k - (i + 1)) := by rw [he'.out, hq.out, List.append_nil]
      have hw : 34 :: (r.takeWhile notQ ++ [34]) = s := by
        rw [hs, take_step (by omega) hdy'.out, hy34, hbody, ← List.cons_append]
        congr 1
        have e : bs.drop i = 34 :: bs.drop (i + 1) := by rw [hx'.out, hr'.out]
        rw [e, show k - i = (k - (i + 1)) + 1 by omega]
        rfl
      have hlen : (r.takeWhile notQ).length + 2 = s.length := by rw [← hw]; simp
      have hlt2 : (r.takeWhile notQ).length < r.length := by
        rw [hbody, hr'.out]
        simp
        omega
      have hw' := hide hw; have hl' := hide hl; have hs' := hide hs; have hlen' := hide hlen; have hlt2' := hide hlt2
      clear hw hs hl hlen hlt2 hbody hy34
      have hsl : s.length ≤ 1000000 := by have := hl'.out; omega
      have hsl' := hide hsl
      have hk1 : ((k : Int) + 1) = ((i + s.length : Nat) : Int) := by have := hl'.out; omega
      have hk1' := hide hk1; clear hk1
      have hmt : mText r = match mUnquote s with | some t => some (⟨4, t, 0⟩, s.length) | none => none := by
        have e : mText r = if (r.takeWhile notQ).length < r.length then (match mUnquote (34 :: (r.takeWhile notQ ++ [34])) with | some t => some (⟨4, t, 0⟩, (r.takeWhile notQ).length + 2) | none => none) else none := rfl
        rw [e, if_pos hlt2'.out, hw'.out, hlen'.out]
      have hmt' := hide hmt; clear hmt
      cases hpn : mUnquote s with
      | none =>
        have hpn' := hide hpn; clear hpn
        go_wp2_with (go_at_call 46; with_reducible refine (wordUnquote_any s _ (by omega)).mono ?_; rintro e w1 ⟨rfl, hbl⟩; rw [(unqVE_none hpn'.out).1, (unqVE_none hpn'.out).2]; obtain ⟨z1, z2, z3, z4⟩ := kept_cells hbl; clear hbl)
        refine bodyPost_ret (v := .tuple #[tokV 4 i ((k : Int) + 1) [] 0, .bool false]) (by simp [results, Tryd.results34, go_sem, z1]) rfl ⟨?_, ?_⟩
        · exact LexRes.mk_none (by rw [hmt'.out, hpn'.out]) _ _ _ _ _ _
        · go_grown
      | some n =>
        have hpn' := hide hpn; clear hpn
        go_wp2_with (go_at_call 46; with_reducible refine (wordUnquote_any s _ (by omega)).mono ?_; rintro e w1 ⟨rfl, hbl⟩; rw [(unqVE_some hpn'.out).1, (unqVE_some hpn'.out).2]; obtain ⟨z1, z2, z3, z4⟩ := kept_cells hbl; clear hbl)
        refine bodyPost_ret (v := .tuple #[tokV 4 i ((k : Int) + 1) n 0, .bool true]) (by simp [results, Tryd.results34, go_sem, z1]) rfl ⟨?_, ?_⟩
        · rw [hk1'.out]
          exact LexRes.mk_some (t := ⟨4, n, 0⟩) (by rw [hmt'.out, hpn'.out]) _
        · go_grown
    · have hkl : k = bs.length := by omega
      have hkn : ((k : Int) == (bs.length : Int)) = true := by rw [beq_iff_eq]; omega
      have hmt : mText r = none := by
        have e : mText r = if (r.takeWhile notQ).length < r.length then (match mUnquote (34 :: (r.takeWhile notQ ++ [34])) with | some t => some (⟨4, t, 0⟩, (r.takeWhile notQ).length + 2) | none => none) else none := rfl
        rw [e, if_neg]
        rw [he'.out, hq.out, hr'.out]
        simp
        omega
      have hmt' := hide hmt; clear hmt hkl
      go_wp2_with fail
      exact bodyPost_ret (v := .tuple #[tokV 0 0 0 [] 0, .bool false]) (by simp [results, Tryd.results34, go_sem]) rfl ⟨LexRes.mk_none hmt'.out _ _ _ _ _ _, by go_grown⟩

theorem oneSign_cases (x : UInt8) : (oneSign x = true ∧ (x.toNat = 40 ∨ x.toNat = 41 ∨ x.toNat = 91 ∨ x.toNat = 93 ∨ x.toNat = 44 ∨ x.toNat = 58 ∨ x.toNat = 61 ∨ x.toNat = 124 ∨ x.toNat = 43 ∨ x.toNat = 45 ∨ x.toNat = 42 ∨ x.toNat = 47 ∨ x.toNat = 60 ∨ x.toNat = 63 ∨ x.toNat = 95)) ∨
    (oneSign x = false ∧ x.toNat ≠ 40 ∧ x.toNat ≠ 41 ∧ x.toNat ≠ 91 ∧ x.toNat ≠ 93 ∧ x.toNat ≠ 44 ∧ x.toNat ≠ 58 ∧ x.toNat ≠ 61 ∧ x.toNat ≠ 124 ∧ x.toNat ≠ 43 ∧ x.toNat ≠ 45 ∧ x.toNat ≠ 42 ∧ x.toNat ≠ 47 ∧ x.toNat ≠ 60 ∧ x.toNat ≠ 63 ∧ x.toNat ≠ 95) := by
  have key : ∀ n : Fin 256, (oneSign (UInt8.ofNat n.val) = true ∧ (n.val = 40 ∨ n.val = 41 ∨ n.val = 91 ∨ n.val = 93 ∨ n.val = 44 ∨ n.val = 58 ∨ n.val = 61 ∨ n.val = 124 ∨ n.val = 43 ∨ n.val = 45 ∨ n.val = 42 ∨ n.val = 47 ∨ n.val = 60 ∨ n.val = 63 ∨ n.val = 95)) ∨
    (oneSign (UInt8.ofNat n.val) = false ∧ n.val ≠ 40 ∧ n.val ≠ 41 ∧ n.val ≠ 91 ∧ n.val ≠ 93 ∧ n.val ≠ 44 ∧ n.val ≠ 58 ∧ n.val ≠ 61 ∧ n.val ≠ 124 ∧ n.val ≠ 43 ∧ n.val ≠ 45 ∧ n.val ≠ 42 ∧ n.val ≠ 47 ∧ n.val ≠ 60 ∧ n.val ≠ 63 ∧ n.val ≠ 95) := by decide +kernel
  have := key ⟨x.toNat, x.toNat_lt⟩
  simpa using this

theorem twoSign_cases (x y : UInt8) : (twoSign x y = true ∧ ((x.toNat = 45 ∧ y.toNat = 62) ∨ (x.toNat = 58 ∧ y.toNat = 58) ∨ (x.toNat = 61 ∧ y.toNat = 61))) ∨
    (twoSign x y = false ∧ (x.toNat = 45 → y.toNat ≠ 62) ∧ (x.toNat = 58 → y.toNat ≠ 58) ∧ (x.toNat = 61 → y.toNat ≠ 61)) := by
  have e : ∀ (z : UInt8) (n : Nat) (hn : n < 256), (z == UInt8.ofNat n) = decide (z.toNat = n) := by
    intro z n hn
    rw [Bool.eq_iff_iff, beq_iff_eq, decide_eq_true_eq, ← UInt8.toNat_inj]
    simp [Nat.mod_eq_of_lt hn]
  have h : twoSign x y = ((decide (x.toNat = 45) && decide (y.toNat = 62)) || (decide (x.toNat = 58) && decide (y.toNat = 58)) || (decide (x.toNat = 61) && decide (y.toNat = 61))) := by
    rw [← e x 45 (by omega), ← e y 62 (by omega), ← e x 58 (by omega), ← e y 58 (by omega), ← e x 61 (by omega), ← e y 61 (by omega)]
    rfl
  rw [h]
  by_cases h1 : x.toNat = 45 <;> by_cases h2 : y.toNat = 62 <;> by_cases h3 : x.toNat = 58 <;> by_cases h4 : y.toNat = 58 <;> by_cases h5 : x.toNat = 61 <;> by_cases h6 : y.toNat = 61 <;> simp [h1, h2, h3, h4, h5, h6]
theorem mSign_two {x y : UInt8} {r : List UInt8} (h : twoSign x y = true) : mSign (x :: y :: r) = some (⟨5, [x, y], 0⟩, 2) := by
  have e : signLen (x :: y :: r) = 2 := by simp [signLen, h]
  rw [mSign, e]
  rfl
theorem mSign_one {x y : UInt8} {r : List UInt8} (h : twoSign x y = false) (h1 : oneSign x = true) : mSign (x :: y :: r) = some (⟨5, [x], 0⟩, 1) := by
  have e : signLen (x :: y :: r) = 1 := by simp [signLen, h, h1]
  rw [mSign, e]
  rfl
theorem mSign_last {x : UInt8} (h1 : oneSign x = true) : mSign [x] = some (⟨5, [x], 0⟩, 1) := by
  have e : signLen [x] = 1 := by simp [signLen, h1]
  rw [mSign, e]
  rfl

theorem lexSign_any (A : Option Addr) (c i : Nat) (bs : List UInt8) (w : World) (hb : RdB w A bs) (hi : i < bs.length) (hcap : bs.length ≤ c) (hmax : bs.length ≤ 1000000) (x : UInt8) (r : List UInt8) (hx : bs.drop i = x :: r) :
    Calls Tryd.prog 35 #[.slice A bs.length c, .int .i64 i] w fun e w' => LexRes (mSign (x :: r)) i e ∧ Below w.heap.size w w' := by
  obtain ⟨ad, rfl⟩ := hb.some_ hi
  have hne : ¬ c = i := by omega
  obtain ⟨ad', x', hA, hc, hdx⟩ := hb.at hi
  cases hA
  obtain rfl : x = x' := by rw [hx] at hdx; injection hdx
  have hc' : ∀ o, (w.alloc o).cell? (ad.add i) = some (.int .u8 (x.toNat : Int)) := fun o => by
    rw [World.cell?_alloc_lt w o _ (World.block_lt_of_cell? w _ hc)]
    exact hc
  clear hc hdx
  have hx' := hide hx; clear hx
  rcases oneSign_cases x with ⟨h1, h2⟩ | ⟨h1, h2⟩
  · have h1' := hide h1; have h2' := hide h2; clear h1 h2
    go_enter Tryd.func35, Tryd.ntmps35
    go_upto_block 0 with fail
    go_cut [6] (fun s6 wc => s6 = .int .i64 1 ∧ w.alloc (.cells #[.int .i64 0, .int .i64 0, .int .i64 0, str [], .int .i64 0] 54) = wc)
    case first =>
      go_wp2_with fail
      all_goals
        go_meet
        refine ⟨?_, rfl⟩
        first
          | rfl
          | (exfalso; have := h2'.out; simp only [beq_eq_false_iff_ne, ne_eq] at *; omega)
    case rest =>
      obtain ⟨rfl, rfl⟩ := hcut
      have hcase : (∃ y r', r = y :: r' ∧ i + 1 < bs.length ∧ (∀ o, (w.alloc o).cell? ⟨ad.block, ad.off + (i + 1), none⟩ = some (.int .u8 (y.toNat : Int)))) ∨ (r = [] ∧ bs.length ≤ i + 1) := by
        by_cases hl : i + 1 < bs.length
        · obtain ⟨ad', y, hA, hc, hdy⟩ := hb.at hl
          cases hA
          refine .inl ⟨y, bs.drop (i + 1 + 1), ?_, hl, fun o => ?_⟩
          · have := hx'.out
            rw [List.drop_eq_getElem_cons hi] at this
            injection this with _ h
            rw [← h, hdy]
          · have e : ad.add (i + 1) = ⟨ad.block, ad.off + (i + 1), none⟩ := by simp [Addr.add]
            rw [← e, World.cell?_alloc_lt w o _ (World.block_lt_of_cell? w _ hc)]
            exact hc
        · refine .inr ⟨?_, by omega⟩
          have := hx'.out
          rw [List.drop_eq_getElem_cons hi, List.drop_eq_nil_of_le (by omega)] at this
          injection this with _ h
          exact h.symm
      rcases hcase with ⟨y, r', hr, hl, hcy⟩ | ⟨hr, hl⟩
      · have htwo := twoSign_cases x y
        have hr' := hide hr; clear hr
        rcases htwo with ⟨h3, hh⟩ | ⟨h3, hh⟩
        · have h3' := hide h3; clear h3
          obtain ⟨s, hs, hsl, hcv⟩ := conv_sub hb i 2 (c - i) (by omega)
          have hs' := hide hs; have hsl' := hide hsl; clear hs hsl
          rcases hh with ⟨q1, q2⟩ | ⟨q1, q2⟩ | ⟨q1, q2⟩
          all_goals
            go_wp2_with fail
            exact bodyPost_ret (v := .tuple #[tokV 5 i (i + 2 : Nat) s 0, .bool true]) (by simp [results, Tryd.results35, go_sem]) rfl ⟨LexRes.mk_some (t := ⟨5, s, 0⟩) (len := 2) (by rw [hr'.out, mSign_two h3'.out, hs'.out, hx'.out, hr'.out]; rfl) _, by go_grown⟩
        · have h3' := hide h3; clear h3
          obtain ⟨s, hs, hsl, hcv⟩ := conv_sub hb i 1 (c - i) (by omega)
          have hs' := hide hs; have hsl' := hide hsl; clear hs hsl
          have hcase2 : (x.toNat = 45 ∧ ((y.toNat : Int) == 62) = false) ∨ (x.toNat = 58 ∧ ((y.toNat : Int) == 58) = false) ∨ (x.toNat = 61 ∧ ((y.toNat : Int) == 61) = false) ∨
              (((x.toNat : Int) == 45) = false ∧ ((x.toNat : Int) == 58) = false ∧ ((x.toNat : Int) == 61) = false) := by
            simp only [beq_eq_false_iff_ne, ne_eq]
            omega
          clear hh
          rcases hcase2 with ⟨q1, q2⟩ | ⟨q1, q2⟩ | ⟨q1, q2⟩ | ⟨q1, q2, q3⟩
          all_goals
            go_wp2_with fail
            exact bodyPost_ret (v := .tuple #[tokV 5 i (i + 1 : Nat) s 0, .bool true]) (by simp [results, Tryd.results35, go_sem]) rfl ⟨LexRes.mk_some (t := ⟨5, s, 0⟩) (len := 1) (by rw [hr'.out, mSign_one h3'.out h1'.out, hs'.out, hx'.out, hr'.out]; rfl) _, by go_grown⟩
      · obtain ⟨s, hs, hsl, hcv⟩ := conv_sub hb i 1 (c - i) (by omega)
        have hs' := hide hs; have hsl' := hide hsl; have hr' := hide hr; clear hs hsl hr
        have hl' : (bs.length : Int) ≤ i + 1 := by omega
        go_wp2_with fail
        exact bodyPost_ret (v := .tuple #[tokV 5 i (i + 1 : Nat) s 0, .bool true]) (by simp [results, Tryd.results35, go_sem]) rfl ⟨LexRes.mk_some (t := ⟨5, s, 0⟩) (len := 1) (by rw [hr'.out, mSign_last h1'.out, hs'.out, hx'.out, hr'.out]; rfl) _, by go_grown⟩
  · have hm : mSign (x :: r) = none := by
      have hnot : ∀ y, twoSign x y = false := fun y => by
        rcases twoSign_cases x y with ⟨_, hh⟩ | ⟨h3, _⟩
        · exfalso; omega
        · exact h3
      have e : signLen (x :: r) = 0 := by
        cases r with
        | nil => simp [signLen, h1]
        | cons y r' => simp [signLen, h1, hnot]
      rw [mSign, if_pos e]
    have hm' := hide hm; clear hm
    obtain ⟨s, hs, hsl, hcv⟩ := conv_sub hb i 0 (c - i) (by omega)
    have hs' : Hid (s = []) := hide (by rw [hs]; rfl)
    clear hs hsl h1
    obtain ⟨p1, p2, p3, p4, p5, p6, p7, p8, p9, p10, p11, p12, p13, p14, p15⟩ := h2
    have g1 : ((x.toNat : Int) == 40) = false := by rw [beq_eq_false_iff_ne]; omega
    have g2 : ((x.toNat : Int) == 41) = false := by rw [beq_eq_false_iff_ne]; omega
    have g3 : ((x.toNat : Int) == 91) = false := by rw [beq_eq_false_iff_ne]; omega
    have g4 : ((x.toNat : Int) == 93) = false := by rw [beq_eq_false_iff_ne]; omega
    have g5 : ((x.toNat : Int) == 44) = false := by rw [beq_eq_false_iff_ne]; omega
    have g6 : ((x.toNat : Int) == 58) = false := by rw [beq_eq_false_iff_ne]; omega
    have g7 : ((x.toNat : Int) == 61) = false := by rw [beq_eq_false_iff_ne]; omega
    have g8 : ((x.toNat : Int) == 124) = false := by rw [beq_eq_false_iff_ne]; omega
    have g9 : ((x.toNat : Int) == 43) = false := by rw [beq_eq_false_iff_ne]; omega
    have g10 : ((x.toNat : Int) == 45) = false := by rw [beq_eq_false_iff_ne]; omega
    have g11 : ((x.toNat : Int) == 42) = false := by rw [beq_eq_false_iff_ne]; omega
    have g12 : ((x.toNat : Int) == 47) = false := by rw [beq_eq_false_iff_ne]; omega
    have g13 : ((x.toNat : Int) == 60) = false := by rw [beq_eq_false_iff_ne]; omega
    have g14 : ((x.toNat : Int) == 63) = false := by rw [beq_eq_false_iff_ne]; omega
    have g15 : ((x.toNat : Int) == 95) = false := by rw [beq_eq_false_iff_ne]; omega
    clear p1 p2 p3 p4 p5 p6 p7 p8 p9 p10 p11 p12 p13 p14 p15
    rcases (show (i : Int) + 1 < bs.length ∨ (bs.length : Int) ≤ i + 1 from by omega) with hl | hl
    all_goals
      go_enter Tryd.func35, Tryd.ntmps35
      go_wp2_with fail
      exact bodyPost_ret (v := .tuple #[tokV 5 i i s 0, .bool false]) (by simp [results, Tryd.results35, go_sem]) rfl ⟨LexRes.mk_none hm'.out _ _ _ _ _ _, by go_grown⟩

end Go.Proofs.YtoadmjnaakbljaaDoor
