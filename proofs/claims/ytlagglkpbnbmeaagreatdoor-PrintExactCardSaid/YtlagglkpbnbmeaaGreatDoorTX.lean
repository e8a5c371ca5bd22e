/- Bundle of ShT NrD ShA. -/
import Derived.Test.YtlagglkpbnbmeaaGreatDoorPX
import Derived.Test.YtlagglkpbnbmeaaGreatDoorSH
import Derived.Test.YtlagglkpbnbmeaaGreatDoorLY

/- Tokens and types as shadows. -/
namespace Go.Proofs.YtlagglkpbnbmeaaGreatDoor
open Go Go.RowKit

def tokD (x : Tok) : List D := [.lit (.int .i64 x.k), .lit (.int .i64 x.a), .lit (.int .i64 x.b), .lit (str x.s), .lit (.int .i64 x.n)]
mutual
def tyD : Ty → List D
  | .mk k n ks => [.lit (.int .i64 k), .lit (.int .i64 n), .sl 3 (tysD ks)]
def tysD : List Ty → List (List D)
  | [] => []
  | t :: r => tyD t :: tysD r
end
theorem tysD_map : ∀ l : List Ty, tysD l = l.map tyD
  | [] => by rw [tysD]; rfl
  | t :: r => by rw [tysD, tysD_map r]; rfl
theorem tysD_len (l : List Ty) : (tysD l).length = l.length := by rw [tysD_map]; simp
theorem tysD_get {l : List Ty} {i : Nat} {t : Ty} (h : l[i]? = some t) : (tysD l)[i]? = some (tyD t) := by rw [tysD_map]; simp [h]
theorem tyD_eq (t : Ty) : tyD t = [.lit (.int .i64 t.kind), .lit (.int .i64 t.num), .sl 3 (tysD t.kids)] := by cases t; rw [tyD]; rfl

def toksD (ts : List Tok) : D := .sl 5 (ts.map tokD)
theorem toksD_get {ts : List Tok} {i : Nat} {x : Tok} (h : ts[i]? = some x) : (ts.map tokD)[((i : Nat) : Int).toNat]? = some (tokD x) := by simp [h]
theorem hit_at {k : Nat} {s : List UInt8} {ts : List Tok} {i : Nat} {x : Tok} (h : ts[i]? = some x) : hit k s (ts.drop i) = (x.k == k && x.s == s) := by
  have hi : i < ts.length := by
    rcases Nat.lt_or_ge i ts.length with h1 | h1
    · exact h1
    · rw [List.getElem?_eq_none h1] at h; cases h
  rw [List.drop_eq_getElem_cons hi]
  rw [List.getElem?_eq_getElem hi] at h
  cases h
  rfl
theorem hit_end {k : Nat} {s : List UInt8} {ts : List Tok} {i : Nat} (h : ts.length ≤ i) : hit k s (ts.drop i) = false := by
  rw [List.drop_eq_nil_of_le h]; rfl

end Go.Proofs.YtlagglkpbnbmeaaGreatDoor

/- What readers come to, as shadows. -/
namespace Go.Proofs.YtlagglkpbnbmeaaGreatDoor
open Go Go.RowKit
set_option linter.unusedVariables false

def posE {α : Type} (n : Nat) : PR α → Nat
  | .ok (_, r) => n - r.length
  | .error k => n - k
def retD {α : Type} (m : Nat) (f : α → List D) : PR α → F
  | .ok (t, _) => .tup [.agg (f t), .c (.lit (.bool true))]
  | .error _ => .tup [.agg (List.replicate m .any), .c (.lit (.bool false))]
theorem hit_lt' {k : Nat} {s : List UInt8} {ts : List Tok} {i : Nat} (hh : hit k s (ts.drop i) = true) : i < ts.length := hit_lt hh
theorem hit_tail {k : Nat} {s : List UInt8} {ts : List Tok} {i : Nat} (_ : hit k s (ts.drop i) = true) : (ts.drop i).tail = ts.drop (i + 1) := by rw [List.tail_drop]
theorem pos_drop {ts : List Tok} {i : Nat} (h : i ≤ ts.length) : ts.length - (ts.drop i).length = i := by rw [List.length_drop]; omega
theorem ok_drop {α : Type} {ts : List Tok} {i : Nat} {x : PR α} {t : α} {r : List Tok} (h : PRok (ts.drop i) x) (hx : x = .ok (t, r)) (hi : i ≤ ts.length) : ∃ j, i < j ∧ j ≤ ts.length ∧ r = ts.drop j := by
  subst hx
  obtain ⟨h1, h2⟩ := h
  have h3 := suf_pos (suf_trans ⟨i, rfl⟩ h2)
  rw [List.length_drop] at h1
  exact ⟨ts.length - r.length, by omega, by omega, h3.symm⟩
end Go.Proofs.YtlagglkpbnbmeaaGreatDoor

/- Contracts that were walked by other means, as contracts on shadows. -/
namespace Go.Proofs.YtlagglkpbnbmeaaGreatDoor
open Go Go.RowKit
set_option linter.unusedVariables false

def Flat : F → Prop
  | .c _ | .agg _ => True
  | _ => False
theorem FV.flat {S : Addr → Prop} {ρ ρ' : Nat → Nat} {w : World} {f : F} {v : Value} (hf : Flat f) (h : FV S ρ w f v) : FV S ρ' w f v := by
  cases f <;> first | exact h | exact hf.elim
def Res0 : F → Prop
  | .c _ | .agg _ | .tup _ => True
  | _ => False
theorem FV.res {S : Addr → Prop} {ρ ρ' : Nat → Nat} {w : World} {f : F} {v : Value} (hf : Res0 f) (h : FV S ρ w f v) : FV S ρ' w f v := by
  cases f <;> first | exact h | exact hf.elim

theorem con_below {P : Program} {f : FuncId} {fs : List F} {r : F} (hfs : ∀ g, g ∈ fs → Flat g) (hr : Res0 r) (hl : fs.length ≤ 1000)
    (h : ∀ (S : Addr → Prop) (w : World) (args : Array Value) (B : Nat), args.size = fs.length → (∀ i g, fs[i]? = some g → FV S (fun _ => 0) w g (args.getD i undef)) → (∀ p, S p → p.block < w.heap.size) → TT B w → B ≤ w.heap.size →
      Calls P f args w fun e w' => ∃ v, e = .returned v ∧ Below w.heap.size w w' ∧ ∀ S' : Addr → Prop, (∀ p, S p → S' p) → (∀ p : Addr, w.heap.size ≤ p.block → p.block < w'.heap.size → S' p) → FV S' (fun _ => 0) w' r v) : Con P f fs [] r [] := by
  intro V ρ tv w args B hsz htv hrr htt _ hBw
  have hini : ∀ k g, find (ini fs []) k = some g → k < fs.length ∧ fs[k]? = some g := by
    intro k g hk
    unfold ini at hk
    rw [List.append_nil, find_nums] at hk
    simp only [Nat.zero_le, if_true, Nat.sub_zero] at hk
    refine ⟨?_, hk⟩
    rcases Nat.lt_or_ge k fs.length with h1 | h1
    · exact h1
    · rw [List.getElem?_eq_none h1] at hk; cases hk
  refine (h (cold V (find (ini fs [])) ρ tv w) w args B hsz (fun i g hg => ?_) (fun p hp => hp.1) htt hBw).mono ?_
  · have hi : i < fs.length := by
      rcases Nat.lt_or_ge i fs.length with h1 | h1
      · exact h1
      · rw [List.getElem?_eq_none h1] at hg; cases hg
    have hfi : find (ini fs []) i = some g := by
      unfold ini
      rw [List.append_nil, find_nums]
      simpa using hg
    have h1 := hrr.rel i g hfi
    have hfl := hfs g (List.mem_of_getElem? hg)
    rw [← htv i (by omega)]
    have h2 : FV (cold V (find (ini fs [])) ρ tv w) ρ w g (tv i) := by cases g <;> first | exact h1 | exact hfl.elim
    exact h2.flat hfl
  · rintro e w' ⟨v, rfl, hbl, hf⟩
    have hg := hrr.grow hbl
    have hpl : Plain r := by cases r <;> first | trivial | exact hr.elim
    obtain ⟨h1, h2⟩ := hg.put (d := 0) (by omega) v hpl ((hf (cold V (find (ini fs [])) ρ tv w') (fun p hp => RR.coldOld hbl.size hp) (fun p h1 h2 => hrr.coldNew h1 h2)).res hr)
    have hsub : ∀ k f, find [(0, r)] k = some f → upd (find (ini fs [])) [(0, r)] k = some f := by
      intro k f hk
      unfold upd
      rw [hk]
    obtain ⟨h3, h4⟩ := h1.weak hsub
    exact ⟨v, setv tv 0 v, rfl, setv_same _ _ _, Fr.of_below hbl, h3, fun p hp => .inl (h2 p (h4 p hp))⟩

theorem rdB_of {S : Addr → Prop} {w : World} {bs : List UInt8} {v : Value} (h : DIn S w (.sl 1 (bcells bs)) v) : ∃ A c, v = .slice A bs.length c ∧ bs.length ≤ c ∧ RdB w A bs := by
  obtain ⟨A, c, h1, h2, _, _, h3⟩ := h.row
  rw [bcells_len] at h1 h2
  refine ⟨A, c, h1, h2, fun j hj => ?_⟩
  obtain ⟨ad, u, g1, _, g3, g4⟩ := h3 j 0 _ (bcells_at bs j hj)
  cases g4
  exact ⟨ad, g1, by simpa using g3⟩
theorem toksD_of {S : Addr → Prop} {w : World} {base c : Nat} {A : Option Addr} {ts : List Tok} (h : OwnT w base A c ts) (hS : ∀ p : Addr, base ≤ p.block → p.block < w.heap.size → S p) : DIn S w (toksD ts) (.slice A ts.length c) := by
  have hrd := h.rd (fun _ => rfl)
  refine .ofRow (by simp) (by simpa using h.le) (fun h0 => ?_) (fun r hr => ?_) (fun i j d hd => ?_)
  · obtain ⟨ad, hA, _⟩ := hrd 0 (by simpa using h0)
    exact ⟨ad, hA⟩
  · obtain ⟨x, _, rfl⟩ := List.mem_map.1 hr
    rfl
  · unfold D.at at hd
    rw [List.getElem?_map] at hd
    have hi : i < ts.length := by
      rcases Nat.lt_or_ge i ts.length with h1 | h1
      · exact h1
      · rw [List.getElem?_eq_none h1] at hd; cases hd
    rw [List.getElem?_eq_getElem hi] at hd
    simp only [Option.map_some, Option.bind_some] at hd
    obtain ⟨ad, hA, hlt, hc⟩ := hrd i hi
    have hb := (h.at ad.block (by rw [hA]; rfl)).1
    have key : tokD ts[i] = (tokC ts[i]).map .lit := rfl
    rw [key, List.getElem?_map] at hd
    have hj : j < 5 := by
      rcases Nat.lt_or_ge j 5 with h1 | h1
      · exact h1
      · rw [List.getElem?_eq_none (by simp [tokC]; omega)] at hd; cases hd
    have hcj := hc j hj
    cases hu : (tokC ts[i])[j]? with
    | none => rw [hu] at hd; cases hd
    | some u =>
      rw [hu] at hd hcj
      simp only [Option.map_some, Option.some.injEq] at hd
      subst hd
      refine ⟨ad, u, hA, hS _ (by rw [block_of_add]; exact hb) (by rw [block_of_add]; exact hlt), hcj, .lit u ?_⟩
      have hm := List.mem_of_getElem? hu
      simp only [tokC, List.mem_cons, List.not_mem_nil, or_false] at hm
      rcases hm with rfl | rfl | rfl | rfl | rfl <;> rfl
def scanD : Except Nat (List Tok) → F
  | .ok ts => .tup [.c (toksD ts), .c (.lit (.int .i64 0)), .c (.lit (.int .i64 0))]
  | .error p => .tup [.c (toksD []), .c (.lit (.int .i64 (p : Int))), .c (.lit (.int .i64 3))]
theorem scan_con {f : FuncId} (hw : ∀ (A : Option Addr) (c : Nat) (bs : List UInt8) (w : World), RdB w A bs → bs.length ≤ c → bs.length ≤ 140737488351232 → Calls Tryz.prog f #[.slice A bs.length c] w fun e w' => ScanRes (mScan bs) w.heap.size e w' ∧ Below w.heap.size w w')
    (bs : List UInt8) (hm : bs.length ≤ 140737488351232) : Con Tryz.prog f [.c (.sl 1 (bcells bs))] [] (scanD (mScan bs)) [] := by
  refine con_below (by simp [Flat]) (by cases mScan bs <;> trivial) (by simp) fun S w args B hsz harg hS htt hB => ?_
  obtain ⟨A, c, hv, hc, hrd⟩ := rdB_of (show DIn S w _ _ from harg 0 _ rfl)
  have hargs : args = #[.slice A bs.length c] := by
    apply Array.ext
    · simpa using hsz
    · intro i h1 h2
      have : i = 0 := by simp at h2; omega
      subst this
      simp only [Array.getD_eq_getD_getElem?, Array.getElem?_eq_getElem h1, Option.getD_some] at hv
      rw [hv]; rfl
  rw [hargs]
  refine (hw A c bs w hrd hc hm).mono ?_
  rintro e w' ⟨hres, hbl⟩
  cases hx : mScan bs with
  | error p =>
    rw [hx] at hres
    obtain rfl : e = _ := hres
    exact ⟨_, rfl, hbl, fun S' _ _ => ⟨[.slice none 0 0, .int .i64 (p : Int), .int .i64 3], rfl, DIn.nil _ _, .lit _ rfl, .lit _ rfl, trivial⟩⟩
  | ok ts =>
    rw [hx] at hres
    obtain ⟨A', c', rfl, hown⟩ := hres
    exact ⟨_, rfl, hbl, fun S' _ hn => ⟨[.slice A' ts.length c', .int .i64 0, .int .i64 0], rfl, toksD_of hown hn, .lit _ rfl, .lit _ rfl, trivial⟩⟩
theorem lexScan_con (bs : List UInt8) (hm : bs.length ≤ 140737488351232) : Con Tryz.prog 43 [.c (.sl 1 (bcells bs))] [] (scanD (mScan bs)) [] := scan_con lexScan_any bs hm

end Go.Proofs.YtlagglkpbnbmeaaGreatDoor

