/- Parts of a row of bytes; a row of bytes appended to one of the call's own, nil or not. -/
import Derived.Test.YtoadmjnaakbljaaDoorLexW6
namespace Go.Proofs.YtoadmjnaakbljaaDoor
open Go Go.RowKit

theorem rdB_none {w : World} {bs : List UInt8} (h : RdB w none bs) : bs = [] := by
  cases bs with
  | nil => rfl
  | cons x r =>
    obtain ⟨ad, hA, _⟩ := h 0 (by simp)
    cases hA
theorem rdB_sub {w : World} {A : Option Addr} {bs : List UInt8} {c : Nat} (h : RdB w A bs) (hc : bs.length ≤ c) (lo m : Nat) (h2 : lo + m ≤ bs.length) : RdB w (if c = lo then A else A.map (·.add (lo * 1))) ((bs.drop lo).take m) := by
  by_cases hcl : c = lo
  · have : (bs.drop lo).take m = [] := by rw [List.take_eq_nil_iff]; right; exact List.drop_eq_nil_of_le (by omega)
    rw [this]
    exact RdB.nil _ _
  · rw [if_neg hcl]
    cases A with
    | none =>
      have := rdB_none h
      subst this
      simp [RdB.nil]
    | some ad =>
      rw [Option.map_some, Nat.mul_one]
      exact h.sub lo m
theorem slice_sub {A : Option Addr} {bs : List UInt8} {c : Nat} (hc : bs.length ≤ c) (lo hi : Nat) (h1 : lo ≤ hi) (h2 : hi ≤ bs.length) :
    ∃ s A2 c2, s = (bs.drop lo).take (hi - lo) ∧ s.length = hi - lo ∧ s.length ≤ c2 ∧
      (∀ W, (Instr.slice 25 (.slice A bs.length c) (some (.int .i64 (lo : Int))) (some (.int .i64 (hi : Int))) none).run Tryd.prog W = .ok (.slice A2 s.length c2) W) ∧ ∀ W, RdB W A bs → RdB W A2 s := by
  have hl : ((bs.drop lo).take (hi - lo)).length = hi - lo := by rw [List.length_take, List.length_drop]; omega
  refine ⟨_, if c = lo then A else A.map (·.add (lo * 1)), c - lo, rfl, hl, by omega, fun W => ?_, fun W h => rdB_sub h hc lo (hi - lo) (by omega)⟩
  have ht : Tryd.prog.underlying 25 = some (.slice (Tryd.prog.elem 25)) := by kernel_rfl
  have hz : (sizeOf (Tryd.prog.elem 25)).run Tryd.prog W = .ok 1 W := by kernel_rfl
  rw [run_slice_lh _ _ _ _ _ ht _ _ _ _ (by omega) (by omega) (by omega), hz, hl]
  rfl
theorem slice_to {A : Option Addr} {bs : List UInt8} {c : Nat} (hc : bs.length ≤ c) (hi : Nat) (h2 : hi ≤ bs.length) :
    ∃ s A2 c2, s = bs.take hi ∧ s.length = hi ∧ s.length ≤ c2 ∧
      (∀ W, (Instr.slice 25 (.slice A bs.length c) none (some (.int .i64 (hi : Int))) none).run Tryd.prog W = .ok (.slice A2 s.length c2) W) ∧ ∀ W, RdB W A bs → RdB W A2 s := by
  have hl : (bs.take hi).length = hi := by rw [List.length_take]; omega
  refine ⟨_, if c = 0 then A else A.map (·.add (0 * 1)), c - 0, rfl, hl, by omega, fun W => ?_, fun W h => ?_⟩
  · have ht : Tryd.prog.underlying 25 = some (.slice (Tryd.prog.elem 25)) := by kernel_rfl
    have hz : (sizeOf (Tryd.prog.elem 25)).run Tryd.prog W = .ok 1 W := by kernel_rfl
    rw [run_slice_h _ _ _ _ _ ht _ _ (by omega) (by omega), hz, hl]
    rfl
  · have := rdB_sub h hc 0 hi (by omega)
    rwa [List.drop_zero] at this

theorem run_append_of_nilB (base : Nat) (ty : TypeId) (A : Option Addr) (c : Nat) (bs : List UInt8) (w : World) (hown : OwnB w base A c bs) (k : Nat) :
    (Builtin.append_ #[25, 25] ty #[.slice A bs.length c, .slice none 0 k]).run Tryd.prog w = .ok (.slice A bs.length c) w := by
  obtain ⟨i0, hi, hz0, hz1, hz2⟩ := info_parts infoB
  have ht := Tryd.underlying25
  rcases hown.2 with ⟨hv, h0⟩ | ⟨g, cap, cur, hv, _, _, hnc, _⟩
  · rw [hv]
    simp [Builtin.append_, run_underlying ht, sizeOf, typeInfo, hi, Builtin.lenOf, Builtin.firstCells]
  · rw [hv]
    simp [Builtin.append_, run_underlying ht, sizeOf, typeInfo, hi, Builtin.lenOf, Builtin.firstCells, hnc, storeCells]

theorem wp_appBA {o : Oper} {a : Act} {w : World} {K : Act → World → Prop} {Q : Exit → Act → World → Prop} (s x : Operand)
    (ho : o.op = .call { callee := .builtin .append, args := #[s, x], argTypes := #[25, 25] })
    (base : Nat) (A : Option Addr) (c : Nat) (bs : List UInt8) (hs : a.eval s = .slice A bs.length c) (hown : OwnB w base A c bs)
    (A2 : Option Addr) (m k : Nat) (news : List UInt8) (hx : a.eval x = .slice A2 m k) (hm : news.length = m) (hnews : RdB w A2 news)
    (hbytes : bs.length + m ≤ 140737488355328) (hbase : base ≤ w.heap.size)
    (h : ∀ A' c' w' bs', bs' = bs ++ news → OwnB w' base A' c' bs' → Below base w w' → K (a.put o.dst (.slice A' bs'.length c')) w') : o.wp Tryd.prog a w K Q := by
  cases A2 with
  | some ad =>
    refine wp_appB s x ho base A c bs hs hown ad m k news hx hm (fun j hj => ?_) hbytes hbase h
    obtain ⟨ad', hA, hc⟩ := hnews j hj
    cases hA
    exact hc
  | none =>
    obtain rfl := rdB_none hnews
    simp only [List.length_nil] at hm
    subst hm
    have hrun := run_append_of_nilB base o.type A c bs w hown k
    unfold Oper.wp execOp
    simp only [ho, resolve, invoke, builtin, Sem.run_bind, Sem.run_pure, Result.andThen_ok, List.map_toArray, List.map_cons, List.map_nil, hs, hx, hrun]
    exact h A c w bs (by simp) hown (Below.refl _ _)
theorem wpList_appBA {ops : Array Oper} {rest : List Oper} {o : Oper} {a : Act} {w : World} {Q : Exit → Act → World → Prop} (hgd : o.guard = none) (s x : Operand)
    (ho : o.op = .call { callee := .builtin .append, args := #[s, x], argTypes := #[25, 25] })
    (base : Nat) (A : Option Addr) (c : Nat) (bs : List UInt8) (hs : a.eval s = .slice A bs.length c) (hown : OwnB w base A c bs)
    (A2 : Option Addr) (m k : Nat) (news : List UInt8) (hx : a.eval x = .slice A2 m k) (hm : news.length = m) (hnews : RdB w A2 news)
    (hbytes : bs.length + m ≤ 140737488355328) (hbase : base ≤ w.heap.size)
    (h : ∀ A' c' w' bs', bs' = bs ++ news → OwnB w' base A' c' bs' → Below base w w' → wpList Tryd.prog ops Q rest (a.put o.dst (.slice A' bs'.length c')) w') : wpList Tryd.prog ops Q (o :: rest) a w :=
  wpList_plain hgd fun _ hK => wp_appBA s x ho base A c bs hs hown A2 m k news hx hm hnews hbytes hbase fun A' c' w' bs' h1 h2 h3 => hK _ _ (h A' c' w' bs' h1 h2 h3)

end Go.Proofs.YtoadmjnaakbljaaDoor
