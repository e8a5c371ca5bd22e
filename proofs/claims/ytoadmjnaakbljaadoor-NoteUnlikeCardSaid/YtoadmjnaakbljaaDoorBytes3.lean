/- A string's bytes, or a slice's, appended to a row of bytes of the call's own. -/
import Derived.Test.YtoadmjnaakbljaaDoorBytes2
import Derived.Lib.AppendStr
namespace Go.Proofs.YtoadmjnaakbljaaDoor
open Go Go.RowKit

theorem strCells_mk (l : List UInt8) : Lib.strCells ⟨l.toArray⟩ = l.map (fun x => Value.int .u8 (x.toNat : Int)) := by
  simp [Lib.strCells]

theorem wp_appBS {o : Oper} {a : Act} {w : World} {K : Act → World → Prop} {Q : Exit → Act → World → Prop} (s x : Operand)
    (ho : o.op = .call { callee := .builtin .append, args := #[s, x], argTypes := #[25, 9] })
    (base : Nat) (A : Option Addr) (c : Nat) (bs : List UInt8) (hs : a.eval s = .slice A bs.length c) (hown : OwnB w base A c bs)
    (news : List UInt8) (hx : a.eval x = str news)
    (hbytes : bs.length + news.length ≤ 140737488355328) (hbase : base ≤ w.heap.size)
    (h : ∀ A' c' w' bs', bs' = bs ++ news → OwnB w' base A' c' bs' → Below base w w' → K (a.put o.dst (.slice A' bs'.length c')) w') : o.wp Tryd.prog a w K Q := by
  obtain ⟨i0, hi, hz0, hz1, hz2⟩ := info_parts infoB
  have hsz : (⟨news.toArray⟩ : ByteArray).size = news.length := by simp [ByteArray.size]
  obtain ⟨v', w', hr, hown', hg, _⟩ := Lib.run_append_own_string (P := Tryd.prog) w base 25 9 o.type 5 i0 Tryd.underlying25 Tryd.underlying9 hi hz0 hz1 hz2 _ _ _ hown ⟨news.toArray⟩ (by rw [hsz]; unfold maxLen; omega) (by rw [hsz]; omega) hbase
  unfold Oper.wp execOp
  simp only [ho, resolve, invoke, builtin, Sem.run_bind, Sem.run_pure, Result.andThen_ok, List.map_toArray, List.map_cons, List.map_nil, hs, hx, hr]
  rw [hsz, strCells_mk] at hown'
  have hB : Below base w w' := (Below.refl _ _).grown hg hbase hown.at
  have e : ∃ A' c', v' = .slice A' (bs ++ news).length c' := by
    rcases hown'.2 with ⟨hv, h0⟩ | ⟨g, cap, cur, hv, _⟩
    · exact ⟨none, 0, by rw [hv, List.length_append, h0]⟩
    · exact ⟨_, cap, by rw [hv, List.length_append]⟩
  obtain ⟨A', c', rfl⟩ := e
  refine h A' c' w' _ rfl ?_ hB
  unfold OwnB
  rw [List.map_append, List.length_append]
  rw [List.length_append] at hown'
  exact hown'
theorem wpList_appBS {ops : Array Oper} {rest : List Oper} {o : Oper} {a : Act} {w : World} {Q : Exit → Act → World → Prop} (hgd : o.guard = none) (s x : Operand)
    (ho : o.op = .call { callee := .builtin .append, args := #[s, x], argTypes := #[25, 9] })
    (base : Nat) (A : Option Addr) (c : Nat) (bs : List UInt8) (hs : a.eval s = .slice A bs.length c) (hown : OwnB w base A c bs)
    (news : List UInt8) (hx : a.eval x = str news)
    (hbytes : bs.length + news.length ≤ 140737488355328) (hbase : base ≤ w.heap.size)
    (h : ∀ A' c' w' bs', bs' = bs ++ news → OwnB w' base A' c' bs' → Below base w w' → wpList Tryd.prog ops Q rest (a.put o.dst (.slice A' bs'.length c')) w') : wpList Tryd.prog ops Q (o :: rest) a w :=
  wpList_plain hgd fun _ hK => wp_appBS s x ho base A c bs hs hown news hx hbytes hbase fun A' c' w' bs' h1 h2 h3 => hK _ _ (h A' c' w' bs' h1 h2 h3)

/-- as 'wp_appBA', and what is told of the world says more -/
theorem wp_appBG {o : Oper} {a : Act} {w : World} {K : Act → World → Prop} {Q : Exit → Act → World → Prop} (s x : Operand)
    (ho : o.op = .call { callee := .builtin .append, args := #[s, x], argTypes := #[25, 25] })
    (base : Nat) (A : Option Addr) (c : Nat) (bs : List UInt8) (hs : a.eval s = .slice A bs.length c) (hown : OwnB w base A c bs)
    (A2 : Option Addr) (m k : Nat) (news : List UInt8) (hx : a.eval x = .slice A2 m k) (hm : news.length = m) (hnews : RdB w A2 news)
    (hbytes : bs.length + m ≤ 140737488355328) (hbase : base ≤ w.heap.size)
    (h : ∀ A' c' w' bs', bs' = bs ++ news → OwnB w' base A' c' bs' → Below base w w' → w.grownBy w' (Value.slice A bs.length c).ownBlock → K (a.put o.dst (.slice A' bs'.length c')) w') : o.wp Tryd.prog a w K Q := by
  cases A2 with
  | some ad =>
    subst hm
    obtain ⟨i0, hi, hz0, hz1, hz2⟩ := info_parts infoB
    refine wp_append_own w s x 25 ho base 5 i0 (.int .u8 0) 1 1 Tryd.underlying25 hi hz0 hz1 hz2 rfl (by decide) _ _ _ hs hown ad news.length k (news.map fun x => Value.int .u8 (x.toNat : Int)) hx (by simp) ?_ ?_ ?_ ?_ hbase ?_
    · intro j u hu
      rw [List.getElem?_map] at hu
      rcases Nat.lt_or_ge j news.length with h1 | h1
      · rw [List.getElem?_eq_getElem h1] at hu
        obtain ⟨ad', hA, hc⟩ := hnews j h1
        cases hA
        rw [hc]
        simpa using hu
      · rw [List.getElem?_eq_none h1] at hu; simp at hu
    · intro u hu
      simp only [List.mem_map] at hu
      obtain ⟨y, _, rfl⟩ := hu
      rfl
    · unfold maxLen; omega
    · omega
    · intro v' w' hown' hg _
      have hB : Below base w w' := (Below.refl _ _).grown hg hbase hown.at
      have e : ∃ A' c', v' = .slice A' (bs ++ news).length c' := by
        rcases hown'.2 with ⟨hv, h0⟩ | ⟨g, cap, cur, hv, _⟩
        · exact ⟨none, 0, by rw [hv, List.length_append, h0]⟩
        · exact ⟨_, cap, by rw [hv, List.length_append]⟩
      obtain ⟨A', c', rfl⟩ := e
      refine h A' c' w' _ rfl ?_ hB hg
      unfold OwnB
      rw [List.map_append, List.length_append]
      rw [List.length_append] at hown'
      exact hown'
  | none =>
    obtain rfl := rdB_none hnews
    simp only [List.length_nil] at hm
    subst hm
    have hrun := run_append_of_nilB base o.type A c bs w hown k
    unfold Oper.wp execOp
    simp only [ho, resolve, invoke, builtin, Sem.run_bind, Sem.run_pure, Result.andThen_ok, List.map_toArray, List.map_cons, List.map_nil, hs, hx, hrun]
    exact h A c w bs (by simp) hown (Below.refl _ _) ⟨rfl, rfl, rfl, Nat.le_refl _, fun _ _ _ => rfl⟩

end Go.Proofs.YtoadmjnaakbljaaDoor
