/- Rows of bytes: how they read as a string, and how a row of the call's own grows. -/
import Derived.Test.YtoadmjnaakbljaaDoorBase
import Derived.Deep.RegionLaw
namespace Go.Proofs.YtoadmjnaakbljaaDoor
open Go Go.RowKit

theorem cellsB_map (bs : List UInt8) : bs.map (fun x => Value.int .u8 (x.toNat : Int)) = (bs.map (fun x => (x.toNat : Int))).map (Value.int .u8) := by simp
theorem strB (bs : List UInt8) : ((bs.map (fun x => (x.toNat : Int))).foldl (fun r n => r.push (UInt8.ofNat n.toNat)) ByteArray.empty) = (⟨bs.toArray⟩ : ByteArray) := by
  rw [foldl_push_bytes]
  have e : ((fun n : Int => UInt8.ofNat n.toNat) ∘ fun x : UInt8 => (x.toNat : Int)) = id := by funext x; simp
  rw [List.map_map, e, List.map_id]
  show (⟨(#[] : Array UInt8) ++ bs.toArray⟩ : ByteArray) = _
  simp

theorem run_conv {P : Program} {w : World} {A : Option Addr} {bs : List UInt8} {n c : Nat} (h : RdB w A bs) (hn : n = bs.length) {T e D : TypeId} (hs : P.underlying T = some (.slice e)) (he : P.underlying e = some (.int .u8))
    (hd : P.underlying D = some .string) : (convert T D (.slice A n c)).run P w = .ok (str bs) w := by
  subst hn
  rw [run_convert_bytes_string w T D e _ _ c hs he hd]
  cases A with
  | none =>
    have : bs = [] := by
      cases bs with
      | nil => rfl
      | cons x r =>
        obtain ⟨ad, hA, _⟩ := h 0 (by simp)
        cases hA
    subst this
    simp [Conv.bytesToString]
    rfl
  | some ad =>
    have hl : (loadCells ad bs.length).run P w = .ok ((bs.map (fun x => (x.toNat : Int))).map (Value.int .u8)).toArray w := by
      have := run_loadCells_list (P := P) w ad ((bs.map (fun x => (x.toNat : Int))).map (Value.int .u8)) (fun j v hj => by
        rw [List.getElem?_map, List.getElem?_map] at hj
        have hjl : j < bs.length := by
          rcases Nat.lt_or_ge j bs.length with h1 | h1
          · exact h1
          · rw [List.getElem?_eq_none h1] at hj; simp at hj
        rw [List.getElem?_eq_getElem hjl] at hj
        obtain ⟨ad', hA, hc⟩ := h j hjl
        cases hA
        simpa [hc] using hj)
      simpa using this
    rw [run_bytesToString w _ _ c _ hl, strB]

/-- a row of bytes of the call's own -/
def OwnB (w : World) (base : Nat) (A : Option Addr) (c : Nat) (bs : List UInt8) : Prop :=
  w.ownsRow base 5 1 (.slice A bs.length c) bs.length (bs.map fun x => Value.int .u8 (x.toNat : Int))
theorem OwnB.nil (w : World) (base : Nat) : OwnB w base none 0 [] := World.ownsRow_nil _ _ _ _
theorem OwnB.keep {w w' : World} {base c : Nat} {A : Option Addr} {bs : List UInt8} (h : OwnB w base A c bs) (hb : Below w.heap.size w w') : OwnB w' base A c bs :=
  World.ownsRow.kept (row := none) h ⟨hb.os, hb.tape, hb.output, hb.size, fun k hk _ => hb.block k hk⟩ (by cases hv : (Value.slice A bs.length c).ownBlock <;> simp)
theorem OwnB.alloc {w : World} {base c : Nat} {A : Option Addr} {bs : List UInt8} (h : OwnB w base A c bs) (o : Obj) : OwnB (w.alloc o) base A c bs := World.ownsRow.alloc h o
theorem OwnB.drew {w : World} {base c : Nat} {A : Option Addr} {bs : List UInt8} (h : OwnB w base A c bs) : OwnB w.drew base A c bs := h
theorem OwnB.rd {w : World} {base c : Nat} {A : Option Addr} {bs : List UInt8} (h : OwnB w base A c bs) : RdB w A bs := by
  intro j hj
  rcases h.2 with ⟨hv, h0⟩ | ⟨g, cap, cur, hv, _, hh, _⟩
  · omega
  · cases hv
    refine ⟨_, rfl, World.ownsRow.cells (g := g) h rfl j _ ?_⟩
    simp [List.getElem?_eq_getElem hj]
theorem OwnB.le {w : World} {base c : Nat} {A : Option Addr} {bs : List UInt8} (h : OwnB w base A c bs) : bs.length ≤ c := by
  rcases h.2 with ⟨hv, h0⟩ | ⟨g, cap, cur, hv, _, hh, hc, _⟩
  · omega
  · cases hv; exact hc
theorem OwnB.at {w : World} {base c : Nat} {A : Option Addr} {bs : List UInt8} (h : OwnB w base A c bs) : ∀ k, (Value.slice A bs.length c).ownBlock = some k → base ≤ k := fun k hk => (World.ownsRow.lt h k hk).1

theorem OwnB.made (w : World) (bs : List UInt8) (hl : bs.length ≤ 1000000) : OwnB (w.alloc (.cells (bs.map fun x => Value.int .u8 (x.toNat : Int)).toArray 5)) w.heap.size (some ⟨w.heap.size, 0, none⟩) bs.length bs :=
  ⟨by simp, .inr ⟨w.heap.size, bs.length, _, rfl, Nat.le_refl _, heap_alloc_new w _, Nat.le_refl _, by unfold maxLen; omega, by simp, by simpa using List.take_of_length_le (by simp)⟩⟩

/-- a new block of bytes reads as these bytes -/
theorem newsB (w : World) (bs : List UInt8) (t : TypeId) : ∀ j (h : j < bs.length), (w.alloc (.cells (bs.map fun x => Value.int .u8 (x.toNat : Int)).toArray t)).cell? ((⟨w.heap.size, 0, none⟩ : Addr).add j) = some (.int .u8 (bs[j].toNat : Int)) := by
  intro j hj
  have e : (⟨w.heap.size, 0, none⟩ : Addr).add j = ⟨w.heap.size, j, none⟩ := by unfold Addr.add; split <;> simp_all
  rw [e, cell_of_row _ w.heap.size j _ t (0, 0) (heap_alloc_new w _)]
  simp [hj]

theorem newsBd (w : World) (bs : List UInt8) (t : TypeId) : ∀ j (h : j < bs.length), (w.alloc (.cells (bs.map fun x => Value.int .u8 (x.toNat : Int)).toArray t)).drew.cell? ((⟨w.heap.size, 0, none⟩ : Addr).add j) = some (.int .u8 (bs[j].toNat : Int)) := newsB w bs t

theorem infoB : (Tryd.prog.info? 5).map (fun i => (i.zero, i.size, i.bytes)) = some (some (.int .u8 0), 1, 1) := by kernel_rfl

theorem wp_appB {o : Oper} {a : Act} {w : World} {K : Act → World → Prop} {Q : Exit → Act → World → Prop} (s x : Operand)
    (ho : o.op = .call { callee := .builtin .append, args := #[s, x], argTypes := #[25, 25] })
    (base : Nat) (A : Option Addr) (c : Nat) (bs : List UInt8) (hs : a.eval s = .slice A bs.length c) (hown : OwnB w base A c bs)
    (ad : Addr) (m k : Nat) (news : List UInt8) (hx : a.eval x = .slice (some ad) m k) (hm : news.length = m) (hnews : ∀ j (h : j < news.length), w.cell? (ad.add j) = some (.int .u8 (news[j].toNat : Int)))
    (hbytes : bs.length + m ≤ 140737488355328) (hbase : base ≤ w.heap.size)
    (h : ∀ A' c' w' bs', bs' = bs ++ news → OwnB w' base A' c' bs' → Below base w w' → K (a.put o.dst (.slice A' bs'.length c')) w') : o.wp Tryd.prog a w K Q := by
  subst hm
  obtain ⟨i0, hi, hz0, hz1, hz2⟩ := info_parts infoB
  refine wp_append_own w s x 25 ho base 5 i0 (.int .u8 0) 1 1 Tryd.underlying25 hi hz0 hz1 hz2 rfl (by decide) _ _ _ hs hown ad news.length k (news.map fun x => Value.int .u8 (x.toNat : Int)) hx (by simp) ?_ ?_ ?_ ?_ hbase ?_
  · intro j u hu
    rw [List.getElem?_map] at hu
    rcases Nat.lt_or_ge j news.length with h1 | h1
    · rw [List.getElem?_eq_getElem h1] at hu
      rw [hnews j h1]
      simpa using hu
    · rw [List.getElem?_eq_none h1] at hu; simp at hu
  · intro u hu
    simp only [List.mem_map] at hu
    obtain ⟨y, _, rfl⟩ := hu
    rfl
  · unfold maxLen; omega
  · omega
  · intro v' w' hown' hg _
    have hB : Below base w w' := (Below.refl _ _).grown hg hbase hown.at
    have e : ∃ A' c', v' = .slice A' (bs ++ news).length c' := by
      rcases hown'.2 with ⟨hv, h0⟩ | ⟨g, cap, cur, hv, _⟩
      · exact ⟨none, 0, by rw [hv, List.length_append, h0]⟩
      · exact ⟨_, cap, by rw [hv, List.length_append]⟩
    obtain ⟨A', c', rfl⟩ := e
    refine h A' c' w' _ rfl ?_ hB
    unfold OwnB
    rw [List.map_append, List.length_append]
    rw [List.length_append] at hown'
    exact hown'

theorem wpList_appB {ops : Array Oper} {rest : List Oper} {o : Oper} {a : Act} {w : World} {Q : Exit → Act → World → Prop} (hgd : o.guard = none) (s x : Operand)
    (ho : o.op = .call { callee := .builtin .append, args := #[s, x], argTypes := #[25, 25] })
    (base : Nat) (A : Option Addr) (c : Nat) (bs : List UInt8) (hs : a.eval s = .slice A bs.length c) (hown : OwnB w base A c bs)
    (ad : Addr) (m k : Nat) (news : List UInt8) (hx : a.eval x = .slice (some ad) m k) (hm : news.length = m) (hnews : ∀ j (h : j < news.length), w.cell? (ad.add j) = some (.int .u8 (news[j].toNat : Int)))
    (hbytes : bs.length + m ≤ 140737488355328) (hbase : base ≤ w.heap.size)
    (h : ∀ A' c' w' bs', bs' = bs ++ news → OwnB w' base A' c' bs' → Below base w w' → wpList Tryd.prog ops Q rest (a.put o.dst (.slice A' bs'.length c')) w') : wpList Tryd.prog ops Q (o :: rest) a w :=
  wpList_plain hgd fun _ hK => wp_appB s x ho base A c bs hs hown ad m k news hx hm hnews hbytes hbase fun A' c' w' bs' h1 h2 h3 => hK _ _ (h A' c' w' bs' h1 h2 h3)

theorem step_appB {ops : Array Oper} {o : Oper} {a : Act} {w : World} {K : Act → World → Prop} {Q : Exit → Act → World → Prop} {E : Prop} (hgd : o.guard = none) (s x : Operand)
    (ho : o.op = .call { callee := .builtin .append, args := #[s, x], argTypes := #[25, 25] })
    (base : Nat) (A : Option Addr) (c : Nat) (bs : List UInt8) (hs : a.eval s = .slice A bs.length c) (hown : OwnB w base A c bs)
    (ad : Addr) (m k : Nat) (news : List UInt8) (hx : a.eval x = .slice (some ad) m k) (hm : news.length = m) (hnews : ∀ j (h : j < news.length), w.cell? (ad.add j) = some (.int .u8 (news[j].toNat : Int)))
    (hbytes : bs.length + m ≤ 140737488355328) (hbase : base ≤ w.heap.size)
    (h : ∀ A' c' w' bs', bs' = bs ++ news → OwnB w' base A' c' bs' → Below base w w' → K (a.put o.dst (.slice A' bs'.length c')) w') :
    if Region.wanted o (yielded ops a.tmps) = true then Oper.wp Tryd.prog o a w K Q else E := by
  have hw : Region.wanted o (yielded ops a.tmps) = true := by simp [Region.wanted, hgd]
  rw [if_pos hw]
  exact wp_appB s x ho base A c bs hs hown ad m k news hx hm hnews hbytes hbase h

end Go.Proofs.YtoadmjnaakbljaaDoor
