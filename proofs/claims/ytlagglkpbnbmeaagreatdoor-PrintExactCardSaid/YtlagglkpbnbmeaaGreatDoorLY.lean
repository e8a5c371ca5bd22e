/- Bundle of Bytes LexW4 LexP LexW5 LexW6 LexP2 RowsG LexW7 WordP Drawn. -/
import Derived.Test.YtlagglkpbnbmeaaGreatDoorLX
import Derived.Deep.RegionLaw
import Derived.Deep.DeepCutAuto
import Derived.Deep.CutBlock
import Derived.StillTailTactics
import Derived.Deep.RegionHeld3

/- Rows of bytes: how they read as a string, and how a row of the call's own grows. -/
namespace Go.Proofs.YtlagglkpbnbmeaaGreatDoor
open Go Go.RowKit

theorem strB (bs : List UInt8) : ((bs.map (fun x => (x.toNat : Int))).foldl (fun r n => r.push (UInt8.ofNat n.toNat)) ByteArray.empty) = (⟨bs.toArray⟩ : ByteArray) := by
  rw [foldl_push_bytes]
  have e : ((fun n : Int => UInt8.ofNat n.toNat) ∘ fun x : UInt8 => (x.toNat : Int)) = id := by funext x; simp
  rw [List.map_map, e, List.map_id]
  show (⟨(#[] : Array UInt8) ++ bs.toArray⟩ : ByteArray) = _
  simp

theorem run_conv {P : Program} {w : World} {A : Option Addr} {bs : List UInt8} {n c : Nat} (h : RdB w A bs) (hn : n = bs.length) {T e D : TypeId} (hs : P.underlying T = some (.slice e)) (he : P.underlying e = some (.int .u8))
    (hd : P.underlying D = some .string) : (convert T D (.slice A n c)).run P w = .ok (str bs) w := by
  subst hn
  rw [run_convert_bytes_string w T D e _ _ c hs he hd]
  cases A with
  | none =>
    have : bs = [] := by
      cases bs with
      | nil => rfl
      | cons x r =>
        obtain ⟨ad, hA, _⟩ := h 0 (by simp)
        cases hA
    subst this
    simp [Conv.bytesToString]
    rfl
  | some ad =>
    have hl : (loadCells ad bs.length).run P w = .ok ((bs.map (fun x => (x.toNat : Int))).map (Value.int .u8)).toArray w := by
      have := run_loadCells_list (P := P) w ad ((bs.map (fun x => (x.toNat : Int))).map (Value.int .u8)) (fun j v hj => by
        rw [List.getElem?_map, List.getElem?_map] at hj
        have hjl : j < bs.length := by
          rcases Nat.lt_or_ge j bs.length with h1 | h1
          · exact h1
          · rw [List.getElem?_eq_none h1] at hj; simp at hj
        rw [List.getElem?_eq_getElem hjl] at hj
        obtain ⟨ad', hA, hc⟩ := h j hjl
        cases hA
        simpa [hc] using hj)
      simpa using this
    rw [run_bytesToString w _ _ c _ hl, strB]

def OwnB (w : World) (base : Nat) (A : Option Addr) (c : Nat) (bs : List UInt8) : Prop :=
  w.ownsRow base 5 1 (.slice A bs.length c) bs.length (bs.map fun x => Value.int .u8 (x.toNat : Int))
theorem OwnB.nil (w : World) (base : Nat) : OwnB w base none 0 [] := World.ownsRow_nil _ _ _ _
theorem OwnB.keep {w w' : World} {base c : Nat} {A : Option Addr} {bs : List UInt8} (h : OwnB w base A c bs) (hb : Below w.heap.size w w') : OwnB w' base A c bs :=
  World.ownsRow.kept (row := none) h ⟨hb.os, hb.tape, hb.output, hb.size, fun k hk _ => hb.block k hk⟩ (by cases hv : (Value.slice A bs.length c).ownBlock <;> simp)
theorem OwnB.alloc {w : World} {base c : Nat} {A : Option Addr} {bs : List UInt8} (h : OwnB w base A c bs) (o : Obj) : OwnB (w.alloc o) base A c bs := World.ownsRow.alloc h o
theorem OwnB.drew {w : World} {base c : Nat} {A : Option Addr} {bs : List UInt8} (h : OwnB w base A c bs) : OwnB w.drew base A c bs := h
theorem OwnB.rd {w : World} {base c : Nat} {A : Option Addr} {bs : List UInt8} (h : OwnB w base A c bs) : RdB w A bs := by
  intro j hj
  rcases h.2 with ⟨hv, h0⟩ | ⟨g, cap, cur, hv, _, hh, _⟩
  · omega
  · cases hv
    refine ⟨_, rfl, World.ownsRow.cells (g := g) h rfl j _ ?_⟩
    simp [List.getElem?_eq_getElem hj]
theorem OwnB.le {w : World} {base c : Nat} {A : Option Addr} {bs : List UInt8} (h : OwnB w base A c bs) : bs.length ≤ c := by
  rcases h.2 with ⟨hv, h0⟩ | ⟨g, cap, cur, hv, _, hh, hc, _⟩
  · omega
  · cases hv; exact hc
theorem OwnB.at {w : World} {base c : Nat} {A : Option Addr} {bs : List UInt8} (h : OwnB w base A c bs) : ∀ k, (Value.slice A bs.length c).ownBlock = some k → base ≤ k := fun k hk => (World.ownsRow.lt h k hk).1

theorem OwnB.made (w : World) (bs : List UInt8) (hl : bs.length ≤ 1000000) : OwnB (w.alloc (.cells (bs.map fun x => Value.int .u8 (x.toNat : Int)).toArray 5)) w.heap.size (some ⟨w.heap.size, 0, none⟩) bs.length bs :=
  ⟨by simp, .inr ⟨w.heap.size, bs.length, _, rfl, Nat.le_refl _, heap_alloc_new w _, Nat.le_refl _, by unfold maxLen; omega, by simp, by simpa using List.take_of_length_le (by simp)⟩⟩

theorem newsB (w : World) (bs : List UInt8) (t : TypeId) : ∀ j (h : j < bs.length), (w.alloc (.cells (bs.map fun x => Value.int .u8 (x.toNat : Int)).toArray t)).cell? ((⟨w.heap.size, 0, none⟩ : Addr).add j) = some (.int .u8 (bs[j].toNat : Int)) := by
  intro j hj
  have e : (⟨w.heap.size, 0, none⟩ : Addr).add j = ⟨w.heap.size, j, none⟩ := by unfold Addr.add; split <;> simp_all
  rw [e, cell_of_row _ w.heap.size j _ t (0, 0) (heap_alloc_new w _)]
  simp [hj]

theorem newsBd (w : World) (bs : List UInt8) (t : TypeId) : ∀ j (h : j < bs.length), (w.alloc (.cells (bs.map fun x => Value.int .u8 (x.toNat : Int)).toArray t)).drew.cell? ((⟨w.heap.size, 0, none⟩ : Addr).add j) = some (.int .u8 (bs[j].toNat : Int)) := newsB w bs t

theorem infoB : (Tryz.prog.info? 5).map (fun i => (i.zero, i.size, i.bytes)) = some (some (.int .u8 0), 1, 1) := by kernel_rfl

theorem wp_appB {o : Oper} {a : Act} {w : World} {K : Act → World → Prop} {Q : Exit → Act → World → Prop} (s x : Operand)
    (ho : o.op = .call { callee := .builtin .append, args := #[s, x], argTypes := #[50, 50] })
    (base : Nat) (A : Option Addr) (c : Nat) (bs : List UInt8) (hs : a.eval s = .slice A bs.length c) (hown : OwnB w base A c bs)
    (ad : Addr) (m k : Nat) (news : List UInt8) (hx : a.eval x = .slice (some ad) m k) (hm : news.length = m) (hnews : ∀ j (h : j < news.length), w.cell? (ad.add j) = some (.int .u8 (news[j].toNat : Int)))
    (hbytes : bs.length + m ≤ 140737488355328) (hbase : base ≤ w.heap.size)
    (h : ∀ A' c' w' bs', bs' = bs ++ news → OwnB w' base A' c' bs' → Below base w w' → K (a.put o.dst (.slice A' bs'.length c')) w') : o.wp Tryz.prog a w K Q := by
  subst hm
  obtain ⟨i0, hi, hz0, hz1, hz2⟩ := info_parts infoB
  refine wp_append_own w s x 50 ho base 5 i0 (.int .u8 0) 1 1 Tryz.underlying50 hi hz0 hz1 hz2 rfl (by decide) _ _ _ hs hown ad news.length k (news.map fun x => Value.int .u8 (x.toNat : Int)) hx (by simp) ?_ ?_ ?_ ?_ hbase ?_
  · intro j u hu
    rw [List.getElem?_map] at hu
    rcases Nat.lt_or_ge j news.length with h1 | h1
    · rw [List.getElem?_eq_getElem h1] at hu
      rw [hnews j h1]
      simpa using hu
    · rw [List.getElem?_eq_none h1] at hu; simp at hu
  · intro u hu
    simp only [List.mem_map] at hu
    obtain ⟨y, _, rfl⟩ := hu
    rfl
  · unfold maxLen; omega
  · omega
  · intro v' w' hown' hg _
    have hB : Below base w w' := (Below.refl _ _).grown hg hbase hown.at
    have e : ∃ A' c', v' = .slice A' (bs ++ news).length c' := by
      rcases hown'.2 with ⟨hv, h0⟩ | ⟨g, cap, cur, hv, _⟩
      · exact ⟨none, 0, by rw [hv, List.length_append, h0]⟩
      · exact ⟨_, cap, by rw [hv, List.length_append]⟩
    obtain ⟨A', c', rfl⟩ := e
    refine h A' c' w' _ rfl ?_ hB
    unfold OwnB
    rw [List.map_append, List.length_append]
    rw [List.length_append] at hown'
    exact hown'

theorem wpList_appB {ops : Array Oper} {rest : List Oper} {o : Oper} {a : Act} {w : World} {Q : Exit → Act → World → Prop} (hgd : o.guard = none) (s x : Operand)
    (ho : o.op = .call { callee := .builtin .append, args := #[s, x], argTypes := #[50, 50] })
    (base : Nat) (A : Option Addr) (c : Nat) (bs : List UInt8) (hs : a.eval s = .slice A bs.length c) (hown : OwnB w base A c bs)
    (ad : Addr) (m k : Nat) (news : List UInt8) (hx : a.eval x = .slice (some ad) m k) (hm : news.length = m) (hnews : ∀ j (h : j < news.length), w.cell? (ad.add j) = some (.int .u8 (news[j].toNat : Int)))
    (hbytes : bs.length + m ≤ 140737488355328) (hbase : base ≤ w.heap.size)
    (h : ∀ A' c' w' bs', bs' = bs ++ news → OwnB w' base A' c' bs' → Below base w w' → wpList Tryz.prog ops Q rest (a.put o.dst (.slice A' bs'.length c')) w') : wpList Tryz.prog ops Q (o :: rest) a w :=
  wpList_plain hgd fun _ hK => wp_appB s x ho base A c bs hs hown ad m k news hx hm hnews hbytes hbase fun A' c' w' bs' h1 h2 h3 => hK _ _ (h A' c' w' bs' h1 h2 h3)

theorem step_appB {ops : Array Oper} {o : Oper} {a : Act} {w : World} {K : Act → World → Prop} {Q : Exit → Act → World → Prop} {E : Prop} (hgd : o.guard = none) (s x : Operand)
    (ho : o.op = .call { callee := .builtin .append, args := #[s, x], argTypes := #[50, 50] })
    (base : Nat) (A : Option Addr) (c : Nat) (bs : List UInt8) (hs : a.eval s = .slice A bs.length c) (hown : OwnB w base A c bs)
    (ad : Addr) (m k : Nat) (news : List UInt8) (hx : a.eval x = .slice (some ad) m k) (hm : news.length = m) (hnews : ∀ j (h : j < news.length), w.cell? (ad.add j) = some (.int .u8 (news[j].toNat : Int)))
    (hbytes : bs.length + m ≤ 140737488355328) (hbase : base ≤ w.heap.size)
    (h : ∀ A' c' w' bs', bs' = bs ++ news → OwnB w' base A' c' bs' → Below base w w' → K (a.put o.dst (.slice A' bs'.length c')) w') :
    if Region.wanted o (yielded ops a.tmps) = true then Oper.wp Tryz.prog o a w K Q else E := by
  have hw : Region.wanted o (yielded ops a.tmps) = true := by simp [Region.wanted, hgd]
  rw [if_pos hw]
  exact wp_appB s x ho base A c bs hs hown ad m k news hx hm hnews hbytes hbase h

end Go.Proofs.YtlagglkpbnbmeaaGreatDoor

/- Walks: texts written and read, numbers written. -/
namespace Go.Proofs.YtlagglkpbnbmeaaGreatDoor
open Go Go.RowKit

set_option maxHeartbeats 1000000
set_option maxRecDepth 100000

theorem isPlain_iff (c : UInt8) : isPlain c = true ↔ 32 ≤ c.toNat ∧ c.toNat ≤ 126 ∧ c.toNat ≠ 34 ∧ c.toNat ≠ 92 := by simp [isPlain, and_assoc]
theorem bits_and15 (y : UInt8) : bits BinOp.and IntKind.u8 (y.toNat : Int) 15 = ((y.toNat % 16 : Nat) : Int) := by
  have h : ∀ n : Fin 256, bits BinOp.and IntKind.u8 (n.val : Int) 15 = ((n.val % 16 : Nat) : Int) := by decide +kernel
  exact h ⟨y.toNat, y.toNat_lt⟩
theorem hexB_hexD : ∀ k, (h : k < 16) → hexB[k]'h = hexD k := by decide +kernel
theorem escs_len (l : List UInt8) : (l.flatMap esc).length ≤ 3 * l.length := by
  induction l with
  | nil => simp
  | cons c r ih =>
    simp only [List.flatMap_cons, List.length_append, List.length_cons]
    have : (esc c).length ≤ 3 := by unfold esc; split <;> simp
    omega

theorem refLong_any (l : List UInt8) (w : World) (hmax : l.length ≤ 40000000000000) :
    Calls Tryz.prog 39 #[str l] w fun e w' => e = .returned (str (mLong l)) ∧ Below w.heap.size w w' := by
  go_enter Tryz.func39, Tryz.ntmps39
  go_wp2_with fail
  go_loopw [3, 4] (fun v i wr => ∃ (k : Nat) (A : Option Addr) (c : Nat), k ≤ l.length ∧ i = .int .i64 k ∧ v = .slice A (34 :: (l.take k).flatMap esc).length c ∧ OwnB wr w.heap.size A c (34 :: (l.take k).flatMap esc) ∧ Below w.heap.size w wr) (fun _ i _ => l.length - (intOf i).toNat)
  case atStart => exact ⟨0, _, _, by omega, rfl, rfl, OwnB.made w [34] (by decide), (Below.refl _ _).alloc (Nat.le_refl _) _⟩
  case round =>
    obtain ⟨k, A, c, hk, rfl, rfl, hown, hbl⟩ := hrel
    generalize hbs : (34 :: (l.take k).flatMap esc : List UInt8) = bs at hown ⊢
    have hbs' := hide hbs; clear hbs
    by_cases hlt : k < l.length
    · obtain ⟨y, hy, hdy⟩ := str_at l hlt
      have htk : 34 :: (l.take (k + 1)).flatMap esc = bs ++ esc y := by
        rw [← hbs'.out, ← List.take_append_getElem hlt, hy]
        simp
      have htk' := hide htk; clear htk hdy
      have hlen : bs.length ≤ 120000000000001 := by
        rw [← hbs'.out]
        have := escs_len (l.take k)
        simp only [List.length_take, List.length_cons] at *
        omega
      have hsz := hbl.size
      cases hp : isPlain y
      · have hp' := hide hp; clear hp
        obtain ⟨p, hpp⟩ : ∃ p, p = y.toNat / 16 := ⟨_, rfl⟩
        obtain ⟨q, hqq⟩ : ∃ q, q = y.toNat % 16 := ⟨_, rfl⟩
        have hyl := y.toNat_lt
        have hp16 : p < 16 := by omega
        have hq16 : q < 16 := by omega
        have hp16' : (p : Int) < 16 := by omega
        have hq16' : (q : Int) < 16 := by omega
        have e1 : (y.toNat : Int) / 16 = (p : Int) := by omega
        have e2 : bits BinOp.and IntKind.u8 (y.toNat : Int) 15 = (q : Int) := by rw [bits_and15, hqq]
        have e3 : ∀ h : p < 16, ([48, 49, 50, 51, 52, 53, 54, 55, 56, 57, 97, 98, 99, 100, 101, 102] : List UInt8)[p]'h = hexD p := fun h => hexB_hexD p h
        have e4 : ∀ h : q < 16, ([48, 49, 50, 51, 52, 53, 54, 55, 56, 57, 97, 98, 99, 100, 101, 102] : List UInt8)[q]'h = hexD q := fun h => hexB_hexD q h
        have hesc : esc y = [92, hexD p, hexD q] := by
          rw [esc, hp'.out, hpp, hqq]
          rfl
        have hesc' := hide hesc; clear hesc
        have hcases : (y.toNat < 32 ∨ 126 < y.toNat ∨ (32 ≤ y.toNat ∧ y.toNat ≤ 126 ∧ ((y.toNat : Int) != 34) = false) ∨ (32 ≤ y.toNat ∧ y.toNat ≤ 126 ∧ ((y.toNat : Int) != 34) = true ∧ ((y.toNat : Int) != 92) = false)) := by
          have := hp'.out
          rw [← Bool.not_eq_true, isPlain_iff] at this
          simp only [bne_eq_false_iff_eq, bne_iff_ne, ne_eq]
          omega
        have hpq' := hide (And.intro hpp hqq); clear hpp hqq
        rcases hcases with z | z | ⟨z1, z2, z⟩ | ⟨z1, z2, z3, z⟩
        all_goals
          go_wp2_with fail
          go_region_law (refine step_appB rfl (.tmp 34) (.tmp 41) rfl w.heap.size A c bs rfl (hown.alloc _).drew _ 3 3 [92, hexD p, hexD q] rfl rfl (newsBd _ [92, hexD p, hexD q] _) (by omega) (by simp; omega) ?_; intro A' c' w1 bs1 hb1 hown1 hB1; have hb1' := hide hb1; clear hb1)
          all_goals
            go_wp2_with fail
            go_roundw
            case rel =>
              refine ⟨k + 1, A', c', by omega, by go_num, ?_, ?_, ?_⟩
              · rw [htk'.out, hesc'.out, ← hb1'.out]
              · rw [htk'.out, hesc'.out, ← hb1'.out]; exact hown1
              · exact hbl.trans ((((Below.refl _ _).alloc hsz _).drew).trans (hB1.mono (Nat.le_refl _)))
            case measure => simp [intOf]; omega
      · have hp' := hide hp; clear hp
        obtain ⟨q1, q2, q3, q4⟩ := (isPlain_iff y).1 hp'.out
        have q3' : ((y.toNat : Int) != 34) = true := by rw [bne_iff_ne]; omega
        have q4' : ((y.toNat : Int) != 92) = true := by rw [bne_iff_ne]; omega
        clear q3 q4
        go_wp2_with (at_builtin; refine wpList_appB rfl (.tmp 30) (.tmp 32) rfl w.heap.size A c bs rfl (hown.alloc _) _ 1 1 [y] rfl rfl (newsB _ [y] _) (by omega) (by simp; omega) ?_; intro A' c' w1 bs1 hb1 hown1 hB1; have hb1' := hide hb1; clear hb1)
        have hesc : esc y = [y] := by rw [esc, hp'.out]; rfl
        go_roundw
        case rel =>
          refine ⟨k + 1, A', c', by omega, by go_num, ?_, ?_, ?_⟩
          · rw [htk'.out, hesc, ← hb1'.out]
          · rw [htk'.out, hesc, ← hb1'.out]; exact hown1
          · exact hbl.trans (((Below.refl _ _).alloc hsz _).trans (hB1.mono (Nat.le_refl _)))
        case measure => simp [intOf]; omega
    · have hsz := hbl.size
      have hlen : bs.length ≤ 120000000000001 := by
        rw [← hbs'.out]
        have := escs_len (l.take k)
        simp only [List.length_take, List.length_cons] at *
        omega
      go_wp2_with (at_builtin; refine wpList_appB rfl (.tmp 43) (.tmp 44) rfl w.heap.size A c bs rfl (hown.alloc _) _ 1 1 [34] rfl rfl (newsB _ [34] _) (by omega) (by simp; omega) ?_; intro A' c' w1 bs1 hb1 hown1 hB1; have hb1' := hide hb1; clear hb1; have hcv := run_conv (P := Tryz.prog) (c := c') hown1.rd rfl Tryz.underlying50 Tryz.underlying5 Tryz.underlying9)
      go_ret
      refine ⟨ret_str ?_, hbl.trans (((Below.refl _ _).alloc hsz _).trans (hB1.mono (Nat.le_refl _)))⟩
      rw [hb1'.out, ← hbs'.out, List.take_of_length_le (by omega)]
      rfl
end Go.Proofs.YtlagglkpbnbmeaaGreatDoor

/- Plain laws of texts: what is quoted is read back, and nothing else is. -/
namespace Go.Proofs.YtlagglkpbnbmeaaGreatDoor

def hexPair : List UInt8 → Option UInt8
  | h :: l :: _ => match hexV h, hexV l with | some a, some b => some (UInt8.ofNat (16 * a + b)) | _, _ => none
  | _ => none
def mLenK : Nat → List UInt8 → List UInt8
  | _, [] => []
  | k + 1, _ :: r => mLenK k r
  | 0, c :: r =>
    if c.toNat = 92 then
      match hexPair r with
      | some v => v :: mLenK 2 r
      | none => c :: mLenK 0 r
    else c :: mLenK 0 r
end Go.Proofs.YtlagglkpbnbmeaaGreatDoor

/- Walks: texts read, of the program and of the reference. -/
namespace Go.Proofs.YtlagglkpbnbmeaaGreatDoor
open Go Go.RowKit

set_option maxHeartbeats 1000000
set_option maxRecDepth 100000

def unqV (s : List UInt8) : List UInt8 := (mUnquote s).getD []
def unqE (s : List UInt8) : Int := if (mUnquote s).isSome then 0 else 3
theorem unqVE_some {s v : List UInt8} (h : mUnquote s = some v) : unqV s = v ∧ unqE s = 0 := by simp [unqV, unqE, h]
theorem unqVE_none {s : List UInt8} (h : mUnquote s = none) : unqV s = [] ∧ unqE s = 3 := by simp [unqV, unqE, h]
theorem mUnq_plain {y : UInt8} {r : List UInt8} (h : isPlain y = true) : mUnq (y :: r) = (mUnq r).map (y :: ·) := by rw [mUnq.eq_def]; simp only [h, if_true]
theorem mUnq_bad {y : UInt8} {r : List UInt8} (h : isPlain y = false) (h2 : y.toNat ≠ 92) : mUnq (y :: r) = none := by
  rw [mUnq.eq_def]; simp only [h, Bool.false_eq_true, if_false, h2]
theorem mUnq_short {y : UInt8} {r : List UInt8} (h : isPlain y = false) (h2 : r.length < 2) : mUnq (y :: r) = none := by
  rw [mUnq.eq_def]
  simp only [h, Bool.false_eq_true, if_false]
  split
  · match r, h2 with
    | [], _ => rfl
    | [_], _ => rfl
  · rfl
theorem mUnq_esc {y h l : UInt8} {r : List UInt8} (hp : isPlain y = false) (h2 : y.toNat = 92) : mUnq (y :: h :: l :: r) =
    match hexV h, hexV l with
    | some a, some b => if isPlain (UInt8.ofNat (16 * a + b)) then none else (mUnq r).map (UInt8.ofNat (16 * a + b) :: ·)
    | _, _ => none := by
  rw [mUnq.eq_def]
  simp only [hp, Bool.false_eq_true, if_false, h2, if_true]
  rfl
theorem bits_or_hex (x z : Nat) (hx : x < 16) (hz : z < 16) : bits BinOp.or IntKind.u8 ((x : Int) * 16) (z : Int) = ((UInt8.ofNat (16 * x + z)).toNat : Int) := by
  have h : ∀ a b : Fin 16, bits BinOp.or IntKind.u8 ((a.val : Int) * 16) (b.val : Int) = ((UInt8.ofNat (16 * a.val + b.val)).toNat : Int) := by decide +kernel
  exact h ⟨x, hx⟩ ⟨z, hz⟩
theorem hexV_lt {c : UInt8} {a : Nat} (h : hexV c = some a) : a < 16 := by
  rcases hexV_cases c with ⟨_, _, e⟩ | ⟨_, _, e⟩ | ⟨_, _, e⟩ <;> rw [e] at h <;> first | (injection h with h; omega) | cases h

theorem wordUnquote_body (l t : List UInt8) (w : World) (hmax : l.length ≤ 40000000000000) (h2 : 2 ≤ l.length) (hx : l[0]'(by omega) = 34) (hz : l[l.length - 1]'(by omega) = 34)
    (ht : l.tail.take (l.length - 1 - 1) = t) (hm : mUnquote l = match mUnq t with | some t => if t.length ≤ 200 then some t else none | none => none) :
    Calls Tryz.prog 112 #[str l] w fun e w' => e = .returned (.tuple #[str (unqV l), .int .i64 (unqE l)]) ∧ Below w.heap.size w w' := by
  have hm' := hide hm; clear hm
  have htl : t.length = l.length - 2 := by rw [← ht]; simp; omega
  have htl' := hide htl; clear htl
  go_enter Tryz.func112, Tryz.ntmps112
  go_wp2_with fail
  have hmx : t.length ≤ 40000000000000 := by have := htl'.out; omega
  go_loopw [5, 6] (fun v i wr => ∃ (k : Nat) (A : Option Addr) (c : Nat) (bs : List UInt8), k ≤ t.length ∧ i = .int .i64 k ∧ bs.length ≤ k ∧ v = .slice A bs.length c ∧ OwnB wr w.heap.size A c bs ∧ mUnq t = (mUnq (t.drop k)).map (bs ++ ·) ∧ Below w.heap.size w wr) (fun _ i _ => t.length - (intOf i).toNat)
  case atStart =>
    refine ⟨0, none, 0, [], Nat.zero_le _, rfl, Nat.le_refl _, rfl, OwnB.nil _ _, ?_, Below.refl _ _⟩
    simp
  case round =>
    obtain ⟨k, A, c, bs, hk, rfl, hbk, rfl, hown, he, hbl⟩ := hrel
    have he' := hide he; clear he
    have hsz := hbl.size
    by_cases hlt : k < t.length
    · obtain ⟨y, hy, hdy⟩ := str_at t hlt
      have hdy' := hide hdy; clear hdy
      cases hp : isPlain y
      · have hp' := hide hp; clear hp
        by_cases hy92 : y.toNat = 92
        · have hy' : ((y.toNat : Int) != 92) = false := by rw [bne_eq_false_iff_eq]; omega
          have hy2 := hide hy92; clear hy92
          by_cases h3 : k + 2 < t.length
          · obtain ⟨yh, hyh, hdh⟩ := str_at t (k := k + 1) (by omega)
            obtain ⟨yl, hyl, hdl⟩ := str_at t (k := k + 2) (by omega)
            have hesc : mUnq (t.drop k) = mUnq (y :: yh :: yl :: t.drop (k + 3)) := by rw [hdy'.out, hdh, hdl]
            have hesc' := hide hesc; clear hesc hdh hdl
            have h3' : (k : Int) + 2 < t.length := by omega
            go_wp2_with (go_at_call 131; with_reducible refine (wordPlain_any y _).mono ?_; rintro e w' ⟨rfl, rfl⟩; rw [hp'.out])
            cases hh : hexV yh with
            | none =>
              have hh' := hide hh; clear hh
              with_reducible refine (wordDigit_any yh _).mono ?_
              rintro e w' ⟨rfl, rfl⟩
              rw [hh'.out]
              go_wp2_with fail
              with_reducible refine (wordDigit_any yl _).mono ?_
              rintro e w' ⟨rfl, rfl⟩
              go_wp2_with fail
              have hq : mUnq t = none := by rw [he'.out, hesc'.out, mUnq_esc hp'.out hy2.out, hh'.out]; simp only [Option.map_none]
              have hn : mUnquote l = none := by rw [hm'.out, hq]
              go_ret2
              rw [(unqVE_none hn).1, (unqVE_none hn).2]
              exact ⟨rfl, hbl⟩
            | some x =>
              have hh' := hide hh; clear hh
              have hx16 := hexV_lt hh'.out
              with_reducible refine (wordDigit_any yh _).mono ?_
              rintro e w' ⟨rfl, rfl⟩
              rw [hh'.out]
              go_wp2_with fail
              cases hl : hexV yl with
              | none =>
                have hl' := hide hl; clear hl
                with_reducible refine (wordDigit_any yl _).mono ?_
                rintro e w' ⟨rfl, rfl⟩
                rw [hl'.out]
                go_wp2_with fail
                have hq : mUnq t = none := by rw [he'.out, hesc'.out, mUnq_esc hp'.out hy2.out, hh'.out, hl'.out]; simp only [Option.map_none]
                have hn : mUnquote l = none := by rw [hm'.out, hq]
                go_ret2
                rw [(unqVE_none hn).1, (unqVE_none hn).2]
                exact ⟨rfl, hbl⟩
              | some z =>
                have hl' := hide hl; clear hl
                have hz16 := hexV_lt hl'.out
                with_reducible refine (wordDigit_any yl _).mono ?_
                rintro e w' ⟨rfl, rfl⟩
                rw [hl'.out]
                obtain ⟨v, hv⟩ : ∃ v, v = UInt8.ofNat (16 * x + z) := ⟨_, rfl⟩
                have hor := bits_or_hex x z hx16 hz16
                rw [← hv] at hor
                have hv' := hide hv; clear hv
                go_wp2_with fail
                with_reducible refine (wordPlain_any v _).mono ?_
                rintro e w' ⟨rfl, rfl⟩
                cases hpv : isPlain v
                · have hpv' := hide hpv; clear hpv
                  go_wp2_with (at_builtin; refine wpList_appB rfl (.tmp 86) (.tmp 91) rfl w.heap.size A c bs rfl (hown.alloc _) _ 1 1 [v] rfl rfl (newsB _ [v] _) (by omega) (by simp; omega) ?_; intro A' c' w1 bs1 hb1 hown1 hB1; have hb1' := hide hb1; clear hb1)
                  have hl1 : bs1.length = bs.length + 1 := by rw [hb1'.out]; simp
                  go_roundw
                  case rel =>
                    refine ⟨k + 3, A', c', bs1, by omega, by go_num, by omega, rfl, hown1, ?_, hbl.trans (((Below.refl _ _).alloc hsz _).trans (hB1.mono (Nat.le_refl _)))⟩
                    rw [he'.out, hesc'.out, mUnq_esc hp'.out hy2.out, hh'.out, hl'.out]
                    simp only [← hv'.out, hpv'.out, Bool.false_eq_true, if_false, hb1'.out, Option.map_map]
                    congr 1
                    funext s
                    simp
                  case measure => simp [intOf]; omega
                · have hpv' := hide hpv; clear hpv
                  go_wp2_with fail
                  have hq : mUnq t = none := by rw [he'.out, hesc'.out, mUnq_esc hp'.out hy2.out, hh'.out, hl'.out]; simp only [← hv'.out, hpv'.out, if_true, Option.map_none]
                  have hn : mUnquote l = none := by rw [hm'.out, hq]
                  go_ret2
                  rw [(unqVE_none hn).1, (unqVE_none hn).2]
                  exact ⟨rfl, hbl⟩
          · have h3' : (t.length : Int) ≤ k + 2 := by omega
            go_wp2_with (go_at_call 131; with_reducible refine (wordPlain_any y _).mono ?_; rintro e w' ⟨rfl, rfl⟩; rw [hp'.out])
            have hq : mUnq t = none := by rw [he'.out, hdy'.out, mUnq_short hp'.out (by simp; omega)]; simp only [Option.map_none]
            have hn : mUnquote l = none := by rw [hm'.out, hq]
            go_ret2
            rw [(unqVE_none hn).1, (unqVE_none hn).2]
            exact ⟨rfl, hbl⟩
        · have hy' : ((y.toNat : Int) != 92) = true := by rw [bne_iff_ne]; omega
          have hy2 := hide hy92; clear hy92
          go_wp2_with (go_at_call 131; with_reducible refine (wordPlain_any y _).mono ?_; rintro e w' ⟨rfl, rfl⟩; rw [hp'.out])
          have hq : mUnq t = none := by rw [he'.out, hdy'.out, mUnq_bad hp'.out hy2.out]; simp only [Option.map_none]
          have hn : mUnquote l = none := by rw [hm'.out, hq]
          go_ret2
          rw [(unqVE_none hn).1, (unqVE_none hn).2]
          exact ⟨rfl, hbl⟩
      · have hp' := hide hp; clear hp
        go_wp2_with (first | (go_at_call 131; with_reducible refine (wordPlain_any y _).mono ?_; rintro e w' ⟨rfl, rfl⟩; rw [hp'.out]) | (at_builtin; refine wpList_appB rfl (.tmp 44) (.tmp 46) rfl w.heap.size A c bs rfl (hown.alloc _) _ 1 1 [y] rfl rfl (newsB _ [y] _) (by omega) (by simp; omega) ?_; intro A' c' w1 bs1 hb1 hown1 hB1; have hb1' := hide hb1; clear hb1))
        have hl1 : bs1.length = bs.length + 1 := by rw [hb1'.out]; simp
        go_roundw
        case rel =>
          refine ⟨k + 1, A', c', bs1, by omega, by go_num, by omega, rfl, hown1, ?_, hbl.trans (((Below.refl _ _).alloc hsz _).trans (hB1.mono (Nat.le_refl _)))⟩
          rw [he'.out, hdy'.out, mUnq_plain hp'.out, hb1'.out, Option.map_map]
          congr 1
          funext s
          simp
        case measure => simp [intOf]; omega
    · have hkt : k = t.length := by omega
      have hfin : mUnq t = some bs := by
        rw [he'.out, List.drop_eq_nil_of_le (by omega)]
        simp [mUnq]
      have hfin' := hide hfin; clear hfin
      have hkt' := hide hkt; clear hkt
      have hcv := run_conv (P := Tryz.prog) (c := c) hown.rd rfl Tryz.underlying50 Tryz.underlying5 Tryz.underlying9
      by_cases h200 : (bs.length : Int) ≤ 200
      · go_wp2_with fail
        have hn : mUnquote l = some bs := by
          rw [hm'.out, hfin'.out]
          exact if_pos (by omega)
        go_ret2
        rw [(unqVE_some hn).1, (unqVE_some hn).2]
        exact ⟨rfl, hbl⟩
      · go_wp2_with fail
        have hn : mUnquote l = none := by
          rw [hm'.out, hfin'.out]
          exact if_neg (by omega)
        go_ret2
        rw [(unqVE_none hn).1, (unqVE_none hn).2]
        exact ⟨rfl, hbl⟩

theorem getLast?_at (l : List UInt8) (h : 2 ≤ l.length) : l.getLast? = some (l[l.length - 1]'(by omega)) := by
  rw [List.getLast?_eq_getElem?, List.getElem?_eq_getElem]
theorem head?_at (l : List UInt8) (h : 2 ≤ l.length) : l.head? = some (l[0]'(by omega)) := by
  rw [List.head?_eq_getElem?, List.getElem?_eq_getElem]
theorem mid_take (l : List UInt8) : l.tail.take (l.length - 1 - 1) = l.tail.dropLast := by
  rw [List.dropLast_eq_take, List.length_tail]

theorem wordUnquote_any (l : List UInt8) (w : World) (hmax : l.length ≤ 40000000000000) :
    Calls Tryz.prog 112 #[str l] w fun e w' => e = .returned (.tuple #[str (unqV l), .int .i64 (unqE l)]) ∧ Below w.heap.size w w' := by
  by_cases h2 : l.length < 2
  · have hn : mUnquote l = none := by rw [mUnquote, if_neg (by omega)]
    have hn' := hide hn; clear hn
    have h2' : (l.length : Int) < 2 := by omega
    go_enter Tryz.func112, Tryz.ntmps112
    go_wp2_with fail
    go_ret2
    rw [(unqVE_none hn'.out).1, (unqVE_none hn'.out).2]
    exact ⟨rfl, Below.refl _ _⟩
  · obtain ⟨x, hx, hdx⟩ := str_at l (k := 0) (by omega)
    obtain ⟨z, hz, hdz⟩ := str_at l (k := l.length - 1) (by omega)
    have hh : l.head? = some x := by rw [head?_at l (by omega), hx]
    have hg : l.getLast? = some z := by rw [getLast?_at l (by omega), hz]
    by_cases h3 : x = 34
    · by_cases h4 : z = 34
      · subst h3
        subst h4
        refine wordUnquote_body l l.tail.dropLast w hmax (by omega) hx hz (mid_take l) ?_
        rw [mUnquote, if_pos ⟨by omega, hh, hg⟩]
        rfl
      · have hn : mUnquote l = none := by rw [mUnquote, if_neg (by rw [hg]; simp [h4])]
        have hn' := hide hn; clear hn hh hg hdx hdz
        subst h3
        have h4' : ((z.toNat : Int) != 34) = true := by
          rw [bne_iff_ne]
          intro e
          exact h4 (UInt8.toNat_inj.1 (by show z.toNat = 34; omega))
        have h2' : 2 ≤ (l.length : Int) := by omega
        clear h4
        go_enter Tryz.func112, Tryz.ntmps112
        go_wp2_with fail
        go_ret2
        rw [(unqVE_none hn'.out).1, (unqVE_none hn'.out).2]
        exact ⟨rfl, Below.refl _ _⟩
    · have hn : mUnquote l = none := by rw [mUnquote, if_neg (by rw [hh]; simp [h3])]
      have hn' := hide hn; clear hn hh hg hdx hdz
      have h3' : ((x.toNat : Int) != 34) = true := by
        rw [bne_iff_ne]
        intro e
        exact h3 (UInt8.toNat_inj.1 (by show x.toNat = 34; omega))
      have h2' : 2 ≤ (l.length : Int) := by omega
      clear h3
      go_enter Tryz.func112, Tryz.ntmps112
      go_wp2_with fail
      go_ret2
      rw [(unqVE_none hn'.out).1, (unqVE_none hn'.out).2]
      exact ⟨rfl, Below.refl _ _⟩

def quoV (s : List UInt8) : List UInt8 := (mQuote s).getD []
def quoE (s : List UInt8) : Int := if (mQuote s).isSome then 0 else 2
end Go.Proofs.YtlagglkpbnbmeaaGreatDoor

/- Walks: one token, by the program. -/
namespace Go.Proofs.YtlagglkpbnbmeaaGreatDoor
open Go Go.RowKit

set_option maxHeartbeats 1000000
set_option maxRecDepth 100000

theorem RdB.sub {w : World} {ad : Addr} {bs : List UInt8} (h : RdB w (some ad) bs) (i m : Nat) : RdB w (some (ad.add i)) ((bs.drop i).take m) := by
  intro j hj
  rw [List.length_take, List.length_drop] at hj
  obtain ⟨ad', hA, hc⟩ := h (i + j) (by omega)
  cases hA
  refine ⟨_, rfl, ?_⟩
  rw [add_of_add, hc]
  simp
theorem RdB.alloc {w : World} {A : Option Addr} {bs : List UInt8} (h : RdB w A bs) (o : Obj) : RdB (w.alloc o) A bs := h.below ((Below.refl _ _).alloc (Nat.le_refl _) _)
theorem RdB.some_ {w : World} {A : Option Addr} {bs : List UInt8} (h : RdB w A bs) {i : Nat} (hi : i < bs.length) : ∃ ad, A = some ad := by
  obtain ⟨ad, hA, _⟩ := h i hi
  exact ⟨ad, hA⟩
theorem take_step {bs : List UInt8} {i k : Nat} {y : UInt8} (hik : i ≤ k) (hd : bs.drop k = y :: bs.drop (k + 1)) : (bs.drop i).take (k + 1 - i) = (bs.drop i).take (k - i) ++ [y] := by
  have e : (bs.drop i).drop (k - i) = y :: bs.drop (k + 1) := by rw [List.drop_drop, ← hd]; congr 1; omega
  have e2 : k + 1 - i = (k - i) + 1 := by omega
  rw [e2, List.take_add, e]
  simp

abbrev tokV (k a b : Int) (s : List UInt8) (n : Int) : Value := .agg #[.int .i64 k, .int .i64 a, .int .i64 b, str s, .int .i64 n]
def LexRes (m : Option (BTok × Nat)) (i : Nat) (e : Ending) : Prop :=
  ∃ (k a b : Int) (s : List UInt8) (n : Int), e = .returned (.tuple #[tokV k a b s n, .bool m.isSome]) ∧ ∀ t len, m = some (t, len) → k = t.k ∧ a = i ∧ b = (i + len : Nat) ∧ s = t.s ∧ n = t.n

theorem still_left {P : Program} {f : FuncId} {args : Array Value} {w : World} {v : Value} (h : Calls P f args w fun e w' => e = .returned v ∧ w = w') :
    Calls P f args w fun e w' => e = .returned v ∧ w' = w := h.mono fun _ _ ⟨he, hm⟩ => ⟨he, hm.symm⟩
theorem kept_cells {w w1 : World} {cs : Array Value} {T : TypeId} (h : Below (w.alloc (.cells cs T)).heap.size (w.alloc (.cells cs T)) w1) :
    (∀ j, w1.cell? ⟨w.heap.size, j, none⟩ = cs[j]?) ∧ (∀ j, w1.frozen? ⟨w.heap.size, j, none⟩ = false) ∧ w.heap.size < w1.heap.size ∧ Below w.heap.size w w1 := by
  have hlt : w.heap.size < (w.alloc (.cells cs T)).heap.size := by simp
  refine ⟨fun j => ?_, fun j => ?_, ?_, ((Below.refl _ _).alloc (Nat.le_refl _) _).trans (h.mono (by simp))⟩
  · rw [h.cell (p := ⟨w.heap.size, j, none⟩) hlt]
    exact cell_of_row _ w.heap.size j cs T (0, 0) (heap_alloc_new w _)
  · rw [h.frozen (p := ⟨w.heap.size, j, none⟩) hlt]
    unfold World.frozen?
    rw [heap_alloc_new]
    simp
  · have := h.size
    simp at this
    omega

theorem span_cases {w : World} {ad : Addr} {bs : List UInt8} (hb : RdB w (some ad) bs) (k : Nat) (p : UInt8 → Bool) :
    (∃ y, k < bs.length ∧ (∀ o, (w.alloc o).cell? (ad.add k) = some (.int .u8 (y.toNat : Int))) ∧ Hid (bs.drop k = y :: bs.drop (k + 1)) ∧ Hid (p y = true)) ∨
    (∃ y, k < bs.length ∧ (∀ o, (w.alloc o).cell? (ad.add k) = some (.int .u8 (y.toNat : Int))) ∧ Hid (bs.drop k = y :: bs.drop (k + 1)) ∧ Hid (p y = false) ∧ Hid ((bs.drop k).takeWhile p = [])) ∨
    (bs.length ≤ k ∧ Hid ((bs.drop k).takeWhile p = [])) := by
  by_cases hlt : k < bs.length
  · obtain ⟨ad', y, hA, hc, hdy⟩ := hb.at hlt
    cases hA
    have hc' : ∀ o, (w.alloc o).cell? (ad.add k) = some (.int .u8 (y.toNat : Int)) := fun o => by
      rw [World.cell?_alloc_lt w o _ (World.block_lt_of_cell? w _ hc)]
      exact hc
    cases hp : p y
    · exact .inr (.inl ⟨y, hlt, hc', hide hdy, hide hp, hide (by rw [hdy]; simp [hp])⟩)
    · exact .inl ⟨y, hlt, hc', hide hdy, hide hp⟩
  · exact .inr (.inr ⟨by omega, hide (by rw [List.drop_eq_nil_of_le (by omega)]; rfl)⟩)

theorem conv_sub {w : World} {ad : Addr} {bs : List UInt8} (hb : RdB w (some ad) bs) (i m d : Nat) (hm : i + m ≤ bs.length) :
    ∃ s, s = (bs.drop i).take m ∧ s.length = m ∧ ∀ o, (convert 50 9 (.slice (some (ad.add i)) m d)).run Tryz.prog (w.alloc o) = .ok (str s) (w.alloc o) := by
  refine ⟨_, rfl, by simp; omega, fun o => ?_⟩
  exact run_conv ((hb.alloc o).sub i m) (by simp; omega) Tryz.underlying50 Tryz.underlying5 Tryz.underlying9

theorem mWord_key {s : List UInt8} (h : mKey s = true) : mWord s = some (⟨2, s, 0⟩, s.length) := by rw [mWord, if_pos h]
theorem LexRes.mk_some {m : Option (BTok × Nat)} {t : BTok} {len : Nat} (h : m = some (t, len)) (i : Nat) : LexRes m i (.returned (.tuple #[tokV t.k i (i + len : Nat) t.s t.n, .bool true])) := by
  subst h
  refine ⟨_, _, _, _, _, rfl, ?_⟩
  intro t' len' h
  cases h
  exact ⟨rfl, rfl, rfl, rfl, rfl⟩
theorem LexRes.mk_none {m : Option (BTok × Nat)} (h : m = none) (i : Nat) (k a b : Int) (s : List UInt8) (n : Int) : LexRes m i (.returned (.tuple #[tokV k a b s n, .bool false])) := by
  subst h
  refine ⟨_, _, _, _, _, rfl, ?_⟩
  intro t' len' h
  cases h

theorem LexRes.mk_if {m : Option (BTok × Nat)} {t : BTok} {len : Nat} {b : Bool} (h : m = if b then some (t, len) else none) (i : Nat) : LexRes m i (.returned (.tuple #[tokV t.k i (i + len : Nat) t.s t.n, .bool b])) := by
  cases b
  · exact LexRes.mk_none h _ _ _ _ _ _
  · exact LexRes.mk_some h i

theorem lexNamed_any (A : Option Addr) (c i : Nat) (bs : List UInt8) (w : World) (hb : RdB w A bs) (hi : i < bs.length) (hcap : bs.length ≤ c) (hmax : bs.length ≤ 1000000) (x : UInt8) (r : List UInt8) (hx : bs.drop i = x :: r) :
    Calls Tryz.prog 74 #[.slice A bs.length c, .int .i64 i] w fun e w' => LexRes (mWord (x :: r.takeWhile isPart)) i e ∧ Below w.heap.size w w' := by
  obtain ⟨ad, rfl⟩ := hb.some_ hi
  have hne : ¬ c = i := by omega
  have hx' := hide hx; clear hx
  have hr : r = bs.drop (i + 1) := by
    have := hx'.out
    rw [List.drop_eq_getElem_cons hi] at this
    injection this with _ h
    exact h.symm
  have hr' := hide hr; clear hr
  go_enter Tryz.func74, Tryz.ntmps74
  go_wp2_with fail
  go_loop [6] (fun j => ∃ k : Nat, i < k ∧ k ≤ bs.length ∧ j = .int .i64 k ∧ x :: r.takeWhile isPart = (bs.drop i).take (k - i) ++ (bs.drop k).takeWhile isPart) (fun j => bs.length - (intOf j).toNat)
  case atStart =>
    refine ⟨i + 1, by omega, by omega, by go_num, ?_⟩
    rw [hx'.out, hr'.out, show i + 1 - i = 1 by omega]
    rfl
  case round =>
    obtain ⟨k, hik, hk, rfl, he⟩ := hrel
    have he' := hide he; clear he
    rcases span_cases hb k isPart with ⟨y, hlt, hc', hdy', hp'⟩ | ⟨y, hlt, hc', hdy', hp', hq⟩ | ⟨hge, hq⟩
    · go_wp2_with (go_at_call 109; with_reducible refine (lexBelongs_any y _).mono ?_; rintro e w' ⟨rfl, rfl⟩; rw [hp'.out])
      go_round
      case rel =>
        refine ⟨k + 1, by omega, by omega, by go_num, ?_⟩
        rw [he'.out, take_step (by omega) hdy'.out, hdy'.out]
        simp [hp'.out]
      case measure => simp [intOf]; omega
    all_goals
      obtain ⟨s, hs, hl, hcv⟩ := conv_sub hb i (k - i) (c - i) (by omega)
      have hw : x :: r.takeWhile isPart = s := by rw [he'.out, hq.out, List.append_nil, hs]
      have hw' := hide hw; have hl' := hide hl; have hs' := hide hs
      clear hw hs hl
      have hsl : s.length ≤ 1000000 := by have := hl'.out; omega
      cases hkey : mKey s
      · have hkey' := hide hkey; clear hkey
        have hcall := fun W => still_left (wordName_any s W (by omega))
        go_wp2_with (first | (go_at_call 109; with_reducible refine (lexBelongs_any y _).mono ?_; rintro e w' ⟨rfl, rfl⟩; rw [hp'.out]) | (go_at_call 110; with_reducible refine (wordKey_any s _).mono ?_; rintro e w' ⟨rfl, rfl⟩; rw [hkey'.out]))
        refine wp_region_still_tail 4 (by kernel_rfl) (by kernel_rfl) ?_
        simp only [List.take_succ_cons, List.take_zero, List.drop_succ_cons, List.drop_zero]
        change wpStill _ _ (World.drew _) _ _ _
        repeat still_step
        still_call (hcall _)
        refine wpStill_nil ?_
        change wpList _ _ _ _ _ (World.drew _)
        go_wp2_with fail
        obtain rfl : k = i + s.length := by have := hl'.out; omega
        exact bodyPost_ret (v := .tuple #[tokV 1 i (i + s.length : Nat) s 0, .bool (mName s)]) (by simp [results, Tryz.results74, go_sem]) rfl ⟨LexRes.mk_if (t := ⟨1, s, 0⟩) (by rw [hw'.out, mWord, hkey'.out]; rfl) _, by go_grown⟩
      · have hkey' := hide hkey; clear hkey
        go_wp2_with (first | (go_at_call 109; with_reducible refine (lexBelongs_any y _).mono ?_; rintro e w' ⟨rfl, rfl⟩; rw [hp'.out]) | (go_at_call 110; with_reducible refine (wordKey_any s _).mono ?_; rintro e w' ⟨rfl, rfl⟩; rw [hkey'.out]))
        obtain rfl : k = i + s.length := by have := hl'.out; omega
        exact bodyPost_ret (v := .tuple #[tokV 2 i (i + s.length : Nat) s 0, .bool true]) (by simp [results, Tryz.results74, go_sem]) rfl ⟨LexRes.mk_some (t := ⟨2, s, 0⟩) (by rw [hw'.out]; exact mWord_key hkey'.out) _, by go_grown⟩

theorem lexNumber_any (A : Option Addr) (c i : Nat) (bs : List UInt8) (w : World) (hb : RdB w A bs) (hi : i < bs.length) (hcap : bs.length ≤ c) (hmax : bs.length ≤ 1000000) (x : UInt8) (r : List UInt8) (hx : bs.drop i = x :: r) :
    Calls Tryz.prog 76 #[.slice A bs.length c, .int .i64 i] w fun e w' => LexRes (mNumber (x :: r.takeWhile isDig)) i e ∧ Below w.heap.size w w' := by
  obtain ⟨ad, rfl⟩ := hb.some_ hi
  have hne : ¬ c = i := by omega
  have hx' := hide hx; clear hx
  have hr : r = bs.drop (i + 1) := by
    have := hx'.out
    rw [List.drop_eq_getElem_cons hi] at this
    injection this with _ h
    exact h.symm
  have hr' := hide hr; clear hr
  go_enter Tryz.func76, Tryz.ntmps76
  go_wp2_with fail
  go_loop [6] (fun j => ∃ k : Nat, i < k ∧ k ≤ bs.length ∧ j = .int .i64 k ∧ x :: r.takeWhile isDig = (bs.drop i).take (k - i) ++ (bs.drop k).takeWhile isDig) (fun j => bs.length - (intOf j).toNat)
  case atStart =>
    refine ⟨i + 1, by omega, by omega, by go_num, ?_⟩
    rw [hx'.out, hr'.out, show i + 1 - i = 1 by omega]
    rfl
  case round =>
    obtain ⟨k, hik, hk, rfl, he⟩ := hrel
    have he' := hide he; clear he
    rcases span_cases hb k isDig with ⟨y, hlt, hc', hdy', hp'⟩ | ⟨y, hlt, hc', hdy', hp', hq⟩ | ⟨hge, hq⟩
    · go_wp2_with (go_at_call 75; with_reducible refine (lexDigit_any y _).mono ?_; rintro e w' ⟨rfl, rfl⟩; rw [hp'.out])
      go_round
      case rel =>
        refine ⟨k + 1, by omega, by omega, by go_num, ?_⟩
        rw [he'.out, take_step (by omega) hdy'.out, hdy'.out]
        simp [hp'.out]
      case measure => simp [intOf]; omega
    all_goals
      obtain ⟨s, hs, hl, hcv⟩ := conv_sub hb i (k - i) (c - i) (by omega)
      have hw : x :: r.takeWhile isDig = s := by rw [he'.out, hq.out, List.append_nil, hs]
      have hw' := hide hw; have hl' := hide hl; have hs' := hide hs
      clear hw hs hl
      have hsl : s.length ≤ 1000000 := by have := hl'.out; omega
      cases hpn : mParseNum s with
      | none =>
        have hpn' := hide hpn; clear hpn
        go_wp2_with (first | (go_at_call 75; with_reducible refine (lexDigit_any y _).mono ?_; rintro e w' ⟨rfl, rfl⟩; rw [hp'.out]) | (go_at_call 111; with_reducible refine (wordParseNum_any s _ (by omega)).mono ?_; rintro e w' ⟨rfl, rfl⟩; rw [(numVE_none hpn'.out).1, (numVE_none hpn'.out).2]))
        obtain rfl : k = i + s.length := by have := hl'.out; omega
        exact bodyPost_ret (v := .tuple #[tokV 3 i (i + s.length : Nat) [] 0, .bool false]) (by simp [results, Tryz.results76, go_sem]) rfl ⟨LexRes.mk_none (by rw [hw'.out, mNumber, hpn'.out]) _ _ _ _ _ _, by go_grown⟩
      | some n =>
        have hpn' := hide hpn; clear hpn
        go_wp2_with (first | (go_at_call 75; with_reducible refine (lexDigit_any y _).mono ?_; rintro e w' ⟨rfl, rfl⟩; rw [hp'.out]) | (go_at_call 111; with_reducible refine (wordParseNum_any s _ (by omega)).mono ?_; rintro e w' ⟨rfl, rfl⟩; rw [(numVE_some hpn'.out).1, (numVE_some hpn'.out).2]))
        obtain rfl : k = i + s.length := by have := hl'.out; omega
        exact bodyPost_ret (v := .tuple #[tokV 3 i (i + s.length : Nat) [] n, .bool true]) (by simp [results, Tryz.results76, go_sem]) rfl ⟨LexRes.mk_some (t := ⟨3, [], n⟩) (len := s.length) (by rw [hw'.out, mNumber, hpn'.out]) _, by go_grown⟩

def notQ (x : UInt8) : Bool := x.toNat != 34
theorem lexText_any (A : Option Addr) (c i : Nat) (bs : List UInt8) (w : World) (hb : RdB w A bs) (hi : i < bs.length) (hcap : bs.length ≤ c) (hmax : bs.length ≤ 1000000) (r : List UInt8) (hx : bs.drop i = 34 :: r) :
    Calls Tryz.prog 77 #[.slice A bs.length c, .int .i64 i] w fun e w' => LexRes (mText r) i e ∧ Below w.heap.size w w' := by
  obtain ⟨ad, rfl⟩ := hb.some_ hi
  have hne : ¬ c = i := by omega
  have hx' := hide hx; clear hx
  have hr : r = bs.drop (i + 1) := by
    have := hx'.out
    rw [List.drop_eq_getElem_cons hi] at this
    injection this with _ h
    exact h.symm
  have hr' := hide hr; clear hr
  go_enter Tryz.func77, Tryz.ntmps77
  go_wp2_with fail
  go_loop [6] (fun j => ∃ k : Nat, i < k ∧ k ≤ bs.length ∧ j = .int .i64 k ∧ r.takeWhile notQ = (bs.drop (i + 1)).take (k - (i + 1)) ++ (bs.drop k).takeWhile notQ) (fun j => bs.length - (intOf j).toNat)
  case atStart =>
    refine ⟨i + 1, by omega, by omega, by go_num, ?_⟩
    rw [hr'.out, Nat.sub_self]
    rfl
  case round =>
    obtain ⟨k, hik, hk, rfl, he⟩ := hrel
    have he' := hide he; clear he
    rcases span_cases hb k notQ with ⟨y, hlt, hc', hdy', hp'⟩ | ⟨y, hlt, hc', hdy', hp', hq⟩ | ⟨hge, hq⟩
    · have hy : ((y.toNat : Int) != 34) = true := by
        have := hp'.out
        simp only [notQ, bne_iff_ne] at *
        omega
      go_wp2_with fail
      go_round
      case rel =>
        refine ⟨k + 1, by omega, by omega, by go_num, ?_⟩
        rw [he'.out, take_step (by omega) hdy'.out, hdy'.out]
        simp [hp'.out]
      case measure => simp [intOf]; omega
    · have hy : ((y.toNat : Int) != 34) = false := by
        have := hp'.out
        simp only [notQ, bne_eq_false_iff_eq] at *
        omega
      have hkn : ((k : Int) == (bs.length : Int)) = false := by rw [beq_eq_false_iff_ne]; omega
      obtain ⟨s, hs, hl, hcv⟩ := conv_sub hb i (k + 1 - i) (c - i) (by omega)
      have hy34 : y = 34 := by
        have := hp'.out
        simp only [notQ, bne_eq_false_iff_eq] at this
        exact UInt8.toNat_inj.1 this
      have hbody : r.takeWhile notQ = (bs.drop (i + 1)).take (k - (i + 1)) := by rw [he'.out, hq.out, List.append_nil]
      have hw : 34 :: (r.takeWhile notQ ++ [34]) = s := by
        rw [hs, take_step (by omega) hdy'.out, hy34, hbody, ← List.cons_append]
        congr 1
        have e : bs.drop i = 34 :: bs.drop (i + 1) := by rw [hx'.out, hr'.out]
        rw [e, show k - i = (k - (i + 1)) + 1 by omega]
        rfl
      have hlen : (r.takeWhile notQ).length + 2 = s.length := by rw [← hw]; simp
      have hlt2 : (r.takeWhile notQ).length < r.length := by
        rw [hbody, hr'.out]
        simp
        omega
      have hw' := hide hw; have hl' := hide hl; have hs' := hide hs; have hlen' := hide hlen; have hlt2' := hide hlt2
      clear hw hs hl hlen hlt2 hbody hy34
      have hsl : s.length ≤ 1000000 := by have := hl'.out; omega
      have hsl' := hide hsl
      have hk1 : ((k : Int) + 1) = ((i + s.length : Nat) : Int) := by have := hl'.out; omega
      have hk1' := hide hk1; clear hk1
      have hmt : mText r = match mUnquote s with | some t => some (⟨4, t, 0⟩, s.length) | none => none := by
        have e : mText r = if (r.takeWhile notQ).length < r.length then (match mUnquote (34 :: (r.takeWhile notQ ++ [34])) with | some t => some (⟨4, t, 0⟩, (r.takeWhile notQ).length + 2) | none => none) else none := rfl
        rw [e, if_pos hlt2'.out, hw'.out, hlen'.out]
      have hmt' := hide hmt; clear hmt
      cases hpn : mUnquote s with
      | none =>
        have hpn' := hide hpn; clear hpn
        go_wp2_with (go_at_call 112; with_reducible refine (wordUnquote_any s _ (by omega)).mono ?_; rintro e w1 ⟨rfl, hbl⟩; rw [(unqVE_none hpn'.out).1, (unqVE_none hpn'.out).2]; obtain ⟨z1, z2, z3, z4⟩ := kept_cells hbl; clear hbl)
        refine bodyPost_ret (v := .tuple #[tokV 4 i ((k : Int) + 1) [] 0, .bool false]) (by simp [results, Tryz.results77, go_sem, z1]) rfl ⟨?_, ?_⟩
        · exact LexRes.mk_none (by rw [hmt'.out, hpn'.out]) _ _ _ _ _ _
        · go_grown
      | some n =>
        have hpn' := hide hpn; clear hpn
        go_wp2_with (go_at_call 112; with_reducible refine (wordUnquote_any s _ (by omega)).mono ?_; rintro e w1 ⟨rfl, hbl⟩; rw [(unqVE_some hpn'.out).1, (unqVE_some hpn'.out).2]; obtain ⟨z1, z2, z3, z4⟩ := kept_cells hbl; clear hbl)
        refine bodyPost_ret (v := .tuple #[tokV 4 i ((k : Int) + 1) n 0, .bool true]) (by simp [results, Tryz.results77, go_sem, z1]) rfl ⟨?_, ?_⟩
        · rw [hk1'.out]
          exact LexRes.mk_some (t := ⟨4, n, 0⟩) (by rw [hmt'.out, hpn'.out]) _
        · go_grown
    · have hkl : k = bs.length := by omega
      have hkn : ((k : Int) == (bs.length : Int)) = true := by rw [beq_iff_eq]; omega
      have hmt : mText r = none := by
        have e : mText r = if (r.takeWhile notQ).length < r.length then (match mUnquote (34 :: (r.takeWhile notQ ++ [34])) with | some t => some (⟨4, t, 0⟩, (r.takeWhile notQ).length + 2) | none => none) else none := rfl
        rw [e, if_neg]
        rw [he'.out, hq.out, hr'.out]
        simp
        omega
      have hmt' := hide hmt; clear hmt hkl
      go_wp2_with fail
      exact bodyPost_ret (v := .tuple #[tokV 0 0 0 [] 0, .bool false]) (by simp [results, Tryz.results77, go_sem]) rfl ⟨LexRes.mk_none hmt'.out _ _ _ _ _ _, by go_grown⟩

theorem oneSign_cases (x : UInt8) : (oneSign x = true ∧ (x.toNat = 40 ∨ x.toNat = 41 ∨ x.toNat = 91 ∨ x.toNat = 93 ∨ x.toNat = 44 ∨ x.toNat = 58 ∨ x.toNat = 61 ∨ x.toNat = 124 ∨ x.toNat = 43 ∨ x.toNat = 45 ∨ x.toNat = 42 ∨ x.toNat = 47 ∨ x.toNat = 60 ∨ x.toNat = 63 ∨ x.toNat = 95)) ∨
    (oneSign x = false ∧ x.toNat ≠ 40 ∧ x.toNat ≠ 41 ∧ x.toNat ≠ 91 ∧ x.toNat ≠ 93 ∧ x.toNat ≠ 44 ∧ x.toNat ≠ 58 ∧ x.toNat ≠ 61 ∧ x.toNat ≠ 124 ∧ x.toNat ≠ 43 ∧ x.toNat ≠ 45 ∧ x.toNat ≠ 42 ∧ x.toNat ≠ 47 ∧ x.toNat ≠ 60 ∧ x.toNat ≠ 63 ∧ x.toNat ≠ 95) := by
  have key : ∀ n : Fin 256, (oneSign (UInt8.ofNat n.val) = true ∧ (n.val = 40 ∨ n.val = 41 ∨ n.val = 91 ∨ n.val = 93 ∨ n.val = 44 ∨ n.val = 58 ∨ n.val = 61 ∨ n.val = 124 ∨ n.val = 43 ∨ n.val = 45 ∨ n.val = 42 ∨ n.val = 47 ∨ n.val = 60 ∨ n.val = 63 ∨ n.val = 95)) ∨
    (oneSign (UInt8.ofNat n.val) = false ∧ n.val ≠ 40 ∧ n.val ≠ 41 ∧ n.val ≠ 91 ∧ n.val ≠ 93 ∧ n.val ≠ 44 ∧ n.val ≠ 58 ∧ n.val ≠ 61 ∧ n.val ≠ 124 ∧ n.val ≠ 43 ∧ n.val ≠ 45 ∧ n.val ≠ 42 ∧ n.val ≠ 47 ∧ n.val ≠ 60 ∧ n.val ≠ 63 ∧ n.val ≠ 95) := by decide +kernel
  have := key ⟨x.toNat, x.toNat_lt⟩
  simpa using this

theorem twoSign_cases (x y : UInt8) : (twoSign x y = true ∧ ((x.toNat = 45 ∧ y.toNat = 62) ∨ (x.toNat = 58 ∧ y.toNat = 58) ∨ (x.toNat = 61 ∧ y.toNat = 61))) ∨
    (twoSign x y = false ∧ (x.toNat = 45 → y.toNat ≠ 62) ∧ (x.toNat = 58 → y.toNat ≠ 58) ∧ (x.toNat = 61 → y.toNat ≠ 61)) := by
  have e : ∀ (z : UInt8) (n : Nat) (hn : n < 256), (z == UInt8.ofNat n) = decide (z.toNat = n) := by
    intro z n hn
    rw [Bool.eq_iff_iff, beq_iff_eq, decide_eq_true_eq, ← UInt8.toNat_inj]
    simp [Nat.mod_eq_of_lt hn]
  have h : twoSign x y = ((decide (x.toNat = 45) && decide (y.toNat = 62)) || (decide (x.toNat = 58) && decide (y.toNat = 58)) || (decide (x.toNat = 61) && decide (y.toNat = 61))) := by
    rw [← e x 45 (by omega), ← e y 62 (by omega), ← e x 58 (by omega), ← e y 58 (by omega), ← e x 61 (by omega), ← e y 61 (by omega)]
    rfl
  rw [h]
  by_cases h1 : x.toNat = 45 <;> by_cases h2 : y.toNat = 62 <;> by_cases h3 : x.toNat = 58 <;> by_cases h4 : y.toNat = 58 <;> by_cases h5 : x.toNat = 61 <;> by_cases h6 : y.toNat = 61 <;> simp [h1, h2, h3, h4, h5, h6]
theorem mSign_two {x y : UInt8} {r : List UInt8} (h : twoSign x y = true) : mSign (x :: y :: r) = some (⟨5, [x, y], 0⟩, 2) := by
  have e : signLen (x :: y :: r) = 2 := by simp [signLen, h]
  rw [mSign, e]
  rfl
theorem mSign_one {x y : UInt8} {r : List UInt8} (h : twoSign x y = false) (h1 : oneSign x = true) : mSign (x :: y :: r) = some (⟨5, [x], 0⟩, 1) := by
  have e : signLen (x :: y :: r) = 1 := by simp [signLen, h, h1]
  rw [mSign, e]
  rfl
theorem mSign_last {x : UInt8} (h1 : oneSign x = true) : mSign [x] = some (⟨5, [x], 0⟩, 1) := by
  have e : signLen [x] = 1 := by simp [signLen, h1]
  rw [mSign, e]
  rfl

theorem lexSign_any (A : Option Addr) (c i : Nat) (bs : List UInt8) (w : World) (hb : RdB w A bs) (hi : i < bs.length) (hcap : bs.length ≤ c) (hmax : bs.length ≤ 1000000) (x : UInt8) (r : List UInt8) (hx : bs.drop i = x :: r) :
    Calls Tryz.prog 78 #[.slice A bs.length c, .int .i64 i] w fun e w' => LexRes (mSign (x :: r)) i e ∧ Below w.heap.size w w' := by
  obtain ⟨ad, rfl⟩ := hb.some_ hi
  have hne : ¬ c = i := by omega
  obtain ⟨ad', x', hA, hc, hdx⟩ := hb.at hi
  cases hA
  obtain rfl : x = x' := by rw [hx] at hdx; injection hdx
  have hc' : ∀ o, (w.alloc o).cell? (ad.add i) = some (.int .u8 (x.toNat : Int)) := fun o => by
    rw [World.cell?_alloc_lt w o _ (World.block_lt_of_cell? w _ hc)]
    exact hc
  clear hc hdx
  have hx' := hide hx; clear hx
  rcases oneSign_cases x with ⟨h1, h2⟩ | ⟨h1, h2⟩
  · have h1' := hide h1; have h2' := hide h2; clear h1 h2
    go_enter Tryz.func78, Tryz.ntmps78
    go_upto_block 0 with fail
    go_cut [6] (fun s6 wc => s6 = .int .i64 1 ∧ w.alloc (.cells #[.int .i64 0, .int .i64 0, .int .i64 0, str [], .int .i64 0] 76) = wc)
    case first =>
      go_wp2_with fail
      all_goals
        go_meet
        refine ⟨?_, rfl⟩
        first
          | rfl
          | (exfalso; have := h2'.out; simp only [beq_eq_false_iff_ne, ne_eq] at *; omega)
    case rest =>
      obtain ⟨rfl, rfl⟩ := hcut
      have hcase : (∃ y r', r = y :: r' ∧ i + 1 < bs.length ∧ (∀ o, (w.alloc o).cell? ⟨ad.block, ad.off + (i + 1), none⟩ = some (.int .u8 (y.toNat : Int)))) ∨ (r = [] ∧ bs.length ≤ i + 1) := by
        by_cases hl : i + 1 < bs.length
        · obtain ⟨ad', y, hA, hc, hdy⟩ := hb.at hl
          cases hA
          refine .inl ⟨y, bs.drop (i + 1 + 1), ?_, hl, fun o => ?_⟩
          · have := hx'.out
            rw [List.drop_eq_getElem_cons hi] at this
            injection this with _ h
            rw [← h, hdy]
          · have e : ad.add (i + 1) = ⟨ad.block, ad.off + (i + 1), none⟩ := by simp [Addr.add]
            rw [← e, World.cell?_alloc_lt w o _ (World.block_lt_of_cell? w _ hc)]
            exact hc
        · refine .inr ⟨?_, by omega⟩
          have := hx'.out
          rw [List.drop_eq_getElem_cons hi, List.drop_eq_nil_of_le (by omega)] at this
          injection this with _ h
          exact h.symm
      rcases hcase with ⟨y, r', hr, hl, hcy⟩ | ⟨hr, hl⟩
      · have htwo := twoSign_cases x y
        have hr' := hide hr; clear hr
        rcases htwo with ⟨h3, hh⟩ | ⟨h3, hh⟩
        · have h3' := hide h3; clear h3
          obtain ⟨s, hs, hsl, hcv⟩ := conv_sub hb i 2 (c - i) (by omega)
          have hs' := hide hs; have hsl' := hide hsl; clear hs hsl
          rcases hh with ⟨q1, q2⟩ | ⟨q1, q2⟩ | ⟨q1, q2⟩
          all_goals
            go_wp2_with fail
            exact bodyPost_ret (v := .tuple #[tokV 5 i (i + 2 : Nat) s 0, .bool true]) (by simp [results, Tryz.results78, go_sem]) rfl ⟨LexRes.mk_some (t := ⟨5, s, 0⟩) (len := 2) (by rw [hr'.out, mSign_two h3'.out, hs'.out, hx'.out, hr'.out]; rfl) _, by go_grown⟩
        · have h3' := hide h3; clear h3
          obtain ⟨s, hs, hsl, hcv⟩ := conv_sub hb i 1 (c - i) (by omega)
          have hs' := hide hs; have hsl' := hide hsl; clear hs hsl
          have hcase2 : (x.toNat = 45 ∧ ((y.toNat : Int) == 62) = false) ∨ (x.toNat = 58 ∧ ((y.toNat : Int) == 58) = false) ∨ (x.toNat = 61 ∧ ((y.toNat : Int) == 61) = false) ∨
              (((x.toNat : Int) == 45) = false ∧ ((x.toNat : Int) == 58) = false ∧ ((x.toNat : Int) == 61) = false) := by
            simp only [beq_eq_false_iff_ne, ne_eq]
            omega
          clear hh
          rcases hcase2 with ⟨q1, q2⟩ | ⟨q1, q2⟩ | ⟨q1, q2⟩ | ⟨q1, q2, q3⟩
          all_goals
            go_wp2_with fail
            exact bodyPost_ret (v := .tuple #[tokV 5 i (i + 1 : Nat) s 0, .bool true]) (by simp [results, Tryz.results78, go_sem]) rfl ⟨LexRes.mk_some (t := ⟨5, s, 0⟩) (len := 1) (by rw [hr'.out, mSign_one h3'.out h1'.out, hs'.out, hx'.out, hr'.out]; rfl) _, by go_grown⟩
      · obtain ⟨s, hs, hsl, hcv⟩ := conv_sub hb i 1 (c - i) (by omega)
        have hs' := hide hs; have hsl' := hide hsl; have hr' := hide hr; clear hs hsl hr
        have hl' : (bs.length : Int) ≤ i + 1 := by omega
        go_wp2_with fail
        exact bodyPost_ret (v := .tuple #[tokV 5 i (i + 1 : Nat) s 0, .bool true]) (by simp [results, Tryz.results78, go_sem]) rfl ⟨LexRes.mk_some (t := ⟨5, s, 0⟩) (len := 1) (by rw [hr'.out, mSign_last h1'.out, hs'.out, hx'.out, hr'.out]; rfl) _, by go_grown⟩
  · have hm : mSign (x :: r) = none := by
      have hnot : ∀ y, twoSign x y = false := fun y => by
        rcases twoSign_cases x y with ⟨_, hh⟩ | ⟨h3, _⟩
        · exfalso; omega
        · exact h3
      have e : signLen (x :: r) = 0 := by
        cases r with
        | nil => simp [signLen, h1]
        | cons y r' => simp [signLen, h1, hnot]
      rw [mSign, if_pos e]
    have hm' := hide hm; clear hm
    obtain ⟨s, hs, hsl, hcv⟩ := conv_sub hb i 0 (c - i) (by omega)
    have hs' : Hid (s = []) := hide (by rw [hs]; rfl)
    clear hs hsl h1
    obtain ⟨p1, p2, p3, p4, p5, p6, p7, p8, p9, p10, p11, p12, p13, p14, p15⟩ := h2
    have g1 : ((x.toNat : Int) == 40) = false := by rw [beq_eq_false_iff_ne]; omega
    have g2 : ((x.toNat : Int) == 41) = false := by rw [beq_eq_false_iff_ne]; omega
    have g3 : ((x.toNat : Int) == 91) = false := by rw [beq_eq_false_iff_ne]; omega
    have g4 : ((x.toNat : Int) == 93) = false := by rw [beq_eq_false_iff_ne]; omega
    have g5 : ((x.toNat : Int) == 44) = false := by rw [beq_eq_false_iff_ne]; omega
    have g6 : ((x.toNat : Int) == 58) = false := by rw [beq_eq_false_iff_ne]; omega
    have g7 : ((x.toNat : Int) == 61) = false := by rw [beq_eq_false_iff_ne]; omega
    have g8 : ((x.toNat : Int) == 124) = false := by rw [beq_eq_false_iff_ne]; omega
    have g9 : ((x.toNat : Int) == 43) = false := by rw [beq_eq_false_iff_ne]; omega
    have g10 : ((x.toNat : Int) == 45) = false := by rw [beq_eq_false_iff_ne]; omega
    have g11 : ((x.toNat : Int) == 42) = false := by rw [beq_eq_false_iff_ne]; omega
    have g12 : ((x.toNat : Int) == 47) = false := by rw [beq_eq_false_iff_ne]; omega
    have g13 : ((x.toNat : Int) == 60) = false := by rw [beq_eq_false_iff_ne]; omega
    have g14 : ((x.toNat : Int) == 63) = false := by rw [beq_eq_false_iff_ne]; omega
    have g15 : ((x.toNat : Int) == 95) = false := by rw [beq_eq_false_iff_ne]; omega
    clear p1 p2 p3 p4 p5 p6 p7 p8 p9 p10 p11 p12 p13 p14 p15
    rcases (show (i : Int) + 1 < bs.length ∨ (bs.length : Int) ≤ i + 1 from by omega) with hl | hl
    all_goals
      go_enter Tryz.func78, Tryz.ntmps78
      go_wp2_with fail
      exact bodyPost_ret (v := .tuple #[tokV 5 i i s 0, .bool false]) (by simp [results, Tryz.results78, go_sem]) rfl ⟨LexRes.mk_none hm'.out _ _ _ _ _ _, by go_grown⟩

end Go.Proofs.YtlagglkpbnbmeaaGreatDoor

/- Plain laws of scanning: the fuel does not matter; one token at a time. -/
namespace Go.Proofs.YtlagglkpbnbmeaaGreatDoor

theorem mSkip_le : ∀ (m : Bool) (l : List UInt8), (mSkip m l).length ≤ l.length
  | _, [] => by simp [mSkip]
  | true, c :: r => by
    rw [mSkip]
    split
    · exact Nat.le_succ_of_le (mSkip_le false r)
    · exact Nat.le_succ_of_le (mSkip_le true r)
  | false, c :: r => by
    rw [mSkip]
    split
    · exact Nat.le_succ_of_le (mSkip_le false r)
    · split
      · exact Nat.le_succ_of_le (mSkip_le true r)
      · exact Nat.le_refl _
theorem mSkip_suffix : ∀ (m : Bool) (l : List UInt8), ∃ p, l = p ++ mSkip m l
  | _, [] => ⟨[], by simp [mSkip]⟩
  | true, c :: r => by
    rw [mSkip]
    split
    · obtain ⟨p, h⟩ := mSkip_suffix false r
      exact ⟨c :: p, by rw [List.cons_append, ← h]⟩
    · obtain ⟨p, h⟩ := mSkip_suffix true r
      exact ⟨c :: p, by rw [List.cons_append, ← h]⟩
  | false, c :: r => by
    rw [mSkip]
    split
    · obtain ⟨p, h⟩ := mSkip_suffix false r
      exact ⟨c :: p, by rw [List.cons_append, ← h]⟩
    · split
      · obtain ⟨p, h⟩ := mSkip_suffix true r
        exact ⟨c :: p, by rw [List.cons_append, ← h]⟩
      · exact ⟨[], rfl⟩
theorem mSkip_idem : ∀ (m : Bool) (l : List UInt8), mSkip false (mSkip m l) = mSkip m l
  | _, [] => by simp [mSkip]
  | true, c :: r => by
    rw [mSkip]
    split
    · exact mSkip_idem false r
    · exact mSkip_idem true r
  | false, c :: r => by
    rw [mSkip]
    split
    · exact mSkip_idem false r
    · split
      · exact mSkip_idem true r
      · rw [mSkip]
        simp_all
theorem mSkip_drop (m : Bool) (l : List UInt8) : l.drop (l.length - (mSkip m l).length) = mSkip m l := by
  obtain ⟨p, h⟩ := mSkip_suffix m l
  generalize mSkip m l = s at h
  subst h
  simp

theorem mWord_len {s : List UInt8} {t : BTok} {n : Nat} (h : mWord s = some (t, n)) : n = s.length := by
  unfold mWord at h
  split at h
  · cases h; rfl
  · split at h
    · cases h; rfl
    · cases h
theorem mNumber_len {s : List UInt8} {t : BTok} {n : Nat} (h : mNumber s = some (t, n)) : n = s.length := by
  unfold mNumber at h
  split at h
  · cases h; rfl
  · cases h
theorem takeWhile_le {α : Type} (p : α → Bool) (l : List α) : (l.takeWhile p).length ≤ l.length := (List.takeWhile_prefix p).length_le
theorem signLen_le (l : List UInt8) : signLen l ≤ l.length := by
  match l with
  | [] => simp [signLen]
  | [c] => simp only [signLen]; split <;> simp_all; split <;> simp
  | c :: d :: r => simp only [signLen]; split <;> simp; split <;> omega
theorem mTok_len {l : List UInt8} {t : BTok} {n : Nat} (h : mTok l = some (t, n)) : 1 ≤ n ∧ n ≤ l.length := by
  match l with
  | [] => simp [mTok] at h
  | c :: r =>
    rw [mTok] at h
    split at h
    · have e := mWord_len h
      have := takeWhile_le isPart r
      simp only [List.length_cons] at e ⊢
      omega
    · split at h
      · have e := mNumber_len h
        have := takeWhile_le isDig r
        simp only [List.length_cons] at e ⊢
        omega
      · split at h
        · unfold mText at h
          split at h
          · rename_i hlt
            split at h
            · cases h
              simp only [List.length_cons]
              omega
            · cases h
          · cases h
        · unfold mSign at h
          split at h
          · cases h
          · cases h
            have := signLen_le (c :: r)
            omega

theorem mScanF_fuel : ∀ (f g : Nat) (off : Nat) (l : List UInt8), l.length < f → l.length < g → mScanF f off l = mScanF g off l
  | 0, _, _, _, h, _ => by omega
  | _ + 1, 0, _, _, _, h => by omega
  | f + 1, g + 1, off, l, hf, hg => by
    rw [mScanF, mScanF]
    by_cases hs : mSkip false l = []
    · rw [if_pos hs, if_pos hs]
    · rw [if_neg hs, if_neg hs]
      cases hm : mTok (mSkip false l) with
      | none => rfl
      | some p =>
        obtain ⟨t, n⟩ := p
        have hn := mTok_len hm
        have hle := mSkip_le false l
        have e := mScanF_fuel f g (off + (l.length - (mSkip false l).length) + n) ((mSkip false l).drop n) (by rw [List.length_drop]; omega) (by rw [List.length_drop]; omega)
        simp only [e]

def pre (ts : List Tok) : Except Nat (List Tok) → Except Nat (List Tok)
  | .ok us => .ok (ts ++ us)
  | .error e => .error e
theorem pre_nil (r : Except Nat (List Tok)) : pre [] r = r := by cases r <;> rfl
theorem pre_pre (a b : List Tok) (r : Except Nat (List Tok)) : pre a (pre b r) = pre (a ++ b) r := by cases r <;> simp [pre]

theorem mScanR_nil (off : Nat) (l : List UInt8) (h : mSkip false l = []) : mScanR off l = .ok [] := by
  rw [mScanR, mScanF, if_pos h]
theorem mScanR_none (off : Nat) (l : List UInt8) (h : mSkip false l ≠ []) (hm : mTok (mSkip false l) = none) : mScanR off l = .error (off + (l.length - (mSkip false l).length)) := by
  rw [mScanR, mScanF, if_neg h]
  simp only [hm]
theorem mScanR_some (off : Nat) (l : List UInt8) (h : mSkip false l ≠ []) {t : BTok} {n : Nat} (hm : mTok (mSkip false l) = some (t, n)) :
    mScanR off l = pre [t.at (off + (l.length - (mSkip false l).length)) (off + (l.length - (mSkip false l).length) + n)] (mScanR (off + (l.length - (mSkip false l).length) + n) ((mSkip false l).drop n)) := by
  have hn := mTok_len hm
  have hle := mSkip_le false l
  rw [mScanR, mScanF, if_neg h]
  simp only [hm]
  rw [mScanF_fuel l.length (((mSkip false l).drop n).length + 1) _ _ (by rw [List.length_drop]; omega) (by omega)]
  rw [← mScanR]
  cases mScanR (off + (l.length - (mSkip false l).length) + n) ((mSkip false l).drop n) <;> rfl

theorem skip_drop (bs : List UInt8) (i : Nat) (hi : i ≤ bs.length) : bs.drop (bs.length - (mSkip false (bs.drop i)).length) = mSkip false (bs.drop i) := by
  have hle := mSkip_le false (bs.drop i)
  rw [List.length_drop] at hle
  have h := mSkip_drop false (bs.drop i)
  rw [List.length_drop, List.drop_drop] at h
  rw [show bs.length - (mSkip false (bs.drop i)).length = i + (bs.length - i - (mSkip false (bs.drop i)).length) by omega]
  exact h

theorem mScanR_skip (bs : List UInt8) (i : Nat) (hi : i ≤ bs.length) : mScanR i (bs.drop i) = mScanR (bs.length - (mSkip false (bs.drop i)).length) (bs.drop (bs.length - (mSkip false (bs.drop i)).length)) := by
  have hle := mSkip_le false (bs.drop i)
  rw [List.length_drop] at hle
  have hd : bs.drop (bs.length - (mSkip false (bs.drop i)).length) = mSkip false (bs.drop i) := by
    have h := mSkip_drop false (bs.drop i)
    rw [List.length_drop, List.drop_drop] at h
    rw [show bs.length - (mSkip false (bs.drop i)).length = i + (bs.length - i - (mSkip false (bs.drop i)).length) by omega]
    exact h
  rw [hd]
  generalize hs : mSkip false (bs.drop i) = s at *
  have hss : mSkip false s = s := by rw [← hs]; exact mSkip_idem false _
  have hoff : i + ((bs.drop i).length - s.length) = bs.length - s.length := by rw [List.length_drop]; omega
  by_cases h0 : s = []
  · rw [mScanR_nil _ _ (by rw [hs]; exact h0), mScanR_nil _ _ (by rw [hss]; exact h0)]
  · cases hm : mTok s with
    | none =>
      rw [mScanR_none _ _ (by rw [hs]; exact h0) (by rw [hs]; exact hm), mScanR_none _ _ (by rw [hss]; exact h0) (by rw [hss]; exact hm), hs, hss, hoff]
      simp
    | some p =>
      obtain ⟨t, n⟩ := p
      have e1 := mScanR_some i (bs.drop i) (by rw [hs]; exact h0) (t := t) (n := n) (by rw [hs]; exact hm)
      have e2 := mScanR_some (bs.length - s.length) s (by rw [hss]; exact h0) (t := t) (n := n) (by rw [hss]; exact hm)
      rw [hs, hoff] at e1
      rw [hss, Nat.sub_self, Nat.add_zero] at e2
      rw [e1, e2]

end Go.Proofs.YtlagglkpbnbmeaaGreatDoor

/- Rows of elements of several cells: how they read, and how a row of the call's own grows. -/
namespace Go.Proofs.YtlagglkpbnbmeaaGreatDoor
open Go Go.RowKit

structure RowT {α : Type} (P : Program) (S T : TypeId) (sz bytes : Nat) (f : α → List Value) : Prop where
  ht : P.underlying S = some (.slice T)
  info : ∃ i z, P.info? T = some i ∧ i.zero = some z ∧ i.size = sz ∧ i.bytes = bytes ∧ z.cells.size = sz
  pos : 0 < sz
  len : ∀ x, (f x).length = sz
  one : ∀ x, ∀ u ∈ f x, u.oneCell' = true

theorem flat_len {α : Type} {f : α → List Value} {sz : Nat} (h : ∀ x, (f x).length = sz) (xs : List α) : (xs.flatMap f).length = xs.length * sz := by
  induction xs with
  | nil => simp
  | cons x r ih => simp only [List.flatMap_cons, List.length_append, h, ih, List.length_cons]; rw [Nat.add_mul]; omega
theorem flat_get {α : Type} {f : α → List Value} {sz : Nat} (h : ∀ x, (f x).length = sz) (xs : List α) (j k : Nat) (hj : j < xs.length) (hk : k < sz) : (xs.flatMap f)[j * sz + k]? = (f (xs[j]'hj))[k]? := by
  induction xs generalizing j with
  | nil => simp at hj
  | cons x r ih =>
    rw [List.flatMap_cons]
    cases j with
    | zero =>
      rw [List.getElem?_append_left (by rw [h]; omega)]
      simp
    | succ j =>
      have e : (j + 1) * sz + k = sz + (j * sz + k) := by rw [Nat.add_mul]; omega
      rw [List.getElem?_append_right (by rw [h, e]; omega), h, e, Nat.add_sub_cancel_left]
      exact ih j (by simpa using hj)

def RdG {α : Type} (sz : Nat) (f : α → List Value) (w : World) (A : Option Addr) (xs : List α) : Prop :=
  ∀ j (h : j < xs.length), ∃ ad, A = some ad ∧ ad.block < w.heap.size ∧ ∀ k, k < sz → w.cell? (ad.add (j * sz + k)) = (f (xs[j]'h))[k]?
theorem RdG.below {α : Type} {sz : Nat} {f : α → List Value} {w w' : World} {A : Option Addr} {xs : List α} (h : RdG sz f w A xs) (hb : Below w.heap.size w w') : RdG sz f w' A xs := by
  intro j hj
  obtain ⟨ad, hA, hlt, hc⟩ := h j hj
  refine ⟨ad, hA, Nat.lt_of_lt_of_le hlt hb.size, fun k hk => ?_⟩
  rw [hb.cell (by rw [block_of_add]; exact hlt)]
  exact hc k hk
theorem RdG.nil {α : Type} (sz : Nat) (f : α → List Value) (w : World) (A : Option Addr) : RdG sz f w A ([] : List α) := fun j h => absurd h (by simp)

def OwnG {α : Type} (T : TypeId) (sz : Nat) (f : α → List Value) (w : World) (base : Nat) (A : Option Addr) (c : Nat) (xs : List α) : Prop :=
  w.ownsRow base T sz (.slice A xs.length c) xs.length (xs.flatMap f)
section
variable {α : Type} {T : TypeId} {sz : Nat} {f : α → List Value}
theorem OwnG.nil (w : World) (base : Nat) : OwnG T sz f w base none 0 ([] : List α) := World.ownsRow_nil _ _ _ _
theorem OwnG.keep {w w' : World} {base c : Nat} {A : Option Addr} {xs : List α} (h : OwnG T sz f w base A c xs) (hb : Below w.heap.size w w') : OwnG T sz f w' base A c xs :=
  World.ownsRow.kept (row := none) h ⟨hb.os, hb.tape, hb.output, hb.size, fun k hk _ => hb.block k hk⟩ (by cases hv : (Value.slice A xs.length c).ownBlock <;> simp)
theorem OwnG.alloc {w : World} {base c : Nat} {A : Option Addr} {xs : List α} (h : OwnG T sz f w base A c xs) (o : Obj) : OwnG T sz f (w.alloc o) base A c xs := World.ownsRow.alloc h o
theorem OwnG.drew {w : World} {base c : Nat} {A : Option Addr} {xs : List α} (h : OwnG T sz f w base A c xs) : OwnG T sz f w.drew base A c xs := h
theorem OwnG.at {w : World} {base c : Nat} {A : Option Addr} {xs : List α} (h : OwnG T sz f w base A c xs) : ∀ k, (Value.slice A xs.length c).ownBlock = some k → base ≤ k ∧ k < w.heap.size := fun k hk => World.ownsRow.lt h k hk
theorem OwnG.le {w : World} {base c : Nat} {A : Option Addr} {xs : List α} (h : OwnG T sz f w base A c xs) : xs.length ≤ c := by
  rcases h.2 with ⟨hv, h0⟩ | ⟨g, cap, cur, hv, _, hh, hc, _⟩
  · omega
  · cases hv; exact hc
theorem OwnG.rd {w : World} {base c : Nat} {A : Option Addr} {xs : List α} (h : OwnG T sz f w base A c xs) (hl : ∀ x, (f x).length = sz) : RdG sz f w A xs := by
  intro j hj
  have hat := h.at
  rcases h.2 with ⟨hv, h0⟩ | ⟨g, cap, cur, hv, _, hh, _⟩
  · omega
  · cases hv
    refine ⟨_, rfl, (hat g rfl).2, fun k hk => ?_⟩
    have hg := flat_get hl xs j k hj hk
    have hlen := hl (xs[j]'hj)
    have e : (f (xs[j]'hj))[k]? = some ((f (xs[j]'hj))[k]'(by omega)) := List.getElem?_eq_getElem (by omega)
    rw [e]
    exact World.ownsRow.cells (g := g) h rfl (j * sz + k) _ (by rw [hg, e])
end

theorem newsG {α : Type} {f : α → List Value} (w : World) (xs : List α) (t : TypeId) : ∀ j u, (xs.flatMap f)[j]? = some u → (w.alloc (.cells (xs.flatMap f).toArray t)).cell? ((⟨w.heap.size, 0, none⟩ : Addr).add j) = some u := by
  intro j u hu
  have e : (⟨w.heap.size, 0, none⟩ : Addr).add j = ⟨w.heap.size, j, none⟩ := by unfold Addr.add; split <;> simp_all
  rw [e, cell_of_row _ w.heap.size j _ t (0, 0) (heap_alloc_new w _)]
  simpa using hu

theorem wp_appG {α : Type} {P : Program} {S T : TypeId} {sz bytes : Nat} {f : α → List Value} (R : RowT P S T sz bytes f) {o : Oper} {a : Act} {w : World} {K : Act → World → Prop} {Q : Exit → Act → World → Prop} (s x : Operand)
    (ho : o.op = .call { callee := .builtin .append, args := #[s, x], argTypes := #[S, S] })
    (base : Nat) (A : Option Addr) (c : Nat) (xs : List α) (hs : a.eval s = .slice A xs.length c) (hown : OwnG T sz f w base A c xs)
    (ad : Addr) (m k : Nat) (news : List α) (hx : a.eval x = .slice (some ad) m k) (hm : news.length = m) (hnews : ∀ j u, (news.flatMap f)[j]? = some u → w.cell? (ad.add j) = some u)
    (hlen : xs.length + m ≤ 9223372036854775807) (hbytes : (xs.length + m) * bytes ≤ 140737488355328) (hbase : base ≤ w.heap.size)
    (h : ∀ A' c' w' xs', xs' = xs ++ news → OwnG T sz f w' base A' c' xs' → Below base w w' → w.grownBy w' (Value.slice A xs.length c).ownBlock → K (a.put o.dst (.slice A' xs'.length c')) w') : o.wp P a w K Q := by
  subst hm
  obtain ⟨i0, z, hi, hz0, hz1, hz2, hz3⟩ := R.info
  refine wp_append_own w s x S ho base T i0 z sz bytes R.ht hi hz0 hz1 hz2 hz3 R.pos _ _ _ hs hown ad news.length k (news.flatMap f) hx (flat_len R.len news) hnews ?_ (by unfold maxLen; omega) hbytes hbase ?_
  · intro u hu
    rw [List.mem_flatMap] at hu
    obtain ⟨y, _, hy⟩ := hu
    exact R.one y u hy
  · intro v' w' hown' hg _
    have hB : Below base w w' := (Below.refl _ _).grown hg hbase (fun k hk => (hown.at k hk).1)
    have e : ∃ A' c', v' = .slice A' (xs ++ news).length c' := by
      rcases hown'.2 with ⟨hv, h0⟩ | ⟨g, cap, cur, hv, _⟩
      · exact ⟨none, 0, by rw [hv, List.length_append, h0]⟩
      · exact ⟨_, cap, by rw [hv, List.length_append]⟩
    obtain ⟨A', c', rfl⟩ := e
    refine h A' c' w' _ rfl ?_ hB hg
    unfold OwnG
    rw [List.flatMap_append, List.length_append]
    rw [List.length_append] at hown'
    exact hown'

theorem wpList_appG {α : Type} {P : Program} {S T : TypeId} {sz bytes : Nat} {f : α → List Value} (R : RowT P S T sz bytes f) {ops : Array Oper} {rest : List Oper} {o : Oper} {a : Act} {w : World} {Q : Exit → Act → World → Prop} (hgd : o.guard = none) (s x : Operand)
    (ho : o.op = .call { callee := .builtin .append, args := #[s, x], argTypes := #[S, S] })
    (base : Nat) (A : Option Addr) (c : Nat) (xs : List α) (hs : a.eval s = .slice A xs.length c) (hown : OwnG T sz f w base A c xs)
    (ad : Addr) (m k : Nat) (news : List α) (hx : a.eval x = .slice (some ad) m k) (hm : news.length = m) (hnews : ∀ j u, (news.flatMap f)[j]? = some u → w.cell? (ad.add j) = some u)
    (hlen : xs.length + m ≤ 9223372036854775807) (hbytes : (xs.length + m) * bytes ≤ 140737488355328) (hbase : base ≤ w.heap.size)
    (h : ∀ A' c' w' xs', xs' = xs ++ news → OwnG T sz f w' base A' c' xs' → Below base w w' → w.grownBy w' (Value.slice A xs.length c).ownBlock → wpList P ops Q rest (a.put o.dst (.slice A' xs'.length c')) w') : wpList P ops Q (o :: rest) a w :=
  wpList_plain hgd fun _ hK => wp_appG R s x ho base A c xs hs hown ad m k news hx hm hnews hlen hbytes hbase fun A' c' w' xs' h1 h2 h3 h4 => hK _ _ (h A' c' w' xs' h1 h2 h3 h4)

end Go.Proofs.YtlagglkpbnbmeaaGreatDoor

/- Walks: the program's scanner. -/
namespace Go.Proofs.YtlagglkpbnbmeaaGreatDoor
open Go Go.RowKit

set_option maxHeartbeats 2000000
set_option maxRecDepth 100000

def tokC (t : Tok) : List Value := [.int .i64 t.k, .int .i64 t.a, .int .i64 t.b, str t.s, .int .i64 t.n]
theorem infoT : (Tryz.prog.info? 76).map (fun i => (i.zero, i.size, i.bytes)) = some (some (.agg #[.int .i64 0, .int .i64 0, .int .i64 0, str [], .int .i64 0]), 5, 48) := by kernel_rfl
theorem rowTok : RowT Tryz.prog 67 76 5 48 tokC where
  ht := Tryz.underlying67
  info := by
    obtain ⟨i0, hi, hz0, hz1, hz2⟩ := info_parts infoT
    exact ⟨i0, _, hi, hz0, hz1, hz2, rfl⟩
  pos := by omega
  len := fun _ => rfl
  one := fun x u hu => by
    simp only [tokC, List.mem_cons, List.not_mem_nil, or_false] at hu
    rcases hu with rfl | rfl | rfl | rfl | rfl <;> rfl
abbrev OwnT := OwnG 76 5 tokC
def CutTok (m : Option (BTok × Nat)) (k : Nat) (wr wc : World) : Prop :=
  ∃ (kk a b : Int) (s : List UInt8) (n : Int), wc.cell? ⟨wr.heap.size, 0, none⟩ = some (.int .i64 kk) ∧ wc.cell? ⟨wr.heap.size, 1, none⟩ = some (.int .i64 a) ∧ wc.cell? ⟨wr.heap.size, 2, none⟩ = some (.int .i64 b) ∧
    wc.cell? ⟨wr.heap.size, 3, none⟩ = some (str s) ∧ wc.cell? ⟨wr.heap.size, 4, none⟩ = some (.int .i64 n) ∧ (∀ t len, m = some (t, len) → kk = t.k ∧ a = k ∧ b = (k + len : Nat) ∧ s = t.s ∧ n = t.n) ∧
    Below wr.heap.size wr wc ∧ wr.heap.size < wc.heap.size
theorem CutTok.mk {m : Option (BTok × Nat)} {k : Nat} {wr w1 : World} {kk a b : Int} {s : List UInt8} {n : Int} {cs : Array Value} (hc : ∀ j, w1.cell? ⟨wr.heap.size, j, none⟩ = cs[j]?) (h5 : cs.size = 5) (hlt : wr.heap.size < w1.heap.size) (hb : Below wr.heap.size wr w1)
    (hres : ∀ t len, m = some (t, len) → kk = t.k ∧ a = k ∧ b = (k + len : Nat) ∧ s = t.s ∧ n = t.n) :
    CutTok m k wr (((((w1.setCell ⟨wr.heap.size, 0, none⟩ (.int .i64 kk)).setCell ⟨wr.heap.size, 1, none⟩ (.int .i64 a)).setCell ⟨wr.heap.size, 2, none⟩ (.int .i64 b)).setCell ⟨wr.heap.size, 3, none⟩ (str s)).setCell ⟨wr.heap.size, 4, none⟩ (.int .i64 n)) := by
  obtain ⟨u0, e0⟩ : ∃ u, cs[0]? = some u := ⟨cs[0], by simp [h5]⟩
  obtain ⟨u1, e1⟩ : ∃ u, cs[1]? = some u := ⟨cs[1], by simp [h5]⟩
  obtain ⟨u2, e2⟩ : ∃ u, cs[2]? = some u := ⟨cs[2], by simp [h5]⟩
  obtain ⟨u3, e3⟩ : ∃ u, cs[3]? = some u := ⟨cs[3], by simp [h5]⟩
  obtain ⟨u4, e4⟩ : ∃ u, cs[4]? = some u := ⟨cs[4], by simp [h5]⟩
  have h0 := (hc 0).trans e0
  have h1 := (hc 1).trans e1
  have h2 := (hc 2).trans e2
  have h3 := (hc 3).trans e3
  have h4 := (hc 4).trans e4
  refine ⟨kk, a, b, s, n, ?_, ?_, ?_, ?_, ?_, hres, ?_, by simpa [World.setCell] using hlt⟩
  · go_simp
  · go_simp
  · go_simp
  · go_simp
  · go_simp
  · go_grown

def ScanRes (m : Except Nat (List Tok)) (base : Nat) (e : Ending) (w' : World) : Prop :=
  match m with
  | .ok ts => ∃ A c, e = .returned (.tuple #[.slice A ts.length c, .int .i64 0, .int .i64 0]) ∧ OwnT w' base A c ts
  | .error at_ => e = .returned (.tuple #[.slice none 0 0, .int .i64 at_, .int .i64 3])

theorem mTok_small {c : UInt8} {r : List UInt8} (h : isSmall c = true) : mTok (c :: r) = mWord (c :: r.takeWhile isPart) := by rw [mTok, if_pos h]
theorem mTok_num {c : UInt8} {r : List UInt8} (h : isSmall c = false) (h2 : isDig c = true ∨ c.toNat = 126) : mTok (c :: r) = mNumber (c :: r.takeWhile isDig) := by
  rw [mTok, if_neg (by simp [h]), if_pos (by simpa using h2)]
theorem mTok_text {r : List UInt8} : mTok (34 :: r) = mText r := by rfl
theorem mTok_sign {c : UInt8} {r : List UInt8} (h : isSmall c = false) (h2 : isDig c = false) (h3 : c.toNat ≠ 126) (h4 : c.toNat ≠ 34) : mTok (c :: r) = mSign (c :: r) := by
  rw [mTok, if_neg (by simp [h]), if_neg (by simp [h2, h3]), if_neg h4]

theorem lexScan_any (A : Option Addr) (c : Nat) (bs : List UInt8) (w : World) (hb : RdB w A bs) (hcap : bs.length ≤ c) (hmax : bs.length ≤ 140737488351232) :
    Calls Tryz.prog 43 #[.slice A bs.length c] w fun e w' => ScanRes (mScan bs) w.heap.size e w' ∧ Below w.heap.size w w' := by
  by_cases hbig : 16384 < bs.length
  · have hm : mScan bs = .error 16384 := by rw [mScan, if_pos hbig]
    have hm' := hide hm; clear hm
    have hbig' : (16384 : Int) < bs.length := by omega
    go_enter Tryz.func43, Tryz.ntmps43
    go_wp2_with fail
    go_ret3
    rw [hm'.out]
    exact ⟨rfl, Below.refl _ _⟩
  · have hm : mScan bs = mScanR 0 bs := by rw [mScan, if_neg hbig]
    have hm' := hide hm; clear hm
    have hbig' : (bs.length : Int) ≤ 16384 := by omega
    go_enter Tryz.func43, Tryz.ntmps43
    have h0 := lexSkip_any A c 0 bs w hb (by omega) (by omega)
    rw [show ((0 : Nat) : Int) = 0 from rfl] at h0
    have h0' := hide h0; clear h0
    go_wp2_with (go_at_call 72; refine (Calls.mono h0'.out ?_); rintro e w' ⟨rfl, rfl⟩)
    go_loopw [2, 5] (fun l i wr => ∃ (k : Nat) (ts : List Tok) (A' : Option Addr) (c' : Nat), k ≤ bs.length ∧ i = .int .i64 k ∧ mSkip false (bs.drop k) = bs.drop k ∧ ts.length ≤ k ∧ l = .slice A' ts.length c' ∧ OwnT wr w.heap.size A' c' ts ∧ mScanR 0 bs = pre ts (mScanR k (bs.drop k)) ∧ Below w.heap.size w wr) (fun _ i _ => bs.length - (intOf i).toNat)
    case atStart =>
      refine ⟨_, [], none, 0, by omega, rfl, ?_, by simp, rfl, OwnG.nil _ _, ?_, Below.refl _ _⟩
      · have h := mSkip_drop false bs
        rw [h, mSkip_idem]
      · rw [pre_nil]
        exact mScanR_skip bs 0 (by omega)
    case round =>
      obtain ⟨k, ts, A', c', hk, rfl, hsk, htk, rfl, hown, he, hbl⟩ := hrel
      have he' := hide he; have hsk' := hide hsk; clear he hsk
      have hsz := hbl.size
      have hrd : RdB wr A bs := hb.below hbl
      by_cases hlt : k < bs.length
      · obtain ⟨ad, x, rfl, hc, hd⟩ := hrd.at hlt
        have hd' := hide hd; clear hd
        have hc' : ∀ o, (wr.alloc o).cell? (ad.add k) = some (.int .u8 (x.toNat : Int)) := fun o => by
          rw [World.cell?_alloc_lt wr o _ (World.block_lt_of_cell? wr _ hc)]
          exact hc
        clear hc
        have hne0 : bs.drop k ≠ [] := by rw [hd'.out]; simp
        have hclass : (∃ F : Nat, isSmall x = true ∧ F = 74 ∧ ∀ o, Calls Tryz.prog F #[.slice (some ad) bs.length c, .int .i64 k] (wr.alloc o) fun e w' => LexRes (mTok (bs.drop k)) k e ∧ Below (wr.alloc o).heap.size (wr.alloc o) w') ∨
            (∃ F : Nat, isSmall x = false ∧ isDig x = true ∧ F = 76 ∧ ∀ o, Calls Tryz.prog F #[.slice (some ad) bs.length c, .int .i64 k] (wr.alloc o) fun e w' => LexRes (mTok (bs.drop k)) k e ∧ Below (wr.alloc o).heap.size (wr.alloc o) w') ∨
            (∃ F : Nat, isSmall x = false ∧ isDig x = false ∧ ((x.toNat : Int) == 126) = true ∧ F = 76 ∧ ∀ o, Calls Tryz.prog F #[.slice (some ad) bs.length c, .int .i64 k] (wr.alloc o) fun e w' => LexRes (mTok (bs.drop k)) k e ∧ Below (wr.alloc o).heap.size (wr.alloc o) w') ∨
            (∃ F : Nat, isSmall x = false ∧ isDig x = false ∧ ((x.toNat : Int) == 126) = false ∧ ((x.toNat : Int) == 34) = true ∧ F = 77 ∧ ∀ o, Calls Tryz.prog F #[.slice (some ad) bs.length c, .int .i64 k] (wr.alloc o) fun e w' => LexRes (mTok (bs.drop k)) k e ∧ Below (wr.alloc o).heap.size (wr.alloc o) w') ∨
            (∃ F : Nat, isSmall x = false ∧ isDig x = false ∧ ((x.toNat : Int) == 126) = false ∧ ((x.toNat : Int) == 34) = false ∧ F = 78 ∧ ∀ o, Calls Tryz.prog F #[.slice (some ad) bs.length c, .int .i64 k] (wr.alloc o) fun e w' => LexRes (mTok (bs.drop k)) k e ∧ Below (wr.alloc o).heap.size (wr.alloc o) w') := by
          cases h1 : isSmall x
          · cases h2 : isDig x
            · by_cases h3 : x.toNat = 126
              · refine .inr (.inr (.inl ⟨_, rfl, rfl, by rw [beq_iff_eq]; omega, rfl, fun o => ?_⟩))
                rw [hd'.out, mTok_num h1 (.inr h3)]
                exact lexNumber_any _ c k bs _ (hrd.alloc o) hlt hcap (by omega) x _ hd'.out
              · by_cases h4 : x.toNat = 34
                · have hx34 : x = 34 := UInt8.toNat_inj.1 h4
                  refine .inr (.inr (.inr (.inl ⟨_, rfl, rfl, by rw [beq_eq_false_iff_ne]; omega, by rw [beq_iff_eq]; omega, rfl, fun o => ?_⟩)))
                  have hd2 := hd'.out
                  rw [hx34] at hd2
                  rw [hd2, mTok_text]
                  exact lexText_any _ c k bs _ (hrd.alloc o) hlt hcap (by omega) _ hd2
                · refine .inr (.inr (.inr (.inr ⟨_, rfl, rfl, by rw [beq_eq_false_iff_ne]; omega, by rw [beq_eq_false_iff_ne]; omega, rfl, fun o => ?_⟩)))
                  rw [hd'.out, mTok_sign h1 h2 h3 h4]
                  exact lexSign_any _ c k bs _ (hrd.alloc o) hlt hcap (by omega) x _ hd'.out
            · refine .inr (.inl ⟨_, rfl, rfl, rfl, fun o => ?_⟩)
              rw [hd'.out, mTok_num h1 (.inl h2)]
              exact lexNumber_any _ c k bs _ (hrd.alloc o) hlt hcap (by omega) x _ hd'.out
          · refine .inl ⟨_, rfl, rfl, fun o => ?_⟩
            rw [hd'.out, mTok_small h1]
            exact lexNamed_any _ c k bs _ (hrd.alloc o) hlt hcap (by omega) x _ hd'.out
        go_upto_block 2 with fail
        go_cut [7] (fun s7 wc => s7 = .bool (mTok (bs.drop k)).isSome ∧ CutTok (mTok (bs.drop k)) k wr wc)
        case first =>
          rcases hclass with ⟨F, f1, rfl, hcon⟩ | ⟨F, f1, f2, rfl, hcon⟩ | ⟨F, f1, f2, f3, rfl, hcon⟩ | ⟨F, f1, f2, f3, f4, rfl, hcon⟩ | ⟨F, f1, f2, f3, f4, rfl, hcon⟩
          all_goals
            have hcon' := hide hcon; clear hcon
            go_wp2_with (first | (go_at_call 73; with_reducible refine (lexSmall_any x _).mono ?_; rintro e w' ⟨rfl, rfl⟩) | (go_at_call 75; with_reducible refine (lexDigit_any x _).mono ?_; rintro e w' ⟨rfl, rfl⟩))
            refine (Calls.mono (hcon'.out _) ?_)
            rintro e w1 ⟨⟨kk, a, b, s, n, rfl, hres⟩, hbl1⟩
            obtain ⟨z1, z2, z3, z4⟩ := kept_cells hbl1
            clear hbl1
            have hres' := hide hres; clear hres
            go_wp2_with fail
            go_meet
            exact ⟨rfl, CutTok.mk z1 rfl z3 z4 hres'.out⟩
        case rest =>
          obtain ⟨rfl, hct⟩ := hcut
          obtain ⟨kk, a, b, s, n, c0, c1, c2, c3, c4, hres, hbl1, hlt1⟩ := hct
          have hbw : Below w.heap.size w wc := hbl.trans (hbl1.mono hsz)
          clear hclass hc'
          cases hmt : mTok (bs.drop k) with
          | none =>
            have hend : mScanR 0 bs = .error k := by
              rw [he'.out, mScanR_none _ _ (by rw [hsk'.out]; exact hne0) (by rw [hsk'.out]; exact hmt), hsk'.out, Nat.sub_self]
              rfl
            have hend' := hide hend; clear hend hres hmt
            go_wp2_with fail
            go_ret3
            refine ⟨?_, hbw⟩
            rw [hm'.out, hend'.out]
            rfl
          | some p =>
            obtain ⟨t, len⟩ := p
            obtain ⟨hn1, hn2⟩ := mTok_len hmt
            rw [List.length_drop] at hn2
            have hstep : mScanR 0 bs = pre (ts ++ [t.at k (k + len)]) (mScanR (k + len) (bs.drop (k + len))) := by
              rw [he'.out, mScanR_some _ _ (by rw [hsk'.out]; exact hne0) (by rw [hsk'.out]; exact hmt), hsk'.out, Nat.sub_self, Nat.add_zero, pre_pre, List.drop_drop]
            have hstep' := hide hstep; clear hstep
            obtain ⟨rfl, rfl, rfl, rfl, rfl⟩ := hres t len hmt
            have hres' := hide hres; clear hres hmt
            have hownc : OwnT wc w.heap.size A' c' ts := hown.keep hbl1
            have hlast := hown.at
            go_wp2_with (at_builtin; refine wpList_appG rowTok rfl (.tmp 65) (.tmp 67) rfl w.heap.size A' c' ts rfl (hownc.alloc _) ⟨wc.heap.size, 0, none⟩ 1 1 [t.at k (k + len)] rfl rfl (newsG wc [t.at k (k + len)] _) (by omega) (by omega) (by simp; omega) ?_; intro A2 c3' w2 ts2 ht2 hown2 hB2 hg2; have ht2' := hide ht2; clear ht2; have hz2 : w2.cell? ⟨wr.heap.size, 2, none⟩ = some (.int .i64 ((k + len : Nat) : Int)) := World.grownBy.cell hg2 (by rw [World.cell?_alloc_lt _ _ _ hlt1]; exact c2) (fun e => absurd (hlast _ e.symm).2 (Nat.lt_irrefl _)); rw [Int.natCast_add] at hz2)
            have hrd2 : RdB w2 (some ad) bs := hb.below (hbw.trans (((Below.refl _ _).alloc hbw.size _).trans hB2))
            have hs := lexSkip_any (some ad) c (k + len) bs w2 hrd2 (by omega) (by omega)
            rw [Int.natCast_add] at hs
            have hs' := hide hs; clear hs
            go_wp2_with (go_at_call 72; refine (Calls.mono hs'.out ?_); rintro e w' ⟨rfl, rfl⟩)
            have hbw2 : Below w.heap.size w w2 := hbw.trans (((Below.refl _ _).alloc hbw.size _).trans hB2)
            go_roundw
            case rel =>
              have hle := mSkip_le false (bs.drop (k + len))
              rw [List.length_drop] at hle
              refine ⟨_, ts2, A2, c3', by omega, rfl, ?_, ?_, rfl, hown2, ?_, hbw2⟩
              · rw [skip_drop bs (k + len) (by omega), mSkip_idem]
              · rw [ht2'.out, List.length_append, List.length_singleton]; omega
              · rw [hstep'.out, ht2'.out, ← mScanR_skip bs (k + len) (by omega)]
            case measure =>
              have hle := mSkip_le false (bs.drop (k + len))
              rw [List.length_drop] at hle
              simp [intOf]; omega
      · have hkl : k = bs.length := by omega
        have hlt' : (bs.length : Int) ≤ k := by omega
        have hkl' := hide hkl; clear hkl
        go_wp2_with fail
        go_ret3
        refine ⟨?_, hbl⟩
        rw [hm'.out, he'.out, mScanR_nil _ _ (by rw [List.drop_eq_nil_of_le (by omega)]; rfl)]
        simp only [pre, List.append_nil]
        exact ⟨A', c', rfl, hown⟩

end Go.Proofs.YtlagglkpbnbmeaaGreatDoor

/- Plain laws of numbers' texts. -/
namespace Go.Proofs.YtlagglkpbnbmeaaGreatDoor

theorem valD_snoc (v : Nat) (l : List UInt8) (c : UInt8) : valD v (l ++ [c]) = valD v l * 10 + (c.toNat - 48) := by simp [valD]
theorem digC_nat {d : Nat} (h : d < 10) : (UInt8.ofNat (48 + d)).toNat = 48 + d := by simp; omega
theorem isDig_iff_ (c : UInt8) : isDig c = true ↔ 48 ≤ c.toNat ∧ c.toNat ≤ 57 := by simp [isDig]
theorem digF_dig : ∀ f u, (digF f u).all isDig = true
  | 0, u => rfl
  | f + 1, u => by
    rw [digF]
    split
    · simp only [List.all_cons, List.all_nil, Bool.and_true, isDig_iff_, digC_nat ‹_›]; omega
    · rw [List.all_append, digF_dig f]
      simp only [List.all_cons, List.all_nil, Bool.and_true, Bool.true_and, isDig_iff_, digC_nat (show u % 10 < 10 by omega)]; omega
theorem digF_val : ∀ f u, u < 10 ^ f → valD 0 (digF f u) = u
  | 0, u, h => by simp at h; subst h; rfl
  | f + 1, u, h => by
    rw [digF]
    split
    · simp only [valD, List.foldl_cons, List.foldl_nil, digC_nat ‹_›]; omega
    · rw [valD_snoc, digF_val f (u / 10) (by rw [Nat.pow_succ] at h; omega), digC_nat (by omega)]; omega
theorem digF_len : ∀ f u, (digF f u).length ≤ f
  | 0, u => by simp [digF]
  | f + 1, u => by
    rw [digF]
    split
    · simp
    · have := digF_len f (u / 10)
      rw [List.length_append]; simp; omega
theorem digF_more : ∀ f u, u < 10 ^ f → digF (f + 1) u = digF f u ∨ f = 0
  | 0, u, h => .inr rfl
  | f + 1, u, h => by
    left
    have e1 : digF (f + 1 + 1) u = if u < 10 then [UInt8.ofNat (48 + u)] else digF (f + 1) (u / 10) ++ [UInt8.ofNat (48 + u % 10)] := rfl
    have e2 : digF (f + 1) u = if u < 10 then [UInt8.ofNat (48 + u)] else digF f (u / 10) ++ [UInt8.ofNat (48 + u % 10)] := rfl
    rw [e1, e2]
    split
    · rfl
    · rcases digF_more f (u / 10) (by rw [Nat.pow_succ] at h; omega) with h1 | h1
      · rw [h1]
      · subst h1; simp at h; omega
theorem digF_less {f g u : Nat} (hu : u < 10 ^ f) (hf : 1 ≤ f) (hg : f ≤ g) : digF g u = digF f u := by
  obtain ⟨k, rfl⟩ : ∃ k, g = f + k := ⟨g - f, by omega⟩
  induction k with
  | zero => rfl
  | succ k ih =>
    have h1 : u < 10 ^ (f + k) := Nat.lt_of_lt_of_le hu (Nat.pow_le_pow_right (by omega) (by omega))
    rcases digF_more (f + k) u h1 with h2 | h2
    · rw [← ih (by omega)]; exact h2
    · omega
theorem digF_ne (f u : Nat) (hf : 1 ≤ f) : digF f u ≠ [] := by
  obtain ⟨k, rfl⟩ : ∃ k, f = k + 1 := ⟨f - 1, by omega⟩
  rw [digF]
  split <;> simp
theorem pow19 : (10 : Nat) ^ 19 = 10000000000000000000 := by decide
theorem pow20 : (10 : Nat) ^ 20 = 100000000000000000000 := by decide
theorem mDigits_19 {u : Nat} (h : u < 10 ^ 19) : mDigits u = digF 19 u := digF_less h (by omega) (by omega)
theorem mDigits_val {u : Nat} (h : u < 10 ^ 20) : valD 0 (mDigits u) = u := digF_val 20 u h
theorem mDigits_dig (u : Nat) : (mDigits u).all isDig = true := digF_dig 20 u
theorem mDigits_ne (u : Nat) : mDigits u ≠ [] := digF_ne 20 u (by omega)
theorem mDigits_len {u : Nat} (h : u < 10 ^ 19) : 1 ≤ (mDigits u).length ∧ (mDigits u).length ≤ 19 := by
  refine ⟨List.length_pos_iff.2 (mDigits_ne u), ?_⟩
  rw [mDigits_19 h]
  exact digF_len 19 u
end Go.Proofs.YtlagglkpbnbmeaaGreatDoor

/- A region that draws its order, walked once: what yields the same in every later world is taken first; a call that stands alone is met by its contract, and what it leaves is the new world to speak of. -/
namespace Go.Proofs.YtlagglkpbnbmeaaGreatDoor
open Go Go.RowKit

def Later (W w : World) : Prop := W.heap.size ≤ w.heap.size ∧ ∀ p : Addr, p.block < W.heap.size → w.cell? p = W.cell? p
theorem Later.refl (W : World) : Later W W := ⟨Nat.le_refl _, fun _ _ => rfl⟩
theorem Later.trans {W w w2 : World} (h : Later W w) (h2 : Later w w2) : Later W w2 := ⟨Nat.le_trans h.1 h2.1, fun p hp => (h2.2 p (Nat.lt_of_lt_of_le hp h.1)).trans (h.2 p hp)⟩
theorem Later.drew {W w : World} (h : Later W w) : Later W.drew w := h

section
variable {P : Program} {ops : Array Oper} {Q : Exit → Act → World → Prop} {md : Region.Mode}
theorem held_stronger {S S' : World → Prop} (hs : ∀ w, S' w → S w) : ∀ (fuel : Nat) (listed : Array Bool) (a : Act) (w : World), wpAnyH P md ops Q S' fuel listed a w → wpAnyH P md ops Q S fuel listed a w
  | 0, _, _, _, h => h
  | fuel + 1, _, _, _, h => ⟨h.1, fun i hi => wpOp_mono (fun a' w' h' => ⟨hs w' h'.1, held_stronger hs fuel _ a' w' h'.2⟩) (h.2 i hi)⟩
end

def LaterX (x : Option Nat) (W w : World) : Prop := W.heap.size ≤ w.heap.size ∧ ∀ p : Addr, p.block < W.heap.size → some p.block ≠ x → w.cell? p = W.cell? p
theorem LaterX.refl (x : Option Nat) (W : World) : LaterX x W W := ⟨Nat.le_refl _, fun _ _ _ => rfl⟩
theorem LaterX.trans {x : Option Nat} {W w w2 : World} (h : LaterX x W w) (h2 : LaterX x w w2) : LaterX x W w2 := ⟨Nat.le_trans h.1 h2.1, fun p hp hx => (h2.2 p (Nat.lt_of_lt_of_le hp h.1) hx).trans (h.2 p hp hx)⟩
theorem laterX_grown {x : Option Nat} {W w : World} (h : W.grownBy w x) : LaterX x W w := ⟨h.size, fun p hp hx => World.cell?_of_block (h.block p.block hp hx)⟩

section
variable {P : Program} {ops : Array Oper} {Q : Exit → Act → World → Prop} {md : Region.Mode} {x : Option Nat}
theorem drawn_startX (x : Option Nat) {id : Nat} {a : Act} {w : World} (hm : P.follows .mixedOrders = true)
    (h : wpAnyH P .any ops (NoPanic Q) (LaterX x w.drew) ops.size (Array.replicate ops.size false) a w.drew) : (Code.region id ops true).wp P Q a w :=
  wp_region_noPanic (wp_region_held_drew (S := LaterX x w.drew) hm (LaterX.refl _ _) fun _ => h)
theorem take_atX {W : World} {a : Act} {fuel : Nat} {listed : Array Bool} {oi : Oper} {v : Value} (i : Nat) (hi : ops.toList[i]? = some oi) (hs : Region.noSelect ops = true) (hf : Region.free md ops listed i = true)
    (hr : (Region.ready md ops listed).contains i = true) (hw : Region.wanted oi (yielded ops a.tmps) = true) (hy : ∀ w, LaterX x W w → (execOp a.eval oi).run P w = .ok (.value v) w)
    (h : wpAnyH P md ops (NoPanic Q) (LaterX x W) fuel (listed.setIfInBounds i true) (a.put oi.dst v) W) : wpAnyH P md ops (NoPanic Q) (LaterX x W) (fuel + 1) listed a W :=
  wpAnyH_take ((Array.getElem?_toList).symm.trans hi) hs hf hr (fun _ _ _ h => h) (.inl ⟨hw, hy⟩) (LaterX.refl x W) h
theorem sole_atX {W : World} {a : Act} {fuel : Nat} {listed : Array Bool} {o : Oper} (i : Nat) (hr : Region.ready md ops listed = [i]) (ho : ops.toList[i]? = some o)
    (hw : Region.wanted o (yielded ops a.tmps) = true)
    (h : ∀ K : Act → World → Prop, Shut (∀ a w1, LaterX x W w1 → wpAnyH P md ops (NoPanic Q) (LaterX x w1) fuel (listed.setIfInBounds i true) a w1 → K a w1) → Oper.wp P o a W K (NoPanic Q)) :
    wpAnyH P md ops (NoPanic Q) (LaterX x W) (fuel + 1) listed a W := by
  refine wpAnyH_ready (rs := [i]) hr (by simp) (AllReadyH.cons ((Array.getElem?_toList).symm.trans ho) (fun K hK => ?_) AllReadyH.nil)
  rw [if_pos hw]
  refine h K fun a w1 hl hn => hK.out a w1 hl fun _ => held_stronger (fun w h => hl.trans h) _ _ _ _ hn
theorem drawn_doneX {W : World} {a : Act} {fuel : Nat} {listed : Array Bool} (hr : Region.ready md ops listed = []) (h : Q .normal a W) : wpAnyH P md ops (NoPanic Q) (LaterX x W) fuel listed a W :=
  wpAnyH_done hr (NoPanic.normal h) fuel
end

end Go.Proofs.YtlagglkpbnbmeaaGreatDoor

