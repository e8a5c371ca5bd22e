/- Types as trees: what an argument of the type api.Type holds, and where it lies. -/
import Derived.Test.YtccdnmjijakofaaDoorLY
import Derived.Test.YtccdnmjijakofaaDoorNt1
import Derived.Test.YtccdnmjijakofaaDoorTX
import Derived.Deep.Slices
import Derived.Deep.Fields
import Derived.ChangeSame
import Derived.Lib.SmallJoins
namespace Go.Proofs.YtccdnmjijakofaaDoor
open Go Go.RowKit Go.ChangeShapes Go.WideShapes Go.Deep
set_option maxRecDepth 100000

theorem lit_i64 {n : Int} (h : (Lit.int .i64 n).wf = true) : I64 n := by
  simp only [Lit.wf, Bool.and_eq_true, decide_eq_true_eq] at h
  exact h

mutual
/-- the kids of a type lie behind this slice, in blocks of S -/
def TyIn (S : Nat → Prop) (w : World) : Ty → Value → Prop
  | .mk k n ks, v => I64 k ∧ I64 n ∧ ∃ A c, v = .slice A ks.length c ∧ ks.length ≤ c ∧ c ≤ maxLen ∧ TysIn S w A 0 ks
def TysIn (S : Nat → Prop) (w : World) (A : Option Addr) : Nat → List Ty → Prop
  | _, [] => True
  | j, t :: r => (∃ ad v, A = some ad ∧ S ad.block ∧ w.cell? (ad.add (j * 3)) = some (.int .i64 t.kind) ∧ w.cell? (ad.add (j * 3 + 1)) = some (.int .i64 t.num) ∧ w.cell? (ad.add (j * 3 + 2)) = some v ∧ TyIn S w t v) ∧ TysIn S w A (j + 1) r
end

theorem TysIn.get {S : Nat → Prop} {w : World} {A : Option Addr} : ∀ {l : List Ty} {j : Nat}, TysIn S w A j l → ∀ i (h : i < l.length),
    ∃ ad v, A = some ad ∧ S ad.block ∧ w.cell? (ad.add ((j + i) * 3)) = some (.int .i64 l[i].kind) ∧ w.cell? (ad.add ((j + i) * 3 + 1)) = some (.int .i64 l[i].num) ∧ w.cell? (ad.add ((j + i) * 3 + 2)) = some v ∧ TyIn S w l[i] v
  | [], _, _, _, h => absurd h (by simp)
  | t :: r, j, hl, 0, _ => by
    rw [TysIn] at hl
    exact hl.1
  | t :: r, j, hl, i + 1, h => by
    rw [TysIn] at hl
    have := TysIn.get hl.2 i (by simpa using h)
    rw [show j + 1 + i = j + (i + 1) by omega] at this
    exact this
theorem TysIn.of {S : Nat → Prop} {w : World} {A : Option Addr} : ∀ {l : List Ty} {j : Nat}, (∀ i (h : i < l.length),
    ∃ ad v, A = some ad ∧ S ad.block ∧ w.cell? (ad.add ((j + i) * 3)) = some (.int .i64 l[i].kind) ∧ w.cell? (ad.add ((j + i) * 3 + 1)) = some (.int .i64 l[i].num) ∧ w.cell? (ad.add ((j + i) * 3 + 2)) = some v ∧ TyIn S w l[i] v) → TysIn S w A j l
  | [], _, _ => by rw [TysIn]; trivial
  | t :: r, j, h => by
    rw [TysIn]
    refine ⟨h 0 (by simp), TysIn.of fun i hi => ?_⟩
    have := h (i + 1) (by simpa using hi)
    rw [show j + (i + 1) = j + 1 + i by omega] at this
    exact this

/-- a kid, and where it lies: the cells as the walk spells them -/
theorem TyIn.at {S : Nat → Prop} {w : World} {t : Ty} {A : Option Addr} {len c : Nat} (h : TyIn S w t (.slice A len c)) (j : Nat) (hj : j < t.kids.length) :
    ∃ ad v, A = some ad ∧ S ad.block ∧ w.cell? (ad.add (j * 3)) = some (.int .i64 t.kids[j].kind) ∧ w.cell? ⟨(ad.add (j * 3)).block, (ad.add (j * 3)).off + 1, none⟩ = some (.int .i64 t.kids[j].num) ∧ w.cell? ⟨(ad.add (j * 3)).block, (ad.add (j * 3)).off + 2, none⟩ = some v ∧ TyIn S w t.kids[j] v := by
  cases t with
  | mk k n ks =>
    rw [TyIn] at h
    obtain ⟨_, _, A', c', hv, _, _, hk⟩ := h
    cases hv
    obtain ⟨ad, v, h1, h2, h3, h4, h5, h6⟩ := hk.get j hj
    rw [Nat.zero_add] at h3 h4 h5
    rw [← add_of_add] at h4 h5
    exact ⟨ad, v, h1, h2, h3, h4, h5, h6⟩
theorem TyIn.shape {S : Nat → Prop} {w : World} {t : Ty} {v : Value} (h : TyIn S w t v) : ∃ A c, v = .slice A t.kids.length c ∧ t.kids.length ≤ c ∧ c ≤ 9223372036854775807 ∧ I64 t.kind ∧ I64 t.num := by
  cases t with
  | mk k n ks =>
    rw [TyIn] at h
    obtain ⟨h1, h2, A, c, hv, hc, hm, _⟩ := h
    exact ⟨A, c, hv, hc, hm, h1, h2⟩

/-- from world to world, from blocks to blocks -/
theorem TyIn.mono {S S' : Nat → Prop} {w w' : World} (hS : ∀ b, S b → S' b) (hw : ∀ a : Addr, S a.block → w'.cell? a = w.cell? a) : ∀ (n : Nat) (t : Ty) (v : Value), t.size ≤ n → TyIn S w t v → TyIn S' w' t v
  | 0, t, _, hn, _ => absurd t.size_pos (by omega)
  | n + 1, .mk k m ks, v, hn, h => by
    rw [TyIn] at h ⊢
    obtain ⟨h1, h2, A, c, hv, hc, hmx, hk⟩ := h
    refine ⟨h1, h2, A, c, hv, hc, hmx, TysIn.of fun i hi => ?_⟩
    obtain ⟨ad, u, hA, hb, c0, c1, c2, hu⟩ := hk.get i hi
    have hsz := Ty.size_le ks i hi
    rw [Ty.size] at hn
    exact ⟨ad, u, hA, hS _ hb, (hw _ (by rw [block_of_add]; exact hb)).trans c0, (hw _ (by rw [block_of_add]; exact hb)).trans c1, (hw _ (by rw [block_of_add]; exact hb)).trans c2, TyIn.mono hS hw n _ _ (by omega) hu⟩

/-- the type's value -/
abbrev tyV (t : Ty) (v : Value) : Value := .agg #[.int .i64 t.kind, .int .i64 t.num, v]

theorem TyIn.below {w w' : World} {t : Ty} {v : Value} (h : TyIn (· < w.heap.size) w t v) (hb : Below w.heap.size w w') : TyIn (· < w'.heap.size) w' t v :=
  TyIn.mono (fun _ hb' => Nat.lt_of_lt_of_le hb' hb.size) (fun _ ha => hb.cell ha) _ t v (Nat.le_refl _) h

section
variable {H : Type} {enc : TypeId × Value → H} {w : World} {base : Nat} {spare : Nat → Bool} {held : Bool}
/-- what reads as a type is one -/
theorem trod_ty : ∀ (n : Nat) (fuel : Nat) (cs : List Value) (x : DataW H × List MemPlace), fuel ≤ n → DataW.trod enc Tryd.prog w base spare held fuel 41 cs = some x →
    ∃ t v, cs = [.int .i64 (Ty.kind t), .int .i64 (Ty.num t), v] ∧ TyIn (· < w.heap.size) w t v
  | 0, fuel, cs, x, hn, h => by
    obtain rfl : fuel = 0 := by omega
    simp [DataW.trod] at h
  | n + 1, fuel, cs, x, hn, h => by
    have hS : Tryd.prog.underlying 41 = some (.struct (Tryd.prog.fieldsOf 41)) := by kernel_rfl
    obtain ⟨xs, m, rfl, _, hl, hlen, hf⟩ := DataW.trod_struct hS h
    rw [show Tryd.prog.cellsOf 41 = 3 by kernel_rfl] at hl
    simp only [Program.fieldsOf, Tryd.underlying41] at hlen hf
    match cs, hl with
    | [c0, c1, c2], _ =>
      have e3 : Tryd.prog.cellsOf 3 = 1 := by kernel_rfl
      have e4 : Tryd.prog.cellsOf 39 = 1 := by kernel_rfl
      match xs, hlen with
      | [y0, y1, y2], _ =>
        have h0 := hf 0 _ rfl
        have h1 := hf 1 _ rfl
        have h2 := hf 2 _ rfl
        clear hf
        simp [e3, e4] at h0 h1 h2
        obtain ⟨k, k0, _, k1⟩ := DataW.trod_int Tryd.underlying3 h0
        obtain ⟨z, z0, _, z1⟩ := DataW.trod_int Tryd.underlying3 h1
        cases k0
        cases z0
        have hk := lit_i64 k1
        have hz := lit_i64 z1
        rcases DataW.trod_slice Tryd.underlying39 h2 with ⟨e, _⟩ | ⟨a, len, cap, elems, rest, m', rfl, e, _, _, hlc, hcm, hel, hels, _⟩
        · cases e
          refine ⟨.mk k z [], _, rfl, ?_⟩
          rw [TyIn]
          exact ⟨hk, hz, none, 0, rfl, Nat.le_refl _, Nat.zero_le _, by rw [TysIn]; trivial⟩
        · cases e
          have hkid : ∀ i, i < len → ∃ t : Ty, ∃ v, w.cell? (a.add (i * 3)) = some (.int .i64 t.kind) ∧ w.cell? (a.add (i * 3 + 1)) = some (.int .i64 t.num) ∧ w.cell? (a.add (i * 3 + 2)) = some v ∧ TyIn (· < w.heap.size) w t v := by
            intro i hi
            have he := hels i hi
            rw [show Tryd.prog.cellsOf 41 = 3 by kernel_rfl, List.getElem?_eq_getElem (by omega)] at he
            cases hc : w.cells? base (a.add (i * 3)) 3 with
            | none => rw [hc] at he; cases he
            | some cs' =>
              rw [hc, Option.bind_some] at he
              obtain ⟨_, hcl, hat⟩ := World.cells?_some hc
              obtain ⟨t, v, rfl, hin⟩ := trod_ty n m' cs' _ (by omega) he
              have a0 := hat 0 (by omega)
              have a1 := hat 1 (by omega)
              have a2 := hat 2 (by omega)
              rw [Deep.add_add] at a0 a1 a2
              exact ⟨t, v, a0, a1, a2, hin⟩
          let T : Nat → Ty := fun i => if hi : i < len then Classical.choose (hkid i hi) else .mk 0 0 []
          have hT : ∀ i, i < len → ∃ v, w.cell? (a.add (i * 3)) = some (.int .i64 (T i).kind) ∧ w.cell? (a.add (i * 3 + 1)) = some (.int .i64 (T i).num) ∧ w.cell? (a.add (i * 3 + 2)) = some v ∧ TyIn (· < w.heap.size) w (T i) v := by
            intro i hi
            have := Classical.choose_spec (hkid i hi)
            simp only [T, dif_pos hi]
            exact this
          have hTl : ((List.range len).map T).length = len := by simp
          refine ⟨.mk k z ((List.range len).map T), _, rfl, ?_⟩
          rw [TyIn]
          refine ⟨hk, hz, some a, cap, by rw [hTl], by rw [hTl]; exact hlc, hcm, TysIn.of fun i hi => ?_⟩
          rw [hTl] at hi
          obtain ⟨v, a0, a1, a2, hin⟩ := hT i hi
          have hg : ((List.range len).map T)[i]'(by rw [hTl]; exact hi) = T i := by simp
          rw [hg, Nat.zero_add]
          refine ⟨a, v, rfl, ?_, a0, a1, a2, hin⟩
          have := World.block_lt_of_cell? w _ a0
          rwa [block_of_add] at this
/-- an argument of the type api.Type -/
theorem open_ty {r : Reach} {b0 : Nat} {v : Value} {d : DataW H} {p : List MemPlace} (hv : Value.okWide Tryd.prog w r b0 41 v) (h : DataW.Trod enc Tryd.prog w base spare held 41 v d p) :
    ∃ t u, v = tyV t u ∧ TyIn (· < w.heap.size) w t u := by
  have hS : Tryd.prog.underlying 41 = some (.struct (Tryd.prog.fieldsOf 41)) := by kernel_rfl
  obtain ⟨cs, rfl, _⟩ := okWide_struct hS hv
  obtain ⟨fuel, hf⟩ := h
  obtain ⟨t, u, hcs, hin⟩ := trod_ty fuel fuel _ _ (Nat.le_refl _) hf
  obtain ⟨l⟩ := cs
  have : l = [.int .i64 (Ty.kind t), .int .i64 (Ty.num t), u] := hcs
  subst this
  exact ⟨t, u, rfl, hin⟩
end


theorem tysD_E' (l : List Ty) : tysD l = l.map tyE := by
  rw [tysD_map]
  exact List.map_congr_left fun t _ => tyD_eq t
/-- .. as a tree of cells -/
theorem TyIn.din {S : Nat → Prop} {w : World} : ∀ (n : Nat) (t : Ty) (v : Value), t.size ≤ n → TyIn S w t v → DIn (fun p => S p.block) w (.sl 3 (tysD t.kids)) v
  | 0, t, _, hn, _ => absurd t.size_pos (by omega)
  | n + 1, .mk k m ks, v, hn, h => by
    rw [TyIn] at h
    obtain ⟨_, _, A, c, rfl, hc, _, hk⟩ := h
    show DIn _ _ (.sl 3 (tysD ks)) _
    refine .ofRow (tysD_len ks).symm (by rw [tysD_len]; exact hc) (fun h0 => ?_) (fun r hr => ?_) (fun i j d hd => ?_)
    · rw [tysD_len] at h0
      obtain ⟨ad, u, hA, _⟩ := hk.get 0 h0
      exact ⟨ad, hA⟩
    · rw [tysD_E'] at hr
      obtain ⟨x, _, rfl⟩ := List.mem_map.1 hr
      rfl
    · unfold D.at at hd
      rw [tysD_E', List.getElem?_map] at hd
      have hi : i < ks.length := by
        rcases Nat.lt_or_ge i ks.length with h1 | h1
        · exact h1
        · rw [List.getElem?_eq_none h1] at hd; cases hd
      rw [List.getElem?_eq_getElem hi] at hd
      simp only [Option.map_some, Option.bind_some] at hd
      obtain ⟨ad, u, hA, hb, c0, c1, c2, hu⟩ := hk.get i hi
      rw [Nat.zero_add] at c0 c1 c2
      have hsz := Ty.size_le ks i hi
      rw [Ty.size] at hn
      match j, hd with
      | 0, hd => cases hd; exact ⟨ad, _, hA, by rw [block_of_add]; exact hb, c0, .lit _ rfl⟩
      | 1, hd => cases hd; exact ⟨ad, _, hA, by rw [block_of_add]; exact hb, c1, .lit _ rfl⟩
      | 2, hd => cases hd; exact ⟨ad, _, hA, by rw [block_of_add]; exact hb, c2, TyIn.din n _ _ (by omega) hu⟩
      | j + 3, hd => cases hd
theorem TyIn.fv {w : World} {t : Ty} {u : Value} (h : TyIn (· < w.heap.size) w t u) : FV (fun p => p.block < w.heap.size) (fun _ => 0) w (.agg (tyE t)) (tyV t u) :=
  ⟨[.int .i64 t.kind, .int .i64 t.num, u], rfl, .lit _ rfl, .lit _ rfl, TyIn.din t.size t u (Nat.le_refl _) h, trivial⟩
theorem RdB.din {w : World} {A : Option Addr} {bs : List UInt8} {c : Nat} (h : RdB w A bs) (hc : bs.length ≤ c) : DIn (fun p => p.block < w.heap.size) w (.sl 1 (bcells bs)) (.slice A bs.length c) := by
  refine .ofRow (bcells_len bs).symm (by rw [bcells_len]; exact hc) (fun h0 => ?_) (bcells_rows bs) (fun i j d hd => ?_)
  · rw [bcells_len] at h0
    obtain ⟨ad, hA, _⟩ := h 0 h0
    exact ⟨ad, hA⟩
  · have hi : i < bs.length := by
      rcases Nat.lt_or_ge i bs.length with h1 | h1
      · exact h1
      · unfold D.at at hd
        rw [List.getElem?_eq_none (by rw [bcells_len]; exact h1)] at hd
        cases hd
    have hj : j = 0 := by
      unfold D.at bcells at hd
      simp only [List.getElem?_map, List.getElem?_eq_getElem hi, Option.map_some, Option.bind_some] at hd
      rcases j with _ | j
      · rfl
      · simp at hd
    subst hj
    rw [bcells_at bs i hi] at hd
    cases hd
    obtain ⟨ad, hA, hc⟩ := h i hi
    refine ⟨ad, _, hA, ?_, by simpa using hc, .lit _ rfl⟩
    have := World.block_lt_of_cell? w _ hc
    rwa [block_of_add] at this ⊢

/-- a contract, at a call from outside -/
theorem con_calls {P : Program} {f : FuncId} {fs : List F} {v0 : Value} (h : Con P f fs [] (.c (.lit v0)) []) (hfs : ∀ g, g ∈ fs → Flat g) {W : World} {args : Array Value} (hsz : args.size = fs.length)
    (hargs : ∀ i g, fs[i]? = some g → FV (fun p => p.block < W.heap.size) (fun _ => 0) W g (args.getD i undef)) (htt : TT W.heap.size W) : Calls P f args W fun e W' => e = .returned v0 ∧ Below W.heap.size W W' := by
  have hini : ∀ k g, find (ini fs []) k = some g → fs[k]? = some g := by
    intro k g hk
    unfold ini at hk
    rw [List.append_nil, find_nums] at hk
    simpa using hk
  have hflat : ∀ k g, find (ini fs []) k = some g → Flat g := fun k g hk => hfs g (List.mem_of_getElem? (hini k g hk))
  have hex : ∀ (ρ : Nat → Nat) (tv : Nat → Value) k g, find (ini fs []) k = some g → ex ρ tv k g = none := fun ρ tv k g hk => by
    have := hflat k g hk
    cases g <;> first | rfl | exact this.elim
  have hvol : ∀ p, ¬ vol (find (ini fs [])) (fun _ => 0) (fun i => args.getD i undef) p := fun p ⟨k, g, h1, h2, _⟩ => by rw [hex _ _ k g h1] at h2; cases h2
  have hrr : RR (fun _ => False) (fun _ => 0) (fun i => args.getD i undef) W (find (ini fs [])) := by
    refine ⟨fun p hp => hp.elim, fun k g hk => ?_, fun k g k' g' b h1 _ h3 _ => (by rw [hex _ _ k g h1] at h3; cases h3), fun k g b h1 h2 => (by rw [hex _ _ k g h1] at h2; cases h2)⟩
    refine KV.fv (FV.mono (S := fun p => p.block < W.heap.size) (w := W) (fun p hp => ⟨hp, fun e => e, hvol p⟩) (fun _ _ => rfl) (fun x o e => ?_) (fun _ _ _ e => ?_) (hargs k g (hini k g hk)))
    · rfl
    · intro b _; rfl
  refine (h (fun _ => False) (fun _ => 0) (fun i => args.getD i undef) W args W.heap.size hsz (fun _ _ => rfl) hrr htt (fun p hp => (hvol p hp).elim) (Nat.le_refl _)).mono ?_
  rintro e w' ⟨v, tv', rfl, hv, hfr, hrr', _⟩
  have := lit_val (ρ := fun _ => 0) (hrr'.rel 0 _ rfl)
  rw [← hv, this]
  exact ⟨rfl, hfr.below fun p _ => hvol p⟩

end Go.Proofs.YtccdnmjijakofaaDoor
