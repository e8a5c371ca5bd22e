/- The program's tree: one expression, all of an expression. -/
import Derived.Test.YtlagglkpbnbmeaaGreatDoorShC
import Derived.Test.YtlagglkpbnbmeaaGreatDoorShZ
import Derived.Test.YtlagglkpbnbmeaaGreatDoorRi4
import Derived.Test.YtlagglkpbnbmeaaGreatDoorS2
namespace Go.Proofs.YtlagglkpbnbmeaaGreatDoor
open Go Go.RowKit
set_option maxRecDepth 100000
set_option maxHeartbeats 4000000
set_option linter.unusedVariables false
set_option linter.unusedSimpArgs false

def k2 (e : Ex) (s : Shp) : Bool := !s.ok || decide ((e.kids.length : Int) ≠ s.kids) || (decide (e.kind ≠ 14) && decide (0 < e.pats.length))
def k4 (e : Ex) (s : Shp) : Bool := (s.name && !mName e.nm) || (!s.name && decide (e.nm ≠ []))
def k6 (e : Ex) (s : Shp) : Bool := (s.arg && !mName e.arg) || (!s.arg && decide (e.arg ≠ []))
def k8 (e : Ex) (s : Shp) : Bool := (!s.n && decide (e.n ≠ 0)) || (decide (e.kind = 3) && decide (e.n ≠ 0) && decide (e.n ≠ 1))
def k10 (e : Ex) (s : Shp) : Bool := (!s.s && decide (e.s ≠ [])) || decide (200 < e.s.length)
def k12 (e : Ex) (s : Shp) : Bool := (s.op && (decide (e.op < 1) || decide (7 < e.op))) || (!s.op && decide (e.op ≠ 0))
def k14 (e : Ex) (s : Shp) : Bool := (!mNone e.A && (!s.a || !mClosed e.A)) || (s.must && mNone e.A)
def k16 (e : Ex) (s : Shp) : Bool := !mNone e.B && (!s.b || !mClosed e.B)
def oneE (e : Ex) : Bool := !k2 e (shOf e) && !k4 e (shOf e) && !k6 e (shOf e) && !k8 e (shOf e) && !k10 e (shOf e) && !k12 e (shOf e) && !k14 e (shOf e) && !k16 e (shOf e) && e.pats.all mCheckPat
def mCheck (e : Ex) : Bool := e.list.all oneE
theorem pasK_get {n : Nat} {e : Ex} (h : ExK n e) {i : Nat} {x : Pa} (hx : e.pats[i]? = some x) : PaK n x := by
  cases h with
  | mk _ _ _ _ _ _ _ hp _ => exact hp x (List.mem_of_getElem? hx)
theorem oneE_w {e : Ex} (hk : e.kids.length ≤ 1000000000) (hp : e.pats.length ≤ 9223372036854775807) : oneE e = (!k2 e (shW e) && !k4 e (shW e) && !k6 e (shW e) && !k8 e (shW e) && !k10 e (shW e) && !k12 e (shW e) && !k14 e (shW e) && !k16 e (shW e) && e.pats.all mCheckPat) := by
  have h2 : k2 e (shW e) = k2 e (shOf e) := by unfold k2; simp only [shW_kids hk hp]; rfl
  rw [h2]; rfl
theorem tOne {n : Nat} (hn : n ≤ 1000000000) {e : Ex} (he : ExK n e) : Con Tryz.prog 55 [.agg (exX e)] [] (.c (.lit (.bool (oneE e)))) [] := by
  have hl := pasD_len3 e.pats; have hlk := exsD_len e.kids; have hnm : e.nm.length ≤ n := by cases he; assumption
  have harg : e.arg.length ≤ n := by cases he; assumption
  have hA : e.A.size ≤ n := by cases he; assumption
  have hB : e.B.size ≤ n := by cases he; assumption
  have hpl : e.pats.length ≤ 9223372036854775807 := by cases he; assumption
  have hkl : e.kids.length ≤ n := by cases he; assumption
  have hS := tShape e hpl; rw [oneE_w (by omega) hpl]; obtain ⟨sh, hsh⟩ : ∃ sh, shW e = sh := ⟨_, rfl⟩; rw [hsh] at hS ⊢; clear hsh
  rcases sh with ⟨g0, g1, g2, g3, g4, g5, g6, g7, gk, g8⟩
  refine gg [38,5,22,2001,1,0,9,3,2001,2,1,5,20,16] ?_; refine gc (hS) [2,14,14] ?_; refine u rfl rfl (r_alloc (x := 2003) (zs := [.bool false, .bool false, .bool false, .bool false, .bool false, .bool false, .bool false, .bool false, .int .i64 0]) [.lit (.bool false), .lit (.bool false), .lit (.bool false), .lit (.bool false), .lit (.bool false), .lit (.bool false), .lit (.bool false), .lit (.bool false), .lit (.int .i64 0)] rfl rfl rfl (by kernel_rfl) ⟨.refl _, .refl _, .refl _, .refl _, .refl _, .refl _, .refl _, .refl _, .refl _, trivial⟩) ?_; refine gg [10,1,0,9,6,2003,2001,4,3,2,1,31,35] ?_; refine J_cutF (α := { b : Bool // k2 e ⟨g0, g1, g2, g3, g4, g5, g6, g7, gk, g8⟩ = b }) (fun p => [(12, .c (.lit (.bool p.1)))]) [(1, _), (2, _), (3, _), (2001, _), (2003, _)] ⟨rfl, rfl, rfl, rfl, rfl, trivial⟩ ?_ ?_
  · skip
    refine gg [37,2,15,2] ?_
    cases g8
    · skip
      refine gg [39,6,16,2,39,9,16,1,0] ?_; exact cut_in ⟨true, by first | (simp [k2, *]; done) | (simp_all [k2]; done) | (simp_all [k2]; omega)⟩ ⟨rfl, rfl, rfl, rfl, rfl, rfl, trivial⟩
    skip
    refine gg [6,15,1,7,18,6,8,1,7] ?_; refine bN ?_ ?_
    · intro h21; refine gg [17,2,39,9,16,1,0] ?_; exact cut_in ⟨true, by first | (simp [k2, *]; done) | (simp_all [k2]; done) | (simp_all [k2]; omega)⟩ ⟨rfl, rfl, rfl, rfl, rfl, rfl, trivial⟩
    intro h21; refine gg [17,2,6,0,1,7] ?_; refine bN ?_ ?_
    · intro h26; refine gg [2,6,14,1,7,18] ?_; refine bG ?_ ?_
      · intro h31; refine gg [16,17,1,0] ?_; exact cut_in ⟨true, by first | (simp [k2, *]; done) | (simp_all [k2]; done) | (simp_all [k2]; omega)⟩ ⟨rfl, rfl, rfl, rfl, rfl, rfl, trivial⟩
      intro h31; refine gg [16,17,1,0] ?_; exact cut_in ⟨false, by first | (simp [k2, *]; done) | (simp_all [k2]; done) | (simp_all [k2]; omega)⟩ ⟨rfl, rfl, rfl, rfl, rfl, rfl, trivial⟩
    intro h26; refine gg [2,39,4,17,17,1,0] ?_; exact cut_in ⟨false, by first | (simp [k2, *]; done) | (simp_all [k2]; done) | (simp_all [k2]; omega)⟩ ⟨rfl, rfl, rfl, rfl, rfl, rfl, trivial⟩
  rintro ⟨b12, hb12⟩; dsimp only
  cases b12
  · skip
    refine gg [8] ?_; refine J_cutF (α := { b : Bool // k4 e ⟨g0, g1, g2, g3, g4, g5, g6, g7, gk, g8⟩ = b }) (fun p => [(34, .c (.lit (.bool p.1)))]) [(1, _), (2, _), (3, _), (2001, _), (2003, _)] ⟨rfl, rfl, rfl, rfl, rfl, trivial⟩ ?_ ?_
    · skip
      refine gg [37,6,0,1,7,2] ?_
      cases g0
      · skip
        refine gg [39,4,17,2,6,0,1,7,15,2,6,3,1,7] ?_; refine bT ?_ ?_
        · intro h50; refine gg [16,17,1,0] ?_; exact cut_in ⟨true, by first | (simp [k4, *]; done) | (simp_all [k4]; done) | (simp_all [k4]; omega)⟩ ⟨rfl, rfl, rfl, rfl, rfl, rfl, trivial⟩
        intro h50; refine gg [16,17,1,0] ?_; exact cut_in ⟨false, by first | (simp [k4, *]; done) | (simp_all [k4]; done) | (simp_all [k4]; omega)⟩ ⟨rfl, rfl, rfl, rfl, rfl, rfl, trivial⟩
      skip
      refine gg [6,3,1,7] ?_; refine JR.runC rfl rfl (cl (wName e.nm (by omega))) rfl ?_ ?_
      · intro h40; refine gg [15,16,2,6,0,1,7,15,2,39,3,17,17,1,0] ?_; exact cut_in ⟨false, by first | (simp [k4, *]; done) | (simp_all [k4]; done) | (simp_all [k4]; omega)⟩ ⟨rfl, rfl, rfl, rfl, rfl, rfl, trivial⟩
      intro h40; refine gg [15,16,2,39,8,16,1,0] ?_; exact cut_in ⟨true, by first | (simp [k4, *]; done) | (simp_all [k4]; done) | (simp_all [k4]; omega)⟩ ⟨rfl, rfl, rfl, rfl, rfl, rfl, trivial⟩
    rintro ⟨b34, hb34⟩; dsimp only
    cases b34
    · skip
      refine gg [8] ?_; refine J_cutF (α := { b : Bool // k6 e ⟨g0, g1, g2, g3, g4, g5, g6, g7, gk, g8⟩ = b }) (fun p => [(53, .c (.lit (.bool p.1)))]) [(1, _), (2, _), (3, _), (2001, _), (2003, _)] ⟨rfl, rfl, rfl, rfl, rfl, trivial⟩ ?_ ?_
      · skip
        refine gg [37,6,1,1,7,2] ?_
        cases g1
        · skip
          refine gg [39,4,17,2,6,1,1,7,15,2,6,4,1,7] ?_; refine bT ?_ ?_
          · intro h69; refine gg [16,17,1,0] ?_; exact cut_in ⟨true, by first | (simp [k6, *]; done) | (simp_all [k6]; done) | (simp_all [k6]; omega)⟩ ⟨rfl, rfl, rfl, rfl, rfl, rfl, trivial⟩
          intro h69; refine gg [16,17,1,0] ?_; exact cut_in ⟨false, by first | (simp [k6, *]; done) | (simp_all [k6]; done) | (simp_all [k6]; omega)⟩ ⟨rfl, rfl, rfl, rfl, rfl, rfl, trivial⟩
        skip
        refine gg [6,4,1,7] ?_; refine JR.runC rfl rfl (cl (wName e.arg (by omega))) rfl ?_ ?_
        · intro h59; refine gg [15,16,2,6,1,1,7,15,2,39,3,17,17,1,0] ?_; exact cut_in ⟨false, by first | (simp [k6, *]; done) | (simp_all [k6]; done) | (simp_all [k6]; omega)⟩ ⟨rfl, rfl, rfl, rfl, rfl, rfl, trivial⟩
        intro h59; refine gg [15,16,2,39,8,16,1,0] ?_; exact cut_in ⟨true, by first | (simp [k6, *]; done) | (simp_all [k6]; done) | (simp_all [k6]; omega)⟩ ⟨rfl, rfl, rfl, rfl, rfl, rfl, trivial⟩
      rintro ⟨b53, hb53⟩; dsimp only
      cases b53
      · skip
        refine gg [8] ?_; refine J_cutF (α := { b : Bool // k8 e ⟨g0, g1, g2, g3, g4, g5, g6, g7, gk, g8⟩ = b }) (fun p => [(72, .c (.lit (.bool p.1)))]) [(1, _), (2, _), (3, _), (2001, _), (2003, _)] ⟨rfl, rfl, rfl, rfl, rfl, trivial⟩ ?_ ?_
        · skip
          refine gg [37,6,2,1,7,15,2] ?_
          cases g2
          · skip
            refine gg [6,5,1,7] ?_; refine bN ?_ ?_
            · intro h79; refine gg [16,2,39,13,16,1,0] ?_; exact cut_in ⟨true, by first | (simp [k8, *]; done) | (simp_all [k8]; done) | (simp_all [k8]; omega)⟩ ⟨rfl, rfl, rfl, rfl, rfl, rfl, trivial⟩
            intro h79; refine gg [16,2,6,0,1,7] ?_; refine bE ?_ ?_
            · intro h84; refine gg [2,6,5,1,7] ?_; refine bN ?_ ?_
              · intro h88; refine gg [16,2,6,5,1,7] ?_; refine bN ?_ ?_
                · intro h93; refine gg [16,17,1,0] ?_; exact cut_in ⟨true, by first | (simp [k8, *]; done) | (simp_all [k8]; done) | (simp_all [k8]; omega)⟩ ⟨rfl, rfl, rfl, rfl, rfl, rfl, trivial⟩
                intro h93; refine gg [16,17,1,0] ?_; exact cut_in ⟨false, by first | (simp [k8, *]; done) | (simp_all [k8]; done) | (simp_all [k8]; omega)⟩ ⟨rfl, rfl, rfl, rfl, rfl, rfl, trivial⟩
              intro h88; refine gg [16,2,39,3,17,17,1,0] ?_; exact cut_in ⟨false, by first | (simp [k8, *]; done) | (simp_all [k8]; done) | (simp_all [k8]; omega)⟩ ⟨rfl, rfl, rfl, rfl, rfl, rfl, trivial⟩
            intro h84; refine gg [2,39,3,17,2,39,3,17,17,1,0] ?_; exact cut_in ⟨false, by first | (simp [k8, *]; done) | (simp_all [k8]; done) | (simp_all [k8]; omega)⟩ ⟨rfl, rfl, rfl, rfl, rfl, rfl, trivial⟩
          skip
          refine gg [39,3,17,2,6,0,1,7] ?_; refine bE ?_ ?_
          · intro h84; refine gg [2,6,5,1,7] ?_; refine bN ?_ ?_
            · intro h88; refine gg [16,2,6,5,1,7] ?_; refine bN ?_ ?_
              · intro h93; refine gg [16,17,1,0] ?_; exact cut_in ⟨true, by first | (simp [k8, *]; done) | (simp_all [k8]; done) | (simp_all [k8]; omega)⟩ ⟨rfl, rfl, rfl, rfl, rfl, rfl, trivial⟩
              intro h93; refine gg [16,17,1,0] ?_; exact cut_in ⟨false, by first | (simp [k8, *]; done) | (simp_all [k8]; done) | (simp_all [k8]; omega)⟩ ⟨rfl, rfl, rfl, rfl, rfl, rfl, trivial⟩
            intro h88; refine gg [16,2,39,3,17,17,1,0] ?_; exact cut_in ⟨false, by first | (simp [k8, *]; done) | (simp_all [k8]; done) | (simp_all [k8]; omega)⟩ ⟨rfl, rfl, rfl, rfl, rfl, rfl, trivial⟩
          intro h84; refine gg [2,39,3,17,2,39,3,17,17,1,0] ?_; exact cut_in ⟨false, by first | (simp [k8, *]; done) | (simp_all [k8]; done) | (simp_all [k8]; omega)⟩ ⟨rfl, rfl, rfl, rfl, rfl, rfl, trivial⟩
        rintro ⟨b72, hb72⟩; dsimp only
        cases b72
        · skip
          refine gg [8] ?_; refine J_cutF (α := { b : Bool // k10 e ⟨g0, g1, g2, g3, g4, g5, g6, g7, gk, g8⟩ = b }) (fun p => [(96, .c (.lit (.bool p.1)))]) [(1, _), (2, _), (3, _), (2001, _), (2003, _)] ⟨rfl, rfl, rfl, rfl, rfl, trivial⟩ ?_ ?_
          · skip
            refine gg [37,6,3,1,7,15,2] ?_
            cases g3
            · skip
              refine gg [6,6,1,7] ?_; refine bT ?_ ?_
              · intro h103; refine gg [16,2,39,4,16,1,0] ?_; exact cut_in ⟨true, by first | (simp [k10, *]; done) | (simp_all [k10]; done) | (simp_all [k10]; omega)⟩ ⟨rfl, rfl, rfl, rfl, rfl, rfl, trivial⟩
              intro h103; refine gg [16,2,6,6,1,7,30] ?_; refine bG ?_ ?_
              · intro h109; refine gg [17,1,0] ?_; exact cut_in ⟨true, by first | (simp [k10, *]; done) | (simp_all [k10]; done) | (simp_all [k10]; omega)⟩ ⟨rfl, rfl, rfl, rfl, rfl, rfl, trivial⟩
              intro h109; refine gg [17,1,0] ?_; exact cut_in ⟨false, by first | (simp [k10, *]; done) | (simp_all [k10]; done) | (simp_all [k10]; omega)⟩ ⟨rfl, rfl, rfl, rfl, rfl, rfl, trivial⟩
            skip
            refine gg [39,3,17,2,6,6,1,7,30] ?_; refine bG ?_ ?_
            · intro h109; refine gg [17,1,0] ?_; exact cut_in ⟨true, by first | (simp [k10, *]; done) | (simp_all [k10]; done) | (simp_all [k10]; omega)⟩ ⟨rfl, rfl, rfl, rfl, rfl, rfl, trivial⟩
            intro h109; refine gg [17,1,0] ?_; exact cut_in ⟨false, by first | (simp [k10, *]; done) | (simp_all [k10]; done) | (simp_all [k10]; omega)⟩ ⟨rfl, rfl, rfl, rfl, rfl, rfl, trivial⟩
          rintro ⟨b96, hb96⟩; dsimp only
          cases b96
          · skip
            refine gg [8] ?_; refine J_cutF (α := { b : Bool // k12 e ⟨g0, g1, g2, g3, g4, g5, g6, g7, gk, g8⟩ = b }) (fun p => [(111, .c (.lit (.bool p.1)))]) [(1, _), (2, _), (3, _), (2001, _), (2003, _)] ⟨rfl, rfl, rfl, rfl, rfl, trivial⟩ ?_ ?_
            · skip
              refine gg [37,6,4,1,7,2] ?_
              cases g4
              · skip
                refine gg [39,8,17,2,6,4,1,7,15,2,6,7,1,7] ?_; refine bN ?_ ?_
                · intro h131; refine gg [16,17,1,0] ?_; exact cut_in ⟨true, by first | (simp [k12, *]; done) | (simp_all [k12]; done) | (simp_all [k12]; omega)⟩ ⟨rfl, rfl, rfl, rfl, rfl, rfl, trivial⟩
                intro h131; refine gg [16,17,1,0] ?_; exact cut_in ⟨false, by first | (simp [k12, *]; done) | (simp_all [k12]; done) | (simp_all [k12]; omega)⟩ ⟨rfl, rfl, rfl, rfl, rfl, rfl, trivial⟩
              skip
              refine gg [6,7,1,7] ?_; refine bL ?_ ?_
              · intro h117; refine gg [2,39,3,16,16,2,39,8,16,1,0] ?_; exact cut_in ⟨true, by first | (simp [k12, *]; done) | (simp_all [k12]; done) | (simp_all [k12]; omega)⟩ ⟨rfl, rfl, rfl, rfl, rfl, rfl, trivial⟩
              intro h117; refine gg [2,6,7,1,7] ?_; refine bG ?_ ?_
              · intro h121; refine gg [17,16,2,39,8,16,1,0] ?_; exact cut_in ⟨true, by first | (simp [k12, *]; done) | (simp_all [k12]; done) | (simp_all [k12]; omega)⟩ ⟨rfl, rfl, rfl, rfl, rfl, rfl, trivial⟩
              intro h121; refine gg [17,16,2,6,4,1,7,15,2,39,3,17,17,1,0] ?_; exact cut_in ⟨false, by first | (simp [k12, *]; done) | (simp_all [k12]; done) | (simp_all [k12]; omega)⟩ ⟨rfl, rfl, rfl, rfl, rfl, rfl, trivial⟩
            rintro ⟨b111, hb111⟩; dsimp only
            cases b111
            · skip
              refine gg [8] ?_; refine J_cutF (α := { b : Bool // k14 e ⟨g0, g1, g2, g3, g4, g5, g6, g7, gk, g8⟩ = b }) (fun p => [(134, .c (.lit (.bool p.1)))]) [(1, _), (2, _), (3, _), (2001, _), (2003, _)] ⟨rfl, rfl, rfl, rfl, rfl, trivial⟩ ?_ ?_
              · skip
                refine gg [37,6,8,3,20,3] ?_; refine JR.runC rfl rfl (cl (tNone e.A)) rfl ?_ ?_
                · intro h137; refine gg [15,2,39,9,17,2,6,7,1,7,2] ?_
                  cases g7
                  · skip
                    refine gg [39,3,17,17,1,0] ?_; exact cut_in ⟨false, by first | (simp [k14, *]; done) | (simp_all [k14]; done) | (simp_all [k14]; omega)⟩ ⟨rfl, rfl, rfl, rfl, rfl, rfl, trivial⟩
                  skip
                  refine gg [6,8,3,20,3] ?_; refine JR.runC rfl rfl (cl (tNone e.A)) rfl ?_ ?_
                  · intro h156; refine gg [16,17,1,0] ?_; exact cut_in ⟨true, by first | (simp [k14, *]; done) | (simp_all [k14]; done) | (simp_all [k14]; omega)⟩ ⟨rfl, rfl, rfl, rfl, rfl, rfl, trivial⟩
                  intro h156; refine gg [16,17,1,0] ?_; exact cut_in ⟨false, by first | (simp [k14, *]; done) | (simp_all [k14]; done) | (simp_all [k14]; omega)⟩ ⟨rfl, rfl, rfl, rfl, rfl, rfl, trivial⟩
                intro h137; refine gg [15,2,6,5,1,7,15,2] ?_
                cases g5
                · skip
                  refine gg [39,4,16,16,2,39,7,16,1,0] ?_; exact cut_in ⟨true, by first | (simp [k14, *]; done) | (simp_all [k14]; done) | (simp_all [k14]; omega)⟩ ⟨rfl, rfl, rfl, rfl, rfl, rfl, trivial⟩
                skip
                refine gg [6,8,3,20,3] ?_; refine JR.runC rfl rfl (cl (tClosedA e.A (by omega))) rfl ?_ ?_
                · intro h146; refine gg [15,17,16,2,6,7,1,7,2] ?_
                  cases g7
                  · skip
                    refine gg [39,3,17,17,1,0] ?_; exact cut_in ⟨false, by first | (simp [k14, *]; done) | (simp_all [k14]; done) | (simp_all [k14]; omega)⟩ ⟨rfl, rfl, rfl, rfl, rfl, rfl, trivial⟩
                  skip
                  refine gg [6,8,3,20,3] ?_; refine JR.runC rfl rfl (cl (tNone e.A)) rfl ?_ ?_
                  · intro h156; refine gg [16,17,1,0] ?_; exact cut_in ⟨true, by first | (simp [k14, *]; done) | (simp_all [k14]; done) | (simp_all [k14]; omega)⟩ ⟨rfl, rfl, rfl, rfl, rfl, rfl, trivial⟩
                  intro h156; refine gg [16,17,1,0] ?_; exact cut_in ⟨false, by first | (simp [k14, *]; done) | (simp_all [k14]; done) | (simp_all [k14]; omega)⟩ ⟨rfl, rfl, rfl, rfl, rfl, rfl, trivial⟩
                intro h146; refine gg [15,17,16,2,39,7,16,1,0] ?_; exact cut_in ⟨true, by first | (simp [k14, *]; done) | (simp_all [k14]; done) | (simp_all [k14]; omega)⟩ ⟨rfl, rfl, rfl, rfl, rfl, rfl, trivial⟩
              rintro ⟨b134, hb134⟩; dsimp only
              cases b134
              · skip
                refine gg [8] ?_; refine J_cutF (α := { b : Bool // k16 e ⟨g0, g1, g2, g3, g4, g5, g6, g7, gk, g8⟩ = b }) (fun p => [(159, .c (.lit (.bool p.1)))]) [(1, _), (2, _), (2001, _), (2003, _)] ⟨rfl, rfl, rfl, rfl, trivial⟩ ?_ ?_
                · skip
                  refine gg [37,6,11,3,20,3] ?_; refine JR.runC rfl rfl (cl (tNone e.B)) rfl ?_ ?_
                  · intro h162; refine gg [15,2,39,9,17,1,0] ?_; exact cut_in ⟨false, by first | (simp [k16, *]; done) | (simp_all [k16]; done) | (simp_all [k16]; omega)⟩ ⟨rfl, rfl, rfl, rfl, rfl, trivial⟩
                  intro h162; refine gg [15,2,6,6,1,7,15,2] ?_
                  cases g6
                  · skip
                    refine gg [39,4,16,16,1,0] ?_; exact cut_in ⟨true, by first | (simp [k16, *]; done) | (simp_all [k16]; done) | (simp_all [k16]; omega)⟩ ⟨rfl, rfl, rfl, rfl, rfl, trivial⟩
                  skip
                  refine gg [6,11,3,20,3] ?_; refine JR.runC rfl rfl (cl (tClosedA e.B (by omega))) rfl ?_ ?_
                  · intro h171; refine gg [15,17,16,1,0] ?_; exact cut_in ⟨false, by first | (simp [k16, *]; done) | (simp_all [k16]; done) | (simp_all [k16]; omega)⟩ ⟨rfl, rfl, rfl, rfl, rfl, trivial⟩
                  intro h171; refine gg [15,17,16,1,0] ?_; exact cut_in ⟨true, by first | (simp [k16, *]; done) | (simp_all [k16]; done) | (simp_all [k16]; omega)⟩ ⟨rfl, rfl, rfl, rfl, rfl, trivial⟩
                rintro ⟨b159, hb159⟩; dsimp only
                cases b159
                · skip
                  refine gg [8,34,31,5,6,14,1,7,18,2,0,9,4,178,177,176,2,35] ?_; refine J_loopF (α := { i : Nat // i ≤ e.pats.length ∧ e.pats.all mCheckPat = (e.pats.drop i).all mCheckPat }) (fun p => [(178, .c (.lit (.int .i64 (p.1 : Int))))]) [(2, _), (176, _), (177, _)] (fun p => e.pats.length - p.1) ⟨0, Nat.zero_le _, rfl⟩ ⟨rfl, rfl, rfl, rfl, trivial⟩ ?_; rintro ⟨i, hi, hI⟩; dsimp only; refine js ?_; refine bL ?_ ?_
                  · intro h179; obtain ⟨x, hx⟩ := get_some3 (l := e.pats) (i := i) (by omega); have hcp := tCheckPat hn (pasK_get he hx); refine gg [0,9,5,179,178,177,176,2,31,32,34,31,35,5] ?_; refine u rfl rfl (r_indexAddr (e := 40) (sz := 7) rfl rfl (by kernel_rfl) rfl rfl (by omega) (pas_at3 hx)) ?_; refine gg [21,7,24,2006,10,0,9,9,2006,181,180,179,178,177,176,6,2,5,20,7] ?_
                    rcases hr : mCheckPat x with _ | _
                    · rw [hr] at hcp; refine uC (hcp) ?_; refine u rfl rfl (r_neI rfl rfl rfl rfl) ?_; refine gg [0,9,12,2006,184,183,182,181,180,179,178,177,176,6,2,32,5,1,0,9,12,2006,184,183,182,181,180,179,178,177,176,6,2,33] ?_; refine ⟨.inl rfl, _, rfl, .ofB ?_, trivial⟩; simp only [hb12, hb34, hb53, hb72, hb96, hb111, hb134, hb159, Bool.not_true, Bool.not_false, Bool.false_and, Bool.and_false, Bool.true_and]; rw [hI, drop_get3 hx, List.all_cons, hr]
                      rfl
                    rw [hr] at hcp; refine uC (hcp) ?_; refine u rfl rfl (r_neI rfl rfl rfl rfl) ?_; refine gg [0,9,12,2006,184,183,182,181,180,179,178,177,176,6,2,8,34,37,27,2,0] ?_; refine ⟨⟨i + 1, by omega, by rw [hI, drop_get3 hx, List.all_cons, hr, Bool.true_and]⟩, by simp only; omega, rfl, rfl, rfl, rfl, trivial⟩
                  intro h179; refine gg [0,9,5,179,178,177,176,2,31,8,36,5,1,0,9,1,2,33] ?_; refine ⟨.inl rfl, _, rfl, .ofB ?_, trivial⟩; simp only [hb12, hb34, hb53, hb72, hb96, hb111, hb134, hb159, Bool.not_true, Bool.not_false, Bool.false_and, Bool.and_false, Bool.true_and]; rw [hI, List.drop_eq_nil_of_le (by omega)]
                  rfl
                skip
                refine gg [32,5,1,0,9,3,2001,2,1,33] ?_; refine ⟨.inl rfl, _, rfl, .ofB ?_, trivial⟩; simp only [hb12, hb34, hb53, hb72, hb96, hb111, hb134, hb159, Bool.not_true, Bool.not_false, Bool.false_and, Bool.and_false, Bool.true_and]
              skip
              refine gg [32,5,1,0,9,3,2001,2,1,33] ?_; refine ⟨.inl rfl, _, rfl, .ofB ?_, trivial⟩; simp only [hb12, hb34, hb53, hb72, hb96, hb111, hb134, Bool.not_true, Bool.not_false, Bool.false_and, Bool.and_false, Bool.true_and]
            skip
            refine gg [32,5,1,0,9,3,2001,2,1,33] ?_; refine ⟨.inl rfl, _, rfl, .ofB ?_, trivial⟩; simp only [hb12, hb34, hb53, hb72, hb96, hb111, Bool.not_true, Bool.not_false, Bool.false_and, Bool.and_false, Bool.true_and]
          skip
          refine gg [32,5,1,0,9,3,2001,2,1,33] ?_; refine ⟨.inl rfl, _, rfl, .ofB ?_, trivial⟩; simp only [hb12, hb34, hb53, hb72, hb96, Bool.not_true, Bool.not_false, Bool.false_and, Bool.and_false, Bool.true_and]
        skip
        refine gg [32,5,1,0,9,3,2001,2,1,33] ?_; refine ⟨.inl rfl, _, rfl, .ofB ?_, trivial⟩; simp only [hb12, hb34, hb53, hb72, Bool.not_true, Bool.not_false, Bool.false_and, Bool.and_false, Bool.true_and]
      skip
      refine gg [32,5,1,0,9,3,2001,2,1,33] ?_; refine ⟨.inl rfl, _, rfl, .ofB ?_, trivial⟩; simp only [hb12, hb34, hb53, Bool.not_true, Bool.not_false, Bool.false_and, Bool.and_false, Bool.true_and]
    skip
    refine gg [32,5,1,0,9,3,2001,2,1,33] ?_; refine ⟨.inl rfl, _, rfl, .ofB ?_, trivial⟩; simp only [hb12, hb34, Bool.not_true, Bool.not_false, Bool.false_and, Bool.and_false, Bool.true_and]
  skip
  refine gg [32,5,1,0,9,3,2001,2,1,33] ?_; refine ⟨.inl rfl, _, rfl, .ofB ?_, trivial⟩; simp only [hb12, Bool.not_true, Bool.not_false, Bool.false_and, Bool.and_false, Bool.true_and]

end Go.Proofs.YtlagglkpbnbmeaaGreatDoor
