/- The program's tree: one expression, all of an expression. -/
import Derived.Test.YtlagglkpbnbmeaaRi4
import Derived.Test.YtlagglkpbnbmeaaSh22
namespace Go.Proofs.Ytlagglkpbnbmeaa
open Go Go.RowKit
set_option maxRecDepth 100000
set_option maxHeartbeats 4000000
set_option linter.unusedVariables false
set_option linter.unusedSimpArgs false

def k2 (e : Ex) (s : Shp) : Bool := !s.ok || decide ((e.kids.length : Int) ≠ s.kids) || (decide (e.kind ≠ 14) && decide (0 < e.pats.length))
def k4 (e : Ex) (s : Shp) : Bool := (s.name && !mName e.nm) || (!s.name && decide (e.nm ≠ []))
def k6 (e : Ex) (s : Shp) : Bool := (s.arg && !mName e.arg) || (!s.arg && decide (e.arg ≠ []))
def k8 (e : Ex) (s : Shp) : Bool := (!s.n && decide (e.n ≠ 0)) || (decide (e.kind = 3) && decide (e.n ≠ 0) && decide (e.n ≠ 1))
def k10 (e : Ex) (s : Shp) : Bool := (!s.s && decide (e.s ≠ [])) || decide (200 < e.s.length)
def k12 (e : Ex) (s : Shp) : Bool := (s.op && (decide (e.op < 1) || decide (7 < e.op))) || (!s.op && decide (e.op ≠ 0))
def k14 (e : Ex) (s : Shp) : Bool := (!mNone e.A && (!s.a || !mClosed e.A)) || (s.must && mNone e.A)
def k16 (e : Ex) (s : Shp) : Bool := !mNone e.B && (!s.b || !mClosed e.B)
/-- is one expression right, whatever its kids are? -/
def oneE (e : Ex) : Bool := !k2 e (shOf e) && !k4 e (shOf e) && !k6 e (shOf e) && !k8 e (shOf e) && !k10 e (shOf e) && !k12 e (shOf e) && !k14 e (shOf e) && !k16 e (shOf e) && e.pats.all mCheckPat
def mCheck (e : Ex) : Bool := e.list.all oneE
theorem pasK_get {n : Nat} {e : Ex} (h : ExK n e) {i : Nat} {x : Pa} (hx : e.pats[i]? = some x) : PaK n x := by
  cases h with
  | mk _ _ _ _ _ _ _ hp _ => exact hp x (List.mem_of_getElem? hx)
theorem all_true {l : List Pa} (h : l.all mCheckPat = ([] : List Pa).all mCheckPat) : l.all mCheckPat = true := h

theorem tOne {n : Nat} (hn : n ≤ 1000000000) {e : Ex} (he : ExK n e) : Con Try.prog 11 [.agg (exX e)] [] (.c (.lit (.bool (oneE e)))) [] := by
  have hl := pasD_len3 e.pats
  have hlk := exsD_len e.kids
  have hnm : e.nm.length ≤ n := by cases he; assumption
  have harg : e.arg.length ≤ n := by cases he; assumption
  have hA : e.A.size ≤ n := by cases he; assumption
  have hB : e.B.size ≤ n := by cases he; assumption
  have hpl : e.pats.length ≤ n := by cases he; assumption
  have hS := tShape e (by omega)
  obtain ⟨sh, hsh⟩ : ∃ sh, shOf e = sh := ⟨_, rfl⟩
  rw [hsh] at hS
  unfold oneE
  rw [hsh]
  clear hsh
  rcases sh with ⟨g0, g1, g2, g3, g4, g5, g6, g7, gk, g8⟩
  refine con_intro rfl rfl (by kernel_rfl) (by kernel_rfl) ?_
  refine js ?_
  refine u rfl rfl (r_boxA (x := 2001) rfl rfl rfl rfl) ?_
  refine u rfl rfl asg ?_
  refine jd ?_
  refine w3 1 2 2001 ?_
  refine js ?_
  refine u rfl rfl (lA 16) ?_
  refine u rfl rfl (cl (hS)) ?_
  refine u rfl rfl mv ?_
  refine u rfl rfl xt ?_
  refine u rfl rfl xt ?_
  refine u rfl rfl (r_alloc (x := 2003) (zs := [.bool false, .bool false, .bool false, .bool false, .bool false, .bool false, .bool false, .bool false, .int .i64 0]) [.lit (.bool false), .lit (.bool false), .lit (.bool false), .lit (.bool false), .lit (.bool false), .lit (.bool false), .lit (.bool false), .lit (.bool false), .lit (.int .i64 0)] rfl rfl rfl (by kernel_rfl) ⟨.refl _, .refl _, .refl _, .refl _, .refl _, .refl _, .refl _, .refl _, .refl _, trivial⟩) ?_
  refine u rfl rfl sA ?_
  refine u rfl rfl asg ?_
  refine jd ?_
  refine w6 1 2 3 4 2001 2003 ?_
  refine J_seq ?_
  refine J_block ?_
  refine J_cutF (α := { b : Bool // k2 e ⟨g0, g1, g2, g3, g4, g5, g6, g7, gk, g8⟩ = b }) (fun p => [(12, .c (.lit (.bool p.1)))]) [(1, _), (2, _), (3, _), (2001, _), (2003, _)] ⟨rfl, rfl, rfl, rfl, rfl, trivial⟩ ?_ ?_
  · skip
    refine JR.start ?_
    refine u rfl rfl mv ?_
    refine u rfl rfl nt ?_
    refine u rfl rfl mv ?_
    cases g8
    · skip
      refine sk ?_
      refine sk ?_
      refine sk ?_
      refine sk ?_
      refine sk ?_
      refine sk ?_
      refine u rfl rfl pT ?_
      refine u rfl rfl mv ?_
      refine sk ?_
      refine sk ?_
      refine sk ?_
      refine sk ?_
      refine sk ?_
      refine sk ?_
      refine sk ?_
      refine sk ?_
      refine sk ?_
      refine u rfl rfl pT ?_
      refine u rfl rfl asg ?_
      refine jd ?_
      exact cut_in ⟨true, by first | (simp [k2, *]; done) | (simp_all [k2]; done) | (simp_all [k2]; omega)⟩ ⟨rfl, rfl, rfl, rfl, rfl, rfl, trivial⟩
    · skip
      refine u rfl rfl (fA 15 1) ?_
      refine u rfl rfl ld ?_
      refine u rfl rfl ln0 ?_
      refine u rfl rfl (fA 8 1) ?_
      refine u rfl rfl ld ?_
      refine JR.runB rfl rfl (r_neI rfl rfl rfl rfl) ?_ ?_
      · intro h21
        replace h21 := of_decide_eq_false (nT h21)
        refine u rfl rfl pF ?_
        refine u rfl rfl mv ?_
        refine sk ?_
        refine sk ?_
        refine sk ?_
        refine sk ?_
        refine sk ?_
        refine sk ?_
        refine sk ?_
        refine sk ?_
        refine sk ?_
        refine u rfl rfl pT ?_
        refine u rfl rfl asg ?_
        refine jd ?_
        exact cut_in ⟨true, by first | (simp [k2, *]; done) | (simp_all [k2]; done) | (simp_all [k2]; omega)⟩ ⟨rfl, rfl, rfl, rfl, rfl, rfl, trivial⟩
      · intro h21
        replace h21 := of_decide_eq_true (nF h21)
        refine u rfl rfl pF ?_
        refine u rfl rfl mv ?_
        refine u rfl rfl (fA 0 1) ?_
        refine u rfl rfl ld ?_
        refine JR.runB rfl rfl (r_neI rfl rfl rfl rfl) ?_ ?_
        · intro h26
          replace h26 := of_decide_eq_false (nT h26)
          refine u rfl rfl mv ?_
          refine u rfl rfl (fA 14 1) ?_
          refine u rfl rfl ld ?_
          refine u rfl rfl ln0 ?_
          refine JR.runB rfl rfl (r_gtI rfl rfl rfl rfl) ?_ ?_
          · intro h31
            replace h31 := of_decide_eq_true h31
            refine u rfl rfl pT ?_
            refine u rfl rfl pF ?_
            refine u rfl rfl asg ?_
            refine jd ?_
            exact cut_in ⟨true, by first | (simp [k2, *]; done) | (simp_all [k2]; done) | (simp_all [k2]; omega)⟩ ⟨rfl, rfl, rfl, rfl, rfl, rfl, trivial⟩
          · intro h31
            replace h31 := of_decide_eq_false h31
            refine u rfl rfl pT ?_
            refine u rfl rfl pF ?_
            refine u rfl rfl asg ?_
            refine jd ?_
            exact cut_in ⟨false, by first | (simp [k2, *]; done) | (simp_all [k2]; done) | (simp_all [k2]; omega)⟩ ⟨rfl, rfl, rfl, rfl, rfl, rfl, trivial⟩
        · intro h26
          replace h26 := of_decide_eq_true (nF h26)
          refine u rfl rfl mv ?_
          refine sk ?_
          refine sk ?_
          refine sk ?_
          refine sk ?_
          refine u rfl rfl pF ?_
          refine u rfl rfl pF ?_
          refine u rfl rfl asg ?_
          refine jd ?_
          exact cut_in ⟨false, by first | (simp [k2, *]; done) | (simp_all [k2]; done) | (simp_all [k2]; omega)⟩ ⟨rfl, rfl, rfl, rfl, rfl, rfl, trivial⟩
  · rintro ⟨b12, hb12⟩
    dsimp only
    cases b12
    · skip
      refine J_condF rfl ?_
      refine J_cutF (α := { b : Bool // k4 e ⟨g0, g1, g2, g3, g4, g5, g6, g7, gk, g8⟩ = b }) (fun p => [(34, .c (.lit (.bool p.1)))]) [(1, _), (2, _), (3, _), (2001, _), (2003, _)] ⟨rfl, rfl, rfl, rfl, rfl, trivial⟩ ?_ ?_
      · skip
        refine JR.start ?_
        refine u rfl rfl (fA 0 1) ?_
        refine u rfl rfl ld ?_
        refine u rfl rfl mv ?_
        cases g0
        · skip
          refine sk ?_
          refine sk ?_
          refine sk ?_
          refine sk ?_
          refine u rfl rfl pF ?_
          refine u rfl rfl mv ?_
          refine u rfl rfl (fA 0 1) ?_
          refine u rfl rfl ld ?_
          refine u rfl rfl nt ?_
          refine u rfl rfl mv ?_
          refine u rfl rfl (fA 3 1) ?_
          refine u rfl rfl ld ?_
          refine JR.runB rfl rfl (r_neS rfl rfl rfl rfl) ?_ ?_
          · intro h50
            replace h50 := nT h50
            refine u rfl rfl pT ?_
            refine u rfl rfl pF ?_
            refine u rfl rfl asg ?_
            refine jd ?_
            exact cut_in ⟨true, by first | (simp [k4, *]; done) | (simp_all [k4]; done) | (simp_all [k4]; omega)⟩ ⟨rfl, rfl, rfl, rfl, rfl, rfl, trivial⟩
          · intro h50
            replace h50 := nF h50
            refine u rfl rfl pT ?_
            refine u rfl rfl pF ?_
            refine u rfl rfl asg ?_
            refine jd ?_
            exact cut_in ⟨false, by first | (simp [k4, *]; done) | (simp_all [k4]; done) | (simp_all [k4]; omega)⟩ ⟨rfl, rfl, rfl, rfl, rfl, rfl, trivial⟩
        · skip
          refine u rfl rfl (fA 3 1) ?_
          refine u rfl rfl ld ?_
          refine JR.runC rfl rfl (cl (wName e.nm (by omega))) rfl ?_ ?_
          · intro h40
            refine u rfl rfl nt ?_
            refine u rfl rfl pT ?_
            refine u rfl rfl mv ?_
            refine u rfl rfl (fA 0 1) ?_
            refine u rfl rfl ld ?_
            refine u rfl rfl nt ?_
            refine u rfl rfl mv ?_
            refine sk ?_
            refine sk ?_
            refine sk ?_
            refine u rfl rfl pF ?_
            refine u rfl rfl pF ?_
            refine u rfl rfl asg ?_
            refine jd ?_
            exact cut_in ⟨false, by first | (simp [k4, *]; done) | (simp_all [k4]; done) | (simp_all [k4]; omega)⟩ ⟨rfl, rfl, rfl, rfl, rfl, rfl, trivial⟩
          · intro h40
            refine u rfl rfl nt ?_
            refine u rfl rfl pT ?_
            refine u rfl rfl mv ?_
            refine sk ?_
            refine sk ?_
            refine sk ?_
            refine sk ?_
            refine sk ?_
            refine sk ?_
            refine sk ?_
            refine sk ?_
            refine u rfl rfl pT ?_
            refine u rfl rfl asg ?_
            refine jd ?_
            exact cut_in ⟨true, by first | (simp [k4, *]; done) | (simp_all [k4]; done) | (simp_all [k4]; omega)⟩ ⟨rfl, rfl, rfl, rfl, rfl, rfl, trivial⟩
      · rintro ⟨b34, hb34⟩
        dsimp only
        cases b34
        · skip
          refine J_condF rfl ?_
          refine J_cutF (α := { b : Bool // k6 e ⟨g0, g1, g2, g3, g4, g5, g6, g7, gk, g8⟩ = b }) (fun p => [(53, .c (.lit (.bool p.1)))]) [(1, _), (2, _), (3, _), (2001, _), (2003, _)] ⟨rfl, rfl, rfl, rfl, rfl, trivial⟩ ?_ ?_
          · skip
            refine JR.start ?_
            refine u rfl rfl (fA 1 1) ?_
            refine u rfl rfl ld ?_
            refine u rfl rfl mv ?_
            cases g1
            · skip
              refine sk ?_
              refine sk ?_
              refine sk ?_
              refine sk ?_
              refine u rfl rfl pF ?_
              refine u rfl rfl mv ?_
              refine u rfl rfl (fA 1 1) ?_
              refine u rfl rfl ld ?_
              refine u rfl rfl nt ?_
              refine u rfl rfl mv ?_
              refine u rfl rfl (fA 4 1) ?_
              refine u rfl rfl ld ?_
              refine JR.runB rfl rfl (r_neS rfl rfl rfl rfl) ?_ ?_
              · intro h69
                replace h69 := nT h69
                refine u rfl rfl pT ?_
                refine u rfl rfl pF ?_
                refine u rfl rfl asg ?_
                refine jd ?_
                exact cut_in ⟨true, by first | (simp [k6, *]; done) | (simp_all [k6]; done) | (simp_all [k6]; omega)⟩ ⟨rfl, rfl, rfl, rfl, rfl, rfl, trivial⟩
              · intro h69
                replace h69 := nF h69
                refine u rfl rfl pT ?_
                refine u rfl rfl pF ?_
                refine u rfl rfl asg ?_
                refine jd ?_
                exact cut_in ⟨false, by first | (simp [k6, *]; done) | (simp_all [k6]; done) | (simp_all [k6]; omega)⟩ ⟨rfl, rfl, rfl, rfl, rfl, rfl, trivial⟩
            · skip
              refine u rfl rfl (fA 4 1) ?_
              refine u rfl rfl ld ?_
              refine JR.runC rfl rfl (cl (wName e.arg (by omega))) rfl ?_ ?_
              · intro h59
                refine u rfl rfl nt ?_
                refine u rfl rfl pT ?_
                refine u rfl rfl mv ?_
                refine u rfl rfl (fA 1 1) ?_
                refine u rfl rfl ld ?_
                refine u rfl rfl nt ?_
                refine u rfl rfl mv ?_
                refine sk ?_
                refine sk ?_
                refine sk ?_
                refine u rfl rfl pF ?_
                refine u rfl rfl pF ?_
                refine u rfl rfl asg ?_
                refine jd ?_
                exact cut_in ⟨false, by first | (simp [k6, *]; done) | (simp_all [k6]; done) | (simp_all [k6]; omega)⟩ ⟨rfl, rfl, rfl, rfl, rfl, rfl, trivial⟩
              · intro h59
                refine u rfl rfl nt ?_
                refine u rfl rfl pT ?_
                refine u rfl rfl mv ?_
                refine sk ?_
                refine sk ?_
                refine sk ?_
                refine sk ?_
                refine sk ?_
                refine sk ?_
                refine sk ?_
                refine sk ?_
                refine u rfl rfl pT ?_
                refine u rfl rfl asg ?_
                refine jd ?_
                exact cut_in ⟨true, by first | (simp [k6, *]; done) | (simp_all [k6]; done) | (simp_all [k6]; omega)⟩ ⟨rfl, rfl, rfl, rfl, rfl, rfl, trivial⟩
          · rintro ⟨b53, hb53⟩
            dsimp only
            cases b53
            · skip
              refine J_condF rfl ?_
              refine J_cutF (α := { b : Bool // k8 e ⟨g0, g1, g2, g3, g4, g5, g6, g7, gk, g8⟩ = b }) (fun p => [(72, .c (.lit (.bool p.1)))]) [(1, _), (2, _), (3, _), (2001, _), (2003, _)] ⟨rfl, rfl, rfl, rfl, rfl, trivial⟩ ?_ ?_
              · skip
                refine JR.start ?_
                refine u rfl rfl (fA 2 1) ?_
                refine u rfl rfl ld ?_
                refine u rfl rfl nt ?_
                refine u rfl rfl mv ?_
                cases g2
                · skip
                  refine u rfl rfl (fA 5 1) ?_
                  refine u rfl rfl ld ?_
                  refine JR.runB rfl rfl (r_neI rfl rfl rfl rfl) ?_ ?_
                  · intro h79
                    replace h79 := of_decide_eq_false (nT h79)
                    refine u rfl rfl pT ?_
                    refine u rfl rfl mv ?_
                    refine sk ?_
                    refine sk ?_
                    refine sk ?_
                    refine sk ?_
                    refine sk ?_
                    refine sk ?_
                    refine sk ?_
                    refine sk ?_
                    refine sk ?_
                    refine sk ?_
                    refine sk ?_
                    refine sk ?_
                    refine sk ?_
                    refine u rfl rfl pT ?_
                    refine u rfl rfl asg ?_
                    refine jd ?_
                    exact cut_in ⟨true, by first | (simp [k8, *]; done) | (simp_all [k8]; done) | (simp_all [k8]; omega)⟩ ⟨rfl, rfl, rfl, rfl, rfl, rfl, trivial⟩
                  · intro h79
                    replace h79 := of_decide_eq_true (nF h79)
                    refine u rfl rfl pT ?_
                    refine u rfl rfl mv ?_
                    refine u rfl rfl (fA 0 1) ?_
                    refine u rfl rfl ld ?_
                    refine JR.runB rfl rfl (r_eqI rfl rfl rfl rfl) ?_ ?_
                    · intro h84
                      replace h84 := of_decide_eq_true h84
                      refine u rfl rfl mv ?_
                      refine u rfl rfl (fA 5 1) ?_
                      refine u rfl rfl ld ?_
                      refine JR.runB rfl rfl (r_neI rfl rfl rfl rfl) ?_ ?_
                      · intro h88
                        replace h88 := of_decide_eq_false (nT h88)
                        refine u rfl rfl pT ?_
                        refine u rfl rfl mv ?_
                        refine u rfl rfl (fA 5 1) ?_
                        refine u rfl rfl ld ?_
                        refine JR.runB rfl rfl (r_neI rfl rfl rfl rfl) ?_ ?_
                        · intro h93
                          replace h93 := of_decide_eq_false (nT h93)
                          refine u rfl rfl pT ?_
                          refine u rfl rfl pF ?_
                          refine u rfl rfl asg ?_
                          refine jd ?_
                          exact cut_in ⟨true, by first | (simp [k8, *]; done) | (simp_all [k8]; done) | (simp_all [k8]; omega)⟩ ⟨rfl, rfl, rfl, rfl, rfl, rfl, trivial⟩
                        · intro h93
                          replace h93 := of_decide_eq_true (nF h93)
                          refine u rfl rfl pT ?_
                          refine u rfl rfl pF ?_
                          refine u rfl rfl asg ?_
                          refine jd ?_
                          exact cut_in ⟨false, by first | (simp [k8, *]; done) | (simp_all [k8]; done) | (simp_all [k8]; omega)⟩ ⟨rfl, rfl, rfl, rfl, rfl, rfl, trivial⟩
                      · intro h88
                        replace h88 := of_decide_eq_true (nF h88)
                        refine u rfl rfl pT ?_
                        refine u rfl rfl mv ?_
                        refine sk ?_
                        refine sk ?_
                        refine sk ?_
                        refine u rfl rfl pF ?_
                        refine u rfl rfl pF ?_
                        refine u rfl rfl asg ?_
                        refine jd ?_
                        exact cut_in ⟨false, by first | (simp [k8, *]; done) | (simp_all [k8]; done) | (simp_all [k8]; omega)⟩ ⟨rfl, rfl, rfl, rfl, rfl, rfl, trivial⟩
                    · intro h84
                      replace h84 := of_decide_eq_false h84
                      refine u rfl rfl mv ?_
                      refine sk ?_
                      refine sk ?_
                      refine sk ?_
                      refine u rfl rfl pF ?_
                      refine u rfl rfl mv ?_
                      refine sk ?_
                      refine sk ?_
                      refine sk ?_
                      refine u rfl rfl pF ?_
                      refine u rfl rfl pF ?_
                      refine u rfl rfl asg ?_
                      refine jd ?_
                      exact cut_in ⟨false, by first | (simp [k8, *]; done) | (simp_all [k8]; done) | (simp_all [k8]; omega)⟩ ⟨rfl, rfl, rfl, rfl, rfl, rfl, trivial⟩
                · skip
                  refine sk ?_
                  refine sk ?_
                  refine sk ?_
                  refine u rfl rfl pF ?_
                  refine u rfl rfl mv ?_
                  refine u rfl rfl (fA 0 1) ?_
                  refine u rfl rfl ld ?_
                  refine JR.runB rfl rfl (r_eqI rfl rfl rfl rfl) ?_ ?_
                  · intro h84
                    replace h84 := of_decide_eq_true h84
                    refine u rfl rfl mv ?_
                    refine u rfl rfl (fA 5 1) ?_
                    refine u rfl rfl ld ?_
                    refine JR.runB rfl rfl (r_neI rfl rfl rfl rfl) ?_ ?_
                    · intro h88
                      replace h88 := of_decide_eq_false (nT h88)
                      refine u rfl rfl pT ?_
                      refine u rfl rfl mv ?_
                      refine u rfl rfl (fA 5 1) ?_
                      refine u rfl rfl ld ?_
                      refine JR.runB rfl rfl (r_neI rfl rfl rfl rfl) ?_ ?_
                      · intro h93
                        replace h93 := of_decide_eq_false (nT h93)
                        refine u rfl rfl pT ?_
                        refine u rfl rfl pF ?_
                        refine u rfl rfl asg ?_
                        refine jd ?_
                        exact cut_in ⟨true, by first | (simp [k8, *]; done) | (simp_all [k8]; done) | (simp_all [k8]; omega)⟩ ⟨rfl, rfl, rfl, rfl, rfl, rfl, trivial⟩
                      · intro h93
                        replace h93 := of_decide_eq_true (nF h93)
                        refine u rfl rfl pT ?_
                        refine u rfl rfl pF ?_
                        refine u rfl rfl asg ?_
                        refine jd ?_
                        exact cut_in ⟨false, by first | (simp [k8, *]; done) | (simp_all [k8]; done) | (simp_all [k8]; omega)⟩ ⟨rfl, rfl, rfl, rfl, rfl, rfl, trivial⟩
                    · intro h88
                      replace h88 := of_decide_eq_true (nF h88)
                      refine u rfl rfl pT ?_
                      refine u rfl rfl mv ?_
                      refine sk ?_
                      refine sk ?_
                      refine sk ?_
                      refine u rfl rfl pF ?_
                      refine u rfl rfl pF ?_
                      refine u rfl rfl asg ?_
                      refine jd ?_
                      exact cut_in ⟨false, by first | (simp [k8, *]; done) | (simp_all [k8]; done) | (simp_all [k8]; omega)⟩ ⟨rfl, rfl, rfl, rfl, rfl, rfl, trivial⟩
                  · intro h84
                    replace h84 := of_decide_eq_false h84
                    refine u rfl rfl mv ?_
                    refine sk ?_
                    refine sk ?_
                    refine sk ?_
                    refine u rfl rfl pF ?_
                    refine u rfl rfl mv ?_
                    refine sk ?_
                    refine sk ?_
                    refine sk ?_
                    refine u rfl rfl pF ?_
                    refine u rfl rfl pF ?_
                    refine u rfl rfl asg ?_
                    refine jd ?_
                    exact cut_in ⟨false, by first | (simp [k8, *]; done) | (simp_all [k8]; done) | (simp_all [k8]; omega)⟩ ⟨rfl, rfl, rfl, rfl, rfl, rfl, trivial⟩
              · rintro ⟨b72, hb72⟩
                dsimp only
                cases b72
                · skip
                  refine J_condF rfl ?_
                  refine J_cutF (α := { b : Bool // k10 e ⟨g0, g1, g2, g3, g4, g5, g6, g7, gk, g8⟩ = b }) (fun p => [(96, .c (.lit (.bool p.1)))]) [(1, _), (2, _), (3, _), (2001, _), (2003, _)] ⟨rfl, rfl, rfl, rfl, rfl, trivial⟩ ?_ ?_
                  · skip
                    refine JR.start ?_
                    refine u rfl rfl (fA 3 1) ?_
                    refine u rfl rfl ld ?_
                    refine u rfl rfl nt ?_
                    refine u rfl rfl mv ?_
                    cases g3
                    · skip
                      refine u rfl rfl (fA 6 1) ?_
                      refine u rfl rfl ld ?_
                      refine JR.runB rfl rfl (r_neS rfl rfl rfl rfl) ?_ ?_
                      · intro h103
                        replace h103 := nT h103
                        refine u rfl rfl pT ?_
                        refine u rfl rfl mv ?_
                        refine sk ?_
                        refine sk ?_
                        refine sk ?_
                        refine sk ?_
                        refine u rfl rfl pT ?_
                        refine u rfl rfl asg ?_
                        refine jd ?_
                        exact cut_in ⟨true, by first | (simp [k10, *]; done) | (simp_all [k10]; done) | (simp_all [k10]; omega)⟩ ⟨rfl, rfl, rfl, rfl, rfl, rfl, trivial⟩
                      · intro h103
                        replace h103 := nF h103
                        refine u rfl rfl pT ?_
                        refine u rfl rfl mv ?_
                        refine u rfl rfl (fA 6 1) ?_
                        refine u rfl rfl ld ?_
                        refine u rfl rfl (r_lenS rfl rfl (by kernel_rfl) rfl) ?_
                        refine JR.runB rfl rfl (r_gtI rfl rfl rfl rfl) ?_ ?_
                        · intro h109
                          replace h109 := of_decide_eq_true h109
                          refine u rfl rfl pF ?_
                          refine u rfl rfl asg ?_
                          refine jd ?_
                          exact cut_in ⟨true, by first | (simp [k10, *]; done) | (simp_all [k10]; done) | (simp_all [k10]; omega)⟩ ⟨rfl, rfl, rfl, rfl, rfl, rfl, trivial⟩
                        · intro h109
                          replace h109 := of_decide_eq_false h109
                          refine u rfl rfl pF ?_
                          refine u rfl rfl asg ?_
                          refine jd ?_
                          exact cut_in ⟨false, by first | (simp [k10, *]; done) | (simp_all [k10]; done) | (simp_all [k10]; omega)⟩ ⟨rfl, rfl, rfl, rfl, rfl, rfl, trivial⟩
                    · skip
                      refine sk ?_
                      refine sk ?_
                      refine sk ?_
                      refine u rfl rfl pF ?_
                      refine u rfl rfl mv ?_
                      refine u rfl rfl (fA 6 1) ?_
                      refine u rfl rfl ld ?_
                      refine u rfl rfl (r_lenS rfl rfl (by kernel_rfl) rfl) ?_
                      refine JR.runB rfl rfl (r_gtI rfl rfl rfl rfl) ?_ ?_
                      · intro h109
                        replace h109 := of_decide_eq_true h109
                        refine u rfl rfl pF ?_
                        refine u rfl rfl asg ?_
                        refine jd ?_
                        exact cut_in ⟨true, by first | (simp [k10, *]; done) | (simp_all [k10]; done) | (simp_all [k10]; omega)⟩ ⟨rfl, rfl, rfl, rfl, rfl, rfl, trivial⟩
                      · intro h109
                        replace h109 := of_decide_eq_false h109
                        refine u rfl rfl pF ?_
                        refine u rfl rfl asg ?_
                        refine jd ?_
                        exact cut_in ⟨false, by first | (simp [k10, *]; done) | (simp_all [k10]; done) | (simp_all [k10]; omega)⟩ ⟨rfl, rfl, rfl, rfl, rfl, rfl, trivial⟩
                  · rintro ⟨b96, hb96⟩
                    dsimp only
                    cases b96
                    · skip
                      refine J_condF rfl ?_
                      refine J_cutF (α := { b : Bool // k12 e ⟨g0, g1, g2, g3, g4, g5, g6, g7, gk, g8⟩ = b }) (fun p => [(111, .c (.lit (.bool p.1)))]) [(1, _), (2, _), (3, _), (2001, _), (2003, _)] ⟨rfl, rfl, rfl, rfl, rfl, trivial⟩ ?_ ?_
                      · skip
                        refine JR.start ?_
                        refine u rfl rfl (fA 4 1) ?_
                        refine u rfl rfl ld ?_
                        refine u rfl rfl mv ?_
                        cases g4
                        · skip
                          refine sk ?_
                          refine sk ?_
                          refine sk ?_
                          refine sk ?_
                          refine sk ?_
                          refine sk ?_
                          refine sk ?_
                          refine sk ?_
                          refine u rfl rfl pF ?_
                          refine u rfl rfl mv ?_
                          refine u rfl rfl (fA 4 1) ?_
                          refine u rfl rfl ld ?_
                          refine u rfl rfl nt ?_
                          refine u rfl rfl mv ?_
                          refine u rfl rfl (fA 7 1) ?_
                          refine u rfl rfl ld ?_
                          refine JR.runB rfl rfl (r_neI rfl rfl rfl rfl) ?_ ?_
                          · intro h131
                            replace h131 := of_decide_eq_false (nT h131)
                            refine u rfl rfl pT ?_
                            refine u rfl rfl pF ?_
                            refine u rfl rfl asg ?_
                            refine jd ?_
                            exact cut_in ⟨true, by first | (simp [k12, *]; done) | (simp_all [k12]; done) | (simp_all [k12]; omega)⟩ ⟨rfl, rfl, rfl, rfl, rfl, rfl, trivial⟩
                          · intro h131
                            replace h131 := of_decide_eq_true (nF h131)
                            refine u rfl rfl pT ?_
                            refine u rfl rfl pF ?_
                            refine u rfl rfl asg ?_
                            refine jd ?_
                            exact cut_in ⟨false, by first | (simp [k12, *]; done) | (simp_all [k12]; done) | (simp_all [k12]; omega)⟩ ⟨rfl, rfl, rfl, rfl, rfl, rfl, trivial⟩
                        · skip
                          refine u rfl rfl (fA 7 1) ?_
                          refine u rfl rfl ld ?_
                          refine JR.runB rfl rfl (r_ltI rfl rfl rfl rfl) ?_ ?_
                          · intro h117
                            replace h117 := of_decide_eq_true h117
                            refine u rfl rfl mv ?_
                            refine sk ?_
                            refine sk ?_
                            refine sk ?_
                            refine u rfl rfl pT ?_
                            refine u rfl rfl pT ?_
                            refine u rfl rfl mv ?_
                            refine sk ?_
                            refine sk ?_
                            refine sk ?_
                            refine sk ?_
                            refine sk ?_
                            refine sk ?_
                            refine sk ?_
                            refine sk ?_
                            refine u rfl rfl pT ?_
                            refine u rfl rfl asg ?_
                            refine jd ?_
                            exact cut_in ⟨true, by first | (simp [k12, *]; done) | (simp_all [k12]; done) | (simp_all [k12]; omega)⟩ ⟨rfl, rfl, rfl, rfl, rfl, rfl, trivial⟩
                          · intro h117
                            replace h117 := of_decide_eq_false h117
                            refine u rfl rfl mv ?_
                            refine u rfl rfl (fA 7 1) ?_
                            refine u rfl rfl ld ?_
                            refine JR.runB rfl rfl (r_gtI rfl rfl rfl rfl) ?_ ?_
                            · intro h121
                              replace h121 := of_decide_eq_true h121
                              refine u rfl rfl pF ?_
                              refine u rfl rfl pT ?_
                              refine u rfl rfl mv ?_
                              refine sk ?_
                              refine sk ?_
                              refine sk ?_
                              refine sk ?_
                              refine sk ?_
                              refine sk ?_
                              refine sk ?_
                              refine sk ?_
                              refine u rfl rfl pT ?_
                              refine u rfl rfl asg ?_
                              refine jd ?_
                              exact cut_in ⟨true, by first | (simp [k12, *]; done) | (simp_all [k12]; done) | (simp_all [k12]; omega)⟩ ⟨rfl, rfl, rfl, rfl, rfl, rfl, trivial⟩
                            · intro h121
                              replace h121 := of_decide_eq_false h121
                              refine u rfl rfl pF ?_
                              refine u rfl rfl pT ?_
                              refine u rfl rfl mv ?_
                              refine u rfl rfl (fA 4 1) ?_
                              refine u rfl rfl ld ?_
                              refine u rfl rfl nt ?_
                              refine u rfl rfl mv ?_
                              refine sk ?_
                              refine sk ?_
                              refine sk ?_
                              refine u rfl rfl pF ?_
                              refine u rfl rfl pF ?_
                              refine u rfl rfl asg ?_
                              refine jd ?_
                              exact cut_in ⟨false, by first | (simp [k12, *]; done) | (simp_all [k12]; done) | (simp_all [k12]; omega)⟩ ⟨rfl, rfl, rfl, rfl, rfl, rfl, trivial⟩
                      · rintro ⟨b111, hb111⟩
                        dsimp only
                        cases b111
                        · skip
                          refine J_condF rfl ?_
                          refine J_cutF (α := { b : Bool // k14 e ⟨g0, g1, g2, g3, g4, g5, g6, g7, gk, g8⟩ = b }) (fun p => [(134, .c (.lit (.bool p.1)))]) [(1, _), (2, _), (3, _), (2001, _), (2003, _)] ⟨rfl, rfl, rfl, rfl, rfl, trivial⟩ ?_ ?_
                          · skip
                            refine JR.start ?_
                            refine u rfl rfl (fA 8 3) ?_
                            refine u rfl rfl (lA 3) ?_
                            refine JR.runC rfl rfl (cl (tNone e.A)) rfl ?_ ?_
                            · intro h137
                              refine u rfl rfl nt ?_
                              refine u rfl rfl mv ?_
                              refine sk ?_
                              refine sk ?_
                              refine sk ?_
                              refine sk ?_
                              refine sk ?_
                              refine sk ?_
                              refine sk ?_
                              refine sk ?_
                              refine sk ?_
                              refine u rfl rfl pF ?_
                              refine u rfl rfl mv ?_
                              refine u rfl rfl (fA 7 1) ?_
                              refine u rfl rfl ld ?_
                              refine u rfl rfl mv ?_
                              cases g7
                              · skip
                                refine sk ?_
                                refine sk ?_
                                refine sk ?_
                                refine u rfl rfl pF ?_
                                refine u rfl rfl pF ?_
                                refine u rfl rfl asg ?_
                                refine jd ?_
                                exact cut_in ⟨false, by first | (simp [k14, *]; done) | (simp_all [k14]; done) | (simp_all [k14]; omega)⟩ ⟨rfl, rfl, rfl, rfl, rfl, rfl, trivial⟩
                              · skip
                                refine u rfl rfl (fA 8 3) ?_
                                refine u rfl rfl (lA 3) ?_
                                refine JR.runC rfl rfl (cl (tNone e.A)) rfl ?_ ?_
                                · intro h156
                                  refine u rfl rfl pT ?_
                                  refine u rfl rfl pF ?_
                                  refine u rfl rfl asg ?_
                                  refine jd ?_
                                  exact cut_in ⟨true, by first | (simp [k14, *]; done) | (simp_all [k14]; done) | (simp_all [k14]; omega)⟩ ⟨rfl, rfl, rfl, rfl, rfl, rfl, trivial⟩
                                · intro h156
                                  refine u rfl rfl pT ?_
                                  refine u rfl rfl pF ?_
                                  refine u rfl rfl asg ?_
                                  refine jd ?_
                                  exact cut_in ⟨false, by first | (simp [k14, *]; done) | (simp_all [k14]; done) | (simp_all [k14]; omega)⟩ ⟨rfl, rfl, rfl, rfl, rfl, rfl, trivial⟩
                            · intro h137
                              refine u rfl rfl nt ?_
                              refine u rfl rfl mv ?_
                              refine u rfl rfl (fA 5 1) ?_
                              refine u rfl rfl ld ?_
                              refine u rfl rfl nt ?_
                              refine u rfl rfl mv ?_
                              cases g5
                              · skip
                                refine sk ?_
                                refine sk ?_
                                refine sk ?_
                                refine sk ?_
                                refine u rfl rfl pT ?_
                                refine u rfl rfl pT ?_
                                refine u rfl rfl mv ?_
                                refine sk ?_
                                refine sk ?_
                                refine sk ?_
                                refine sk ?_
                                refine sk ?_
                                refine sk ?_
                                refine sk ?_
                                refine u rfl rfl pT ?_
                                refine u rfl rfl asg ?_
                                refine jd ?_
                                exact cut_in ⟨true, by first | (simp [k14, *]; done) | (simp_all [k14]; done) | (simp_all [k14]; omega)⟩ ⟨rfl, rfl, rfl, rfl, rfl, rfl, trivial⟩
                              · skip
                                refine u rfl rfl (fA 8 3) ?_
                                refine u rfl rfl (lA 3) ?_
                                refine JR.runC rfl rfl (cl (tClosedA e.A (by omega))) rfl ?_ ?_
                                · intro h146
                                  refine u rfl rfl nt ?_
                                  refine u rfl rfl pF ?_
                                  refine u rfl rfl pT ?_
                                  refine u rfl rfl mv ?_
                                  refine u rfl rfl (fA 7 1) ?_
                                  refine u rfl rfl ld ?_
                                  refine u rfl rfl mv ?_
                                  cases g7
                                  · skip
                                    refine sk ?_
                                    refine sk ?_
                                    refine sk ?_
                                    refine u rfl rfl pF ?_
                                    refine u rfl rfl pF ?_
                                    refine u rfl rfl asg ?_
                                    refine jd ?_
                                    exact cut_in ⟨false, by first | (simp [k14, *]; done) | (simp_all [k14]; done) | (simp_all [k14]; omega)⟩ ⟨rfl, rfl, rfl, rfl, rfl, rfl, trivial⟩
                                  · skip
                                    refine u rfl rfl (fA 8 3) ?_
                                    refine u rfl rfl (lA 3) ?_
                                    refine JR.runC rfl rfl (cl (tNone e.A)) rfl ?_ ?_
                                    · intro h156
                                      refine u rfl rfl pT ?_
                                      refine u rfl rfl pF ?_
                                      refine u rfl rfl asg ?_
                                      refine jd ?_
                                      exact cut_in ⟨true, by first | (simp [k14, *]; done) | (simp_all [k14]; done) | (simp_all [k14]; omega)⟩ ⟨rfl, rfl, rfl, rfl, rfl, rfl, trivial⟩
                                    · intro h156
                                      refine u rfl rfl pT ?_
                                      refine u rfl rfl pF ?_
                                      refine u rfl rfl asg ?_
                                      refine jd ?_
                                      exact cut_in ⟨false, by first | (simp [k14, *]; done) | (simp_all [k14]; done) | (simp_all [k14]; omega)⟩ ⟨rfl, rfl, rfl, rfl, rfl, rfl, trivial⟩
                                · intro h146
                                  refine u rfl rfl nt ?_
                                  refine u rfl rfl pF ?_
                                  refine u rfl rfl pT ?_
                                  refine u rfl rfl mv ?_
                                  refine sk ?_
                                  refine sk ?_
                                  refine sk ?_
                                  refine sk ?_
                                  refine sk ?_
                                  refine sk ?_
                                  refine sk ?_
                                  refine u rfl rfl pT ?_
                                  refine u rfl rfl asg ?_
                                  refine jd ?_
                                  exact cut_in ⟨true, by first | (simp [k14, *]; done) | (simp_all [k14]; done) | (simp_all [k14]; omega)⟩ ⟨rfl, rfl, rfl, rfl, rfl, rfl, trivial⟩
                          · rintro ⟨b134, hb134⟩
                            dsimp only
                            cases b134
                            · skip
                              refine J_condF rfl ?_
                              refine J_cutF (α := { b : Bool // k16 e ⟨g0, g1, g2, g3, g4, g5, g6, g7, gk, g8⟩ = b }) (fun p => [(159, .c (.lit (.bool p.1)))]) [(1, _), (2, _), (2001, _), (2003, _)] ⟨rfl, rfl, rfl, rfl, trivial⟩ ?_ ?_
                              · skip
                                refine JR.start ?_
                                refine u rfl rfl (fA 11 3) ?_
                                refine u rfl rfl (lA 3) ?_
                                refine JR.runC rfl rfl (cl (tNone e.B)) rfl ?_ ?_
                                · intro h162
                                  refine u rfl rfl nt ?_
                                  refine u rfl rfl mv ?_
                                  refine sk ?_
                                  refine sk ?_
                                  refine sk ?_
                                  refine sk ?_
                                  refine sk ?_
                                  refine sk ?_
                                  refine sk ?_
                                  refine sk ?_
                                  refine sk ?_
                                  refine u rfl rfl pF ?_
                                  refine u rfl rfl asg ?_
                                  refine jd ?_
                                  exact cut_in ⟨false, by first | (simp [k16, *]; done) | (simp_all [k16]; done) | (simp_all [k16]; omega)⟩ ⟨rfl, rfl, rfl, rfl, rfl, trivial⟩
                                · intro h162
                                  refine u rfl rfl nt ?_
                                  refine u rfl rfl mv ?_
                                  refine u rfl rfl (fA 6 1) ?_
                                  refine u rfl rfl ld ?_
                                  refine u rfl rfl nt ?_
                                  refine u rfl rfl mv ?_
                                  cases g6
                                  · skip
                                    refine sk ?_
                                    refine sk ?_
                                    refine sk ?_
                                    refine sk ?_
                                    refine u rfl rfl pT ?_
                                    refine u rfl rfl pT ?_
                                    refine u rfl rfl asg ?_
                                    refine jd ?_
                                    exact cut_in ⟨true, by first | (simp [k16, *]; done) | (simp_all [k16]; done) | (simp_all [k16]; omega)⟩ ⟨rfl, rfl, rfl, rfl, rfl, trivial⟩
                                  · skip
                                    refine u rfl rfl (fA 11 3) ?_
                                    refine u rfl rfl (lA 3) ?_
                                    refine JR.runC rfl rfl (cl (tClosedA e.B (by omega))) rfl ?_ ?_
                                    · intro h171
                                      refine u rfl rfl nt ?_
                                      refine u rfl rfl pF ?_
                                      refine u rfl rfl pT ?_
                                      refine u rfl rfl asg ?_
                                      refine jd ?_
                                      exact cut_in ⟨false, by first | (simp [k16, *]; done) | (simp_all [k16]; done) | (simp_all [k16]; omega)⟩ ⟨rfl, rfl, rfl, rfl, rfl, trivial⟩
                                    · intro h171
                                      refine u rfl rfl nt ?_
                                      refine u rfl rfl pF ?_
                                      refine u rfl rfl pT ?_
                                      refine u rfl rfl asg ?_
                                      refine jd ?_
                                      exact cut_in ⟨true, by first | (simp [k16, *]; done) | (simp_all [k16]; done) | (simp_all [k16]; omega)⟩ ⟨rfl, rfl, rfl, rfl, rfl, trivial⟩
                              · rintro ⟨b159, hb159⟩
                                dsimp only
                                cases b159
                                · skip
                                  refine J_condF rfl ?_
                                  refine J_skip ?_
                                  refine J_seq ?_
                                  refine js ?_
                                  refine u rfl rfl (fA 14 1) ?_
                                  refine u rfl rfl ld ?_
                                  refine u rfl rfl ln0 ?_
                                  refine u rfl rfl mv ?_
                                  refine jd ?_
                                  refine w4 2 176 177 178 ?_
                                  refine J_block ?_
                                  refine J_loopF (α := { i : Nat // i ≤ e.pats.length ∧ e.pats.all mCheckPat = (e.pats.drop i).all mCheckPat }) (fun p => [(178, .c (.lit (.int .i64 (p.1 : Int))))]) [(2, _), (176, _), (177, _)] (fun p => e.pats.length - p.1) ⟨0, Nat.zero_le _, rfl⟩ ⟨rfl, rfl, rfl, rfl, trivial⟩ ?_
                                  rintro ⟨i, hi, hI⟩
                                  dsimp only
                                  refine js ?_
                                  refine JR.runB rfl rfl (r_ltI rfl rfl rfl rfl) ?_ ?_
                                  · intro h179
                                    replace h179 := of_decide_eq_true h179
                                    obtain ⟨x, hx⟩ := get_some3 (l := e.pats) (i := i) (by omega)
                                    have hcp := tCheckPat hn (pasK_get he hx)
                                    refine jd ?_
                                    refine w5 2 176 177 178 179 ?_
                                    refine J_seq ?_
                                    refine J_condT rfl ?_
                                    refine J_skip ?_
                                    refine J_seq ?_
                                    refine J_block ?_
                                    refine js ?_
                                    refine u rfl rfl (r_indexAddr (e := 54) (sz := 7) rfl rfl (by kernel_rfl) rfl rfl (by omega) (pas_at3 hx)) ?_
                                    refine u rfl rfl (eA 7) ?_
                                    refine u rfl rfl (r_alloc (x := 2006) (zs := zp) dp rfl rfl rfl (by kernel_rfl) kp) ?_
                                    refine u rfl rfl sA ?_
                                    refine jd ?_
                                    refine w9 2 6 176 177 178 179 180 181 2006 ?_
                                    refine js ?_
                                    refine u rfl rfl (lA 7) ?_
                                    rcases hr : mCheckPat x with _ | _
                                    · rw [hr] at hcp
                                      refine u rfl rfl (cl (hcp)) ?_
                                      refine u rfl rfl (r_neI rfl rfl rfl rfl) ?_
                                      refine jd ?_
                                      refine w12 2 6 176 177 178 179 180 181 182 183 184 2006 ?_
                                      refine J_condT rfl ?_
                                      refine js ?_
                                      refine u rfl rfl asg ?_
                                      refine jd ?_
                                      refine w12 2 6 176 177 178 179 180 181 182 183 184 2006 ?_
                                      refine J_ret ?_
                                      refine ⟨.inl rfl, _, rfl, .ofB ?_, trivial⟩
                                      simp only [hb12, hb34, hb53, hb72, hb96, hb111, hb134, hb159, Bool.not_true, Bool.not_false, Bool.false_and, Bool.and_false, Bool.true_and]
                                      rw [hI, drop_get3 hx, List.all_cons, hr]
                                      rfl
                                    · rw [hr] at hcp
                                      refine u rfl rfl (cl (hcp)) ?_
                                      refine u rfl rfl (r_neI rfl rfl rfl rfl) ?_
                                      refine jd ?_
                                      refine w12 2 6 176 177 178 179 180 181 182 183 184 2006 ?_
                                      refine J_condF rfl ?_
                                      refine J_skip ?_
                                      refine JR.start ?_
                                      refine u rfl rfl (r_addI rfl rfl rfl rfl (by omega)) ?_
                                      refine u rfl rfl mv ?_
                                      refine jd ?_
                                      refine ⟨⟨i + 1, by omega, by rw [hI, drop_get3 hx, List.all_cons, hr, Bool.true_and]⟩, by simp only; omega, rfl, rfl, rfl, rfl, trivial⟩
                                  · intro h179
                                    replace h179 := of_decide_eq_false h179
                                    refine jd ?_
                                    refine w5 2 176 177 178 179 ?_
                                    refine J_seq ?_
                                    refine J_condF rfl ?_
                                    refine J_exit ?_
                                    refine js ?_
                                    refine u rfl rfl asg ?_
                                    refine jd ?_
                                    refine w1 2 ?_
                                    refine J_ret ?_
                                    refine ⟨.inl rfl, _, rfl, .ofB ?_, trivial⟩
                                    simp only [hb12, hb34, hb53, hb72, hb96, hb111, hb134, hb159, Bool.not_true, Bool.not_false, Bool.false_and, Bool.and_false, Bool.true_and]
                                    rw [hI, List.drop_eq_nil_of_le (by omega)]
                                    rfl
                                · skip
                                  refine J_condT rfl ?_
                                  refine js ?_
                                  refine u rfl rfl asg ?_
                                  refine jd ?_
                                  refine w3 1 2 2001 ?_
                                  refine J_ret ?_
                                  refine ⟨.inl rfl, _, rfl, .ofB ?_, trivial⟩
                                  simp only [hb12, hb34, hb53, hb72, hb96, hb111, hb134, hb159, Bool.not_true, Bool.not_false, Bool.false_and, Bool.and_false, Bool.true_and]
                            · skip
                              refine J_condT rfl ?_
                              refine js ?_
                              refine u rfl rfl asg ?_
                              refine jd ?_
                              refine w3 1 2 2001 ?_
                              refine J_ret ?_
                              refine ⟨.inl rfl, _, rfl, .ofB ?_, trivial⟩
                              simp only [hb12, hb34, hb53, hb72, hb96, hb111, hb134, Bool.not_true, Bool.not_false, Bool.false_and, Bool.and_false, Bool.true_and]
                        · skip
                          refine J_condT rfl ?_
                          refine js ?_
                          refine u rfl rfl asg ?_
                          refine jd ?_
                          refine w3 1 2 2001 ?_
                          refine J_ret ?_
                          refine ⟨.inl rfl, _, rfl, .ofB ?_, trivial⟩
                          simp only [hb12, hb34, hb53, hb72, hb96, hb111, Bool.not_true, Bool.not_false, Bool.false_and, Bool.and_false, Bool.true_and]
                    · skip
                      refine J_condT rfl ?_
                      refine js ?_
                      refine u rfl rfl asg ?_
                      refine jd ?_
                      refine w3 1 2 2001 ?_
                      refine J_ret ?_
                      refine ⟨.inl rfl, _, rfl, .ofB ?_, trivial⟩
                      simp only [hb12, hb34, hb53, hb72, hb96, Bool.not_true, Bool.not_false, Bool.false_and, Bool.and_false, Bool.true_and]
                · skip
                  refine J_condT rfl ?_
                  refine js ?_
                  refine u rfl rfl asg ?_
                  refine jd ?_
                  refine w3 1 2 2001 ?_
                  refine J_ret ?_
                  refine ⟨.inl rfl, _, rfl, .ofB ?_, trivial⟩
                  simp only [hb12, hb34, hb53, hb72, Bool.not_true, Bool.not_false, Bool.false_and, Bool.and_false, Bool.true_and]
            · skip
              refine J_condT rfl ?_
              refine js ?_
              refine u rfl rfl asg ?_
              refine jd ?_
              refine w3 1 2 2001 ?_
              refine J_ret ?_
              refine ⟨.inl rfl, _, rfl, .ofB ?_, trivial⟩
              simp only [hb12, hb34, hb53, Bool.not_true, Bool.not_false, Bool.false_and, Bool.and_false, Bool.true_and]
        · skip
          refine J_condT rfl ?_
          refine js ?_
          refine u rfl rfl asg ?_
          refine jd ?_
          refine w3 1 2 2001 ?_
          refine J_ret ?_
          refine ⟨.inl rfl, _, rfl, .ofB ?_, trivial⟩
          simp only [hb12, hb34, Bool.not_true, Bool.not_false, Bool.false_and, Bool.and_false, Bool.true_and]
    · skip
      refine J_condT rfl ?_
      refine js ?_
      refine u rfl rfl asg ?_
      refine jd ?_
      refine w3 1 2 2001 ?_
      refine J_ret ?_
      refine ⟨.inl rfl, _, rfl, .ofB ?_, trivial⟩
      simp only [hb12, Bool.not_true, Bool.not_false, Bool.false_and, Bool.and_false, Bool.true_and]

end Go.Proofs.Ytlagglkpbnbmeaa
