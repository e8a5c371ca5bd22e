/- The wake-up call of layer 6. -/
import Derived.Test.YtlagglkpbnbmeaaEp7
import Derived.Test.YtlagglkpbnbmeaaSp
namespace Go.Proofs.Ytlagglkpbnbmeaa
open Go Go.RowKit
set_option maxRecDepth 100000
set_option linter.unusedVariables false

def wB1 : List UInt8 := [108, 101, 116, 32, 114, 101, 99, 32, 102, 32, 40, 120, 32, 58, 32, 63, 41, 32, 61, 32, 102, 32, 120, 32, 43, 32, 49, 32, 105, 110, 32, 102]
def wB2 : List UInt8 := [102, 32, 40, 120, 44, 32, 49, 41, 32, 58]
def wB3 : List UInt8 := [108, 101, 116, 32, 120, 32, 61, 32, 49, 32, 120]
def wNm (a b : Int) (c : UInt8) : Ex := .mk 1 a b [c] [] 0 [] 0 noTy noTy [] []
def wK : Ex := .mk 16 20 27 [] [] 0 [] 1 noTy noTy [] [.mk 10 20 23 [] [] 0 [] 0 noTy noTy [] [wNm 20 21 102, wNm 22 23 120], .mk 2 26 27 [] [] 1 [] 0 noTy noTy [] []]
def wE : Ex := .mk 12 0 32 [102] [120] 0 [] 0 (.leaf 5) noTy [] [wK, wNm 31 32 102]
theorem wParse1 : Con Try.prog 4 [.c (.sl 1 (bcells wB1))] [] (parD (.ok wE)) [] := eParse wB1 (by decide) (by kernel_rfl)
theorem wParse2 : Con Try.prog 4 [.c (.sl 1 (bcells wB2))] [] (parD (.error (9, 3))) [] := eParse wB2 (by decide) (by kernel_rfl)
theorem wParse3 : Con Try.prog 4 [.c (.sl 1 (bcells wB3))] [] (parD (.error (11, 3))) [] := eParse wB3 (by decide) (by kernel_rfl)
theorem kWakes6 : Con Try.prog 5 [] [] (.c (.lit (.bool true))) [] := by
  refine con_intro rfl rfl (by kernel_rfl) (by kernel_rfl) ?_
  refine js ?_
  refine u rfl rfl asg ?_
  refine jd ?_
  refine w1 0 ?_
  refine js ?_
  refine u rfl rfl (r_buildSliceOwn (e := 5) (sz := 1) (zs := [.int .u8 0]) (bcells wB1) rfl rfl (by kernel_rfl) (by kernel_rfl) rfl rfl rfl rfl rfl) ?_
  refine u rfl rfl (r_convConst rfl rfl (by kernel_rfl) rfl (by rfl)) ?_
  refine u rfl rfl (cl (wParse1)) ?_
  refine u rfl rfl mv ?_
  refine u rfl rfl xt ?_
  refine u rfl rfl xt ?_
  refine u rfl rfl xt ?_
  refine u rfl rfl (r_alloc (x := 2001) (zs := zx) dx rfl rfl rfl (by kernel_rfl) kx) ?_
  refine u rfl rfl sA ?_
  refine u rfl rfl asg ?_
  refine u rfl rfl asg ?_
  refine jd ?_
  refine w5 0 1 2 3 2001 ?_
  refine js ?_
  refine u rfl rfl (r_buildSliceOwn (e := 5) (sz := 1) (zs := [.int .u8 0]) (bcells wB2) rfl rfl (by kernel_rfl) (by kernel_rfl) rfl rfl rfl rfl rfl) ?_
  refine u rfl rfl (r_convConst rfl rfl (by kernel_rfl) rfl (by rfl)) ?_
  refine u rfl rfl (cl (wParse2)) ?_
  refine u rfl rfl mv ?_
  refine u rfl rfl xt ?_
  refine u rfl rfl xt ?_
  refine u rfl rfl xt ?_
  refine u rfl rfl (r_alloc (x := 2004) (zs := zx) dx rfl rfl rfl (by kernel_rfl) kx) ?_
  refine u rfl rfl sA ?_
  refine u rfl rfl asg ?_
  refine u rfl rfl asg ?_
  refine jd ?_
  refine w7 0 1 2 3 5 6 2001 ?_
  refine js ?_
  refine u rfl rfl (r_buildSliceOwn (e := 5) (sz := 1) (zs := [.int .u8 0]) (bcells wB3) rfl rfl (by kernel_rfl) (by kernel_rfl) rfl rfl rfl rfl rfl) ?_
  refine u rfl rfl (r_convConst rfl rfl (by kernel_rfl) rfl (by rfl)) ?_
  refine u rfl rfl (cl (wParse3)) ?_
  refine u rfl rfl mv ?_
  refine u rfl rfl xt ?_
  refine u rfl rfl xt ?_
  refine u rfl rfl xt ?_
  refine u rfl rfl (r_alloc (x := 2007) (zs := zx) dx rfl rfl rfl (by kernel_rfl) kx) ?_
  refine u rfl rfl sA ?_
  refine u rfl rfl asg ?_
  refine u rfl rfl asg ?_
  refine jd ?_
  refine w9 0 1 2 3 5 6 8 9 2001 ?_
  refine js ?_
  refine u rfl rfl mv ?_
  refine u rfl rfl (r_eqI rfl rfl rfl rfl) ?_
  refine u rfl rfl mv ?_
  refine u rfl rfl mv ?_
  refine u rfl rfl (r_eqI rfl rfl rfl rfl) ?_
  refine u rfl rfl pT ?_
  refine u rfl rfl mv ?_
  refine u rfl rfl (fA 0 1) ?_
  refine u rfl rfl ld ?_
  refine u rfl rfl ((r_eqI rfl rfl rfl rfl).cast (cast_b (b' := true) (by kernel_rfl))) ?_
  refine u rfl rfl pT ?_
  refine u rfl rfl mv ?_
  refine u rfl rfl (fA 3 1) ?_
  refine u rfl rfl ld ?_
  refine u rfl rfl ((r_eqS rfl rfl rfl rfl).cast (cast_b (b' := true) (by kernel_rfl))) ?_
  refine u rfl rfl pT ?_
  refine u rfl rfl mv ?_
  refine u rfl rfl (fA 4 1) ?_
  refine u rfl rfl ld ?_
  refine u rfl rfl ((r_eqS rfl rfl rfl rfl).cast (cast_b (b' := true) (by kernel_rfl))) ?_
  refine u rfl rfl pT ?_
  refine u rfl rfl mv ?_
  refine u rfl rfl (fA 8 3) ?_
  refine u rfl rfl (fA 0 1) ?_
  refine u rfl rfl ld ?_
  refine u rfl rfl ((r_eqI rfl rfl rfl rfl).cast (cast_b (b' := true) (by kernel_rfl))) ?_
  refine u rfl rfl pT ?_
  refine u rfl rfl mv ?_
  refine u rfl rfl (fA 1 2) ?_
  refine u rfl rfl (lA 2) ?_
  refine u rfl rfl (r_build (zs := [.int .i64 0, .int .i64 0]) (qs := [(0, 1), (1, 1)]) [.lit (.int .i64 0), .lit (.int .i64 0)] rfl rfl (by kernel_rfl) (by kernel_rfl) ⟨.refl _, .refl _, trivial⟩ rfl rfl) ?_
  refine u rfl rfl ((r_eqSp rfl rfl rfl rfl).cast (cast_b (b' := true) (by kernel_rfl))) ?_
  refine u rfl rfl pT ?_
  refine u rfl rfl mv ?_
  refine u rfl rfl (fA 15 1) ?_
  refine u rfl rfl ld ?_
  refine u rfl rfl ln0 ?_
  refine u rfl rfl ((r_eqI rfl rfl rfl rfl).cast (cast_b (b' := true) (by kernel_rfl))) ?_
  refine u rfl rfl pT ?_
  refine u rfl rfl mv ?_
  refine u rfl rfl (fA 15 1) ?_
  refine u rfl rfl ld ?_
  refine u rfl rfl (r_indexAddr (e := 31) (sz := 16) rfl rfl (by kernel_rfl) rfl rfl (by decide) ((show (exsD [wK, wNm 31 32 102])[(0 : Int).toNat]? = some (exX wK) by rw [exsD_map]; rfl))) ?_
  refine u rfl rfl (fE 0 1) ?_
  refine u rfl rfl lE ?_
  refine u rfl rfl ((r_eqI rfl rfl rfl rfl).cast (cast_b (b' := true) (by kernel_rfl))) ?_
  refine u rfl rfl pT ?_
  refine u rfl rfl mv ?_
  refine u rfl rfl mv ?_
  refine u rfl rfl (r_eqI rfl rfl rfl rfl) ?_
  refine u rfl rfl pT ?_
  refine u rfl rfl mv ?_
  refine u rfl rfl mv ?_
  refine u rfl rfl (r_eqI rfl rfl rfl rfl) ?_
  refine u rfl rfl pT ?_
  refine u rfl rfl mv ?_
  refine u rfl rfl mv ?_
  refine u rfl rfl (r_eqI rfl rfl rfl rfl) ?_
  refine u rfl rfl pT ?_
  refine u rfl rfl mv ?_
  refine u rfl rfl mv ?_
  refine u rfl rfl (r_eqI rfl rfl rfl rfl) ?_
  refine u rfl rfl pT ?_
  refine u rfl rfl asg ?_
  refine jd ?_
  refine w1 0 ?_
  refine J_ret ?_
  exact ⟨.inl rfl, _, rfl, .refl _, trivial⟩

end Go.Proofs.Ytlagglkpbnbmeaa
