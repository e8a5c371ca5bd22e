/- Short forms of the rules, for texts that are printed. -/
import Derived.Test.YtlagglkpbnbmeaaGreatDoorSh18
namespace Go.Proofs.YtlagglkpbnbmeaaGreatDoor
open Go Go.RowKit
set_option linter.unusedVariables false

abbrev zx : List Value := [.int .i64 0, .int .i64 0, .int .i64 0, str [], str [], .int .i64 0, str [], .int .i64 0, .int .i64 0, .int .i64 0, .slice none 0 0, .int .i64 0, .int .i64 0, .slice none 0 0, .slice none 0 0, .slice none 0 0]
abbrev dx : List D := [.lit (.int .i64 0), .lit (.int .i64 0), .lit (.int .i64 0), .lit (str []), .lit (str []), .lit (.int .i64 0), .lit (str []), .lit (.int .i64 0), .lit (.int .i64 0), .lit (.int .i64 0), .sl 3 [], .lit (.int .i64 0), .lit (.int .i64 0), .sl 3 [], .sl 7 [], .sl 16 []]
theorem kx : WkDs (zx.map .lit) dx := ⟨.refl _, .refl _, .refl _, .refl _, .refl _, .refl _, .refl _, .refl _, .refl _, .refl _, .nil _, .refl _, .refl _, .nil _, .nil _, .nil _, trivial⟩
abbrev zp : List Value := [.int .i64 0, .int .i64 0, .int .i64 0, str [], .int .i64 0, str [], .slice none 0 0]
abbrev dp : List D := [.lit (.int .i64 0), .lit (.int .i64 0), .lit (.int .i64 0), .lit (str []), .lit (.int .i64 0), .lit (str []), .sl 7 []]
theorem kp : WkDs (zp.map .lit) dp := ⟨.refl _, .refl _, .refl _, .refl _, .refl _, .refl _, .nil _, trivial⟩
abbrev zt : List Value := [.int .i64 0, .int .i64 0, .slice none 0 0]
abbrev dt : List D := [.lit (.int .i64 0), .lit (.int .i64 0), .sl 3 []]
theorem kt : WkDs (zt.map .lit) dt := ⟨.refl _, .refl _, .nil _, trivial⟩
theorem jk3 {c0 c1 c2 : D} {b : E} : WkF (.tup [.agg [c0, c1, c2], b]) (.tup [.agg [.any, .any, .any], b]) := .tup ⟨.agg ⟨.any _, .any _, .any _, trivial⟩, .refl _, trivial⟩
theorem jk16 {c0 c1 c2 c3 c4 c5 c6 c7 c8 c9 c10 c11 c12 c13 c14 c15 : D} {b : E} : WkF (.tup [.agg [c0, c1, c2, c3, c4, c5, c6, c7, c8, c9, c10, c11, c12, c13, c14, c15], b]) (.tup [.agg [.any, .any, .any, .any, .any, .any, .any, .any, .any, .any, .any, .any, .any, .any, .any, .any], b]) := .tup ⟨.agg ⟨.any _, .any _, .any _, .any _, .any _, .any _, .any _, .any _, .any _, .any _, .any _, .any _, .any _, .any _, .any _, .any _, trivial⟩, .refl _, trivial⟩
section
variable {P : Program} {n : Nat} {ins : List Nat} {l : List (Nat × F)} {K : Cont}
theorem w1 {c : Code} (a1 : Nat) {f1 : F} (hJ : J P n ins [(a1, f1)] c K) (h1 : find l a1 = some f1 := by exact rfl) : J P n ins l c K :=
  J_weak [(a1, f1)] ⟨h1, trivial⟩ hJ
theorem w2 {c : Code} (a1 a2 : Nat) {f1 f2 : F} (hJ : J P n ins [(a1, f1), (a2, f2)] c K) (h1 : find l a1 = some f1 := by exact rfl) (h2 : find l a2 = some f2 := by exact rfl) : J P n ins l c K :=
  J_weak [(a1, f1), (a2, f2)] ⟨h1, h2, trivial⟩ hJ
theorem w3 {c : Code} (a1 a2 a3 : Nat) {f1 f2 f3 : F} (hJ : J P n ins [(a1, f1), (a2, f2), (a3, f3)] c K) (h1 : find l a1 = some f1 := by exact rfl) (h2 : find l a2 = some f2 := by exact rfl) (h3 : find l a3 = some f3 := by exact rfl) : J P n ins l c K :=
  J_weak [(a1, f1), (a2, f2), (a3, f3)] ⟨h1, h2, h3, trivial⟩ hJ
theorem w4 {c : Code} (a1 a2 a3 a4 : Nat) {f1 f2 f3 f4 : F} (hJ : J P n ins [(a1, f1), (a2, f2), (a3, f3), (a4, f4)] c K) (h1 : find l a1 = some f1 := by exact rfl) (h2 : find l a2 = some f2 := by exact rfl) (h3 : find l a3 = some f3 := by exact rfl) (h4 : find l a4 = some f4 := by exact rfl) : J P n ins l c K :=
  J_weak [(a1, f1), (a2, f2), (a3, f3), (a4, f4)] ⟨h1, h2, h3, h4, trivial⟩ hJ
theorem w5 {c : Code} (a1 a2 a3 a4 a5 : Nat) {f1 f2 f3 f4 f5 : F} (hJ : J P n ins [(a1, f1), (a2, f2), (a3, f3), (a4, f4), (a5, f5)] c K) (h1 : find l a1 = some f1 := by exact rfl) (h2 : find l a2 = some f2 := by exact rfl) (h3 : find l a3 = some f3 := by exact rfl) (h4 : find l a4 = some f4 := by exact rfl) (h5 : find l a5 = some f5 := by exact rfl) : J P n ins l c K :=
  J_weak [(a1, f1), (a2, f2), (a3, f3), (a4, f4), (a5, f5)] ⟨h1, h2, h3, h4, h5, trivial⟩ hJ
theorem w8 {c : Code} (a1 a2 a3 a4 a5 a6 a7 a8 : Nat) {f1 f2 f3 f4 f5 f6 f7 f8 : F} (hJ : J P n ins [(a1, f1), (a2, f2), (a3, f3), (a4, f4), (a5, f5), (a6, f6), (a7, f7), (a8, f8)] c K) (h1 : find l a1 = some f1 := by exact rfl) (h2 : find l a2 = some f2 := by exact rfl) (h3 : find l a3 = some f3 := by exact rfl) (h4 : find l a4 = some f4 := by exact rfl) (h5 : find l a5 = some f5 := by exact rfl) (h6 : find l a6 = some f6 := by exact rfl) (h7 : find l a7 = some f7 := by exact rfl) (h8 : find l a8 = some f8 := by exact rfl) : J P n ins l c K :=
  J_weak [(a1, f1), (a2, f2), (a3, f3), (a4, f4), (a5, f5), (a6, f6), (a7, f7), (a8, f8)] ⟨h1, h2, h3, h4, h5, h6, h7, h8, trivial⟩ hJ
theorem w9 {c : Code} (a1 a2 a3 a4 a5 a6 a7 a8 a9 : Nat) {f1 f2 f3 f4 f5 f6 f7 f8 f9 : F} (hJ : J P n ins [(a1, f1), (a2, f2), (a3, f3), (a4, f4), (a5, f5), (a6, f6), (a7, f7), (a8, f8), (a9, f9)] c K) (h1 : find l a1 = some f1 := by exact rfl) (h2 : find l a2 = some f2 := by exact rfl) (h3 : find l a3 = some f3 := by exact rfl) (h4 : find l a4 = some f4 := by exact rfl) (h5 : find l a5 = some f5 := by exact rfl) (h6 : find l a6 = some f6 := by exact rfl) (h7 : find l a7 = some f7 := by exact rfl) (h8 : find l a8 = some f8 := by exact rfl) (h9 : find l a9 = some f9 := by exact rfl) : J P n ins l c K :=
  J_weak [(a1, f1), (a2, f2), (a3, f3), (a4, f4), (a5, f5), (a6, f6), (a7, f7), (a8, f8), (a9, f9)] ⟨h1, h2, h3, h4, h5, h6, h7, h8, h9, trivial⟩ hJ
theorem u {o : Oper} {l0 : List (Nat × F)} {id : Nat} {ops : Array Oper} {draw : Bool} {i : Nat} {acc : List Stp} {post : List (Nat × F)} {rd : List Nat} {fr : List (Nat × List Nat)} (ho : ops[i]? = some o) (hw : wantB ops l o = some true) (hd : Does P o rd fr l post)
    (h : JR P n ins l0 id ops draw K (i + 1) (post ++ l) (⟨gk ops o ++ rd, fr, post⟩ :: acc)) : JR P n ins l0 id ops draw K i l acc := JR.run ho hw hd h
theorem lr {rs : List ResultVar} {r r0 : F} {vs' : List (Nat × F)} (h1 : resF P l rs = some r0) (h2 : WkF r0 r) (h3 : sub vs' l) : retK P rs r vs' .ret l := ⟨.inl rfl, r0, h1, h2, h3⟩
theorem ln {rs : List ResultVar} {r r0 : F} {vs' : List (Nat × F)} (h1 : resF P l rs = some r0) (h2 : WkF r0 r) (h3 : sub vs' l) : retK P rs r vs' .normal l := ⟨.inr rfl, r0, h1, h2, h3⟩
theorem js {id : Nat} {ops : Array Oper} {draw : Bool} {y : Code} (h : JR P n ins l id ops draw (seqK P n ins y K) 0 l []) : J P n ins l (.seq (.region id ops draw) y) K := J_seq (JR.start h)
def mb (l : List Nat) : List (List Nat) := l.map fun m => (List.range 64).filter fun i => Nat.testBit m i
section
variable {l0 : List (Nat × F)} {id : Nat} {ops : Array Oper} {draw : Bool} {i : Nat} {acc : List Stp}
theorem jd (h : K .normal l) (hm : P.follows .mixedOrders = true := by kernel_rfl) (hi : i = ops.size := by exact rfl) (hok : regOK n ins l0 ops acc.reverse [] draw = true := by kernel_rfl) : JR P n ins l0 id ops draw K i l acc := JR.done [] hm hi hok h
theorem sk {o : Oper} (h : JR P n ins l0 id ops draw K (i + 1) (undPost o ++ l) (⟨gk ops o, [], undPost o⟩ :: acc)) (ho : ops[i]? = some o := by exact rfl) (hw : wantB ops l o = some false := by exact rfl) : JR P n ins l0 id ops draw K i l acc := JR.skip ho hw h
end
end
section
variable {P : Program} {o : Oper} {l : List (Nat × F)} {d : Nat}
theorem mv {x : Operand} {f : F} (ho : o.op = .move x := by exact rfl) (hd : o.dst = some d := by exact rfl) (hx : opd l x = some f := by exact rfl) (hp : Plain f := by trivial) : Does P o (rdOf x) [] l [(d, f)] := r_move ho hd hx hp
theorem asg {x : Operand} {f : F} (ho : o.op = .assign x := by exact rfl) (hd : o.dst = some d := by exact rfl) (hx : opd l x = some f := by exact rfl) (hp : Plain f := by trivial) : Does P o (rdOf x) [] l [(d, f)] := r_assign ho hd hx hp
theorem sA {T : TypeId} {T0 : TypeId} {x : Operand} {y : Operand} {v : Nat} {n : Nat} {m : Nat} {xs : List C} {us : List D} (ho : o.op = .store T x y := by exact rfl) (hd : o.dst = none := by exact rfl) (hx : opd l x = some (.ptr v n) := by exact rfl) (hv : find l v = some (.var T0 xs) := by exact rfl) (hy : opd l y = some (.agg us) := by exact rfl) (hm : us.length = m := by exact rfl) (hn : Nat.ble (n + m) xs.length = true := by exact rfl) (hmm : (Nat.blt n mapT && !Nat.beq T0 mapT) = true := by exact rfl) (hT : sizeT P T = some m := by kernel_rfl) : Does P o (v :: (rdOf x ++ rdOf y)) [] l [(v, .var T0 (splice xs n (us.map .d)))] := r_storeA ho hd hT hx hv hy hm hn hmm
theorem lA {T : TypeId} {T0 : TypeId} {x : Operand} {y : Nat} {n : Nat} {xs : List C} {us : List D} (m : Nat) (ho : o.op = .load T x := by exact rfl) (hd : o.dst = some d := by exact rfl) (hx : opd l x = some (.ptr y n) := by exact rfl) (hy : find l y = some (.var T0 xs) := by exact rfl) (hu : plainCs ((xs.drop n).take m) = some us := by exact rfl) (hm : us.length = m := by exact rfl) (hmm : (Nat.blt n mapT && !Nat.beq T0 mapT) = true := by exact rfl) (hT : aggN P T = some m := by kernel_rfl) : Does P o (rdOf x ++ [y]) [] l [(d, .agg us)] := r_loadA (m := m) ho hd hT hx hy hu hm hmm
theorem eA {T : TypeId} {x : Operand} {n : Nat} {row : List D} {us : List D} (m : Nat) (ho : o.op = .load T x := by exact rfl) (hd : o.dst = some d := by exact rfl) (hx : opd l x = some (.el row n) := by exact rfl) (hu : (row.drop n).take m = us := by exact rfl) (hm : us.length = m := by exact rfl) (hT : aggN P T = some m := by kernel_rfl) :
    Does P o (rdOf x) [] l [(d, .agg us)] := r_loadElA (m := m) ho hd hT hx hu hm
theorem xt {x : Operand} {i : Nat} {xs : List E} {e : E} {f : F} (ho : o.op = .extract x i := by exact rfl) (hd : o.dst = some d := by exact rfl) (hx : opd l x = some (.tup xs) := by exact rfl) (he : xs[i]? = some e := by exact rfl) (hf : f = (match e with | .c d => .c d | .agg ds => .agg ds) := by exact rfl) :
    Does P o (rdOf x) [] l [(d, f)] := r_extract ho hd hx he hf
theorem pT {x : Operand} {y : Operand} {z : Operand} {f : F} (ho : o.op = .pick x y z := by exact rfl) (hd : o.dst = some d := by exact rfl) (hx : opd l x = some (.c (.lit (.bool true))) := by exact rfl) (hy : opd l y = some f := by exact rfl) (hp : Plain f := by trivial) : Does P o (rdOf x ++ rdOf y) [] l [(d, f)] := r_pickT ho hd hx hy hp
theorem cl {f : FuncId} {args : Array Operand} {ts : Array TypeId} {fs : List F} {vs : List (Nat × F)} {vs' : List (Nat × F)} {r : F} (hC : Con P f fs vs r vs') (ho : o.op = .call { callee := .value (.func f), args := args, argTypes := ts } := by exact rfl) (hd : o.dst = some d := by exact rfl) (ha : argsF l args.toList = some fs := by exact rfl) (hvs : sub vs l := by first | exact trivial | exact ⟨rfl, trivial⟩ | exact ⟨rfl, rfl, trivial⟩) (hck : (callOK P f && keysOK vs vs' r && oneOwn fs && ghostsOK vs' && Nat.ble fs.length 1000) = true := by kernel_rfl) :
    Does P o (args.toList.flatMap rdOf ++ vs.map (·.1)) (frCall vs vs') l (postCall l d r args.toList vs vs') := r_call hC ho hd ha hvs hck
end

end Go.Proofs.YtlagglkpbnbmeaaGreatDoor
