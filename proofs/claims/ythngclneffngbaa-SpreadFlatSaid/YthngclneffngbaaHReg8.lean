import Derived.Test.YthngclneffngbaaHRegT
namespace Go.Proofs.Ythngclneffngbaa.Pr
open Go.RowKit Go.Shelf Go.Proofs.YthngclneffngbaaW.PrintWords Go.Proofs.YthngclneffngbaaW.PrintLast Go.Proofs.YthngclneffngbaaW.PrintMore
attribute [local go_sem] Oper.semAt_some
set_option linter.unusedVariables false
set_option linter.unusedSimpArgs false
def wreg8.ops : Array Oper := #[{ dst := some 51, op := Go.Op.move (Go.Operand.tmp 4), type := 3, pos := "spread.go:160", after := #[], guard := none },
  { dst := some 52, op := Go.Op.load 98 (Go.Operand.tmp 1), type := 98, pos := "spread.go:160", after := #[], guard := none },
  { dst := some 53, op := Go.Op.nilCheck (Go.Operand.tmp 52), type := 0, pos := "spread.go:160", after := #[{ on := 1, ground := Go.Ground.data }], guard := none },
  { dst := some 54, op := Go.Op.fieldAddr 109 (Go.Operand.tmp 53) 0, type := 0, pos := "spread.go:160", after := #[{ on := 2, ground := Go.Ground.data }], guard := none },
  { dst := some 55, op := Go.Op.load 3 (Go.Operand.tmp 54), type := 3, pos := "spread.go:160", after := #[{ on := 3, ground := Go.Ground.data }], guard := none },
  { dst := some 56, op := Go.Op.binOp Go.BinOp.lss 3 (Go.Operand.tmp 51) (Go.Operand.tmp 55) 3, type := 4, pos := "spread.go:160", after := #[{ on := 0, ground := Go.Ground.data }, { on := 4, ground := Go.Ground.data }], guard := none },
  { dst := some 57, op := Go.Op.move (Go.Operand.tmp 56), type := 4, pos := "spread.go:160", after := #[{ on := 5, ground := Go.Ground.data }], guard := none },
  { dst := some 58, op := Go.Op.move (Go.Operand.tmp 5), type := 3, pos := "spread.go:160", after := #[{ on := 6, ground := Go.Ground.guard }], guard := some (6, true) },
  { dst := some 59, op := Go.Op.load 98 (Go.Operand.tmp 1), type := 98, pos := "spread.go:160", after := #[{ on := 6, ground := Go.Ground.guard }], guard := some (6, true) },
  { dst := some 60, op := Go.Op.nilCheck (Go.Operand.tmp 59), type := 0, pos := "spread.go:160", after := #[{ on := 8, ground := Go.Ground.data }, { on := 6, ground := Go.Ground.guard }], guard := some (6, true) },
  { dst := some 61, op := Go.Op.fieldAddr 109 (Go.Operand.tmp 60) 0, type := 0, pos := "spread.go:160", after := #[{ on := 9, ground := Go.Ground.data }, { on := 6, ground := Go.Ground.guard }], guard := some (6, true) },
  { dst := some 62, op := Go.Op.load 3 (Go.Operand.tmp 61), type := 3, pos := "spread.go:160", after := #[{ on := 10, ground := Go.Ground.data }, { on := 6, ground := Go.Ground.guard }], guard := some (6, true) },
  { dst := some 63, op := Go.Op.binOp Go.BinOp.lss 3 (Go.Operand.tmp 58) (Go.Operand.tmp 62) 3, type := 4, pos := "spread.go:160", after := #[{ on := 7, ground := Go.Ground.data }, { on := 11, ground := Go.Ground.data }, { on := 6, ground := Go.Ground.guard }], guard := some (6, true) },
  { dst := some 64, op := Go.Op.pick (Go.Operand.tmp 57) (Go.Operand.tmp 63) (Go.Operand.const (Go.Value.bool false)), type := 4, pos := "spread.go:160", after := #[{ on := 6, ground := Go.Ground.data }, { on := 12, ground := Go.Ground.data }], guard := none },
  { dst := some 65, op := Go.Op.move (Go.Operand.tmp 64), type := 4, pos := "spread.go:160", after := #[{ on := 13, ground := Go.Ground.data }, { on := 6, ground := Go.Ground.chain }], guard := none },
  { dst := some 66, op := Go.Op.move (Go.Operand.tmp 0), type := 117, pos := "spread.go:160", after := #[{ on := 14, ground := Go.Ground.guard }], guard := some (14, true) },
  { dst := some 67, op := Go.Op.load 50 (Go.Operand.tmp 6), type := 50, pos := "spread.go:160", after := #[{ on := 14, ground := Go.Ground.guard }], guard := some (14, true) },
  { dst := some 68, op := Go.Op.load 49 (Go.Operand.tmp 2), type := 49, pos := "spread.go:160", after := #[{ on := 14, ground := Go.Ground.guard }], guard := some (14, true) },
  { dst := some 69, op := Go.Op.load 98 (Go.Operand.tmp 1), type := 98, pos := "spread.go:160", after := #[{ on := 14, ground := Go.Ground.guard }], guard := some (14, true) },
  { dst := some 70, op := Go.Op.move (Go.Operand.tmp 4), type := 3, pos := "spread.go:160", after := #[{ on := 14, ground := Go.Ground.guard }], guard := some (14, true) },
  { dst := some 71, op := Go.Op.binOp Go.BinOp.add 3 (Go.Operand.tmp 70) (Go.Operand.const (Go.Value.int Go.IntKind.i64 1)) 3, type := 3, pos := "spread.go:160", after := #[{ on := 19, ground := Go.Ground.data }, { on := 14, ground := Go.Ground.guard }], guard := some (14, true) },
  { dst := some 72, op := Go.Op.move (Go.Operand.tmp 5), type := 3, pos := "spread.go:160", after := #[{ on := 14, ground := Go.Ground.guard }], guard := some (14, true) },
  { dst := some 73, op := Go.Op.binOp Go.BinOp.add 3 (Go.Operand.tmp 72) (Go.Operand.const (Go.Value.int Go.IntKind.i64 1)) 3, type := 3, pos := "spread.go:160", after := #[{ on := 21, ground := Go.Ground.data }, { on := 14, ground := Go.Ground.guard }], guard := some (14, true) },
  { dst := some 74, op := Go.Op.nilCheck (Go.Operand.tmp 69), type := 0, pos := "spread.go:160", after := #[{ on := 18, ground := Go.Ground.data }, { on := 14, ground := Go.Ground.guard }], guard := some (14, true) },
  { dst := some 75, op := Go.Op.fieldAddr 109 (Go.Operand.tmp 74) 2, type := 0, pos := "spread.go:160", after := #[{ on := 23, ground := Go.Ground.data }, { on := 14, ground := Go.Ground.guard }], guard := some (14, true) },
  { dst := some 76, op := Go.Op.indexAddr 107 (Go.Operand.tmp 75) (Go.Operand.tmp 71), type := 0, pos := "spread.go:160", after := #[{ on := 24, ground := Go.Ground.data }, { on := 20, ground := Go.Ground.data }, { on := 14, ground := Go.Ground.guard }], guard := some (14, true) },
  { dst := some 77, op := Go.Op.indexAddr 106 (Go.Operand.tmp 76) (Go.Operand.tmp 73), type := 0, pos := "spread.go:160", after := #[{ on := 25, ground := Go.Ground.data }, { on := 22, ground := Go.Ground.data }, { on := 14, ground := Go.Ground.guard }], guard := some (14, true) },
  { dst := some 78, op := Go.Op.load 3 (Go.Operand.tmp 77), type := 3, pos := "spread.go:160", after := #[{ on := 26, ground := Go.Ground.data }, { on := 14, ground := Go.Ground.guard }], guard := some (14, true) },
  { dst := some 79, op := Go.Op.move (Go.Operand.tmp 4), type := 3, pos := "spread.go:160", after := #[{ on := 14, ground := Go.Ground.guard }], guard := some (14, true) },
  { dst := some 80, op := Go.Op.move (Go.Operand.tmp 5), type := 3, pos := "spread.go:160", after := #[{ on := 14, ground := Go.Ground.guard }], guard := some (14, true) },
  { dst := some 81, op := Go.Op.call { callee := Go.Callee.value (Go.Operand.tmp 68), args := #[Go.Operand.tmp 78, Go.Operand.tmp 79, Go.Operand.tmp 80], argTypes := #[3, 3, 3] }, type := 3, pos := "spread.go:160", after := #[{ on := 17, ground := Go.Ground.data }, { on := 27, ground := Go.Ground.data }, { on := 28, ground := Go.Ground.data }, { on := 29, ground := Go.Ground.data }, { on := 14, ground := Go.Ground.chain }, { on := 14, ground := Go.Ground.guard }], guard := some (14, true) },
  { dst := some 82, op := Go.Op.build 102 #[(0, Go.Operand.tmp 67), (1, Go.Operand.tmp 81), (2, Go.Operand.const (Go.Value.bool false))], type := 102, pos := "spread.go:160", after := #[{ on := 16, ground := Go.Ground.data }, { on := 30, ground := Go.Ground.data }, { on := 14, ground := Go.Ground.guard }], guard := some (14, true) },
  { dst := some 83, op := Go.Op.call { callee := Go.Callee.value (Go.Operand.tmp 66), args := #[Go.Operand.tmp 82], argTypes := #[102] }, type := 4, pos := "spread.go:160", after := #[{ on := 15, ground := Go.Ground.data }, { on := 31, ground := Go.Ground.data }, { on := 30, ground := Go.Ground.chain }, { on := 14, ground := Go.Ground.guard }], guard := some (14, true) },
  { dst := some 84, op := Go.Op.unOp Go.UnOp.not 4 (Go.Operand.tmp 83), type := 4, pos := "spread.go:160", after := #[{ on := 32, ground := Go.Ground.data }, { on := 14, ground := Go.Ground.guard }], guard := some (14, true) },
  { dst := some 85, op := Go.Op.pick (Go.Operand.tmp 65) (Go.Operand.tmp 84) (Go.Operand.const (Go.Value.bool false)), type := 4, pos := "spread.go:160", after := #[{ on := 14, ground := Go.Ground.data }, { on := 33, ground := Go.Ground.data }], guard := none }]
set_option maxRecDepth 100000 in
set_option maxHeartbeats 4000000 in
theorem wreg8.run (m l' bs bo b q : Nat) (x y v o s : Int) (t3 t7 t8 t9 t10 t11 t12 t13 t14 t15 t16 t17 t18 t19 t20 t21 t22 t23 t24 t25 t26 t27 t28 t29 t30 t31 t32 t33 t34 t35 t36 t37 t38 t39 t40 t41 t42 t43 t44 t45 t46 t47 t48 t49 t50 t51 t52 t53 t54 t55 t56 t57 t58 t59 t60 t61 t62 t63 t64 t65 t66 t67 t68 t69 t70 t71 t72 t73 t74 t75 t76 t77 t78 t79 t80 t81 t82 t83 t84 t85 t86 t87 : Value) (W1 : World) (Q : Exit → Act → World → Prop) (R2 : Bool → World → Prop)
    (hQp : ∀ c a d v w, Q (.panic c) (Act.put a (some d) v) w → Q (.panic c) a w) (hg1 : x < s) (hg2 : y < s) (hx : x + 1 < 102) (hy : y + 1 < 102) (p1 : 0 ≤ x + 1) (p2 : 0 ≤ y + 1) (z1 : IntKind.i64.wrap (x + 1) = x + 1) (z2 : IntKind.i64.wrap (y + 1) = y + 1) (hx0 : 0 ≤ x) (hy0 : 0 ≤ y) (d0 : W1.cell? ⟨bs, 0, none⟩ = some (.pointer (some ⟨b, 0, none⟩))) (d1 : W1.cell? ⟨bo, 0, none⟩ = some (.func (.func 75) #[] #[.pointer (some ⟨bs, 0, none⟩)]))
    (ds : W1.cell? ⟨b, 0, none⟩ = some (.int .i64 s)) (d2 : W1.cell? ⟨b, 2 + (x + 1).toNat * 102 + (y + 1).toNat, none⟩ = some (.int .i64 v)) (d3 : W1.cell? ⟨q, 0, none⟩ = some (.int .i64 x)) (d4 : W1.cell? ⟨q, 1, none⟩ = some (.int .i64 y))
    (hoff : CallsIn Fence.wide (m - 1) Try.prog 75 #[.int .i64 v, .int .i64 x, .int .i64 y, .pointer (some ⟨bs, 0, none⟩)] W1.drew fun e w' => e = .returned (.int .i64 o) ∧ ∃ k, w' = W1.drewN (1 + k))
    (HY : ∀ W', Below W1.heap.size W1 W' → YieldAt Fence.wide (m - 1) Try.prog l' #[.agg #[.int .i64 x, .int .i64 y, .int .i64 o, .bool false]] W' fun e W' => ∃ ok : Bool, e = .returned (.bool ok) ∧ R2 ok W')
    (hfin : ∀ (ok : Bool) W', R2 ok W' → Q .normal { tmps := #[.func (.yield l') #[] #[], .pointer (some ⟨bs, 0, none⟩), .pointer (some ⟨bo, 0, none⟩), t3, .int .i64 x, .int .i64 y, .pointer (some ⟨q, 0, none⟩), t7, t8, t9, t10, t11, t12, t13, t14, t15, t16, t17, t18, t19, t20, t21, t22, t23, t24, t25, t26, t27, t28, t29, t30, t31, t32, t33, t34, t35, t36, t37, t38, t39, t40, t41, t42, t43, t44, t45, t46, t47, t48, t49, t50, .int .i64 x, .pointer (some ⟨b, 0, none⟩), .pointer (some ⟨b, 0, none⟩), .pointer (some ⟨b, 0, none⟩), .int .i64 s, .bool true, .bool true, .int .i64 y, .pointer (some ⟨b, 0, none⟩), .pointer (some ⟨b, 0, none⟩), .pointer (some ⟨b, 0, none⟩), .int .i64 s, .bool true, .bool true, .bool true, .func (.yield l') #[] #[], .agg #[.int .i64 x, .int .i64 y], .func (.func 75) #[] #[.pointer (some ⟨bs, 0, none⟩)], .pointer (some ⟨b, 0, none⟩), .int .i64 x, .int .i64 (x + 1), .int .i64 y, .int .i64 (y + 1), .pointer (some ⟨b, 0, none⟩), .pointer (some ⟨b, 2, none⟩), .pointer (some ⟨b, 2 + (x + 1).toNat * 102, none⟩), .pointer (some ⟨b, 2 + (x + 1).toNat * 102 + (y + 1).toNat, none⟩), .int .i64 v, .int .i64 x, .int .i64 y, .int .i64 o, .agg #[.int .i64 x, .int .i64 y, .int .i64 o, .bool false], .bool ok, .bool (!ok), .bool (!ok), t86, t87], defers := [] } W') :
    (Code.region 8 wreg8.ops true).wpIn Fence.wide m Try.prog Q { tmps := #[.func (.yield l') #[] #[], .pointer (some ⟨bs, 0, none⟩), .pointer (some ⟨bo, 0, none⟩), t3, .int .i64 x, .int .i64 y, .pointer (some ⟨q, 0, none⟩), t7, t8, t9, t10, t11, t12, t13, t14, t15, t16, t17, t18, t19, t20, t21, t22, t23, t24, t25, t26, t27, t28, t29, t30, t31, t32, t33, t34, t35, t36, t37, t38, t39, t40, t41, t42, t43, t44, t45, t46, t47, t48, t49, t50, t51, t52, t53, t54, t55, t56, t57, t58, t59, t60, t61, t62, t63, t64, t65, t66, t67, t68, t69, t70, t71, t72, t73, t74, t75, t76, t77, t78, t79, t80, t81, t82, t83, t84, t85, t86, t87], defers := [] } W1 := by
  have hmix : Try.prog.follows .mixedOrders = true := by kernel_rfl
  have HC : ∀ md : Nat, wpAnyIn Fence.wide m Try.prog .any wreg8.ops Q 4 (tfA 35 2147483647) { tmps := #[.func (.yield l') #[] #[], .pointer (some ⟨bs, 0, none⟩), .pointer (some ⟨bo, 0, none⟩), t3, .int .i64 x, .int .i64 y, .pointer (some ⟨q, 0, none⟩), t7, t8, t9, t10, t11, t12, t13, t14, t15, t16, t17, t18, t19, t20, t21, t22, t23, t24, t25, t26, t27, t28, t29, t30, t31, t32, t33, t34, t35, t36, t37, t38, t39, t40, t41, t42, t43, t44, t45, t46, t47, t48, t49, t50, .int .i64 x, .pointer (some ⟨b, 0, none⟩), .pointer (some ⟨b, 0, none⟩), .pointer (some ⟨b, 0, none⟩), .int .i64 s, .bool true, .bool true, .int .i64 y, .pointer (some ⟨b, 0, none⟩), .pointer (some ⟨b, 0, none⟩), .pointer (some ⟨b, 0, none⟩), .int .i64 s, .bool true, .bool true, .bool true, .func (.yield l') #[] #[], .agg #[.int .i64 x, .int .i64 y], .func (.func 75) #[] #[.pointer (some ⟨bs, 0, none⟩)], .pointer (some ⟨b, 0, none⟩), .int .i64 x, .int .i64 (x + 1), .int .i64 y, .int .i64 (y + 1), .pointer (some ⟨b, 0, none⟩), .pointer (some ⟨b, 2, none⟩), .pointer (some ⟨b, 2 + (x + 1).toNat * 102, none⟩), .pointer (some ⟨b, 2 + (x + 1).toNat * 102 + (y + 1).toNat, none⟩), .int .i64 v, .int .i64 x, .int .i64 y, .int .i64 o, t82, t83, t84, t85, t86, t87], defers := [] } (W1.drewN (1 + md)) := by
    intro md
    obtain ⟨fn, tm, asg, bdy, hy1, hR⟩ := HY (W1.drewN (1 + md)) (pw_below_drewN (Below.refl _ _) (1 + md))
    refine tkIn 31 82 { dst := some 82, op := Go.Op.build 102 #[(0, Go.Operand.tmp 67), (1, Go.Operand.tmp 81), (2, Go.Operand.const (Go.Value.bool false))], type := 102, pos := "spread.go:160", after := #[{ on := 16, ground := Go.Ground.data }, { on := 30, ground := Go.Ground.data }, { on := 14, ground := Go.Ground.guard }], guard := some (14, true) } (v := ?_) (a' := ?_) (tfA 35 4294967295) hQp ?_ ?_ ?_
    rotate_left 2
    · intro w'; go_simp; with_reducible rfl
    · simp only [Act.put, List.setIfInBounds_toArray, List.set_cons_zero, List.set_cons_succ]; rfl
    refine wpAnyIn_ready (rs := [32]) (by kernel_rfl) (by simp) ?_
    refine AllReadyIn.cons (o := { dst := some 83, op := Go.Op.call { callee := Go.Callee.value (Go.Operand.tmp 66), args := #[Go.Operand.tmp 82], argTypes := #[102] }, type := 4, pos := "spread.go:160", after := #[{ on := 15, ground := Go.Ground.data }, { on := 31, ground := Go.Ground.data }, { on := 30, ground := Go.Ground.chain }, { on := 14, ground := Go.Ground.guard }], guard := some (14, true) }) rfl (fun K hK => ?_) ?_
    · go_simp
      refine ⟨(fun h => by cases h), hR.mono ?_⟩
      rintro e W' ⟨ok, rfl, hR2⟩
      refine hK _ _ ?_; clear hK K
      refine rdIn (l' := (tfA 35 8589934591)) (by kernel_rfl) ?_
      refine tkIn 33 84 { dst := some 84, op := Go.Op.unOp Go.UnOp.not 4 (Go.Operand.tmp 83), type := 4, pos := "spread.go:160", after := #[{ on := 32, ground := Go.Ground.data }, { on := 14, ground := Go.Ground.guard }], guard := some (14, true) } (v := ?_) (a' := ?_) (tfA 35 17179869183) hQp ?_ ?_ ?_
      rotate_left 2
      · intro w'; go_simp; with_reducible rfl
      · simp only [Act.put, List.setIfInBounds_toArray, List.set_cons_zero, List.set_cons_succ]; rfl
      refine tkIn 34 85 { dst := some 85, op := Go.Op.pick (Go.Operand.tmp 65) (Go.Operand.tmp 84) (Go.Operand.const (Go.Value.bool false)), type := 4, pos := "spread.go:160", after := #[{ on := 14, ground := Go.Ground.data }, { on := 33, ground := Go.Ground.data }], guard := none } (v := ?_) (a' := ?_) (tfA 35 34359738367) hQp ?_ ?_ ?_
      rotate_left 2
      · intro w'; go_simp; with_reducible rfl
      · simp only [Act.put, List.setIfInBounds_toArray, List.set_cons_zero, List.set_cons_succ]; rfl
      refine wpAnyIn_done (by kernel_rfl) ?_ _
      exact hfin ok _ hR2
    exact AllReadyIn.nil
  have HA : wpAnyIn Fence.wide m Try.prog .any wreg8.ops Q 5 (tfA 35 1073741823) { tmps := #[.func (.yield l') #[] #[], .pointer (some ⟨bs, 0, none⟩), .pointer (some ⟨bo, 0, none⟩), t3, .int .i64 x, .int .i64 y, .pointer (some ⟨q, 0, none⟩), t7, t8, t9, t10, t11, t12, t13, t14, t15, t16, t17, t18, t19, t20, t21, t22, t23, t24, t25, t26, t27, t28, t29, t30, t31, t32, t33, t34, t35, t36, t37, t38, t39, t40, t41, t42, t43, t44, t45, t46, t47, t48, t49, t50, .int .i64 x, .pointer (some ⟨b, 0, none⟩), .pointer (some ⟨b, 0, none⟩), .pointer (some ⟨b, 0, none⟩), .int .i64 s, .bool true, .bool true, .int .i64 y, .pointer (some ⟨b, 0, none⟩), .pointer (some ⟨b, 0, none⟩), .pointer (some ⟨b, 0, none⟩), .int .i64 s, .bool true, .bool true, .bool true, .func (.yield l') #[] #[], .agg #[.int .i64 x, .int .i64 y], .func (.func 75) #[] #[.pointer (some ⟨bs, 0, none⟩)], .pointer (some ⟨b, 0, none⟩), .int .i64 x, .int .i64 (x + 1), .int .i64 y, .int .i64 (y + 1), .pointer (some ⟨b, 0, none⟩), .pointer (some ⟨b, 2, none⟩), .pointer (some ⟨b, 2 + (x + 1).toNat * 102, none⟩), .pointer (some ⟨b, 2 + (x + 1).toNat * 102 + (y + 1).toNat, none⟩), .int .i64 v, .int .i64 x, .int .i64 y, t81, t82, t83, t84, t85, t86, t87], defers := [] } (W1.drew) := by
    refine wpAnyIn_ready (rs := [30]) (by kernel_rfl) (by simp) ?_
    refine AllReadyIn.cons (o := { dst := some 81, op := Go.Op.call { callee := Go.Callee.value (Go.Operand.tmp 68), args := #[Go.Operand.tmp 78, Go.Operand.tmp 79, Go.Operand.tmp 80], argTypes := #[3, 3, 3] }, type := 3, pos := "spread.go:160", after := #[{ on := 17, ground := Go.Ground.data }, { on := 27, ground := Go.Ground.data }, { on := 28, ground := Go.Ground.data }, { on := 29, ground := Go.Ground.data }, { on := 14, ground := Go.Ground.chain }, { on := 14, ground := Go.Ground.guard }], guard := some (14, true) }) rfl (fun K hK => ?_) ?_
    · go_simp
      refine ⟨trivial, (fun h => by cases h), ?_⟩
      refine hoff.mono ?_
      rintro e w' ⟨rfl, md, rfl⟩
      refine hK _ _ ?_; clear hK K
      refine rdIn (l' := (tfA 35 2147483647)) (by kernel_rfl) ?_
      exact (HC md)
    exact AllReadyIn.nil
  have HB : wpAnyIn Fence.wide m Try.prog .any wreg8.ops Q 6 (tfA 35 1073676287) { tmps := #[.func (.yield l') #[] #[], .pointer (some ⟨bs, 0, none⟩), .pointer (some ⟨bo, 0, none⟩), t3, .int .i64 x, .int .i64 y, .pointer (some ⟨q, 0, none⟩), t7, t8, t9, t10, t11, t12, t13, t14, t15, t16, t17, t18, t19, t20, t21, t22, t23, t24, t25, t26, t27, t28, t29, t30, t31, t32, t33, t34, t35, t36, t37, t38, t39, t40, t41, t42, t43, t44, t45, t46, t47, t48, t49, t50, .int .i64 x, .pointer (some ⟨b, 0, none⟩), .pointer (some ⟨b, 0, none⟩), .pointer (some ⟨b, 0, none⟩), .int .i64 s, .bool true, .bool true, .int .i64 y, .pointer (some ⟨b, 0, none⟩), .pointer (some ⟨b, 0, none⟩), .pointer (some ⟨b, 0, none⟩), .int .i64 s, .bool true, .bool true, .bool true, .func (.yield l') #[] #[], t67, .func (.func 75) #[] #[.pointer (some ⟨bs, 0, none⟩)], .pointer (some ⟨b, 0, none⟩), .int .i64 x, .int .i64 (x + 1), .int .i64 y, .int .i64 (y + 1), .pointer (some ⟨b, 0, none⟩), .pointer (some ⟨b, 2, none⟩), .pointer (some ⟨b, 2 + (x + 1).toNat * 102, none⟩), .pointer (some ⟨b, 2 + (x + 1).toNat * 102 + (y + 1).toNat, none⟩), .int .i64 v, .int .i64 x, .int .i64 y, t81, t82, t83, t84, t85, t86, t87], defers := [] } (W1.drew) := by
    refine wpAnyIn_ready (rs := [16, 30]) (by kernel_rfl) (by simp) ?_
    refine AllReadyIn.cons (o := { dst := some 67, op := Go.Op.load 50 (Go.Operand.tmp 6), type := 50, pos := "spread.go:160", after := #[{ on := 14, ground := Go.Ground.guard }], guard := some (14, true) }) rfl (fun K hK => ?_) ?_
    · go_simp
      refine hK _ _ ?_; clear hK K
      refine rdIn (l' := (tfA 35 1073741823)) (by kernel_rfl) ?_
      exact HA
    refine AllReadyIn.cons (o := { dst := some 81, op := Go.Op.call { callee := Go.Callee.value (Go.Operand.tmp 68), args := #[Go.Operand.tmp 78, Go.Operand.tmp 79, Go.Operand.tmp 80], argTypes := #[3, 3, 3] }, type := 3, pos := "spread.go:160", after := #[{ on := 17, ground := Go.Ground.data }, { on := 27, ground := Go.Ground.data }, { on := 28, ground := Go.Ground.data }, { on := 29, ground := Go.Ground.data }, { on := 14, ground := Go.Ground.chain }, { on := 14, ground := Go.Ground.guard }], guard := some (14, true) }) rfl (fun K hK => ?_) ?_
    · go_simp
      refine ⟨trivial, (fun h => by cases h), ?_⟩
      refine hoff.mono ?_
      rintro e w' ⟨rfl, md, rfl⟩
      refine hK _ _ ?_; clear hK K
      refine rdIn (l' := (tfA 35 2147418111)) (by kernel_rfl) ?_
      refine wpAnyIn_ready (rs := [16]) (by kernel_rfl) (by simp) ?_
      refine AllReadyIn.cons (o := { dst := some 67, op := Go.Op.load 50 (Go.Operand.tmp 6), type := 50, pos := "spread.go:160", after := #[{ on := 14, ground := Go.Ground.guard }], guard := some (14, true) }) rfl (fun K hK => ?_) ?_
      · go_simp
        refine hK _ _ ?_; clear hK K
        refine rdIn (l' := (tfA 35 2147483647)) (by kernel_rfl) ?_
        exact (HC md)
      exact AllReadyIn.nil
    exact AllReadyIn.nil
  refine wpIn_region_any hmix ?_
  change wpAnyIn _ _ _ _ _ _ _ _ _ (World.drew _)
  refine tkIn 0 51 { dst := some 51, op := Go.Op.move (Go.Operand.tmp 4), type := 3, pos := "spread.go:160", after := #[], guard := none } (v := ?_) (a' := ?_) (tfA 35 1) hQp ?_ ?_ ?_
  rotate_left 2
  · intro w'; go_simp; with_reducible rfl
  · simp only [Act.put, List.setIfInBounds_toArray, List.set_cons_zero, List.set_cons_succ]; rfl
  refine wpAnyIn_ready (rs := [1]) (by kernel_rfl) (by simp) ?_
  refine AllReadyIn.cons (o := { dst := some 52, op := Go.Op.load 98 (Go.Operand.tmp 1), type := 98, pos := "spread.go:160", after := #[], guard := none }) rfl (fun K hK => ?_) ?_
  · go_simp
    refine hK _ _ ?_; clear hK K
    refine rdIn (l' := (tfA 35 3)) (by kernel_rfl) ?_
    refine tkIn 2 53 { dst := some 53, op := Go.Op.nilCheck (Go.Operand.tmp 52), type := 0, pos := "spread.go:160", after := #[{ on := 1, ground := Go.Ground.data }], guard := none } (v := ?_) (a' := ?_) (tfA 35 7) hQp ?_ ?_ ?_
    rotate_left 2
    · intro w'; go_simp; with_reducible rfl
    · simp only [Act.put, List.setIfInBounds_toArray, List.set_cons_zero, List.set_cons_succ]; rfl
    refine tkIn 3 54 { dst := some 54, op := Go.Op.fieldAddr 109 (Go.Operand.tmp 53) 0, type := 0, pos := "spread.go:160", after := #[{ on := 2, ground := Go.Ground.data }], guard := none } (v := ?_) (a' := ?_) (tfA 35 15) hQp ?_ ?_ ?_
    rotate_left 2
    · intro w'; go_simp; with_reducible rfl
    · simp only [Act.put, List.setIfInBounds_toArray, List.set_cons_zero, List.set_cons_succ]; rfl
    refine wpAnyIn_ready (rs := [4]) (by kernel_rfl) (by simp) ?_
    refine AllReadyIn.cons (o := { dst := some 55, op := Go.Op.load 3 (Go.Operand.tmp 54), type := 3, pos := "spread.go:160", after := #[{ on := 3, ground := Go.Ground.data }], guard := none }) rfl (fun K hK => ?_) ?_
    · go_simp
      refine hK _ _ ?_; clear hK K
      refine rdIn (l' := (tfA 35 31)) (by kernel_rfl) ?_
      refine tkIn 5 56 { dst := some 56, op := Go.Op.binOp Go.BinOp.lss 3 (Go.Operand.tmp 51) (Go.Operand.tmp 55) 3, type := 4, pos := "spread.go:160", after := #[{ on := 0, ground := Go.Ground.data }, { on := 4, ground := Go.Ground.data }], guard := none } (v := ?_) (a' := ?_) (tfA 35 63) hQp ?_ ?_ ?_
      rotate_left 2
      · intro w'; go_simp; with_reducible rfl
      · simp only [Act.put, List.setIfInBounds_toArray, List.set_cons_zero, List.set_cons_succ]; rfl
      refine tkIn 6 57 { dst := some 57, op := Go.Op.move (Go.Operand.tmp 56), type := 4, pos := "spread.go:160", after := #[{ on := 5, ground := Go.Ground.data }], guard := none } (v := ?_) (a' := ?_) (tfA 35 127) hQp ?_ ?_ ?_
      rotate_left 2
      · intro w'; go_simp; with_reducible rfl
      · simp only [Act.put, List.setIfInBounds_toArray, List.set_cons_zero, List.set_cons_succ]; rfl
      refine tkIn 7 58 { dst := some 58, op := Go.Op.move (Go.Operand.tmp 5), type := 3, pos := "spread.go:160", after := #[{ on := 6, ground := Go.Ground.guard }], guard := some (6, true) } (v := ?_) (a' := ?_) (tfA 35 255) hQp ?_ ?_ ?_
      rotate_left 2
      · intro w'; go_simp; with_reducible rfl
      · simp only [Act.put, List.setIfInBounds_toArray, List.set_cons_zero, List.set_cons_succ]; rfl
      refine wpAnyIn_ready (rs := [8]) (by kernel_rfl) (by simp) ?_
      refine AllReadyIn.cons (o := { dst := some 59, op := Go.Op.load 98 (Go.Operand.tmp 1), type := 98, pos := "spread.go:160", after := #[{ on := 6, ground := Go.Ground.guard }], guard := some (6, true) }) rfl (fun K hK => ?_) ?_
      · go_simp
        refine hK _ _ ?_; clear hK K
        refine rdIn (l' := (tfA 35 511)) (by kernel_rfl) ?_
        refine tkIn 9 60 { dst := some 60, op := Go.Op.nilCheck (Go.Operand.tmp 59), type := 0, pos := "spread.go:160", after := #[{ on := 8, ground := Go.Ground.data }, { on := 6, ground := Go.Ground.guard }], guard := some (6, true) } (v := ?_) (a' := ?_) (tfA 35 1023) hQp ?_ ?_ ?_
        rotate_left 2
        · intro w'; go_simp; with_reducible rfl
        · simp only [Act.put, List.setIfInBounds_toArray, List.set_cons_zero, List.set_cons_succ]; rfl
        refine tkIn 10 61 { dst := some 61, op := Go.Op.fieldAddr 109 (Go.Operand.tmp 60) 0, type := 0, pos := "spread.go:160", after := #[{ on := 9, ground := Go.Ground.data }, { on := 6, ground := Go.Ground.guard }], guard := some (6, true) } (v := ?_) (a' := ?_) (tfA 35 2047) hQp ?_ ?_ ?_
        rotate_left 2
        · intro w'; go_simp; with_reducible rfl
        · simp only [Act.put, List.setIfInBounds_toArray, List.set_cons_zero, List.set_cons_succ]; rfl
        refine wpAnyIn_ready (rs := [11]) (by kernel_rfl) (by simp) ?_
        refine AllReadyIn.cons (o := { dst := some 62, op := Go.Op.load 3 (Go.Operand.tmp 61), type := 3, pos := "spread.go:160", after := #[{ on := 10, ground := Go.Ground.data }, { on := 6, ground := Go.Ground.guard }], guard := some (6, true) }) rfl (fun K hK => ?_) ?_
        · go_simp
          refine hK _ _ ?_; clear hK K
          refine rdIn (l' := (tfA 35 4095)) (by kernel_rfl) ?_
          refine tkIn 12 63 { dst := some 63, op := Go.Op.binOp Go.BinOp.lss 3 (Go.Operand.tmp 58) (Go.Operand.tmp 62) 3, type := 4, pos := "spread.go:160", after := #[{ on := 7, ground := Go.Ground.data }, { on := 11, ground := Go.Ground.data }, { on := 6, ground := Go.Ground.guard }], guard := some (6, true) } (v := ?_) (a' := ?_) (tfA 35 8191) hQp ?_ ?_ ?_
          rotate_left 2
          · intro w'; go_simp; with_reducible rfl
          · simp only [Act.put, List.setIfInBounds_toArray, List.set_cons_zero, List.set_cons_succ]; rfl
          refine tkIn 13 64 { dst := some 64, op := Go.Op.pick (Go.Operand.tmp 57) (Go.Operand.tmp 63) (Go.Operand.const (Go.Value.bool false)), type := 4, pos := "spread.go:160", after := #[{ on := 6, ground := Go.Ground.data }, { on := 12, ground := Go.Ground.data }], guard := none } (v := ?_) (a' := ?_) (tfA 35 16383) hQp ?_ ?_ ?_
          rotate_left 2
          · intro w'; go_simp; with_reducible rfl
          · simp only [Act.put, List.setIfInBounds_toArray, List.set_cons_zero, List.set_cons_succ]; rfl
          refine tkIn 14 65 { dst := some 65, op := Go.Op.move (Go.Operand.tmp 64), type := 4, pos := "spread.go:160", after := #[{ on := 13, ground := Go.Ground.data }, { on := 6, ground := Go.Ground.chain }], guard := none } (v := ?_) (a' := ?_) (tfA 35 32767) hQp ?_ ?_ ?_
          rotate_left 2
          · intro w'; go_simp; with_reducible rfl
          · simp only [Act.put, List.setIfInBounds_toArray, List.set_cons_zero, List.set_cons_succ]; rfl
          refine tkIn 15 66 { dst := some 66, op := Go.Op.move (Go.Operand.tmp 0), type := 117, pos := "spread.go:160", after := #[{ on := 14, ground := Go.Ground.guard }], guard := some (14, true) } (v := ?_) (a' := ?_) (tfA 35 65535) hQp ?_ ?_ ?_
          rotate_left 2
          · intro w'; go_simp; with_reducible rfl
          · simp only [Act.put, List.setIfInBounds_toArray, List.set_cons_zero, List.set_cons_succ]; rfl
          refine tkIn 19 70 { dst := some 70, op := Go.Op.move (Go.Operand.tmp 4), type := 3, pos := "spread.go:160", after := #[{ on := 14, ground := Go.Ground.guard }], guard := some (14, true) } (v := ?_) (a' := ?_) (tfA 35 589823) hQp ?_ ?_ ?_
          rotate_left 2
          · intro w'; go_simp; with_reducible rfl
          · simp only [Act.put, List.setIfInBounds_toArray, List.set_cons_zero, List.set_cons_succ]; rfl
          refine tkIn 20 71 { dst := some 71, op := Go.Op.binOp Go.BinOp.add 3 (Go.Operand.tmp 70) (Go.Operand.const (Go.Value.int Go.IntKind.i64 1)) 3, type := 3, pos := "spread.go:160", after := #[{ on := 19, ground := Go.Ground.data }, { on := 14, ground := Go.Ground.guard }], guard := some (14, true) } (v := ?_) (a' := ?_) (tfA 35 1638399) hQp ?_ ?_ ?_
          rotate_left 2
          · intro w'; go_simp; with_reducible rfl
          · simp only [Act.put, List.setIfInBounds_toArray, List.set_cons_zero, List.set_cons_succ]; rfl
          refine tkIn 21 72 { dst := some 72, op := Go.Op.move (Go.Operand.tmp 5), type := 3, pos := "spread.go:160", after := #[{ on := 14, ground := Go.Ground.guard }], guard := some (14, true) } (v := ?_) (a' := ?_) (tfA 35 3735551) hQp ?_ ?_ ?_
          rotate_left 2
          · intro w'; go_simp; with_reducible rfl
          · simp only [Act.put, List.setIfInBounds_toArray, List.set_cons_zero, List.set_cons_succ]; rfl
          refine tkIn 22 73 { dst := some 73, op := Go.Op.binOp Go.BinOp.add 3 (Go.Operand.tmp 72) (Go.Operand.const (Go.Value.int Go.IntKind.i64 1)) 3, type := 3, pos := "spread.go:160", after := #[{ on := 21, ground := Go.Ground.data }, { on := 14, ground := Go.Ground.guard }], guard := some (14, true) } (v := ?_) (a' := ?_) (tfA 35 7929855) hQp ?_ ?_ ?_
          rotate_left 2
          · intro w'; go_simp; with_reducible rfl
          · simp only [Act.put, List.setIfInBounds_toArray, List.set_cons_zero, List.set_cons_succ]; rfl
          refine tkIn 28 79 { dst := some 79, op := Go.Op.move (Go.Operand.tmp 4), type := 3, pos := "spread.go:160", after := #[{ on := 14, ground := Go.Ground.guard }], guard := some (14, true) } (v := ?_) (a' := ?_) (tfA 35 276365311) hQp ?_ ?_ ?_
          rotate_left 2
          · intro w'; go_simp; with_reducible rfl
          · simp only [Act.put, List.setIfInBounds_toArray, List.set_cons_zero, List.set_cons_succ]; rfl
          refine tkIn 29 80 { dst := some 80, op := Go.Op.move (Go.Operand.tmp 5), type := 3, pos := "spread.go:160", after := #[{ on := 14, ground := Go.Ground.guard }], guard := some (14, true) } (v := ?_) (a' := ?_) (tfA 35 813236223) hQp ?_ ?_ ?_
          rotate_left 2
          · intro w'; go_simp; with_reducible rfl
          · simp only [Act.put, List.setIfInBounds_toArray, List.set_cons_zero, List.set_cons_succ]; rfl
          refine wpAnyIn_ready (rs := [16, 17, 18]) (by kernel_rfl) (by simp) ?_
          refine AllReadyIn.cons (o := { dst := some 67, op := Go.Op.load 50 (Go.Operand.tmp 6), type := 50, pos := "spread.go:160", after := #[{ on := 14, ground := Go.Ground.guard }], guard := some (14, true) }) rfl (fun K hK => ?_) ?_
          · go_simp
            refine hK _ _ ?_; clear hK K
            refine rdIn (l' := (tfA 35 813301759)) (by kernel_rfl) ?_
            refine wpAnyIn_ready (rs := [17, 18]) (by kernel_rfl) (by simp) ?_
            refine AllReadyIn.cons (o := { dst := some 68, op := Go.Op.load 49 (Go.Operand.tmp 2), type := 49, pos := "spread.go:160", after := #[{ on := 14, ground := Go.Ground.guard }], guard := some (14, true) }) rfl (fun K hK => ?_) ?_
            · go_simp
              refine hK _ _ ?_; clear hK K
              refine rdIn (l' := (tfA 35 813432831)) (by kernel_rfl) ?_
              refine wpAnyIn_ready (rs := [18]) (by kernel_rfl) (by simp) ?_
              refine AllReadyIn.cons (o := { dst := some 69, op := Go.Op.load 98 (Go.Operand.tmp 1), type := 98, pos := "spread.go:160", after := #[{ on := 14, ground := Go.Ground.guard }], guard := some (14, true) }) rfl (fun K hK => ?_) ?_
              · go_simp
                refine hK _ _ ?_; clear hK K
                refine rdIn (l' := (tfA 35 813694975)) (by kernel_rfl) ?_
                refine tkIn 23 74 { dst := some 74, op := Go.Op.nilCheck (Go.Operand.tmp 69), type := 0, pos := "spread.go:160", after := #[{ on := 18, ground := Go.Ground.data }, { on := 14, ground := Go.Ground.guard }], guard := some (14, true) } (v := ?_) (a' := ?_) (tfA 35 822083583) hQp ?_ ?_ ?_
                rotate_left 2
                · intro w'; go_simp; with_reducible rfl
                · simp only [Act.put, List.setIfInBounds_toArray, List.set_cons_zero, List.set_cons_succ]; rfl
                refine tkIn 24 75 { dst := some 75, op := Go.Op.fieldAddr 109 (Go.Operand.tmp 74) 2, type := 0, pos := "spread.go:160", after := #[{ on := 23, ground := Go.Ground.data }, { on := 14, ground := Go.Ground.guard }], guard := some (14, true) } (v := ?_) (a' := ?_) (tfA 35 838860799) hQp ?_ ?_ ?_
                rotate_left 2
                · intro w'; go_simp; with_reducible rfl
                · simp only [Act.put, List.setIfInBounds_toArray, List.set_cons_zero, List.set_cons_succ]; rfl
                refine tkIn 25 76 { dst := some 76, op := Go.Op.indexAddr 107 (Go.Operand.tmp 75) (Go.Operand.tmp 71), type := 0, pos := "spread.go:160", after := #[{ on := 24, ground := Go.Ground.data }, { on := 20, ground := Go.Ground.data }, { on := 14, ground := Go.Ground.guard }], guard := some (14, true) } (v := ?_) (a' := ?_) (tfA 35 872415231) hQp ?_ ?_ ?_
                rotate_left 2
                · intro w'; go_simp; with_reducible rfl
                · simp only [Act.put, List.setIfInBounds_toArray, List.set_cons_zero, List.set_cons_succ]; rfl
                refine tkIn 26 77 { dst := some 77, op := Go.Op.indexAddr 106 (Go.Operand.tmp 76) (Go.Operand.tmp 73), type := 0, pos := "spread.go:160", after := #[{ on := 25, ground := Go.Ground.data }, { on := 22, ground := Go.Ground.data }, { on := 14, ground := Go.Ground.guard }], guard := some (14, true) } (v := ?_) (a' := ?_) (tfA 35 939524095) hQp ?_ ?_ ?_
                rotate_left 2
                · intro w'; go_simp; with_reducible rfl
                · simp only [Act.put, List.setIfInBounds_toArray, List.set_cons_zero, List.set_cons_succ]; rfl
                refine wpAnyIn_ready (rs := [27]) (by kernel_rfl) (by simp) ?_
                refine AllReadyIn.cons (o := { dst := some 78, op := Go.Op.load 3 (Go.Operand.tmp 77), type := 3, pos := "spread.go:160", after := #[{ on := 26, ground := Go.Ground.data }, { on := 14, ground := Go.Ground.guard }], guard := some (14, true) }) rfl (fun K hK => ?_) ?_
                · go_simp
                  refine hK _ _ ?_; clear hK K
                  refine rdIn (l' := (tfA 35 1073741823)) (by kernel_rfl) ?_
                  exact HA
                exact AllReadyIn.nil
              exact AllReadyIn.nil
            refine AllReadyIn.cons (o := { dst := some 69, op := Go.Op.load 98 (Go.Operand.tmp 1), type := 98, pos := "spread.go:160", after := #[{ on := 14, ground := Go.Ground.guard }], guard := some (14, true) }) rfl (fun K hK => ?_) ?_
            · go_simp
              refine hK _ _ ?_; clear hK K
              refine rdIn (l' := (tfA 35 813563903)) (by kernel_rfl) ?_
              refine tkIn 23 74 { dst := some 74, op := Go.Op.nilCheck (Go.Operand.tmp 69), type := 0, pos := "spread.go:160", after := #[{ on := 18, ground := Go.Ground.data }, { on := 14, ground := Go.Ground.guard }], guard := some (14, true) } (v := ?_) (a' := ?_) (tfA 35 821952511) hQp ?_ ?_ ?_
              rotate_left 2
              · intro w'; go_simp; with_reducible rfl
              · simp only [Act.put, List.setIfInBounds_toArray, List.set_cons_zero, List.set_cons_succ]; rfl
              refine tkIn 24 75 { dst := some 75, op := Go.Op.fieldAddr 109 (Go.Operand.tmp 74) 2, type := 0, pos := "spread.go:160", after := #[{ on := 23, ground := Go.Ground.data }, { on := 14, ground := Go.Ground.guard }], guard := some (14, true) } (v := ?_) (a' := ?_) (tfA 35 838729727) hQp ?_ ?_ ?_
              rotate_left 2
              · intro w'; go_simp; with_reducible rfl
              · simp only [Act.put, List.setIfInBounds_toArray, List.set_cons_zero, List.set_cons_succ]; rfl
              refine tkIn 25 76 { dst := some 76, op := Go.Op.indexAddr 107 (Go.Operand.tmp 75) (Go.Operand.tmp 71), type := 0, pos := "spread.go:160", after := #[{ on := 24, ground := Go.Ground.data }, { on := 20, ground := Go.Ground.data }, { on := 14, ground := Go.Ground.guard }], guard := some (14, true) } (v := ?_) (a' := ?_) (tfA 35 872284159) hQp ?_ ?_ ?_
              rotate_left 2
              · intro w'; go_simp; with_reducible rfl
              · simp only [Act.put, List.setIfInBounds_toArray, List.set_cons_zero, List.set_cons_succ]; rfl
              refine tkIn 26 77 { dst := some 77, op := Go.Op.indexAddr 106 (Go.Operand.tmp 76) (Go.Operand.tmp 73), type := 0, pos := "spread.go:160", after := #[{ on := 25, ground := Go.Ground.data }, { on := 22, ground := Go.Ground.data }, { on := 14, ground := Go.Ground.guard }], guard := some (14, true) } (v := ?_) (a' := ?_) (tfA 35 939393023) hQp ?_ ?_ ?_
              rotate_left 2
              · intro w'; go_simp; with_reducible rfl
              · simp only [Act.put, List.setIfInBounds_toArray, List.set_cons_zero, List.set_cons_succ]; rfl
              refine wpAnyIn_ready (rs := [17, 27]) (by kernel_rfl) (by simp) ?_
              refine AllReadyIn.cons (o := { dst := some 68, op := Go.Op.load 49 (Go.Operand.tmp 2), type := 49, pos := "spread.go:160", after := #[{ on := 14, ground := Go.Ground.guard }], guard := some (14, true) }) rfl (fun K hK => ?_) ?_
              · go_simp
                refine hK _ _ ?_; clear hK K
                refine rdIn (l' := (tfA 35 939524095)) (by kernel_rfl) ?_
                refine wpAnyIn_ready (rs := [27]) (by kernel_rfl) (by simp) ?_
                refine AllReadyIn.cons (o := { dst := some 78, op := Go.Op.load 3 (Go.Operand.tmp 77), type := 3, pos := "spread.go:160", after := #[{ on := 26, ground := Go.Ground.data }, { on := 14, ground := Go.Ground.guard }], guard := some (14, true) }) rfl (fun K hK => ?_) ?_
                · go_simp
                  refine hK _ _ ?_; clear hK K
                  refine rdIn (l' := (tfA 35 1073741823)) (by kernel_rfl) ?_
                  exact HA
                exact AllReadyIn.nil
              refine AllReadyIn.cons (o := { dst := some 78, op := Go.Op.load 3 (Go.Operand.tmp 77), type := 3, pos := "spread.go:160", after := #[{ on := 26, ground := Go.Ground.data }, { on := 14, ground := Go.Ground.guard }], guard := some (14, true) }) rfl (fun K hK => ?_) ?_
              · go_simp
                refine hK _ _ ?_; clear hK K
                refine rdIn (l' := (tfA 35 1073610751)) (by kernel_rfl) ?_
                refine wpAnyIn_ready (rs := [17]) (by kernel_rfl) (by simp) ?_
                refine AllReadyIn.cons (o := { dst := some 68, op := Go.Op.load 49 (Go.Operand.tmp 2), type := 49, pos := "spread.go:160", after := #[{ on := 14, ground := Go.Ground.guard }], guard := some (14, true) }) rfl (fun K hK => ?_) ?_
                · go_simp
                  refine hK _ _ ?_; clear hK K
                  refine rdIn (l' := (tfA 35 1073741823)) (by kernel_rfl) ?_
                  exact HA
                exact AllReadyIn.nil
              exact AllReadyIn.nil
            exact AllReadyIn.nil
          refine AllReadyIn.cons (o := { dst := some 68, op := Go.Op.load 49 (Go.Operand.tmp 2), type := 49, pos := "spread.go:160", after := #[{ on := 14, ground := Go.Ground.guard }], guard := some (14, true) }) rfl (fun K hK => ?_) ?_
          · go_simp
            refine hK _ _ ?_; clear hK K
            refine rdIn (l' := (tfA 35 813367295)) (by kernel_rfl) ?_
            refine wpAnyIn_ready (rs := [16, 18]) (by kernel_rfl) (by simp) ?_
            refine AllReadyIn.cons (o := { dst := some 67, op := Go.Op.load 50 (Go.Operand.tmp 6), type := 50, pos := "spread.go:160", after := #[{ on := 14, ground := Go.Ground.guard }], guard := some (14, true) }) rfl (fun K hK => ?_) ?_
            · go_simp
              refine hK _ _ ?_; clear hK K
              refine rdIn (l' := (tfA 35 813432831)) (by kernel_rfl) ?_
              refine wpAnyIn_ready (rs := [18]) (by kernel_rfl) (by simp) ?_
              refine AllReadyIn.cons (o := { dst := some 69, op := Go.Op.load 98 (Go.Operand.tmp 1), type := 98, pos := "spread.go:160", after := #[{ on := 14, ground := Go.Ground.guard }], guard := some (14, true) }) rfl (fun K hK => ?_) ?_
              · go_simp
                refine hK _ _ ?_; clear hK K
                refine rdIn (l' := (tfA 35 813694975)) (by kernel_rfl) ?_
                refine tkIn 23 74 { dst := some 74, op := Go.Op.nilCheck (Go.Operand.tmp 69), type := 0, pos := "spread.go:160", after := #[{ on := 18, ground := Go.Ground.data }, { on := 14, ground := Go.Ground.guard }], guard := some (14, true) } (v := ?_) (a' := ?_) (tfA 35 822083583) hQp ?_ ?_ ?_
                rotate_left 2
                · intro w'; go_simp; with_reducible rfl
                · simp only [Act.put, List.setIfInBounds_toArray, List.set_cons_zero, List.set_cons_succ]; rfl
                refine tkIn 24 75 { dst := some 75, op := Go.Op.fieldAddr 109 (Go.Operand.tmp 74) 2, type := 0, pos := "spread.go:160", after := #[{ on := 23, ground := Go.Ground.data }, { on := 14, ground := Go.Ground.guard }], guard := some (14, true) } (v := ?_) (a' := ?_) (tfA 35 838860799) hQp ?_ ?_ ?_
                rotate_left 2
                · intro w'; go_simp; with_reducible rfl
                · simp only [Act.put, List.setIfInBounds_toArray, List.set_cons_zero, List.set_cons_succ]; rfl
                refine tkIn 25 76 { dst := some 76, op := Go.Op.indexAddr 107 (Go.Operand.tmp 75) (Go.Operand.tmp 71), type := 0, pos := "spread.go:160", after := #[{ on := 24, ground := Go.Ground.data }, { on := 20, ground := Go.Ground.data }, { on := 14, ground := Go.Ground.guard }], guard := some (14, true) } (v := ?_) (a' := ?_) (tfA 35 872415231) hQp ?_ ?_ ?_
                rotate_left 2
                · intro w'; go_simp; with_reducible rfl
                · simp only [Act.put, List.setIfInBounds_toArray, List.set_cons_zero, List.set_cons_succ]; rfl
                refine tkIn 26 77 { dst := some 77, op := Go.Op.indexAddr 106 (Go.Operand.tmp 76) (Go.Operand.tmp 73), type := 0, pos := "spread.go:160", after := #[{ on := 25, ground := Go.Ground.data }, { on := 22, ground := Go.Ground.data }, { on := 14, ground := Go.Ground.guard }], guard := some (14, true) } (v := ?_) (a' := ?_) (tfA 35 939524095) hQp ?_ ?_ ?_
                rotate_left 2
                · intro w'; go_simp; with_reducible rfl
                · simp only [Act.put, List.setIfInBounds_toArray, List.set_cons_zero, List.set_cons_succ]; rfl
                refine wpAnyIn_ready (rs := [27]) (by kernel_rfl) (by simp) ?_
                refine AllReadyIn.cons (o := { dst := some 78, op := Go.Op.load 3 (Go.Operand.tmp 77), type := 3, pos := "spread.go:160", after := #[{ on := 26, ground := Go.Ground.data }, { on := 14, ground := Go.Ground.guard }], guard := some (14, true) }) rfl (fun K hK => ?_) ?_
                · go_simp
                  refine hK _ _ ?_; clear hK K
                  refine rdIn (l' := (tfA 35 1073741823)) (by kernel_rfl) ?_
                  exact HA
                exact AllReadyIn.nil
              exact AllReadyIn.nil
            refine AllReadyIn.cons (o := { dst := some 69, op := Go.Op.load 98 (Go.Operand.tmp 1), type := 98, pos := "spread.go:160", after := #[{ on := 14, ground := Go.Ground.guard }], guard := some (14, true) }) rfl (fun K hK => ?_) ?_
            · go_simp
              refine hK _ _ ?_; clear hK K
              refine rdIn (l' := (tfA 35 813629439)) (by kernel_rfl) ?_
              refine tkIn 23 74 { dst := some 74, op := Go.Op.nilCheck (Go.Operand.tmp 69), type := 0, pos := "spread.go:160", after := #[{ on := 18, ground := Go.Ground.data }, { on := 14, ground := Go.Ground.guard }], guard := some (14, true) } (v := ?_) (a' := ?_) (tfA 35 822018047) hQp ?_ ?_ ?_
              rotate_left 2
              · intro w'; go_simp; with_reducible rfl
              · simp only [Act.put, List.setIfInBounds_toArray, List.set_cons_zero, List.set_cons_succ]; rfl
              refine tkIn 24 75 { dst := some 75, op := Go.Op.fieldAddr 109 (Go.Operand.tmp 74) 2, type := 0, pos := "spread.go:160", after := #[{ on := 23, ground := Go.Ground.data }, { on := 14, ground := Go.Ground.guard }], guard := some (14, true) } (v := ?_) (a' := ?_) (tfA 35 838795263) hQp ?_ ?_ ?_
              rotate_left 2
              · intro w'; go_simp; with_reducible rfl
              · simp only [Act.put, List.setIfInBounds_toArray, List.set_cons_zero, List.set_cons_succ]; rfl
              refine tkIn 25 76 { dst := some 76, op := Go.Op.indexAddr 107 (Go.Operand.tmp 75) (Go.Operand.tmp 71), type := 0, pos := "spread.go:160", after := #[{ on := 24, ground := Go.Ground.data }, { on := 20, ground := Go.Ground.data }, { on := 14, ground := Go.Ground.guard }], guard := some (14, true) } (v := ?_) (a' := ?_) (tfA 35 872349695) hQp ?_ ?_ ?_
              rotate_left 2
              · intro w'; go_simp; with_reducible rfl
              · simp only [Act.put, List.setIfInBounds_toArray, List.set_cons_zero, List.set_cons_succ]; rfl
              refine tkIn 26 77 { dst := some 77, op := Go.Op.indexAddr 106 (Go.Operand.tmp 76) (Go.Operand.tmp 73), type := 0, pos := "spread.go:160", after := #[{ on := 25, ground := Go.Ground.data }, { on := 22, ground := Go.Ground.data }, { on := 14, ground := Go.Ground.guard }], guard := some (14, true) } (v := ?_) (a' := ?_) (tfA 35 939458559) hQp ?_ ?_ ?_
              rotate_left 2
              · intro w'; go_simp; with_reducible rfl
              · simp only [Act.put, List.setIfInBounds_toArray, List.set_cons_zero, List.set_cons_succ]; rfl
              refine wpAnyIn_ready (rs := [16, 27]) (by kernel_rfl) (by simp) ?_
              refine AllReadyIn.cons (o := { dst := some 67, op := Go.Op.load 50 (Go.Operand.tmp 6), type := 50, pos := "spread.go:160", after := #[{ on := 14, ground := Go.Ground.guard }], guard := some (14, true) }) rfl (fun K hK => ?_) ?_
              · go_simp
                refine hK _ _ ?_; clear hK K
                refine rdIn (l' := (tfA 35 939524095)) (by kernel_rfl) ?_
                refine wpAnyIn_ready (rs := [27]) (by kernel_rfl) (by simp) ?_
                refine AllReadyIn.cons (o := { dst := some 78, op := Go.Op.load 3 (Go.Operand.tmp 77), type := 3, pos := "spread.go:160", after := #[{ on := 26, ground := Go.Ground.data }, { on := 14, ground := Go.Ground.guard }], guard := some (14, true) }) rfl (fun K hK => ?_) ?_
                · go_simp
                  refine hK _ _ ?_; clear hK K
                  refine rdIn (l' := (tfA 35 1073741823)) (by kernel_rfl) ?_
                  exact HA
                exact AllReadyIn.nil
              refine AllReadyIn.cons (o := { dst := some 78, op := Go.Op.load 3 (Go.Operand.tmp 77), type := 3, pos := "spread.go:160", after := #[{ on := 26, ground := Go.Ground.data }, { on := 14, ground := Go.Ground.guard }], guard := some (14, true) }) rfl (fun K hK => ?_) ?_
              · go_simp
                refine hK _ _ ?_; clear hK K
                refine rdIn (l' := (tfA 35 1073676287)) (by kernel_rfl) ?_
                exact HB
              exact AllReadyIn.nil
            exact AllReadyIn.nil
          refine AllReadyIn.cons (o := { dst := some 69, op := Go.Op.load 98 (Go.Operand.tmp 1), type := 98, pos := "spread.go:160", after := #[{ on := 14, ground := Go.Ground.guard }], guard := some (14, true) }) rfl (fun K hK => ?_) ?_
          · go_simp
            refine hK _ _ ?_; clear hK K
            refine rdIn (l' := (tfA 35 813498367)) (by kernel_rfl) ?_
            refine tkIn 23 74 { dst := some 74, op := Go.Op.nilCheck (Go.Operand.tmp 69), type := 0, pos := "spread.go:160", after := #[{ on := 18, ground := Go.Ground.data }, { on := 14, ground := Go.Ground.guard }], guard := some (14, true) } (v := ?_) (a' := ?_) (tfA 35 821886975) hQp ?_ ?_ ?_
            rotate_left 2
            · intro w'; go_simp; with_reducible rfl
            · simp only [Act.put, List.setIfInBounds_toArray, List.set_cons_zero, List.set_cons_succ]; rfl
            refine tkIn 24 75 { dst := some 75, op := Go.Op.fieldAddr 109 (Go.Operand.tmp 74) 2, type := 0, pos := "spread.go:160", after := #[{ on := 23, ground := Go.Ground.data }, { on := 14, ground := Go.Ground.guard }], guard := some (14, true) } (v := ?_) (a' := ?_) (tfA 35 838664191) hQp ?_ ?_ ?_
            rotate_left 2
            · intro w'; go_simp; with_reducible rfl
            · simp only [Act.put, List.setIfInBounds_toArray, List.set_cons_zero, List.set_cons_succ]; rfl
            refine tkIn 25 76 { dst := some 76, op := Go.Op.indexAddr 107 (Go.Operand.tmp 75) (Go.Operand.tmp 71), type := 0, pos := "spread.go:160", after := #[{ on := 24, ground := Go.Ground.data }, { on := 20, ground := Go.Ground.data }, { on := 14, ground := Go.Ground.guard }], guard := some (14, true) } (v := ?_) (a' := ?_) (tfA 35 872218623) hQp ?_ ?_ ?_
            rotate_left 2
            · intro w'; go_simp; with_reducible rfl
            · simp only [Act.put, List.setIfInBounds_toArray, List.set_cons_zero, List.set_cons_succ]; rfl
            refine tkIn 26 77 { dst := some 77, op := Go.Op.indexAddr 106 (Go.Operand.tmp 76) (Go.Operand.tmp 73), type := 0, pos := "spread.go:160", after := #[{ on := 25, ground := Go.Ground.data }, { on := 22, ground := Go.Ground.data }, { on := 14, ground := Go.Ground.guard }], guard := some (14, true) } (v := ?_) (a' := ?_) (tfA 35 939327487) hQp ?_ ?_ ?_
            rotate_left 2
            · intro w'; go_simp; with_reducible rfl
            · simp only [Act.put, List.setIfInBounds_toArray, List.set_cons_zero, List.set_cons_succ]; rfl
            refine wpAnyIn_ready (rs := [16, 17, 27]) (by kernel_rfl) (by simp) ?_
            refine AllReadyIn.cons (o := { dst := some 67, op := Go.Op.load 50 (Go.Operand.tmp 6), type := 50, pos := "spread.go:160", after := #[{ on := 14, ground := Go.Ground.guard }], guard := some (14, true) }) rfl (fun K hK => ?_) ?_
            · go_simp
              refine hK _ _ ?_; clear hK K
              refine rdIn (l' := (tfA 35 939393023)) (by kernel_rfl) ?_
              refine wpAnyIn_ready (rs := [17, 27]) (by kernel_rfl) (by simp) ?_
              refine AllReadyIn.cons (o := { dst := some 68, op := Go.Op.load 49 (Go.Operand.tmp 2), type := 49, pos := "spread.go:160", after := #[{ on := 14, ground := Go.Ground.guard }], guard := some (14, true) }) rfl (fun K hK => ?_) ?_
              · go_simp
                refine hK _ _ ?_; clear hK K
                refine rdIn (l' := (tfA 35 939524095)) (by kernel_rfl) ?_
                refine wpAnyIn_ready (rs := [27]) (by kernel_rfl) (by simp) ?_
                refine AllReadyIn.cons (o := { dst := some 78, op := Go.Op.load 3 (Go.Operand.tmp 77), type := 3, pos := "spread.go:160", after := #[{ on := 26, ground := Go.Ground.data }, { on := 14, ground := Go.Ground.guard }], guard := some (14, true) }) rfl (fun K hK => ?_) ?_
                · go_simp
                  refine hK _ _ ?_; clear hK K
                  refine rdIn (l' := (tfA 35 1073741823)) (by kernel_rfl) ?_
                  exact HA
                exact AllReadyIn.nil
              refine AllReadyIn.cons (o := { dst := some 78, op := Go.Op.load 3 (Go.Operand.tmp 77), type := 3, pos := "spread.go:160", after := #[{ on := 26, ground := Go.Ground.data }, { on := 14, ground := Go.Ground.guard }], guard := some (14, true) }) rfl (fun K hK => ?_) ?_
              · go_simp
                refine hK _ _ ?_; clear hK K
                refine rdIn (l' := (tfA 35 1073610751)) (by kernel_rfl) ?_
                refine wpAnyIn_ready (rs := [17]) (by kernel_rfl) (by simp) ?_
                refine AllReadyIn.cons (o := { dst := some 68, op := Go.Op.load 49 (Go.Operand.tmp 2), type := 49, pos := "spread.go:160", after := #[{ on := 14, ground := Go.Ground.guard }], guard := some (14, true) }) rfl (fun K hK => ?_) ?_
                · go_simp
                  refine hK _ _ ?_; clear hK K
                  refine rdIn (l' := (tfA 35 1073741823)) (by kernel_rfl) ?_
                  exact HA
                exact AllReadyIn.nil
              exact AllReadyIn.nil
            refine AllReadyIn.cons (o := { dst := some 68, op := Go.Op.load 49 (Go.Operand.tmp 2), type := 49, pos := "spread.go:160", after := #[{ on := 14, ground := Go.Ground.guard }], guard := some (14, true) }) rfl (fun K hK => ?_) ?_
            · go_simp
              refine hK _ _ ?_; clear hK K
              refine rdIn (l' := (tfA 35 939458559)) (by kernel_rfl) ?_
              refine wpAnyIn_ready (rs := [16, 27]) (by kernel_rfl) (by simp) ?_
              refine AllReadyIn.cons (o := { dst := some 67, op := Go.Op.load 50 (Go.Operand.tmp 6), type := 50, pos := "spread.go:160", after := #[{ on := 14, ground := Go.Ground.guard }], guard := some (14, true) }) rfl (fun K hK => ?_) ?_
              · go_simp
                refine hK _ _ ?_; clear hK K
                refine rdIn (l' := (tfA 35 939524095)) (by kernel_rfl) ?_
                refine wpAnyIn_ready (rs := [27]) (by kernel_rfl) (by simp) ?_
                refine AllReadyIn.cons (o := { dst := some 78, op := Go.Op.load 3 (Go.Operand.tmp 77), type := 3, pos := "spread.go:160", after := #[{ on := 26, ground := Go.Ground.data }, { on := 14, ground := Go.Ground.guard }], guard := some (14, true) }) rfl (fun K hK => ?_) ?_
                · go_simp
                  refine hK _ _ ?_; clear hK K
                  refine rdIn (l' := (tfA 35 1073741823)) (by kernel_rfl) ?_
                  exact HA
                exact AllReadyIn.nil
              refine AllReadyIn.cons (o := { dst := some 78, op := Go.Op.load 3 (Go.Operand.tmp 77), type := 3, pos := "spread.go:160", after := #[{ on := 26, ground := Go.Ground.data }, { on := 14, ground := Go.Ground.guard }], guard := some (14, true) }) rfl (fun K hK => ?_) ?_
              · go_simp
                refine hK _ _ ?_; clear hK K
                refine rdIn (l' := (tfA 35 1073676287)) (by kernel_rfl) ?_
                exact HB
              exact AllReadyIn.nil
            refine AllReadyIn.cons (o := { dst := some 78, op := Go.Op.load 3 (Go.Operand.tmp 77), type := 3, pos := "spread.go:160", after := #[{ on := 26, ground := Go.Ground.data }, { on := 14, ground := Go.Ground.guard }], guard := some (14, true) }) rfl (fun K hK => ?_) ?_
            · go_simp
              refine hK _ _ ?_; clear hK K
              refine rdIn (l' := (tfA 35 1073545215)) (by kernel_rfl) ?_
              refine wpAnyIn_ready (rs := [16, 17]) (by kernel_rfl) (by simp) ?_
              refine AllReadyIn.cons (o := { dst := some 67, op := Go.Op.load 50 (Go.Operand.tmp 6), type := 50, pos := "spread.go:160", after := #[{ on := 14, ground := Go.Ground.guard }], guard := some (14, true) }) rfl (fun K hK => ?_) ?_
              · go_simp
                refine hK _ _ ?_; clear hK K
                refine rdIn (l' := (tfA 35 1073610751)) (by kernel_rfl) ?_
                refine wpAnyIn_ready (rs := [17]) (by kernel_rfl) (by simp) ?_
                refine AllReadyIn.cons (o := { dst := some 68, op := Go.Op.load 49 (Go.Operand.tmp 2), type := 49, pos := "spread.go:160", after := #[{ on := 14, ground := Go.Ground.guard }], guard := some (14, true) }) rfl (fun K hK => ?_) ?_
                · go_simp
                  refine hK _ _ ?_; clear hK K
                  refine rdIn (l' := (tfA 35 1073741823)) (by kernel_rfl) ?_
                  exact HA
                exact AllReadyIn.nil
              refine AllReadyIn.cons (o := { dst := some 68, op := Go.Op.load 49 (Go.Operand.tmp 2), type := 49, pos := "spread.go:160", after := #[{ on := 14, ground := Go.Ground.guard }], guard := some (14, true) }) rfl (fun K hK => ?_) ?_
              · go_simp
                refine hK _ _ ?_; clear hK K
                refine rdIn (l' := (tfA 35 1073676287)) (by kernel_rfl) ?_
                exact HB
              exact AllReadyIn.nil
            exact AllReadyIn.nil
          exact AllReadyIn.nil
        exact AllReadyIn.nil
      exact AllReadyIn.nil
    exact AllReadyIn.nil
  exact AllReadyIn.nil
end Go.Proofs.Ythngclneffngbaa.Pr
