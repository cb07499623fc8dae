import Derived.Test.YthngclneffngbaaHReg7
import Derived.Test.YthngclneffngbaaHReg8
namespace Go.Proofs.Ythngclneffngbaa.Pr
open Go.RowKit Go.Shelf Go.Proofs.YthngclneffngbaaW.PrintWords Go.Proofs.YthngclneffngbaaW.PrintLast Go.Proofs.YthngclneffngbaaW.PrintMore
attribute [local go_sem] Oper.semAt_some
set_option linter.unusedVariables false
set_option linter.unusedSimpArgs false
set_option maxRecDepth 100000 in
set_option maxHeartbeats 4000000 in
theorem wskip7a.run (m l' bs bo b q : Nat) (x y s : Int) (t3 t7 t8 t9 t10 t11 t12 t13 t14 t15 t16 t17 t18 t19 t20 t21 t22 t23 t24 t25 t26 t27 t28 t29 t30 t31 t32 t33 t34 t35 t36 t37 t38 t39 t40 t41 t42 t43 t44 t45 t46 t47 t48 t49 t50 t51 t52 t53 t54 t55 t56 t57 t58 t59 t60 t61 t62 t63 t64 t65 t66 t67 t68 t69 t70 t71 t72 t73 t74 t75 t76 t77 t78 t79 t80 t81 t82 t83 t84 t85 t86 t87 : Value) (W1 : World) (Q : Exit → Act → World → Prop)
    (hQp : ∀ c a d v w, Q (.panic c) (Act.put a (some d) v) w → Q (.panic c) a w) (hg1 : ¬ 0 < x)
    (d0 : W1.cell? ⟨bs, 0, none⟩ = some (.pointer (some ⟨b, 0, none⟩))) (ds : W1.cell? ⟨b, 0, none⟩ = some (.int .i64 s))
    (hfin : Q .normal { tmps := #[.func (.yield l') #[] #[], .pointer (some ⟨bs, 0, none⟩), .pointer (some ⟨bo, 0, none⟩), t3, .int .i64 x, .int .i64 y, .pointer (some ⟨q, 0, none⟩), t7, t8, t9, t10, t11, t12, t13, t14, t15, t16, t17, t18, t19, t20, t21, t22, t23, t24, t25, .int .i64 x, .bool false, .bool false, undef, undef, .bool false, .bool false, undef, undef, undef, undef, undef, undef, undef, undef, undef, undef, undef, undef, undef, undef, undef, undef, undef, .bool false, t51, t52, t53, t54, t55, t56, t57, t58, t59, t60, t61, t62, t63, t64, t65, t66, t67, t68, t69, t70, t71, t72, t73, t74, t75, t76, t77, t78, t79, t80, t81, t82, t83, t84, t85, t86, t87], defers := [] } W1.drew) :
    (Code.region 7 wreg7.ops true).wpIn Fence.wide m Try.prog Q { tmps := #[.func (.yield l') #[] #[], .pointer (some ⟨bs, 0, none⟩), .pointer (some ⟨bo, 0, none⟩), t3, .int .i64 x, .int .i64 y, .pointer (some ⟨q, 0, none⟩), t7, t8, t9, t10, t11, t12, t13, t14, t15, t16, t17, t18, t19, t20, t21, t22, t23, t24, t25, t26, t27, t28, t29, t30, t31, t32, t33, t34, t35, t36, t37, t38, t39, t40, t41, t42, t43, t44, t45, t46, t47, t48, t49, t50, t51, t52, t53, t54, t55, t56, t57, t58, t59, t60, t61, t62, t63, t64, t65, t66, t67, t68, t69, t70, t71, t72, t73, t74, t75, t76, t77, t78, t79, t80, t81, t82, t83, t84, t85, t86, t87], defers := [] } W1 := by
  have hmix : Try.prog.follows .mixedOrders = true := by kernel_rfl
  refine wpIn_region_any hmix ?_
  change wpAnyIn _ _ _ _ _ _ _ _ _ (World.drew _)
  refine tkIn 0 26 { dst := some 26, op := Go.Op.move (Go.Operand.tmp 4), type := 3, pos := "spread.go:157", after := #[], guard := none } (v := ?_) (a' := ?_) (tfA 25 1) hQp ?_ ?_ ?_
  rotate_left 2
  · intro w'; go_simp; with_reducible rfl
  · simp only [Act.put, List.setIfInBounds_toArray, List.set_cons_zero, List.set_cons_succ]; rfl
  refine tkIn 1 27 { dst := some 27, op := Go.Op.binOp Go.BinOp.gtr 3 (Go.Operand.tmp 26) (Go.Operand.const (Go.Value.int Go.IntKind.i64 0)) 3, type := 4, pos := "spread.go:157", after := #[{ on := 0, ground := Go.Ground.data }], guard := none } (v := ?_) (a' := ?_) (tfA 25 3) hQp ?_ ?_ ?_
  rotate_left 2
  · intro w'; go_simp; with_reducible rfl
  · simp only [Act.put, List.setIfInBounds_toArray, List.set_cons_zero, List.set_cons_succ]; rfl
  refine tkIn 2 28 { dst := some 28, op := Go.Op.move (Go.Operand.tmp 27), type := 4, pos := "spread.go:157", after := #[{ on := 1, ground := Go.Ground.data }], guard := none } (v := ?_) (a' := ?_) (tfA 25 7) hQp ?_ ?_ ?_
  rotate_left 2
  · intro w'; go_simp; with_reducible rfl
  · simp only [Act.put, List.setIfInBounds_toArray, List.set_cons_zero, List.set_cons_succ]; rfl
  refine skIn 3 29 _ (a' := ?_) (tfA 25 15) hQp ?_ ?_
  rotate_left
  · simp only [Act.put, List.setIfInBounds_toArray, List.set_cons_zero, List.set_cons_succ]; rfl
  refine skIn 4 30 _ (a' := ?_) (tfA 25 31) hQp ?_ ?_
  rotate_left
  · simp only [Act.put, List.setIfInBounds_toArray, List.set_cons_zero, List.set_cons_succ]; rfl
  refine tkIn 5 31 { dst := some 31, op := Go.Op.pick (Go.Operand.tmp 28) (Go.Operand.tmp 30) (Go.Operand.const (Go.Value.bool false)), type := 4, pos := "spread.go:157", after := #[{ on := 2, ground := Go.Ground.data }, { on := 4, ground := Go.Ground.data }], guard := none } (v := ?_) (a' := ?_) (tfA 25 63) hQp ?_ ?_ ?_
  rotate_left 2
  · intro w'; go_simp; with_reducible rfl
  · simp only [Act.put, List.setIfInBounds_toArray, List.set_cons_zero, List.set_cons_succ]; rfl
  refine tkIn 6 32 { dst := some 32, op := Go.Op.move (Go.Operand.tmp 31), type := 4, pos := "spread.go:157", after := #[{ on := 5, ground := Go.Ground.data }, { on := 2, ground := Go.Ground.chain }], guard := none } (v := ?_) (a' := ?_) (tfA 25 127) hQp ?_ ?_ ?_
  rotate_left 2
  · intro w'; go_simp; with_reducible rfl
  · simp only [Act.put, List.setIfInBounds_toArray, List.set_cons_zero, List.set_cons_succ]; rfl
  refine skIn 7 33 _ (a' := ?_) (tfA 25 255) hQp ?_ ?_
  rotate_left
  · simp only [Act.put, List.setIfInBounds_toArray, List.set_cons_zero, List.set_cons_succ]; rfl
  refine skIn 8 34 _ (a' := ?_) (tfA 25 511) hQp ?_ ?_
  rotate_left
  · simp only [Act.put, List.setIfInBounds_toArray, List.set_cons_zero, List.set_cons_succ]; rfl
  refine skIn 9 35 _ (a' := ?_) (tfA 25 1023) hQp ?_ ?_
  rotate_left
  · simp only [Act.put, List.setIfInBounds_toArray, List.set_cons_zero, List.set_cons_succ]; rfl
  refine skIn 10 36 _ (a' := ?_) (tfA 25 2047) hQp ?_ ?_
  rotate_left
  · simp only [Act.put, List.setIfInBounds_toArray, List.set_cons_zero, List.set_cons_succ]; rfl
  refine skIn 11 37 _ (a' := ?_) (tfA 25 4095) hQp ?_ ?_
  rotate_left
  · simp only [Act.put, List.setIfInBounds_toArray, List.set_cons_zero, List.set_cons_succ]; rfl
  refine skIn 12 38 _ (a' := ?_) (tfA 25 8191) hQp ?_ ?_
  rotate_left
  · simp only [Act.put, List.setIfInBounds_toArray, List.set_cons_zero, List.set_cons_succ]; rfl
  refine skIn 13 39 _ (a' := ?_) (tfA 25 16383) hQp ?_ ?_
  rotate_left
  · simp only [Act.put, List.setIfInBounds_toArray, List.set_cons_zero, List.set_cons_succ]; rfl
  refine skIn 14 40 _ (a' := ?_) (tfA 25 32767) hQp ?_ ?_
  rotate_left
  · simp only [Act.put, List.setIfInBounds_toArray, List.set_cons_zero, List.set_cons_succ]; rfl
  refine skIn 15 41 _ (a' := ?_) (tfA 25 65535) hQp ?_ ?_
  rotate_left
  · simp only [Act.put, List.setIfInBounds_toArray, List.set_cons_zero, List.set_cons_succ]; rfl
  refine skIn 16 42 _ (a' := ?_) (tfA 25 131071) hQp ?_ ?_
  rotate_left
  · simp only [Act.put, List.setIfInBounds_toArray, List.set_cons_zero, List.set_cons_succ]; rfl
  refine skIn 17 43 _ (a' := ?_) (tfA 25 262143) hQp ?_ ?_
  rotate_left
  · simp only [Act.put, List.setIfInBounds_toArray, List.set_cons_zero, List.set_cons_succ]; rfl
  refine skIn 18 44 _ (a' := ?_) (tfA 25 524287) hQp ?_ ?_
  rotate_left
  · simp only [Act.put, List.setIfInBounds_toArray, List.set_cons_zero, List.set_cons_succ]; rfl
  refine skIn 19 45 _ (a' := ?_) (tfA 25 1048575) hQp ?_ ?_
  rotate_left
  · simp only [Act.put, List.setIfInBounds_toArray, List.set_cons_zero, List.set_cons_succ]; rfl
  refine skIn 20 46 _ (a' := ?_) (tfA 25 2097151) hQp ?_ ?_
  rotate_left
  · simp only [Act.put, List.setIfInBounds_toArray, List.set_cons_zero, List.set_cons_succ]; rfl
  refine skIn 21 47 _ (a' := ?_) (tfA 25 4194303) hQp ?_ ?_
  rotate_left
  · simp only [Act.put, List.setIfInBounds_toArray, List.set_cons_zero, List.set_cons_succ]; rfl
  refine skIn 22 48 _ (a' := ?_) (tfA 25 8388607) hQp ?_ ?_
  rotate_left
  · simp only [Act.put, List.setIfInBounds_toArray, List.set_cons_zero, List.set_cons_succ]; rfl
  refine skIn 23 49 _ (a' := ?_) (tfA 25 16777215) hQp ?_ ?_
  rotate_left
  · simp only [Act.put, List.setIfInBounds_toArray, List.set_cons_zero, List.set_cons_succ]; rfl
  refine tkIn 24 50 { dst := some 50, op := Go.Op.pick (Go.Operand.tmp 32) (Go.Operand.tmp 49) (Go.Operand.const (Go.Value.bool false)), type := 4, pos := "spread.go:157", after := #[{ on := 6, ground := Go.Ground.data }, { on := 23, ground := Go.Ground.data }], guard := none } (v := ?_) (a' := ?_) (tfA 25 33554431) hQp ?_ ?_ ?_
  rotate_left 2
  · intro w'; go_simp; with_reducible rfl
  · simp only [Act.put, List.setIfInBounds_toArray, List.set_cons_zero, List.set_cons_succ]; rfl
  refine wpAnyIn_done (by kernel_rfl) ?_ _
  exact hfin
set_option maxRecDepth 100000 in
set_option maxHeartbeats 4000000 in
theorem wskip7b.run (m l' bs bo b q : Nat) (x y s : Int) (t3 t7 t8 t9 t10 t11 t12 t13 t14 t15 t16 t17 t18 t19 t20 t21 t22 t23 t24 t25 t26 t27 t28 t29 t30 t31 t32 t33 t34 t35 t36 t37 t38 t39 t40 t41 t42 t43 t44 t45 t46 t47 t48 t49 t50 t51 t52 t53 t54 t55 t56 t57 t58 t59 t60 t61 t62 t63 t64 t65 t66 t67 t68 t69 t70 t71 t72 t73 t74 t75 t76 t77 t78 t79 t80 t81 t82 t83 t84 t85 t86 t87 : Value) (W1 : World) (Q : Exit → Act → World → Prop)
    (hQp : ∀ c a d v w, Q (.panic c) (Act.put a (some d) v) w → Q (.panic c) a w) (hg1 : 0 < x) (hg2 : ¬ 0 < y)
    (d0 : W1.cell? ⟨bs, 0, none⟩ = some (.pointer (some ⟨b, 0, none⟩))) (ds : W1.cell? ⟨b, 0, none⟩ = some (.int .i64 s))
    (hfin : Q .normal { tmps := #[.func (.yield l') #[] #[], .pointer (some ⟨bs, 0, none⟩), .pointer (some ⟨bo, 0, none⟩), t3, .int .i64 x, .int .i64 y, .pointer (some ⟨q, 0, none⟩), t7, t8, t9, t10, t11, t12, t13, t14, t15, t16, t17, t18, t19, t20, t21, t22, t23, t24, t25, .int .i64 x, .bool true, .bool true, .int .i64 y, .bool false, .bool false, .bool false, undef, undef, undef, undef, undef, undef, undef, undef, undef, undef, undef, undef, undef, undef, undef, undef, undef, .bool false, t51, t52, t53, t54, t55, t56, t57, t58, t59, t60, t61, t62, t63, t64, t65, t66, t67, t68, t69, t70, t71, t72, t73, t74, t75, t76, t77, t78, t79, t80, t81, t82, t83, t84, t85, t86, t87], defers := [] } W1.drew) :
    (Code.region 7 wreg7.ops true).wpIn Fence.wide m Try.prog Q { tmps := #[.func (.yield l') #[] #[], .pointer (some ⟨bs, 0, none⟩), .pointer (some ⟨bo, 0, none⟩), t3, .int .i64 x, .int .i64 y, .pointer (some ⟨q, 0, none⟩), t7, t8, t9, t10, t11, t12, t13, t14, t15, t16, t17, t18, t19, t20, t21, t22, t23, t24, t25, t26, t27, t28, t29, t30, t31, t32, t33, t34, t35, t36, t37, t38, t39, t40, t41, t42, t43, t44, t45, t46, t47, t48, t49, t50, t51, t52, t53, t54, t55, t56, t57, t58, t59, t60, t61, t62, t63, t64, t65, t66, t67, t68, t69, t70, t71, t72, t73, t74, t75, t76, t77, t78, t79, t80, t81, t82, t83, t84, t85, t86, t87], defers := [] } W1 := by
  have hmix : Try.prog.follows .mixedOrders = true := by kernel_rfl
  refine wpIn_region_any hmix ?_
  change wpAnyIn _ _ _ _ _ _ _ _ _ (World.drew _)
  refine tkIn 0 26 { dst := some 26, op := Go.Op.move (Go.Operand.tmp 4), type := 3, pos := "spread.go:157", after := #[], guard := none } (v := ?_) (a' := ?_) (tfA 25 1) hQp ?_ ?_ ?_
  rotate_left 2
  · intro w'; go_simp; with_reducible rfl
  · simp only [Act.put, List.setIfInBounds_toArray, List.set_cons_zero, List.set_cons_succ]; rfl
  refine tkIn 1 27 { dst := some 27, op := Go.Op.binOp Go.BinOp.gtr 3 (Go.Operand.tmp 26) (Go.Operand.const (Go.Value.int Go.IntKind.i64 0)) 3, type := 4, pos := "spread.go:157", after := #[{ on := 0, ground := Go.Ground.data }], guard := none } (v := ?_) (a' := ?_) (tfA 25 3) hQp ?_ ?_ ?_
  rotate_left 2
  · intro w'; go_simp; with_reducible rfl
  · simp only [Act.put, List.setIfInBounds_toArray, List.set_cons_zero, List.set_cons_succ]; rfl
  refine tkIn 2 28 { dst := some 28, op := Go.Op.move (Go.Operand.tmp 27), type := 4, pos := "spread.go:157", after := #[{ on := 1, ground := Go.Ground.data }], guard := none } (v := ?_) (a' := ?_) (tfA 25 7) hQp ?_ ?_ ?_
  rotate_left 2
  · intro w'; go_simp; with_reducible rfl
  · simp only [Act.put, List.setIfInBounds_toArray, List.set_cons_zero, List.set_cons_succ]; rfl
  refine tkIn 3 29 { dst := some 29, op := Go.Op.move (Go.Operand.tmp 5), type := 3, pos := "spread.go:157", after := #[{ on := 2, ground := Go.Ground.guard }], guard := some (2, true) } (v := ?_) (a' := ?_) (tfA 25 15) hQp ?_ ?_ ?_
  rotate_left 2
  · intro w'; go_simp; with_reducible rfl
  · simp only [Act.put, List.setIfInBounds_toArray, List.set_cons_zero, List.set_cons_succ]; rfl
  refine tkIn 4 30 { dst := some 30, op := Go.Op.binOp Go.BinOp.gtr 3 (Go.Operand.tmp 29) (Go.Operand.const (Go.Value.int Go.IntKind.i64 0)) 3, type := 4, pos := "spread.go:157", after := #[{ on := 3, ground := Go.Ground.data }, { on := 2, ground := Go.Ground.guard }], guard := some (2, true) } (v := ?_) (a' := ?_) (tfA 25 31) hQp ?_ ?_ ?_
  rotate_left 2
  · intro w'; go_simp; with_reducible rfl
  · simp only [Act.put, List.setIfInBounds_toArray, List.set_cons_zero, List.set_cons_succ]; rfl
  refine tkIn 5 31 { dst := some 31, op := Go.Op.pick (Go.Operand.tmp 28) (Go.Operand.tmp 30) (Go.Operand.const (Go.Value.bool false)), type := 4, pos := "spread.go:157", after := #[{ on := 2, ground := Go.Ground.data }, { on := 4, ground := Go.Ground.data }], guard := none } (v := ?_) (a' := ?_) (tfA 25 63) hQp ?_ ?_ ?_
  rotate_left 2
  · intro w'; go_simp; with_reducible rfl
  · simp only [Act.put, List.setIfInBounds_toArray, List.set_cons_zero, List.set_cons_succ]; rfl
  refine tkIn 6 32 { dst := some 32, op := Go.Op.move (Go.Operand.tmp 31), type := 4, pos := "spread.go:157", after := #[{ on := 5, ground := Go.Ground.data }, { on := 2, ground := Go.Ground.chain }], guard := none } (v := ?_) (a' := ?_) (tfA 25 127) hQp ?_ ?_ ?_
  rotate_left 2
  · intro w'; go_simp; with_reducible rfl
  · simp only [Act.put, List.setIfInBounds_toArray, List.set_cons_zero, List.set_cons_succ]; rfl
  refine skIn 7 33 _ (a' := ?_) (tfA 25 255) hQp ?_ ?_
  rotate_left
  · simp only [Act.put, List.setIfInBounds_toArray, List.set_cons_zero, List.set_cons_succ]; rfl
  refine skIn 8 34 _ (a' := ?_) (tfA 25 511) hQp ?_ ?_
  rotate_left
  · simp only [Act.put, List.setIfInBounds_toArray, List.set_cons_zero, List.set_cons_succ]; rfl
  refine skIn 9 35 _ (a' := ?_) (tfA 25 1023) hQp ?_ ?_
  rotate_left
  · simp only [Act.put, List.setIfInBounds_toArray, List.set_cons_zero, List.set_cons_succ]; rfl
  refine skIn 10 36 _ (a' := ?_) (tfA 25 2047) hQp ?_ ?_
  rotate_left
  · simp only [Act.put, List.setIfInBounds_toArray, List.set_cons_zero, List.set_cons_succ]; rfl
  refine skIn 11 37 _ (a' := ?_) (tfA 25 4095) hQp ?_ ?_
  rotate_left
  · simp only [Act.put, List.setIfInBounds_toArray, List.set_cons_zero, List.set_cons_succ]; rfl
  refine skIn 12 38 _ (a' := ?_) (tfA 25 8191) hQp ?_ ?_
  rotate_left
  · simp only [Act.put, List.setIfInBounds_toArray, List.set_cons_zero, List.set_cons_succ]; rfl
  refine skIn 13 39 _ (a' := ?_) (tfA 25 16383) hQp ?_ ?_
  rotate_left
  · simp only [Act.put, List.setIfInBounds_toArray, List.set_cons_zero, List.set_cons_succ]; rfl
  refine skIn 14 40 _ (a' := ?_) (tfA 25 32767) hQp ?_ ?_
  rotate_left
  · simp only [Act.put, List.setIfInBounds_toArray, List.set_cons_zero, List.set_cons_succ]; rfl
  refine skIn 15 41 _ (a' := ?_) (tfA 25 65535) hQp ?_ ?_
  rotate_left
  · simp only [Act.put, List.setIfInBounds_toArray, List.set_cons_zero, List.set_cons_succ]; rfl
  refine skIn 16 42 _ (a' := ?_) (tfA 25 131071) hQp ?_ ?_
  rotate_left
  · simp only [Act.put, List.setIfInBounds_toArray, List.set_cons_zero, List.set_cons_succ]; rfl
  refine skIn 17 43 _ (a' := ?_) (tfA 25 262143) hQp ?_ ?_
  rotate_left
  · simp only [Act.put, List.setIfInBounds_toArray, List.set_cons_zero, List.set_cons_succ]; rfl
  refine skIn 18 44 _ (a' := ?_) (tfA 25 524287) hQp ?_ ?_
  rotate_left
  · simp only [Act.put, List.setIfInBounds_toArray, List.set_cons_zero, List.set_cons_succ]; rfl
  refine skIn 19 45 _ (a' := ?_) (tfA 25 1048575) hQp ?_ ?_
  rotate_left
  · simp only [Act.put, List.setIfInBounds_toArray, List.set_cons_zero, List.set_cons_succ]; rfl
  refine skIn 20 46 _ (a' := ?_) (tfA 25 2097151) hQp ?_ ?_
  rotate_left
  · simp only [Act.put, List.setIfInBounds_toArray, List.set_cons_zero, List.set_cons_succ]; rfl
  refine skIn 21 47 _ (a' := ?_) (tfA 25 4194303) hQp ?_ ?_
  rotate_left
  · simp only [Act.put, List.setIfInBounds_toArray, List.set_cons_zero, List.set_cons_succ]; rfl
  refine skIn 22 48 _ (a' := ?_) (tfA 25 8388607) hQp ?_ ?_
  rotate_left
  · simp only [Act.put, List.setIfInBounds_toArray, List.set_cons_zero, List.set_cons_succ]; rfl
  refine skIn 23 49 _ (a' := ?_) (tfA 25 16777215) hQp ?_ ?_
  rotate_left
  · simp only [Act.put, List.setIfInBounds_toArray, List.set_cons_zero, List.set_cons_succ]; rfl
  refine tkIn 24 50 { dst := some 50, op := Go.Op.pick (Go.Operand.tmp 32) (Go.Operand.tmp 49) (Go.Operand.const (Go.Value.bool false)), type := 4, pos := "spread.go:157", after := #[{ on := 6, ground := Go.Ground.data }, { on := 23, ground := Go.Ground.data }], guard := none } (v := ?_) (a' := ?_) (tfA 25 33554431) hQp ?_ ?_ ?_
  rotate_left 2
  · intro w'; go_simp; with_reducible rfl
  · simp only [Act.put, List.setIfInBounds_toArray, List.set_cons_zero, List.set_cons_succ]; rfl
  refine wpAnyIn_done (by kernel_rfl) ?_ _
  exact hfin
set_option maxRecDepth 100000 in
set_option maxHeartbeats 4000000 in
theorem wskip8a.run (m l' bs bo b q : Nat) (x y s : Int) (t3 t7 t8 t9 t10 t11 t12 t13 t14 t15 t16 t17 t18 t19 t20 t21 t22 t23 t24 t25 t26 t27 t28 t29 t30 t31 t32 t33 t34 t35 t36 t37 t38 t39 t40 t41 t42 t43 t44 t45 t46 t47 t48 t49 t50 t51 t52 t53 t54 t55 t56 t57 t58 t59 t60 t61 t62 t63 t64 t65 t66 t67 t68 t69 t70 t71 t72 t73 t74 t75 t76 t77 t78 t79 t80 t81 t82 t83 t84 t85 t86 t87 : Value) (W1 : World) (Q : Exit → Act → World → Prop)
    (hQp : ∀ c a d v w, Q (.panic c) (Act.put a (some d) v) w → Q (.panic c) a w) (hg1 : ¬ x < s)
    (d0 : W1.cell? ⟨bs, 0, none⟩ = some (.pointer (some ⟨b, 0, none⟩))) (ds : W1.cell? ⟨b, 0, none⟩ = some (.int .i64 s))
    (hfin : Q .normal { tmps := #[.func (.yield l') #[] #[], .pointer (some ⟨bs, 0, none⟩), .pointer (some ⟨bo, 0, none⟩), t3, .int .i64 x, .int .i64 y, .pointer (some ⟨q, 0, none⟩), t7, t8, t9, t10, t11, t12, t13, t14, t15, t16, t17, t18, t19, t20, t21, t22, t23, t24, t25, t26, t27, t28, t29, t30, t31, t32, t33, t34, t35, t36, t37, t38, t39, t40, t41, t42, t43, t44, t45, t46, t47, t48, t49, t50, .int .i64 x, .pointer (some ⟨b, 0, none⟩), .pointer (some ⟨b, 0, none⟩), .pointer (some ⟨b, 0, none⟩), .int .i64 s, .bool false, .bool false, undef, undef, undef, undef, undef, undef, .bool false, .bool false, undef, undef, undef, undef, undef, undef, undef, undef, undef, undef, undef, undef, undef, undef, undef, undef, undef, undef, undef, .bool false, t86, t87], defers := [] } W1.drew) :
    (Code.region 8 wreg8.ops true).wpIn Fence.wide m Try.prog Q { tmps := #[.func (.yield l') #[] #[], .pointer (some ⟨bs, 0, none⟩), .pointer (some ⟨bo, 0, none⟩), t3, .int .i64 x, .int .i64 y, .pointer (some ⟨q, 0, none⟩), t7, t8, t9, t10, t11, t12, t13, t14, t15, t16, t17, t18, t19, t20, t21, t22, t23, t24, t25, t26, t27, t28, t29, t30, t31, t32, t33, t34, t35, t36, t37, t38, t39, t40, t41, t42, t43, t44, t45, t46, t47, t48, t49, t50, t51, t52, t53, t54, t55, t56, t57, t58, t59, t60, t61, t62, t63, t64, t65, t66, t67, t68, t69, t70, t71, t72, t73, t74, t75, t76, t77, t78, t79, t80, t81, t82, t83, t84, t85, t86, t87], defers := [] } W1 := by
  have hmix : Try.prog.follows .mixedOrders = true := by kernel_rfl
  refine wpIn_region_any hmix ?_
  change wpAnyIn _ _ _ _ _ _ _ _ _ (World.drew _)
  refine tkIn 0 51 { dst := some 51, op := Go.Op.move (Go.Operand.tmp 4), type := 3, pos := "spread.go:160", after := #[], guard := none } (v := ?_) (a' := ?_) (tfA 35 1) hQp ?_ ?_ ?_
  rotate_left 2
  · intro w'; go_simp; with_reducible rfl
  · simp only [Act.put, List.setIfInBounds_toArray, List.set_cons_zero, List.set_cons_succ]; rfl
  refine wpAnyIn_ready (rs := [1]) (by kernel_rfl) (by simp) ?_
  refine AllReadyIn.cons (o := { dst := some 52, op := Go.Op.load 98 (Go.Operand.tmp 1), type := 98, pos := "spread.go:160", after := #[], guard := none }) rfl (fun K hK => ?_) ?_
  · go_simp
    refine hK _ _ ?_; clear hK K
    refine rdIn (l' := (tfA 35 3)) (by kernel_rfl) ?_
    refine tkIn 2 53 { dst := some 53, op := Go.Op.nilCheck (Go.Operand.tmp 52), type := 0, pos := "spread.go:160", after := #[{ on := 1, ground := Go.Ground.data }], guard := none } (v := ?_) (a' := ?_) (tfA 35 7) hQp ?_ ?_ ?_
    rotate_left 2
    · intro w'; go_simp; with_reducible rfl
    · simp only [Act.put, List.setIfInBounds_toArray, List.set_cons_zero, List.set_cons_succ]; rfl
    refine tkIn 3 54 { dst := some 54, op := Go.Op.fieldAddr 109 (Go.Operand.tmp 53) 0, type := 0, pos := "spread.go:160", after := #[{ on := 2, ground := Go.Ground.data }], guard := none } (v := ?_) (a' := ?_) (tfA 35 15) hQp ?_ ?_ ?_
    rotate_left 2
    · intro w'; go_simp; with_reducible rfl
    · simp only [Act.put, List.setIfInBounds_toArray, List.set_cons_zero, List.set_cons_succ]; rfl
    refine wpAnyIn_ready (rs := [4]) (by kernel_rfl) (by simp) ?_
    refine AllReadyIn.cons (o := { dst := some 55, op := Go.Op.load 3 (Go.Operand.tmp 54), type := 3, pos := "spread.go:160", after := #[{ on := 3, ground := Go.Ground.data }], guard := none }) rfl (fun K hK => ?_) ?_
    · go_simp
      refine hK _ _ ?_; clear hK K
      refine rdIn (l' := (tfA 35 31)) (by kernel_rfl) ?_
      refine tkIn 5 56 { dst := some 56, op := Go.Op.binOp Go.BinOp.lss 3 (Go.Operand.tmp 51) (Go.Operand.tmp 55) 3, type := 4, pos := "spread.go:160", after := #[{ on := 0, ground := Go.Ground.data }, { on := 4, ground := Go.Ground.data }], guard := none } (v := ?_) (a' := ?_) (tfA 35 63) hQp ?_ ?_ ?_
      rotate_left 2
      · intro w'; go_simp; with_reducible rfl
      · simp only [Act.put, List.setIfInBounds_toArray, List.set_cons_zero, List.set_cons_succ]; rfl
      refine tkIn 6 57 { dst := some 57, op := Go.Op.move (Go.Operand.tmp 56), type := 4, pos := "spread.go:160", after := #[{ on := 5, ground := Go.Ground.data }], guard := none } (v := ?_) (a' := ?_) (tfA 35 127) hQp ?_ ?_ ?_
      rotate_left 2
      · intro w'; go_simp; with_reducible rfl
      · simp only [Act.put, List.setIfInBounds_toArray, List.set_cons_zero, List.set_cons_succ]; rfl
      refine skIn 7 58 _ (a' := ?_) (tfA 35 255) hQp ?_ ?_
      rotate_left
      · simp only [Act.put, List.setIfInBounds_toArray, List.set_cons_zero, List.set_cons_succ]; rfl
      refine skIn 8 59 _ (a' := ?_) (tfA 35 511) hQp ?_ ?_
      rotate_left
      · simp only [Act.put, List.setIfInBounds_toArray, List.set_cons_zero, List.set_cons_succ]; rfl
      refine skIn 9 60 _ (a' := ?_) (tfA 35 1023) hQp ?_ ?_
      rotate_left
      · simp only [Act.put, List.setIfInBounds_toArray, List.set_cons_zero, List.set_cons_succ]; rfl
      refine skIn 10 61 _ (a' := ?_) (tfA 35 2047) hQp ?_ ?_
      rotate_left
      · simp only [Act.put, List.setIfInBounds_toArray, List.set_cons_zero, List.set_cons_succ]; rfl
      refine skIn 11 62 _ (a' := ?_) (tfA 35 4095) hQp ?_ ?_
      rotate_left
      · simp only [Act.put, List.setIfInBounds_toArray, List.set_cons_zero, List.set_cons_succ]; rfl
      refine skIn 12 63 _ (a' := ?_) (tfA 35 8191) hQp ?_ ?_
      rotate_left
      · simp only [Act.put, List.setIfInBounds_toArray, List.set_cons_zero, List.set_cons_succ]; rfl
      refine tkIn 13 64 { dst := some 64, op := Go.Op.pick (Go.Operand.tmp 57) (Go.Operand.tmp 63) (Go.Operand.const (Go.Value.bool false)), type := 4, pos := "spread.go:160", after := #[{ on := 6, ground := Go.Ground.data }, { on := 12, ground := Go.Ground.data }], guard := none } (v := ?_) (a' := ?_) (tfA 35 16383) hQp ?_ ?_ ?_
      rotate_left 2
      · intro w'; go_simp; with_reducible rfl
      · simp only [Act.put, List.setIfInBounds_toArray, List.set_cons_zero, List.set_cons_succ]; rfl
      refine tkIn 14 65 { dst := some 65, op := Go.Op.move (Go.Operand.tmp 64), type := 4, pos := "spread.go:160", after := #[{ on := 13, ground := Go.Ground.data }, { on := 6, ground := Go.Ground.chain }], guard := none } (v := ?_) (a' := ?_) (tfA 35 32767) hQp ?_ ?_ ?_
      rotate_left 2
      · intro w'; go_simp; with_reducible rfl
      · simp only [Act.put, List.setIfInBounds_toArray, List.set_cons_zero, List.set_cons_succ]; rfl
      refine skIn 15 66 _ (a' := ?_) (tfA 35 65535) hQp ?_ ?_
      rotate_left
      · simp only [Act.put, List.setIfInBounds_toArray, List.set_cons_zero, List.set_cons_succ]; rfl
      refine skIn 16 67 _ (a' := ?_) (tfA 35 131071) hQp ?_ ?_
      rotate_left
      · simp only [Act.put, List.setIfInBounds_toArray, List.set_cons_zero, List.set_cons_succ]; rfl
      refine skIn 17 68 _ (a' := ?_) (tfA 35 262143) hQp ?_ ?_
      rotate_left
      · simp only [Act.put, List.setIfInBounds_toArray, List.set_cons_zero, List.set_cons_succ]; rfl
      refine skIn 18 69 _ (a' := ?_) (tfA 35 524287) hQp ?_ ?_
      rotate_left
      · simp only [Act.put, List.setIfInBounds_toArray, List.set_cons_zero, List.set_cons_succ]; rfl
      refine skIn 19 70 _ (a' := ?_) (tfA 35 1048575) hQp ?_ ?_
      rotate_left
      · simp only [Act.put, List.setIfInBounds_toArray, List.set_cons_zero, List.set_cons_succ]; rfl
      refine skIn 20 71 _ (a' := ?_) (tfA 35 2097151) hQp ?_ ?_
      rotate_left
      · simp only [Act.put, List.setIfInBounds_toArray, List.set_cons_zero, List.set_cons_succ]; rfl
      refine skIn 21 72 _ (a' := ?_) (tfA 35 4194303) hQp ?_ ?_
      rotate_left
      · simp only [Act.put, List.setIfInBounds_toArray, List.set_cons_zero, List.set_cons_succ]; rfl
      refine skIn 22 73 _ (a' := ?_) (tfA 35 8388607) hQp ?_ ?_
      rotate_left
      · simp only [Act.put, List.setIfInBounds_toArray, List.set_cons_zero, List.set_cons_succ]; rfl
      refine skIn 23 74 _ (a' := ?_) (tfA 35 16777215) hQp ?_ ?_
      rotate_left
      · simp only [Act.put, List.setIfInBounds_toArray, List.set_cons_zero, List.set_cons_succ]; rfl
      refine skIn 24 75 _ (a' := ?_) (tfA 35 33554431) hQp ?_ ?_
      rotate_left
      · simp only [Act.put, List.setIfInBounds_toArray, List.set_cons_zero, List.set_cons_succ]; rfl
      refine skIn 25 76 _ (a' := ?_) (tfA 35 67108863) hQp ?_ ?_
      rotate_left
      · simp only [Act.put, List.setIfInBounds_toArray, List.set_cons_zero, List.set_cons_succ]; rfl
      refine skIn 26 77 _ (a' := ?_) (tfA 35 134217727) hQp ?_ ?_
      rotate_left
      · simp only [Act.put, List.setIfInBounds_toArray, List.set_cons_zero, List.set_cons_succ]; rfl
      refine skIn 27 78 _ (a' := ?_) (tfA 35 268435455) hQp ?_ ?_
      rotate_left
      · simp only [Act.put, List.setIfInBounds_toArray, List.set_cons_zero, List.set_cons_succ]; rfl
      refine skIn 28 79 _ (a' := ?_) (tfA 35 536870911) hQp ?_ ?_
      rotate_left
      · simp only [Act.put, List.setIfInBounds_toArray, List.set_cons_zero, List.set_cons_succ]; rfl
      refine skIn 29 80 _ (a' := ?_) (tfA 35 1073741823) hQp ?_ ?_
      rotate_left
      · simp only [Act.put, List.setIfInBounds_toArray, List.set_cons_zero, List.set_cons_succ]; rfl
      refine skIn 30 81 _ (a' := ?_) (tfA 35 2147483647) hQp ?_ ?_
      rotate_left
      · simp only [Act.put, List.setIfInBounds_toArray, List.set_cons_zero, List.set_cons_succ]; rfl
      refine skIn 31 82 _ (a' := ?_) (tfA 35 4294967295) hQp ?_ ?_
      rotate_left
      · simp only [Act.put, List.setIfInBounds_toArray, List.set_cons_zero, List.set_cons_succ]; rfl
      refine skIn 32 83 _ (a' := ?_) (tfA 35 8589934591) hQp ?_ ?_
      rotate_left
      · simp only [Act.put, List.setIfInBounds_toArray, List.set_cons_zero, List.set_cons_succ]; rfl
      refine skIn 33 84 _ (a' := ?_) (tfA 35 17179869183) hQp ?_ ?_
      rotate_left
      · simp only [Act.put, List.setIfInBounds_toArray, List.set_cons_zero, List.set_cons_succ]; rfl
      refine tkIn 34 85 { dst := some 85, op := Go.Op.pick (Go.Operand.tmp 65) (Go.Operand.tmp 84) (Go.Operand.const (Go.Value.bool false)), type := 4, pos := "spread.go:160", after := #[{ on := 14, ground := Go.Ground.data }, { on := 33, ground := Go.Ground.data }], guard := none } (v := ?_) (a' := ?_) (tfA 35 34359738367) hQp ?_ ?_ ?_
      rotate_left 2
      · intro w'; go_simp; with_reducible rfl
      · simp only [Act.put, List.setIfInBounds_toArray, List.set_cons_zero, List.set_cons_succ]; rfl
      refine wpAnyIn_done (by kernel_rfl) ?_ _
      exact hfin
    exact AllReadyIn.nil
  exact AllReadyIn.nil
set_option maxRecDepth 100000 in
set_option maxHeartbeats 4000000 in
theorem wskip8b.run (m l' bs bo b q : Nat) (x y s : Int) (t3 t7 t8 t9 t10 t11 t12 t13 t14 t15 t16 t17 t18 t19 t20 t21 t22 t23 t24 t25 t26 t27 t28 t29 t30 t31 t32 t33 t34 t35 t36 t37 t38 t39 t40 t41 t42 t43 t44 t45 t46 t47 t48 t49 t50 t51 t52 t53 t54 t55 t56 t57 t58 t59 t60 t61 t62 t63 t64 t65 t66 t67 t68 t69 t70 t71 t72 t73 t74 t75 t76 t77 t78 t79 t80 t81 t82 t83 t84 t85 t86 t87 : Value) (W1 : World) (Q : Exit → Act → World → Prop)
    (hQp : ∀ c a d v w, Q (.panic c) (Act.put a (some d) v) w → Q (.panic c) a w) (hg1 : x < s) (hg2 : ¬ y < s)
    (d0 : W1.cell? ⟨bs, 0, none⟩ = some (.pointer (some ⟨b, 0, none⟩))) (ds : W1.cell? ⟨b, 0, none⟩ = some (.int .i64 s))
    (hfin : Q .normal { tmps := #[.func (.yield l') #[] #[], .pointer (some ⟨bs, 0, none⟩), .pointer (some ⟨bo, 0, none⟩), t3, .int .i64 x, .int .i64 y, .pointer (some ⟨q, 0, none⟩), t7, t8, t9, t10, t11, t12, t13, t14, t15, t16, t17, t18, t19, t20, t21, t22, t23, t24, t25, t26, t27, t28, t29, t30, t31, t32, t33, t34, t35, t36, t37, t38, t39, t40, t41, t42, t43, t44, t45, t46, t47, t48, t49, t50, .int .i64 x, .pointer (some ⟨b, 0, none⟩), .pointer (some ⟨b, 0, none⟩), .pointer (some ⟨b, 0, none⟩), .int .i64 s, .bool true, .bool true, .int .i64 y, .pointer (some ⟨b, 0, none⟩), .pointer (some ⟨b, 0, none⟩), .pointer (some ⟨b, 0, none⟩), .int .i64 s, .bool false, .bool false, .bool false, undef, undef, undef, undef, undef, undef, undef, undef, undef, undef, undef, undef, undef, undef, undef, undef, undef, undef, undef, .bool false, t86, t87], defers := [] } W1.drew) :
    (Code.region 8 wreg8.ops true).wpIn Fence.wide m Try.prog Q { tmps := #[.func (.yield l') #[] #[], .pointer (some ⟨bs, 0, none⟩), .pointer (some ⟨bo, 0, none⟩), t3, .int .i64 x, .int .i64 y, .pointer (some ⟨q, 0, none⟩), t7, t8, t9, t10, t11, t12, t13, t14, t15, t16, t17, t18, t19, t20, t21, t22, t23, t24, t25, t26, t27, t28, t29, t30, t31, t32, t33, t34, t35, t36, t37, t38, t39, t40, t41, t42, t43, t44, t45, t46, t47, t48, t49, t50, t51, t52, t53, t54, t55, t56, t57, t58, t59, t60, t61, t62, t63, t64, t65, t66, t67, t68, t69, t70, t71, t72, t73, t74, t75, t76, t77, t78, t79, t80, t81, t82, t83, t84, t85, t86, t87], defers := [] } W1 := by
  have hmix : Try.prog.follows .mixedOrders = true := by kernel_rfl
  refine wpIn_region_any hmix ?_
  change wpAnyIn _ _ _ _ _ _ _ _ _ (World.drew _)
  refine tkIn 0 51 { dst := some 51, op := Go.Op.move (Go.Operand.tmp 4), type := 3, pos := "spread.go:160", after := #[], guard := none } (v := ?_) (a' := ?_) (tfA 35 1) hQp ?_ ?_ ?_
  rotate_left 2
  · intro w'; go_simp; with_reducible rfl
  · simp only [Act.put, List.setIfInBounds_toArray, List.set_cons_zero, List.set_cons_succ]; rfl
  refine wpAnyIn_ready (rs := [1]) (by kernel_rfl) (by simp) ?_
  refine AllReadyIn.cons (o := { dst := some 52, op := Go.Op.load 98 (Go.Operand.tmp 1), type := 98, pos := "spread.go:160", after := #[], guard := none }) rfl (fun K hK => ?_) ?_
  · go_simp
    refine hK _ _ ?_; clear hK K
    refine rdIn (l' := (tfA 35 3)) (by kernel_rfl) ?_
    refine tkIn 2 53 { dst := some 53, op := Go.Op.nilCheck (Go.Operand.tmp 52), type := 0, pos := "spread.go:160", after := #[{ on := 1, ground := Go.Ground.data }], guard := none } (v := ?_) (a' := ?_) (tfA 35 7) hQp ?_ ?_ ?_
    rotate_left 2
    · intro w'; go_simp; with_reducible rfl
    · simp only [Act.put, List.setIfInBounds_toArray, List.set_cons_zero, List.set_cons_succ]; rfl
    refine tkIn 3 54 { dst := some 54, op := Go.Op.fieldAddr 109 (Go.Operand.tmp 53) 0, type := 0, pos := "spread.go:160", after := #[{ on := 2, ground := Go.Ground.data }], guard := none } (v := ?_) (a' := ?_) (tfA 35 15) hQp ?_ ?_ ?_
    rotate_left 2
    · intro w'; go_simp; with_reducible rfl
    · simp only [Act.put, List.setIfInBounds_toArray, List.set_cons_zero, List.set_cons_succ]; rfl
    refine wpAnyIn_ready (rs := [4]) (by kernel_rfl) (by simp) ?_
    refine AllReadyIn.cons (o := { dst := some 55, op := Go.Op.load 3 (Go.Operand.tmp 54), type := 3, pos := "spread.go:160", after := #[{ on := 3, ground := Go.Ground.data }], guard := none }) rfl (fun K hK => ?_) ?_
    · go_simp
      refine hK _ _ ?_; clear hK K
      refine rdIn (l' := (tfA 35 31)) (by kernel_rfl) ?_
      refine tkIn 5 56 { dst := some 56, op := Go.Op.binOp Go.BinOp.lss 3 (Go.Operand.tmp 51) (Go.Operand.tmp 55) 3, type := 4, pos := "spread.go:160", after := #[{ on := 0, ground := Go.Ground.data }, { on := 4, ground := Go.Ground.data }], guard := none } (v := ?_) (a' := ?_) (tfA 35 63) hQp ?_ ?_ ?_
      rotate_left 2
      · intro w'; go_simp; with_reducible rfl
      · simp only [Act.put, List.setIfInBounds_toArray, List.set_cons_zero, List.set_cons_succ]; rfl
      refine tkIn 6 57 { dst := some 57, op := Go.Op.move (Go.Operand.tmp 56), type := 4, pos := "spread.go:160", after := #[{ on := 5, ground := Go.Ground.data }], guard := none } (v := ?_) (a' := ?_) (tfA 35 127) hQp ?_ ?_ ?_
      rotate_left 2
      · intro w'; go_simp; with_reducible rfl
      · simp only [Act.put, List.setIfInBounds_toArray, List.set_cons_zero, List.set_cons_succ]; rfl
      refine tkIn 7 58 { dst := some 58, op := Go.Op.move (Go.Operand.tmp 5), type := 3, pos := "spread.go:160", after := #[{ on := 6, ground := Go.Ground.guard }], guard := some (6, true) } (v := ?_) (a' := ?_) (tfA 35 255) hQp ?_ ?_ ?_
      rotate_left 2
      · intro w'; go_simp; with_reducible rfl
      · simp only [Act.put, List.setIfInBounds_toArray, List.set_cons_zero, List.set_cons_succ]; rfl
      refine wpAnyIn_ready (rs := [8]) (by kernel_rfl) (by simp) ?_
      refine AllReadyIn.cons (o := { dst := some 59, op := Go.Op.load 98 (Go.Operand.tmp 1), type := 98, pos := "spread.go:160", after := #[{ on := 6, ground := Go.Ground.guard }], guard := some (6, true) }) rfl (fun K hK => ?_) ?_
      · go_simp
        refine hK _ _ ?_; clear hK K
        refine rdIn (l' := (tfA 35 511)) (by kernel_rfl) ?_
        refine tkIn 9 60 { dst := some 60, op := Go.Op.nilCheck (Go.Operand.tmp 59), type := 0, pos := "spread.go:160", after := #[{ on := 8, ground := Go.Ground.data }, { on := 6, ground := Go.Ground.guard }], guard := some (6, true) } (v := ?_) (a' := ?_) (tfA 35 1023) hQp ?_ ?_ ?_
        rotate_left 2
        · intro w'; go_simp; with_reducible rfl
        · simp only [Act.put, List.setIfInBounds_toArray, List.set_cons_zero, List.set_cons_succ]; rfl
        refine tkIn 10 61 { dst := some 61, op := Go.Op.fieldAddr 109 (Go.Operand.tmp 60) 0, type := 0, pos := "spread.go:160", after := #[{ on := 9, ground := Go.Ground.data }, { on := 6, ground := Go.Ground.guard }], guard := some (6, true) } (v := ?_) (a' := ?_) (tfA 35 2047) hQp ?_ ?_ ?_
        rotate_left 2
        · intro w'; go_simp; with_reducible rfl
        · simp only [Act.put, List.setIfInBounds_toArray, List.set_cons_zero, List.set_cons_succ]; rfl
        refine wpAnyIn_ready (rs := [11]) (by kernel_rfl) (by simp) ?_
        refine AllReadyIn.cons (o := { dst := some 62, op := Go.Op.load 3 (Go.Operand.tmp 61), type := 3, pos := "spread.go:160", after := #[{ on := 10, ground := Go.Ground.data }, { on := 6, ground := Go.Ground.guard }], guard := some (6, true) }) rfl (fun K hK => ?_) ?_
        · go_simp
          refine hK _ _ ?_; clear hK K
          refine rdIn (l' := (tfA 35 4095)) (by kernel_rfl) ?_
          refine tkIn 12 63 { dst := some 63, op := Go.Op.binOp Go.BinOp.lss 3 (Go.Operand.tmp 58) (Go.Operand.tmp 62) 3, type := 4, pos := "spread.go:160", after := #[{ on := 7, ground := Go.Ground.data }, { on := 11, ground := Go.Ground.data }, { on := 6, ground := Go.Ground.guard }], guard := some (6, true) } (v := ?_) (a' := ?_) (tfA 35 8191) hQp ?_ ?_ ?_
          rotate_left 2
          · intro w'; go_simp; with_reducible rfl
          · simp only [Act.put, List.setIfInBounds_toArray, List.set_cons_zero, List.set_cons_succ]; rfl
          refine tkIn 13 64 { dst := some 64, op := Go.Op.pick (Go.Operand.tmp 57) (Go.Operand.tmp 63) (Go.Operand.const (Go.Value.bool false)), type := 4, pos := "spread.go:160", after := #[{ on := 6, ground := Go.Ground.data }, { on := 12, ground := Go.Ground.data }], guard := none } (v := ?_) (a' := ?_) (tfA 35 16383) hQp ?_ ?_ ?_
          rotate_left 2
          · intro w'; go_simp; with_reducible rfl
          · simp only [Act.put, List.setIfInBounds_toArray, List.set_cons_zero, List.set_cons_succ]; rfl
          refine tkIn 14 65 { dst := some 65, op := Go.Op.move (Go.Operand.tmp 64), type := 4, pos := "spread.go:160", after := #[{ on := 13, ground := Go.Ground.data }, { on := 6, ground := Go.Ground.chain }], guard := none } (v := ?_) (a' := ?_) (tfA 35 32767) hQp ?_ ?_ ?_
          rotate_left 2
          · intro w'; go_simp; with_reducible rfl
          · simp only [Act.put, List.setIfInBounds_toArray, List.set_cons_zero, List.set_cons_succ]; rfl
          refine skIn 15 66 _ (a' := ?_) (tfA 35 65535) hQp ?_ ?_
          rotate_left
          · simp only [Act.put, List.setIfInBounds_toArray, List.set_cons_zero, List.set_cons_succ]; rfl
          refine skIn 16 67 _ (a' := ?_) (tfA 35 131071) hQp ?_ ?_
          rotate_left
          · simp only [Act.put, List.setIfInBounds_toArray, List.set_cons_zero, List.set_cons_succ]; rfl
          refine skIn 17 68 _ (a' := ?_) (tfA 35 262143) hQp ?_ ?_
          rotate_left
          · simp only [Act.put, List.setIfInBounds_toArray, List.set_cons_zero, List.set_cons_succ]; rfl
          refine skIn 18 69 _ (a' := ?_) (tfA 35 524287) hQp ?_ ?_
          rotate_left
          · simp only [Act.put, List.setIfInBounds_toArray, List.set_cons_zero, List.set_cons_succ]; rfl
          refine skIn 19 70 _ (a' := ?_) (tfA 35 1048575) hQp ?_ ?_
          rotate_left
          · simp only [Act.put, List.setIfInBounds_toArray, List.set_cons_zero, List.set_cons_succ]; rfl
          refine skIn 20 71 _ (a' := ?_) (tfA 35 2097151) hQp ?_ ?_
          rotate_left
          · simp only [Act.put, List.setIfInBounds_toArray, List.set_cons_zero, List.set_cons_succ]; rfl
          refine skIn 21 72 _ (a' := ?_) (tfA 35 4194303) hQp ?_ ?_
          rotate_left
          · simp only [Act.put, List.setIfInBounds_toArray, List.set_cons_zero, List.set_cons_succ]; rfl
          refine skIn 22 73 _ (a' := ?_) (tfA 35 8388607) hQp ?_ ?_
          rotate_left
          · simp only [Act.put, List.setIfInBounds_toArray, List.set_cons_zero, List.set_cons_succ]; rfl
          refine skIn 23 74 _ (a' := ?_) (tfA 35 16777215) hQp ?_ ?_
          rotate_left
          · simp only [Act.put, List.setIfInBounds_toArray, List.set_cons_zero, List.set_cons_succ]; rfl
          refine skIn 24 75 _ (a' := ?_) (tfA 35 33554431) hQp ?_ ?_
          rotate_left
          · simp only [Act.put, List.setIfInBounds_toArray, List.set_cons_zero, List.set_cons_succ]; rfl
          refine skIn 25 76 _ (a' := ?_) (tfA 35 67108863) hQp ?_ ?_
          rotate_left
          · simp only [Act.put, List.setIfInBounds_toArray, List.set_cons_zero, List.set_cons_succ]; rfl
          refine skIn 26 77 _ (a' := ?_) (tfA 35 134217727) hQp ?_ ?_
          rotate_left
          · simp only [Act.put, List.setIfInBounds_toArray, List.set_cons_zero, List.set_cons_succ]; rfl
          refine skIn 27 78 _ (a' := ?_) (tfA 35 268435455) hQp ?_ ?_
          rotate_left
          · simp only [Act.put, List.setIfInBounds_toArray, List.set_cons_zero, List.set_cons_succ]; rfl
          refine skIn 28 79 _ (a' := ?_) (tfA 35 536870911) hQp ?_ ?_
          rotate_left
          · simp only [Act.put, List.setIfInBounds_toArray, List.set_cons_zero, List.set_cons_succ]; rfl
          refine skIn 29 80 _ (a' := ?_) (tfA 35 1073741823) hQp ?_ ?_
          rotate_left
          · simp only [Act.put, List.setIfInBounds_toArray, List.set_cons_zero, List.set_cons_succ]; rfl
          refine skIn 30 81 _ (a' := ?_) (tfA 35 2147483647) hQp ?_ ?_
          rotate_left
          · simp only [Act.put, List.setIfInBounds_toArray, List.set_cons_zero, List.set_cons_succ]; rfl
          refine skIn 31 82 _ (a' := ?_) (tfA 35 4294967295) hQp ?_ ?_
          rotate_left
          · simp only [Act.put, List.setIfInBounds_toArray, List.set_cons_zero, List.set_cons_succ]; rfl
          refine skIn 32 83 _ (a' := ?_) (tfA 35 8589934591) hQp ?_ ?_
          rotate_left
          · simp only [Act.put, List.setIfInBounds_toArray, List.set_cons_zero, List.set_cons_succ]; rfl
          refine skIn 33 84 _ (a' := ?_) (tfA 35 17179869183) hQp ?_ ?_
          rotate_left
          · simp only [Act.put, List.setIfInBounds_toArray, List.set_cons_zero, List.set_cons_succ]; rfl
          refine tkIn 34 85 { dst := some 85, op := Go.Op.pick (Go.Operand.tmp 65) (Go.Operand.tmp 84) (Go.Operand.const (Go.Value.bool false)), type := 4, pos := "spread.go:160", after := #[{ on := 14, ground := Go.Ground.data }, { on := 33, ground := Go.Ground.data }], guard := none } (v := ?_) (a' := ?_) (tfA 35 34359738367) hQp ?_ ?_ ?_
          rotate_left 2
          · intro w'; go_simp; with_reducible rfl
          · simp only [Act.put, List.setIfInBounds_toArray, List.set_cons_zero, List.set_cons_succ]; rfl
          refine wpAnyIn_done (by kernel_rfl) ?_ _
          exact hfin
        exact AllReadyIn.nil
      exact AllReadyIn.nil
    exact AllReadyIn.nil
  exact AllReadyIn.nil
end Go.Proofs.Ythngclneffngbaa.Pr
