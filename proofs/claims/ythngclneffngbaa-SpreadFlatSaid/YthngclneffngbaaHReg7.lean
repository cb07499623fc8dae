import Derived.Test.YthngclneffngbaaHRegT
namespace Go.Proofs.Ythngclneffngbaa.Pr
open Go.RowKit Go.Shelf Go.Proofs.YthngclneffngbaaW.PrintWords Go.Proofs.YthngclneffngbaaW.PrintLast Go.Proofs.YthngclneffngbaaW.PrintMore
attribute [local go_sem] Oper.semAt_some
set_option linter.unusedVariables false
set_option linter.unusedSimpArgs false
def wreg7.ops : Array Oper := #[{ dst := some 26, op := Go.Op.move (Go.Operand.tmp 4), type := 3, pos := "spread.go:157", after := #[], guard := none },
  { dst := some 27, op := Go.Op.binOp Go.BinOp.gtr 3 (Go.Operand.tmp 26) (Go.Operand.const (Go.Value.int Go.IntKind.i64 0)) 3, type := 4, pos := "spread.go:157", after := #[{ on := 0, ground := Go.Ground.data }], guard := none },
  { dst := some 28, op := Go.Op.move (Go.Operand.tmp 27), type := 4, pos := "spread.go:157", after := #[{ on := 1, ground := Go.Ground.data }], guard := none },
  { dst := some 29, op := Go.Op.move (Go.Operand.tmp 5), type := 3, pos := "spread.go:157", after := #[{ on := 2, ground := Go.Ground.guard }], guard := some (2, true) },
  { dst := some 30, op := Go.Op.binOp Go.BinOp.gtr 3 (Go.Operand.tmp 29) (Go.Operand.const (Go.Value.int Go.IntKind.i64 0)) 3, type := 4, pos := "spread.go:157", after := #[{ on := 3, ground := Go.Ground.data }, { on := 2, ground := Go.Ground.guard }], guard := some (2, true) },
  { dst := some 31, op := Go.Op.pick (Go.Operand.tmp 28) (Go.Operand.tmp 30) (Go.Operand.const (Go.Value.bool false)), type := 4, pos := "spread.go:157", after := #[{ on := 2, ground := Go.Ground.data }, { on := 4, ground := Go.Ground.data }], guard := none },
  { dst := some 32, op := Go.Op.move (Go.Operand.tmp 31), type := 4, pos := "spread.go:157", after := #[{ on := 5, ground := Go.Ground.data }, { on := 2, ground := Go.Ground.chain }], guard := none },
  { dst := some 33, op := Go.Op.move (Go.Operand.tmp 0), type := 117, pos := "spread.go:157", after := #[{ on := 6, ground := Go.Ground.guard }], guard := some (6, true) },
  { dst := some 34, op := Go.Op.load 50 (Go.Operand.tmp 6), type := 50, pos := "spread.go:157", after := #[{ on := 6, ground := Go.Ground.guard }], guard := some (6, true) },
  { dst := some 35, op := Go.Op.load 49 (Go.Operand.tmp 2), type := 49, pos := "spread.go:157", after := #[{ on := 6, ground := Go.Ground.guard }], guard := some (6, true) },
  { dst := some 36, op := Go.Op.load 98 (Go.Operand.tmp 1), type := 98, pos := "spread.go:157", after := #[{ on := 6, ground := Go.Ground.guard }], guard := some (6, true) },
  { dst := some 37, op := Go.Op.move (Go.Operand.tmp 4), type := 3, pos := "spread.go:157", after := #[{ on := 6, ground := Go.Ground.guard }], guard := some (6, true) },
  { dst := some 38, op := Go.Op.move (Go.Operand.tmp 5), type := 3, pos := "spread.go:157", after := #[{ on := 6, ground := Go.Ground.guard }], guard := some (6, true) },
  { dst := some 39, op := Go.Op.nilCheck (Go.Operand.tmp 36), type := 0, pos := "spread.go:157", after := #[{ on := 10, ground := Go.Ground.data }, { on := 6, ground := Go.Ground.guard }], guard := some (6, true) },
  { dst := some 40, op := Go.Op.fieldAddr 109 (Go.Operand.tmp 39) 2, type := 0, pos := "spread.go:157", after := #[{ on := 13, ground := Go.Ground.data }, { on := 6, ground := Go.Ground.guard }], guard := some (6, true) },
  { dst := some 41, op := Go.Op.indexAddr 107 (Go.Operand.tmp 40) (Go.Operand.tmp 37), type := 0, pos := "spread.go:157", after := #[{ on := 14, ground := Go.Ground.data }, { on := 11, ground := Go.Ground.data }, { on := 6, ground := Go.Ground.guard }], guard := some (6, true) },
  { dst := some 42, op := Go.Op.indexAddr 106 (Go.Operand.tmp 41) (Go.Operand.tmp 38), type := 0, pos := "spread.go:157", after := #[{ on := 15, ground := Go.Ground.data }, { on := 12, ground := Go.Ground.data }, { on := 6, ground := Go.Ground.guard }], guard := some (6, true) },
  { dst := some 43, op := Go.Op.load 3 (Go.Operand.tmp 42), type := 3, pos := "spread.go:157", after := #[{ on := 16, ground := Go.Ground.data }, { on := 6, ground := Go.Ground.guard }], guard := some (6, true) },
  { dst := some 44, op := Go.Op.move (Go.Operand.tmp 4), type := 3, pos := "spread.go:157", after := #[{ on := 6, ground := Go.Ground.guard }], guard := some (6, true) },
  { dst := some 45, op := Go.Op.move (Go.Operand.tmp 5), type := 3, pos := "spread.go:157", after := #[{ on := 6, ground := Go.Ground.guard }], guard := some (6, true) },
  { dst := some 46, op := Go.Op.call { callee := Go.Callee.value (Go.Operand.tmp 35), args := #[Go.Operand.tmp 43, Go.Operand.tmp 44, Go.Operand.tmp 45], argTypes := #[3, 3, 3] }, type := 3, pos := "spread.go:157", after := #[{ on := 9, ground := Go.Ground.data }, { on := 17, ground := Go.Ground.data }, { on := 18, ground := Go.Ground.data }, { on := 19, ground := Go.Ground.data }, { on := 6, ground := Go.Ground.chain }, { on := 6, ground := Go.Ground.guard }], guard := some (6, true) },
  { dst := some 47, op := Go.Op.build 102 #[(0, Go.Operand.tmp 34), (1, Go.Operand.tmp 46), (2, Go.Operand.const (Go.Value.bool true))], type := 102, pos := "spread.go:157", after := #[{ on := 8, ground := Go.Ground.data }, { on := 20, ground := Go.Ground.data }, { on := 6, ground := Go.Ground.guard }], guard := some (6, true) },
  { dst := some 48, op := Go.Op.call { callee := Go.Callee.value (Go.Operand.tmp 33), args := #[Go.Operand.tmp 47], argTypes := #[102] }, type := 4, pos := "spread.go:157", after := #[{ on := 7, ground := Go.Ground.data }, { on := 21, ground := Go.Ground.data }, { on := 20, ground := Go.Ground.chain }, { on := 6, ground := Go.Ground.guard }], guard := some (6, true) },
  { dst := some 49, op := Go.Op.unOp Go.UnOp.not 4 (Go.Operand.tmp 48), type := 4, pos := "spread.go:157", after := #[{ on := 22, ground := Go.Ground.data }, { on := 6, ground := Go.Ground.guard }], guard := some (6, true) },
  { dst := some 50, op := Go.Op.pick (Go.Operand.tmp 32) (Go.Operand.tmp 49) (Go.Operand.const (Go.Value.bool false)), type := 4, pos := "spread.go:157", after := #[{ on := 6, ground := Go.Ground.data }, { on := 23, ground := Go.Ground.data }], guard := none }]
set_option maxRecDepth 100000 in
set_option maxHeartbeats 4000000 in
theorem wreg7.run (m l' bs bo b q : Nat) (x y v o s : Int) (t3 t7 t8 t9 t10 t11 t12 t13 t14 t15 t16 t17 t18 t19 t20 t21 t22 t23 t24 t25 t26 t27 t28 t29 t30 t31 t32 t33 t34 t35 t36 t37 t38 t39 t40 t41 t42 t43 t44 t45 t46 t47 t48 t49 t50 t51 t52 t53 t54 t55 t56 t57 t58 t59 t60 t61 t62 t63 t64 t65 t66 t67 t68 t69 t70 t71 t72 t73 t74 t75 t76 t77 t78 t79 t80 t81 t82 t83 t84 t85 t86 t87 : Value) (W1 : World) (Q : Exit → Act → World → Prop) (R2 : Bool → World → Prop)
    (hQp : ∀ c a d v w, Q (.panic c) (Act.put a (some d) v) w → Q (.panic c) a w) (hg1 : 0 < x) (hg2 : 0 < y) (hx : x < 102) (hy : y < 102) (hx0 : 0 ≤ x) (hy0 : 0 ≤ y) (d0 : W1.cell? ⟨bs, 0, none⟩ = some (.pointer (some ⟨b, 0, none⟩))) (d1 : W1.cell? ⟨bo, 0, none⟩ = some (.func (.func 75) #[] #[.pointer (some ⟨bs, 0, none⟩)]))
    (ds : W1.cell? ⟨b, 0, none⟩ = some (.int .i64 s)) (d2 : W1.cell? ⟨b, 2 + x.toNat * 102 + y.toNat, none⟩ = some (.int .i64 v)) (d3 : W1.cell? ⟨q, 0, none⟩ = some (.int .i64 x)) (d4 : W1.cell? ⟨q, 1, none⟩ = some (.int .i64 y))
    (hoff : CallsIn Fence.wide (m - 1) Try.prog 75 #[.int .i64 v, .int .i64 x, .int .i64 y, .pointer (some ⟨bs, 0, none⟩)] W1.drew fun e w' => e = .returned (.int .i64 o) ∧ ∃ k, w' = W1.drewN (1 + k))
    (HY : ∀ W', Below W1.heap.size W1 W' → YieldAt Fence.wide (m - 1) Try.prog l' #[.agg #[.int .i64 x, .int .i64 y, .int .i64 o, .bool true]] W' fun e W' => ∃ ok : Bool, e = .returned (.bool ok) ∧ R2 ok W')
    (hfin : ∀ (ok : Bool) W', R2 ok W' → Q .normal { tmps := #[.func (.yield l') #[] #[], .pointer (some ⟨bs, 0, none⟩), .pointer (some ⟨bo, 0, none⟩), t3, .int .i64 x, .int .i64 y, .pointer (some ⟨q, 0, none⟩), t7, t8, t9, t10, t11, t12, t13, t14, t15, t16, t17, t18, t19, t20, t21, t22, t23, t24, t25, .int .i64 x, .bool true, .bool true, .int .i64 y, .bool true, .bool true, .bool true, .func (.yield l') #[] #[], .agg #[.int .i64 x, .int .i64 y], .func (.func 75) #[] #[.pointer (some ⟨bs, 0, none⟩)], .pointer (some ⟨b, 0, none⟩), .int .i64 x, .int .i64 y, .pointer (some ⟨b, 0, none⟩), .pointer (some ⟨b, 2, none⟩), .pointer (some ⟨b, 2 + x.toNat * 102, none⟩), .pointer (some ⟨b, 2 + x.toNat * 102 + y.toNat, none⟩), .int .i64 v, .int .i64 x, .int .i64 y, .int .i64 o, .agg #[.int .i64 x, .int .i64 y, .int .i64 o, .bool true], .bool ok, .bool (!ok), .bool (!ok), t51, t52, t53, t54, t55, t56, t57, t58, t59, t60, t61, t62, t63, t64, t65, t66, t67, t68, t69, t70, t71, t72, t73, t74, t75, t76, t77, t78, t79, t80, t81, t82, t83, t84, t85, t86, t87], defers := [] } W') :
    (Code.region 7 wreg7.ops true).wpIn Fence.wide m Try.prog Q { tmps := #[.func (.yield l') #[] #[], .pointer (some ⟨bs, 0, none⟩), .pointer (some ⟨bo, 0, none⟩), t3, .int .i64 x, .int .i64 y, .pointer (some ⟨q, 0, none⟩), t7, t8, t9, t10, t11, t12, t13, t14, t15, t16, t17, t18, t19, t20, t21, t22, t23, t24, t25, t26, t27, t28, t29, t30, t31, t32, t33, t34, t35, t36, t37, t38, t39, t40, t41, t42, t43, t44, t45, t46, t47, t48, t49, t50, t51, t52, t53, t54, t55, t56, t57, t58, t59, t60, t61, t62, t63, t64, t65, t66, t67, t68, t69, t70, t71, t72, t73, t74, t75, t76, t77, t78, t79, t80, t81, t82, t83, t84, t85, t86, t87], defers := [] } W1 := by
  have hmix : Try.prog.follows .mixedOrders = true := by kernel_rfl
  have HC : ∀ md : Nat, wpAnyIn Fence.wide m Try.prog .any wreg7.ops Q 4 (tfA 25 2097151) { tmps := #[.func (.yield l') #[] #[], .pointer (some ⟨bs, 0, none⟩), .pointer (some ⟨bo, 0, none⟩), t3, .int .i64 x, .int .i64 y, .pointer (some ⟨q, 0, none⟩), t7, t8, t9, t10, t11, t12, t13, t14, t15, t16, t17, t18, t19, t20, t21, t22, t23, t24, t25, .int .i64 x, .bool true, .bool true, .int .i64 y, .bool true, .bool true, .bool true, .func (.yield l') #[] #[], .agg #[.int .i64 x, .int .i64 y], .func (.func 75) #[] #[.pointer (some ⟨bs, 0, none⟩)], .pointer (some ⟨b, 0, none⟩), .int .i64 x, .int .i64 y, .pointer (some ⟨b, 0, none⟩), .pointer (some ⟨b, 2, none⟩), .pointer (some ⟨b, 2 + x.toNat * 102, none⟩), .pointer (some ⟨b, 2 + x.toNat * 102 + y.toNat, none⟩), .int .i64 v, .int .i64 x, .int .i64 y, .int .i64 o, t47, t48, t49, t50, t51, t52, t53, t54, t55, t56, t57, t58, t59, t60, t61, t62, t63, t64, t65, t66, t67, t68, t69, t70, t71, t72, t73, t74, t75, t76, t77, t78, t79, t80, t81, t82, t83, t84, t85, t86, t87], defers := [] } (W1.drewN (1 + md)) := by
    intro md
    obtain ⟨fn, tm, asg, bdy, hy1, hR⟩ := HY (W1.drewN (1 + md)) (pw_below_drewN (Below.refl _ _) (1 + md))
    refine tkIn 21 47 { dst := some 47, op := Go.Op.build 102 #[(0, Go.Operand.tmp 34), (1, Go.Operand.tmp 46), (2, Go.Operand.const (Go.Value.bool true))], type := 102, pos := "spread.go:157", after := #[{ on := 8, ground := Go.Ground.data }, { on := 20, ground := Go.Ground.data }, { on := 6, ground := Go.Ground.guard }], guard := some (6, true) } (v := ?_) (a' := ?_) (tfA 25 4194303) hQp ?_ ?_ ?_
    rotate_left 2
    · intro w'; go_simp; with_reducible rfl
    · simp only [Act.put, List.setIfInBounds_toArray, List.set_cons_zero, List.set_cons_succ]; rfl
    refine wpAnyIn_ready (rs := [22]) (by kernel_rfl) (by simp) ?_
    refine AllReadyIn.cons (o := { dst := some 48, op := Go.Op.call { callee := Go.Callee.value (Go.Operand.tmp 33), args := #[Go.Operand.tmp 47], argTypes := #[102] }, type := 4, pos := "spread.go:157", after := #[{ on := 7, ground := Go.Ground.data }, { on := 21, ground := Go.Ground.data }, { on := 20, ground := Go.Ground.chain }, { on := 6, ground := Go.Ground.guard }], guard := some (6, true) }) rfl (fun K hK => ?_) ?_
    · go_simp
      refine ⟨(fun h => by cases h), hR.mono ?_⟩
      rintro e W' ⟨ok, rfl, hR2⟩
      refine hK _ _ ?_; clear hK K
      refine rdIn (l' := (tfA 25 8388607)) (by kernel_rfl) ?_
      refine tkIn 23 49 { dst := some 49, op := Go.Op.unOp Go.UnOp.not 4 (Go.Operand.tmp 48), type := 4, pos := "spread.go:157", after := #[{ on := 22, ground := Go.Ground.data }, { on := 6, ground := Go.Ground.guard }], guard := some (6, true) } (v := ?_) (a' := ?_) (tfA 25 16777215) hQp ?_ ?_ ?_
      rotate_left 2
      · intro w'; go_simp; with_reducible rfl
      · simp only [Act.put, List.setIfInBounds_toArray, List.set_cons_zero, List.set_cons_succ]; rfl
      refine tkIn 24 50 { dst := some 50, op := Go.Op.pick (Go.Operand.tmp 32) (Go.Operand.tmp 49) (Go.Operand.const (Go.Value.bool false)), type := 4, pos := "spread.go:157", after := #[{ on := 6, ground := Go.Ground.data }, { on := 23, ground := Go.Ground.data }], guard := none } (v := ?_) (a' := ?_) (tfA 25 33554431) hQp ?_ ?_ ?_
      rotate_left 2
      · intro w'; go_simp; with_reducible rfl
      · simp only [Act.put, List.setIfInBounds_toArray, List.set_cons_zero, List.set_cons_succ]; rfl
      refine wpAnyIn_done (by kernel_rfl) ?_ _
      exact hfin ok _ hR2
    exact AllReadyIn.nil
  have HA : wpAnyIn Fence.wide m Try.prog .any wreg7.ops Q 5 (tfA 25 1048575) { tmps := #[.func (.yield l') #[] #[], .pointer (some ⟨bs, 0, none⟩), .pointer (some ⟨bo, 0, none⟩), t3, .int .i64 x, .int .i64 y, .pointer (some ⟨q, 0, none⟩), t7, t8, t9, t10, t11, t12, t13, t14, t15, t16, t17, t18, t19, t20, t21, t22, t23, t24, t25, .int .i64 x, .bool true, .bool true, .int .i64 y, .bool true, .bool true, .bool true, .func (.yield l') #[] #[], .agg #[.int .i64 x, .int .i64 y], .func (.func 75) #[] #[.pointer (some ⟨bs, 0, none⟩)], .pointer (some ⟨b, 0, none⟩), .int .i64 x, .int .i64 y, .pointer (some ⟨b, 0, none⟩), .pointer (some ⟨b, 2, none⟩), .pointer (some ⟨b, 2 + x.toNat * 102, none⟩), .pointer (some ⟨b, 2 + x.toNat * 102 + y.toNat, none⟩), .int .i64 v, .int .i64 x, .int .i64 y, t46, t47, t48, t49, t50, t51, t52, t53, t54, t55, t56, t57, t58, t59, t60, t61, t62, t63, t64, t65, t66, t67, t68, t69, t70, t71, t72, t73, t74, t75, t76, t77, t78, t79, t80, t81, t82, t83, t84, t85, t86, t87], defers := [] } (W1.drew) := by
    refine wpAnyIn_ready (rs := [20]) (by kernel_rfl) (by simp) ?_
    refine AllReadyIn.cons (o := { dst := some 46, op := Go.Op.call { callee := Go.Callee.value (Go.Operand.tmp 35), args := #[Go.Operand.tmp 43, Go.Operand.tmp 44, Go.Operand.tmp 45], argTypes := #[3, 3, 3] }, type := 3, pos := "spread.go:157", after := #[{ on := 9, ground := Go.Ground.data }, { on := 17, ground := Go.Ground.data }, { on := 18, ground := Go.Ground.data }, { on := 19, ground := Go.Ground.data }, { on := 6, ground := Go.Ground.chain }, { on := 6, ground := Go.Ground.guard }], guard := some (6, true) }) rfl (fun K hK => ?_) ?_
    · go_simp
      refine ⟨trivial, (fun h => by cases h), ?_⟩
      refine hoff.mono ?_
      rintro e w' ⟨rfl, md, rfl⟩
      refine hK _ _ ?_; clear hK K
      refine rdIn (l' := (tfA 25 2097151)) (by kernel_rfl) ?_
      exact (HC md)
    exact AllReadyIn.nil
  have HB : wpAnyIn Fence.wide m Try.prog .any wreg7.ops Q 6 (tfA 25 1048319) { tmps := #[.func (.yield l') #[] #[], .pointer (some ⟨bs, 0, none⟩), .pointer (some ⟨bo, 0, none⟩), t3, .int .i64 x, .int .i64 y, .pointer (some ⟨q, 0, none⟩), t7, t8, t9, t10, t11, t12, t13, t14, t15, t16, t17, t18, t19, t20, t21, t22, t23, t24, t25, .int .i64 x, .bool true, .bool true, .int .i64 y, .bool true, .bool true, .bool true, .func (.yield l') #[] #[], t34, .func (.func 75) #[] #[.pointer (some ⟨bs, 0, none⟩)], .pointer (some ⟨b, 0, none⟩), .int .i64 x, .int .i64 y, .pointer (some ⟨b, 0, none⟩), .pointer (some ⟨b, 2, none⟩), .pointer (some ⟨b, 2 + x.toNat * 102, none⟩), .pointer (some ⟨b, 2 + x.toNat * 102 + y.toNat, none⟩), .int .i64 v, .int .i64 x, .int .i64 y, t46, t47, t48, t49, t50, t51, t52, t53, t54, t55, t56, t57, t58, t59, t60, t61, t62, t63, t64, t65, t66, t67, t68, t69, t70, t71, t72, t73, t74, t75, t76, t77, t78, t79, t80, t81, t82, t83, t84, t85, t86, t87], defers := [] } (W1.drew) := by
    refine wpAnyIn_ready (rs := [8, 20]) (by kernel_rfl) (by simp) ?_
    refine AllReadyIn.cons (o := { dst := some 34, op := Go.Op.load 50 (Go.Operand.tmp 6), type := 50, pos := "spread.go:157", after := #[{ on := 6, ground := Go.Ground.guard }], guard := some (6, true) }) rfl (fun K hK => ?_) ?_
    · go_simp
      refine hK _ _ ?_; clear hK K
      refine rdIn (l' := (tfA 25 1048575)) (by kernel_rfl) ?_
      exact HA
    refine AllReadyIn.cons (o := { dst := some 46, op := Go.Op.call { callee := Go.Callee.value (Go.Operand.tmp 35), args := #[Go.Operand.tmp 43, Go.Operand.tmp 44, Go.Operand.tmp 45], argTypes := #[3, 3, 3] }, type := 3, pos := "spread.go:157", after := #[{ on := 9, ground := Go.Ground.data }, { on := 17, ground := Go.Ground.data }, { on := 18, ground := Go.Ground.data }, { on := 19, ground := Go.Ground.data }, { on := 6, ground := Go.Ground.chain }, { on := 6, ground := Go.Ground.guard }], guard := some (6, true) }) rfl (fun K hK => ?_) ?_
    · go_simp
      refine ⟨trivial, (fun h => by cases h), ?_⟩
      refine hoff.mono ?_
      rintro e w' ⟨rfl, md, rfl⟩
      refine hK _ _ ?_; clear hK K
      refine rdIn (l' := (tfA 25 2096895)) (by kernel_rfl) ?_
      refine wpAnyIn_ready (rs := [8]) (by kernel_rfl) (by simp) ?_
      refine AllReadyIn.cons (o := { dst := some 34, op := Go.Op.load 50 (Go.Operand.tmp 6), type := 50, pos := "spread.go:157", after := #[{ on := 6, ground := Go.Ground.guard }], guard := some (6, true) }) rfl (fun K hK => ?_) ?_
      · go_simp
        refine hK _ _ ?_; clear hK K
        refine rdIn (l' := (tfA 25 2097151)) (by kernel_rfl) ?_
        exact (HC md)
      exact AllReadyIn.nil
    exact AllReadyIn.nil
  refine wpIn_region_any hmix ?_
  change wpAnyIn _ _ _ _ _ _ _ _ _ (World.drew _)
  refine tkIn 0 26 { dst := some 26, op := Go.Op.move (Go.Operand.tmp 4), type := 3, pos := "spread.go:157", after := #[], guard := none } (v := ?_) (a' := ?_) (tfA 25 1) hQp ?_ ?_ ?_
  rotate_left 2
  · intro w'; go_simp; with_reducible rfl
  · simp only [Act.put, List.setIfInBounds_toArray, List.set_cons_zero, List.set_cons_succ]; rfl
  refine tkIn 1 27 { dst := some 27, op := Go.Op.binOp Go.BinOp.gtr 3 (Go.Operand.tmp 26) (Go.Operand.const (Go.Value.int Go.IntKind.i64 0)) 3, type := 4, pos := "spread.go:157", after := #[{ on := 0, ground := Go.Ground.data }], guard := none } (v := ?_) (a' := ?_) (tfA 25 3) hQp ?_ ?_ ?_
  rotate_left 2
  · intro w'; go_simp; with_reducible rfl
  · simp only [Act.put, List.setIfInBounds_toArray, List.set_cons_zero, List.set_cons_succ]; rfl
  refine tkIn 2 28 { dst := some 28, op := Go.Op.move (Go.Operand.tmp 27), type := 4, pos := "spread.go:157", after := #[{ on := 1, ground := Go.Ground.data }], guard := none } (v := ?_) (a' := ?_) (tfA 25 7) hQp ?_ ?_ ?_
  rotate_left 2
  · intro w'; go_simp; with_reducible rfl
  · simp only [Act.put, List.setIfInBounds_toArray, List.set_cons_zero, List.set_cons_succ]; rfl
  refine tkIn 3 29 { dst := some 29, op := Go.Op.move (Go.Operand.tmp 5), type := 3, pos := "spread.go:157", after := #[{ on := 2, ground := Go.Ground.guard }], guard := some (2, true) } (v := ?_) (a' := ?_) (tfA 25 15) hQp ?_ ?_ ?_
  rotate_left 2
  · intro w'; go_simp; with_reducible rfl
  · simp only [Act.put, List.setIfInBounds_toArray, List.set_cons_zero, List.set_cons_succ]; rfl
  refine tkIn 4 30 { dst := some 30, op := Go.Op.binOp Go.BinOp.gtr 3 (Go.Operand.tmp 29) (Go.Operand.const (Go.Value.int Go.IntKind.i64 0)) 3, type := 4, pos := "spread.go:157", after := #[{ on := 3, ground := Go.Ground.data }, { on := 2, ground := Go.Ground.guard }], guard := some (2, true) } (v := ?_) (a' := ?_) (tfA 25 31) hQp ?_ ?_ ?_
  rotate_left 2
  · intro w'; go_simp; with_reducible rfl
  · simp only [Act.put, List.setIfInBounds_toArray, List.set_cons_zero, List.set_cons_succ]; rfl
  refine tkIn 5 31 { dst := some 31, op := Go.Op.pick (Go.Operand.tmp 28) (Go.Operand.tmp 30) (Go.Operand.const (Go.Value.bool false)), type := 4, pos := "spread.go:157", after := #[{ on := 2, ground := Go.Ground.data }, { on := 4, ground := Go.Ground.data }], guard := none } (v := ?_) (a' := ?_) (tfA 25 63) hQp ?_ ?_ ?_
  rotate_left 2
  · intro w'; go_simp; with_reducible rfl
  · simp only [Act.put, List.setIfInBounds_toArray, List.set_cons_zero, List.set_cons_succ]; rfl
  refine tkIn 6 32 { dst := some 32, op := Go.Op.move (Go.Operand.tmp 31), type := 4, pos := "spread.go:157", after := #[{ on := 5, ground := Go.Ground.data }, { on := 2, ground := Go.Ground.chain }], guard := none } (v := ?_) (a' := ?_) (tfA 25 127) hQp ?_ ?_ ?_
  rotate_left 2
  · intro w'; go_simp; with_reducible rfl
  · simp only [Act.put, List.setIfInBounds_toArray, List.set_cons_zero, List.set_cons_succ]; rfl
  refine tkIn 7 33 { dst := some 33, op := Go.Op.move (Go.Operand.tmp 0), type := 117, pos := "spread.go:157", after := #[{ on := 6, ground := Go.Ground.guard }], guard := some (6, true) } (v := ?_) (a' := ?_) (tfA 25 255) hQp ?_ ?_ ?_
  rotate_left 2
  · intro w'; go_simp; with_reducible rfl
  · simp only [Act.put, List.setIfInBounds_toArray, List.set_cons_zero, List.set_cons_succ]; rfl
  refine tkIn 11 37 { dst := some 37, op := Go.Op.move (Go.Operand.tmp 4), type := 3, pos := "spread.go:157", after := #[{ on := 6, ground := Go.Ground.guard }], guard := some (6, true) } (v := ?_) (a' := ?_) (tfA 25 2303) hQp ?_ ?_ ?_
  rotate_left 2
  · intro w'; go_simp; with_reducible rfl
  · simp only [Act.put, List.setIfInBounds_toArray, List.set_cons_zero, List.set_cons_succ]; rfl
  refine tkIn 12 38 { dst := some 38, op := Go.Op.move (Go.Operand.tmp 5), type := 3, pos := "spread.go:157", after := #[{ on := 6, ground := Go.Ground.guard }], guard := some (6, true) } (v := ?_) (a' := ?_) (tfA 25 6399) hQp ?_ ?_ ?_
  rotate_left 2
  · intro w'; go_simp; with_reducible rfl
  · simp only [Act.put, List.setIfInBounds_toArray, List.set_cons_zero, List.set_cons_succ]; rfl
  refine tkIn 18 44 { dst := some 44, op := Go.Op.move (Go.Operand.tmp 4), type := 3, pos := "spread.go:157", after := #[{ on := 6, ground := Go.Ground.guard }], guard := some (6, true) } (v := ?_) (a' := ?_) (tfA 25 268543) hQp ?_ ?_ ?_
  rotate_left 2
  · intro w'; go_simp; with_reducible rfl
  · simp only [Act.put, List.setIfInBounds_toArray, List.set_cons_zero, List.set_cons_succ]; rfl
  refine tkIn 19 45 { dst := some 45, op := Go.Op.move (Go.Operand.tmp 5), type := 3, pos := "spread.go:157", after := #[{ on := 6, ground := Go.Ground.guard }], guard := some (6, true) } (v := ?_) (a' := ?_) (tfA 25 792831) hQp ?_ ?_ ?_
  rotate_left 2
  · intro w'; go_simp; with_reducible rfl
  · simp only [Act.put, List.setIfInBounds_toArray, List.set_cons_zero, List.set_cons_succ]; rfl
  refine wpAnyIn_ready (rs := [8, 9, 10]) (by kernel_rfl) (by simp) ?_
  refine AllReadyIn.cons (o := { dst := some 34, op := Go.Op.load 50 (Go.Operand.tmp 6), type := 50, pos := "spread.go:157", after := #[{ on := 6, ground := Go.Ground.guard }], guard := some (6, true) }) rfl (fun K hK => ?_) ?_
  · go_simp
    refine hK _ _ ?_; clear hK K
    refine rdIn (l' := (tfA 25 793087)) (by kernel_rfl) ?_
    refine wpAnyIn_ready (rs := [9, 10]) (by kernel_rfl) (by simp) ?_
    refine AllReadyIn.cons (o := { dst := some 35, op := Go.Op.load 49 (Go.Operand.tmp 2), type := 49, pos := "spread.go:157", after := #[{ on := 6, ground := Go.Ground.guard }], guard := some (6, true) }) rfl (fun K hK => ?_) ?_
    · go_simp
      refine hK _ _ ?_; clear hK K
      refine rdIn (l' := (tfA 25 793599)) (by kernel_rfl) ?_
      refine wpAnyIn_ready (rs := [10]) (by kernel_rfl) (by simp) ?_
      refine AllReadyIn.cons (o := { dst := some 36, op := Go.Op.load 98 (Go.Operand.tmp 1), type := 98, pos := "spread.go:157", after := #[{ on := 6, ground := Go.Ground.guard }], guard := some (6, true) }) rfl (fun K hK => ?_) ?_
      · go_simp
        refine hK _ _ ?_; clear hK K
        refine rdIn (l' := (tfA 25 794623)) (by kernel_rfl) ?_
        refine tkIn 13 39 { dst := some 39, op := Go.Op.nilCheck (Go.Operand.tmp 36), type := 0, pos := "spread.go:157", after := #[{ on := 10, ground := Go.Ground.data }, { on := 6, ground := Go.Ground.guard }], guard := some (6, true) } (v := ?_) (a' := ?_) (tfA 25 802815) hQp ?_ ?_ ?_
        rotate_left 2
        · intro w'; go_simp; with_reducible rfl
        · simp only [Act.put, List.setIfInBounds_toArray, List.set_cons_zero, List.set_cons_succ]; rfl
        refine tkIn 14 40 { dst := some 40, op := Go.Op.fieldAddr 109 (Go.Operand.tmp 39) 2, type := 0, pos := "spread.go:157", after := #[{ on := 13, ground := Go.Ground.data }, { on := 6, ground := Go.Ground.guard }], guard := some (6, true) } (v := ?_) (a' := ?_) (tfA 25 819199) hQp ?_ ?_ ?_
        rotate_left 2
        · intro w'; go_simp; with_reducible rfl
        · simp only [Act.put, List.setIfInBounds_toArray, List.set_cons_zero, List.set_cons_succ]; rfl
        refine tkIn 15 41 { dst := some 41, op := Go.Op.indexAddr 107 (Go.Operand.tmp 40) (Go.Operand.tmp 37), type := 0, pos := "spread.go:157", after := #[{ on := 14, ground := Go.Ground.data }, { on := 11, ground := Go.Ground.data }, { on := 6, ground := Go.Ground.guard }], guard := some (6, true) } (v := ?_) (a' := ?_) (tfA 25 851967) hQp ?_ ?_ ?_
        rotate_left 2
        · intro w'; go_simp; with_reducible rfl
        · simp only [Act.put, List.setIfInBounds_toArray, List.set_cons_zero, List.set_cons_succ]; rfl
        refine tkIn 16 42 { dst := some 42, op := Go.Op.indexAddr 106 (Go.Operand.tmp 41) (Go.Operand.tmp 38), type := 0, pos := "spread.go:157", after := #[{ on := 15, ground := Go.Ground.data }, { on := 12, ground := Go.Ground.data }, { on := 6, ground := Go.Ground.guard }], guard := some (6, true) } (v := ?_) (a' := ?_) (tfA 25 917503) hQp ?_ ?_ ?_
        rotate_left 2
        · intro w'; go_simp; with_reducible rfl
        · simp only [Act.put, List.setIfInBounds_toArray, List.set_cons_zero, List.set_cons_succ]; rfl
        refine wpAnyIn_ready (rs := [17]) (by kernel_rfl) (by simp) ?_
        refine AllReadyIn.cons (o := { dst := some 43, op := Go.Op.load 3 (Go.Operand.tmp 42), type := 3, pos := "spread.go:157", after := #[{ on := 16, ground := Go.Ground.data }, { on := 6, ground := Go.Ground.guard }], guard := some (6, true) }) rfl (fun K hK => ?_) ?_
        · go_simp
          refine hK _ _ ?_; clear hK K
          refine rdIn (l' := (tfA 25 1048575)) (by kernel_rfl) ?_
          exact HA
        exact AllReadyIn.nil
      exact AllReadyIn.nil
    refine AllReadyIn.cons (o := { dst := some 36, op := Go.Op.load 98 (Go.Operand.tmp 1), type := 98, pos := "spread.go:157", after := #[{ on := 6, ground := Go.Ground.guard }], guard := some (6, true) }) rfl (fun K hK => ?_) ?_
    · go_simp
      refine hK _ _ ?_; clear hK K
      refine rdIn (l' := (tfA 25 794111)) (by kernel_rfl) ?_
      refine tkIn 13 39 { dst := some 39, op := Go.Op.nilCheck (Go.Operand.tmp 36), type := 0, pos := "spread.go:157", after := #[{ on := 10, ground := Go.Ground.data }, { on := 6, ground := Go.Ground.guard }], guard := some (6, true) } (v := ?_) (a' := ?_) (tfA 25 802303) hQp ?_ ?_ ?_
      rotate_left 2
      · intro w'; go_simp; with_reducible rfl
      · simp only [Act.put, List.setIfInBounds_toArray, List.set_cons_zero, List.set_cons_succ]; rfl
      refine tkIn 14 40 { dst := some 40, op := Go.Op.fieldAddr 109 (Go.Operand.tmp 39) 2, type := 0, pos := "spread.go:157", after := #[{ on := 13, ground := Go.Ground.data }, { on := 6, ground := Go.Ground.guard }], guard := some (6, true) } (v := ?_) (a' := ?_) (tfA 25 818687) hQp ?_ ?_ ?_
      rotate_left 2
      · intro w'; go_simp; with_reducible rfl
      · simp only [Act.put, List.setIfInBounds_toArray, List.set_cons_zero, List.set_cons_succ]; rfl
      refine tkIn 15 41 { dst := some 41, op := Go.Op.indexAddr 107 (Go.Operand.tmp 40) (Go.Operand.tmp 37), type := 0, pos := "spread.go:157", after := #[{ on := 14, ground := Go.Ground.data }, { on := 11, ground := Go.Ground.data }, { on := 6, ground := Go.Ground.guard }], guard := some (6, true) } (v := ?_) (a' := ?_) (tfA 25 851455) hQp ?_ ?_ ?_
      rotate_left 2
      · intro w'; go_simp; with_reducible rfl
      · simp only [Act.put, List.setIfInBounds_toArray, List.set_cons_zero, List.set_cons_succ]; rfl
      refine tkIn 16 42 { dst := some 42, op := Go.Op.indexAddr 106 (Go.Operand.tmp 41) (Go.Operand.tmp 38), type := 0, pos := "spread.go:157", after := #[{ on := 15, ground := Go.Ground.data }, { on := 12, ground := Go.Ground.data }, { on := 6, ground := Go.Ground.guard }], guard := some (6, true) } (v := ?_) (a' := ?_) (tfA 25 916991) hQp ?_ ?_ ?_
      rotate_left 2
      · intro w'; go_simp; with_reducible rfl
      · simp only [Act.put, List.setIfInBounds_toArray, List.set_cons_zero, List.set_cons_succ]; rfl
      refine wpAnyIn_ready (rs := [9, 17]) (by kernel_rfl) (by simp) ?_
      refine AllReadyIn.cons (o := { dst := some 35, op := Go.Op.load 49 (Go.Operand.tmp 2), type := 49, pos := "spread.go:157", after := #[{ on := 6, ground := Go.Ground.guard }], guard := some (6, true) }) rfl (fun K hK => ?_) ?_
      · go_simp
        refine hK _ _ ?_; clear hK K
        refine rdIn (l' := (tfA 25 917503)) (by kernel_rfl) ?_
        refine wpAnyIn_ready (rs := [17]) (by kernel_rfl) (by simp) ?_
        refine AllReadyIn.cons (o := { dst := some 43, op := Go.Op.load 3 (Go.Operand.tmp 42), type := 3, pos := "spread.go:157", after := #[{ on := 16, ground := Go.Ground.data }, { on := 6, ground := Go.Ground.guard }], guard := some (6, true) }) rfl (fun K hK => ?_) ?_
        · go_simp
          refine hK _ _ ?_; clear hK K
          refine rdIn (l' := (tfA 25 1048575)) (by kernel_rfl) ?_
          exact HA
        exact AllReadyIn.nil
      refine AllReadyIn.cons (o := { dst := some 43, op := Go.Op.load 3 (Go.Operand.tmp 42), type := 3, pos := "spread.go:157", after := #[{ on := 16, ground := Go.Ground.data }, { on := 6, ground := Go.Ground.guard }], guard := some (6, true) }) rfl (fun K hK => ?_) ?_
      · go_simp
        refine hK _ _ ?_; clear hK K
        refine rdIn (l' := (tfA 25 1048063)) (by kernel_rfl) ?_
        refine wpAnyIn_ready (rs := [9]) (by kernel_rfl) (by simp) ?_
        refine AllReadyIn.cons (o := { dst := some 35, op := Go.Op.load 49 (Go.Operand.tmp 2), type := 49, pos := "spread.go:157", after := #[{ on := 6, ground := Go.Ground.guard }], guard := some (6, true) }) rfl (fun K hK => ?_) ?_
        · go_simp
          refine hK _ _ ?_; clear hK K
          refine rdIn (l' := (tfA 25 1048575)) (by kernel_rfl) ?_
          exact HA
        exact AllReadyIn.nil
      exact AllReadyIn.nil
    exact AllReadyIn.nil
  refine AllReadyIn.cons (o := { dst := some 35, op := Go.Op.load 49 (Go.Operand.tmp 2), type := 49, pos := "spread.go:157", after := #[{ on := 6, ground := Go.Ground.guard }], guard := some (6, true) }) rfl (fun K hK => ?_) ?_
  · go_simp
    refine hK _ _ ?_; clear hK K
    refine rdIn (l' := (tfA 25 793343)) (by kernel_rfl) ?_
    refine wpAnyIn_ready (rs := [8, 10]) (by kernel_rfl) (by simp) ?_
    refine AllReadyIn.cons (o := { dst := some 34, op := Go.Op.load 50 (Go.Operand.tmp 6), type := 50, pos := "spread.go:157", after := #[{ on := 6, ground := Go.Ground.guard }], guard := some (6, true) }) rfl (fun K hK => ?_) ?_
    · go_simp
      refine hK _ _ ?_; clear hK K
      refine rdIn (l' := (tfA 25 793599)) (by kernel_rfl) ?_
      refine wpAnyIn_ready (rs := [10]) (by kernel_rfl) (by simp) ?_
      refine AllReadyIn.cons (o := { dst := some 36, op := Go.Op.load 98 (Go.Operand.tmp 1), type := 98, pos := "spread.go:157", after := #[{ on := 6, ground := Go.Ground.guard }], guard := some (6, true) }) rfl (fun K hK => ?_) ?_
      · go_simp
        refine hK _ _ ?_; clear hK K
        refine rdIn (l' := (tfA 25 794623)) (by kernel_rfl) ?_
        refine tkIn 13 39 { dst := some 39, op := Go.Op.nilCheck (Go.Operand.tmp 36), type := 0, pos := "spread.go:157", after := #[{ on := 10, ground := Go.Ground.data }, { on := 6, ground := Go.Ground.guard }], guard := some (6, true) } (v := ?_) (a' := ?_) (tfA 25 802815) hQp ?_ ?_ ?_
        rotate_left 2
        · intro w'; go_simp; with_reducible rfl
        · simp only [Act.put, List.setIfInBounds_toArray, List.set_cons_zero, List.set_cons_succ]; rfl
        refine tkIn 14 40 { dst := some 40, op := Go.Op.fieldAddr 109 (Go.Operand.tmp 39) 2, type := 0, pos := "spread.go:157", after := #[{ on := 13, ground := Go.Ground.data }, { on := 6, ground := Go.Ground.guard }], guard := some (6, true) } (v := ?_) (a' := ?_) (tfA 25 819199) hQp ?_ ?_ ?_
        rotate_left 2
        · intro w'; go_simp; with_reducible rfl
        · simp only [Act.put, List.setIfInBounds_toArray, List.set_cons_zero, List.set_cons_succ]; rfl
        refine tkIn 15 41 { dst := some 41, op := Go.Op.indexAddr 107 (Go.Operand.tmp 40) (Go.Operand.tmp 37), type := 0, pos := "spread.go:157", after := #[{ on := 14, ground := Go.Ground.data }, { on := 11, ground := Go.Ground.data }, { on := 6, ground := Go.Ground.guard }], guard := some (6, true) } (v := ?_) (a' := ?_) (tfA 25 851967) hQp ?_ ?_ ?_
        rotate_left 2
        · intro w'; go_simp; with_reducible rfl
        · simp only [Act.put, List.setIfInBounds_toArray, List.set_cons_zero, List.set_cons_succ]; rfl
        refine tkIn 16 42 { dst := some 42, op := Go.Op.indexAddr 106 (Go.Operand.tmp 41) (Go.Operand.tmp 38), type := 0, pos := "spread.go:157", after := #[{ on := 15, ground := Go.Ground.data }, { on := 12, ground := Go.Ground.data }, { on := 6, ground := Go.Ground.guard }], guard := some (6, true) } (v := ?_) (a' := ?_) (tfA 25 917503) hQp ?_ ?_ ?_
        rotate_left 2
        · intro w'; go_simp; with_reducible rfl
        · simp only [Act.put, List.setIfInBounds_toArray, List.set_cons_zero, List.set_cons_succ]; rfl
        refine wpAnyIn_ready (rs := [17]) (by kernel_rfl) (by simp) ?_
        refine AllReadyIn.cons (o := { dst := some 43, op := Go.Op.load 3 (Go.Operand.tmp 42), type := 3, pos := "spread.go:157", after := #[{ on := 16, ground := Go.Ground.data }, { on := 6, ground := Go.Ground.guard }], guard := some (6, true) }) rfl (fun K hK => ?_) ?_
        · go_simp
          refine hK _ _ ?_; clear hK K
          refine rdIn (l' := (tfA 25 1048575)) (by kernel_rfl) ?_
          exact HA
        exact AllReadyIn.nil
      exact AllReadyIn.nil
    refine AllReadyIn.cons (o := { dst := some 36, op := Go.Op.load 98 (Go.Operand.tmp 1), type := 98, pos := "spread.go:157", after := #[{ on := 6, ground := Go.Ground.guard }], guard := some (6, true) }) rfl (fun K hK => ?_) ?_
    · go_simp
      refine hK _ _ ?_; clear hK K
      refine rdIn (l' := (tfA 25 794367)) (by kernel_rfl) ?_
      refine tkIn 13 39 { dst := some 39, op := Go.Op.nilCheck (Go.Operand.tmp 36), type := 0, pos := "spread.go:157", after := #[{ on := 10, ground := Go.Ground.data }, { on := 6, ground := Go.Ground.guard }], guard := some (6, true) } (v := ?_) (a' := ?_) (tfA 25 802559) hQp ?_ ?_ ?_
      rotate_left 2
      · intro w'; go_simp; with_reducible rfl
      · simp only [Act.put, List.setIfInBounds_toArray, List.set_cons_zero, List.set_cons_succ]; rfl
      refine tkIn 14 40 { dst := some 40, op := Go.Op.fieldAddr 109 (Go.Operand.tmp 39) 2, type := 0, pos := "spread.go:157", after := #[{ on := 13, ground := Go.Ground.data }, { on := 6, ground := Go.Ground.guard }], guard := some (6, true) } (v := ?_) (a' := ?_) (tfA 25 818943) hQp ?_ ?_ ?_
      rotate_left 2
      · intro w'; go_simp; with_reducible rfl
      · simp only [Act.put, List.setIfInBounds_toArray, List.set_cons_zero, List.set_cons_succ]; rfl
      refine tkIn 15 41 { dst := some 41, op := Go.Op.indexAddr 107 (Go.Operand.tmp 40) (Go.Operand.tmp 37), type := 0, pos := "spread.go:157", after := #[{ on := 14, ground := Go.Ground.data }, { on := 11, ground := Go.Ground.data }, { on := 6, ground := Go.Ground.guard }], guard := some (6, true) } (v := ?_) (a' := ?_) (tfA 25 851711) hQp ?_ ?_ ?_
      rotate_left 2
      · intro w'; go_simp; with_reducible rfl
      · simp only [Act.put, List.setIfInBounds_toArray, List.set_cons_zero, List.set_cons_succ]; rfl
      refine tkIn 16 42 { dst := some 42, op := Go.Op.indexAddr 106 (Go.Operand.tmp 41) (Go.Operand.tmp 38), type := 0, pos := "spread.go:157", after := #[{ on := 15, ground := Go.Ground.data }, { on := 12, ground := Go.Ground.data }, { on := 6, ground := Go.Ground.guard }], guard := some (6, true) } (v := ?_) (a' := ?_) (tfA 25 917247) hQp ?_ ?_ ?_
      rotate_left 2
      · intro w'; go_simp; with_reducible rfl
      · simp only [Act.put, List.setIfInBounds_toArray, List.set_cons_zero, List.set_cons_succ]; rfl
      refine wpAnyIn_ready (rs := [8, 17]) (by kernel_rfl) (by simp) ?_
      refine AllReadyIn.cons (o := { dst := some 34, op := Go.Op.load 50 (Go.Operand.tmp 6), type := 50, pos := "spread.go:157", after := #[{ on := 6, ground := Go.Ground.guard }], guard := some (6, true) }) rfl (fun K hK => ?_) ?_
      · go_simp
        refine hK _ _ ?_; clear hK K
        refine rdIn (l' := (tfA 25 917503)) (by kernel_rfl) ?_
        refine wpAnyIn_ready (rs := [17]) (by kernel_rfl) (by simp) ?_
        refine AllReadyIn.cons (o := { dst := some 43, op := Go.Op.load 3 (Go.Operand.tmp 42), type := 3, pos := "spread.go:157", after := #[{ on := 16, ground := Go.Ground.data }, { on := 6, ground := Go.Ground.guard }], guard := some (6, true) }) rfl (fun K hK => ?_) ?_
        · go_simp
          refine hK _ _ ?_; clear hK K
          refine rdIn (l' := (tfA 25 1048575)) (by kernel_rfl) ?_
          exact HA
        exact AllReadyIn.nil
      refine AllReadyIn.cons (o := { dst := some 43, op := Go.Op.load 3 (Go.Operand.tmp 42), type := 3, pos := "spread.go:157", after := #[{ on := 16, ground := Go.Ground.data }, { on := 6, ground := Go.Ground.guard }], guard := some (6, true) }) rfl (fun K hK => ?_) ?_
      · go_simp
        refine hK _ _ ?_; clear hK K
        refine rdIn (l' := (tfA 25 1048319)) (by kernel_rfl) ?_
        exact HB
      exact AllReadyIn.nil
    exact AllReadyIn.nil
  refine AllReadyIn.cons (o := { dst := some 36, op := Go.Op.load 98 (Go.Operand.tmp 1), type := 98, pos := "spread.go:157", after := #[{ on := 6, ground := Go.Ground.guard }], guard := some (6, true) }) rfl (fun K hK => ?_) ?_
  · go_simp
    refine hK _ _ ?_; clear hK K
    refine rdIn (l' := (tfA 25 793855)) (by kernel_rfl) ?_
    refine tkIn 13 39 { dst := some 39, op := Go.Op.nilCheck (Go.Operand.tmp 36), type := 0, pos := "spread.go:157", after := #[{ on := 10, ground := Go.Ground.data }, { on := 6, ground := Go.Ground.guard }], guard := some (6, true) } (v := ?_) (a' := ?_) (tfA 25 802047) hQp ?_ ?_ ?_
    rotate_left 2
    · intro w'; go_simp; with_reducible rfl
    · simp only [Act.put, List.setIfInBounds_toArray, List.set_cons_zero, List.set_cons_succ]; rfl
    refine tkIn 14 40 { dst := some 40, op := Go.Op.fieldAddr 109 (Go.Operand.tmp 39) 2, type := 0, pos := "spread.go:157", after := #[{ on := 13, ground := Go.Ground.data }, { on := 6, ground := Go.Ground.guard }], guard := some (6, true) } (v := ?_) (a' := ?_) (tfA 25 818431) hQp ?_ ?_ ?_
    rotate_left 2
    · intro w'; go_simp; with_reducible rfl
    · simp only [Act.put, List.setIfInBounds_toArray, List.set_cons_zero, List.set_cons_succ]; rfl
    refine tkIn 15 41 { dst := some 41, op := Go.Op.indexAddr 107 (Go.Operand.tmp 40) (Go.Operand.tmp 37), type := 0, pos := "spread.go:157", after := #[{ on := 14, ground := Go.Ground.data }, { on := 11, ground := Go.Ground.data }, { on := 6, ground := Go.Ground.guard }], guard := some (6, true) } (v := ?_) (a' := ?_) (tfA 25 851199) hQp ?_ ?_ ?_
    rotate_left 2
    · intro w'; go_simp; with_reducible rfl
    · simp only [Act.put, List.setIfInBounds_toArray, List.set_cons_zero, List.set_cons_succ]; rfl
    refine tkIn 16 42 { dst := some 42, op := Go.Op.indexAddr 106 (Go.Operand.tmp 41) (Go.Operand.tmp 38), type := 0, pos := "spread.go:157", after := #[{ on := 15, ground := Go.Ground.data }, { on := 12, ground := Go.Ground.data }, { on := 6, ground := Go.Ground.guard }], guard := some (6, true) } (v := ?_) (a' := ?_) (tfA 25 916735) hQp ?_ ?_ ?_
    rotate_left 2
    · intro w'; go_simp; with_reducible rfl
    · simp only [Act.put, List.setIfInBounds_toArray, List.set_cons_zero, List.set_cons_succ]; rfl
    refine wpAnyIn_ready (rs := [8, 9, 17]) (by kernel_rfl) (by simp) ?_
    refine AllReadyIn.cons (o := { dst := some 34, op := Go.Op.load 50 (Go.Operand.tmp 6), type := 50, pos := "spread.go:157", after := #[{ on := 6, ground := Go.Ground.guard }], guard := some (6, true) }) rfl (fun K hK => ?_) ?_
    · go_simp
      refine hK _ _ ?_; clear hK K
      refine rdIn (l' := (tfA 25 916991)) (by kernel_rfl) ?_
      refine wpAnyIn_ready (rs := [9, 17]) (by kernel_rfl) (by simp) ?_
      refine AllReadyIn.cons (o := { dst := some 35, op := Go.Op.load 49 (Go.Operand.tmp 2), type := 49, pos := "spread.go:157", after := #[{ on := 6, ground := Go.Ground.guard }], guard := some (6, true) }) rfl (fun K hK => ?_) ?_
      · go_simp
        refine hK _ _ ?_; clear hK K
        refine rdIn (l' := (tfA 25 917503)) (by kernel_rfl) ?_
        refine wpAnyIn_ready (rs := [17]) (by kernel_rfl) (by simp) ?_
        refine AllReadyIn.cons (o := { dst := some 43, op := Go.Op.load 3 (Go.Operand.tmp 42), type := 3, pos := "spread.go:157", after := #[{ on := 16, ground := Go.Ground.data }, { on := 6, ground := Go.Ground.guard }], guard := some (6, true) }) rfl (fun K hK => ?_) ?_
        · go_simp
          refine hK _ _ ?_; clear hK K
          refine rdIn (l' := (tfA 25 1048575)) (by kernel_rfl) ?_
          exact HA
        exact AllReadyIn.nil
      refine AllReadyIn.cons (o := { dst := some 43, op := Go.Op.load 3 (Go.Operand.tmp 42), type := 3, pos := "spread.go:157", after := #[{ on := 16, ground := Go.Ground.data }, { on := 6, ground := Go.Ground.guard }], guard := some (6, true) }) rfl (fun K hK => ?_) ?_
      · go_simp
        refine hK _ _ ?_; clear hK K
        refine rdIn (l' := (tfA 25 1048063)) (by kernel_rfl) ?_
        refine wpAnyIn_ready (rs := [9]) (by kernel_rfl) (by simp) ?_
        refine AllReadyIn.cons (o := { dst := some 35, op := Go.Op.load 49 (Go.Operand.tmp 2), type := 49, pos := "spread.go:157", after := #[{ on := 6, ground := Go.Ground.guard }], guard := some (6, true) }) rfl (fun K hK => ?_) ?_
        · go_simp
          refine hK _ _ ?_; clear hK K
          refine rdIn (l' := (tfA 25 1048575)) (by kernel_rfl) ?_
          exact HA
        exact AllReadyIn.nil
      exact AllReadyIn.nil
    refine AllReadyIn.cons (o := { dst := some 35, op := Go.Op.load 49 (Go.Operand.tmp 2), type := 49, pos := "spread.go:157", after := #[{ on := 6, ground := Go.Ground.guard }], guard := some (6, true) }) rfl (fun K hK => ?_) ?_
    · go_simp
      refine hK _ _ ?_; clear hK K
      refine rdIn (l' := (tfA 25 917247)) (by kernel_rfl) ?_
      refine wpAnyIn_ready (rs := [8, 17]) (by kernel_rfl) (by simp) ?_
      refine AllReadyIn.cons (o := { dst := some 34, op := Go.Op.load 50 (Go.Operand.tmp 6), type := 50, pos := "spread.go:157", after := #[{ on := 6, ground := Go.Ground.guard }], guard := some (6, true) }) rfl (fun K hK => ?_) ?_
      · go_simp
        refine hK _ _ ?_; clear hK K
        refine rdIn (l' := (tfA 25 917503)) (by kernel_rfl) ?_
        refine wpAnyIn_ready (rs := [17]) (by kernel_rfl) (by simp) ?_
        refine AllReadyIn.cons (o := { dst := some 43, op := Go.Op.load 3 (Go.Operand.tmp 42), type := 3, pos := "spread.go:157", after := #[{ on := 16, ground := Go.Ground.data }, { on := 6, ground := Go.Ground.guard }], guard := some (6, true) }) rfl (fun K hK => ?_) ?_
        · go_simp
          refine hK _ _ ?_; clear hK K
          refine rdIn (l' := (tfA 25 1048575)) (by kernel_rfl) ?_
          exact HA
        exact AllReadyIn.nil
      refine AllReadyIn.cons (o := { dst := some 43, op := Go.Op.load 3 (Go.Operand.tmp 42), type := 3, pos := "spread.go:157", after := #[{ on := 16, ground := Go.Ground.data }, { on := 6, ground := Go.Ground.guard }], guard := some (6, true) }) rfl (fun K hK => ?_) ?_
      · go_simp
        refine hK _ _ ?_; clear hK K
        refine rdIn (l' := (tfA 25 1048319)) (by kernel_rfl) ?_
        exact HB
      exact AllReadyIn.nil
    refine AllReadyIn.cons (o := { dst := some 43, op := Go.Op.load 3 (Go.Operand.tmp 42), type := 3, pos := "spread.go:157", after := #[{ on := 16, ground := Go.Ground.data }, { on := 6, ground := Go.Ground.guard }], guard := some (6, true) }) rfl (fun K hK => ?_) ?_
    · go_simp
      refine hK _ _ ?_; clear hK K
      refine rdIn (l' := (tfA 25 1047807)) (by kernel_rfl) ?_
      refine wpAnyIn_ready (rs := [8, 9]) (by kernel_rfl) (by simp) ?_
      refine AllReadyIn.cons (o := { dst := some 34, op := Go.Op.load 50 (Go.Operand.tmp 6), type := 50, pos := "spread.go:157", after := #[{ on := 6, ground := Go.Ground.guard }], guard := some (6, true) }) rfl (fun K hK => ?_) ?_
      · go_simp
        refine hK _ _ ?_; clear hK K
        refine rdIn (l' := (tfA 25 1048063)) (by kernel_rfl) ?_
        refine wpAnyIn_ready (rs := [9]) (by kernel_rfl) (by simp) ?_
        refine AllReadyIn.cons (o := { dst := some 35, op := Go.Op.load 49 (Go.Operand.tmp 2), type := 49, pos := "spread.go:157", after := #[{ on := 6, ground := Go.Ground.guard }], guard := some (6, true) }) rfl (fun K hK => ?_) ?_
        · go_simp
          refine hK _ _ ?_; clear hK K
          refine rdIn (l' := (tfA 25 1048575)) (by kernel_rfl) ?_
          exact HA
        exact AllReadyIn.nil
      refine AllReadyIn.cons (o := { dst := some 35, op := Go.Op.load 49 (Go.Operand.tmp 2), type := 49, pos := "spread.go:157", after := #[{ on := 6, ground := Go.Ground.guard }], guard := some (6, true) }) rfl (fun K hK => ?_) ?_
      · go_simp
        refine hK _ _ ?_; clear hK K
        refine rdIn (l' := (tfA 25 1048319)) (by kernel_rfl) ?_
        exact HB
      exact AllReadyIn.nil
    exact AllReadyIn.nil
  exact AllReadyIn.nil
end Go.Proofs.Ythngclneffngbaa.Pr
