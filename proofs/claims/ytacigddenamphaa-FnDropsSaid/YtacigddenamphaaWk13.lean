/- The walk over the law on drops. -/
import Derived.Test.YtacigddenamphaaWk12
namespace Go.Proofs.Ytacigddenamphaa
open Go.RowKit

set_option maxHeartbeats 8000000 in
theorem drops_calls0 (v1 v2 : Value) (o1 o2 h1 h2 l1 l2 m1 m2 n1 n2 ia1 ia2 ib1 ib2 ic1 ic2 ja1 ja2 jb1 jb2 jc1 jc2 sa1 sa2 sb1 sb2 sc1 sc2 ba1 ba2 bb1 bb2 bc1 bc2 xa1 xa2 xb1 xb2 xc1 xc2 ya1 ya2 yb1 yb2 yc1 yc2 ua1 ua2 ub1 ub2 uc1 uc2 la1 la2 lb1 lb2 lc1 lc2 da1 da2 db1 db2 dc1 dc2 ea1 ea2 eb1 eb2 ec1 ec2 ta1 ta2 tb1 tb2 tc1 tc2 p1 p2 q1 q2 r1 r2 d : Nat) (w : World)
    (f5 : ∀ w', Ext w w' → Calls Try.prog 5 #[v1, v2] w' fun e w'' => e = .returned (.bool false) ∧ w'' = w')
    (fo : ∀ w', Ext w w' → Calls Try.prog 7 #[v1, .int .i64 0] w' fun e w'' => e = .returned (.complex .f32 o1 o2) ∧ w'' = w')
    (fh : ∀ w', Ext w w' → Calls Try.prog 7 #[v1, .int .i64 1] w' fun e w'' => e = .returned (.complex .f32 h1 h2) ∧ w'' = w')
    (fk : ∀ w', Ext w w' → Calls Try.prog 17 #[v1, .int .i64 2, .int .i64 3] w' fun e w'' => e = .returned (.int .i64 0) ∧ w'' = w')
    (fl : ∀ w', Ext w w' → Calls Try.prog 6 #[v1, .int .i64 3] w' fun e w'' => e = .returned (.agg #[.complex .f32 l1 l2, .complex .f32 m1 m2, .complex .f32 n1 n2]) ∧ Ext w' w'')
    (fi : ∀ w', Ext w w' → Calls Try.prog 6 #[v2, .int .i64 0] w' fun e w'' => e = .returned (.agg #[.complex .f32 ia1 ia2, .complex .f32 ib1 ib2, .complex .f32 ic1 ic2]) ∧ Ext w' w'')
    (fj : ∀ w', Ext w w' → Calls Try.prog 6 #[v2, .int .i64 3] w' fun e w'' => e = .returned (.agg #[.complex .f32 ja1 ja2, .complex .f32 jb1 jb2, .complex .f32 jc1 jc2]) ∧ Ext w' w'')
    (gs : ∀ w, Calls Try.prog 19 #[.agg #[.complex .f32 ia1 ia2, .complex .f32 ib1 ib2, .complex .f32 ic1 ic2], .agg #[.complex .f32 ja1 ja2, .complex .f32 jb1 jb2, .complex .f32 jc1 jc2]] w fun e w' => e = .returned (.agg #[.complex .f32 sa1 sa2, .complex .f32 sb1 sb2, .complex .f32 sc1 sc2]) ∧ Ext w w')
    (gb : ∀ w, Calls Try.prog 18 #[.agg #[.int .i64 0, .complex .f32 o1 o2, .complex .f32 h1 h2, .int .i64 0, .complex .f32 l1 l2, .complex .f32 m1 m2, .complex .f32 n1 n2, .int .i64 0], .agg #[.complex .f32 sa1 sa2, .complex .f32 sb1 sb2, .complex .f32 sc1 sc2]] w fun e w' => e = .returned (.agg #[.complex .f32 ba1 ba2, .complex .f32 bb1 bb2, .complex .f32 bc1 bc2]) ∧ Ext w w')
    (gx : ∀ w, Calls Try.prog 18 #[.agg #[.int .i64 0, .complex .f32 o1 o2, .complex .f32 h1 h2, .int .i64 0, .complex .f32 l1 l2, .complex .f32 m1 m2, .complex .f32 n1 n2, .int .i64 0], .agg #[.complex .f32 ia1 ia2, .complex .f32 ib1 ib2, .complex .f32 ic1 ic2]] w fun e w' => e = .returned (.agg #[.complex .f32 xa1 xa2, .complex .f32 xb1 xb2, .complex .f32 xc1 xc2]) ∧ Ext w w')
    (gy : ∀ w, Calls Try.prog 18 #[.agg #[.int .i64 0, .complex .f32 o1 o2, .complex .f32 h1 h2, .int .i64 0, .complex .f32 l1 l2, .complex .f32 m1 m2, .complex .f32 n1 n2, .int .i64 0], .agg #[.complex .f32 ja1 ja2, .complex .f32 jb1 jb2, .complex .f32 jc1 jc2]] w fun e w' => e = .returned (.agg #[.complex .f32 ya1 ya2, .complex .f32 yb1 yb2, .complex .f32 yc1 yc2]) ∧ Ext w w')
    (gu : ∀ w, Calls Try.prog 19 #[.agg #[.complex .f32 xa1 xa2, .complex .f32 xb1 xb2, .complex .f32 xc1 xc2], .agg #[.complex .f32 ya1 ya2, .complex .f32 yb1 yb2, .complex .f32 yc1 yc2]] w fun e w' => e = .returned (.agg #[.complex .f32 ua1 ua2, .complex .f32 ub1 ub2, .complex .f32 uc1 uc2]) ∧ Ext w w')
    (gl : ∀ w, Calls Try.prog 20 #[.agg #[.complex .f32 ba1 ba2, .complex .f32 bb1 bb2, .complex .f32 bc1 bc2], .agg #[.complex .f32 ya1 ya2, .complex .f32 yb1 yb2, .complex .f32 yc1 yc2]] w fun e w' => e = .returned (.agg #[.complex .f32 la1 la2, .complex .f32 lb1 lb2, .complex .f32 lc1 lc2]) ∧ Ext w w')
    (gd : ∀ w, Calls Try.prog 21 #[.agg #[.complex .f32 ia1 ia2, .complex .f32 ib1 ib2, .complex .f32 ic1 ic2], .float .f32 1073741824] w fun e w' => e = .returned (.agg #[.complex .f32 da1 da2, .complex .f32 db1 db2, .complex .f32 dc1 dc2]) ∧ Ext w w')
    (ge : ∀ w, Calls Try.prog 19 #[.agg #[.complex .f32 ia1 ia2, .complex .f32 ib1 ib2, .complex .f32 ic1 ic2], .agg #[.complex .f32 ia1 ia2, .complex .f32 ib1 ib2, .complex .f32 ic1 ic2]] w fun e w' => e = .returned (.agg #[.complex .f32 ea1 ea2, .complex .f32 eb1 eb2, .complex .f32 ec1 ec2]) ∧ Ext w w')
    (nq1 : ∀ w, (binOp .neq 26 (.agg #[.complex .f32 ba1 ba2, .complex .f32 bb1 bb2, .complex .f32 bc1 bc2]) (.agg #[.complex .f32 ua1 ua2, .complex .f32 ub1 ub2, .complex .f32 uc1 uc2])).run Try.prog w = .ok (.bool false) w)
    (nq2 : ∀ w, (binOp .neq 26 (.agg #[.complex .f32 la1 la2, .complex .f32 lb1 lb2, .complex .f32 lc1 lc2]) (.agg #[.complex .f32 xa1 xa2, .complex .f32 xb1 xb2, .complex .f32 xc1 xc2])).run Try.prog w = .ok (.bool false) w)
    (nq3 : ∀ w, (binOp .neq 26 (.agg #[.complex .f32 da1 da2, .complex .f32 db1 db2, .complex .f32 dc1 dc2]) (.agg #[.complex .f32 ea1 ea2, .complex .f32 eb1 eb2, .complex .f32 ec1 ec2])).run Try.prog w = .ok (.bool false) w)
    (gt : ∀ w, Calls Try.prog 22 #[.agg #[.int .i64 0, .complex .f32 o1 o2, .complex .f32 h1 h2, .int .i64 0, .complex .f32 l1 l2, .complex .f32 m1 m2, .complex .f32 n1 n2, .int .i64 0], .agg #[.complex .f32 1090519040 0, .complex .f32 0 1090519040, .complex .f32 3238002688 0]] w fun e w' => e = .returned (.agg #[.complex .f32 ta1 ta2, .complex .f32 tb1 tb2, .complex .f32 tc1 tc2]) ∧ Ext w w')
    (gz : ∀ w, Calls Try.prog 22 #[.agg #[.int .i64 0, .complex .f32 0 0, .complex .f32 0 0, .int .i64 0, .complex .f32 0 0, .complex .f32 0 0, .complex .f32 0 0, .int .i64 0], .agg #[.complex .f32 1090519040 0, .complex .f32 1090519040 0, .complex .f32 1090519040 0]] w fun e w' => e = .returned (.agg #[.complex .f32 0 0, .complex .f32 0 0, .complex .f32 0 0]) ∧ Ext w w')
    (gp : ∀ w, Calls Try.prog 23 #[.agg #[.complex .f32 1090519040 0, .complex .f32 0 1090519040, .complex .f32 3238002688 0], .agg #[.complex .f32 ta1 ta2, .complex .f32 tb1 tb2, .complex .f32 tc1 tc2]] w fun e w' => e = .returned (.complex .f32 p1 p2) ∧ Ext w w')
    (k1 : floatBits .add .f32 l1 m1 = some q1)
    (k3 : floatBits .add .f32 q1 n1 = some r1)
    (k2 : floatBits .add .f32 l2 m2 = some q2)
    (k4 : floatBits .add .f32 q2 n2 = some r2)
    (ga : ∀ w, Calls Try.prog 12 #[.complex .f32 p1 p2, .complex .f32 r1 r2] w fun e w' => e = .returned (.float .f64 d) ∧ w' = w)
    (gc : (FloatKind.f64.format.order d 4562254508917369340 == some .lt) = true)
    : Calls Try.prog 4 #[v1, v2] w fun e w' => e = .returned (.bool true) ∧ Ext w w' := by
  have k1 := fcop (.inl rfl) k1 k2; have k3 := fcop (.inl rfl) k3 k4
  have F5 := Lib.hid f5
  have FO := Lib.hid fo
  have FH := Lib.hid fh
  have FK := Lib.hid fk
  have FL := Lib.hid fl
  have FI := Lib.hid fi
  have FJ := Lib.hid fj
  have GS := Lib.hid gs
  have GB := Lib.hid gb
  have GX := Lib.hid gx
  have GY := Lib.hid gy
  have GU := Lib.hid gu
  have GL := Lib.hid gl
  have GD := Lib.hid gd
  have GE := Lib.hid ge
  have GT := Lib.hid gt
  have GZ := Lib.hid gz
  have GP := Lib.hid gp
  have GA := Lib.hid ga
  clear f5 fo fh fk fl fi fj gs gb gx gy gu gl gd ge gt gz gp ga
  have nqz : ∀ w, (binOp .neq 26 (.agg #[.complex .f32 0 0, .complex .f32 0 0, .complex .f32 0 0]) (.agg #[.complex .f32 0 0, .complex .f32 0 0, .complex .f32 0 0])).run Try.prog w = .ok (.bool false) w := fun _ => by kernel_rfl
  go_enter Try.func4, Try.ntmps4
  go_wp2_with (first | (go_at_call 5; refine (F5.out _ (Ext.refl _)).mono ?_; rintro e w' ⟨rfl, rfl⟩) | (go_at_call 7; first | ((with_reducible refine (FO.out _ (Ext.refl _)).mono ?_); rintro e w' ⟨rfl, rfl⟩) | ((with_reducible refine (FH.out _ (Ext.refl _)).mono ?_); rintro e w' ⟨rfl, rfl⟩)) | (go_at_call 17; refine (FK.out _ (Ext.refl _)).mono ?_; rintro e w' ⟨rfl, rfl⟩))
  refine (FL.out _ (Ext.refl _)).mono ?_
  rintro e W1 ⟨rfl, E1⟩
  have HB := heap_alloc_at W1 (.cells #[.int .i64 0, .complex .f32 o1 o2, .complex .f32 h1 h2, .int .i64 0, .complex .f32 l1 l2, .complex .f32 m1 m2, .complex .f32 n1 n2, .int .i64 0] 44) _ rfl
  have HE := E1.alloc (.cells #[.int .i64 0, .complex .f32 o1 o2, .complex .f32 h1 h2, .int .i64 0, .complex .f32 l1 l2, .complex .f32 m1 m2, .complex .f32 n1 n2, .int .i64 0] 44)
  clear E1
  have cB0 := cell_of_heap (i := 0) HB rfl
  have cB1 := cell_of_heap (i := 1) HB rfl
  have cB2 := cell_of_heap (i := 2) HB rfl
  have cB3 := cell_of_heap (i := 3) HB rfl
  have cB4 := cell_of_heap (i := 4) HB rfl
  have cB5 := cell_of_heap (i := 5) HB rfl
  have cB6 := cell_of_heap (i := 6) HB rfl
  have cB7 := cell_of_heap (i := 7) HB rfl
  have KB := Lib.hid HB
  clear HB
  go_wp2_with fail
  generalize W1.alloc (.cells #[.int .i64 0, .complex .f32 o1 o2, .complex .f32 h1 h2, .int .i64 0, .complex .f32 l1 l2, .complex .f32 m1 m2, .complex .f32 n1 n2, .int .i64 0] 44) = V1 at *
  generalize W1.heap.size = nB at *
  have HB := KB.out
  clear KB
  clear cB0 cB1 cB2 cB3 cB4 cB5 cB6 cB7
  refine (FI.out _ HE).mono ?_
  rintro e W2 ⟨rfl, E2⟩
  have HB := heap_alloc_old (.cells #[.complex .f32 ia1 ia2, .complex .f32 ib1 ib2, .complex .f32 ic1 ic2] 26) (E2.heap HB)
  have HI := heap_alloc_at W2 (.cells #[.complex .f32 ia1 ia2, .complex .f32 ib1 ib2, .complex .f32 ic1 ic2] 26) _ rfl
  have HE := (HE.trans E2).alloc (.cells #[.complex .f32 ia1 ia2, .complex .f32 ib1 ib2, .complex .f32 ic1 ic2] 26)
  clear E2
  have cB0 := cell_of_heap (i := 0) HB rfl
  have cB1 := cell_of_heap (i := 1) HB rfl
  have cB2 := cell_of_heap (i := 2) HB rfl
  have cB3 := cell_of_heap (i := 3) HB rfl
  have cB4 := cell_of_heap (i := 4) HB rfl
  have cB5 := cell_of_heap (i := 5) HB rfl
  have cB6 := cell_of_heap (i := 6) HB rfl
  have cB7 := cell_of_heap (i := 7) HB rfl
  have cI0 := cell_of_heap (i := 0) HI rfl
  have cI1 := cell_of_heap (i := 1) HI rfl
  have cI2 := cell_of_heap (i := 2) HI rfl
  have KB := Lib.hid HB
  have KI := Lib.hid HI
  clear HB HI
  go_wp2_with fail
  generalize W2.alloc (.cells #[.complex .f32 ia1 ia2, .complex .f32 ib1 ib2, .complex .f32 ic1 ic2] 26) = V2 at *
  generalize W2.heap.size = nI at *
  have HB := KB.out
  have HI := KI.out
  clear KB KI
  clear cB0 cB1 cB2 cB3 cB4 cB5 cB6 cB7 cI0 cI1 cI2
  refine (FJ.out _ HE).mono ?_
  rintro e W3 ⟨rfl, E3⟩
  have HB := heap_alloc_old (.cells #[.complex .f32 ja1 ja2, .complex .f32 jb1 jb2, .complex .f32 jc1 jc2] 26) (E3.heap HB)
  have HI := heap_alloc_old (.cells #[.complex .f32 ja1 ja2, .complex .f32 jb1 jb2, .complex .f32 jc1 jc2] 26) (E3.heap HI)
  have HJ := heap_alloc_at W3 (.cells #[.complex .f32 ja1 ja2, .complex .f32 jb1 jb2, .complex .f32 jc1 jc2] 26) _ rfl
  have HE := (HE.trans E3).alloc (.cells #[.complex .f32 ja1 ja2, .complex .f32 jb1 jb2, .complex .f32 jc1 jc2] 26)
  clear E3
  have cB0 := cell_of_heap (i := 0) HB rfl
  have cB1 := cell_of_heap (i := 1) HB rfl
  have cB2 := cell_of_heap (i := 2) HB rfl
  have cB3 := cell_of_heap (i := 3) HB rfl
  have cB4 := cell_of_heap (i := 4) HB rfl
  have cB5 := cell_of_heap (i := 5) HB rfl
  have cB6 := cell_of_heap (i := 6) HB rfl
  have cB7 := cell_of_heap (i := 7) HB rfl
  have cI0 := cell_of_heap (i := 0) HI rfl
  have cI1 := cell_of_heap (i := 1) HI rfl
  have cI2 := cell_of_heap (i := 2) HI rfl
  have cJ0 := cell_of_heap (i := 0) HJ rfl
  have cJ1 := cell_of_heap (i := 1) HJ rfl
  have cJ2 := cell_of_heap (i := 2) HJ rfl
  have KB := Lib.hid HB
  have KI := Lib.hid HI
  have KJ := Lib.hid HJ
  clear HB HI HJ
  go_wp2_with fail
  generalize W3.alloc (.cells #[.complex .f32 ja1 ja2, .complex .f32 jb1 jb2, .complex .f32 jc1 jc2] 26) = V3 at *
  generalize W3.heap.size = nJ at *
  have HB := KB.out
  have HI := KI.out
  have HJ := KJ.out
  clear KB KI KJ
  clear cB0 cB1 cB2 cB3 cB4 cB5 cB6 cB7 cI0 cI1 cI2 cJ0 cJ1 cJ2
  generalize hA0 : ({ tmps := _, defers := _ } : Act) = A0
  have h5 : A0.eval (.tmp 5) = .pointer (some ⟨nB, 0, none⟩) := by rw [← hA0]; rfl
  have h6 : A0.eval (.tmp 6) = .pointer (some ⟨nI, 0, none⟩) := by rw [← hA0]; rfl
  have h7 : A0.eval (.tmp 7) = .pointer (some ⟨nJ, 0, none⟩) := by rw [← hA0]; rfl
  have hsz : A0.tmps.size = 111 := by rw [← hA0]; rfl
  refine wp_region_fresh (A0 := A0) (w0 := V3) 6 5 8 26 (fun i => [31, 32, 33, 34, 35, 8].getD i 0) (fun i => ([.agg #[.int .i64 0, .complex .f32 o1 o2, .complex .f32 h1 h2, .int .i64 0, .complex .f32 l1 l2, .complex .f32 m1 m2, .complex .f32 n1 n2, .int .i64 0], .agg #[.complex .f32 ia1 ia2, .complex .f32 ib1 ib2, .complex .f32 ic1 ic2], .agg #[.complex .f32 ja1 ja2, .complex .f32 jb1 jb2, .complex .f32 jc1 jc2], .agg #[.complex .f32 sa1 sa2, .complex .f32 sb1 sb2, .complex .f32 sc1 sc2], .agg #[.complex .f32 ba1 ba2, .complex .f32 bb1 bb2, .complex .f32 bc1 bc2], undef] : List Value).getD i undef) #[.complex .f32 0 0, .complex .f32 0 0, .complex .f32 0 0] #[.complex .f32 ba1 ba2, .complex .f32 bb1 bb2, .complex .f32 bc1 bc2]
    (by kernel_rfl) (by kernel_rfl) rfl (by decide) (by decide) rfl ?_ ?_ ?_ ?_ ?_ ?_
  · intro i o hi ho
    have hi' : i = 0 ∨ i = 1 ∨ i = 2 ∨ i = 3 ∨ i = 4 ∨ i = 5 := by omega
    rcases hi' with rfl | rfl | rfl | rfl | rfl | rfl <;> (cases ho; exact ⟨rfl, rfl⟩)
  · intro o ho
    cases ho
    refine ⟨rfl, rfl, fun j hj => ?_⟩
    have hj' : j = 0 ∨ j = 1 ∨ j = 2 ∨ j = 3 ∨ j = 4 ∨ j = 5 := by omega
    rcases hj' with rfl | rfl | rfl | rfl | rfl | rfl <;> exact ⟨⟨_, .phase⟩, by simp, rfl, rfl⟩
  · intro i o hi hik ho f w hE hf hn
    have HB := hE.heap HB
    have HI := hE.heap HI
    have HJ := hE.heap HJ
    have cB0 := cell_of_heap (i := 0) HB rfl
    have cB1 := cell_of_heap (i := 1) HB rfl
    have cB2 := cell_of_heap (i := 2) HB rfl
    have cB3 := cell_of_heap (i := 3) HB rfl
    have cB4 := cell_of_heap (i := 4) HB rfl
    have cB5 := cell_of_heap (i := 5) HB rfl
    have cB6 := cell_of_heap (i := 6) HB rfl
    have cB7 := cell_of_heap (i := 7) HB rfl
    have cI0 := cell_of_heap (i := 0) HI rfl
    have cI1 := cell_of_heap (i := 1) HI rfl
    have cI2 := cell_of_heap (i := 2) HI rfl
    have cJ0 := cell_of_heap (i := 0) HJ rfl
    have cJ1 := cell_of_heap (i := 1) HJ rfl
    have cJ2 := cell_of_heap (i := 2) HJ rfl
    clear HB HI HJ HE
    have e5 : (upd A0 f).eval (.tmp 5) = .pointer (some ⟨nB, 0, none⟩) := (upd_eval_none (hn 5 (by decide))).trans h5
    have e6 : (upd A0 f).eval (.tmp 6) = .pointer (some ⟨nI, 0, none⟩) := (upd_eval_none (hn 6 (by decide))).trans h6
    have e7 : (upd A0 f).eval (.tmp 7) = .pointer (some ⟨nJ, 0, none⟩) := (upd_eval_none (hn 7 (by decide))).trans h7
    have hi' : i = 0 ∨ i = 1 ∨ i = 2 ∨ i = 3 ∨ i = 4 ∨ i = 5 := by omega
    rcases hi' with rfl | rfl | rfl | rfl | rfl | rfl
    · cases ho
      clear hf hn
      unfold YieldsE
      generalize (upd A0 f).eval = ev at *
      refine .inl ?_
      show _ = Result.ok (Next.value (.agg #[.int .i64 0, .complex .f32 o1 o2, .complex .f32 h1 h2, .int .i64 0, .complex .f32 l1 l2, .complex .f32 m1 m2, .complex .f32 n1 n2, .int .i64 0])) w
      go_simp
    · cases ho
      clear hf hn
      unfold YieldsE
      generalize (upd A0 f).eval = ev at *
      refine .inl ?_
      show _ = Result.ok (Next.value (.agg #[.complex .f32 ia1 ia2, .complex .f32 ib1 ib2, .complex .f32 ic1 ic2])) w
      go_simp
    · cases ho
      clear hf hn
      unfold YieldsE
      generalize (upd A0 f).eval = ev at *
      refine .inl ?_
      show _ = Result.ok (Next.value (.agg #[.complex .f32 ja1 ja2, .complex .f32 jb1 jb2, .complex .f32 jc1 jc2])) w
      go_simp
    · cases ho
      have e32 : (upd A0 f).eval (.tmp 32) = .agg #[.complex .f32 ia1 ia2, .complex .f32 ib1 ib2, .complex .f32 ic1 ic2] := upd_eval_some (hf ⟨1, .data⟩ (by simp) rfl (by decide)) (by rw [hsz]; decide)
      have e33 : (upd A0 f).eval (.tmp 33) = .agg #[.complex .f32 ja1 ja2, .complex .f32 jb1 jb2, .complex .f32 jc1 jc2] := upd_eval_some (hf ⟨2, .data⟩ (by simp) rfl (by decide)) (by rw [hsz]; decide)
      clear hf hn
      unfold YieldsE
      have ef : (upd A0 f).eval (.func 19) = .func (.func 19) #[] #[] := rfl
      generalize (upd A0 f).eval = ev at *
      refine .inr ⟨19, #[.agg #[.complex .f32 ia1 ia2, .complex .f32 ib1 ib2, .complex .f32 ic1 ic2], .agg #[.complex .f32 ja1 ja2, .complex .f32 jb1 jb2, .complex .f32 jc1 jc2]], ?_, GS.out w⟩
      go_simp
    · cases ho
      have e31 : (upd A0 f).eval (.tmp 31) = .agg #[.int .i64 0, .complex .f32 o1 o2, .complex .f32 h1 h2, .int .i64 0, .complex .f32 l1 l2, .complex .f32 m1 m2, .complex .f32 n1 n2, .int .i64 0] := upd_eval_some (hf ⟨0, .data⟩ (by simp) rfl (by decide)) (by rw [hsz]; decide)
      have e34 : (upd A0 f).eval (.tmp 34) = .agg #[.complex .f32 sa1 sa2, .complex .f32 sb1 sb2, .complex .f32 sc1 sc2] := upd_eval_some (hf ⟨3, .data⟩ (by simp) rfl (by decide)) (by rw [hsz]; decide)
      clear hf hn
      unfold YieldsE
      have ef : (upd A0 f).eval (.func 18) = .func (.func 18) #[] #[] := rfl
      generalize (upd A0 f).eval = ev at *
      refine .inr ⟨18, #[.agg #[.int .i64 0, .complex .f32 o1 o2, .complex .f32 h1 h2, .int .i64 0, .complex .f32 l1 l2, .complex .f32 m1 m2, .complex .f32 n1 n2, .int .i64 0], .agg #[.complex .f32 sa1 sa2, .complex .f32 sb1 sb2, .complex .f32 sc1 sc2]], ?_, GB.out w⟩
      go_simp
    · exact absurd rfl hik
  · intro o ho f w
    cases ho
    go_simp
    rfl
  · intro o ho f w b hb hv hc
    cases ho
    have ed : (upd A0 f).eval (.tmp 8) = headOf b := upd_eval_some hb (by rw [hsz]; decide)
    have es : (upd A0 f).eval (.tmp 35) = .agg #[.complex .f32 ba1 ba2, .complex .f32 bb1 bb2, .complex .f32 bc1 bc2] := upd_eval_some (hv 4 (by decide) (by decide)) (by rw [hsz]; decide)
    clear hv hb
    unfold headOf at ed
    have r0 := cell_of_heap (i := 0) hc rfl
    have s0 := free_of_heap 0 hc
    have r1 := cell_of_heap (i := 1) hc rfl
    have s1 := free_of_heap 1 hc
    have r2 := cell_of_heap (i := 2) hc rfl
    have s2 := free_of_heap 2 hc
    generalize (upd A0 f).eval = ev at *
    refine ⟨((w.setCell ⟨b, 0, none⟩ (.complex .f32 ba1 ba2)).setCell ⟨b, 1, none⟩ (.complex .f32 bb1 bb2)).setCell ⟨b, 2, none⟩ (.complex .f32 bc1 bc2), ?_, heap_set _ (heap_set _ (heap_set _ hc)), below_set (below_set (below_set (Below.refl b w) 0 _) 1 _) 2 _⟩
    clear hc
    go_simp
  · intro f w nD hE hb hc hf8 hv hn
    have hu : upd A0 f = ((((((A0.put (some 31) (.agg #[.int .i64 0, .complex .f32 o1 o2, .complex .f32 h1 h2, .int .i64 0, .complex .f32 l1 l2, .complex .f32 m1 m2, .complex .f32 n1 n2, .int .i64 0])).put (some 32) (.agg #[.complex .f32 ia1 ia2, .complex .f32 ib1 ib2, .complex .f32 ic1 ic2])).put (some 33) (.agg #[.complex .f32 ja1 ja2, .complex .f32 jb1 jb2, .complex .f32 jc1 jc2])).put (some 34) (.agg #[.complex .f32 sa1 sa2, .complex .f32 sb1 sb2, .complex .f32 sc1 sc2])).put (some 35) (.agg #[.complex .f32 ba1 ba2, .complex .f32 bb1 bb2, .complex .f32 bc1 bc2])).put (some 8) (headOf nD)) := by
      have e0 : A0 = upd A0 (fun _ => none) := (upd_none A0).symm
      conv => rhs; rw [e0]
      simp only [upd_put]
      congr 1
      funext t
      by_cases h_8 : t = 8
      · subst h_8; exact hf8
      rw [if_neg h_8]
      by_cases h_35 : t = 35
      · subst h_35; exact hv 4 (by decide) (by decide)
      rw [if_neg h_35]
      by_cases h_34 : t = 34
      · subst h_34; exact hv 3 (by decide) (by decide)
      rw [if_neg h_34]
      by_cases h_33 : t = 33
      · subst h_33; exact hv 2 (by decide) (by decide)
      rw [if_neg h_33]
      by_cases h_32 : t = 32
      · subst h_32; exact hv 1 (by decide) (by decide)
      rw [if_neg h_32]
      by_cases h_31 : t = 31
      · subst h_31; exact hv 0 (by decide) (by decide)
      rw [if_neg h_31]
      refine hn t fun j hj => ?_
      have hj' : j = 0 ∨ j = 1 ∨ j = 2 ∨ j = 3 ∨ j = 4 ∨ j = 5 := by omega
      rcases hj' with rfl | rfl | rfl | rfl | rfl | rfl
      · exact fun e => h_31 e.symm
      · exact fun e => h_32 e.symm
      · exact fun e => h_33 e.symm
      · exact fun e => h_34 e.symm
      · exact fun e => h_35 e.symm
      · exact fun e => h_8 e.symm
    rw [hu, ← hA0]
    clear hu hf8 hv hn hb hsz h5 h6 h7
    clear hA0 A0 f
    unfold headOf
    simp only [Act.put, List.setIfInBounds_toArray, List.set_cons_zero, List.set_cons_succ]
    have HB := hE.heap HB
    have HI := hE.heap HI
    have HJ := hE.heap HJ
    have HD := hc
    have HE := HE.trans hE
    clear hE hc
    have cB0 := cell_of_heap (i := 0) HB rfl
    have cB1 := cell_of_heap (i := 1) HB rfl
    have cB2 := cell_of_heap (i := 2) HB rfl
    have cB3 := cell_of_heap (i := 3) HB rfl
    have cB4 := cell_of_heap (i := 4) HB rfl
    have cB5 := cell_of_heap (i := 5) HB rfl
    have cB6 := cell_of_heap (i := 6) HB rfl
    have cB7 := cell_of_heap (i := 7) HB rfl
    have cI0 := cell_of_heap (i := 0) HI rfl
    have cI1 := cell_of_heap (i := 1) HI rfl
    have cI2 := cell_of_heap (i := 2) HI rfl
    have cJ0 := cell_of_heap (i := 0) HJ rfl
    have cJ1 := cell_of_heap (i := 1) HJ rfl
    have cJ2 := cell_of_heap (i := 2) HJ rfl
    have cD0 := cell_of_heap (i := 0) HD rfl
    have cD1 := cell_of_heap (i := 1) HD rfl
    have cD2 := cell_of_heap (i := 2) HD rfl
    have KB := Lib.hid HB
    have KI := Lib.hid HI
    have KJ := Lib.hid HJ
    have KD := Lib.hid HD
    clear HB HI HJ HD
    go_wp2_with fail
    have HB := KB.out
    have HI := KI.out
    have HJ := KJ.out
    have HD := KD.out
    clear KB KI KJ KD
    clear cB0 cB1 cB2 cB3 cB4 cB5 cB6 cB7 cI0 cI1 cI2 cJ0 cJ1 cJ2 cD0 cD1 cD2
    generalize hA0 : ({ tmps := _, defers := _ } : Act) = A0
    have h5 : A0.eval (.tmp 5) = .pointer (some ⟨nB, 0, none⟩) := by rw [← hA0]; rfl
    have h6 : A0.eval (.tmp 6) = .pointer (some ⟨nI, 0, none⟩) := by rw [← hA0]; rfl
    have h7 : A0.eval (.tmp 7) = .pointer (some ⟨nJ, 0, none⟩) := by rw [← hA0]; rfl
    have hsz : A0.tmps.size = 111 := by rw [← hA0]; rfl
    refine wp_region_fresh (A0 := A0) (w0 := w) 8 7 9 26 (fun i => [36, 37, 38, 39, 40, 41, 42, 9].getD i 0) (fun i => ([.agg #[.int .i64 0, .complex .f32 o1 o2, .complex .f32 h1 h2, .int .i64 0, .complex .f32 l1 l2, .complex .f32 m1 m2, .complex .f32 n1 n2, .int .i64 0], .agg #[.complex .f32 ia1 ia2, .complex .f32 ib1 ib2, .complex .f32 ic1 ic2], .agg #[.complex .f32 xa1 xa2, .complex .f32 xb1 xb2, .complex .f32 xc1 xc2], .agg #[.int .i64 0, .complex .f32 o1 o2, .complex .f32 h1 h2, .int .i64 0, .complex .f32 l1 l2, .complex .f32 m1 m2, .complex .f32 n1 n2, .int .i64 0], .agg #[.complex .f32 ja1 ja2, .complex .f32 jb1 jb2, .complex .f32 jc1 jc2], .agg #[.complex .f32 ya1 ya2, .complex .f32 yb1 yb2, .complex .f32 yc1 yc2], .agg #[.complex .f32 ua1 ua2, .complex .f32 ub1 ub2, .complex .f32 uc1 uc2], undef] : List Value).getD i undef) #[.complex .f32 0 0, .complex .f32 0 0, .complex .f32 0 0] #[.complex .f32 ua1 ua2, .complex .f32 ub1 ub2, .complex .f32 uc1 uc2]
      (by kernel_rfl) (by kernel_rfl) rfl (by decide) (by decide) rfl ?_ ?_ ?_ ?_ ?_ ?_
    · intro i o hi ho
      have hi' : i = 0 ∨ i = 1 ∨ i = 2 ∨ i = 3 ∨ i = 4 ∨ i = 5 ∨ i = 6 ∨ i = 7 := by omega
      rcases hi' with rfl | rfl | rfl | rfl | rfl | rfl | rfl | rfl <;> (cases ho; exact ⟨rfl, rfl⟩)
    · intro o ho
      cases ho
      refine ⟨rfl, rfl, fun j hj => ?_⟩
      have hj' : j = 0 ∨ j = 1 ∨ j = 2 ∨ j = 3 ∨ j = 4 ∨ j = 5 ∨ j = 6 ∨ j = 7 := by omega
      rcases hj' with rfl | rfl | rfl | rfl | rfl | rfl | rfl | rfl <;> exact ⟨⟨_, .phase⟩, by simp, rfl, rfl⟩
    · intro i o hi hik ho f w hE hf hn
      have HB := hE.heap HB
      have HI := hE.heap HI
      have HJ := hE.heap HJ
      have HD := hE.heap HD
      have cB0 := cell_of_heap (i := 0) HB rfl
      have cB1 := cell_of_heap (i := 1) HB rfl
      have cB2 := cell_of_heap (i := 2) HB rfl
      have cB3 := cell_of_heap (i := 3) HB rfl
      have cB4 := cell_of_heap (i := 4) HB rfl
      have cB5 := cell_of_heap (i := 5) HB rfl
      have cB6 := cell_of_heap (i := 6) HB rfl
      have cB7 := cell_of_heap (i := 7) HB rfl
      have cI0 := cell_of_heap (i := 0) HI rfl
      have cI1 := cell_of_heap (i := 1) HI rfl
      have cI2 := cell_of_heap (i := 2) HI rfl
      have cJ0 := cell_of_heap (i := 0) HJ rfl
      have cJ1 := cell_of_heap (i := 1) HJ rfl
      have cJ2 := cell_of_heap (i := 2) HJ rfl
      have cD0 := cell_of_heap (i := 0) HD rfl
      have cD1 := cell_of_heap (i := 1) HD rfl
      have cD2 := cell_of_heap (i := 2) HD rfl
      clear HB HI HJ HD HE
      have e5 : (upd A0 f).eval (.tmp 5) = .pointer (some ⟨nB, 0, none⟩) := (upd_eval_none (hn 5 (by decide))).trans h5
      have e6 : (upd A0 f).eval (.tmp 6) = .pointer (some ⟨nI, 0, none⟩) := (upd_eval_none (hn 6 (by decide))).trans h6
      have e7 : (upd A0 f).eval (.tmp 7) = .pointer (some ⟨nJ, 0, none⟩) := (upd_eval_none (hn 7 (by decide))).trans h7
      have hi' : i = 0 ∨ i = 1 ∨ i = 2 ∨ i = 3 ∨ i = 4 ∨ i = 5 ∨ i = 6 ∨ i = 7 := by omega
      rcases hi' with rfl | rfl | rfl | rfl | rfl | rfl | rfl | rfl
      · cases ho
        clear hf hn
        unfold YieldsE
        generalize (upd A0 f).eval = ev at *
        refine .inl ?_
        show _ = Result.ok (Next.value (.agg #[.int .i64 0, .complex .f32 o1 o2, .complex .f32 h1 h2, .int .i64 0, .complex .f32 l1 l2, .complex .f32 m1 m2, .complex .f32 n1 n2, .int .i64 0])) w
        go_simp
      · cases ho
        clear hf hn
        unfold YieldsE
        generalize (upd A0 f).eval = ev at *
        refine .inl ?_
        show _ = Result.ok (Next.value (.agg #[.complex .f32 ia1 ia2, .complex .f32 ib1 ib2, .complex .f32 ic1 ic2])) w
        go_simp
      · cases ho
        have e36 : (upd A0 f).eval (.tmp 36) = .agg #[.int .i64 0, .complex .f32 o1 o2, .complex .f32 h1 h2, .int .i64 0, .complex .f32 l1 l2, .complex .f32 m1 m2, .complex .f32 n1 n2, .int .i64 0] := upd_eval_some (hf ⟨0, .data⟩ (by simp) rfl (by decide)) (by rw [hsz]; decide)
        have e37 : (upd A0 f).eval (.tmp 37) = .agg #[.complex .f32 ia1 ia2, .complex .f32 ib1 ib2, .complex .f32 ic1 ic2] := upd_eval_some (hf ⟨1, .data⟩ (by simp) rfl (by decide)) (by rw [hsz]; decide)
        clear hf hn
        unfold YieldsE
        have ef : (upd A0 f).eval (.func 18) = .func (.func 18) #[] #[] := rfl
        generalize (upd A0 f).eval = ev at *
        refine .inr ⟨18, #[.agg #[.int .i64 0, .complex .f32 o1 o2, .complex .f32 h1 h2, .int .i64 0, .complex .f32 l1 l2, .complex .f32 m1 m2, .complex .f32 n1 n2, .int .i64 0], .agg #[.complex .f32 ia1 ia2, .complex .f32 ib1 ib2, .complex .f32 ic1 ic2]], ?_, GX.out w⟩
        go_simp
      · cases ho
        clear hf hn
        unfold YieldsE
        generalize (upd A0 f).eval = ev at *
        refine .inl ?_
        show _ = Result.ok (Next.value (.agg #[.int .i64 0, .complex .f32 o1 o2, .complex .f32 h1 h2, .int .i64 0, .complex .f32 l1 l2, .complex .f32 m1 m2, .complex .f32 n1 n2, .int .i64 0])) w
        go_simp
      · cases ho
        clear hf hn
        unfold YieldsE
        generalize (upd A0 f).eval = ev at *
        refine .inl ?_
        show _ = Result.ok (Next.value (.agg #[.complex .f32 ja1 ja2, .complex .f32 jb1 jb2, .complex .f32 jc1 jc2])) w
        go_simp
      · cases ho
        have e39 : (upd A0 f).eval (.tmp 39) = .agg #[.int .i64 0, .complex .f32 o1 o2, .complex .f32 h1 h2, .int .i64 0, .complex .f32 l1 l2, .complex .f32 m1 m2, .complex .f32 n1 n2, .int .i64 0] := upd_eval_some (hf ⟨3, .data⟩ (by simp) rfl (by decide)) (by rw [hsz]; decide)
        have e40 : (upd A0 f).eval (.tmp 40) = .agg #[.complex .f32 ja1 ja2, .complex .f32 jb1 jb2, .complex .f32 jc1 jc2] := upd_eval_some (hf ⟨4, .data⟩ (by simp) rfl (by decide)) (by rw [hsz]; decide)
        clear hf hn
        unfold YieldsE
        have ef : (upd A0 f).eval (.func 18) = .func (.func 18) #[] #[] := rfl
        generalize (upd A0 f).eval = ev at *
        refine .inr ⟨18, #[.agg #[.int .i64 0, .complex .f32 o1 o2, .complex .f32 h1 h2, .int .i64 0, .complex .f32 l1 l2, .complex .f32 m1 m2, .complex .f32 n1 n2, .int .i64 0], .agg #[.complex .f32 ja1 ja2, .complex .f32 jb1 jb2, .complex .f32 jc1 jc2]], ?_, GY.out w⟩
        go_simp
      · cases ho
        have e38 : (upd A0 f).eval (.tmp 38) = .agg #[.complex .f32 xa1 xa2, .complex .f32 xb1 xb2, .complex .f32 xc1 xc2] := upd_eval_some (hf ⟨2, .data⟩ (by simp) rfl (by decide)) (by rw [hsz]; decide)
        have e41 : (upd A0 f).eval (.tmp 41) = .agg #[.complex .f32 ya1 ya2, .complex .f32 yb1 yb2, .complex .f32 yc1 yc2] := upd_eval_some (hf ⟨5, .data⟩ (by simp) rfl (by decide)) (by rw [hsz]; decide)
        clear hf hn
        unfold YieldsE
        have ef : (upd A0 f).eval (.func 19) = .func (.func 19) #[] #[] := rfl
        generalize (upd A0 f).eval = ev at *
        refine .inr ⟨19, #[.agg #[.complex .f32 xa1 xa2, .complex .f32 xb1 xb2, .complex .f32 xc1 xc2], .agg #[.complex .f32 ya1 ya2, .complex .f32 yb1 yb2, .complex .f32 yc1 yc2]], ?_, GU.out w⟩
        go_simp
      · exact absurd rfl hik
    · intro o ho f w
      cases ho
      go_simp
      rfl
    · intro o ho f w b hb hv hc
      cases ho
      have ed : (upd A0 f).eval (.tmp 9) = headOf b := upd_eval_some hb (by rw [hsz]; decide)
      have es : (upd A0 f).eval (.tmp 42) = .agg #[.complex .f32 ua1 ua2, .complex .f32 ub1 ub2, .complex .f32 uc1 uc2] := upd_eval_some (hv 6 (by decide) (by decide)) (by rw [hsz]; decide)
      clear hv hb
      unfold headOf at ed
      have r0 := cell_of_heap (i := 0) hc rfl
      have s0 := free_of_heap 0 hc
      have r1 := cell_of_heap (i := 1) hc rfl
      have s1 := free_of_heap 1 hc
      have r2 := cell_of_heap (i := 2) hc rfl
      have s2 := free_of_heap 2 hc
      generalize (upd A0 f).eval = ev at *
      refine ⟨((w.setCell ⟨b, 0, none⟩ (.complex .f32 ua1 ua2)).setCell ⟨b, 1, none⟩ (.complex .f32 ub1 ub2)).setCell ⟨b, 2, none⟩ (.complex .f32 uc1 uc2), ?_, heap_set _ (heap_set _ (heap_set _ hc)), below_set (below_set (below_set (Below.refl b w) 0 _) 1 _) 2 _⟩
      clear hc
      go_simp
    · intro f w nU hE hb hc hf8 hv hn
      have hu : upd A0 f = ((((((((A0.put (some 36) (.agg #[.int .i64 0, .complex .f32 o1 o2, .complex .f32 h1 h2, .int .i64 0, .complex .f32 l1 l2, .complex .f32 m1 m2, .complex .f32 n1 n2, .int .i64 0])).put (some 37) (.agg #[.complex .f32 ia1 ia2, .complex .f32 ib1 ib2, .complex .f32 ic1 ic2])).put (some 38) (.agg #[.complex .f32 xa1 xa2, .complex .f32 xb1 xb2, .complex .f32 xc1 xc2])).put (some 39) (.agg #[.int .i64 0, .complex .f32 o1 o2, .complex .f32 h1 h2, .int .i64 0, .complex .f32 l1 l2, .complex .f32 m1 m2, .complex .f32 n1 n2, .int .i64 0])).put (some 40) (.agg #[.complex .f32 ja1 ja2, .complex .f32 jb1 jb2, .complex .f32 jc1 jc2])).put (some 41) (.agg #[.complex .f32 ya1 ya2, .complex .f32 yb1 yb2, .complex .f32 yc1 yc2])).put (some 42) (.agg #[.complex .f32 ua1 ua2, .complex .f32 ub1 ub2, .complex .f32 uc1 uc2])).put (some 9) (headOf nU)) := by
        have e0 : A0 = upd A0 (fun _ => none) := (upd_none A0).symm
        conv => rhs; rw [e0]
        simp only [upd_put]
        congr 1
        funext t
        by_cases h_9 : t = 9
        · subst h_9; exact hf8
        rw [if_neg h_9]
        by_cases h_42 : t = 42
        · subst h_42; exact hv 6 (by decide) (by decide)
        rw [if_neg h_42]
        by_cases h_41 : t = 41
        · subst h_41; exact hv 5 (by decide) (by decide)
        rw [if_neg h_41]
        by_cases h_40 : t = 40
        · subst h_40; exact hv 4 (by decide) (by decide)
        rw [if_neg h_40]
        by_cases h_39 : t = 39
        · subst h_39; exact hv 3 (by decide) (by decide)
        rw [if_neg h_39]
        by_cases h_38 : t = 38
        · subst h_38; exact hv 2 (by decide) (by decide)
        rw [if_neg h_38]
        by_cases h_37 : t = 37
        · subst h_37; exact hv 1 (by decide) (by decide)
        rw [if_neg h_37]
        by_cases h_36 : t = 36
        · subst h_36; exact hv 0 (by decide) (by decide)
        rw [if_neg h_36]
        refine hn t fun j hj => ?_
        have hj' : j = 0 ∨ j = 1 ∨ j = 2 ∨ j = 3 ∨ j = 4 ∨ j = 5 ∨ j = 6 ∨ j = 7 := by omega
        rcases hj' with rfl | rfl | rfl | rfl | rfl | rfl | rfl | rfl
        · exact fun e => h_36 e.symm
        · exact fun e => h_37 e.symm
        · exact fun e => h_38 e.symm
        · exact fun e => h_39 e.symm
        · exact fun e => h_40 e.symm
        · exact fun e => h_41 e.symm
        · exact fun e => h_42 e.symm
        · exact fun e => h_9 e.symm
      rw [hu, ← hA0]
      clear hu hf8 hv hn hb hsz h5 h6 h7
      clear hA0 A0 f
      unfold headOf
      simp only [Act.put, List.setIfInBounds_toArray, List.set_cons_zero, List.set_cons_succ]
      have HB := hE.heap HB
      have HI := hE.heap HI
      have HJ := hE.heap HJ
      have HD := hE.heap HD
      have HU := hc
      have HE := HE.trans hE
      clear hE hc
      have cB0 := cell_of_heap (i := 0) HB rfl
      have cB1 := cell_of_heap (i := 1) HB rfl
      have cB2 := cell_of_heap (i := 2) HB rfl
      have cB3 := cell_of_heap (i := 3) HB rfl
      have cB4 := cell_of_heap (i := 4) HB rfl
      have cB5 := cell_of_heap (i := 5) HB rfl
      have cB6 := cell_of_heap (i := 6) HB rfl
      have cB7 := cell_of_heap (i := 7) HB rfl
      have cI0 := cell_of_heap (i := 0) HI rfl
      have cI1 := cell_of_heap (i := 1) HI rfl
      have cI2 := cell_of_heap (i := 2) HI rfl
      have cJ0 := cell_of_heap (i := 0) HJ rfl
      have cJ1 := cell_of_heap (i := 1) HJ rfl
      have cJ2 := cell_of_heap (i := 2) HJ rfl
      have cD0 := cell_of_heap (i := 0) HD rfl
      have cD1 := cell_of_heap (i := 1) HD rfl
      have cD2 := cell_of_heap (i := 2) HD rfl
      have cU0 := cell_of_heap (i := 0) HU rfl
      have cU1 := cell_of_heap (i := 1) HU rfl
      have cU2 := cell_of_heap (i := 2) HU rfl
      have KB := Lib.hid HB
      have KI := Lib.hid HI
      have KJ := Lib.hid HJ
      have KD := Lib.hid HD
      have KU := Lib.hid HU
      clear HB HI HJ HD HU
      go_wp2_with fail
      have HB := KB.out
      have HI := KI.out
      have HJ := KJ.out
      have HD := KD.out
      have HU := KU.out
      clear KB KI KJ KD KU
      clear cB0 cB1 cB2 cB3 cB4 cB5 cB6 cB7 cI0 cI1 cI2 cJ0 cJ1 cJ2 cD0 cD1 cD2 cU0 cU1 cU2
      generalize hA0 : ({ tmps := _, defers := _ } : Act) = A0
      have h5 : A0.eval (.tmp 5) = .pointer (some ⟨nB, 0, none⟩) := by rw [← hA0]; rfl
      have h7 : A0.eval (.tmp 7) = .pointer (some ⟨nJ, 0, none⟩) := by rw [← hA0]; rfl
      have h8 : A0.eval (.tmp 8) = .pointer (some ⟨nD, 0, none⟩) := by rw [← hA0]; rfl
      have hsz : A0.tmps.size = 111 := by rw [← hA0]; rfl
      refine wp_region_fresh (A0 := A0) (w0 := w) 6 5 10 26 (fun i => [43, 44, 45, 46, 47, 10].getD i 0) (fun i => ([.agg #[.complex .f32 ba1 ba2, .complex .f32 bb1 bb2, .complex .f32 bc1 bc2], .agg #[.int .i64 0, .complex .f32 o1 o2, .complex .f32 h1 h2, .int .i64 0, .complex .f32 l1 l2, .complex .f32 m1 m2, .complex .f32 n1 n2, .int .i64 0], .agg #[.complex .f32 ja1 ja2, .complex .f32 jb1 jb2, .complex .f32 jc1 jc2], .agg #[.complex .f32 ya1 ya2, .complex .f32 yb1 yb2, .complex .f32 yc1 yc2], .agg #[.complex .f32 la1 la2, .complex .f32 lb1 lb2, .complex .f32 lc1 lc2], undef] : List Value).getD i undef) #[.complex .f32 0 0, .complex .f32 0 0, .complex .f32 0 0] #[.complex .f32 la1 la2, .complex .f32 lb1 lb2, .complex .f32 lc1 lc2]
        (by kernel_rfl) (by kernel_rfl) rfl (by decide) (by decide) rfl ?_ ?_ ?_ ?_ ?_ ?_
      · intro i o hi ho
        have hi' : i = 0 ∨ i = 1 ∨ i = 2 ∨ i = 3 ∨ i = 4 ∨ i = 5 := by omega
        rcases hi' with rfl | rfl | rfl | rfl | rfl | rfl <;> (cases ho; exact ⟨rfl, rfl⟩)
      · intro o ho
        cases ho
        refine ⟨rfl, rfl, fun j hj => ?_⟩
        have hj' : j = 0 ∨ j = 1 ∨ j = 2 ∨ j = 3 ∨ j = 4 ∨ j = 5 := by omega
        rcases hj' with rfl | rfl | rfl | rfl | rfl | rfl <;> exact ⟨⟨_, .phase⟩, by simp, rfl, rfl⟩
      · intro i o hi hik ho f w hE hf hn
        have HB := hE.heap HB
        have HI := hE.heap HI
        have HJ := hE.heap HJ
        have HD := hE.heap HD
        have HU := hE.heap HU
        have cB0 := cell_of_heap (i := 0) HB rfl
        have cB1 := cell_of_heap (i := 1) HB rfl
        have cB2 := cell_of_heap (i := 2) HB rfl
        have cB3 := cell_of_heap (i := 3) HB rfl
        have cB4 := cell_of_heap (i := 4) HB rfl
        have cB5 := cell_of_heap (i := 5) HB rfl
        have cB6 := cell_of_heap (i := 6) HB rfl
        have cB7 := cell_of_heap (i := 7) HB rfl
        have cI0 := cell_of_heap (i := 0) HI rfl
        have cI1 := cell_of_heap (i := 1) HI rfl
        have cI2 := cell_of_heap (i := 2) HI rfl
        have cJ0 := cell_of_heap (i := 0) HJ rfl
        have cJ1 := cell_of_heap (i := 1) HJ rfl
        have cJ2 := cell_of_heap (i := 2) HJ rfl
        have cD0 := cell_of_heap (i := 0) HD rfl
        have cD1 := cell_of_heap (i := 1) HD rfl
        have cD2 := cell_of_heap (i := 2) HD rfl
        have cU0 := cell_of_heap (i := 0) HU rfl
        have cU1 := cell_of_heap (i := 1) HU rfl
        have cU2 := cell_of_heap (i := 2) HU rfl
        clear HB HI HJ HD HU HE
        have e5 : (upd A0 f).eval (.tmp 5) = .pointer (some ⟨nB, 0, none⟩) := (upd_eval_none (hn 5 (by decide))).trans h5
        have e7 : (upd A0 f).eval (.tmp 7) = .pointer (some ⟨nJ, 0, none⟩) := (upd_eval_none (hn 7 (by decide))).trans h7
        have e8 : (upd A0 f).eval (.tmp 8) = .pointer (some ⟨nD, 0, none⟩) := (upd_eval_none (hn 8 (by decide))).trans h8
        have hi' : i = 0 ∨ i = 1 ∨ i = 2 ∨ i = 3 ∨ i = 4 ∨ i = 5 := by omega
        rcases hi' with rfl | rfl | rfl | rfl | rfl | rfl
        · cases ho
          clear hf hn
          unfold YieldsE
          generalize (upd A0 f).eval = ev at *
          refine .inl ?_
          show _ = Result.ok (Next.value (.agg #[.complex .f32 ba1 ba2, .complex .f32 bb1 bb2, .complex .f32 bc1 bc2])) w
          go_simp
        · cases ho
          clear hf hn
          unfold YieldsE
          generalize (upd A0 f).eval = ev at *
          refine .inl ?_
          show _ = Result.ok (Next.value (.agg #[.int .i64 0, .complex .f32 o1 o2, .complex .f32 h1 h2, .int .i64 0, .complex .f32 l1 l2, .complex .f32 m1 m2, .complex .f32 n1 n2, .int .i64 0])) w
          go_simp
        · cases ho
          clear hf hn
          unfold YieldsE
          generalize (upd A0 f).eval = ev at *
          refine .inl ?_
          show _ = Result.ok (Next.value (.agg #[.complex .f32 ja1 ja2, .complex .f32 jb1 jb2, .complex .f32 jc1 jc2])) w
          go_simp
        · cases ho
          have e44 : (upd A0 f).eval (.tmp 44) = .agg #[.int .i64 0, .complex .f32 o1 o2, .complex .f32 h1 h2, .int .i64 0, .complex .f32 l1 l2, .complex .f32 m1 m2, .complex .f32 n1 n2, .int .i64 0] := upd_eval_some (hf ⟨1, .data⟩ (by simp) rfl (by decide)) (by rw [hsz]; decide)
          have e45 : (upd A0 f).eval (.tmp 45) = .agg #[.complex .f32 ja1 ja2, .complex .f32 jb1 jb2, .complex .f32 jc1 jc2] := upd_eval_some (hf ⟨2, .data⟩ (by simp) rfl (by decide)) (by rw [hsz]; decide)
          clear hf hn
          unfold YieldsE
          have ef : (upd A0 f).eval (.func 18) = .func (.func 18) #[] #[] := rfl
          generalize (upd A0 f).eval = ev at *
          refine .inr ⟨18, #[.agg #[.int .i64 0, .complex .f32 o1 o2, .complex .f32 h1 h2, .int .i64 0, .complex .f32 l1 l2, .complex .f32 m1 m2, .complex .f32 n1 n2, .int .i64 0], .agg #[.complex .f32 ja1 ja2, .complex .f32 jb1 jb2, .complex .f32 jc1 jc2]], ?_, GY.out w⟩
          go_simp
        · cases ho
          have e43 : (upd A0 f).eval (.tmp 43) = .agg #[.complex .f32 ba1 ba2, .complex .f32 bb1 bb2, .complex .f32 bc1 bc2] := upd_eval_some (hf ⟨0, .data⟩ (by simp) rfl (by decide)) (by rw [hsz]; decide)
          have e46 : (upd A0 f).eval (.tmp 46) = .agg #[.complex .f32 ya1 ya2, .complex .f32 yb1 yb2, .complex .f32 yc1 yc2] := upd_eval_some (hf ⟨3, .data⟩ (by simp) rfl (by decide)) (by rw [hsz]; decide)
          clear hf hn
          unfold YieldsE
          have ef : (upd A0 f).eval (.func 20) = .func (.func 20) #[] #[] := rfl
          generalize (upd A0 f).eval = ev at *
          refine .inr ⟨20, #[.agg #[.complex .f32 ba1 ba2, .complex .f32 bb1 bb2, .complex .f32 bc1 bc2], .agg #[.complex .f32 ya1 ya2, .complex .f32 yb1 yb2, .complex .f32 yc1 yc2]], ?_, GL.out w⟩
          go_simp
        · exact absurd rfl hik
      · intro o ho f w
        cases ho
        go_simp
        rfl
      · intro o ho f w b hb hv hc
        cases ho
        have ed : (upd A0 f).eval (.tmp 10) = headOf b := upd_eval_some hb (by rw [hsz]; decide)
        have es : (upd A0 f).eval (.tmp 47) = .agg #[.complex .f32 la1 la2, .complex .f32 lb1 lb2, .complex .f32 lc1 lc2] := upd_eval_some (hv 4 (by decide) (by decide)) (by rw [hsz]; decide)
        clear hv hb
        unfold headOf at ed
        have r0 := cell_of_heap (i := 0) hc rfl
        have s0 := free_of_heap 0 hc
        have r1 := cell_of_heap (i := 1) hc rfl
        have s1 := free_of_heap 1 hc
        have r2 := cell_of_heap (i := 2) hc rfl
        have s2 := free_of_heap 2 hc
        generalize (upd A0 f).eval = ev at *
        refine ⟨((w.setCell ⟨b, 0, none⟩ (.complex .f32 la1 la2)).setCell ⟨b, 1, none⟩ (.complex .f32 lb1 lb2)).setCell ⟨b, 2, none⟩ (.complex .f32 lc1 lc2), ?_, heap_set _ (heap_set _ (heap_set _ hc)), below_set (below_set (below_set (Below.refl b w) 0 _) 1 _) 2 _⟩
        clear hc
        go_simp
      · intro f w nL hE hb hc hf8 hv hn
        have hu : upd A0 f = ((((((A0.put (some 43) (.agg #[.complex .f32 ba1 ba2, .complex .f32 bb1 bb2, .complex .f32 bc1 bc2])).put (some 44) (.agg #[.int .i64 0, .complex .f32 o1 o2, .complex .f32 h1 h2, .int .i64 0, .complex .f32 l1 l2, .complex .f32 m1 m2, .complex .f32 n1 n2, .int .i64 0])).put (some 45) (.agg #[.complex .f32 ja1 ja2, .complex .f32 jb1 jb2, .complex .f32 jc1 jc2])).put (some 46) (.agg #[.complex .f32 ya1 ya2, .complex .f32 yb1 yb2, .complex .f32 yc1 yc2])).put (some 47) (.agg #[.complex .f32 la1 la2, .complex .f32 lb1 lb2, .complex .f32 lc1 lc2])).put (some 10) (headOf nL)) := by
          have e0 : A0 = upd A0 (fun _ => none) := (upd_none A0).symm
          conv => rhs; rw [e0]
          simp only [upd_put]
          congr 1
          funext t
          by_cases h_10 : t = 10
          · subst h_10; exact hf8
          rw [if_neg h_10]
          by_cases h_47 : t = 47
          · subst h_47; exact hv 4 (by decide) (by decide)
          rw [if_neg h_47]
          by_cases h_46 : t = 46
          · subst h_46; exact hv 3 (by decide) (by decide)
          rw [if_neg h_46]
          by_cases h_45 : t = 45
          · subst h_45; exact hv 2 (by decide) (by decide)
          rw [if_neg h_45]
          by_cases h_44 : t = 44
          · subst h_44; exact hv 1 (by decide) (by decide)
          rw [if_neg h_44]
          by_cases h_43 : t = 43
          · subst h_43; exact hv 0 (by decide) (by decide)
          rw [if_neg h_43]
          refine hn t fun j hj => ?_
          have hj' : j = 0 ∨ j = 1 ∨ j = 2 ∨ j = 3 ∨ j = 4 ∨ j = 5 := by omega
          rcases hj' with rfl | rfl | rfl | rfl | rfl | rfl
          · exact fun e => h_43 e.symm
          · exact fun e => h_44 e.symm
          · exact fun e => h_45 e.symm
          · exact fun e => h_46 e.symm
          · exact fun e => h_47 e.symm
          · exact fun e => h_10 e.symm
        rw [hu, ← hA0]
        clear hu hf8 hv hn hb hsz h5 h7 h8
        clear hA0 A0 f
        unfold headOf
        simp only [Act.put, List.setIfInBounds_toArray, List.set_cons_zero, List.set_cons_succ]
        have HB := hE.heap HB
        have HI := hE.heap HI
        have HJ := hE.heap HJ
        have HD := hE.heap HD
        have HU := hE.heap HU
        have HL := hc
        have HE := HE.trans hE
        clear hE hc
        have cB0 := cell_of_heap (i := 0) HB rfl
        have cB1 := cell_of_heap (i := 1) HB rfl
        have cB2 := cell_of_heap (i := 2) HB rfl
        have cB3 := cell_of_heap (i := 3) HB rfl
        have cB4 := cell_of_heap (i := 4) HB rfl
        have cB5 := cell_of_heap (i := 5) HB rfl
        have cB6 := cell_of_heap (i := 6) HB rfl
        have cB7 := cell_of_heap (i := 7) HB rfl
        have cI0 := cell_of_heap (i := 0) HI rfl
        have cI1 := cell_of_heap (i := 1) HI rfl
        have cI2 := cell_of_heap (i := 2) HI rfl
        have cJ0 := cell_of_heap (i := 0) HJ rfl
        have cJ1 := cell_of_heap (i := 1) HJ rfl
        have cJ2 := cell_of_heap (i := 2) HJ rfl
        have cD0 := cell_of_heap (i := 0) HD rfl
        have cD1 := cell_of_heap (i := 1) HD rfl
        have cD2 := cell_of_heap (i := 2) HD rfl
        have cU0 := cell_of_heap (i := 0) HU rfl
        have cU1 := cell_of_heap (i := 1) HU rfl
        have cU2 := cell_of_heap (i := 2) HU rfl
        have cL0 := cell_of_heap (i := 0) HL rfl
        have cL1 := cell_of_heap (i := 1) HL rfl
        have cL2 := cell_of_heap (i := 2) HL rfl
        have KB := Lib.hid HB
        have KI := Lib.hid HI
        have KJ := Lib.hid HJ
        have KD := Lib.hid HD
        have KU := Lib.hid HU
        have KL := Lib.hid HL
        clear HB HI HJ HD HU HL
        go_wp2_with fail
        have HB := KB.out
        have HI := KI.out
        have HJ := KJ.out
        have HD := KD.out
        have HU := KU.out
        have HL := KL.out
        clear KB KI KJ KD KU KL
        clear cB0 cB1 cB2 cB3 cB4 cB5 cB6 cB7 cI0 cI1 cI2 cJ0 cJ1 cJ2 cD0 cD1 cD2 cU0 cU1 cU2 cL0 cL1 cL2
        have xB0 := xw_cell (cell_of_heap (i := 0) HB rfl)
        have xB1 := xw_cell (cell_of_heap (i := 1) HB rfl)
        have xB2 := xw_cell (cell_of_heap (i := 2) HB rfl)
        have xB3 := xw_cell (cell_of_heap (i := 3) HB rfl)
        have xB4 := xw_cell (cell_of_heap (i := 4) HB rfl)
        have xB5 := xw_cell (cell_of_heap (i := 5) HB rfl)
        have xB6 := xw_cell (cell_of_heap (i := 6) HB rfl)
        have xB7 := xw_cell (cell_of_heap (i := 7) HB rfl)
        have xI0 := xw_cell (cell_of_heap (i := 0) HI rfl)
        have xI1 := xw_cell (cell_of_heap (i := 1) HI rfl)
        have xI2 := xw_cell (cell_of_heap (i := 2) HI rfl)
        have xJ0 := xw_cell (cell_of_heap (i := 0) HJ rfl)
        have xJ1 := xw_cell (cell_of_heap (i := 1) HJ rfl)
        have xJ2 := xw_cell (cell_of_heap (i := 2) HJ rfl)
        have xD0 := xw_cell (cell_of_heap (i := 0) HD rfl)
        have xD1 := xw_cell (cell_of_heap (i := 1) HD rfl)
        have xD2 := xw_cell (cell_of_heap (i := 2) HD rfl)
        have xU0 := xw_cell (cell_of_heap (i := 0) HU rfl)
        have xU1 := xw_cell (cell_of_heap (i := 1) HU rfl)
        have xU2 := xw_cell (cell_of_heap (i := 2) HU rfl)
        have xL0 := xw_cell (cell_of_heap (i := 0) HL rfl)
        have xL1 := xw_cell (cell_of_heap (i := 1) HL rfl)
        have xL2 := xw_cell (cell_of_heap (i := 2) HL rfl)
        have KB := Lib.hid HB
        have KI := Lib.hid HI
        have KJ := Lib.hid HJ
        have KD := Lib.hid HD
        have KU := Lib.hid HU
        have KL := Lib.hid HL
        clear HB HI HJ HD HU HL
        refine wp_region_xw_all (by kernel_rfl) (by kernel_rfl) ?_
        repeat (go_big_quiet_step (first | (go_at_call 18; with_reducible exact call_ext (GX.out _)) | (go_at_call 21; with_reducible exact call_ext (GD.out _)) | (go_at_call 19; with_reducible exact call_ext (GE.out _))))
        refine wpQuiet_nil ?_
        intro V9 hW
        have HB := KB.out
        have HI := KI.out
        have HJ := KJ.out
        have HD := KD.out
        have HU := KU.out
        have HL := KL.out
        clear KB KI KJ KD KU KL
        clear xB0 xB1 xB2 xB3 xB4 xB5 xB6 xB7 xI0 xI1 xI2 xJ0 xJ1 xJ2 xD0 xD1 xD2 xU0 xU1 xU2 xL0 xL1 xL2
        have HB := hW.heap HB
        have HI := hW.heap HI
        have HJ := hW.heap HJ
        have HD := hW.heap HD
        have HU := hW.heap HU
        have HL := hW.heap HL
        have HE := HE.trans hW
        clear hW
        have cB0 := cell_of_heap (i := 0) HB rfl
        have cB1 := cell_of_heap (i := 1) HB rfl
        have cB2 := cell_of_heap (i := 2) HB rfl
        have cB3 := cell_of_heap (i := 3) HB rfl
        have cB4 := cell_of_heap (i := 4) HB rfl
        have cB5 := cell_of_heap (i := 5) HB rfl
        have cB6 := cell_of_heap (i := 6) HB rfl
        have cB7 := cell_of_heap (i := 7) HB rfl
        have cI0 := cell_of_heap (i := 0) HI rfl
        have cI1 := cell_of_heap (i := 1) HI rfl
        have cI2 := cell_of_heap (i := 2) HI rfl
        have cJ0 := cell_of_heap (i := 0) HJ rfl
        have cJ1 := cell_of_heap (i := 1) HJ rfl
        have cJ2 := cell_of_heap (i := 2) HJ rfl
        have cD0 := cell_of_heap (i := 0) HD rfl
        have cD1 := cell_of_heap (i := 1) HD rfl
        have cD2 := cell_of_heap (i := 2) HD rfl
        have cU0 := cell_of_heap (i := 0) HU rfl
        have cU1 := cell_of_heap (i := 1) HU rfl
        have cU2 := cell_of_heap (i := 2) HU rfl
        have cL0 := cell_of_heap (i := 0) HL rfl
        have cL1 := cell_of_heap (i := 1) HL rfl
        have cL2 := cell_of_heap (i := 2) HL rfl
        have KB := Lib.hid HB
        have KI := Lib.hid HI
        have KJ := Lib.hid HJ
        have KD := Lib.hid HD
        have KU := Lib.hid HU
        have KL := Lib.hid HL
        clear HB HI HJ HD HU HL
        go_wp2_with fail
        have HB := KB.out
        have HI := KI.out
        have HJ := KJ.out
        have HD := KD.out
        have HU := KU.out
        have HL := KL.out
        clear KB KI KJ KD KU KL
        clear cB0 cB1 cB2 cB3 cB4 cB5 cB6 cB7 cI0 cI1 cI2 cJ0 cJ1 cJ2 cD0 cD1 cD2 cU0 cU1 cU2 cL0 cL1 cL2
        refine (GT.out _).mono ?_
        rintro e W4 ⟨rfl, E4⟩
        have HB := heap_alloc_old (.cells #[.complex .f32 ta1 ta2, .complex .f32 tb1 tb2, .complex .f32 tc1 tc2] 26) (E4.heap HB)
        have HI := heap_alloc_old (.cells #[.complex .f32 ta1 ta2, .complex .f32 tb1 tb2, .complex .f32 tc1 tc2] 26) (E4.heap HI)
        have HJ := heap_alloc_old (.cells #[.complex .f32 ta1 ta2, .complex .f32 tb1 tb2, .complex .f32 tc1 tc2] 26) (E4.heap HJ)
        have HD := heap_alloc_old (.cells #[.complex .f32 ta1 ta2, .complex .f32 tb1 tb2, .complex .f32 tc1 tc2] 26) (E4.heap HD)
        have HU := heap_alloc_old (.cells #[.complex .f32 ta1 ta2, .complex .f32 tb1 tb2, .complex .f32 tc1 tc2] 26) (E4.heap HU)
        have HL := heap_alloc_old (.cells #[.complex .f32 ta1 ta2, .complex .f32 tb1 tb2, .complex .f32 tc1 tc2] 26) (E4.heap HL)
        have HT := heap_alloc_at W4 (.cells #[.complex .f32 ta1 ta2, .complex .f32 tb1 tb2, .complex .f32 tc1 tc2] 26) _ rfl
        have HE := (HE.trans E4).alloc (.cells #[.complex .f32 ta1 ta2, .complex .f32 tb1 tb2, .complex .f32 tc1 tc2] 26)
        clear E4
        have cB0 := cell_of_heap (i := 0) HB rfl
        have cB1 := cell_of_heap (i := 1) HB rfl
        have cB2 := cell_of_heap (i := 2) HB rfl
        have cB3 := cell_of_heap (i := 3) HB rfl
        have cB4 := cell_of_heap (i := 4) HB rfl
        have cB5 := cell_of_heap (i := 5) HB rfl
        have cB6 := cell_of_heap (i := 6) HB rfl
        have cB7 := cell_of_heap (i := 7) HB rfl
        have cI0 := cell_of_heap (i := 0) HI rfl
        have cI1 := cell_of_heap (i := 1) HI rfl
        have cI2 := cell_of_heap (i := 2) HI rfl
        have cJ0 := cell_of_heap (i := 0) HJ rfl
        have cJ1 := cell_of_heap (i := 1) HJ rfl
        have cJ2 := cell_of_heap (i := 2) HJ rfl
        have cD0 := cell_of_heap (i := 0) HD rfl
        have cD1 := cell_of_heap (i := 1) HD rfl
        have cD2 := cell_of_heap (i := 2) HD rfl
        have cU0 := cell_of_heap (i := 0) HU rfl
        have cU1 := cell_of_heap (i := 1) HU rfl
        have cU2 := cell_of_heap (i := 2) HU rfl
        have cL0 := cell_of_heap (i := 0) HL rfl
        have cL1 := cell_of_heap (i := 1) HL rfl
        have cL2 := cell_of_heap (i := 2) HL rfl
        have cT0 := cell_of_heap (i := 0) HT rfl
        have cT1 := cell_of_heap (i := 1) HT rfl
        have cT2 := cell_of_heap (i := 2) HT rfl
        have KB := Lib.hid HB
        have KI := Lib.hid HI
        have KJ := Lib.hid HJ
        have KD := Lib.hid HD
        have KU := Lib.hid HU
        have KL := Lib.hid HL
        have KT := Lib.hid HT
        clear HB HI HJ HD HU HL HT
        go_wp2_with fail
        generalize W4.alloc (.cells #[.complex .f32 ta1 ta2, .complex .f32 tb1 tb2, .complex .f32 tc1 tc2] 26) = V4 at *
        generalize W4.heap.size = nT at *
        have HB := KB.out
        have HI := KI.out
        have HJ := KJ.out
        have HD := KD.out
        have HU := KU.out
        have HL := KL.out
        have HT := KT.out
        clear KB KI KJ KD KU KL KT
        clear cB0 cB1 cB2 cB3 cB4 cB5 cB6 cB7 cI0 cI1 cI2 cJ0 cJ1 cJ2 cD0 cD1 cD2 cU0 cU1 cU2 cL0 cL1 cL2 cT0 cT1 cT2
        refine (GZ.out _).mono ?_
        rintro e W5 ⟨rfl, E5⟩
        have HB := heap_alloc_old (.cells #[.complex .f32 0 0, .complex .f32 0 0, .complex .f32 0 0] 26) (E5.heap HB)
        have HI := heap_alloc_old (.cells #[.complex .f32 0 0, .complex .f32 0 0, .complex .f32 0 0] 26) (E5.heap HI)
        have HJ := heap_alloc_old (.cells #[.complex .f32 0 0, .complex .f32 0 0, .complex .f32 0 0] 26) (E5.heap HJ)
        have HD := heap_alloc_old (.cells #[.complex .f32 0 0, .complex .f32 0 0, .complex .f32 0 0] 26) (E5.heap HD)
        have HU := heap_alloc_old (.cells #[.complex .f32 0 0, .complex .f32 0 0, .complex .f32 0 0] 26) (E5.heap HU)
        have HL := heap_alloc_old (.cells #[.complex .f32 0 0, .complex .f32 0 0, .complex .f32 0 0] 26) (E5.heap HL)
        have HT := heap_alloc_old (.cells #[.complex .f32 0 0, .complex .f32 0 0, .complex .f32 0 0] 26) (E5.heap HT)
        have HZ := heap_alloc_at W5 (.cells #[.complex .f32 0 0, .complex .f32 0 0, .complex .f32 0 0] 26) _ rfl
        have HE := (HE.trans E5).alloc (.cells #[.complex .f32 0 0, .complex .f32 0 0, .complex .f32 0 0] 26)
        clear E5
        have cB0 := cell_of_heap (i := 0) HB rfl
        have cB1 := cell_of_heap (i := 1) HB rfl
        have cB2 := cell_of_heap (i := 2) HB rfl
        have cB3 := cell_of_heap (i := 3) HB rfl
        have cB4 := cell_of_heap (i := 4) HB rfl
        have cB5 := cell_of_heap (i := 5) HB rfl
        have cB6 := cell_of_heap (i := 6) HB rfl
        have cB7 := cell_of_heap (i := 7) HB rfl
        have cI0 := cell_of_heap (i := 0) HI rfl
        have cI1 := cell_of_heap (i := 1) HI rfl
        have cI2 := cell_of_heap (i := 2) HI rfl
        have cJ0 := cell_of_heap (i := 0) HJ rfl
        have cJ1 := cell_of_heap (i := 1) HJ rfl
        have cJ2 := cell_of_heap (i := 2) HJ rfl
        have cD0 := cell_of_heap (i := 0) HD rfl
        have cD1 := cell_of_heap (i := 1) HD rfl
        have cD2 := cell_of_heap (i := 2) HD rfl
        have cU0 := cell_of_heap (i := 0) HU rfl
        have cU1 := cell_of_heap (i := 1) HU rfl
        have cU2 := cell_of_heap (i := 2) HU rfl
        have cL0 := cell_of_heap (i := 0) HL rfl
        have cL1 := cell_of_heap (i := 1) HL rfl
        have cL2 := cell_of_heap (i := 2) HL rfl
        have cT0 := cell_of_heap (i := 0) HT rfl
        have cT1 := cell_of_heap (i := 1) HT rfl
        have cT2 := cell_of_heap (i := 2) HT rfl
        have cZ0 := cell_of_heap (i := 0) HZ rfl
        have cZ1 := cell_of_heap (i := 1) HZ rfl
        have cZ2 := cell_of_heap (i := 2) HZ rfl
        have KB := Lib.hid HB
        have KI := Lib.hid HI
        have KJ := Lib.hid HJ
        have KD := Lib.hid HD
        have KU := Lib.hid HU
        have KL := Lib.hid HL
        have KT := Lib.hid HT
        have KZ := Lib.hid HZ
        clear HB HI HJ HD HU HL HT HZ
        go_wp2_with fail
        generalize W5.alloc (.cells #[.complex .f32 0 0, .complex .f32 0 0, .complex .f32 0 0] 26) = V5 at *
        generalize W5.heap.size = nZ at *
        have HB := KB.out
        have HI := KI.out
        have HJ := KJ.out
        have HD := KD.out
        have HU := KU.out
        have HL := KL.out
        have HT := KT.out
        have HZ := KZ.out
        clear KB KI KJ KD KU KL KT KZ
        clear cB0 cB1 cB2 cB3 cB4 cB5 cB6 cB7 cI0 cI1 cI2 cJ0 cJ1 cJ2 cD0 cD1 cD2 cU0 cU1 cU2 cL0 cL1 cL2 cT0 cT1 cT2 cZ0 cZ1 cZ2
        refine (GP.out _).mono ?_
        rintro e W6 ⟨rfl, E6⟩
        have HB := E6.heap HB
        have HI := E6.heap HI
        have HJ := E6.heap HJ
        have HD := E6.heap HD
        have HU := E6.heap HU
        have HL := E6.heap HL
        have HT := E6.heap HT
        have HZ := E6.heap HZ
        have HE := HE.trans E6
        clear E6
        have cB0 := cell_of_heap (i := 0) HB rfl
        have cB1 := cell_of_heap (i := 1) HB rfl
        have cB2 := cell_of_heap (i := 2) HB rfl
        have cB3 := cell_of_heap (i := 3) HB rfl
        have cB4 := cell_of_heap (i := 4) HB rfl
        have cB5 := cell_of_heap (i := 5) HB rfl
        have cB6 := cell_of_heap (i := 6) HB rfl
        have cB7 := cell_of_heap (i := 7) HB rfl
        have cI0 := cell_of_heap (i := 0) HI rfl
        have cI1 := cell_of_heap (i := 1) HI rfl
        have cI2 := cell_of_heap (i := 2) HI rfl
        have cJ0 := cell_of_heap (i := 0) HJ rfl
        have cJ1 := cell_of_heap (i := 1) HJ rfl
        have cJ2 := cell_of_heap (i := 2) HJ rfl
        have cD0 := cell_of_heap (i := 0) HD rfl
        have cD1 := cell_of_heap (i := 1) HD rfl
        have cD2 := cell_of_heap (i := 2) HD rfl
        have cU0 := cell_of_heap (i := 0) HU rfl
        have cU1 := cell_of_heap (i := 1) HU rfl
        have cU2 := cell_of_heap (i := 2) HU rfl
        have cL0 := cell_of_heap (i := 0) HL rfl
        have cL1 := cell_of_heap (i := 1) HL rfl
        have cL2 := cell_of_heap (i := 2) HL rfl
        have cT0 := cell_of_heap (i := 0) HT rfl
        have cT1 := cell_of_heap (i := 1) HT rfl
        have cT2 := cell_of_heap (i := 2) HT rfl
        have cZ0 := cell_of_heap (i := 0) HZ rfl
        have cZ1 := cell_of_heap (i := 1) HZ rfl
        have cZ2 := cell_of_heap (i := 2) HZ rfl
        have KB := Lib.hid HB
        have KI := Lib.hid HI
        have KJ := Lib.hid HJ
        have KD := Lib.hid HD
        have KU := Lib.hid HU
        have KL := Lib.hid HL
        have KT := Lib.hid HT
        have KZ := Lib.hid HZ
        clear HB HI HJ HD HU HL HT HZ
        go_wp2_with (go_at_call 12; refine (GA.out _).mono ?_; rintro e V ⟨rfl, rfl⟩)
        go_ret
        exact ⟨rfl, HE⟩
end Go.Proofs.Ytacigddenamphaa
