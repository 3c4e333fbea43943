/- The walk over the law on components. -/
import Derived.Test.YtacigddenamphaaWk6
namespace Go.Proofs.Ytacigddenamphaa
open Go.RowKit

set_option maxHeartbeats 8000000 in
theorem comp_calls (v1 v2 : Value) (a1 a2 b1 b2 c1 c2 x1 x2 z1 z2 p1 p2 m1 m2 ba1 ba2 bb1 bb2 bc1 bc2 ea1 ea2 eb1 eb2 ec1 ec2 ez1 ez2 ep1 ep2 em1 em2 nz1 nz2 np1 np2 nm1 nm2 g1 g2 s1 s2 t1 t2 d1 d2 d3 d4 d5 d6 d7 d8 l1 l2 l3 l4 k1 k2 k3 k4 e1 e2 : Nat) (w : World)
    (f5 : ∀ w', Ext w w' → Calls Try.prog 5 #[v1, v2] w' fun e w'' => e = .returned (.bool false) ∧ w'' = w')
    (f6 : ∀ w', Ext w w' → Calls Try.prog 6 #[v1, .int .i64 0] w' fun e w'' => e = .returned (.agg #[.complex .f32 a1 a2, .complex .f32 b1 b2, .complex .f32 c1 c2]) ∧ Ext w' w'')
    (f7 : ∀ w', Ext w w' → Calls Try.prog 7 #[v2, .int .i64 0] w' fun e w'' => e = .returned (.complex .f32 x1 x2) ∧ w'' = w')
    (f8 : ∀ w, Calls Try.prog 8 #[.agg #[.complex .f32 a1 a2, .complex .f32 b1 b2, .complex .f32 c1 c2]] w fun e w' => e = .returned (.agg #[.complex .f32 z1 z2, .complex .f32 p1 p2, .complex .f32 m1 m2]) ∧ Ext w w')
    (f9 : ∀ w, Calls Try.prog 9 #[.agg #[.complex .f32 z1 z2, .complex .f32 p1 p2, .complex .f32 m1 m2]] w fun e w' => e = .returned (.agg #[.complex .f32 ba1 ba2, .complex .f32 bb1 bb2, .complex .f32 bc1 bc2]) ∧ Ext w w')
    (f10 : ∀ w, Calls Try.prog 10 #[.complex .f32 x1 x2] w fun e w' => e = .returned (.agg #[.complex .f32 ea1 ea2, .complex .f32 eb1 eb2, .complex .f32 ec1 ec2]) ∧ Ext w w')
    (f8e : ∀ w, Calls Try.prog 8 #[.agg #[.complex .f32 ea1 ea2, .complex .f32 eb1 eb2, .complex .f32 ec1 ec2]] w fun e w' => e = .returned (.agg #[.complex .f32 ez1 ez2, .complex .f32 ep1 ep2, .complex .f32 em1 em2]) ∧ Ext w w')
    (f8n : ∀ w, Calls Try.prog 8 #[.agg #[.complex .f32 c1 c2, .complex .f32 a1 a2, .complex .f32 b1 b2]] w fun e w' => e = .returned (.agg #[.complex .f32 nz1 nz2, .complex .f32 np1 np2, .complex .f32 nm1 nm2]) ∧ Ext w w')
    (q1 : ∀ w, Calls Try.prog 12 #[.complex .f32 ba1 ba2, .complex .f32 a1 a2] w fun e w' => e = .returned (.float .f64 d1) ∧ w' = w)
    (q2 : ∀ w, Calls Try.prog 12 #[.complex .f32 bb1 bb2, .complex .f32 b1 b2] w fun e w' => e = .returned (.float .f64 d2) ∧ w' = w)
    (q3 : ∀ w, Calls Try.prog 12 #[.complex .f32 bc1 bc2, .complex .f32 c1 c2] w fun e w' => e = .returned (.float .f64 d3) ∧ w' = w)
    (q4 : ∀ w, Calls Try.prog 12 #[.complex .f32 ep1 ep2, .complex .f32 x1 x2] w fun e w' => e = .returned (.float .f64 d4) ∧ w' = w)
    (q5 : ∀ w, Calls Try.prog 12 #[.complex .f32 ez1 ez2, .complex .f32 0 0] w fun e w' => e = .returned (.float .f64 d5) ∧ w' = w)
    (q6 : ∀ w, Calls Try.prog 12 #[.complex .f32 em1 em2, .complex .f32 0 0] w fun e w' => e = .returned (.float .f64 d6) ∧ w' = w)
    (q7 : ∀ w, Calls Try.prog 12 #[.complex .f32 nz1 nz2, .complex .f32 z1 z2] w fun e w' => e = .returned (.float .f64 d7) ∧ w' = w)
    (q8 : ∀ w, Calls Try.prog 12 #[.complex .f32 g1 g2, .complex .f32 t1 t2] w fun e w' => e = .returned (.float .f64 d8) ∧ w' = w)
    (o1 : (FloatKind.f64.format.order d1 4562254508917369340 == some .gt) = false)
    (o2 : (FloatKind.f64.format.order d2 4562254508917369340 == some .gt) = false)
    (o3 : (FloatKind.f64.format.order d3 4562254508917369340 == some .gt) = false)
    (o4 : (FloatKind.f64.format.order d4 4562254508917369340 == some .gt) = false)
    (o5 : (FloatKind.f64.format.order d5 4562254508917369340 == some .gt) = false)
    (o6 : (FloatKind.f64.format.order d6 4562254508917369340 == some .gt) = false)
    (o7 : (FloatKind.f64.format.order d7 4562254508917369340 == some .gt) = false)
    (o8 : (FloatKind.f64.format.order d8 4562254508917369340 == some .lt) = true)
    (r1 : ∀ w, Calls Try.prog 14 #[.complex .f32 np1 np2] w fun e w' => e = .returned (.float .f32 l1) ∧ w' = w)
    (v1_ : floatToFloatBits .f32 l1 .f64 = some k1)
    (r2 : ∀ w, Calls Try.prog 14 #[.complex .f32 p1 p2] w fun e w' => e = .returned (.float .f32 l2) ∧ w' = w)
    (v2_ : floatToFloatBits .f32 l2 .f64 = some k2)
    (r3 : ∀ w, Calls Try.prog 14 #[.complex .f32 nm1 nm2] w fun e w' => e = .returned (.float .f32 l3) ∧ w' = w)
    (v3_ : floatToFloatBits .f32 l3 .f64 = some k3)
    (r4 : ∀ w, Calls Try.prog 14 #[.complex .f32 m1 m2] w fun e w' => e = .returned (.float .f32 l4) ∧ w' = w)
    (v4_ : floatToFloatBits .f32 l4 .f64 = some k4)
    (gp1 : ∀ w, Calls Try.prog 13 #[.float .f64 k1, .float .f64 k2] w fun e w' => e = .returned (.float .f64 e1) ∧ w' = w)
    (gp2 : ∀ w, Calls Try.prog 13 #[.float .f64 k3, .float .f64 k4] w fun e w' => e = .returned (.float .f64 e2) ∧ w' = w)
    (u1 : (FloatKind.f64.format.order e1 4562254508917369340 == some .gt) = false)
    (u2 : (FloatKind.f64.format.order e2 4562254508917369340 == some .gt) = false)
    (f15 : ∀ w, Calls Try.prog 15 #[.agg #[.complex .f32 a1 a2, .complex .f32 b1 b2, .complex .f32 c1 c2]] w fun e w' => e = .returned (.complex .f32 g1 g2) ∧ Ext w w')
    (f16 : ∀ w, Calls Try.prog 16 #[.agg #[.complex .f32 z1 z2, .complex .f32 p1 p2, .complex .f32 m1 m2], .agg #[.complex .f32 z1 z2, .complex .f32 p1 p2, .complex .f32 m1 m2]] w fun e w' => e = .returned (.bool true) ∧ Ext w w')
    (y1 : floatBits .add .f32 z1 z1 = some s1)
    (y3 : floatBits .add .f32 s1 z1 = some t1)
    (y2 : floatBits .add .f32 z2 z2 = some s2)
    (y4 : floatBits .add .f32 s2 z2 = some t2)
    : Calls Try.prog 3 #[v1, v2] w fun e w' => e = .returned (.bool true) ∧ Ext w w' := by
  have y1 := fcop (.inl rfl) y1 y2; have y3 := fcop (.inl rfl) y3 y4
  have w1 := fwiden v1_; have w2 := fwiden v2_; have w3 := fwiden v3_; have w4 := fwiden v4_
  have F6 := Lib.hid f6
  have F7 := Lib.hid f7
  have F8 := Lib.hid f8
  have F9 := Lib.hid f9
  have F10 := Lib.hid f10
  have F8E := Lib.hid f8e
  have F8N := Lib.hid f8n
  have Q1 := Lib.hid q1
  have Q2 := Lib.hid q2
  have Q3 := Lib.hid q3
  have Q4 := Lib.hid q4
  have Q5 := Lib.hid q5
  have Q6 := Lib.hid q6
  have Q7 := Lib.hid q7
  have Q8 := Lib.hid q8
  have R1 := Lib.hid r1
  have R2 := Lib.hid r2
  have R3 := Lib.hid r3
  have R4 := Lib.hid r4
  have GP1 := Lib.hid gp1
  have GP2 := Lib.hid gp2
  have F15 := Lib.hid f15
  have F16 := Lib.hid f16
  have F5 := Lib.hid f5
  clear f6 f7 f8 f9 f10 f8e f8n q1 q2 q3 q4 q5 q6 q7 q8 r1 r2 r3 r4 gp1 gp2 f15 f16 f5
  go_enter Try.func3, Try.ntmps3
  go_wp2_with (go_at_call 5; refine (F5.out _ (Ext.refl _)).mono ?_; rintro e w' ⟨rfl, rfl⟩)
  refine (F6.out _ (Ext.refl _)).mono ?_
  rintro e W1 ⟨rfl, E1⟩
  have HP := heap_alloc_at W1 (.cells #[.complex .f32 a1 a2, .complex .f32 b1 b2, .complex .f32 c1 c2] 26) _ rfl
  have HE := E1.alloc (.cells #[.complex .f32 a1 a2, .complex .f32 b1 b2, .complex .f32 c1 c2] 26)
  clear E1
  have cP0 := cell_of_heap (i := 0) HP rfl
  have cP1 := cell_of_heap (i := 1) HP rfl
  have cP2 := cell_of_heap (i := 2) HP rfl
  have KP := Lib.hid HP
  clear HP
  go_wp2_with fail
  generalize W1.alloc (.cells #[.complex .f32 a1 a2, .complex .f32 b1 b2, .complex .f32 c1 c2] 26) = V1 at *
  generalize W1.heap.size = nP at *
  refine (F7.out _ HE).mono ?_
  rintro e V ⟨rfl, rfl⟩
  go_wp2_with fail
  have HP := KP.out
  clear KP
  clear cP0 cP1 cP2
  refine (F8.out _).mono ?_
  rintro e W2 ⟨rfl, E2⟩
  have HP := heap_alloc_old (.cells #[.complex .f32 z1 z2, .complex .f32 p1 p2, .complex .f32 m1 m2] 30) (E2.heap HP)
  have HT := heap_alloc_at W2 (.cells #[.complex .f32 z1 z2, .complex .f32 p1 p2, .complex .f32 m1 m2] 30) _ rfl
  have HE := (HE.trans E2).alloc (.cells #[.complex .f32 z1 z2, .complex .f32 p1 p2, .complex .f32 m1 m2] 30)
  clear E2
  have cP0 := cell_of_heap (i := 0) HP rfl
  have cP1 := cell_of_heap (i := 1) HP rfl
  have cP2 := cell_of_heap (i := 2) HP rfl
  have cT0 := cell_of_heap (i := 0) HT rfl
  have cT1 := cell_of_heap (i := 1) HT rfl
  have cT2 := cell_of_heap (i := 2) HT rfl
  have KP := Lib.hid HP
  have KT := Lib.hid HT
  clear HP HT
  go_wp2_with fail
  generalize W2.alloc (.cells #[.complex .f32 z1 z2, .complex .f32 p1 p2, .complex .f32 m1 m2] 30) = V2 at *
  generalize W2.heap.size = nT at *
  have HP := KP.out
  have HT := KT.out
  clear KP KT
  clear cP0 cP1 cP2 cT0 cT1 cT2
  refine (F9.out _).mono ?_
  rintro e W3 ⟨rfl, E3⟩
  have HP := heap_alloc_old (.cells #[.complex .f32 ba1 ba2, .complex .f32 bb1 bb2, .complex .f32 bc1 bc2] 26) (E3.heap HP)
  have HT := heap_alloc_old (.cells #[.complex .f32 ba1 ba2, .complex .f32 bb1 bb2, .complex .f32 bc1 bc2] 26) (E3.heap HT)
  have HB := heap_alloc_at W3 (.cells #[.complex .f32 ba1 ba2, .complex .f32 bb1 bb2, .complex .f32 bc1 bc2] 26) _ rfl
  have HE := (HE.trans E3).alloc (.cells #[.complex .f32 ba1 ba2, .complex .f32 bb1 bb2, .complex .f32 bc1 bc2] 26)
  clear E3
  have cP0 := cell_of_heap (i := 0) HP rfl
  have cP1 := cell_of_heap (i := 1) HP rfl
  have cP2 := cell_of_heap (i := 2) HP rfl
  have cT0 := cell_of_heap (i := 0) HT rfl
  have cT1 := cell_of_heap (i := 1) HT rfl
  have cT2 := cell_of_heap (i := 2) HT rfl
  have cB0 := cell_of_heap (i := 0) HB rfl
  have cB1 := cell_of_heap (i := 1) HB rfl
  have cB2 := cell_of_heap (i := 2) HB rfl
  have KP := Lib.hid HP
  have KT := Lib.hid HT
  have KB := Lib.hid HB
  clear HP HT HB
  go_wp2_with fail
  generalize W3.alloc (.cells #[.complex .f32 ba1 ba2, .complex .f32 bb1 bb2, .complex .f32 bc1 bc2] 26) = V3 at *
  generalize W3.heap.size = nB at *
  have HP := KP.out
  have HT := KT.out
  have HB := KB.out
  clear KP KT KB
  clear cP0 cP1 cP2 cT0 cT1 cT2 cB0 cB1 cB2
  refine (F10.out _).mono ?_
  rintro e W4 ⟨rfl, E4⟩
  have HP := E4.heap HP
  have HT := E4.heap HT
  have HB := E4.heap HB
  have HE := HE.trans E4
  clear E4
  have cP0 := cell_of_heap (i := 0) HP rfl
  have cP1 := cell_of_heap (i := 1) HP rfl
  have cP2 := cell_of_heap (i := 2) HP rfl
  have cT0 := cell_of_heap (i := 0) HT rfl
  have cT1 := cell_of_heap (i := 1) HT rfl
  have cT2 := cell_of_heap (i := 2) HT rfl
  have cB0 := cell_of_heap (i := 0) HB rfl
  have cB1 := cell_of_heap (i := 1) HB rfl
  have cB2 := cell_of_heap (i := 2) HB rfl
  have KP := Lib.hid HP
  have KT := Lib.hid HT
  have KB := Lib.hid HB
  clear HP HT HB
  go_wp2_with fail
  have HP := KP.out
  have HT := KT.out
  have HB := KB.out
  clear KP KT KB
  clear cP0 cP1 cP2 cT0 cT1 cT2 cB0 cB1 cB2
  refine (F8E.out _).mono ?_
  rintro e W5 ⟨rfl, E5⟩
  have HP := heap_alloc_old (.cells #[.complex .f32 ez1 ez2, .complex .f32 ep1 ep2, .complex .f32 em1 em2] 30) (E5.heap HP)
  have HT := heap_alloc_old (.cells #[.complex .f32 ez1 ez2, .complex .f32 ep1 ep2, .complex .f32 em1 em2] 30) (E5.heap HT)
  have HB := heap_alloc_old (.cells #[.complex .f32 ez1 ez2, .complex .f32 ep1 ep2, .complex .f32 em1 em2] 30) (E5.heap HB)
  have HV := heap_alloc_at W5 (.cells #[.complex .f32 ez1 ez2, .complex .f32 ep1 ep2, .complex .f32 em1 em2] 30) _ rfl
  have HE := (HE.trans E5).alloc (.cells #[.complex .f32 ez1 ez2, .complex .f32 ep1 ep2, .complex .f32 em1 em2] 30)
  clear E5
  have cP0 := cell_of_heap (i := 0) HP rfl
  have cP1 := cell_of_heap (i := 1) HP rfl
  have cP2 := cell_of_heap (i := 2) HP rfl
  have cT0 := cell_of_heap (i := 0) HT rfl
  have cT1 := cell_of_heap (i := 1) HT rfl
  have cT2 := cell_of_heap (i := 2) HT rfl
  have cB0 := cell_of_heap (i := 0) HB rfl
  have cB1 := cell_of_heap (i := 1) HB rfl
  have cB2 := cell_of_heap (i := 2) HB rfl
  have cV0 := cell_of_heap (i := 0) HV rfl
  have cV1 := cell_of_heap (i := 1) HV rfl
  have cV2 := cell_of_heap (i := 2) HV rfl
  have KP := Lib.hid HP
  have KT := Lib.hid HT
  have KB := Lib.hid HB
  have KV := Lib.hid HV
  clear HP HT HB HV
  go_wp2_with fail
  generalize W5.alloc (.cells #[.complex .f32 ez1 ez2, .complex .f32 ep1 ep2, .complex .f32 em1 em2] 30) = V5 at *
  generalize W5.heap.size = nV at *
  have HP := KP.out
  have HT := KT.out
  have HB := KB.out
  have HV := KV.out
  clear KP KT KB KV
  clear cP0 cP1 cP2 cT0 cT1 cT2 cB0 cB1 cB2 cV0 cV1 cV2
  refine (next_calls _ _ _ _ _ _ _).mono ?_
  rintro e W6 ⟨rfl, E6⟩
  have HP := E6.heap HP
  have HT := E6.heap HT
  have HB := E6.heap HB
  have HV := E6.heap HV
  have HE := HE.trans E6
  clear E6
  have cP0 := cell_of_heap (i := 0) HP rfl
  have cP1 := cell_of_heap (i := 1) HP rfl
  have cP2 := cell_of_heap (i := 2) HP rfl
  have cT0 := cell_of_heap (i := 0) HT rfl
  have cT1 := cell_of_heap (i := 1) HT rfl
  have cT2 := cell_of_heap (i := 2) HT rfl
  have cB0 := cell_of_heap (i := 0) HB rfl
  have cB1 := cell_of_heap (i := 1) HB rfl
  have cB2 := cell_of_heap (i := 2) HB rfl
  have cV0 := cell_of_heap (i := 0) HV rfl
  have cV1 := cell_of_heap (i := 1) HV rfl
  have cV2 := cell_of_heap (i := 2) HV rfl
  have KP := Lib.hid HP
  have KT := Lib.hid HT
  have KB := Lib.hid HB
  have KV := Lib.hid HV
  clear HP HT HB HV
  go_wp2_with fail
  have HP := KP.out
  have HT := KT.out
  have HB := KB.out
  have HV := KV.out
  clear KP KT KB KV
  clear cP0 cP1 cP2 cT0 cT1 cT2 cB0 cB1 cB2 cV0 cV1 cV2
  refine (F8N.out _).mono ?_
  rintro e W7 ⟨rfl, E7⟩
  have HP := heap_alloc_old (.cells #[.complex .f32 nz1 nz2, .complex .f32 np1 np2, .complex .f32 nm1 nm2] 30) (E7.heap HP)
  have HT := heap_alloc_old (.cells #[.complex .f32 nz1 nz2, .complex .f32 np1 np2, .complex .f32 nm1 nm2] 30) (E7.heap HT)
  have HB := heap_alloc_old (.cells #[.complex .f32 nz1 nz2, .complex .f32 np1 np2, .complex .f32 nm1 nm2] 30) (E7.heap HB)
  have HV := heap_alloc_old (.cells #[.complex .f32 nz1 nz2, .complex .f32 np1 np2, .complex .f32 nm1 nm2] 30) (E7.heap HV)
  have HN := heap_alloc_at W7 (.cells #[.complex .f32 nz1 nz2, .complex .f32 np1 np2, .complex .f32 nm1 nm2] 30) _ rfl
  have HE := (HE.trans E7).alloc (.cells #[.complex .f32 nz1 nz2, .complex .f32 np1 np2, .complex .f32 nm1 nm2] 30)
  clear E7
  have cP0 := cell_of_heap (i := 0) HP rfl
  have cP1 := cell_of_heap (i := 1) HP rfl
  have cP2 := cell_of_heap (i := 2) HP rfl
  have cT0 := cell_of_heap (i := 0) HT rfl
  have cT1 := cell_of_heap (i := 1) HT rfl
  have cT2 := cell_of_heap (i := 2) HT rfl
  have cB0 := cell_of_heap (i := 0) HB rfl
  have cB1 := cell_of_heap (i := 1) HB rfl
  have cB2 := cell_of_heap (i := 2) HB rfl
  have cV0 := cell_of_heap (i := 0) HV rfl
  have cV1 := cell_of_heap (i := 1) HV rfl
  have cV2 := cell_of_heap (i := 2) HV rfl
  have cN0 := cell_of_heap (i := 0) HN rfl
  have cN1 := cell_of_heap (i := 1) HN rfl
  have cN2 := cell_of_heap (i := 2) HN rfl
  have KP := Lib.hid HP
  have KT := Lib.hid HT
  have KB := Lib.hid HB
  have KV := Lib.hid HV
  have KN := Lib.hid HN
  clear HP HT HB HV HN
  go_wp2_with fail
  generalize W7.alloc (.cells #[.complex .f32 nz1 nz2, .complex .f32 np1 np2, .complex .f32 nm1 nm2] 30) = V7 at *
  generalize W7.heap.size = nN at *
  go_wp2_with (go_at_call 12; first | ((with_reducible refine (Q1.out _).mono ?_); rintro e V ⟨rfl, rfl⟩) | ((with_reducible refine (Q2.out _).mono ?_); rintro e V ⟨rfl, rfl⟩) | ((with_reducible refine (Q3.out _).mono ?_); rintro e V ⟨rfl, rfl⟩) | ((with_reducible refine (Q4.out _).mono ?_); rintro e V ⟨rfl, rfl⟩) | ((with_reducible refine (Q5.out _).mono ?_); rintro e V ⟨rfl, rfl⟩) | ((with_reducible refine (Q6.out _).mono ?_); rintro e V ⟨rfl, rfl⟩) | ((with_reducible refine (Q7.out _).mono ?_); rintro e V ⟨rfl, rfl⟩) | ((with_reducible refine (Q8.out _).mono ?_); rintro e V ⟨rfl, rfl⟩))
  have HP := KP.out
  have HT := KT.out
  have HB := KB.out
  have HV := KV.out
  have HN := KN.out
  clear KP KT KB KV KN
  clear cP0 cP1 cP2 cT0 cT1 cT2 cB0 cB1 cB2 cV0 cV1 cV2 cN0 cN1 cN2
  have xP0 := xw_cell (cell_of_heap (i := 0) HP rfl)
  have xP1 := xw_cell (cell_of_heap (i := 1) HP rfl)
  have xP2 := xw_cell (cell_of_heap (i := 2) HP rfl)
  have xT0 := xw_cell (cell_of_heap (i := 0) HT rfl)
  have xT1 := xw_cell (cell_of_heap (i := 1) HT rfl)
  have xT2 := xw_cell (cell_of_heap (i := 2) HT rfl)
  have xB0 := xw_cell (cell_of_heap (i := 0) HB rfl)
  have xB1 := xw_cell (cell_of_heap (i := 1) HB rfl)
  have xB2 := xw_cell (cell_of_heap (i := 2) HB rfl)
  have xV0 := xw_cell (cell_of_heap (i := 0) HV rfl)
  have xV1 := xw_cell (cell_of_heap (i := 1) HV rfl)
  have xV2 := xw_cell (cell_of_heap (i := 2) HV rfl)
  have xN0 := xw_cell (cell_of_heap (i := 0) HN rfl)
  have xN1 := xw_cell (cell_of_heap (i := 1) HN rfl)
  have xN2 := xw_cell (cell_of_heap (i := 2) HN rfl)
  have KP := Lib.hid HP
  have KT := Lib.hid HT
  have KB := Lib.hid HB
  have KV := Lib.hid HV
  have KN := Lib.hid HN
  clear HP HT HB HV HN
  refine wp_region_xw_all (by kernel_rfl) (by kernel_rfl) ?_
  repeat (go_big_quiet_step (first | (go_at_call 12; first | (with_reducible exact call_same (Q1.out _)) | (with_reducible exact call_same (Q2.out _)) | (with_reducible exact call_same (Q3.out _)) | (with_reducible exact call_same (Q4.out _)) | (with_reducible exact call_same (Q5.out _)) | (with_reducible exact call_same (Q6.out _)) | (with_reducible exact call_same (Q7.out _)) | (with_reducible exact call_same (Q8.out _))) | (go_at_call 14; first | (with_reducible exact call_same (R1.out _)) | (with_reducible exact call_same (R2.out _)) | (with_reducible exact call_same (R3.out _)) | (with_reducible exact call_same (R4.out _))) | (go_at_call 13; first | (with_reducible exact call_same (GP1.out _)) | (with_reducible exact call_same (GP2.out _)))))
  refine wpQuiet_nil ?_
  intro W hW
  have HP := KP.out
  have HT := KT.out
  have HB := KB.out
  have HV := KV.out
  have HN := KN.out
  clear KP KT KB KV KN
  clear xP0 xP1 xP2 xT0 xT1 xT2 xB0 xB1 xB2 xV0 xV1 xV2 xN0 xN1 xN2
  have HP := hW.heap HP
  have HT := hW.heap HT
  have HB := hW.heap HB
  have HV := hW.heap HV
  have HN := hW.heap HN
  have HE := HE.trans hW
  clear hW
  have cP0 := cell_of_heap (i := 0) HP rfl
  have cP1 := cell_of_heap (i := 1) HP rfl
  have cP2 := cell_of_heap (i := 2) HP rfl
  have cT0 := cell_of_heap (i := 0) HT rfl
  have cT1 := cell_of_heap (i := 1) HT rfl
  have cT2 := cell_of_heap (i := 2) HT rfl
  have cB0 := cell_of_heap (i := 0) HB rfl
  have cB1 := cell_of_heap (i := 1) HB rfl
  have cB2 := cell_of_heap (i := 2) HB rfl
  have cV0 := cell_of_heap (i := 0) HV rfl
  have cV1 := cell_of_heap (i := 1) HV rfl
  have cV2 := cell_of_heap (i := 2) HV rfl
  have cN0 := cell_of_heap (i := 0) HN rfl
  have cN1 := cell_of_heap (i := 1) HN rfl
  have cN2 := cell_of_heap (i := 2) HN rfl
  have KP := Lib.hid HP
  have KT := Lib.hid HT
  have KB := Lib.hid HB
  have KV := Lib.hid HV
  have KN := Lib.hid HN
  clear HP HT HB HV HN
  go_wp2_with fail
  have HP := KP.out
  have HT := KT.out
  have HB := KB.out
  have HV := KV.out
  have HN := KN.out
  clear KP KT KB KV KN
  clear cP0 cP1 cP2 cT0 cT1 cT2 cB0 cB1 cB2 cV0 cV1 cV2 cN0 cN1 cN2
  refine (F15.out _).mono ?_
  rintro e W8 ⟨rfl, E8⟩
  have HP := E8.heap HP
  have HT := E8.heap HT
  have HB := E8.heap HB
  have HV := E8.heap HV
  have HN := E8.heap HN
  have HE := HE.trans E8
  clear E8
  have cP0 := cell_of_heap (i := 0) HP rfl
  have cP1 := cell_of_heap (i := 1) HP rfl
  have cP2 := cell_of_heap (i := 2) HP rfl
  have cT0 := cell_of_heap (i := 0) HT rfl
  have cT1 := cell_of_heap (i := 1) HT rfl
  have cT2 := cell_of_heap (i := 2) HT rfl
  have cB0 := cell_of_heap (i := 0) HB rfl
  have cB1 := cell_of_heap (i := 1) HB rfl
  have cB2 := cell_of_heap (i := 2) HB rfl
  have cV0 := cell_of_heap (i := 0) HV rfl
  have cV1 := cell_of_heap (i := 1) HV rfl
  have cV2 := cell_of_heap (i := 2) HV rfl
  have cN0 := cell_of_heap (i := 0) HN rfl
  have cN1 := cell_of_heap (i := 1) HN rfl
  have cN2 := cell_of_heap (i := 2) HN rfl
  have KP := Lib.hid HP
  have KT := Lib.hid HT
  have KB := Lib.hid HB
  have KV := Lib.hid HV
  have KN := Lib.hid HN
  clear HP HT HB HV HN
  go_wp2_with fail
  have HP := KP.out
  have HT := KT.out
  have HB := KB.out
  have HV := KV.out
  have HN := KN.out
  clear KP KT KB KV KN
  clear cP0 cP1 cP2 cT0 cT1 cT2 cB0 cB1 cB2 cV0 cV1 cV2 cN0 cN1 cN2
  have xP0 := xw_cell (cell_of_heap (i := 0) HP rfl)
  have xP1 := xw_cell (cell_of_heap (i := 1) HP rfl)
  have xP2 := xw_cell (cell_of_heap (i := 2) HP rfl)
  have xT0 := xw_cell (cell_of_heap (i := 0) HT rfl)
  have xT1 := xw_cell (cell_of_heap (i := 1) HT rfl)
  have xT2 := xw_cell (cell_of_heap (i := 2) HT rfl)
  have xB0 := xw_cell (cell_of_heap (i := 0) HB rfl)
  have xB1 := xw_cell (cell_of_heap (i := 1) HB rfl)
  have xB2 := xw_cell (cell_of_heap (i := 2) HB rfl)
  have xV0 := xw_cell (cell_of_heap (i := 0) HV rfl)
  have xV1 := xw_cell (cell_of_heap (i := 1) HV rfl)
  have xV2 := xw_cell (cell_of_heap (i := 2) HV rfl)
  have xN0 := xw_cell (cell_of_heap (i := 0) HN rfl)
  have xN1 := xw_cell (cell_of_heap (i := 1) HN rfl)
  have xN2 := xw_cell (cell_of_heap (i := 2) HN rfl)
  have KP := Lib.hid HP
  have KT := Lib.hid HT
  have KB := Lib.hid HB
  have KV := Lib.hid HV
  have KN := Lib.hid HN
  clear HP HT HB HV HN
  refine wp_region_xw_all (by kernel_rfl) (by kernel_rfl) ?_
  repeat (go_big_quiet_step (first | (go_at_call 12; first | (with_reducible exact call_same (Q8.out _))) | (go_at_call 8; first | (with_reducible exact call_ext (F8.out _))) | (go_at_call 16; first | (with_reducible exact call_ext (F16.out _)))))
  refine wpQuiet_nil ?_
  intro W hW
  have HP := KP.out
  have HT := KT.out
  have HB := KB.out
  have HV := KV.out
  have HN := KN.out
  clear KP KT KB KV KN
  clear xP0 xP1 xP2 xT0 xT1 xT2 xB0 xB1 xB2 xV0 xV1 xV2 xN0 xN1 xN2
  have HE := HE.trans hW
  clear hW HP HT HB HV HN
  go_wp2
  go_ret
  exact ⟨rfl, HE⟩
end Go.Proofs.Ytacigddenamphaa
