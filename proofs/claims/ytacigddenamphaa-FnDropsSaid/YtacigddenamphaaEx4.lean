/- Powers: exact where the load is a power, finite where it is not. -/
import Derived.Test.YtacigddenamphaaEx3
namespace Go.Proofs.Ytacigddenamphaa
open Go.RowKit Flt

theorem near32g {z q : Rat} (h : Near Ieee.single 1000000 z q) : Ap 1 z q := by
  obtain ⟨h1, h2, _⟩ := h
  have e1 : -(Ieee.single.fractionBits : Int) - 1 = -24 := by decide
  have e2 : Ieee.single.leastPlace - 1 = -150 := by decide
  rw [e1, e2, P_m24] at h1 h2
  have := P_tiny32
  unfold Ap
  constructor <;> grind
theorem near64g {z q : Rat} (h : Near Ieee.double 1000000 z q) : Ap 1 z q := by
  obtain ⟨h1, h2, _⟩ := h
  have e1 : -(Ieee.double.fractionBits : Int) - 1 = -53 := by decide
  have e2 : Ieee.double.leastPlace - 1 = -1075 := by decide
  rw [e1, e2, P_m53] at h1 h2
  have := P_tiny64
  unfold Ap
  constructor <;> grind
theorem near64h {z q : Rat} (h : Near Ieee.double (2 * 5000) z q) : Ap 1 z q := by
  obtain ⟨h1, h2, _⟩ := h
  have e1 : -(Ieee.double.fractionBits : Int) - 1 = -53 := by decide
  have e2 : Ieee.double.leastPlace - 1 = -1075 := by decide
  rw [e1, e2, P_m53] at h1 h2
  have := P_tiny64
  unfold Ap
  constructor <;> grind
theorem add32g {x y : Nat} {p q : Rat} (hx : V32 x p) (hy : V32 y q) (h : Bd 1000000 (p + q)) :
    ∃ r, floatBits .add .f32 x y = some r ∧ ∃ z, V32 r z ∧ Ap 1 z (p + q) := by
  obtain ⟨r, hr, z, hz, hn⟩ := hx.add roomy32 hy 1000000 h.1 h.2 (by have := P_127; grind)
  exact ⟨r, hr, z, hz, near32g hn⟩
theorem add64g {x y : Nat} {p q : Rat} (hx : V64 x p) (hy : V64 y q) (h : Bd 1000000 (p + q)) :
    ∃ r, floatBits .add .f64 x y = some r ∧ ∃ z, V64 r z ∧ Ap 1 z (p + q) := by
  obtain ⟨r, hr, z, hz, hn⟩ := hx.add roomy64 hy 1000000 h.1 h.2 (by have := P_1023; grind)
  exact ⟨r, hr, z, hz, near64g hn⟩
theorem sub64g {x y : Nat} {p q : Rat} (hx : V64 x p) (hy : V64 y q) (h : Bd 1000000 (p - q)) :
    ∃ r, floatBits .sub .f64 x y = some r ∧ ∃ z, V64 r z ∧ Ap 1 z (p - q) := by
  obtain ⟨r, hr, z, hz, hn⟩ := hx.sub roomy64 hy 1000000 h.1 h.2 (by have := P_1023; grind)
  exact ⟨r, hr, z, hz, near64g hn⟩
theorem mul64g {x y : Nat} {p q : Rat} (hx : V64 x p) (hy : V64 y q) (h : Bd 1000000 (p * q)) :
    ∃ r, floatBits .mul .f64 x y = some r ∧ ∃ z, V64 r z ∧ Ap 1 z (p * q) := by
  obtain ⟨r, hr, z, hz, hn⟩ := hx.mul roomy64 hy 1000000 h.1 h.2 (by have := P_1023; grind)
  exact ⟨r, hr, z, hz, near64g hn⟩
theorem narrow32g {x : Nat} {q : Rat} (hx : V64 x q) (h : Bd 1000000 q) :
    ∃ r, floatToFloatBits .f64 x .f32 = some r ∧ ∃ z, V32 r z ∧ Ap 1 z q := by
  obtain ⟨r, hr, z, hz, hn⟩ := hx.narrow 1000000 h.1 h.2 (by have := P_127; grind)
  exact ⟨r, hr, z, hz, near32g hn⟩

/-- A product whose parts are at most 8 and 5000. -/
theorem mulgb {a b c d : Nat} {p1 p2 q1 q2 : Rat} (ha : V32 a p1) (hb : V32 b p2) (hc : V32 c q1) (hd : V32 d q2)
    (k1 : Bd 8 p1) (k2 : Bd 8 p2) (k3 : Bd 5000 q1) (k4 : Bd 5000 q2) :
    ∃ r i X Y, V32 r X ∧ V32 i Y ∧ Bd 80010 X ∧ Bd 80010 Y ∧
      ∀ w, Calls Try.prog 26 #[.complex .f32 a b, .complex .f32 c d] w fun e w' => e = .returned (.complex .f32 r i) ∧ w' = w := by
  obtain ⟨a', wa, va⟩ := ha.wide
  obtain ⟨b', wb, vb⟩ := hb.wide
  obtain ⟨c', wc, vc⟩ := hc.wide
  obtain ⟨d', wd, vd⟩ := hd.wide
  have m1 := bd_mul k1 k3; have m2 := bd_mul k2 k4; have m3 := bd_mul k1 k4; have m4 := bd_mul k2 k3
  unfold Bd at m1 m2 m3 m4
  obtain ⟨ac, h1, X1, v1, n1⟩ := mul64g va vc (by unfold Bd; constructor <;> grind)
  obtain ⟨bd, h2, X2, v2, n2⟩ := mul64g vb vd (by unfold Bd; constructor <;> grind)
  obtain ⟨ad, h4, X4, v4, n4⟩ := mul64g va vd (by unfold Bd; constructor <;> grind)
  obtain ⟨bc, h5, X5, v5, n5⟩ := mul64g vb vc (by unfold Bd; constructor <;> grind)
  unfold Ap at n1 n2 n4 n5
  obtain ⟨re, h3, X3, v3, n3⟩ := sub64g v1 v2 (by unfold Bd; constructor <;> grind)
  obtain ⟨im, h6, X6, v6, n6⟩ := add64g v4 v5 (by unfold Bd; constructor <;> grind)
  unfold Ap at n3 n6
  obtain ⟨x, h7, X7, v7, n7⟩ := narrow32g v3 (by unfold Bd; constructor <;> grind)
  obtain ⟨y, h8, X8, v8, n8⟩ := narrow32g v6 (by unfold Bd; constructor <;> grind)
  unfold Ap at n7 n8
  exact ⟨x, y, X7, X8, v7, v8, by unfold Bd; constructor <;> grind, by unfold Bd; constructor <;> grind,
    fun w => mul_calls a b c d a' b' c' d' ac bd ad bc re im x y w wa wb wc wd h1 h2 h3 h4 h5 h6 h7 h8⟩

theorem bd_neg {c q : Rat} (h : Bd c q) : Bd c (-q) := by unfold Bd at *; constructor <;> grind
theorem v32_neg {x : Nat} {q : Rat} (h : V32 x q) : V32 (Op.negFloat .f32 x) (-q) := Val.neg (k := .f32) h
theorem v_eight : V32 1090519040 8 := ⟨false, 8388608, -20, by decide +kernel, by decide +kernel⟩
theorem v_neight : V32 3238002688 (-8) := ⟨true, 8388608, -20, by decide +kernel, by decide +kernel⟩
theorem v_nought : V32 0 0 := ⟨false, 0, Ieee.single.leastPlace, by decide +kernel, by decide +kernel⟩

/-- The power of what is drawn at the three voltages: it comes to an end. -/
theorem powb {d1 d2 e1 e2 f1 f2 : Nat} {D1 D2 E1 E2 F1 F2 : Rat} (vd1 : V32 d1 D1) (vd2 : V32 d2 D2) (ve1 : V32 e1 E1) (ve2 : V32 e2 E2) (vf1 : V32 f1 F1) (vf2 : V32 f2 F2)
    (kd1 : Bd 5000 D1) (kd2 : Bd 5000 D2) (ke1 : Bd 5000 E1) (ke2 : Bd 5000 E2) (kf1 : Bd 5000 F1) (kf2 : Bd 5000 F2) :
    ∃ p1 p2, ∀ w, Calls Try.prog 23 #[.agg #[.complex .f32 1090519040 0, .complex .f32 0 1090519040, .complex .f32 3238002688 0], .agg #[.complex .f32 d1 d2, .complex .f32 e1 e2, .complex .f32 f1 f2]] w fun e w' => e = .returned (.complex .f32 p1 p2) ∧ Ext w w' := by
  have b8 : Bd 8 8 := by unfold Bd; constructor <;> decide +kernel
  have b0 : Bd 8 0 := by unfold Bd; constructor <;> decide +kernel
  have bn : Bd 8 (-8) := by unfold Bd; constructor <;> decide +kernel
  obtain ⟨m1, m2, M1, M2, vm1, vm2, km1, km2, g1⟩ := mulgb v_eight v_nought vd1 (v32_neg vd2) b8 b0 kd1 (bd_neg kd2)
  obtain ⟨n1, n2, N1, N2, vn1, vn2, kn1, kn2, g2⟩ := mulgb v_nought v_eight ve1 (v32_neg ve2) b0 b8 ke1 (bd_neg ke2)
  obtain ⟨q1, q2, Q1, Q2, vq1, vq2, kq1, kq2, g3⟩ := mulgb v_neight v_nought vf1 (v32_neg vf2) bn b0 kf1 (bd_neg kf2)
  unfold Bd at km1 km2 kn1 kn2 kq1 kq2
  obtain ⟨r1, k1, R1, vr1, nr1⟩ := add32g v_nought vm1 (by unfold Bd; constructor <;> grind)
  obtain ⟨r2, k2, R2, vr2, nr2⟩ := add32g v_nought vm2 (by unfold Bd; constructor <;> grind)
  unfold Ap at nr1 nr2
  obtain ⟨s1, k3, S1, vs1, ns1⟩ := add32g vr1 vn1 (by unfold Bd; constructor <;> grind)
  obtain ⟨s2, k4, S2, vs2, ns2⟩ := add32g vr2 vn2 (by unfold Bd; constructor <;> grind)
  unfold Ap at ns1 ns2
  obtain ⟨t1, k5, T1, vt1, nt1⟩ := add32g vs1 vq1 (by unfold Bd; constructor <;> grind)
  obtain ⟨t2, k6, T2, vt2, nt2⟩ := add32g vs2 vq2 (by unfold Bd; constructor <;> grind)
  exact ⟨t1, t2, fun w => power_calls _ _ _ _ _ _ d1 d2 e1 e2 f1 f2 m1 m2 n1 n2 q1 q2 r1 r2 s1 s2 t1 t2 w g1 g2 g3 k1 k2 k3 k4 k5 k6⟩

/-- The power of what a load that is a power draws: the load. -/
theorem pow0 {d1 d2 e1 e2 f1 f2 : Nat} {L1 L2 M1 M2 N1 N2 : Int}
    (vd1 : Q8 d1 (2 * L1)) (vd2 : Q8 d2 (-(2 * L2))) (ve1 : Q8 e1 (2 * M2)) (ve2 : Q8 e2 (-(-(2 * M1)))) (vf1 : Q8 f1 (-(2 * N1))) (vf2 : Q8 f2 (-(-(2 * N2))))
    (kL1 : IB 16 L1) (kL2 : IB 16 L2) (kM1 : IB 16 M1) (kM2 : IB 16 M2) (kN1 : IB 16 N1) (kN2 : IB 16 N2) :
    ∃ p1 p2, Q8 p1 (16 * L1 + 16 * M1 + 16 * N1) ∧ Q8 p2 (16 * L2 + 16 * M2 + 16 * N2) ∧
      ∀ w, Calls Try.prog 23 #[.agg #[.complex .f32 1090519040 0, .complex .f32 0 1090519040, .complex .f32 3238002688 0], .agg #[.complex .f32 d1 d2, .complex .f32 e1 e2, .complex .f32 f1 f2]] w fun e w' => e = .returned (.complex .f32 p1 p2) ∧ Ext w w' := by
  unfold IB at *
  obtain ⟨m1, m2, vm1, vm2, g1⟩ := mulg (r := 16 * L1) (i := 16 * L2) q8_eight q8_zero vd1 (q8_neg vd2) (by unfold IB; omega) (by unfold IB; omega) (by unfold IB; omega) (by unfold IB; omega) (by omega) (by omega)
  obtain ⟨n1, n2, vn1, vn2, g2⟩ := mulg (r := 16 * M1) (i := 16 * M2) q8_zero q8_eight ve1 (q8_neg ve2) (by unfold IB; omega) (by unfold IB; omega) (by unfold IB; omega) (by unfold IB; omega) (by omega) (by omega)
  obtain ⟨q1, q2, vq1, vq2, g3⟩ := mulg (r := 16 * N1) (i := 16 * N2) q8_neight q8_zero vf1 (q8_neg vf2) (by unfold IB; omega) (by unfold IB; omega) (by unfold IB; omega) (by unfold IB; omega) (by omega) (by omega)
  obtain ⟨r1, k1, vr1⟩ := q8_add q8_zero vm1 (by omega)
  obtain ⟨r2, k2, vr2⟩ := q8_add q8_zero vm2 (by omega)
  obtain ⟨s1, k3, vs1⟩ := q8_add vr1 vn1 (by omega)
  obtain ⟨s2, k4, vs2⟩ := q8_add vr2 vn2 (by omega)
  obtain ⟨t1, k5, vt1⟩ := q8_add vs1 vq1 (by omega)
  obtain ⟨t2, k6, vt2⟩ := q8_add vs2 vq2 (by omega)
  refine ⟨t1, t2, ?_, ?_, fun w => power_calls _ _ _ _ _ _ d1 d2 e1 e2 f1 f2 m1 m2 n1 n2 q1 q2 r1 r2 s1 s2 t1 t2 w g1 g2 g3 k1 k2 k3 k4 k5 k6⟩
  · have : 16 * L1 + 16 * M1 + 16 * N1 = 0 + 16 * L1 + 16 * M1 + 16 * N1 := by omega
    rw [this]; exact vt1
  · have : 16 * L2 + 16 * M2 + 16 * N2 = 0 + 16 * L2 + 16 * M2 + 16 * N2 := by omega
    rw [this]; exact vt2

/-- A quotient of a small number and one that is not too small. -/
theorem w16_quob {x y : Nat} {n k : Int} (hx : W16 x n) (hy : W16 y k) (h : IB 1048576 n) (hk : 256 ≤ k) :
    ∃ r, floatBits .quo .f64 x y = some r ∧ ∃ z, V64 r z ∧ Bd 4097 z := by
  unfold IB at h
  obtain ⟨b1, b2⟩ := cast_bd (n := n) (c := 1048576) (by omega) (by omega)
  have e1 : ((1048576 : Int) : Rat) = 1048576 := rfl
  rw [e1] at b1 b2
  have b3 := Rat.intCast_le_intCast.2 hk
  have e2 : ((256 : Int) : Rat) = 256 := rfl
  rw [e2] at b3
  have hk0 : (k : Rat) ≠ 0 := by grind
  obtain ⟨w, hw⟩ : ∃ w : Rat, w * (k : Rat) = (n : Rat) := ⟨(n : Rat) / (k : Rat), by rw [Rat.div_mul_cancel hk0]⟩
  have l1 : w ≤ 4096 := by
    rcases Rat.le_total (a := w) (b := 4096) with h | h
    · exact h
    · have := Rat.mul_le_mul_of_nonneg_right h (show (0 : Rat) ≤ (k : Rat) by grind)
      have := Rat.mul_le_mul_of_nonneg_left b3 (show (0 : Rat) ≤ w by grind)
      grind
  have l2 : -4096 ≤ w := by
    rcases Rat.le_total (a := -4096) (b := w) with h | h
    · exact h
    · have := Rat.mul_le_mul_of_nonneg_right (show 4096 ≤ -w by grind) (show (0 : Rat) ≤ (k : Rat) by grind)
      have := Rat.mul_le_mul_of_nonneg_left b3 (show (0 : Rat) ≤ -w by grind)
      grind
  obtain ⟨r, hr, z, hz, hn⟩ := hx.div roomy64 hy (by grind) (w := w) (by grind) 5000 (by grind) (by grind) (by have := P_1023; grind)
  have n1 := near64h hn
  unfold Ap at n1
  exact ⟨r, hr, z, hz, by unfold Bd; constructor <;> grind⟩

theorem sq_pos_int {a : Int} : 0 ≤ a * a := by
  rcases Int.le_total 0 a with h | h
  · exact Int.mul_nonneg h h
  · have := Int.mul_nonneg (show 0 ≤ -a by omega) (show 0 ≤ -a by omega)
    rw [Int.neg_mul_neg] at this; exact this

/-- The quotient of a voltage of size 8 and a load that is not nought. -/
theorem quotb {a b c d : Nat} {C D L1 L2 : Int} (ha : Q8 a C) (hb : Q8 b D) (hc : Q8 c (16 * L1)) (hd : Q8 d (16 * L2))
    (kC : IB 2048 C) (kD : IB 2048 D) (kL1 : IB 16 L1) (kL2 : IB 16 L2) (hL : ¬ (L1 = 0 ∧ L2 = 0)) :
    ∃ x y X Y, V32 x X ∧ V32 y Y ∧ Bd 5000 X ∧ Bd 5000 Y ∧
      ∀ w, Calls Try.prog 37 #[.complex .f32 a b, .complex .f32 c d] w fun e w' => e = .returned (.complex .f32 x y) ∧ w' = w := by
  have hn := q8_neg hd
  obtain ⟨a', wa, va⟩ := ha.wide
  obtain ⟨b', wb, vb⟩ := hb.wide
  obtain ⟨c', wc, vc⟩ := hc.wide
  obtain ⟨d', wd, vd⟩ := hd.wide
  obtain ⟨n', wn, vn⟩ := hn.wide
  have j1 : IB 256 (16 * L1) := by unfold IB at *; omega
  have j2 : IB 256 (16 * L2) := by unfold IB at *; omega
  have j3 : IB 256 (-(16 * L2)) := by unfold IB at *; omega
  have m1 := mul_bd kC j1; have m2 := mul_bd kD j3; have m3 := mul_bd kC j3; have m4 := mul_bd kD j1; have m5 := mul_bd j1 j1; have m6 := mul_bd j2 j2
  unfold IB at m1 m2 m3 m4 m5 m6
  obtain ⟨ac, h1, v1⟩ := w16_mul va vc (by omega)
  obtain ⟨bd, h2, v2⟩ := w16_mul vb vn (by omega)
  obtain ⟨ad, h4, v4⟩ := w16_mul va vn (by omega)
  obtain ⟨bc, h5, v5⟩ := w16_mul vb vc (by omega)
  obtain ⟨re, h3, v3⟩ := w16_sub v1 v2 (by omega)
  obtain ⟨im, h6, v6⟩ := w16_add v4 v5 (by omega)
  obtain ⟨cc, h7, v7⟩ := w16_mul vc vc (by omega)
  obtain ⟨dd, h8, v8⟩ := w16_mul vd vd (by omega)
  obtain ⟨p, h9, v9⟩ := w16_add v7 v8 (by omega)
  have hp : 256 ≤ 16 * L1 * (16 * L1) + 16 * L2 * (16 * L2) := by
    have e1 : 16 * L1 * (16 * L1) = 256 * (L1 * L1) := by grind
    have e2 : 16 * L2 * (16 * L2) = 256 * (L2 * L2) := by grind
    rw [e1, e2]
    have s1 := sq_pos_int (a := L1); have s2 := sq_pos_int (a := L2)
    by_cases h0 : L1 = 0
    · have h1 : L2 ≠ 0 := fun h => hL ⟨h0, h⟩
      have := Int.mul_ne_zero h1 h1
      omega
    · have := Int.mul_ne_zero h0 h0
      omega
  obtain ⟨qr, h10, R, v10, b10⟩ := w16_quob v3 v9 (by unfold IB; omega) hp
  obtain ⟨qi, h11, I, v11, b11⟩ := w16_quob v6 v9 (by unfold IB; omega) hp
  unfold Bd at b10 b11
  obtain ⟨x, h12, X, v12, n12⟩ := narrow32g v10 (by unfold Bd; constructor <;> grind)
  obtain ⟨y, h13, Y, v13, n13⟩ := narrow32g v11 (by unfold Bd; constructor <;> grind)
  unfold Ap at n12 n13
  exact ⟨x, y, X, Y, v12, v13, by unfold Bd; constructor <;> grind, by unfold Bd; constructor <;> grind,
    fun w => quot_calls a b c d a' b' c' d' n' ac bd ad bc re im cc dd p qr qi x y w wa wb wc wd wn h1 h2 h3 h4 h5 h6 h7 h8 h9 h10 h11 h12 h13⟩

/-- What a load that is an impedance draws at a voltage of size 8. -/
theorem take2 {a b c d : Nat} {L1 L2 C D : Int} (ha : Q8 a (16 * L1)) (hb : Q8 b (16 * L2)) (hc : Q8 c C) (hd : Q8 d D)
    (kL1 : IB 16 L1) (kL2 : IB 16 L2) (kC : IB 2048 C) (kD : IB 2048 D) :
    ∃ x y X Y, V32 x X ∧ V32 y Y ∧ Bd 5000 X ∧ Bd 5000 Y ∧ ∀ (p : Nat) w, w.cell? ⟨p, 3, none⟩ = some (.int .i64 2) →
      Calls Try.prog 35 #[.complex .f32 a b, .complex .f32 c d, .pointer (some ⟨p, 0, none⟩)] w fun e w' => e = .returned (.complex .f32 x y) ∧ w' = w := by
  by_cases h0 : L1 = 0 ∧ L2 = 0
  · obtain ⟨rfl, rfl⟩ := h0
    have b0 : Bd 5000 0 := by unfold Bd; constructor <;> decide +kernel
    exact ⟨0, 0, 0, 0, v_nought, v_nought, b0, b0, fun p w _ => load_zero a b c d p w (by rw [zt ha, zt hb]; rfl)⟩
  · obtain ⟨x, y, X, Y, vx, vy, kx, ky, f⟩ := quotb hc hd ha hb kC kD kL1 kL2 h0
    have hz : (FloatKind.f32.format.order a 0 == some .eq && FloatKind.f32.format.order b 0 == some .eq) = false := by
      rw [zt ha, zt hb, Bool.and_eq_false_iff]
      by_cases h1 : L1 = 0
      · right; exact decide_eq_false (by omega)
      · left; exact decide_eq_false (by omega)
    exact ⟨x, y, X, Y, vx, vy, kx, ky, fun p w hK => load_imp a b c d p x y w hz hK f⟩
end Go.Proofs.Ytacigddenamphaa
