/- The functions on complex numbers, told by what their words stand for: near to the exact results. -/
import Derived.Test.YtacigddenamphaaWk6
namespace Go.Proofs.Ytacigddenamphaa
open Go.RowKit Flt

/-- The word x stands for q, a 32-bit number. -/
abbrev V32 (x : Nat) (q : Rat) : Prop := Val Ieee.single x q
abbrev V64 (x : Nat) (q : Rat) : Prop := Val Ieee.double x q

/-- z is within e of q. -/
def Ap (e z q : Rat) : Prop := z ≤ q + e ∧ q ≤ z + e

theorem P_m24 : P (-24) = 1 / 16777216 := by decide +kernel
theorem P_m53 : P (-53) = 1 / 9007199254740992 := by decide +kernel
theorem P_tiny32 : P (-150) ≤ 1 / 1099511627776 := Rat.le_trans (P_mono (show (-150 : Int) ≤ -40 by decide)) (by decide +kernel)
theorem P_tiny64 : P (-1075) ≤ 1 / 1152921504606846976 := Rat.le_trans (P_mono (show (-1075 : Int) ≤ -60 by decide)) (by decide +kernel)
theorem P_127 : (1048576 : Rat) < P 127 := by
  have : P 20 < P 127 := P_lt (by decide)
  have e : P 20 = 1048576 := by decide +kernel
  exact e ▸ this
theorem P_1023 : (1048576 : Rat) < P 1023 := by
  have : P 20 < P 1023 := P_lt (by decide)
  have e : P 20 = 1048576 := by decide +kernel
  exact e ▸ this

/-- Rounding to 32 bits of a number of at most 8. -/
theorem near32 {z q : Rat} (h : Near Ieee.single 8 z q) : Ap (1 / 1048576) z q := by
  obtain ⟨h1, h2, _⟩ := h
  have e1 : -(Ieee.single.fractionBits : Int) - 1 = -24 := by decide
  have e2 : Ieee.single.leastPlace - 1 = -150 := by decide
  rw [e1, e2, P_m24] at h1 h2
  have := P_tiny32
  unfold Ap
  constructor <;> grind
/-- Rounding to 64 bits of a number of at most 64. -/
theorem near64 {z q : Rat} (h : Near Ieee.double 64 z q) : Ap (1 / 70368744177664) z q := by
  obtain ⟨h1, h2, _⟩ := h
  have e1 : -(Ieee.double.fractionBits : Int) - 1 = -53 := by decide
  have e2 : Ieee.double.leastPlace - 1 = -1075 := by decide
  rw [e1, e2, P_m53] at h1 h2
  have := P_tiny64
  unfold Ap
  constructor <;> grind

theorem add32 {x y : Nat} {p q : Rat} (hx : V32 x p) (hy : V32 y q) (h1 : p + q ≤ 8) (h2 : -8 ≤ p + q) :
    ∃ r, floatBits .add .f32 x y = some r ∧ ∃ z, V32 r z ∧ Ap (1 / 1048576) z (p + q) := by
  obtain ⟨r, hr, z, hz, hn⟩ := hx.add roomy32 hy 8 h1 h2 (by have := P_127; grind)
  exact ⟨r, hr, z, hz, near32 hn⟩
theorem sub32 {x y : Nat} {p q : Rat} (hx : V32 x p) (hy : V32 y q) (h1 : p - q ≤ 8) (h2 : -8 ≤ p - q) :
    ∃ r, floatBits .sub .f32 x y = some r ∧ ∃ z, V32 r z ∧ Ap (1 / 1048576) z (p - q) := by
  obtain ⟨r, hr, z, hz, hn⟩ := hx.sub roomy32 hy 8 h1 h2 (by have := P_127; grind)
  exact ⟨r, hr, z, hz, near32 hn⟩
theorem mul32 {x y : Nat} {p q : Rat} (hx : V32 x p) (hy : V32 y q) (h1 : p * q ≤ 8) (h2 : -8 ≤ p * q) :
    ∃ r, floatBits .mul .f32 x y = some r ∧ ∃ z, V32 r z ∧ Ap (1 / 1048576) z (p * q) := by
  obtain ⟨r, hr, z, hz, hn⟩ := hx.mul roomy32 hy 8 h1 h2 (by have := P_127; grind)
  exact ⟨r, hr, z, hz, near32 hn⟩
theorem add64 {x y : Nat} {p q : Rat} (hx : V64 x p) (hy : V64 y q) (h1 : p + q ≤ 64) (h2 : -64 ≤ p + q) :
    ∃ r, floatBits .add .f64 x y = some r ∧ ∃ z, V64 r z ∧ Ap (1 / 70368744177664) z (p + q) := by
  obtain ⟨r, hr, z, hz, hn⟩ := hx.add roomy64 hy 64 h1 h2 (by have := P_1023; grind)
  exact ⟨r, hr, z, hz, near64 hn⟩
theorem sub64 {x y : Nat} {p q : Rat} (hx : V64 x p) (hy : V64 y q) (h1 : p - q ≤ 64) (h2 : -64 ≤ p - q) :
    ∃ r, floatBits .sub .f64 x y = some r ∧ ∃ z, V64 r z ∧ Ap (1 / 70368744177664) z (p - q) := by
  obtain ⟨r, hr, z, hz, hn⟩ := hx.sub roomy64 hy 64 h1 h2 (by have := P_1023; grind)
  exact ⟨r, hr, z, hz, near64 hn⟩
theorem mul64 {x y : Nat} {p q : Rat} (hx : V64 x p) (hy : V64 y q) (h1 : p * q ≤ 64) (h2 : -64 ≤ p * q) :
    ∃ r, floatBits .mul .f64 x y = some r ∧ ∃ z, V64 r z ∧ Ap (1 / 70368744177664) z (p * q) := by
  obtain ⟨r, hr, z, hz, hn⟩ := hx.mul roomy64 hy 64 h1 h2 (by have := P_1023; grind)
  exact ⟨r, hr, z, hz, near64 hn⟩
theorem add64n {x y : Nat} {p q : Rat} (hx : V64 x p) (hy : V64 y q) (h1 : p + q ≤ 64) (h2 : 0 ≤ p + q) :
    ∃ r, floatBits .add .f64 x y = some r ∧ ∃ z, V64 r z ∧ Ap (1 / 70368744177664) z (p + q) ∧ 0 ≤ z := by
  obtain ⟨r, hr, z, hz, hn⟩ := hx.add roomy64 hy 64 h1 (by grind) (by have := P_1023; grind)
  exact ⟨r, hr, z, hz, near64 hn, hn.2.2.2 h2⟩
theorem mul64n {x y : Nat} {p q : Rat} (hx : V64 x p) (hy : V64 y q) (h1 : p * q ≤ 64) (h2 : 0 ≤ p * q) :
    ∃ r, floatBits .mul .f64 x y = some r ∧ ∃ z, V64 r z ∧ Ap (1 / 70368744177664) z (p * q) ∧ 0 ≤ z := by
  obtain ⟨r, hr, z, hz, hn⟩ := hx.mul roomy64 hy 64 h1 (by grind) (by have := P_1023; grind)
  exact ⟨r, hr, z, hz, near64 hn, hn.2.2.2 h2⟩
theorem narrow32n {x : Nat} {q : Rat} (hx : V64 x q) (h1 : q ≤ 8) (h2 : 0 ≤ q) :
    ∃ r, floatToFloatBits .f64 x .f32 = some r ∧ ∃ z, V32 r z ∧ Ap (1 / 1048576) z q ∧ 0 ≤ z := by
  obtain ⟨r, hr, z, hz, hn⟩ := hx.narrow 8 h1 (by grind) (by have := P_127; grind)
  exact ⟨r, hr, z, hz, near32 hn, hn.2.2.2 h2⟩
theorem sqrt64 {x : Nat} {q : Rat} (hx : V64 x q) (h0 : 0 ≤ q) (hq : q ≤ 36) :
    ∃ r, Ieee.double.sqrt x = some r ∧ ∃ z, V64 r z ∧ RootOf z q (1 / 70368744177664) := by
  obtain ⟨r, hr, z, hz, hn⟩ := hx.sqrt roomy64 h0 6 (by grind) (by grind) (by have := P_1023; grind)
  refine ⟨r, hr, z, hz, hn.1, fun u hu => ?_⟩
  obtain ⟨h1, h2⟩ := hn.2 u hu
  have e1 : -(Ieee.double.fractionBits : Int) - 1 = -53 := by decide
  have e2 : Ieee.double.leastPlace - 1 = -1075 := by decide
  rw [e1, e2, P_m53] at h1 h2
  have := P_tiny64
  exact ⟨fun h => by have := h1 h; grind, fun h => by have := h2 h; grind⟩
theorem narrow32 {x : Nat} {q : Rat} (hx : V64 x q) (h1 : q ≤ 8) (h2 : -8 ≤ q) :
    ∃ r, floatToFloatBits .f64 x .f32 = some r ∧ ∃ z, V32 r z ∧ Ap (1 / 1048576) z q := by
  obtain ⟨r, hr, z, hz, hn⟩ := hx.narrow 8 h1 h2 (by have := P_127; grind)
  exact ⟨r, hr, z, hz, near32 hn⟩

/-- q is of size at most c. -/
def Bd (c q : Rat) : Prop := q ≤ c ∧ -c ≤ q

theorem bd_mul {c d p q : Rat} (hp : Bd c p) (hq : Bd d q) : Bd (c * d) (p * q) := by
  obtain ⟨p1, p2⟩ := hp; obtain ⟨q1, q2⟩ := hq
  have a1 := Rat.mul_nonneg (show 0 ≤ c - p by grind) (show 0 ≤ d + q by grind)
  have a2 := Rat.mul_nonneg (show 0 ≤ c + p by grind) (show 0 ≤ d - q by grind)
  have a3 := Rat.mul_nonneg (show 0 ≤ c - p by grind) (show 0 ≤ d - q by grind)
  have a4 := Rat.mul_nonneg (show 0 ≤ c + p by grind) (show 0 ≤ d + q by grind)
  unfold Bd
  constructor <;> grind

/-- The product of two complex numbers. -/
theorem mulc {a b c d : Nat} {p1 p2 q1 q2 : Rat} (ha : V32 a p1) (hb : V32 b p2) (hc : V32 c q1) (hd : V32 d q2)
    (k1 : Bd 1 p1) (k2 : Bd 1 p2) (k3 : Bd 2 q1) (k4 : Bd 2 q2) :
    ∃ r i, (∃ z, V32 r z ∧ Ap (1 / 524288) z (p1 * q1 - p2 * q2)) ∧ (∃ z, V32 i z ∧ Ap (1 / 524288) z (p1 * q2 + p2 * q1)) ∧
      ∀ w, Calls Try.prog 26 #[.complex .f32 a b, .complex .f32 c d] w fun e w' => e = .returned (.complex .f32 r i) ∧ w' = w := by
  obtain ⟨a', wa, va⟩ := ha.wide
  obtain ⟨b', wb, vb⟩ := hb.wide
  obtain ⟨c', wc, vc⟩ := hc.wide
  obtain ⟨d', wd, vd⟩ := hd.wide
  have m1 := bd_mul k1 k3; have m2 := bd_mul k2 k4; have m3 := bd_mul k1 k4; have m4 := bd_mul k2 k3
  unfold Bd at m1 m2 m3 m4
  obtain ⟨ac, h1, zac, v1, n1⟩ := mul64 va vc (by grind) (by grind)
  obtain ⟨bd, h2, zbd, v2, n2⟩ := mul64 vb vd (by grind) (by grind)
  obtain ⟨ad, h4, zad, v4, n4⟩ := mul64 va vd (by grind) (by grind)
  obtain ⟨bc, h5, zbc, v5, n5⟩ := mul64 vb vc (by grind) (by grind)
  unfold Ap at n1 n2 n4 n5
  obtain ⟨re, h3, zre, v3, n3⟩ := sub64 v1 v2 (by grind) (by grind)
  obtain ⟨im, h6, zim, v6, n6⟩ := add64 v4 v5 (by grind) (by grind)
  unfold Ap at n3 n6
  obtain ⟨r, h7, zr, v7, n7⟩ := narrow32 v3 (by grind) (by grind)
  obtain ⟨i, h8, zi, v8, n8⟩ := narrow32 v6 (by grind) (by grind)
  unfold Ap at n7 n8
  refine ⟨r, i, ⟨zr, v7, ?_⟩, ⟨zi, v8, ?_⟩, fun w => mul_calls a b c d a' b' c' d' ac bd ad bc re im r i w wa wb wc wd h1 h2 h3 h4 h5 h6 h7 h8⟩
  · unfold Ap; constructor <;> grind
  · unfold Ap; constructor <;> grind

/-- A complex number times a number. -/
theorem scalec {a b c : Nat} {p1 p2 q : Rat} (ha : V32 a p1) (hb : V32 b p2) (hc : V32 c q) (k1 : Bd 8 p1) (k2 : Bd 8 p2) (k3 : Bd 1 q) :
    ∃ r i, (∃ z, V32 r z ∧ Ap (1 / 1048576) z (p1 * q)) ∧ (∃ z, V32 i z ∧ Ap (1 / 1048576) z (p2 * q)) ∧
      ∀ w, Calls Try.prog 25 #[.complex .f32 a b, .float .f32 c] w fun e w' => e = .returned (.complex .f32 r i) ∧ w' = w := by
  have m1 := bd_mul k1 k3; have m2 := bd_mul k2 k3
  unfold Bd at m1 m2
  obtain ⟨r, h1, z1, v1, n1⟩ := mul32 ha hc (by grind) (by grind)
  obtain ⟨i, h2, z2, v2, n2⟩ := mul32 hb hc (by grind) (by grind)
  exact ⟨r, i, ⟨z1, v1, n1⟩, ⟨z2, v2, n2⟩, fun w => scale_calls a b c r i w h1 h2⟩

/-- The sum of two complex numbers, part by part. -/
theorem addc {a b c d : Nat} {p1 p2 q1 q2 : Rat} (ha : V32 a p1) (hb : V32 b p2) (hc : V32 c q1) (hd : V32 d q2) (k1 : Bd 8 (p1 + q1)) (k2 : Bd 8 (p2 + q2)) :
    ∃ r i, floatBits .add .f32 a c = some r ∧ floatBits .add .f32 b d = some i ∧ (∃ z, V32 r z ∧ Ap (1 / 1048576) z (p1 + q1)) ∧ (∃ z, V32 i z ∧ Ap (1 / 1048576) z (p2 + q2)) := by
  obtain ⟨r, h1, z1, v1, n1⟩ := add32 ha hc k1.1 k1.2
  obtain ⟨i, h2, z2, v2, n2⟩ := add32 hb hd k2.1 k2.2
  exact ⟨r, i, h1, h2, ⟨z1, v1, n1⟩, ⟨z2, v2, n2⟩⟩

/-- The second part of a third of a turn. -/
def sq3 : Rat := 14529495 / 16777216
theorem v_half : V32 3204448256 (-1 / 2) := ⟨true, 8388608, -24, by decide +kernel, by decide +kernel⟩
theorem v_sq3 : V32 1063105495 sq3 := ⟨false, 14529495, -24, by decide +kernel, by decide +kernel⟩
theorem v_nsq3 : V32 3210589143 (-sq3) := ⟨true, 14529495, -24, by decide +kernel, by decide +kernel⟩
theorem v_third : V32 1051372203 (11184811 / 33554432) := ⟨false, 11184811, -25, by decide +kernel, by decide +kernel⟩

/-- What 'PartsOf' gives of phases of at most 9/8. -/
theorem partsv {a1 a2 b1 b2 c1 c2 : Nat} {A1 A2 B1 B2 C1 C2 : Rat} (ha1 : V32 a1 A1) (ha2 : V32 a2 A2) (hb1 : V32 b1 B1) (hb2 : V32 b2 B2) (hc1 : V32 c1 C1) (hc2 : V32 c2 C2)
    (kA1 : Bd (9 / 8) A1) (kA2 : Bd (9 / 8) A2) (kB1 : Bd (9 / 8) B1) (kB2 : Bd (9 / 8) B2) (kC1 : Bd (9 / 8) C1) (kC2 : Bd (9 / 8) C2) :
    ∃ z1 z2 p1 p2 m1 m2 : Nat, ∃ Z1 Z2 P1 P2 M1 M2 : Rat, V32 z1 Z1 ∧ V32 z2 Z2 ∧ V32 p1 P1 ∧ V32 p2 P2 ∧ V32 m1 M1 ∧ V32 m2 M2 ∧
      Ap (1 / 262144) Z1 ((A1 + B1 + C1) / 3) ∧ Ap (1 / 262144) Z2 ((A2 + B2 + C2) / 3) ∧
      Ap (1 / 262144) P1 ((A1 - B1 / 2 - sq3 * B2 - C1 / 2 + sq3 * C2) / 3) ∧ Ap (1 / 262144) P2 ((A2 - B2 / 2 + sq3 * B1 - C2 / 2 - sq3 * C1) / 3) ∧
      Ap (1 / 262144) M1 ((A1 - B1 / 2 + sq3 * B2 - C1 / 2 - sq3 * C2) / 3) ∧ Ap (1 / 262144) M2 ((A2 - B2 / 2 - sq3 * B1 - C2 / 2 + sq3 * C1) / 3) ∧
      ∀ w, Calls Try.prog 8 #[.agg #[.complex .f32 a1 a2, .complex .f32 b1 b2, .complex .f32 c1 c2]] w fun e w' =>
        e = .returned (.agg #[.complex .f32 z1 z2, .complex .f32 p1 p2, .complex .f32 m1 m2]) ∧ Ext w w' := by
  have es : Bd 1 sq3 := by unfold Bd sq3; constructor <;> decide +kernel
  have en : Bd 1 (-sq3) := by unfold Bd sq3; constructor <;> decide +kernel
  have eh : Bd 1 (-1 / 2) := by unfold Bd; constructor <;> decide +kernel
  have et : Bd 1 (11184811 / 33554432) := by unfold Bd; constructor <;> decide +kernel
  have up : ∀ q, Bd (9 / 8) q → Bd 2 q := fun q h => by unfold Bd at *; constructor <;> grind
  obtain ⟨s1, s2, h1, h2, ⟨S1, vs1, ns1⟩, ⟨S2, vs2, ns2⟩⟩ := addc ha1 ha2 hb1 hb2 (by unfold Bd at *; constructor <;> grind) (by unfold Bd at *; constructor <;> grind)
  obtain ⟨t1, t2, h3, h4, ⟨T1, vt1, nt1⟩, ⟨T2, vt2, nt2⟩⟩ := addc vs1 vs2 hc1 hc2 (by unfold Bd Ap at *; constructor <;> grind) (by unfold Bd Ap at *; constructor <;> grind)
  obtain ⟨z1, z2, ⟨Z1, vz1, nz1⟩, ⟨Z2, vz2, nz2⟩, f1⟩ := scalec vt1 vt2 v_third (by unfold Bd Ap at *; constructor <;> grind) (by unfold Bd Ap at *; constructor <;> grind) et
  obtain ⟨m1, m2, ⟨Ma1, vm1, nm1⟩, ⟨Ma2, vm2, nm2⟩, f2⟩ := mulc v_half v_sq3 hb1 hb2 eh es (up _ kB1) (up _ kB2)
  obtain ⟨n1, n2, ⟨Mb1, vn1, nn1⟩, ⟨Mb2, vn2, nn2⟩, f3⟩ := mulc v_half v_nsq3 hc1 hc2 eh en (up _ kC1) (up _ kC2)
  obtain ⟨k1, k2, ⟨Mc1, vk1, nk1⟩, ⟨Mc2, vk2, nk2⟩, f5⟩ := mulc v_half v_nsq3 hb1 hb2 eh en (up _ kB1) (up _ kB2)
  obtain ⟨l1, l2, ⟨Md1, vl1, nl1⟩, ⟨Md2, vl2, nl2⟩, f6⟩ := mulc v_half v_sq3 hc1 hc2 eh es (up _ kC1) (up _ kC2)
  unfold sq3 at *
  unfold Ap Bd at *
  clear es en eh et up
  obtain ⟨u1, u2, h5, h6, ⟨U1, vu1, nu1⟩, ⟨U2, vu2, nu2⟩⟩ := addc ha1 ha2 vm1 vm2 (by unfold Bd; constructor <;> grind) (by unfold Bd; constructor <;> grind)
  unfold Ap at nu1 nu2
  obtain ⟨v1, v2, h7, h8, ⟨W1, vv1, nv1⟩, ⟨W2, vv2, nv2⟩⟩ := addc vu1 vu2 vn1 vn2 (by unfold Bd; constructor <;> grind) (by unfold Bd; constructor <;> grind)
  unfold Ap at nv1 nv2
  obtain ⟨p1, p2, ⟨P1, vp1, np1⟩, ⟨P2, vp2, np2⟩, f4⟩ := scalec vv1 vv2 v_third (by unfold Bd; constructor <;> grind) (by unfold Bd; constructor <;> grind) (by unfold Bd; constructor <;> decide +kernel)
  unfold Ap at np1 np2
  obtain ⟨x1, x2, h9, h10, ⟨X1, vx1, nx1⟩, ⟨X2, vx2, nx2⟩⟩ := addc ha1 ha2 vk1 vk2 (by unfold Bd; constructor <;> grind) (by unfold Bd; constructor <;> grind)
  unfold Ap at nx1 nx2
  obtain ⟨y1, y2, h11, h12, ⟨Y1, vy1, ny1⟩, ⟨Y2, vy2, ny2⟩⟩ := addc vx1 vx2 vl1 vl2 (by unfold Bd; constructor <;> grind) (by unfold Bd; constructor <;> grind)
  unfold Ap at ny1 ny2
  obtain ⟨q1, q2, ⟨Q1, vq1, nq1⟩, ⟨Q2, vq2, nq2⟩, f7⟩ := scalec vy1 vy2 v_third (by unfold Bd; constructor <;> grind) (by unfold Bd; constructor <;> grind) (by unfold Bd; constructor <;> decide +kernel)
  unfold Ap at nq1 nq2
  refine ⟨z1, z2, p1, p2, q1, q2, Z1, Z2, P1, P2, Q1, Q2, vz1, vz2, vp1, vp2, vq1, vq2, ?_, ?_, ?_, ?_, ?_, ?_, fun w =>
    parts_calls a1 a2 b1 b2 c1 c2 s1 s2 t1 t2 z1 z2 m1 m2 u1 u2 n1 n2 v1 v2 p1 p2 k1 k2 x1 x2 l1 l2 y1 y2 q1 q2 w h1 h2 h3 h4 f1 f2 h5 h6 f3 h7 h8 f4 f5 h9 h10 f6 h11 h12 f7⟩
  all_goals (constructor <;> grind)


/-- What 'PhasesOf' gives of parts of at most 7/4. -/
theorem phasesv {z1 z2 p1 p2 m1 m2 : Nat} {Z1 Z2 P1 P2 M1 M2 : Rat} (hz1 : V32 z1 Z1) (hz2 : V32 z2 Z2) (hp1 : V32 p1 P1) (hp2 : V32 p2 P2) (hm1 : V32 m1 M1) (hm2 : V32 m2 M2)
    (kZ1 : Bd (7 / 4) Z1) (kZ2 : Bd (7 / 4) Z2) (kP1 : Bd (7 / 4) P1) (kP2 : Bd (7 / 4) P2) (kM1 : Bd (7 / 4) M1) (kM2 : Bd (7 / 4) M2) :
    ∃ a1 a2 b1 b2 c1 c2 : Nat, ∃ A1 A2 B1 B2 C1 C2 : Rat, V32 a1 A1 ∧ V32 a2 A2 ∧ V32 b1 B1 ∧ V32 b2 B2 ∧ V32 c1 C1 ∧ V32 c2 C2 ∧
      Ap (1 / 131072) A1 (Z1 + P1 + M1) ∧ Ap (1 / 131072) A2 (Z2 + P2 + M2) ∧
      Ap (1 / 131072) B1 (Z1 - P1 / 2 + sq3 * P2 - M1 / 2 - sq3 * M2) ∧ Ap (1 / 131072) B2 (Z2 - P2 / 2 - sq3 * P1 - M2 / 2 + sq3 * M1) ∧
      Ap (1 / 131072) C1 (Z1 - P1 / 2 - sq3 * P2 - M1 / 2 + sq3 * M2) ∧ Ap (1 / 131072) C2 (Z2 - P2 / 2 + sq3 * P1 - M2 / 2 - sq3 * M1) ∧
      ∀ w, Calls Try.prog 9 #[.agg #[.complex .f32 z1 z2, .complex .f32 p1 p2, .complex .f32 m1 m2]] w fun e w' =>
        e = .returned (.agg #[.complex .f32 a1 a2, .complex .f32 b1 b2, .complex .f32 c1 c2]) ∧ Ext w w' := by
  have es : Bd 1 sq3 := by unfold Bd sq3; constructor <;> decide +kernel
  have en : Bd 1 (-sq3) := by unfold Bd sq3; constructor <;> decide +kernel
  have eh : Bd 1 (-1 / 2) := by unfold Bd; constructor <;> decide +kernel
  have up : ∀ q, Bd (7 / 4) q → Bd 2 q := fun q h => by unfold Bd at *; constructor <;> grind
  obtain ⟨s1, s2, h1, h2, ⟨S1, vs1, ns1⟩, ⟨S2, vs2, ns2⟩⟩ := addc hz1 hz2 hp1 hp2 (by unfold Bd at *; constructor <;> grind) (by unfold Bd at *; constructor <;> grind)
  obtain ⟨a1, a2, h3, h4, ⟨A1, va1, na1⟩, ⟨A2, va2, na2⟩⟩ := addc vs1 vs2 hm1 hm2 (by unfold Bd Ap at *; constructor <;> grind) (by unfold Bd Ap at *; constructor <;> grind)
  obtain ⟨b1, b2, ⟨X1, vb1, nb1⟩, ⟨X2, vb2, nb2⟩, f1⟩ := mulc v_half v_nsq3 hp1 hp2 eh en (up _ kP1) (up _ kP2)
  obtain ⟨c1, c2, ⟨Y1, vc1, nc1⟩, ⟨Y2, vc2, nc2⟩, f2⟩ := mulc v_half v_sq3 hm1 hm2 eh es (up _ kM1) (up _ kM2)
  obtain ⟨d1, d2, ⟨U1, vd1, nd1⟩, ⟨U2, vd2, nd2⟩, f3⟩ := mulc v_half v_sq3 hp1 hp2 eh es (up _ kP1) (up _ kP2)
  obtain ⟨e1, e2, ⟨W1, ve1, ne1⟩, ⟨W2, ve2, ne2⟩, f4⟩ := mulc v_half v_nsq3 hm1 hm2 eh en (up _ kM1) (up _ kM2)
  unfold sq3 at *
  unfold Ap Bd at *
  clear es en eh up
  obtain ⟨t1, t2, h5, h6, ⟨T1, vt1, nt1⟩, ⟨T2, vt2, nt2⟩⟩ := addc hz1 hz2 vb1 vb2 (by unfold Bd; constructor <;> grind) (by unfold Bd; constructor <;> grind)
  unfold Ap at nt1 nt2
  obtain ⟨B1, B2, h7, h8, ⟨VB1, vB1, nB1⟩, ⟨VB2, vB2, nB2⟩⟩ := addc vt1 vt2 vc1 vc2 (by unfold Bd; constructor <;> grind) (by unfold Bd; constructor <;> grind)
  unfold Ap at nB1 nB2
  obtain ⟨u1, u2, h9, h10, ⟨Q1, vu1, nu1⟩, ⟨Q2, vu2, nu2⟩⟩ := addc hz1 hz2 vd1 vd2 (by unfold Bd; constructor <;> grind) (by unfold Bd; constructor <;> grind)
  unfold Ap at nu1 nu2
  obtain ⟨C1, C2, h11, h12, ⟨VC1, vC1, nC1⟩, ⟨VC2, vC2, nC2⟩⟩ := addc vu1 vu2 ve1 ve2 (by unfold Bd; constructor <;> grind) (by unfold Bd; constructor <;> grind)
  unfold Ap at nC1 nC2
  refine ⟨a1, a2, B1, B2, C1, C2, A1, A2, VB1, VB2, VC1, VC2, va1, va2, vB1, vB2, vC1, vC2, ?_, ?_, ?_, ?_, ?_, ?_, fun w =>
    phases_calls z1 z2 p1 p2 m1 m2 s1 s2 a1 a2 b1 b2 t1 t2 c1 c2 B1 B2 d1 d2 u1 u2 e1 e2 C1 C2 w h1 h2 h3 h4 f1 h5 h6 f2 h7 h8 f3 h9 h10 f4 h11 h12⟩
  all_goals (constructor <;> grind)

/-- What 'EvenPhases' gives of a number of at most 1. -/
theorem evenv {x1 x2 : Nat} {X1 X2 : Rat} (hx1 : V32 x1 X1) (hx2 : V32 x2 X2) (k1 : Bd 1 X1) (k2 : Bd 1 X2) :
    ∃ b1 b2 c1 c2 : Nat, ∃ B1 B2 C1 C2 : Rat, V32 b1 B1 ∧ V32 b2 B2 ∧ V32 c1 C1 ∧ V32 c2 C2 ∧
      Ap (1 / 524288) B1 (-X1 / 2 + sq3 * X2) ∧ Ap (1 / 524288) B2 (-X2 / 2 - sq3 * X1) ∧ Ap (1 / 524288) C1 (-X1 / 2 - sq3 * X2) ∧ Ap (1 / 524288) C2 (-X2 / 2 + sq3 * X1) ∧
      ∀ w, Calls Try.prog 10 #[.complex .f32 x1 x2] w fun e w' =>
        e = .returned (.agg #[.complex .f32 x1 x2, .complex .f32 b1 b2, .complex .f32 c1 c2]) ∧ Ext w w' := by
  have es : Bd 2 sq3 := by unfold Bd sq3; constructor <;> decide +kernel
  have en : Bd 2 (-sq3) := by unfold Bd sq3; constructor <;> decide +kernel
  have eh : Bd 2 (-1 / 2) := by unfold Bd; constructor <;> decide +kernel
  obtain ⟨b1, b2, ⟨B1, vb1, nb1⟩, ⟨B2, vb2, nb2⟩, f1⟩ := mulc hx1 hx2 v_half v_nsq3 k1 k2 eh en
  obtain ⟨c1, c2, ⟨C1, vc1, nc1⟩, ⟨C2, vc2, nc2⟩, f2⟩ := mulc hx1 hx2 v_half v_sq3 k1 k2 eh es
  refine ⟨b1, b2, c1, c2, B1, B2, C1, C2, vb1, vb2, vc1, vc2, ?_, ?_, ?_, ?_, fun w => even_calls x1 x2 b1 b2 c1 c2 w f1 f2⟩
  all_goals (unfold sq3 Ap at *; constructor <;> grind)

theorem sq_nonneg (p : Rat) : 0 ≤ p * p := by
  rcases Rat.le_total (a := 0) (b := p) with h | h
  · exact Rat.mul_nonneg h h
  · have := Rat.mul_nonneg (show 0 ≤ -p by grind) (show 0 ≤ -p by grind); grind

/-- The length of a complex number whose parts are at most 4. -/
theorem longv {x y : Nat} {p q : Rat} (hx : V32 x p) (hy : V32 y q) (k1 : Bd 4 p) (k2 : Bd 4 q) :
    ∃ l, ∃ L : Rat, V32 l L ∧ RootOf L (p * p + q * q) (1 / 262144) ∧ L ≤ 7 ∧
      ∀ w, Calls Try.prog 14 #[.complex .f32 x y] w fun e w' => e = .returned (.float .f32 l) ∧ w' = w := by
  obtain ⟨x', wx, vx⟩ := hx.wide
  obtain ⟨y', wy, vy⟩ := hy.wide
  have m1 := bd_mul k1 k1; have m2 := bd_mul k2 k2
  unfold Bd at m1 m2
  have s1 := sq_nonneg p; have s2 := sq_nonneg q
  obtain ⟨aa, h1, A, v1, n1, g1⟩ := mul64n vx vx (by grind) s1
  obtain ⟨bb, h2, B, v2, n2, g2⟩ := mul64n vy vy (by grind) s2
  unfold Ap at n1 n2
  obtain ⟨pp, h3, N, v3, n3, g3⟩ := add64n v1 v2 (by grind) (by grind)
  unfold Ap at n3
  obtain ⟨s, h4, S, v4, n4⟩ := sqrt64 v3 g3 (by grind)
  have hS6 : S ≤ 6 + 1 / 70368744177664 := (n4.2 6 (by grind)).2 (by grind)
  obtain ⟨l, h5, L, v5, n5, g5⟩ := narrow32n v4 (by grind) n4.1
  unfold Ap at n5
  refine ⟨l, L, v5, ⟨g5, fun u hu => ⟨fun hle => ?_, fun hge => ?_⟩⟩, by grind, fun w => long_calls x y x' y' aa bb pp s l w wx wy h1 h2 h3 h4 h5⟩
  · -- u less a little is below the root of N
    by_cases hu2 : u ≤ 1 / 1048576
    · grind
    · have hle' : (u - 1 / 1048576) * (u - 1 / 1048576) ≤ N := by grind
      have := (n4.2 (u - 1 / 1048576) (by grind)).1 hle'
      grind
  · have hge' : N ≤ (u + 1 / 1048576) * (u + 1 / 1048576) := by grind
    have := (n4.2 (u + 1 / 1048576) (by grind)).2 hge'
    grind

/-- The length of a difference that is small. -/
theorem apartv {a b c d : Nat} {p1 p2 q1 q2 : Rat} (ha : V32 a p1) (hb : V32 b p2) (hc : V32 c q1) (hd : V32 d q2) (k1 : Ap (1 / 8192) p1 q1) (k2 : Ap (1 / 8192) p2 q2) :
    ∃ l, (∃ L, V64 l L ∧ L ≤ 1 / 2048) ∧
      ∀ w, Calls Try.prog 12 #[.complex .f32 a b, .complex .f32 c d] w fun e w' => e = .returned (.float .f64 l) ∧ w' = w := by
  unfold Ap at k1 k2
  obtain ⟨x, h1, X, vx, nx⟩ := sub32 ha hc (by grind) (by grind)
  obtain ⟨y, h2, Y, vy, ny⟩ := sub32 hb hd (by grind) (by grind)
  unfold Ap at nx ny
  obtain ⟨l, L, vl, hr, _, hc⟩ := longv vx vy (by unfold Bd; constructor <;> grind) (by unfold Bd; constructor <;> grind)
  have bx : Bd (1 / 7000) X := by unfold Bd; constructor <;> grind
  have b_y : Bd (1 / 7000) Y := by unfold Bd; constructor <;> grind
  have m1 := bd_mul bx bx; have m2 := bd_mul b_y b_y
  unfold Bd at m1 m2
  have hL := (hr.2 (1 / 2500) (by grind)).2 (by grind)
  obtain ⟨l', wl, vl'⟩ := vl.wide
  exact ⟨l', ⟨L, vl', by grind⟩, fun w => apart_calls a b c d x y l l' w h1 h2 hc wl⟩

/-- The gap of two lengths that are near to each other. -/
theorem gapv {a b : Nat} {p q : Rat} (ha : V64 a p) (hb : V64 b q) (k1 : Bd 8 p) (k2 : Bd 8 q) (k : Ap (1 / 1100) p q) :
    ∃ g, (∃ G, V64 g G ∧ G ≤ 1 / 1050) ∧
      ∀ w, Calls Try.prog 13 #[.float .f64 a, .float .f64 b] w fun e w' => e = .returned (.float .f64 g) ∧ w' = w := by
  unfold Ap Bd at *
  obtain ⟨x, h1, X, vx, nx⟩ := sub64 ha hb (by grind) (by grind)
  obtain ⟨y, h2, Y, vy, ny⟩ := sub64 hb ha (by grind) (by grind)
  unfold Ap at nx ny
  have ho : FloatKind.f64.format.order x y = _ := vx.order vy
  have hm : maxBits x y = some x ∨ maxBits x y = some y := by
    unfold maxBits
    rw [ho]
    by_cases c1 : X < Y
    · rw [if_pos c1]; exact .inr rfl
    · rw [if_neg c1]
      by_cases c2 : X = Y
      · rw [if_pos c2]
        by_cases c3 : (FloatKind.f64.decode x).neg = true
        · exact .inr (by simp only [c3, if_true])
        · exact .inl (by simp only [c3, Bool.false_eq_true, if_false])
      · rw [if_neg c2]; exact .inl rfl
  rcases hm with hm | hm
  · exact ⟨x, ⟨X, vx, by grind⟩, fun w => gap_calls a b x y x w h1 h2 hm⟩
  · exact ⟨y, ⟨Y, vy, by grind⟩, fun w => gap_calls a b x y y w h1 h2 hm⟩

/-- The bound of the law. -/
theorem v_bound : ∃ Q, V64 4562254508917369340 Q ∧ 1 / 1001 ≤ Q := ⟨_, ⟨false, _, _, rfl, rfl⟩, by decide +kernel⟩
theorem not_gtr {x : Nat} {q : Rat} (h : V64 x q) (k : q ≤ 1 / 1050) : (FloatKind.f64.format.order x 4562254508917369340 == some .gt) = false := by
  obtain ⟨Q, hQ, hb⟩ := v_bound
  have e : FloatKind.f64.format.order x 4562254508917369340 = some .lt := by
    have := h.order hQ
    rw [if_pos (by grind)] at this
    exact this
  rw [e]; rfl
theorem is_lss {x : Nat} {q : Rat} (h : V64 x q) (k : q ≤ 1 / 1050) : (FloatKind.f64.format.order x 4562254508917369340 == some .lt) = true := by
  obtain ⟨Q, hQ, hb⟩ := v_bound
  have e : FloatKind.f64.format.order x 4562254508917369340 = some .lt := by
    have := h.order hQ
    rw [if_pos (by grind)] at this
    exact this
  rw [e]; rfl
theorem not_nan {x : Nat} {q : Rat} (h : V32 x q) : (FloatKind.f32.format.order x x != some .eq) = false := by
  have e : FloatKind.f32.format.order x x = some .eq := by
    have := h.order h
    rw [if_neg (by grind), if_pos rfl] at this
    exact this
  rw [e]; rfl
end Go.Proofs.Ytacigddenamphaa
