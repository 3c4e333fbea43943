/- The law on components holds: the plain part, and the statement. -/
import Derived.Test.YtacigddenamphaaNum
import Derived.Test.YtacigddenamphaaWk7
namespace Go.Proofs.Ytacigddenamphaa
open Go.RowKit Flt

theorem rot_le {P1 P2 N1 N2 L M t : Rat} (ht : t = sq3 ∨ t = -sq3) (k1 : Ap (1 / 65536) N1 (-P1 / 2 - t * P2)) (k2 : Ap (1 / 65536) N2 (-P2 / 2 + t * P1))
    (hL : RootOf L (P1 * P1 + P2 * P2) (1 / 262144)) (hM : RootOf M (N1 * N1 + N2 * N2) (1 / 262144)) (hL7 : L ≤ 7) : M ≤ L + 1 / 1100 := by
  have hU0 : 0 ≤ L + 1 / 131072 := by have := hL.1; grind
  have hP : P1 * P1 + P2 * P2 ≤ (L + 1 / 131072) * (L + 1 / 131072) := by
    rcases Rat.le_total (a := P1 * P1 + P2 * P2) (b := (L + 1 / 131072) * (L + 1 / 131072)) with h | h
    · exact h
    · have := (hL.2 _ hU0).1 h
      exfalso; grind
  obtain ⟨U, hU⟩ : ∃ U, U = L + 1 / 131072 := ⟨_, rfl⟩
  rw [← hU] at hU0 hP
  have q1 := sq_nonneg P1; have q2 := sq_nonneg P2
  have b1 : P1 ≤ U := sq_le_sq hU0 (by grind)
  have b2 : -P1 ≤ U := sq_le_sq hU0 (by grind)
  have b3 : P2 ≤ U := sq_le_sq hU0 (by grind)
  have b4 : -P2 ≤ U := sq_le_sq hU0 (by grind)
  obtain ⟨X1, hX1⟩ : ∃ X, X = -P1 / 2 - t * P2 := ⟨_, rfl⟩
  obtain ⟨X2, hX2⟩ : ∃ X, X = -P2 / 2 + t * P1 := ⟨_, rfl⟩
  rw [← hX1] at k1; rw [← hX2] at k2
  unfold Ap at k1 k2
  have hB : Bd (11 / 8 * U) X1 ∧ Bd (11 / 8 * U) X2 ∧ X1 * X1 + X2 * X2 = (1 / 4 + t * t) * (P1 * P1 + P2 * P2) := by
    refine ⟨?_, ?_, by rw [hX1, hX2]; grind⟩
    · rw [hX1]; unfold Bd; rcases ht with rfl | rfl <;> unfold sq3 <;> constructor <;> grind
    · rw [hX2]; unfold Bd; rcases ht with rfl | rfl <;> unfold sq3 <;> constructor <;> grind
  obtain ⟨B1, B2, hXX⟩ := hB
  have e1 : Bd (1 / 65536) (N1 - X1) := by unfold Bd; constructor <;> grind
  have e2 : Bd (1 / 65536) (N2 - X2) := by unfold Bd; constructor <;> grind
  have c1 := bd_mul e1 B1; have c2 := bd_mul e2 B2; have c3 := bd_mul e1 e1; have c4 := bd_mul e2 e2
  unfold Bd at c1 c2 c3 c4
  have hs : t * t ≤ 3 / 4 + 1 / 8388608 := by rcases ht with rfl | rfl <;> unfold sq3 <;> decide +kernel
  have hXX2 : X1 * X1 + X2 * X2 ≤ (1 + 1 / 8388608) * (U * U) := by
    rw [hXX]
    have a1 := Rat.mul_le_mul_of_nonneg_right (show 1 / 4 + t * t ≤ 1 + 1 / 8388608 by grind) (show 0 ≤ P1 * P1 + P2 * P2 by grind)
    have a2 := Rat.mul_le_mul_of_nonneg_left hP (show (0 : Rat) ≤ 1 + 1 / 8388608 by decide +kernel)
    grind
  have hUU : U * U ≤ 8 * U := by
    have := Rat.mul_le_mul_of_nonneg_right (show U ≤ 8 by grind) hU0
    exact this
  have hN : N1 * N1 + N2 * N2 ≤ (U + 1 / 1200) * (U + 1 / 1200) := by
    have n1 : N1 * N1 = X1 * X1 + 2 * ((N1 - X1) * X1) + (N1 - X1) * (N1 - X1) := by grind
    have n2 : N2 * N2 = X2 * X2 + 2 * ((N2 - X2) * X2) + (N2 - X2) * (N2 - X2) := by grind
    rw [n1, n2]
    grind
  have := (hM.2 (U + 1 / 1200) (by grind)).2 hN
  grind

theorem bound_lin {A1 A2 B1 B2 C1 C2 Z1 Z2 P1 P2 M1 M2 : Rat} (kA1 : Bd (9 / 8) A1) (kA2 : Bd (9 / 8) A2) (kB1 : Bd (9 / 8) B1) (kB2 : Bd (9 / 8) B2) (kC1 : Bd (9 / 8) C1) (kC2 : Bd (9 / 8) C2)
    (h0 : Ap (1 / 262144) Z1 ((A1 + B1 + C1) / 3)) (h1 : Ap (1 / 262144) Z2 ((A2 + B2 + C2) / 3)) (h2 : Ap (1 / 262144) P1 ((A1 - B1 / 2 - sq3 * B2 - C1 / 2 + sq3 * C2) / 3)) (h3 : Ap (1 / 262144) P2 ((A2 - B2 / 2 + sq3 * B1 - C2 / 2 - sq3 * C1) / 3)) (h4 : Ap (1 / 262144) M1 ((A1 - B1 / 2 + sq3 * B2 - C1 / 2 - sq3 * C2) / 3)) (h5 : Ap (1 / 262144) M2 ((A2 - B2 / 2 - sq3 * B1 - C2 / 2 + sq3 * C1) / 3)) :
    Bd (7 / 4) Z1 ∧ Bd (7 / 4) Z2 ∧ Bd (7 / 4) P1 ∧ Bd (7 / 4) P2 ∧ Bd (7 / 4) M1 ∧ Bd (7 / 4) M2 := by
  unfold sq3 Ap Bd at *
  refine ⟨?_, ?_, ?_, ?_, ?_, ?_⟩ <;> constructor <;> grind

theorem back_lin {A1 A2 B1 B2 C1 C2 Z1 Z2 P1 P2 M1 M2 BA1 BA2 BB1 BB2 BC1 BC2 : Rat} (kB1 : Bd 1 B1) (kB2 : Bd 1 B2) (kC1 : Bd 1 C1) (kC2 : Bd 1 C2)
    (h0 : Ap (1 / 262144) Z1 ((A1 + B1 + C1) / 3)) (h1 : Ap (1 / 262144) Z2 ((A2 + B2 + C2) / 3)) (h2 : Ap (1 / 262144) P1 ((A1 - B1 / 2 - sq3 * B2 - C1 / 2 + sq3 * C2) / 3)) (h3 : Ap (1 / 262144) P2 ((A2 - B2 / 2 + sq3 * B1 - C2 / 2 - sq3 * C1) / 3)) (h4 : Ap (1 / 262144) M1 ((A1 - B1 / 2 + sq3 * B2 - C1 / 2 - sq3 * C2) / 3)) (h5 : Ap (1 / 262144) M2 ((A2 - B2 / 2 - sq3 * B1 - C2 / 2 + sq3 * C1) / 3))
    (g0 : Ap (1 / 131072) BA1 (Z1 + P1 + M1)) (g1 : Ap (1 / 131072) BA2 (Z2 + P2 + M2)) (g2 : Ap (1 / 131072) BB1 (Z1 - P1 / 2 + sq3 * P2 - M1 / 2 - sq3 * M2)) (g3 : Ap (1 / 131072) BB2 (Z2 - P2 / 2 - sq3 * P1 - M2 / 2 + sq3 * M1)) (g4 : Ap (1 / 131072) BC1 (Z1 - P1 / 2 - sq3 * P2 - M1 / 2 + sq3 * M2)) (g5 : Ap (1 / 131072) BC2 (Z2 - P2 / 2 + sq3 * P1 - M2 / 2 - sq3 * M1)) :
    Ap (1 / 8192) BA1 A1 ∧ Ap (1 / 8192) BA2 A2 ∧ Ap (1 / 8192) BB1 B1 ∧ Ap (1 / 8192) BB2 B2 ∧ Ap (1 / 8192) BC1 C1 ∧ Ap (1 / 8192) BC2 C2 := by
  unfold sq3 Ap Bd at *
  refine ⟨?_, ?_, ?_, ?_, ?_, ?_⟩ <;> constructor <;> grind

theorem even_lin {X1 X2 EB1 EB2 EC1 EC2 Z1 Z2 P1 P2 M1 M2 : Rat} (k1 : Bd 1 X1) (k2 : Bd 1 X2)
    (e1 : Ap (1 / 524288) EB1 (-X1 / 2 + sq3 * X2)) (e2 : Ap (1 / 524288) EB2 (-X2 / 2 - sq3 * X1)) (e3 : Ap (1 / 524288) EC1 (-X1 / 2 - sq3 * X2)) (e4 : Ap (1 / 524288) EC2 (-X2 / 2 + sq3 * X1))
    (h0 : Ap (1 / 262144) Z1 ((X1 + EB1 + EC1) / 3)) (h1 : Ap (1 / 262144) Z2 ((X2 + EB2 + EC2) / 3)) (h2 : Ap (1 / 262144) P1 ((X1 - EB1 / 2 - sq3 * EB2 - EC1 / 2 + sq3 * EC2) / 3)) (h3 : Ap (1 / 262144) P2 ((X2 - EB2 / 2 + sq3 * EB1 - EC2 / 2 - sq3 * EC1) / 3)) (h4 : Ap (1 / 262144) M1 ((X1 - EB1 / 2 + sq3 * EB2 - EC1 / 2 - sq3 * EC2) / 3)) (h5 : Ap (1 / 262144) M2 ((X2 - EB2 / 2 - sq3 * EB1 - EC2 / 2 + sq3 * EC1) / 3)) :
    Ap (1 / 8192) Z1 0 ∧ Ap (1 / 8192) Z2 0 ∧ Ap (1 / 8192) P1 X1 ∧ Ap (1 / 8192) P2 X2 ∧ Ap (1 / 8192) M1 0 ∧ Ap (1 / 8192) M2 0 := by
  unfold sq3 Ap Bd at *
  refine ⟨?_, ?_, ?_, ?_, ?_, ?_⟩ <;> constructor <;> grind

theorem even_bd {X1 X2 EB1 EB2 EC1 EC2 : Rat} (k1 : Bd 1 X1) (k3 : Bd (1 / 4) X2)
    (e1 : Ap (1 / 524288) EB1 (-X1 / 2 + sq3 * X2)) (e2 : Ap (1 / 524288) EB2 (-X2 / 2 - sq3 * X1)) (e3 : Ap (1 / 524288) EC1 (-X1 / 2 - sq3 * X2)) (e4 : Ap (1 / 524288) EC2 (-X2 / 2 + sq3 * X1)) :
    Bd (9 / 8) EB1 ∧ Bd (9 / 8) EB2 ∧ Bd (9 / 8) EC1 ∧ Bd (9 / 8) EC2 := by
  unfold sq3 Ap Bd at *
  refine ⟨?_, ?_, ?_, ?_⟩ <;> constructor <;> grind

theorem next_lin {A1 A2 B1 B2 C1 C2 Z1 Z2 P1 P2 M1 M2 NZ1 NZ2 NP1 NP2 NM1 NM2 : Rat} (kA1 : Bd 1 A1) (kA2 : Bd 1 A2) (kB1 : Bd 1 B1) (kB2 : Bd 1 B2) (kC1 : Bd 1 C1) (kC2 : Bd 1 C2)
    (h0 : Ap (1 / 262144) Z1 ((A1 + B1 + C1) / 3)) (h1 : Ap (1 / 262144) Z2 ((A2 + B2 + C2) / 3)) (h2 : Ap (1 / 262144) P1 ((A1 - B1 / 2 - sq3 * B2 - C1 / 2 + sq3 * C2) / 3)) (h3 : Ap (1 / 262144) P2 ((A2 - B2 / 2 + sq3 * B1 - C2 / 2 - sq3 * C1) / 3)) (h4 : Ap (1 / 262144) M1 ((A1 - B1 / 2 + sq3 * B2 - C1 / 2 - sq3 * C2) / 3)) (h5 : Ap (1 / 262144) M2 ((A2 - B2 / 2 - sq3 * B1 - C2 / 2 + sq3 * C1) / 3))
    (g0 : Ap (1 / 262144) NZ1 ((C1 + A1 + B1) / 3)) (g1 : Ap (1 / 262144) NZ2 ((C2 + A2 + B2) / 3)) (g2 : Ap (1 / 262144) NP1 ((C1 - A1 / 2 - sq3 * A2 - B1 / 2 + sq3 * B2) / 3)) (g3 : Ap (1 / 262144) NP2 ((C2 - A2 / 2 + sq3 * A1 - B2 / 2 - sq3 * B1) / 3)) (g4 : Ap (1 / 262144) NM1 ((C1 - A1 / 2 + sq3 * A2 - B1 / 2 - sq3 * B2) / 3)) (g5 : Ap (1 / 262144) NM2 ((C2 - A2 / 2 - sq3 * A1 - B2 / 2 + sq3 * B1) / 3)) :
    Ap (1 / 8192) NZ1 Z1 ∧ Ap (1 / 8192) NZ2 Z2 ∧
    Ap (1 / 65536) NP1 (-P1 / 2 - sq3 * P2) ∧ Ap (1 / 65536) NP2 (-P2 / 2 + sq3 * P1) ∧
    Ap (1 / 65536) P1 (-NP1 / 2 - -sq3 * NP2) ∧ Ap (1 / 65536) P2 (-NP2 / 2 + -sq3 * NP1) ∧
    Ap (1 / 65536) NM1 (-M1 / 2 - -sq3 * M2) ∧ Ap (1 / 65536) NM2 (-M2 / 2 + -sq3 * M1) ∧
    Ap (1 / 65536) M1 (-NM1 / 2 - sq3 * NM2) ∧ Ap (1 / 65536) M2 (-NM2 / 2 + sq3 * NM1) := by
  unfold sq3 Ap Bd at *
  refine ⟨?_, ?_, ?_, ?_, ?_, ?_, ?_, ?_, ?_, ?_⟩ <;> constructor <;> grind

def chk (x : Nat) (q : Rat) : Bool := match Ieee.single.read x with
  | .number s m e => decide (sg s * (m : Rat) * P e = q)
  | _ => false
theorem chk_val {x : Nat} {q : Rat} (h : chk x q = true) : V32 x q := by
  unfold chk at h
  cases hr : Ieee.single.read x with
  | number s m e => rw [hr] at h; exact ⟨s, m, e, hr, (of_decide_eq_true h).symm⟩
  | infinity s => rw [hr] at h; cases h
  | nan s t => rw [hr] at h; cases h

theorem fdiv_val (n : Int) (h1 : -16 ≤ n) (h2 : n ≤ 16) : V32 (fdiv n) ((n : Rat) / 16) := by
  have h : ∀ k : Fin 33, chk (fdiv ((k.val : Int) - 16)) (((((k.val : Int) - 16) : Int) : Rat) / 16) = true := by decide +kernel
  have := h ⟨(n + 16).toNat, by omega⟩
  have e : (((n + 16).toNat : Nat) : Int) - 16 = n := by omega
  simp only [e] at this
  exact chk_val this

theorem bd_of_int {n : Int} (h1 : -16 ≤ n) (h2 : n ≤ 16) : Bd 1 ((n : Rat) / 16) := by
  have a := Rat.intCast_le_intCast.2 h1
  have b := Rat.intCast_le_intCast.2 h2
  have e1 : ((-16 : Int) : Rat) = -16 := rfl
  have e2 : ((16 : Int) : Rat) = 16 := rfl
  rw [e1] at a; rw [e2] at b
  unfold Bd; constructor <;> grind

theorem v_zero : V32 0 0 := ⟨false, 0, Ieee.single.leastPlace, by decide +kernel, by simp⟩

/-- THE LAW: whatever the bytes, at most 48 of each, it returns true. -/
theorem comp_true (v1 v2 : Value) (bs bt : List Nat) (w : World) (h1 : Bytes w v1 bs) (h2 : Bytes w v2 bt)
    (f5 : ∀ w', Ext w w' → Calls Try.prog 5 #[v1, v2] w' fun e w'' => e = .returned (.bool false) ∧ w'' = w') :
    Calls Try.prog 3 #[v1, v2] w fun e w' => e = .returned (.bool true) ∧ Ext w w' := by
  have f6 : ∀ w', Ext w w' → Calls Try.prog 6 #[v1, .int .i64 0] w' fun e w'' => e = .returned (phas bs 0) ∧ Ext w' w'' :=
    fun w' he => phas_calls v1 bs 0 w' (h1.ext he) (by omega)
  have f7 : ∀ w', Ext w w' → Calls Try.prog 7 #[v2, .int .i64 0] w' fun e w'' => e = .returned (.complex .f32 (fdiv (numA bt 0)) (fdiv (numB bt 0))) ∧ w'' = w' :=
    fun w' he => number_any v2 bt 0 0 w' (h2.ext he) rfl
  unfold phas at f6
  have nA : ∀ l k, -16 ≤ numA l k ∧ numA l k ≤ 16 := numA_bd
  have nB1 : ∀ k, -16 ≤ numB bs k ∧ numB bs k ≤ 16 := fun k => by have := numB_bd bs h1.2.1 k; omega
  have nB3 : Bd (1 / 4) ((numB bt 0 : Rat) / 16) := by
    have := numB_bd bt h2.2.1 0
    have a := Rat.intCast_le_intCast.2 this.1
    have b := Rat.intCast_le_intCast.2 this.2
    have e1 : ((-3 : Int) : Rat) = -3 := rfl
    have e2 : ((4 : Int) : Rat) = 4 := rfl
    rw [e1] at a; rw [e2] at b
    unfold Bd; constructor <;> grind
  have nB2 : ∀ k, -16 ≤ numB bt k ∧ numB bt k ≤ 16 := fun k => by have := numB_bd bt h2.2.1 k; omega
  -- the six parts of p, the two of x
  obtain ⟨a1, A1, va1, kA1, ea1⟩ : ∃ a A, V32 a A ∧ Bd 1 A ∧ fdiv (numA bs 0) = a := ⟨_, _, fdiv_val _ (nA bs 0).1 (nA bs 0).2, bd_of_int (nA bs 0).1 (nA bs 0).2, rfl⟩
  obtain ⟨a2, A2, va2, kA2, ea2⟩ : ∃ a A, V32 a A ∧ Bd 1 A ∧ fdiv (numB bs 0) = a := ⟨_, _, fdiv_val _ (nB1 0).1 (nB1 0).2, bd_of_int (nB1 0).1 (nB1 0).2, rfl⟩
  obtain ⟨b1, B1, vb1, kB1, eb1⟩ : ∃ a A, V32 a A ∧ Bd 1 A ∧ fdiv (numA bs (0 + 1)) = a := ⟨_, _, fdiv_val _ (nA bs _).1 (nA bs _).2, bd_of_int (nA bs _).1 (nA bs _).2, rfl⟩
  obtain ⟨b2, B2, vb2, kB2, eb2⟩ : ∃ a A, V32 a A ∧ Bd 1 A ∧ fdiv (numB bs (0 + 1)) = a := ⟨_, _, fdiv_val _ (nB1 _).1 (nB1 _).2, bd_of_int (nB1 _).1 (nB1 _).2, rfl⟩
  obtain ⟨c1, C1, vc1, kC1, ec1⟩ : ∃ a A, V32 a A ∧ Bd 1 A ∧ fdiv (numA bs (0 + 2)) = a := ⟨_, _, fdiv_val _ (nA bs _).1 (nA bs _).2, bd_of_int (nA bs _).1 (nA bs _).2, rfl⟩
  obtain ⟨c2, C2, vc2, kC2, ec2⟩ : ∃ a A, V32 a A ∧ Bd 1 A ∧ fdiv (numB bs (0 + 2)) = a := ⟨_, _, fdiv_val _ (nB1 _).1 (nB1 _).2, bd_of_int (nB1 _).1 (nB1 _).2, rfl⟩
  obtain ⟨x1, X1, vx1, kX1, ex1⟩ : ∃ a A, V32 a A ∧ Bd 1 A ∧ fdiv (numA bt 0) = a := ⟨_, _, fdiv_val _ (nA bt 0).1 (nA bt 0).2, bd_of_int (nA bt 0).1 (nA bt 0).2, rfl⟩
  obtain ⟨x2, X2, vx2, kX2, kX3, ex2⟩ : ∃ a A, V32 a A ∧ Bd 1 A ∧ Bd (1 / 4) A ∧ fdiv (numB bt 0) = a := ⟨_, _, fdiv_val _ (nB2 0).1 (nB2 0).2, bd_of_int (nB2 0).1 (nB2 0).2, nB3, rfl⟩
  rw [ea1, ea2, eb1, eb2, ec1, ec2] at f6
  rw [ex1, ex2] at f7
  clear ea1 ea2 eb1 eb2 ec1 ec2 ex1 ex2 nA nB1 nB2 nB3 h1 h2
  have up : ∀ {q}, Bd 1 q → Bd (9 / 8) q := fun {q} h => by unfold Bd at *; constructor <;> grind
  -- the parts of p, and of p gone around
  obtain ⟨z1, z2, p1, p2, m1, m2, Z1, Z2, P1, P2, M1, M2, vz1, vz2, vp1, vp2, vm1, vm2, nz1, nz2, np1, np2, nm1, nm2, f8⟩ := partsv va1 va2 vb1 vb2 vc1 vc2 (up kA1) (up kA2) (up kB1) (up kB2) (up kC1) (up kC2)
  obtain ⟨nz1', nz2', np1', np2', nm1', nm2', NZ1, NZ2, NP1, NP2, NM1, NM2, wz1, wz2, wp1, wp2, wm1, wm2, oz1, oz2, op1, op2, om1, om2, f8n⟩ := partsv vc1 vc2 va1 va2 vb1 vb2 (up kC1) (up kC2) (up kA1) (up kA2) (up kB1) (up kB2)
  -- the even phases of x
  obtain ⟨eb1, eb2, ec1, ec2, EB1, EB2, EC1, EC2, veb1, veb2, vec1, vec2, neb1, neb2, nec1, nec2, f10⟩ := evenv vx1 vx2 kX1 kX2
  obtain ⟨kb1, kb2, kb3, kb4⟩ := even_bd kX1 kX3 neb1 neb2 nec1 nec2
  obtain ⟨ez1, ez2, ep1, ep2, em1, em2, EZ1, EZ2, EP1, EP2, EM1, EM2, vez1, vez2, vep1, vep2, vem1, vem2, nez1, nez2, nep1, nep2, nem1, nem2, f8e⟩ := partsv vx1 vx2 veb1 veb2 vec1 vec2 (up kX1) (up kX2) kb1 kb2 kb3 kb4
  -- back from the parts
  obtain ⟨jz1, jz2, jp1, jp2, jm1, jm2⟩ := bound_lin (up kA1) (up kA2) (up kB1) (up kB2) (up kC1) (up kC2) nz1 nz2 np1 np2 nm1 nm2
  obtain ⟨ba1, ba2, bb1, bb2, bc1, bc2, BA1, BA2, BB1, BB2, BC1, BC2, vba1, vba2, vbb1, vbb2, vbc1, vbc2, nba1, nba2, nbb1, nbb2, nbc1, nbc2, f9⟩ := phasesv vz1 vz2 vp1 vp2 vm1 vm2 jz1 jz2 jp1 jp2 jm1 jm2
  obtain ⟨r1, r2, r3, r4, r5, r6⟩ := back_lin kB1 kB2 kC1 kC2 nz1 nz2 np1 np2 nm1 nm2 nba1 nba2 nbb1 nbb2 nbc1 nbc2
  obtain ⟨t1, t2, t3, t4, t5, t6⟩ := even_lin kX1 kX2 neb1 neb2 nec1 nec2 nez1 nez2 nep1 nep2 nem1 nem2
  obtain ⟨u1, u2, u3, u4, u5, u6, u7, u8, u9, u10⟩ := next_lin kA1 kA2 kB1 kB2 kC1 kC2 nz1 nz2 np1 np2 nm1 nm2 oz1 oz2 op1 op2 om1 om2
  -- what lies apart
  obtain ⟨d1, ⟨D1, vd1, kd1⟩, q1⟩ := apartv vba1 vba2 va1 va2 r1 r2
  obtain ⟨d2, ⟨D2, vd2, kd2⟩, q2⟩ := apartv vbb1 vbb2 vb1 vb2 r3 r4
  obtain ⟨d3, ⟨D3, vd3, kd3⟩, q3⟩ := apartv vbc1 vbc2 vc1 vc2 r5 r6
  obtain ⟨d4, ⟨D4, vd4, kd4⟩, q4⟩ := apartv vep1 vep2 vx1 vx2 t3 t4
  obtain ⟨d5, ⟨D5, vd5, kd5⟩, q5⟩ := apartv vez1 vez2 v_zero v_zero t1 t2
  obtain ⟨d6, ⟨D6, vd6, kd6⟩, q6⟩ := apartv vem1 vem2 v_zero v_zero t5 t6
  obtain ⟨d7, ⟨D7, vd7, kd7⟩, q7⟩ := apartv wz1 wz2 vz1 vz2 u1 u2
  -- the lengths
  obtain ⟨jz1', jz2', jp1', jp2', jm1', jm2'⟩ := bound_lin (up kC1) (up kC2) (up kA1) (up kA2) (up kB1) (up kB2) oz1 oz2 op1 op2 om1 om2
  have up4 : ∀ {q}, Bd (7 / 4) q → Bd 4 q := fun {q} h => by unfold Bd at *; constructor <;> grind
  obtain ⟨l1, L1, vl1, hl1, ml1, g1⟩ := longv wp1 wp2 (up4 jp1') (up4 jp2')
  obtain ⟨l2, L2, vl2, hl2, ml2, g2⟩ := longv vp1 vp2 (up4 jp1) (up4 jp2)
  obtain ⟨l3, L3, vl3, hl3, ml3, g3⟩ := longv wm1 wm2 (up4 jm1') (up4 jm2')
  obtain ⟨l4, L4, vl4, hl4, ml4, g4⟩ := longv vm1 vm2 (up4 jm1) (up4 jm2)
  obtain ⟨k1, wk1, vk1⟩ := vl1.wide
  obtain ⟨k2, wk2, vk2⟩ := vl2.wide
  obtain ⟨k3, wk3, vk3⟩ := vl3.wide
  obtain ⟨k4, wk4, vk4⟩ := vl4.wide
  have a12 : Ap (1 / 1100) L1 L2 := ⟨rot_le (.inl rfl) u3 u4 hl2 hl1 ml2, rot_le (.inr rfl) u5 u6 hl1 hl2 ml1⟩
  have a34 : Ap (1 / 1100) L3 L4 := ⟨rot_le (.inr rfl) u7 u8 hl4 hl3 ml4, rot_le (.inl rfl) u9 u10 hl3 hl4 ml3⟩
  have up8 : ∀ {q}, 0 ≤ q → q ≤ 7 → Bd 8 q := fun {q} h h' => by unfold Bd; constructor <;> grind
  obtain ⟨e1, ⟨G1, ve1, ke1⟩, gp1⟩ := gapv vk1 vk2 (up8 hl1.1 ml1) (up8 hl2.1 ml2) a12
  obtain ⟨e2, ⟨G2, ve2, ke2⟩, gp2⟩ := gapv vk3 vk4 (up8 hl3.1 ml3) (up8 hl4.1 ml4) a34
  -- the ground
  obtain ⟨s1, s2, y1, y2, ⟨S1, vs1, ns1⟩, ⟨S2, vs2, ns2⟩⟩ := addc va1 va2 vb1 vb2 (by unfold Bd at *; constructor <;> grind) (by unfold Bd at *; constructor <;> grind)
  obtain ⟨g1', g2', y3, y4, ⟨GG1, vg1, ng1⟩, ⟨GG2, vg2, ng2⟩⟩ := addc vs1 vs2 vc1 vc2 (by unfold Bd Ap at *; constructor <;> grind) (by unfold Bd Ap at *; constructor <;> grind)
  obtain ⟨s1', s2', y5, y6, ⟨S1', vs1', ns1'⟩, ⟨S2', vs2', ns2'⟩⟩ := addc vz1 vz2 vz1 vz2 (by unfold Bd at *; constructor <;> grind) (by unfold Bd at *; constructor <;> grind)
  obtain ⟨t1', t2', y7, y8, ⟨T1, vt1, nt1⟩, ⟨T2, vt2, nt2⟩⟩ := addc vs1' vs2' vz1 vz2 (by unfold Bd Ap at *; constructor <;> grind) (by unfold Bd Ap at *; constructor <;> grind)
  have i1 : Ap (1 / 8192) GG1 T1 := by unfold Ap at *; constructor <;> grind
  have i2 : Ap (1 / 8192) GG2 T2 := by unfold Ap at *; constructor <;> grind
  obtain ⟨d8, ⟨D8, vd8, kd8⟩, q8⟩ := apartv vg1 vg2 vt1 vt2 i1 i2
  have f16 := fun w => sameparts_calls z1 z2 p1 p2 m1 m2 w (fun w => samec_calls z1 z2 w (not_nan vz1) (not_nan vz2)) (fun w => samec_calls p1 p2 w (not_nan vp1) (not_nan vp2)) (fun w => samec_calls m1 m2 w (not_nan vm1) (not_nan vm2))
  have f15 := fun w => ground_calls a1 a2 b1 b2 c1 c2 s1 s2 g1' g2' w y1 y2 y3 y4
  have dn : ∀ {q : Rat}, q ≤ 1 / 2048 → q ≤ 1 / 1050 := fun {q} h => by grind
  exact comp_calls v1 v2 a1 a2 b1 b2 c1 c2 x1 x2 z1 z2 p1 p2 m1 m2 ba1 ba2 bb1 bb2 bc1 bc2 x1 x2 eb1 eb2 ec1 ec2 ez1 ez2 ep1 ep2 em1 em2 nz1' nz2' np1' np2' nm1' nm2' g1' g2' s1' s2' t1' t2'
    d1 d2 d3 d4 d5 d6 d7 d8 l1 l2 l3 l4 k1 k2 k3 k4 e1 e2 w f5 f6 f7 f8 f9 f10 f8e f8n q1 q2 q3 q4 q5 q6 q7 q8
    (not_gtr vd1 (dn kd1)) (not_gtr vd2 (dn kd2)) (not_gtr vd3 (dn kd3)) (not_gtr vd4 (dn kd4)) (not_gtr vd5 (dn kd5)) (not_gtr vd6 (dn kd6)) (not_gtr vd7 (dn kd7)) (is_lss vd8 (dn kd8))
    g1 wk1 g2 wk2 g3 wk3 g4 wk4 gp1 gp2 (not_gtr ve1 ke1) (not_gtr ve2 ke2) f15 f16 y5 y7 y6 y8
end Go.Proofs.Ytacigddenamphaa
