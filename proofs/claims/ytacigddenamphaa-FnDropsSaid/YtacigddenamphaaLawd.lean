/- The law on drops holds, whatever the bytes, at most 48 of each. -/
import Derived.Test.YtacigddenamphaaEx4
import Derived.Test.YtacigddenamphaaLaw
import Derived.Test.YtacigddenamphaaWk13
import Derived.Test.YtacigddenamphaaWk14
import Derived.Test.YtacigddenamphaaWk15
namespace Go.Proofs.Ytacigddenamphaa
open Go.RowKit Flt

theorem lr_add (O1 O2 H1 H2 A1 A2 S1 S2 B1 B2 T1 T2 : Int) : lr O1 O2 H1 H2 (A1 + B1) (A2 + B2) (S1 + T1) (S2 + T2) = lr O1 O2 H1 H2 A1 A2 S1 S2 + lr O1 O2 H1 H2 B1 B2 T1 T2 := by
  unfold lr; grind
theorem li_add (O1 O2 H1 H2 A1 A2 S1 S2 B1 B2 T1 T2 : Int) : li O1 O2 H1 H2 (A1 + B1) (A2 + B2) (S1 + T1) (S2 + T2) = li O1 O2 H1 H2 A1 A2 S1 S2 + li O1 O2 H1 H2 B1 B2 T1 T2 := by
  unfold li; grind
theorem ib_up {x : Int} (h : IB 3072 x) : IB 4000 x := by unfold IB at *; omega
theorem ib_16 {x : Int} (h : IB 16 x) : IB 4000 (16 * x) := by unfold IB at *; omega
theorem ib_32 {x : Int} (h : IB 16 x) : IB 32 x := by unfold IB at *; omega
theorem ib_s {x y : Int} (h : IB 16 x) (h' : IB 16 y) : IB 32 (x + y) := by unfold IB at *; omega
theorem q8_to {x : Nat} {m n : Int} (h : Q8 x m) (e : m = n) : Q8 x n := e ▸ h
theorem bd_q8 {x : Int} (h : IB 16 x) : Bd 5000 (((16 * x : Int) : Rat) / 256) := by
  unfold IB at h
  obtain ⟨b1, b2⟩ := cast_bd (n := 16 * x) (c := 256) (by omega) (by omega)
  have e1 : ((256 : Int) : Rat) = 256 := rfl
  rw [e1] at b1 b2
  unfold Bd; constructor <;> grind
theorem ap_self (q : Rat) : Ap (1 / 8192) q q := by unfold Ap; constructor <;> grind

theorem num_q8 (n : Int) (h1 : -16 ≤ n) (h2 : n ≤ 16) : Q8 (fdiv n) (16 * n) := by
  have := fdiv_val n h1 h2
  have e : (n : Rat) / 16 = ((16 * n : Int) : Rat) / 256 := by
    rw [Rat.intCast_mul]
    have : ((16 : Int) : Rat) = 16 := rfl
    rw [this]; grind
  rw [e] at this
  exact this

set_option maxHeartbeats 2000000 in
theorem drops_core (v1 v2 : Value) {K : Int} (hK : K = 0 ∨ K = 1 ∨ K = 2) {o1 o2 h1 h2 l1 l2 m1 m2 n1 n2 ia1 ia2 ib1 ib2 ic1 ic2 ja1 ja2 jb1 jb2 jc1 jc2 : Nat} {O1 O2 H1 H2 L1 L2 M1 M2 N1 N2 IA1 IA2 IB1 IB2 IC1 IC2 JA1 JA2 JB1 JB2 JC1 JC2 : Int} (w : World)
    (vo1 : Q8 o1 (16 * O1)) (vo2 : Q8 o2 (16 * O2)) (ko1 : IB 16 O1) (ko2 : IB 16 O2)
    (vh1 : Q8 h1 (16 * H1)) (vh2 : Q8 h2 (16 * H2)) (kh1 : IB 16 H1) (kh2 : IB 16 H2)
    (vl1 : Q8 l1 (16 * L1)) (vl2 : Q8 l2 (16 * L2)) (kl1 : IB 16 L1) (kl2 : IB 16 L2)
    (vm1 : Q8 m1 (16 * M1)) (vm2 : Q8 m2 (16 * M2)) (km1 : IB 16 M1) (km2 : IB 16 M2)
    (vn1 : Q8 n1 (16 * N1)) (vn2 : Q8 n2 (16 * N2)) (kn1 : IB 16 N1) (kn2 : IB 16 N2)
    (via1 : Q8 ia1 (16 * IA1)) (via2 : Q8 ia2 (16 * IA2)) (kia1 : IB 16 IA1) (kia2 : IB 16 IA2)
    (vib1 : Q8 ib1 (16 * IB1)) (vib2 : Q8 ib2 (16 * IB2)) (kib1 : IB 16 IB1) (kib2 : IB 16 IB2)
    (vic1 : Q8 ic1 (16 * IC1)) (vic2 : Q8 ic2 (16 * IC2)) (kic1 : IB 16 IC1) (kic2 : IB 16 IC2)
    (vja1 : Q8 ja1 (16 * JA1)) (vja2 : Q8 ja2 (16 * JA2)) (kja1 : IB 16 JA1) (kja2 : IB 16 JA2)
    (vjb1 : Q8 jb1 (16 * JB1)) (vjb2 : Q8 jb2 (16 * JB2)) (kjb1 : IB 16 JB1) (kjb2 : IB 16 JB2)
    (vjc1 : Q8 jc1 (16 * JC1)) (vjc2 : Q8 jc2 (16 * JC2)) (kjc1 : IB 16 JC1) (kjc2 : IB 16 JC2)
    (f5 : ∀ w', Ext w w' → Calls Try.prog 5 #[v1, v2] w' fun e w'' => e = .returned (.bool false) ∧ w'' = w')
    (fo : ∀ w', Ext w w' → Calls Try.prog 7 #[v1, .int .i64 0] w' fun e w'' => e = .returned (.complex .f32 o1 o2) ∧ w'' = w')
    (fh : ∀ w', Ext w w' → Calls Try.prog 7 #[v1, .int .i64 1] w' fun e w'' => e = .returned (.complex .f32 h1 h2) ∧ w'' = w')
    (fk : ∀ w', Ext w w' → Calls Try.prog 17 #[v1, .int .i64 2, .int .i64 3] w' fun e w'' => e = .returned (.int .i64 K) ∧ w'' = w')
    (fl : ∀ w', Ext w w' → Calls Try.prog 6 #[v1, .int .i64 3] w' fun e w'' => e = .returned (.agg #[.complex .f32 l1 l2, .complex .f32 m1 m2, .complex .f32 n1 n2]) ∧ Ext w' w'')
    (fi : ∀ w', Ext w w' → Calls Try.prog 6 #[v2, .int .i64 0] w' fun e w'' => e = .returned (.agg #[.complex .f32 ia1 ia2, .complex .f32 ib1 ib2, .complex .f32 ic1 ic2]) ∧ Ext w' w'')
    (fj : ∀ w', Ext w w' → Calls Try.prog 6 #[v2, .int .i64 3] w' fun e w'' => e = .returned (.agg #[.complex .f32 ja1 ja2, .complex .f32 jb1 jb2, .complex .f32 jc1 jc2]) ∧ Ext w' w'')
    : Calls Try.prog 4 #[v1, v2] w fun e w' => e = .returned (.bool true) ∧ Ext w w' := by
  obtain ⟨sa1, sa2, sb1, sb2, sc1, sc2, vsa1, vsa2, vsb1, vsb2, vsc1, vsc2, gs⟩ := addpx via1 via2 vib1 vib2 vic1 vic2 vja1 vja2 vjb1 vjb2 vjc1 vjc2 (ib_16 kia1) (ib_16 kia2) (ib_16 kib1) (ib_16 kib2) (ib_16 kic1) (ib_16 kic2) (ib_16 kja1) (ib_16 kja2) (ib_16 kjb1) (ib_16 kjb2) (ib_16 kjc1) (ib_16 kjc2)
  have vsa1 := q8_to vsa1 (show 16 * IA1 + 16 * JA1 = 16 * (IA1 + JA1) by omega)
  have vsa2 := q8_to vsa2 (show 16 * IA2 + 16 * JA2 = 16 * (IA2 + JA2) by omega)
  have vsb1 := q8_to vsb1 (show 16 * IB1 + 16 * JB1 = 16 * (IB1 + JB1) by omega)
  have vsb2 := q8_to vsb2 (show 16 * IB2 + 16 * JB2 = 16 * (IB2 + JB2) by omega)
  have vsc1 := q8_to vsc1 (show 16 * IC1 + 16 * JC1 = 16 * (IC1 + JC1) by omega)
  have vsc2 := q8_to vsc2 (show 16 * IC2 + 16 * JC2 = 16 * (IC2 + JC2) by omega)
  obtain ⟨ba1, ba2, bb1, bb2, bc1, bc2, vba1, vba2, vbb1, vbb2, vbc1, vbc2, ⟨kba1, kba2, kbb1, kbb2, kbc1, kbc2⟩, gb⟩ := dropx K l1 l2 m1 m2 n1 n2 vo1 vo2 vh1 vh2 vsa1 vsa2 vsb1 vsb2 vsc1 vsc2 ko1 ko2 kh1 kh2 (ib_s kia1 kja1) (ib_s kia2 kja2) (ib_s kib1 kjb1) (ib_s kib2 kjb2) (ib_s kic1 kjc1) (ib_s kic2 kjc2)
  obtain ⟨xa1, xa2, xb1, xb2, xc1, xc2, vxa1, vxa2, vxb1, vxb2, vxc1, vxc2, ⟨kxa1, kxa2, kxb1, kxb2, kxc1, kxc2⟩, gx⟩ := dropx K l1 l2 m1 m2 n1 n2 vo1 vo2 vh1 vh2 via1 via2 vib1 vib2 vic1 vic2 ko1 ko2 kh1 kh2 (ib_32 kia1) (ib_32 kia2) (ib_32 kib1) (ib_32 kib2) (ib_32 kic1) (ib_32 kic2)
  obtain ⟨ya1, ya2, yb1, yb2, yc1, yc2, vya1, vya2, vyb1, vyb2, vyc1, vyc2, ⟨kya1, kya2, kyb1, kyb2, kyc1, kyc2⟩, gy⟩ := dropx K l1 l2 m1 m2 n1 n2 vo1 vo2 vh1 vh2 vja1 vja2 vjb1 vjb2 vjc1 vjc2 ko1 ko2 kh1 kh2 (ib_32 kja1) (ib_32 kja2) (ib_32 kjb1) (ib_32 kjb2) (ib_32 kjc1) (ib_32 kjc2)
  obtain ⟨ua1, ua2, ub1, ub2, uc1, uc2, vua1, vua2, vub1, vub2, vuc1, vuc2, gu⟩ := addpx vxa1 vxa2 vxb1 vxb2 vxc1 vxc2 vya1 vya2 vyb1 vyb2 vyc1 vyc2 (ib_up kxa1) (ib_up kxa2) (ib_up kxb1) (ib_up kxb2) (ib_up kxc1) (ib_up kxc2) (ib_up kya1) (ib_up kya2) (ib_up kyb1) (ib_up kyb2) (ib_up kyc1) (ib_up kyc2)
  obtain ⟨la1, la2, lb1, lb2, lc1, lc2, vla1, vla2, vlb1, vlb2, vlc1, vlc2, gl⟩ := lesspx vba1 vba2 vbb1 vbb2 vbc1 vbc2 vya1 vya2 vyb1 vyb2 vyc1 vyc2 (ib_up kba1) (ib_up kba2) (ib_up kbb1) (ib_up kbb2) (ib_up kbc1) (ib_up kbc2) (ib_up kya1) (ib_up kya2) (ib_up kyb1) (ib_up kyb2) (ib_up kyc1) (ib_up kyc2)
  have eba1 : lr O1 O2 H1 H2 (IA1 + JA1) (IA2 + JA2) (IB1 + JB1 + (IC1 + JC1)) (IB2 + JB2 + (IC2 + JC2)) = lr O1 O2 H1 H2 IA1 IA2 (IB1 + IC1) (IB2 + IC2) + lr O1 O2 H1 H2 JA1 JA2 (JB1 + JC1) (JB2 + JC2) := by
    unfold lr; grind
  have vla1 := q8_to vla1 (show _ = lr O1 O2 H1 H2 IA1 IA2 (IB1 + IC1) (IB2 + IC2) by rw [eba1, Int.add_sub_cancel])
  have vba1 := q8_to vba1 eba1
  have eba2 : li O1 O2 H1 H2 (IA1 + JA1) (IA2 + JA2) (IB1 + JB1 + (IC1 + JC1)) (IB2 + JB2 + (IC2 + JC2)) = li O1 O2 H1 H2 IA1 IA2 (IB1 + IC1) (IB2 + IC2) + li O1 O2 H1 H2 JA1 JA2 (JB1 + JC1) (JB2 + JC2) := by
    unfold li; grind
  have vla2 := q8_to vla2 (show _ = li O1 O2 H1 H2 IA1 IA2 (IB1 + IC1) (IB2 + IC2) by rw [eba2, Int.add_sub_cancel])
  have vba2 := q8_to vba2 eba2
  have ebb1 : lr O1 O2 H1 H2 (IB1 + JB1) (IB2 + JB2) (IC1 + JC1 + (IA1 + JA1)) (IC2 + JC2 + (IA2 + JA2)) = lr O1 O2 H1 H2 IB1 IB2 (IC1 + IA1) (IC2 + IA2) + lr O1 O2 H1 H2 JB1 JB2 (JC1 + JA1) (JC2 + JA2) := by
    unfold lr; grind
  have vlb1 := q8_to vlb1 (show _ = lr O1 O2 H1 H2 IB1 IB2 (IC1 + IA1) (IC2 + IA2) by rw [ebb1, Int.add_sub_cancel])
  have vbb1 := q8_to vbb1 ebb1
  have ebb2 : li O1 O2 H1 H2 (IB1 + JB1) (IB2 + JB2) (IC1 + JC1 + (IA1 + JA1)) (IC2 + JC2 + (IA2 + JA2)) = li O1 O2 H1 H2 IB1 IB2 (IC1 + IA1) (IC2 + IA2) + li O1 O2 H1 H2 JB1 JB2 (JC1 + JA1) (JC2 + JA2) := by
    unfold li; grind
  have vlb2 := q8_to vlb2 (show _ = li O1 O2 H1 H2 IB1 IB2 (IC1 + IA1) (IC2 + IA2) by rw [ebb2, Int.add_sub_cancel])
  have vbb2 := q8_to vbb2 ebb2
  have ebc1 : lr O1 O2 H1 H2 (IC1 + JC1) (IC2 + JC2) (IA1 + JA1 + (IB1 + JB1)) (IA2 + JA2 + (IB2 + JB2)) = lr O1 O2 H1 H2 IC1 IC2 (IA1 + IB1) (IA2 + IB2) + lr O1 O2 H1 H2 JC1 JC2 (JA1 + JB1) (JA2 + JB2) := by
    unfold lr; grind
  have vlc1 := q8_to vlc1 (show _ = lr O1 O2 H1 H2 IC1 IC2 (IA1 + IB1) (IA2 + IB2) by rw [ebc1, Int.add_sub_cancel])
  have vbc1 := q8_to vbc1 ebc1
  have ebc2 : li O1 O2 H1 H2 (IC1 + JC1) (IC2 + JC2) (IA1 + JA1 + (IB1 + JB1)) (IA2 + JA2 + (IB2 + JB2)) = li O1 O2 H1 H2 IC1 IC2 (IA1 + IB1) (IA2 + IB2) + li O1 O2 H1 H2 JC1 JC2 (JA1 + JB1) (JA2 + JB2) := by
    unfold li; grind
  have vlc2 := q8_to vlc2 (show _ = li O1 O2 H1 H2 IC1 IC2 (IA1 + IB1) (IA2 + IB2) by rw [ebc2, Int.add_sub_cancel])
  have vbc2 := q8_to vbc2 ebc2
  obtain ⟨da1, da2, db1, db2, dc1, dc2, vda1, vda2, vdb1, vdb2, vdc1, vdc2, gd⟩ := scalepx via1 via2 vib1 vib2 vic1 vic2 (ib_16 kia1) (ib_16 kia2) (ib_16 kib1) (ib_16 kib2) (ib_16 kic1) (ib_16 kic2)
  obtain ⟨ea1, ea2, eb1, eb2, ec1, ec2, vea1, vea2, veb1, veb2, vec1, vec2, ge⟩ := addpx via1 via2 vib1 vib2 vic1 vic2 via1 via2 vib1 vib2 vic1 vic2 (ib_16 kia1) (ib_16 kia2) (ib_16 kib1) (ib_16 kib2) (ib_16 kic1) (ib_16 kic2) (ib_16 kia1) (ib_16 kia2) (ib_16 kib1) (ib_16 kib2) (ib_16 kic1) (ib_16 kic2)
  have vda1 := q8_to vda1 (show _ = 16 * IA1 + 16 * IA1 by omega)
  have vda2 := q8_to vda2 (show _ = 16 * IA2 + 16 * IA2 by omega)
  have vdb1 := q8_to vdb1 (show _ = 16 * IB1 + 16 * IB1 by omega)
  have vdb2 := q8_to vdb2 (show _ = 16 * IB2 + 16 * IB2 by omega)
  have vdc1 := q8_to vdc1 (show _ = 16 * IC1 + 16 * IC1 by omega)
  have vdc2 := q8_to vdc2 (show _ = 16 * IC2 + 16 * IC2 by omega)
  have nq1 := neqx vba1 vba2 vbb1 vbb2 vbc1 vbc2 vua1 vua2 vub1 vub2 vuc1 vuc2
  have nq2 := neqx vla1 vla2 vlb1 vlb2 vlc1 vlc2 vxa1 vxa2 vxb1 vxb2 vxc1 vxc2
  have nq3 := neqx vda1 vda2 vdb1 vdb2 vdc1 vdc2 vea1 vea2 veb1 veb2 vec1 vec2
  obtain ⟨q1, s1, vq1⟩ := q8_add vl1 vm1 (by unfold IB at *; omega)
  obtain ⟨r1, t1, vr1⟩ := q8_add vq1 vn1 (by unfold IB at *; omega)
  obtain ⟨q2, s2, vq2⟩ := q8_add vl2 vm2 (by unfold IB at *; omega)
  obtain ⟨r2, t2, vr2⟩ := q8_add vq2 vn2 (by unfold IB at *; omega)
  have gz := fun w => takes_calls 0 K 0 0 0 0 0 0 0 0 0 0 0 1090519040 0 1090519040 0 1090519040 0 0 0 0 0 0 0 w
    (fun p w _ => load_zero 0 0 1090519040 0 p w (by decide +kernel)) (fun p w _ => load_zero 0 0 1090519040 0 p w (by decide +kernel)) (fun p w _ => load_zero 0 0 1090519040 0 p w (by decide +kernel))
  have k8 : IB 2048 2048 := by unfold IB; omega
  have k0 : IB 2048 0 := by unfold IB; omega
  have kn : IB 2048 (-2048) := by unfold IB; omega
  rcases hK with rfl | rfl | rfl
  · obtain ⟨ta1, ta2, vta1, vta2, c1⟩ := take0 (k1 := 2 * L1) (k2 := 2 * L2) vl1 vl2 q8_eight q8_zero kl1 kl2 k8 k0 (by decide) (by omega) (by omega)
    obtain ⟨tb1, tb2, vtb1, vtb2, c2⟩ := take0 (k1 := 2 * M2) (k2 := -(2 * M1)) vm1 vm2 q8_zero q8_eight km1 km2 k0 k8 (by decide) (by omega) (by omega)
    obtain ⟨tc1, tc2, vtc1, vtc2, c3⟩ := take0 (k1 := -(2 * N1)) (k2 := -(2 * N2)) vn1 vn2 q8_neight q8_zero kn1 kn2 kn k0 (by decide) (by omega) (by omega)
    obtain ⟨p1, p2, vp1, vp2, gp⟩ := pow0 vta1 vta2 vtb1 vtb2 vtc1 vtc2 kl1 kl2 km1 km2 kn1 kn2
    obtain ⟨d, ⟨D, vd, kd⟩, ga⟩ := apartv vp1 vp2 vr1 vr2 (ap_self _) (ap_self _)
    exact drops_calls0 v1 v2 _ _ _ _ _ _ _ _ _ _ _ _ _ _ _ _ _ _ _ _ _ _ _ _ _ _ _ _ _ _ _ _ _ _ _ _ _ _ _ _ _ _ _ _ _ _ _ _ _ _ _ _ _ _ _ _ _ _ _ _ _ _ _ _ _ _ _ _ _ _ _ _ _ _ _ _ _ _ _ _ _ _ d w f5 fo fh fk fl fi fj gs gb gx gy gu gl gd ge nq1 nq2 nq3 (fun w => takes_calls 0 0 0 o1 o2 h1 h2 l1 l2 m1 m2 n1 n2 1090519040 0 0 1090519040 3238002688 0 ta1 ta2 tb1 tb2 tc1 tc2 w c1 c2 c3) gz gp s1 t1 s2 t2 ga (is_lss vd (by grind))
  · obtain ⟨ta1, ta2, vta1, vta2, c1⟩ := take1 1090519040 0 vl1 vl2
    obtain ⟨tb1, tb2, vtb1, vtb2, c2⟩ := take1 0 1090519040 vm1 vm2
    obtain ⟨tc1, tc2, vtc1, vtc2, c3⟩ := take1 3238002688 0 vn1 vn2
    obtain ⟨p1, p2, gp⟩ := powb vta1 vta2 vtb1 vtb2 vtc1 vtc2 (bd_q8 kl1) (bd_q8 kl2) (bd_q8 km1) (bd_q8 km2) (bd_q8 kn1) (bd_q8 kn2)
    exact drops_calls1 v1 v2 _ _ _ _ _ _ _ _ _ _ _ _ _ _ _ _ _ _ _ _ _ _ _ _ _ _ _ _ _ _ _ _ _ _ _ _ _ _ _ _ _ _ _ _ _ _ _ _ _ _ _ _ _ _ _ _ _ _ _ _ _ _ _ _ _ _ _ _ _ _ _ _ _ _ _ _ _ _ _ _ _ _ w f5 fo fh fk fl fi fj gs gb gx gy gu gl gd ge nq1 nq2 nq3 (fun w => takes_calls 0 1 0 o1 o2 h1 h2 l1 l2 m1 m2 n1 n2 1090519040 0 0 1090519040 3238002688 0 ta1 ta2 tb1 tb2 tc1 tc2 w c1 c2 c3) gz gp s1 t1 s2 t2 (neqx vta1 vta2 vtb1 vtb2 vtc1 vtc2 vl1 vl2 vm1 vm2 vn1 vn2)
  · obtain ⟨ta1, ta2, TA1, TA2, vta1, vta2, ka1, ka2, c1⟩ := take2 vl1 vl2 q8_eight q8_zero kl1 kl2 k8 k0
    obtain ⟨tb1, tb2, TB1, TB2, vtb1, vtb2, kb1, kb2, c2⟩ := take2 vm1 vm2 q8_zero q8_eight km1 km2 k0 k8
    obtain ⟨tc1, tc2, TC1, TC2, vtc1, vtc2, kc1, kc2, c3⟩ := take2 vn1 vn2 q8_neight q8_zero kn1 kn2 kn k0
    obtain ⟨p1, p2, gp⟩ := powb vta1 vta2 vtb1 vtb2 vtc1 vtc2 ka1 ka2 kb1 kb2 kc1 kc2
    exact drops_calls2 v1 v2 _ _ _ _ _ _ _ _ _ _ _ _ _ _ _ _ _ _ _ _ _ _ _ _ _ _ _ _ _ _ _ _ _ _ _ _ _ _ _ _ _ _ _ _ _ _ _ _ _ _ _ _ _ _ _ _ _ _ _ _ _ _ _ _ _ _ _ _ _ _ _ _ _ _ _ _ _ _ _ _ _ _ w f5 fo fh fk fl fi fj gs gb gx gy gu gl gd ge nq1 nq2 nq3 (fun w => takes_calls 0 2 0 o1 o2 h1 h2 l1 l2 m1 m2 n1 n2 1090519040 0 0 1090519040 3238002688 0 ta1 ta2 tb1 tb2 tc1 tc2 w c1 c2 c3) gz gp s1 t1 s2 t2

theorem ib_a (bs : List Nat) (k : Nat) : IB 16 (numA bs k) := numA_bd bs k
theorem ib_b (bs : List Nat) (hb : ∀ x ∈ bs, x < 256) (k : Nat) : IB 16 (numB bs k) := by
  have := numB_bd bs hb k
  unfold IB; omega
theorem q8_a (bs : List Nat) (k : Nat) : Q8 (fdiv (numA bs k)) (16 * numA bs k) := num_q8 _ (numA_bd bs k).1 (numA_bd bs k).2
theorem q8_b (bs : List Nat) (hb : ∀ x ∈ bs, x < 256) (k : Nat) : Q8 (fdiv (numB bs k)) (16 * numB bs k) := by
  have := numB_bd bs hb k
  exact num_q8 _ (by omega) (by omega)

/-- THE LAW: whatever the bytes, at most 48 of each, it returns true. -/
theorem drops_true (v1 v2 : Value) (bs bt : List Nat) (w : World) (h1 : Bytes w v1 bs) (h2 : Bytes w v2 bt)
    (f5 : ∀ w', Ext w w' → Calls Try.prog 5 #[v1, v2] w' fun e w'' => e = .returned (.bool false) ∧ w'' = w') :
    Calls Try.prog 4 #[v1, v2] w fun e w' => e = .returned (.bool true) ∧ Ext w w' := by
  have hs := h1.2.1
  have ht := h2.2.1
  exact drops_core v1 v2 (kindOf_bd bs) w
    (q8_a bs 0) (q8_b bs hs 0) (ib_a bs 0) (ib_b bs hs 0)
    (q8_a bs 1) (q8_b bs hs 1) (ib_a bs 1) (ib_b bs hs 1)
    (q8_a bs 3) (q8_b bs hs 3) (ib_a bs 3) (ib_b bs hs 3)
    (q8_a bs (3 + 1)) (q8_b bs hs (3 + 1)) (ib_a bs (3 + 1)) (ib_b bs hs (3 + 1))
    (q8_a bs (3 + 2)) (q8_b bs hs (3 + 2)) (ib_a bs (3 + 2)) (ib_b bs hs (3 + 2))
    (q8_a bt 0) (q8_b bt ht 0) (ib_a bt 0) (ib_b bt ht 0)
    (q8_a bt (0 + 1)) (q8_b bt ht (0 + 1)) (ib_a bt (0 + 1)) (ib_b bt ht (0 + 1))
    (q8_a bt (0 + 2)) (q8_b bt ht (0 + 2)) (ib_a bt (0 + 2)) (ib_b bt ht (0 + 2))
    (q8_a bt 3) (q8_b bt ht 3) (ib_a bt 3) (ib_b bt ht 3)
    (q8_a bt (3 + 1)) (q8_b bt ht (3 + 1)) (ib_a bt (3 + 1)) (ib_b bt ht (3 + 1))
    (q8_a bt (3 + 2)) (q8_b bt ht (3 + 2)) (ib_a bt (3 + 2)) (ib_b bt ht (3 + 2))
    f5
    (fun w' he => number_any v1 bs 0 0 w' (h1.ext he) rfl)
    (fun w' he => number_any v1 bs 1 1 w' (h1.ext he) rfl)
    (fun w' he => at_any v1 bs w' (h1.ext he))
    (fun w' he => phas_calls v1 bs 3 w' (h1.ext he) (by omega))
    (fun w' he => phas_calls v2 bt 0 w' (h2.ext he) (by omega))
    (fun w' he => phas_calls v2 bt 3 w' (h2.ext he) (by omega))
end Go.Proofs.Ytacigddenamphaa
