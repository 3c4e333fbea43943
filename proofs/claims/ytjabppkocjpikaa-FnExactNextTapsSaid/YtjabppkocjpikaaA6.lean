/- The walk over the reference's comparison of slices of taps. -/
import Derived.Test.YtjabppkocjpikaaA5
namespace Go.Proofs.Ytjabppkocjpikaa
open Go.RowKit

set_option maxHeartbeats 16000000 in
theorem spec_calls (a a' : Option Addr) (cap cap' : Nat) (ts us : List Tp) (w : World) (hn : ts.length ≤ 1048576) (h1 : TapsAt w a ts) (h2 : TapsAt w a' us)
    (hw : ∀ t ∈ ts, t.each < 4294967296) (hw' : ∀ t ∈ us, t.each < 4294967296) :
    Calls Try.prog 12 #[.slice a ts.length cap, .slice a' us.length cap'] w fun e w' => e = .returned (.bool (sameAll ts us)) ∧ Ext w w' := by
  by_cases hl : ts.length = us.length
  · obtain ⟨n, hn0⟩ : ∃ n, ts.length = n := ⟨_, rfl⟩
    rw [← hl, hn0]
    rw [hn0] at hn
    go_enter Try.func12, Try.ntmps12
    go_wp2_with fail
    go_loopw [13] (fun i wr => ∃ k : Nat, i = .int .i64 k ∧ k ≤ n ∧ Ext w wr ∧ ∀ (i : Nat) (t u : Tp), i < k → ts[i]? = some t → us[i]? = some u → t.same u = true) (fun i _ => (n - (intOf i)).toNat)
    case atStart => exact ⟨0, rfl, Nat.zero_le _, Ext.refl _, fun i t u hi => absurd hi (Nat.not_lt_zero _)⟩
    case round =>
      obtain ⟨k, rfl, hk, he, hs⟩ := hrel
      by_cases hlt : k < n
      · obtain ⟨b, off, t, rfl, ht, a1, a2, a3, a4, a5⟩ := (h1.ext he).at_ (hn0 ▸ hlt)
        obtain ⟨b', off', u, rfl, hu, b1, b2, b3, b4, b5⟩ := (h2.ext he).at_ (by omega : k < us.length)
        have wt := hw t (List.mem_of_getElem? ht)
        have wu := hw' u (List.mem_of_getElem? hu)
        have A1 := xw_cell a1; have A2 := xw_cell a2; have A3 := xw_cell a3; have A4 := xw_cell a4; have A5 := xw_cell a5
        have B1 := xw_cell b1; have B2 := xw_cell b2; have B3 := xw_cell b3; have B4 := xw_cell b4; have B5 := xw_cell b5
        clear h1 h2 a1 a2 a3 a4 a5 b1 b2 b3 b4 b5
        cases d_bus : (t.bus != u.bus)
        · cases d_a : (t.a != u.a)
          · cases d_b : (t.b != u.b)
            · cases d_c : (t.c != u.c)
              · cases d : sm t.each u.each
                · go_wp2_with fail
                  refine wp_region_xw_all (by kernel_rfl) (by kernel_rfl) ?_
                  repeat (go_big_quiet_step ((go_at_call 16; (with_reducible exact call_same (lsame_calls _ _ _ wt wu)))))
                  refine wpQuiet_nil ?_
                  intro W' hW'
                  have hE := he.trans hW'
                  clear A1 A2 A3 A4 A5 B1 B2 B3 B4 B5 hW' he
                  go_wp2
                  go_ret
                  exact ⟨by rw [sameAll_false (fun h => by have := h.2 k t u ht hu; unfold Tp.same at this; simp_all)]; rfl, hE⟩
                · go_wp2_with fail
                  refine wp_region_xw_all (by kernel_rfl) (by kernel_rfl) ?_
                  repeat (go_big_quiet_step ((go_at_call 16; (with_reducible exact call_same (lsame_calls _ _ _ wt wu)))))
                  refine wpQuiet_nil ?_
                  intro W' hW'
                  have hE := he.trans hW'
                  clear A1 A2 A3 A4 A5 B1 B2 B3 B4 B5 hW' he
                  go_wp2
                  go_roundw
                  case rel =>
                    refine ⟨k + 1, by simp, by omega, hE, fun i t' u' hi ht' hu' => ?_⟩
                    by_cases hik : i = k
                    · subst hik
                      rw [ht] at ht'; rw [hu] at hu'
                      injection ht' with e1; injection hu' with e2
                      rw [← e1, ← e2]; unfold Tp.same; simp_all
                    · exact hs i t' u' (by omega) ht' hu'
                  case measure => simp [intOf]; omega
              · go_wp2_with fail
                refine wp_region_xw_all (by kernel_rfl) (by kernel_rfl) ?_
                repeat (go_big_quiet_step ((go_at_call 16; (with_reducible exact call_same (lsame_calls _ _ _ wt wu)))))
                refine wpQuiet_nil ?_
                intro W' hW'
                have hE := he.trans hW'
                clear A1 A2 A3 A4 A5 B1 B2 B3 B4 B5 hW' he
                go_wp2
                go_ret
                exact ⟨by rw [sameAll_false (fun h => by have := h.2 k t u ht hu; unfold Tp.same at this; simp_all)]; rfl, hE⟩
            · go_wp2_with fail
              refine wp_region_xw_all (by kernel_rfl) (by kernel_rfl) ?_
              repeat (go_big_quiet_step ((go_at_call 16; (with_reducible exact call_same (lsame_calls _ _ _ wt wu)))))
              refine wpQuiet_nil ?_
              intro W' hW'
              have hE := he.trans hW'
              clear A1 A2 A3 A4 A5 B1 B2 B3 B4 B5 hW' he
              go_wp2
              go_ret
              exact ⟨by rw [sameAll_false (fun h => by have := h.2 k t u ht hu; unfold Tp.same at this; simp_all)]; rfl, hE⟩
          · go_wp2_with fail
            refine wp_region_xw_all (by kernel_rfl) (by kernel_rfl) ?_
            repeat (go_big_quiet_step ((go_at_call 16; (with_reducible exact call_same (lsame_calls _ _ _ wt wu)))))
            refine wpQuiet_nil ?_
            intro W' hW'
            have hE := he.trans hW'
            clear A1 A2 A3 A4 A5 B1 B2 B3 B4 B5 hW' he
            go_wp2
            go_ret
            exact ⟨by rw [sameAll_false (fun h => by have := h.2 k t u ht hu; unfold Tp.same at this; simp_all)]; rfl, hE⟩
        · go_wp2_with fail
          refine wp_region_xw_all (by kernel_rfl) (by kernel_rfl) ?_
          repeat (go_big_quiet_step ((go_at_call 16; (with_reducible exact call_same (lsame_calls _ _ _ wt wu)))))
          refine wpQuiet_nil ?_
          intro W' hW'
          have hE := he.trans hW'
          clear A1 A2 A3 A4 A5 B1 B2 B3 B4 B5 hW' he
          go_wp2
          go_ret
          exact ⟨by rw [sameAll_false (fun h => by have := h.2 k t u ht hu; unfold Tp.same at this; simp_all)]; rfl, hE⟩
      · go_wp2
        go_ret
        have hkn : k = n := by omega
        exact ⟨by rw [sameAll_true ⟨hl, fun i t u ht hu => hs i t u (by have := (List.getElem?_eq_some_iff.1 ht).1; omega) ht hu⟩]; rfl, he⟩
  · have hl2 : ¬ ((ts.length : Int) = us.length) := by omega
    go_enter Try.func12, Try.ntmps12
    go_wp2
    go_ret
    exact ⟨by rw [sameAll_false (fun h => hl h.1)]; rfl, Ext.refl _⟩
end Go.Proofs.Ytjabppkocjpikaa
