/- InboxRaces: of two who push over one top only the first one does; the other one looks anew, and links anew, and then both are there. -/
import Derived.Test.YtjipjhmcpjffcaaInbT
set_option linter.unusedSimpArgs false
set_option linter.unusedVariables false
namespace Go.Proofs.Ytjipjhmcpjffcaa
open Go Go.RowKit Go.Maps

theorem sw_yes {σ : MS} {who : Int} {l : Lc} {was now : Int} (h : σ.num l = was) : σ.swap who l was now = (σ.put who 3 l).set l now := if_pos h
theorem sw_no {σ : MS} {who : Int} {l : Lc} {was now : Int} (h : ¬ σ.num l = was) : σ.swap who l was now = σ.put who 4 l := if_neg h
theorem objW_small {o : Int} (h0 : 0 ≤ o) (h1 : o ≤ 1000000) : objW o = o + 1 := by
  unfold objW
  rw [IntKind.wrap_u64, IntKind.wrap_u64]
  omega

set_option maxHeartbeats 8000000 in
set_option maxRecDepth 20000 in
theorem inboxRaces_row (a s c d : Int) (_ : I64 a) (hs : I64 s) (_ : I64 c) (_ : I64 d) (w : World) :
    Calls Try.prog 6 #[.int .i64 a, .int .i64 s, .int .i64 c, .int .i64 d] w fun e w' => e = .returned (.bool true) ∧ Below w.heap.size w w' := by
  have S0 := Lib.hid (Scope.empty w); have Hs := Lib.hid hs
  have a0 := (mod_lt c (n := 5000) (by omega)).1; have a1 := (mod_lt c (n := 5000) (by omega)).2
  have b0 := (mod_lt d (n := 5000) (by omega)).1; have b1 := (mod_lt d (n := 5000) (by omega)).2
  clear hs
  by_cases hE : mod c 5000 = mod d 5000
  · have E := Lib.hid hE
    clear hE b0 b1
    go_enter Try.func6, Try.ntmps6
    go_wp2_with fail
    refine (made18_scope S0.out a).mono ?_
    rintro e w1 ⟨m, p, b', q, x, rfl, s1⟩
    have S1 := Lib.hid s1
    clear s1
    generalize cl a = sh at S1 ⊢
    go_wp2_with fail
    refine (mod_any (v := c) (n := 5000) (by omega) (by omega) _).mono ?_
    rintro e w3 ⟨rfl, rfl⟩
    go_wp2_with fail
    refine (mod_any (v := d) (n := 5000) (by omega) (by omega) _).mono ?_
    rintro e w4 ⟨he, rfl⟩
    rw [← E.out] at he
    subst he
    clear E
    generalize mod c 5000 = A at a0 a1 ⊢
    have Ha := Lib.hid (show I64 A by unfold I64; omega); have Hb := Lib.hid (show I64 (A + 1) by unfold I64; omega)
    have Hne := Lib.hid (show A + 1 ≠ A by omega)
    have Oa := Lib.hid (objW_small a0 (by omega)); have Ob := Lib.hid (objW_small (o := A + 1) (by omega) (by omega))
    have bb0 : 0 ≤ A + 1 := by omega
    have bb1 : A + 1 ≤ 5000 := by omega
    go_wp2_with fail
    refine (awake18_scope S1.out).mono ?_
    rintro e w2 ⟨rfl, s2⟩
    have S2 := Lib.hid s2
    have l2 := Lib.hid (show MS.zero.log.length = 0 from rfl); have n2 := Lib.hid (show MS.zero.num (inbL s) = 0 from rfl)
    clear s2 S1
    go_wp2_with fail
    refine ((itop_does 0 s Hs.out (by rw [l2.out]; omega)).at0 S2.out).mono ?_
    rintro e w3 ⟨he, s3⟩
    rw [n2.out] at he
    subst he
    have l3 : (MS.zero.put 0 1 (inbL s)).log.length = 1 := by simp [MS.put, MS.set, l2.out]
    have n3 : (MS.zero.put 0 1 (inbL s)).num (inbL s) = 0 := n2.out
    generalize MS.zero.put 0 1 (inbL s) = σ3 at s3 l3 n3
    have l3 := Lib.hid l3; have n3 := Lib.hid n3
    have S3 := Lib.hid s3
    clear s3 S2
    go_wp2_with fail
    refine ((itop_does 1 s Hs.out (by rw [l3.out]; omega)).at0 S3.out).mono ?_
    rintro e w4 ⟨he, s4⟩
    rw [n3.out] at he
    subst he
    have l4 : (σ3.put 1 1 (inbL s)).log.length = 2 := by simp [MS.put, MS.set, l3.out]
    have n4 : (σ3.put 1 1 (inbL s)).num (inbL s) = 0 := n3.out
    generalize σ3.put 1 1 (inbL s) = σ4 at s4 l4 n4
    have l4 := Lib.hid l4; have n4 := Lib.hid n4
    have S4 := Lib.hid s4
    clear s4 S3
    go_wp2_with fail
    refine ((ilink_does 0 A 0 Ha.out (by rw [l4.out]; omega)).at0 S4.out).mono ?_
    rintro e w5 ⟨rfl, s5⟩
    have l5 : (σ4.put 0 6 (nxtL A)).log.length = 3 := by simp [MS.put, MS.set, l4.out]
    have n5 : (σ4.put 0 6 (nxtL A)).num (inbL s) = 0 := n4.out
    generalize σ4.put 0 6 (nxtL A) = σ5 at s5 l5 n5
    have l5 := Lib.hid l5; have n5 := Lib.hid n5
    have S5 := Lib.hid s5
    clear s5 S4
    go_wp2_with fail
    refine ((ilink_does 1 (A + 1) 0 Hb.out (by rw [l5.out]; omega)).at0 S5.out).mono ?_
    rintro e w6 ⟨rfl, s6⟩
    have l6 : (σ5.put 1 6 (nxtL (A + 1))).log.length = 4 := by simp [MS.put, MS.set, l5.out]
    have n6 : (σ5.put 1 6 (nxtL (A + 1))).num (inbL s) = 0 := n5.out
    generalize σ5.put 1 6 (nxtL (A + 1)) = σ6 at s6 l6 n6
    have l6 := Lib.hid l6; have n6 := Lib.hid n6
    have S6 := Lib.hid s6
    clear s6 S5
    go_wp2_with fail
    refine ((ipush_does 1 s 0 (A + 1) Hs.out (by rw [l6.out]; omega)).at0 S6.out).mono ?_
    rintro e w7 ⟨he, s7⟩
    rw [decide_eq_true n6.out] at he
    subst he
    rw [sw_yes n6.out, Ob.out] at s7
    have l7 : ((σ6.put 1 3 (inbL s)).set (inbL s) ((A + 1) + 1)).log.length = 5 := by simp [MS.put, MS.set, l6.out]
    have n7 : ((σ6.put 1 3 (inbL s)).set (inbL s) ((A + 1) + 1)).num (inbL s) = (A + 1) + 1 := by simp [MS.put, MS.set]
    generalize (σ6.put 1 3 (inbL s)).set (inbL s) ((A + 1) + 1) = σ7 at s7 l7 n7
    have l7 := Lib.hid l7; have n7 := Lib.hid n7
    have S7 := Lib.hid s7
    clear s7 S6
    go_wp2_with fail
    refine ((ipush_does 0 s 0 A Hs.out (by rw [l7.out]; omega)).at0 S7.out).mono ?_
    rintro e w8 ⟨he, s8⟩
    rw [decide_eq_false (by rw [n7.out]; omega)] at he
    subst he
    rw [sw_no (by rw [n7.out]; omega)] at s8
    have l8 : (σ7.put 0 4 (inbL s)).log.length = 6 := by simp [MS.put, MS.set, l7.out]
    have n8 : (σ7.put 0 4 (inbL s)).num (inbL s) = (A + 1) + 1 := n7.out
    generalize σ7.put 0 4 (inbL s) = σ8 at s8 l8 n8
    have l8 := Lib.hid l8; have n8 := Lib.hid n8
    have S8 := Lib.hid s8
    clear s8 S7
    go_wp2_with fail
    refine ((itop_does 0 s Hs.out (by rw [l8.out]; omega)).at0 S8.out).mono ?_
    rintro e w9 ⟨he, s9⟩
    rw [n8.out] at he
    subst he
    have l9 : (σ8.put 0 1 (inbL s)).log.length = 7 := by simp [MS.put, MS.set, l8.out]
    have n9 : (σ8.put 0 1 (inbL s)).num (inbL s) = (A + 1) + 1 := n8.out
    generalize σ8.put 0 1 (inbL s) = σ9 at s9 l9 n9
    have l9 := Lib.hid l9; have n9 := Lib.hid n9
    have S9 := Lib.hid s9
    clear s9 S8
    go_wp2_with fail
    refine ((ilink_does 0 A ((A + 1) + 1) Ha.out (by rw [l9.out]; omega)).at0 S9.out).mono ?_
    rintro e w10 ⟨rfl, s10⟩
    have l10 : (σ9.put 0 6 (nxtL A)).log.length = 8 := by simp [MS.put, MS.set, l9.out]
    have n10 : (σ9.put 0 6 (nxtL A)).num (inbL s) = (A + 1) + 1 := n9.out
    generalize σ9.put 0 6 (nxtL A) = σ10 at s10 l10 n10
    have l10 := Lib.hid l10; have n10 := Lib.hid n10
    have S10 := Lib.hid s10
    clear s10 S9
    go_wp2_with fail
    refine ((itop_does 0 s Hs.out (by rw [l10.out]; omega)).at0 S10.out).mono ?_
    rintro e w11 ⟨he, s11⟩
    rw [n10.out] at he
    subst he
    have l11 : (σ10.put 0 1 (inbL s)).log.length = 9 := by simp [MS.put, MS.set, l10.out]
    have n11 : (σ10.put 0 1 (inbL s)).num (inbL s) = (A + 1) + 1 := n10.out
    generalize σ10.put 0 1 (inbL s) = σ11 at s11 l11 n11
    have l11 := Lib.hid l11; have n11 := Lib.hid n11
    have S11 := Lib.hid s11
    clear s11 S10
    go_wp2_with fail
    refine ((ipush_does 0 s ((A + 1) + 1) A Hs.out (by rw [l11.out]; omega)).at0 S11.out).mono ?_
    rintro e w12 ⟨he, s12⟩
    rw [decide_eq_true n11.out] at he
    subst he
    rw [sw_yes n11.out, Oa.out] at s12
    have l12 : ((σ11.put 0 3 (inbL s)).set (inbL s) (A + 1)).log.length = 10 := by simp [MS.put, MS.set, l11.out]
    have n12 : ((σ11.put 0 3 (inbL s)).set (inbL s) (A + 1)).num (inbL s) = A + 1 := by simp [MS.put, MS.set]
    generalize (σ11.put 0 3 (inbL s)).set (inbL s) (A + 1) = σ12 at s12 l12 n12
    have l12 := Lib.hid l12; have n12 := Lib.hid n12
    have S12 := Lib.hid s12
    clear s12 S11
    go_wp2_with fail
    refine ((igrab_does 2 s Hs.out (by rw [l12.out]; omega)).at0 S12.out).mono ?_
    rintro e w13 ⟨he, s13⟩
    rw [n12.out] at he
    subst he
    have l13 : ((σ12.put 2 3 (inbL s)).set (inbL s) 0).log.length = 11 := by simp [MS.put, MS.set, l12.out]
    have n13 : ((σ12.put 2 3 (inbL s)).set (inbL s) 0).num (inbL s) = 0 := by simp [MS.put, MS.set]
    generalize (σ12.put 2 3 (inbL s)).set (inbL s) 0 = σ13 at s13 l13 n13
    have l13 := Lib.hid l13; have n13 := Lib.hid n13
    have S13 := Lib.hid s13
    clear s13 S12
    go_wp2_with fail
    refine ((inext_does 2 A Ha.out (by rw [l13.out]; omega)).at0 S13.out).mono ?_
    rintro e w14 ⟨he, s14⟩
    rw [show (nxset (nxset (nxset (fun _ => 0) A 0) (A + 1) 0) A ((A + 1) + 1)) A = (A + 1) + 1 from by simp [nxset]] at he
    subst he
    have l14 : (σ13.put 2 5 (nxtL A)).log.length = 12 := by simp [MS.put, MS.set, l13.out]
    have n14 : (σ13.put 2 5 (nxtL A)).num (inbL s) = 0 := n13.out
    generalize σ13.put 2 5 (nxtL A) = σ14 at s14 l14 n14
    have l14 := Lib.hid l14; have n14 := Lib.hid n14
    have S14 := Lib.hid s14
    clear s14 S13
    go_wp2_with fail
    refine ((inext_does 2 (A + 1) Hb.out (by rw [l14.out]; omega)).at0 S14.out).mono ?_
    rintro e w15 ⟨he, s15⟩
    rw [show (nxset (nxset (nxset (fun _ => 0) A 0) (A + 1) 0) A ((A + 1) + 1)) (A + 1) = 0 from by unfold nxset; rw [if_neg Hne.out, if_pos rfl]] at he
    subst he
    have l15 : (σ14.put 2 5 (nxtL (A + 1))).log.length = 13 := by simp [MS.put, MS.set, l14.out]
    have n15 : (σ14.put 2 5 (nxtL (A + 1))).num (inbL s) = 0 := n14.out
    generalize σ14.put 2 5 (nxtL (A + 1)) = σ15 at s15 l15 n15
    have l15 := Lib.hid l15; have n15 := Lib.hid n15
    have S15 := Lib.hid s15
    clear s15 S14
    go_wp2_with fail
    refine (len0 S15.out.open1 (by rw [l15.out]; omega)).mono ?_
    rintro e wl ⟨he, rfl⟩
    rw [l15.out] at he
    subst he
    go_wp2
    go_ret
    exact ⟨rfl, S15.out.below⟩
  · have E := Lib.hid hE
    clear hE
    go_enter Try.func6, Try.ntmps6
    go_wp2_with fail
    refine (made18_scope S0.out a).mono ?_
    rintro e w1 ⟨m, p, b', q, x, rfl, s1⟩
    have S1 := Lib.hid s1
    clear s1
    generalize cl a = sh at S1 ⊢
    go_wp2_with fail
    refine (mod_any (v := c) (n := 5000) (by omega) (by omega) _).mono ?_
    rintro e w3 ⟨rfl, rfl⟩
    go_wp2_with fail
    refine (mod_any (v := d) (n := 5000) (by omega) (by omega) _).mono ?_
    rintro e w4 ⟨he, rfl⟩
    subst he
    generalize mod c 5000 = A at a0 a1 E ⊢
    generalize mod d 5000 = B at b0 b1 E ⊢
    have Ha := Lib.hid (show I64 A by unfold I64; omega); have Hb := Lib.hid (show I64 B by unfold I64; omega)
    have Hne := Lib.hid (fun h : B = A => E.out h.symm)
    have ne : (A == B) = false := by simpa using E.out
    have Oa := Lib.hid (objW_small a0 (by omega)); have Ob := Lib.hid (objW_small b0 (by omega))
    go_wp2_with fail
    refine (awake18_scope S1.out).mono ?_
    rintro e w2 ⟨rfl, s2⟩
    have S2 := Lib.hid s2
    have l2 := Lib.hid (show MS.zero.log.length = 0 from rfl); have n2 := Lib.hid (show MS.zero.num (inbL s) = 0 from rfl)
    clear s2 S1
    go_wp2_with fail
    refine ((itop_does 0 s Hs.out (by rw [l2.out]; omega)).at0 S2.out).mono ?_
    rintro e w3 ⟨he, s3⟩
    rw [n2.out] at he
    subst he
    have l3 : (MS.zero.put 0 1 (inbL s)).log.length = 1 := by simp [MS.put, MS.set, l2.out]
    have n3 : (MS.zero.put 0 1 (inbL s)).num (inbL s) = 0 := n2.out
    generalize MS.zero.put 0 1 (inbL s) = σ3 at s3 l3 n3
    have l3 := Lib.hid l3; have n3 := Lib.hid n3
    have S3 := Lib.hid s3
    clear s3 S2
    go_wp2_with fail
    refine ((itop_does 1 s Hs.out (by rw [l3.out]; omega)).at0 S3.out).mono ?_
    rintro e w4 ⟨he, s4⟩
    rw [n3.out] at he
    subst he
    have l4 : (σ3.put 1 1 (inbL s)).log.length = 2 := by simp [MS.put, MS.set, l3.out]
    have n4 : (σ3.put 1 1 (inbL s)).num (inbL s) = 0 := n3.out
    generalize σ3.put 1 1 (inbL s) = σ4 at s4 l4 n4
    have l4 := Lib.hid l4; have n4 := Lib.hid n4
    have S4 := Lib.hid s4
    clear s4 S3
    go_wp2_with fail
    refine ((ilink_does 0 A 0 Ha.out (by rw [l4.out]; omega)).at0 S4.out).mono ?_
    rintro e w5 ⟨rfl, s5⟩
    have l5 : (σ4.put 0 6 (nxtL A)).log.length = 3 := by simp [MS.put, MS.set, l4.out]
    have n5 : (σ4.put 0 6 (nxtL A)).num (inbL s) = 0 := n4.out
    generalize σ4.put 0 6 (nxtL A) = σ5 at s5 l5 n5
    have l5 := Lib.hid l5; have n5 := Lib.hid n5
    have S5 := Lib.hid s5
    clear s5 S4
    go_wp2_with fail
    refine ((ilink_does 1 B 0 Hb.out (by rw [l5.out]; omega)).at0 S5.out).mono ?_
    rintro e w6 ⟨rfl, s6⟩
    have l6 : (σ5.put 1 6 (nxtL B)).log.length = 4 := by simp [MS.put, MS.set, l5.out]
    have n6 : (σ5.put 1 6 (nxtL B)).num (inbL s) = 0 := n5.out
    generalize σ5.put 1 6 (nxtL B) = σ6 at s6 l6 n6
    have l6 := Lib.hid l6; have n6 := Lib.hid n6
    have S6 := Lib.hid s6
    clear s6 S5
    go_wp2_with fail
    refine ((ipush_does 1 s 0 B Hs.out (by rw [l6.out]; omega)).at0 S6.out).mono ?_
    rintro e w7 ⟨he, s7⟩
    rw [decide_eq_true n6.out] at he
    subst he
    rw [sw_yes n6.out, Ob.out] at s7
    have l7 : ((σ6.put 1 3 (inbL s)).set (inbL s) (B + 1)).log.length = 5 := by simp [MS.put, MS.set, l6.out]
    have n7 : ((σ6.put 1 3 (inbL s)).set (inbL s) (B + 1)).num (inbL s) = B + 1 := by simp [MS.put, MS.set]
    generalize (σ6.put 1 3 (inbL s)).set (inbL s) (B + 1) = σ7 at s7 l7 n7
    have l7 := Lib.hid l7; have n7 := Lib.hid n7
    have S7 := Lib.hid s7
    clear s7 S6
    go_wp2_with fail
    refine ((ipush_does 0 s 0 A Hs.out (by rw [l7.out]; omega)).at0 S7.out).mono ?_
    rintro e w8 ⟨he, s8⟩
    rw [decide_eq_false (by rw [n7.out]; omega)] at he
    subst he
    rw [sw_no (by rw [n7.out]; omega)] at s8
    have l8 : (σ7.put 0 4 (inbL s)).log.length = 6 := by simp [MS.put, MS.set, l7.out]
    have n8 : (σ7.put 0 4 (inbL s)).num (inbL s) = B + 1 := n7.out
    generalize σ7.put 0 4 (inbL s) = σ8 at s8 l8 n8
    have l8 := Lib.hid l8; have n8 := Lib.hid n8
    have S8 := Lib.hid s8
    clear s8 S7
    go_wp2_with fail
    refine ((itop_does 0 s Hs.out (by rw [l8.out]; omega)).at0 S8.out).mono ?_
    rintro e w9 ⟨he, s9⟩
    rw [n8.out] at he
    subst he
    have l9 : (σ8.put 0 1 (inbL s)).log.length = 7 := by simp [MS.put, MS.set, l8.out]
    have n9 : (σ8.put 0 1 (inbL s)).num (inbL s) = B + 1 := n8.out
    generalize σ8.put 0 1 (inbL s) = σ9 at s9 l9 n9
    have l9 := Lib.hid l9; have n9 := Lib.hid n9
    have S9 := Lib.hid s9
    clear s9 S8
    go_wp2_with fail
    refine ((ilink_does 0 A (B + 1) Ha.out (by rw [l9.out]; omega)).at0 S9.out).mono ?_
    rintro e w10 ⟨rfl, s10⟩
    have l10 : (σ9.put 0 6 (nxtL A)).log.length = 8 := by simp [MS.put, MS.set, l9.out]
    have n10 : (σ9.put 0 6 (nxtL A)).num (inbL s) = B + 1 := n9.out
    generalize σ9.put 0 6 (nxtL A) = σ10 at s10 l10 n10
    have l10 := Lib.hid l10; have n10 := Lib.hid n10
    have S10 := Lib.hid s10
    clear s10 S9
    go_wp2_with fail
    refine ((itop_does 0 s Hs.out (by rw [l10.out]; omega)).at0 S10.out).mono ?_
    rintro e w11 ⟨he, s11⟩
    rw [n10.out] at he
    subst he
    have l11 : (σ10.put 0 1 (inbL s)).log.length = 9 := by simp [MS.put, MS.set, l10.out]
    have n11 : (σ10.put 0 1 (inbL s)).num (inbL s) = B + 1 := n10.out
    generalize σ10.put 0 1 (inbL s) = σ11 at s11 l11 n11
    have l11 := Lib.hid l11; have n11 := Lib.hid n11
    have S11 := Lib.hid s11
    clear s11 S10
    go_wp2_with fail
    refine ((ipush_does 0 s (B + 1) A Hs.out (by rw [l11.out]; omega)).at0 S11.out).mono ?_
    rintro e w12 ⟨he, s12⟩
    rw [decide_eq_true n11.out] at he
    subst he
    rw [sw_yes n11.out, Oa.out] at s12
    have l12 : ((σ11.put 0 3 (inbL s)).set (inbL s) (A + 1)).log.length = 10 := by simp [MS.put, MS.set, l11.out]
    have n12 : ((σ11.put 0 3 (inbL s)).set (inbL s) (A + 1)).num (inbL s) = A + 1 := by simp [MS.put, MS.set]
    generalize (σ11.put 0 3 (inbL s)).set (inbL s) (A + 1) = σ12 at s12 l12 n12
    have l12 := Lib.hid l12; have n12 := Lib.hid n12
    have S12 := Lib.hid s12
    clear s12 S11
    go_wp2_with fail
    refine ((igrab_does 2 s Hs.out (by rw [l12.out]; omega)).at0 S12.out).mono ?_
    rintro e w13 ⟨he, s13⟩
    rw [n12.out] at he
    subst he
    have l13 : ((σ12.put 2 3 (inbL s)).set (inbL s) 0).log.length = 11 := by simp [MS.put, MS.set, l12.out]
    have n13 : ((σ12.put 2 3 (inbL s)).set (inbL s) 0).num (inbL s) = 0 := by simp [MS.put, MS.set]
    generalize (σ12.put 2 3 (inbL s)).set (inbL s) 0 = σ13 at s13 l13 n13
    have l13 := Lib.hid l13; have n13 := Lib.hid n13
    have S13 := Lib.hid s13
    clear s13 S12
    go_wp2_with fail
    refine ((inext_does 2 A Ha.out (by rw [l13.out]; omega)).at0 S13.out).mono ?_
    rintro e w14 ⟨he, s14⟩
    rw [show (nxset (nxset (nxset (fun _ => 0) A 0) B 0) A (B + 1)) A = B + 1 from by simp [nxset]] at he
    subst he
    have l14 : (σ13.put 2 5 (nxtL A)).log.length = 12 := by simp [MS.put, MS.set, l13.out]
    have n14 : (σ13.put 2 5 (nxtL A)).num (inbL s) = 0 := n13.out
    generalize σ13.put 2 5 (nxtL A) = σ14 at s14 l14 n14
    have l14 := Lib.hid l14; have n14 := Lib.hid n14
    have S14 := Lib.hid s14
    clear s14 S13
    go_wp2_with fail
    refine ((inext_does 2 B Hb.out (by rw [l14.out]; omega)).at0 S14.out).mono ?_
    rintro e w15 ⟨he, s15⟩
    rw [show (nxset (nxset (nxset (fun _ => 0) A 0) B 0) A (B + 1)) B = 0 from by unfold nxset; rw [if_neg Hne.out, if_pos rfl]] at he
    subst he
    have l15 : (σ14.put 2 5 (nxtL B)).log.length = 13 := by simp [MS.put, MS.set, l14.out]
    have n15 : (σ14.put 2 5 (nxtL B)).num (inbL s) = 0 := n14.out
    generalize σ14.put 2 5 (nxtL B) = σ15 at s15 l15 n15
    have l15 := Lib.hid l15; have n15 := Lib.hid n15
    have S15 := Lib.hid s15
    clear s15 S14
    go_wp2_with fail
    refine (len0 S15.out.open1 (by rw [l15.out]; omega)).mono ?_
    rintro e wl ⟨he, rfl⟩
    rw [l15.out] at he
    subst he
    go_wp2
    go_ret
    exact ⟨rfl, S15.out.below⟩
end Go.Proofs.Ytjipjhmcpjffcaa
