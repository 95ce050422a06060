/- step of layer 19: a use of a table and of the reference's: they tell the same; what makes both. -/
import Derived.Test.YtjipjhmcpjffcabTab
set_option linter.unusedSimpArgs false
set_option linter.unusedVariables false
namespace Go.Proofs.Ytjipjhmcpjffcab
open Go Go.RowKit Go.Maps

def cl (v : Int) : Int := min (max v 1) 4
theorem cl_b (v : Int) : 1 ≤ cl v ∧ cl v ≤ 4 := by unfold cl; omega

theorem Scope.box_cl {S : List Nat} {w0 w : World} {As : List HA} (h : Scope S w0 w As) {m : Nat} {a b x y : Int} {t : TypeId} (hx : x = cl a) (hy : y = cl b) :
    Scope S w0 (w.alloc (.cells #[ptr m, .int .i64 x, .int .i64 y] t)) (As ++ [Go.Proofs.Ytjipjhmcpjffcab.box w.heap.size [ptr m, .int .i64 (cl a), .int .i64 (cl b)] t]) := by
  subst hx; subst hy
  exact h.box [ptr m, .int .i64 (cl a), .int .i64 (cl b)] t
/-- A new table. -/
def NewTab (S : List Nat) (w0 : World) (As : List HA) (m : Nat) (a b : Int) (e : Ending) (w' : World) : Prop := ∃ p, e = .returned (ptr p) ∧ Scope S w0 w' (As ++ [box p [ptr m, .int .i64 (cl a), .int .i64 (cl b)] 71])
theorem tnew_scope {S : List Nat} {w0 w : World} {As : List HA} (h : Scope S w0 w As) (m : Nat) (a b : Int) : Calls Try.prog 26 #[ptr m, .int .i64 a, .int .i64 b] w (NewTab S w0 As m a b) := by
  have H0 := Lib.hid h
  clear h
  go_enter Try.func26, Try.ntmps26
  go_wp2
  all_goals (go_ret; exact ⟨_, rfl, H0.out.box_cl (by unfold cl; omega) (by unfold cl; omega)⟩)
def NewRTab (S : List Nat) (w0 : World) (As : List HA) (x : Nat) (a b : Int) (e : Ending) (w' : World) : Prop := ∃ q, e = .returned (ptr q) ∧ Scope S w0 w' (As ++ [box q [ptr x, .int .i64 (cl a), .int .i64 (cl b)] 32])
theorem rtnew_scope {S : List Nat} {w0 w : World} {As : List HA} (h : Scope S w0 w As) (x : Nat) (a b : Int) : Calls Try.prog 27 #[ptr x, .int .i64 a, .int .i64 b] w (NewRTab S w0 As x a b) := by
  have H0 := Lib.hid h
  clear h
  go_enter Try.func27, Try.ntmps27
  go_wp2
  all_goals (go_ret; exact ⟨_, rfl, H0.out.box_cl (by unfold cl; omega) (by unfold cl; omega)⟩)

def mshard (a b : Int) : Int := if 0 < mod a 4 then mod a 6 else a
def mslots (a b : Int) : Int := if 0 < mod a 4 then mod b 6 else b
/-- Both, over new memories. -/
def Made19 (S : List Nat) (w0 : World) (As : List HA) (sh sl : Int) (e : Ending) (w' : World) : Prop :=
  ∃ m p q x, e = .returned (.tuple #[ptr m, ptr p, ptr q]) ∧ Scope S w0 w' (tabA p m sh sl MS.zero :: rtabA q x 0 sh sl MS.zero :: As)
theorem made19_end {S : List Nat} {w0 w : World} {As : List HA} {M T R B : HA} (h : Scope S w0 w (([M] ++ As ++ [T]) ++ [R] ++ [B])) : Scope S w0 w (stars [M, T] :: stars [R, B] :: As) := by
  have h1 : Scope S w0 w ([M] ++ (As ++ ([T, R, B] ++ []))) := by simpa using h
  have h2 : Scope S w0 w (As ++ ([M] ++ [T, R, B])) := by simpa using h1.swap
  have h3 : Scope S w0 w ([M, T, R, B] ++ (As ++ [])) := by
    have : Scope S w0 w (As ++ ([M, T, R, B] ++ [])) := by simpa using h2
    exact this.swap
  have h4 : Scope S w0 w ([M, T] ++ ([R, B] ++ As)) := by simpa using h3
  have h5 : Scope S w0 w ([stars [M, T]] ++ ([R, B] ++ (As ++ []))) := by simpa using h4.shut1
  have h6 : Scope S w0 w ([R, B] ++ ([stars [M, T]] ++ (As ++ []))) := h5.swap
  have h7 : Scope S w0 w ([stars [R, B]] ++ ([stars [M, T]] ++ (As ++ []))) := by simpa using h6.shut1
  simpa using h7.swap
theorem made19_scope {S : List Nat} {w0 w : World} {As : List HA} (h : Scope S w0 w As) (a b : Int) : Calls Try.prog 9 #[.int .i64 a, .int .i64 b] w (Made19 S w0 As (cl (mshard a b)) (cl (mslots a b))) := by
  have hm := mod_lt a (n := 4) (by omega)
  have H0 := Lib.hid h
  clear h
  by_cases c : 0 < mod a 4
  · rw [show mshard a b = mod a 6 from if_pos c, show mslots a b = mod b 6 from if_pos c]
    go_enter Try.func9, Try.ntmps9
    go_wp2_with fail
    refine (mod_any (v := a) (n := 4) (by omega) (by omega) _).mono ?_
    rintro e w1 ⟨rfl, rfl⟩
    go_wp2_with fail
    refine (mod_any (v := a) (n := 6) (by omega) (by omega) _).mono ?_
    rintro e w1 ⟨rfl, rfl⟩
    go_wp2_with fail
    refine (mod_any (v := b) (n := 6) (by omega) (by omega) _).mono ?_
    rintro e w1 ⟨rfl, rfl⟩
    go_wp2_with fail
    refine (new_scope H0.out).mono ?_
    rintro e w1 ⟨m, rfl, s1⟩
    have S1 := Lib.hid s1
    clear s1
    go_wp2_with fail
    refine (tnew_scope S1.out m _ _).mono ?_
    rintro e w2 ⟨p, rfl, s2⟩
    have S2 := Lib.hid (ref_new s2)
    clear s2
    go_wp2_with fail
    refine (rtnew_scope S2.out _ _ _).mono ?_
    rintro e w3 ⟨q, rfl, s3⟩
    have S3 := Lib.hid s3
    clear s3
    go_wp2
    go_ret3
    exact ⟨m, p, q, _, rfl, made19_end S3.out⟩
  · rw [show mshard a b = a from if_neg c, show mslots a b = b from if_neg c]
    go_enter Try.func9, Try.ntmps9
    go_wp2_with fail
    refine (mod_any (v := a) (n := 4) (by omega) (by omega) _).mono ?_
    rintro e w1 ⟨rfl, rfl⟩
    go_wp2_with fail
    refine (new_scope H0.out).mono ?_
    rintro e w1 ⟨m, rfl, s1⟩
    have S1 := Lib.hid s1
    clear s1
    go_wp2_with fail
    refine (tnew_scope S1.out m _ _).mono ?_
    rintro e w2 ⟨p, rfl, s2⟩
    have S2 := Lib.hid (ref_new s2)
    clear s2
    go_wp2_with fail
    refine (rtnew_scope S2.out _ _ _).mono ?_
    rintro e w3 ⟨q, rfl, s3⟩
    have S3 := Lib.hid s3
    clear s3
    go_wp2
    go_ret3
    exact ⟨m, p, q, _, rfl, made19_end S3.out⟩
end Go.Proofs.Ytjipjhmcpjffcab
