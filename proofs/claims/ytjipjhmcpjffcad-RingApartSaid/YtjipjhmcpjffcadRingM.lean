/- Both rings over new memories. -/
import Derived.Test.YtjipjhmcpjffcadRingA
set_option linter.unusedSimpArgs false
set_option linter.unusedVariables false
set_option maxRecDepth 20000
namespace Go.Proofs.Ytjipjhmcpjffcad
open Go Go.RowKit Go.Maps

def rmost (a : Int) : Nat := cl8 (if 0 < mod a 5 then mod a 10 else a)
def Made17 (S : List Nat) (w0 : World) (As : List HA) (obj : Int) (l : Nat) (e : Ending) (w' : World) : Prop :=
  ∃ m p g q x g' cs, cs.length = l ∧ cs = zeros l ∧ e = .returned (.tuple #[ptr m, ptr p, ptr q]) ∧ Scope S w0 w' ([memA m MS.zero, rb p m obj g cs.length, gb g cs, refA x 0 MS.zero, rrb q x obj g' cs.length, gb g' cs] ++ As)
theorem made17_end {S : List Nat} {w0 w : World} {As : List HA} {M T G R B D : HA} (h : Scope S w0 w ((([M] ++ As) ++ [T, G]) ++ [R] ++ [B, D])) : Scope S w0 w ([M, T, G, R, B, D] ++ As) := by
  have h1 : Scope S w0 w ([M] ++ (As ++ ([T, G, R, B, D] ++ []))) := by simpa using h
  have h2 : Scope S w0 w (As ++ ([M] ++ [T, G, R, B, D])) := by simpa using h1.swap
  have h3 : Scope S w0 w (As ++ ([M, T, G, R, B, D] ++ [])) := by simpa using h2
  simpa using h3.swap
theorem made17_scope {S : List Nat} {w0 w : World} {As : List HA} (h : Scope S w0 w As) (obj most : Int) : Calls Try.prog 16 #[.int .i64 obj, .int .i64 most] w (Made17 S w0 As obj (rmost most)) := by
  have hm := mod_lt most (n := 5) (by omega)
  have H0 := Lib.hid h
  clear h
  by_cases c : 0 < mod most 5
  · rw [show rmost most = cl8 (mod most 10) by unfold rmost; rw [if_pos c]]
    go_enter Try.func16, Try.ntmps16
    go_wp2_with fail
    refine (mod_any (v := most) (n := 5) (by omega) (by omega) _).mono ?_
    rintro e w1 ⟨rfl, rfl⟩
    go_wp2_with fail
    refine (mod_any (v := most) (n := 10) (by omega) (by omega) _).mono ?_
    rintro e w1 ⟨rfl, rfl⟩
    go_wp2_with fail
    refine (new_scope H0.out).mono ?_
    rintro e w1 ⟨m, rfl, s1⟩
    have S1 := Lib.hid s1
    clear s1
    go_wp2_with fail
    refine (rnew_scope S1.out m _ _).mono ?_
    rintro e w2 ⟨p, g, rfl, s2⟩
    have S2 := Lib.hid (ref_new s2)
    clear s2
    go_wp2_with fail
    refine (rrnew_scope S2.out _ _ _).mono ?_
    rintro e w3 ⟨q, g', rfl, s3⟩
    have S3 := Lib.hid s3
    clear s3
    go_wp2
    go_ret3
    have s4 := made17_end S3.out
    obtain ⟨cs, hcs, hl⟩ : ∃ cs, cs = zeros (cl8 (mod most 10)) ∧ cs.length = cl8 (mod most 10) := ⟨_, rfl, zeros_length _⟩
    rw [← hcs, ← hl] at s4
    exact ⟨m, p, g, q, _, g', cs, hl, hcs, rfl, s4⟩
  · rw [show rmost most = cl8 most by unfold rmost; rw [if_neg c]]
    go_enter Try.func16, Try.ntmps16
    go_wp2_with fail
    refine (mod_any (v := most) (n := 5) (by omega) (by omega) _).mono ?_
    rintro e w1 ⟨rfl, rfl⟩
    go_wp2_with fail
    refine (new_scope H0.out).mono ?_
    rintro e w1 ⟨m, rfl, s1⟩
    have S1 := Lib.hid s1
    clear s1
    go_wp2_with fail
    refine (rnew_scope S1.out m _ _).mono ?_
    rintro e w2 ⟨p, g, rfl, s2⟩
    have S2 := Lib.hid (ref_new s2)
    clear s2
    go_wp2_with fail
    refine (rrnew_scope S2.out _ _ _).mono ?_
    rintro e w3 ⟨q, g', rfl, s3⟩
    have S3 := Lib.hid s3
    clear s3
    go_wp2
    go_ret3
    have s4 := made17_end S3.out
    obtain ⟨cs, hcs, hl⟩ : ∃ cs, cs = zeros (cl8 most) ∧ cs.length = cl8 most := ⟨_, rfl, zeros_length _⟩
    rw [← hcs, ← hl] at s4
    exact ⟨m, p, g, q, _, g', cs, hl, hcs, rfl, s4⟩
end Go.Proofs.Ytjipjhmcpjffcad
