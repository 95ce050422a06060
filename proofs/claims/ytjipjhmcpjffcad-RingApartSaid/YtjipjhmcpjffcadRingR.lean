/- The methods of the reference's ring. -/
import Derived.Test.YtjipjhmcpjffcadRingN
set_option linter.unusedSimpArgs false
set_option linter.unusedVariables false
set_option maxRecDepth 20000
namespace Go.Proofs.Ytjipjhmcpjffcad
open Go Go.RowKit Go.Maps
theorem rloc_pure (k a b : Int) : Pure Try.prog 31 #[.int .i64 k, .int .i64 a, .int .i64 b] (⟨k, a, b⟩ : Lc).val := fun w => by
  go_enter Try.func31, Try.ntmps31
  go_wp2
  exact bodyPost_ret (results_cell_row rfl _ _ w.heap.size 62 #[.int .i64 k, .int .i64 a, .int .i64 b] (0, 0) _ rfl (Row.new w [.int .i64 k, .int .i64 a, .int .i64 b] 62) Try.underlying62 rfl (by kernel_rfl)) rfl ⟨rfl, (Chg.refl _ _).alloc _⟩
theorem Scope.up0 {S : List Nat} {w0 w : World} {Bs : List HA} {p n n' : Nat} {σ : MS} (h : Scope S w0 w (refA p n σ :: Bs)) (hn : n ≤ n') : Scope S w0 w (refA p n' σ :: Bs) :=
  Scope.turn1 (B := refA p n' σ) h (fun _ _ ⟨kv, h1, h2⟩ => ⟨kv, Nat.le_trans h1 hn, h2⟩)
section
variable {q x' g n : Nat} {obj : Int} {σ : MS} {cs : List Pk}
set_option maxHeartbeats 1000000
theorem rrcell_does {x : Int} (hx : U64 x) (l : Nat) (h0 : 0 < l) (h1 : l ≤ 1000) : Does Try.prog [rrb q x' obj g l] 73 #[ptr q, .int .u64 x] (.int .i64 (ix x l : Nat)) [rrb q x' obj g l] := Does.of_scope fun S w0 w h => by
  have c1 : w.cell? ⟨q, 2, none⟩ = some (.int .i64 l) := (h.row 0 rfl).cell rfl
  have x0 := hx.1; have x1 := hx.2
  have e1 : IntKind.u64.wrap (l : Int) = (l : Int) := by rw [IntKind.wrap_u64]; omega
  have b := ix_lt (n := x) h0
  have e2 : x % (l : Int) = (ix x l : Int) := ix_is h0
  have e3 : x.tmod (l : Int) = (ix x l : Int) := by rw [Int.tmod_eq_emod_of_nonneg x0, e2]
  have e4 : IntKind.i64.wrap (ix x l : Int) = (ix x l : Int) := by rw [IntKind.wrap_i64]; omega
  have e5 : IntKind.u64.wrap (ix x l : Int) = (ix x l : Int) := by rw [IntKind.wrap_u64]; omega
  have l0 : (0 : Int) < (l : Int) := by omega
  have H0 := Lib.hid h
  clear h hx
  go_enter Try.func73, Try.ntmps73
  go_wp2
  go_ret
  exact Ends.mk [] (by simpa using H0.out)

/-- Word. -/
theorem rrword_does (who : Int) (hn : n ≤ 1000000) (hl : σ.log.length ≤ 1000000) : Does Try.prog [refA x' (n) (σ), rrb q x' obj g cs.length, gb g cs] 50 #[ptr q, .int .i64 who] (.int .u64 (σ.num (wordL obj))) [refA x' (n + 1) (σ.put who 1 (wordL obj)), rrb q x' obj g cs.length, gb g cs] := Does.of_scope fun S w0 w h => by
  have zm : w.cell? ⟨q, 0, none⟩ = some (ptr x') := (h.row 1 rfl).cell rfl
  have zo : w.cell? ⟨q, 1, none⟩ = some (.int .i64 obj) := (h.row 1 rfl).cell rfl
  have H0 := Lib.hid h.drew
  clear h
  go_enter Try.func50, Try.ntmps50
  go_wp2_with fail
  go_region_held3 (fun w' => w'.cell? ⟨q, 0, none⟩ = some (ptr x') ∧ w'.cell? ⟨q, 1, none⟩ = some (.int .i64 obj)) (refine ⟨?_, ?_⟩ <;> assumption)
    (first
      | (go_at_call 31
         refine ((rloc_pure 11 obj 0).at (Hid.out (by assumption))).mono ?_
         rintro e wq ⟨rfl, sq⟩
         have zm : wq.cell? ⟨q, 0, none⟩ = some (ptr x') := (sq.row 1 rfl).cell rfl
         have zo : wq.cell? ⟨q, 1, none⟩ = some (.int .i64 obj) := (sq.row 1 rfl).cell rfl
         have Hq := Lib.hid sq
         clear sq)
      | (go_at_call 69
         refine ((rload_does who (wordL obj) hn hl).at0 (Hid.out (by assumption))).mono ?_
         rintro e wz ⟨rfl, sq⟩
         have zm : wz.cell? ⟨q, 0, none⟩ = some (ptr x') := (sq.row 1 rfl).cell rfl
         have zo : wz.cell? ⟨q, 1, none⟩ = some (.int .i64 obj) := (sq.row 1 rfl).cell rfl
         have Hz := Lib.hid sq
         clear sq))
  go_wp2
  go_ret
  exact Ends.mk [] (by simpa using Hz.out)

/-- Head. -/
theorem rrhead_does (who : Int) (hn : n ≤ 1000000) (hl : σ.log.length ≤ 1000000) : Does Try.prog [refA x' (n) (σ), rrb q x' obj g cs.length, gb g cs] 51 #[ptr q, .int .i64 who] (.int .u64 (σ.num (headL obj))) [refA x' (n + 1) (σ.put who 1 (headL obj)), rrb q x' obj g cs.length, gb g cs] := Does.of_scope fun S w0 w h => by
  have zm : w.cell? ⟨q, 0, none⟩ = some (ptr x') := (h.row 1 rfl).cell rfl
  have zo : w.cell? ⟨q, 1, none⟩ = some (.int .i64 obj) := (h.row 1 rfl).cell rfl
  have H0 := Lib.hid h.drew
  clear h
  go_enter Try.func51, Try.ntmps51
  go_wp2_with fail
  go_region_held3 (fun w' => w'.cell? ⟨q, 0, none⟩ = some (ptr x') ∧ w'.cell? ⟨q, 1, none⟩ = some (.int .i64 obj)) (refine ⟨?_, ?_⟩ <;> assumption)
    (first
      | (go_at_call 31
         refine ((rloc_pure 12 obj 0).at (Hid.out (by assumption))).mono ?_
         rintro e wq ⟨rfl, sq⟩
         have zm : wq.cell? ⟨q, 0, none⟩ = some (ptr x') := (sq.row 1 rfl).cell rfl
         have zo : wq.cell? ⟨q, 1, none⟩ = some (.int .i64 obj) := (sq.row 1 rfl).cell rfl
         have Hq := Lib.hid sq
         clear sq)
      | (go_at_call 69
         refine ((rload_does who (headL obj) hn hl).at0 (Hid.out (by assumption))).mono ?_
         rintro e wz ⟨rfl, sq⟩
         have zm : wz.cell? ⟨q, 0, none⟩ = some (ptr x') := (sq.row 1 rfl).cell rfl
         have zo : wz.cell? ⟨q, 1, none⟩ = some (.int .i64 obj) := (sq.row 1 rfl).cell rfl
         have Hz := Lib.hid sq
         clear sq))
  go_wp2
  go_ret
  exact Ends.mk [] (by simpa using Hz.out)

/-- Free. -/
theorem rrfree_does (who x : Int) (hn : n ≤ 1000000) (hl : σ.log.length ≤ 1000000) : Does Try.prog [refA x' (n) (σ), rrb q x' obj g cs.length, gb g cs] 57 #[ptr q, .int .i64 who, .int .u64 x] (.tuple #[]) [refA x' (n + 1) ((σ.put who 2 (headL obj)).set (headL obj) (IntKind.u64.wrap (x + 1))), rrb q x' obj g cs.length, gb g cs] := Does.of_scope fun S w0 w h => by
  have zm : w.cell? ⟨q, 0, none⟩ = some (ptr x') := (h.row 1 rfl).cell rfl
  have zo : w.cell? ⟨q, 1, none⟩ = some (.int .i64 obj) := (h.row 1 rfl).cell rfl
  have H0 := Lib.hid h.drew
  clear h
  go_enter Try.func57, Try.ntmps57
  go_wp2_with fail
  go_region_held3 (fun w' => w'.cell? ⟨q, 0, none⟩ = some (ptr x') ∧ w'.cell? ⟨q, 1, none⟩ = some (.int .i64 obj)) (refine ⟨?_, ?_⟩ <;> assumption)
    (first
      | (go_at_call 31
         refine ((rloc_pure 12 obj 0).at (Hid.out (by assumption))).mono ?_
         rintro e wq ⟨rfl, sq⟩
         have zm : wq.cell? ⟨q, 0, none⟩ = some (ptr x') := (sq.row 1 rfl).cell rfl
         have zo : wq.cell? ⟨q, 1, none⟩ = some (.int .i64 obj) := (sq.row 1 rfl).cell rfl
         have Hq := Lib.hid sq
         clear sq)
      | (go_at_call 74
         refine ((rstore_does who (headL obj) (IntKind.u64.wrap (x + 1)) hn hl).at0 (Hid.out (by assumption))).mono ?_
         rintro e wz ⟨rfl, sq⟩
         have zm : wz.cell? ⟨q, 0, none⟩ = some (ptr x') := (sq.row 1 rfl).cell rfl
         have zo : wz.cell? ⟨q, 1, none⟩ = some (.int .i64 obj) := (sq.row 1 rfl).cell rfl
         have Hz := Lib.hid sq
         clear sq))
  go_wp2
  go_end0
  exact Ends.mk [] (by simpa using Hz.out)

/-- Show. -/
theorem rrshow_does (who x : Int) (hn : n ≤ 1000000) (hl : σ.log.length ≤ 1000000) (hx : U64 x) (c0 : 0 < cs.length) (c8 : cs.length ≤ 1000) : Does Try.prog [refA x' (n) (σ), rrb q x' obj g cs.length, gb g cs] 55 #[ptr q, .int .i64 who, .int .u64 x] (.tuple #[]) [refA x' (n + 1) ((σ.put who 2 (flagL obj (ix x cs.length))).set (flagL obj (ix x cs.length)) (IntKind.u64.wrap (x + 1))), rrb q x' obj g cs.length, gb g cs] := Does.of_scope fun S w0 w h => by
  have zm : w.cell? ⟨q, 0, none⟩ = some (ptr x') := (h.row 1 rfl).cell rfl
  have zo : w.cell? ⟨q, 1, none⟩ = some (.int .i64 obj) := (h.row 1 rfl).cell rfl
  have H0 := Lib.hid h.drew
  clear h
  go_enter Try.func55, Try.ntmps55
  go_wp2_with fail
  go_region_held3 (fun w' => w'.cell? ⟨q, 0, none⟩ = some (ptr x') ∧ w'.cell? ⟨q, 1, none⟩ = some (.int .i64 obj)) (refine ⟨?_, ?_⟩ <;> assumption)
    (first
      | (go_at_call 73
         refine ((rrcell_does hx cs.length c0 c8).at1 (Hid.out (by assumption))).mono ?_
         rintro e wq ⟨rfl, sq⟩
         have zm : wq.cell? ⟨q, 0, none⟩ = some (ptr x') := (sq.row 1 rfl).cell rfl
         have zo : wq.cell? ⟨q, 1, none⟩ = some (.int .i64 obj) := (sq.row 1 rfl).cell rfl
         have Hq := Lib.hid sq
         clear sq)
      | (go_at_call 31
         refine ((rloc_pure 15 obj (ix x cs.length : Nat)).at (Hid.out (by assumption))).mono ?_
         rintro e wq ⟨rfl, sq⟩
         have zm : wq.cell? ⟨q, 0, none⟩ = some (ptr x') := (sq.row 1 rfl).cell rfl
         have zo : wq.cell? ⟨q, 1, none⟩ = some (.int .i64 obj) := (sq.row 1 rfl).cell rfl
         have Hq := Lib.hid sq
         clear sq)
      | (go_at_call 74
         refine ((rstore_does who (flagL obj (ix x cs.length)) (IntKind.u64.wrap (x + 1)) hn hl).at0 (Hid.out (by assumption))).mono ?_
         rintro e wz ⟨rfl, sq⟩
         have zm : wz.cell? ⟨q, 0, none⟩ = some (ptr x') := (sq.row 1 rfl).cell rfl
         have zo : wz.cell? ⟨q, 1, none⟩ = some (.int .i64 obj) := (sq.row 1 rfl).cell rfl
         have Hz := Lib.hid sq
         clear sq))
  go_wp2
  go_end0
  exact Ends.mk [] (by simpa using Hz.out)

/-- Shown. -/
theorem rrshown_does (who x : Int) (hn : n ≤ 1000000) (hl : σ.log.length ≤ 1000000) (hx : U64 x) (c0 : 0 < cs.length) (c8 : cs.length ≤ 1000) : Does Try.prog [refA x' (n) (σ), rrb q x' obj g cs.length, gb g cs] 56 #[ptr q, .int .i64 who, .int .u64 x] (.bool (σ.num (flagL obj (ix x cs.length)) == IntKind.u64.wrap (x + 1))) [refA x' (n + 1) (σ.put who 1 (flagL obj (ix x cs.length))), rrb q x' obj g cs.length, gb g cs] := Does.of_scope fun S w0 w h => by
  have zm : w.cell? ⟨q, 0, none⟩ = some (ptr x') := (h.row 1 rfl).cell rfl
  have zo : w.cell? ⟨q, 1, none⟩ = some (.int .i64 obj) := (h.row 1 rfl).cell rfl
  have H0 := Lib.hid h.drew
  clear h
  go_enter Try.func56, Try.ntmps56
  go_wp2_with fail
  go_region_held3 (fun w' => w'.cell? ⟨q, 0, none⟩ = some (ptr x') ∧ w'.cell? ⟨q, 1, none⟩ = some (.int .i64 obj)) (refine ⟨?_, ?_⟩ <;> assumption)
    (first
      | (go_at_call 73
         refine ((rrcell_does hx cs.length c0 c8).at1 (Hid.out (by assumption))).mono ?_
         rintro e wq ⟨rfl, sq⟩
         have zm : wq.cell? ⟨q, 0, none⟩ = some (ptr x') := (sq.row 1 rfl).cell rfl
         have zo : wq.cell? ⟨q, 1, none⟩ = some (.int .i64 obj) := (sq.row 1 rfl).cell rfl
         have Hq := Lib.hid sq
         clear sq)
      | (go_at_call 31
         refine ((rloc_pure 15 obj (ix x cs.length : Nat)).at (Hid.out (by assumption))).mono ?_
         rintro e wq ⟨rfl, sq⟩
         have zm : wq.cell? ⟨q, 0, none⟩ = some (ptr x') := (sq.row 1 rfl).cell rfl
         have zo : wq.cell? ⟨q, 1, none⟩ = some (.int .i64 obj) := (sq.row 1 rfl).cell rfl
         have Hq := Lib.hid sq
         clear sq)
      | (go_at_call 69
         refine ((rload_does who (flagL obj (ix x cs.length)) hn hl).at0 (Hid.out (by assumption))).mono ?_
         rintro e wz ⟨rfl, sq⟩
         have zm : wz.cell? ⟨q, 0, none⟩ = some (ptr x') := (sq.row 1 rfl).cell rfl
         have zo : wz.cell? ⟨q, 1, none⟩ = some (.int .i64 obj) := (sq.row 1 rfl).cell rfl
         have Hz := Lib.hid sq
         clear sq))
  go_wp2
  go_ret
  exact Ends.mk [] (by simpa using Hz.out)

theorem rrfull_does {x hd : Int} (hx : U64 x) (hh : U64 hd) (c8 : cs.length ≤ 1000) : Does Try.prog [rrb q x' obj g cs.length] 58 #[ptr q, .int .u64 x, .int .u64 hd] (.bool (decide (hd ≤ wcnt x ∧ (cs.length : Int) ≤ wcnt x - hd))) [rrb q x' obj g cs.length] := Does.of_scope fun S w0 w h => by
  have c1 : w.cell? ⟨q, 2, none⟩ = some (.int .i64 cs.length) := (h.row 0 rfl).cell rfl
  have e1 : IntKind.u64.wrap (cs.length : Int) = (cs.length : Int) := by rw [IntKind.wrap_u64]; omega
  have cb : 0 ≤ wcnt x ∧ wcnt x ≤ 2305843009213693951 := by have := wC_b x; unfold wcnt; split <;> omega
  have h0 := hh.1; have h1 := hh.2
  have H0 := Lib.hid h; have Hx := Lib.hid hx
  clear h hx hh
  by_cases a : hd ≤ wcnt x
  · have e2 : IntKind.u64.wrap (wcnt x - hd) = wcnt x - hd := by rw [IntKind.wrap_u64]; omega
    have R : decide (hd ≤ wcnt x ∧ (cs.length : Int) ≤ wcnt x - hd) = decide ((cs.length : Int) ≤ wcnt x - hd) := by rw [Bool.eq_iff_iff]; simp [a]
    have Rr := Lib.hid R
    clear cb R
    go_enter Try.func58, Try.ntmps58
    go_wp2_with fail
    refine (parts_same Hx.out _).mono ?_
    rintro e w1 ⟨rfl, rfl⟩
    unfold partsR
    go_wp2
    go_ret
    exact Ends.mk' (by rw [Rr.out]; rfl) [] (by simpa using H0.out)
  · rw [decide_eq_false (show ¬ (hd ≤ wcnt x ∧ (cs.length : Int) ≤ wcnt x - hd) by omega)]
    clear cb
    go_enter Try.func58, Try.ntmps58
    go_wp2_with fail
    refine (parts_same Hx.out _).mono ?_
    rintro e w1 ⟨rfl, rfl⟩
    unfold partsR
    go_wp2
    go_ret
    exact Ends.mk [] (by simpa using H0.out)

/-- Put. -/
theorem rrput_does (who x : Int) (k : Pk) (hn' : n ≤ 1000000) (hl : σ.log.length ≤ 1000000) (hx : U64 x) (c0 : 0 < cs.length) (c8 : cs.length ≤ 1000) : Does Try.prog [refA x' n (σ), rrb q x' obj g cs.length, gb g cs] 53 #[ptr q, .int .i64 who, .int .u64 x, k.val] (.tuple #[]) [refA x' n (σ.put who 6 (cellL obj (ix x cs.length))), rrb q x' obj g cs.length, gb g (cs.set (ix x cs.length) k)] := Does.of_scope fun S w0 w h => by
  have s1 := Lib.hid (show Scope S w0 (w.alloc (.cells #[.int .i64 k.flow, .int .i64 k.len, .int .i64 k.mark] 44)).drew ([refA x' n (σ), rrb q x' obj g cs.length, gb g cs] ++ [box w.heap.size [.int .i64 k.flow, .int .i64 k.len, .int .i64 k.mark] 44]) from (h.box [.int .i64 k.flow, .int .i64 k.len, .int .i64 k.mark] 44).drew)
  have zm : (w.alloc (.cells #[.int .i64 k.flow, .int .i64 k.len, .int .i64 k.mark] 44)).drew.cell? ⟨q, 0, none⟩ = some (ptr x') := (s1.out.row 1 rfl).cell rfl
  have zo : (w.alloc (.cells #[.int .i64 k.flow, .int .i64 k.len, .int .i64 k.mark] 44)).drew.cell? ⟨q, 1, none⟩ = some (.int .i64 obj) := (s1.out.row 1 rfl).cell rfl
  have bx := ix_lt (n := x) c0
  have Bx := Lib.hid bx
  clear h bx
  unfold Pk.val
  go_enter Try.func53, Try.ntmps53
  go_wp2_with fail
  go_region_held3 (fun w' => w'.cell? ⟨q, 0, none⟩ = some (ptr x') ∧ w'.cell? ⟨q, 1, none⟩ = some (.int .i64 obj)) (go_keep)
    (first
      | (go_at_call 73
         refine ((rrcell_does hx cs.length c0 c8).at1 (Hid.out (by assumption))).mono ?_
         rintro e wq ⟨rfl, sq⟩
         have zm : wq.cell? ⟨q, 0, none⟩ = some (ptr x') := (sq.row 1 rfl).cell rfl
         have zo : wq.cell? ⟨q, 1, none⟩ = some (.int .i64 obj) := (sq.row 1 rfl).cell rfl
         have Hq := Lib.hid sq
         clear sq)
      | (go_at_call 31
         refine ((rloc_pure 16 obj (ix x cs.length : Nat)).at (Hid.out (by assumption))).mono ?_
         rintro e wq ⟨rfl, sq⟩
         have zm : wq.cell? ⟨q, 0, none⟩ = some (ptr x') := (sq.row 1 rfl).cell rfl
         have zo : wq.cell? ⟨q, 1, none⟩ = some (.int .i64 obj) := (sq.row 1 rfl).cell rfl
         have Hq := Lib.hid sq
         clear sq)
      | (go_at_call 72
         refine ((rlog_does who 6 (cellL obj (ix x cs.length)) hl).at0 (Hid.out (by assumption))).mono ?_
         rintro e wz ⟨rfl, sq⟩
         have zm : wz.cell? ⟨q, 0, none⟩ = some (ptr x') := (sq.row 1 rfl).cell rfl
         have zo : wz.cell? ⟨q, 1, none⟩ = some (.int .i64 obj) := (sq.row 1 rfl).cell rfl
         have Hz := Lib.hid sq
         clear sq))
  clear zm zo
  obtain ⟨B, hB⟩ : ∃ B, B = w.heap.size := ⟨_, rfl⟩
  have Z1 := Lib.hid (show Scope S w0 wz.drew ([refA x' n (σ.put who 6 (cellL obj (ix x cs.length))), rrb q x' obj g cs.length, gb g cs] ++ [box B [.int .i64 k.flow, .int .i64 k.len, .int .i64 k.mark] 44]) from by rw [hB]; exact Hz.out.drew)
  go_wp2_with fail
  rw [← hB]
  clear hB Hz s1
  refine wp_region_any (by kernel_rfl) ?_
  change wpAny _ _ _ _ _ _ _ wz.drew
  have h0 : wz.drew.cell? ⟨q, 3, none⟩ = some (.slice (some ⟨g, 0, none⟩) cs.length cs.length) ∧ wz.drew.cell? ⟨B, 0, none⟩ = some (.int .i64 k.flow) ∧ wz.drew.cell? ⟨B, 1, none⟩ = some (.int .i64 k.len) ∧ wz.drew.cell? ⟨B, 2, none⟩ = some (.int .i64 k.mark) := ⟨(Z1.out.row 1 rfl).cell rfl, (Z1.out.row 3 rfl).cell rfl, (Z1.out.row 3 rfl).cell rfl, (Z1.out.row 3 rfl).cell rfl⟩
  have i0 : (0 : Int) ≤ ((ix x cs.length : Nat) : Int) := by omega
  have bx := Bx.out
  have i1 : ((ix x cs.length : Nat) : Int) < (cs.length : Int) := by omega
  clear bx
  refine wpAny_of_U (S := fun w' => w'.cell? ⟨q, 3, none⟩ = some (.slice (some ⟨g, 0, none⟩) cs.length cs.length) ∧ w'.cell? ⟨B, 0, none⟩ = some (.int .i64 k.flow) ∧ w'.cell? ⟨B, 1, none⟩ = some (.int .i64 k.len) ∧ w'.cell? ⟨B, 2, none⟩ = some (.int .i64 k.mark)) (U := [0, 1, 2, 3, 4, 5, 6, 7, 8]) _ _ _ _ ?_
  refine wpAnyU_take (i := 0) (v := ?_) rfl (by kernel_rfl) (by kernel_rfl) (by kernel_rfl) (by kernel_rfl) (fun _ _ _ h => h) (Or.inl ⟨by rfl, ?_⟩) h0 ?_
  rotate_left 1
  · (intro w' hS; (try dsimp only at hS); (try simp only [List.getElem_toArray, List.getElem_cons_succ, List.getElem_cons_zero]); go_simp; (try with_reducible rfl))
  try simp only [Act.put, List.getElem_toArray, List.getElem_cons_succ, List.getElem_cons_zero, List.setIfInBounds_toArray, List.set_cons_zero, List.set_cons_succ]
  refine wpAnyU_take (i := 1) (v := ?_) rfl (by kernel_rfl) (by kernel_rfl) (by kernel_rfl) (by kernel_rfl) (fun _ _ _ h => h) (Or.inl ⟨by rfl, ?_⟩) h0 ?_
  rotate_left 1
  · (intro w' hS; (try dsimp only at hS); (try simp only [List.getElem_toArray, List.getElem_cons_succ, List.getElem_cons_zero]); go_simp; (try with_reducible rfl))
  try simp only [Act.put, List.getElem_toArray, List.getElem_cons_succ, List.getElem_cons_zero, List.setIfInBounds_toArray, List.set_cons_zero, List.set_cons_succ]
  refine wpAnyU_take (i := 2) (v := ?_) rfl (by kernel_rfl) (by kernel_rfl) (by kernel_rfl) (by kernel_rfl) (fun _ _ _ h => h) (Or.inl ⟨by rfl, ?_⟩) h0 ?_
  rotate_left 1
  · (intro w' hS; (try dsimp only at hS); (try simp only [List.getElem_toArray, List.getElem_cons_succ, List.getElem_cons_zero]); go_simp; (try with_reducible rfl))
  try simp only [Act.put, List.getElem_toArray, List.getElem_cons_succ, List.getElem_cons_zero, List.setIfInBounds_toArray, List.set_cons_zero, List.set_cons_succ]
  refine wpAnyU_take (i := 3) (v := ?_) rfl (by kernel_rfl) (by kernel_rfl) (by kernel_rfl) (by kernel_rfl) (fun _ _ _ h => h) (Or.inl ⟨by rfl, ?_⟩) h0 ?_
  rotate_left 1
  · (intro w' hS; (try dsimp only at hS); (try simp only [List.getElem_toArray, List.getElem_cons_succ, List.getElem_cons_zero]); go_simp; (try with_reducible rfl))
  try simp only [Act.put, List.getElem_toArray, List.getElem_cons_succ, List.getElem_cons_zero, List.setIfInBounds_toArray, List.set_cons_zero, List.set_cons_succ]
  refine wpAnyU_take (i := 4) (v := ?_) rfl (by kernel_rfl) (by kernel_rfl) (by kernel_rfl) (by kernel_rfl) (fun _ _ _ h => h) (Or.inl ⟨by rfl, ?_⟩) h0 ?_
  rotate_left 1
  · (intro w' hS; (try dsimp only at hS); (try simp only [List.getElem_toArray, List.getElem_cons_succ, List.getElem_cons_zero]); go_simp; (try with_reducible rfl))
  try simp only [Act.put, List.getElem_toArray, List.getElem_cons_succ, List.getElem_cons_zero, List.setIfInBounds_toArray, List.set_cons_zero, List.set_cons_succ]
  refine wpAnyU_take (i := 5) (v := ?_) rfl (by kernel_rfl) (by kernel_rfl) (by kernel_rfl) (by kernel_rfl) (fun _ _ _ h => h) (Or.inl ⟨by rfl, ?_⟩) h0 ?_
  rotate_left 1
  · (intro w' hS; (try dsimp only at hS); (try simp only [List.getElem_toArray, List.getElem_cons_succ, List.getElem_cons_zero]); go_simp; (try with_reducible rfl))
  try simp only [Act.put, List.getElem_toArray, List.getElem_cons_succ, List.getElem_cons_zero, List.setIfInBounds_toArray, List.set_cons_zero, List.set_cons_succ]
  refine wpAnyU_take (i := 7) (v := ?_) rfl (by kernel_rfl) (by kernel_rfl) (by kernel_rfl) (by kernel_rfl) (fun _ _ _ h => h) (Or.inl ⟨by rfl, ?_⟩) h0 ?_
  rotate_left 1
  · (intro w' hS; (try dsimp only at hS); (try simp only [List.getElem_toArray, List.getElem_cons_succ, List.getElem_cons_zero]); go_simp; (try with_reducible rfl))
  try simp only [Act.put, List.getElem_toArray, List.getElem_cons_succ, List.getElem_cons_zero, List.setIfInBounds_toArray, List.set_cons_zero, List.set_cons_succ]
  refine wpAnyU_all (rs := [6]) (by kernel_rfl) (by simp) (fun i hi => ?_)
  obtain rfl : i = 6 := by simpa using hi
  refine wpOpU_stepG rfl (by rfl) (fun K hK => ?_)
  go_simp
  refine ((rrcell_does hx cs.length c0 c8).at1 Z1.out).mono ?_
  rintro e wy ⟨rfl, sq⟩
  have h1 : wy.cell? ⟨q, 3, none⟩ = some (.slice (some ⟨g, 0, none⟩) cs.length cs.length) ∧ wy.cell? ⟨B, 0, none⟩ = some (.int .i64 k.flow) ∧ wy.cell? ⟨B, 1, none⟩ = some (.int .i64 k.len) ∧ wy.cell? ⟨B, 2, none⟩ = some (.int .i64 k.mark) := ⟨(sq.row 1 rfl).cell rfl, (sq.row 3 rfl).cell rfl, (sq.row 3 rfl).cell rfl, (sq.row 3 rfl).cell rfl⟩
  have Z2 := Lib.hid sq
  refine hK _ _ ⟨fun _ => h1, ?_⟩
  clear hK K sq h0
  try simp only [Act.put, List.getElem_toArray, List.getElem_cons_succ, List.getElem_cons_zero, List.setIfInBounds_toArray, List.set_cons_zero, List.set_cons_succ]
  refine wpAnyU_take (i := 8) (v := ?_) rfl (by kernel_rfl) (by kernel_rfl) (by kernel_rfl) (by kernel_rfl) (fun _ _ _ h => h) (Or.inl ⟨by rfl, ?_⟩) h1 ?_
  rotate_left 1
  · (intro w' hS; (try dsimp only at hS); (try simp only [List.getElem_toArray, List.getElem_cons_succ, List.getElem_cons_zero]); go_simp; (try with_reducible rfl))
  try simp only [Act.put, List.getElem_toArray, List.getElem_cons_succ, List.getElem_cons_zero, List.setIfInBounds_toArray, List.set_cons_zero, List.set_cons_succ]
  refine wpAnyU_rest _ _ _ _ (fun j hj => ?_) ?_
  · simp at hj; rcases hj with rfl | rfl | rfl | rfl | rfl | rfl | rfl | rfl | rfl <;> rfl
  obtain ⟨y, hy⟩ : ∃ y, cs[ix x cs.length]? = some y := ⟨_, List.getElem?_eq_getElem Bx.out⟩
  obtain ⟨y0, y1, y2⟩ := pks_get cs _ y hy
  have rg := Z2.out.row (k := g) (vs := pks cs) (t := 44) 2 rfl
  have f0 := rg.free (ix x cs.length * 3); have f1 := rg.free (ix x cs.length * 3 + 1); have f2 := rg.free (ix x cs.length * 3 + 2)
  have x0 := rg.cell y0; have x1 := rg.cell y1; have x2 := rg.cell y2
  clear h1 y0 y1 y2 hy rg
  refine wpAny_all (rs := [9]) (by kernel_rfl) (by simp) (fun i hi => ?_)
  obtain rfl : i = 9 := by simpa using hi
  refine wpOpU_stepG rfl (by rfl) (fun K hK => ?_)
  go_simp
  refine hK _ _ ?_
  clear hK K
  try simp only [Act.put, List.getElem_toArray, List.getElem_cons_succ, List.getElem_cons_zero, List.setIfInBounds_toArray, List.set_cons_zero, List.set_cons_succ]
  refine wpAny_done (by kernel_rfl) ?_ _
  clear f0 f1 f2 x0 x1 x2
  go_wp2
  go_end0
  refine Ends.mk [box B [.int .i64 k.flow, .int .i64 k.len, .int .i64 k.mark] 44] ?_
  have q1 := Scope.setbox (As := [refA x' n _, rrb q x' obj g cs.length]) (Bs := [box B _ 44]) Z2.out (ix x cs.length * 3) (.int .i64 k.flow)
  have q2 := Scope.setbox (As := [refA x' n _, rrb q x' obj g cs.length]) (Bs := [box B _ 44]) q1 (ix x cs.length * 3 + 1) (.int .i64 k.len)
  have q3 := Scope.setbox (As := [refA x' n _, rrb q x' obj g cs.length]) (Bs := [box B _ 44]) q2 (ix x cs.length * 3 + 2) (.int .i64 k.mark)
  rw [pks_set cs _ k Bx.out] at q3
  exact q3

/-- Get. -/
theorem rrget_does (who x : Int) (k : Pk) (hn' : n ≤ 1000000) (hl : σ.log.length ≤ 1000000) (hx : U64 x) (c0 : 0 < cs.length) (c8 : cs.length ≤ 1000) (hk : cs[ix x cs.length]? = some k) : Does Try.prog [refA x' n (σ), rrb q x' obj g cs.length, gb g cs] 54 #[ptr q, .int .i64 who, .int .u64 x] k.val [refA x' n (σ.put who 5 (cellL obj (ix x cs.length))), rrb q x' obj g cs.length, gb g cs] := Does.of_scope fun S w0 w h => by
  have s1 := Lib.hid (show Scope S w0 (w.alloc (.cells #[.int .i64 0, .int .i64 0, .int .i64 0] 44)).drew ([refA x' n (σ), rrb q x' obj g cs.length, gb g cs] ++ [box w.heap.size [.int .i64 0, .int .i64 0, .int .i64 0] 44]) from (h.box [.int .i64 0, .int .i64 0, .int .i64 0] 44).drew)
  have zm : (w.alloc (.cells #[.int .i64 0, .int .i64 0, .int .i64 0] 44)).drew.cell? ⟨q, 0, none⟩ = some (ptr x') := (s1.out.row 1 rfl).cell rfl
  have zo : (w.alloc (.cells #[.int .i64 0, .int .i64 0, .int .i64 0] 44)).drew.cell? ⟨q, 1, none⟩ = some (.int .i64 obj) := (s1.out.row 1 rfl).cell rfl
  have bx := ix_lt (n := x) c0
  have Bx := Lib.hid bx
  clear h bx
  have Y := Lib.hid (pks_get cs _ k hk)
  clear hk
  go_enter Try.func54, Try.ntmps54
  go_wp2_with fail
  go_region_held3 (fun w' => w'.cell? ⟨q, 0, none⟩ = some (ptr x') ∧ w'.cell? ⟨q, 1, none⟩ = some (.int .i64 obj)) (go_keep)
    (first
      | (go_at_call 73
         refine ((rrcell_does hx cs.length c0 c8).at1 (Hid.out (by assumption))).mono ?_
         rintro e wq ⟨rfl, sq⟩
         have zm : wq.cell? ⟨q, 0, none⟩ = some (ptr x') := (sq.row 1 rfl).cell rfl
         have zo : wq.cell? ⟨q, 1, none⟩ = some (.int .i64 obj) := (sq.row 1 rfl).cell rfl
         have Hq := Lib.hid sq
         clear sq)
      | (go_at_call 31
         refine ((rloc_pure 16 obj (ix x cs.length : Nat)).at (Hid.out (by assumption))).mono ?_
         rintro e wq ⟨rfl, sq⟩
         have zm : wq.cell? ⟨q, 0, none⟩ = some (ptr x') := (sq.row 1 rfl).cell rfl
         have zo : wq.cell? ⟨q, 1, none⟩ = some (.int .i64 obj) := (sq.row 1 rfl).cell rfl
         have Hq := Lib.hid sq
         clear sq)
      | (go_at_call 72
         refine ((rlog_does who 5 (cellL obj (ix x cs.length)) hl).at0 (Hid.out (by assumption))).mono ?_
         rintro e wz ⟨rfl, sq⟩
         have zm : wz.cell? ⟨q, 0, none⟩ = some (ptr x') := (sq.row 1 rfl).cell rfl
         have zo : wz.cell? ⟨q, 1, none⟩ = some (.int .i64 obj) := (sq.row 1 rfl).cell rfl
         have Hz := Lib.hid sq
         clear sq))
  clear zm zo
  obtain ⟨B, hB⟩ : ∃ B, B = w.heap.size := ⟨_, rfl⟩
  have Z1 := Lib.hid (show Scope S w0 wz.drew ([refA x' n (σ.put who 5 (cellL obj (ix x cs.length))), rrb q x' obj g cs.length, gb g cs] ++ [box B [.int .i64 0, .int .i64 0, .int .i64 0] 44]) from by rw [hB]; exact Hz.out.drew)
  go_wp2_with fail
  rw [← hB]
  clear hB Hz s1
  refine wp_region_any (by kernel_rfl) ?_
  change wpAny _ _ _ _ _ _ _ wz.drew
  obtain ⟨y0, y1, y2⟩ := Y.out
  have h0 : wz.drew.cell? ⟨q, 3, none⟩ = some (.slice (some ⟨g, 0, none⟩) cs.length cs.length) ∧ wz.drew.cell? ⟨g, ix x cs.length * 3, none⟩ = some (.int .i64 k.flow) ∧ wz.drew.cell? ⟨g, ix x cs.length * 3 + 1, none⟩ = some (.int .i64 k.len) ∧ wz.drew.cell? ⟨g, ix x cs.length * 3 + 2, none⟩ = some (.int .i64 k.mark) := ⟨(Z1.out.row 1 rfl).cell rfl, (Z1.out.row 2 rfl).cell y0, (Z1.out.row 2 rfl).cell y1, (Z1.out.row 2 rfl).cell y2⟩
  have i0 : (0 : Int) ≤ ((ix x cs.length : Nat) : Int) := by omega
  have bx := Bx.out
  have i1 : ((ix x cs.length : Nat) : Int) < (cs.length : Int) := by omega
  clear bx
  clear y0 y1 y2
  refine wpAny_of_U (S := fun w' => w'.cell? ⟨q, 3, none⟩ = some (.slice (some ⟨g, 0, none⟩) cs.length cs.length) ∧ w'.cell? ⟨g, ix x cs.length * 3, none⟩ = some (.int .i64 k.flow) ∧ w'.cell? ⟨g, ix x cs.length * 3 + 1, none⟩ = some (.int .i64 k.len) ∧ w'.cell? ⟨g, ix x cs.length * 3 + 2, none⟩ = some (.int .i64 k.mark)) (U := [0, 1, 2, 3, 4, 5, 6, 7, 8]) _ _ _ _ ?_
  refine wpAnyU_take (i := 0) (v := ?_) rfl (by kernel_rfl) (by kernel_rfl) (by kernel_rfl) (by kernel_rfl) (fun _ _ _ h => h) (Or.inl ⟨by rfl, ?_⟩) h0 ?_
  rotate_left 1
  · (intro w' hS; (try dsimp only at hS); (try simp only [List.getElem_toArray, List.getElem_cons_succ, List.getElem_cons_zero]); go_simp; (try with_reducible rfl))
  try simp only [Act.put, List.getElem_toArray, List.getElem_cons_succ, List.getElem_cons_zero, List.setIfInBounds_toArray, List.set_cons_zero, List.set_cons_succ]
  refine wpAnyU_take (i := 1) (v := ?_) rfl (by kernel_rfl) (by kernel_rfl) (by kernel_rfl) (by kernel_rfl) (fun _ _ _ h => h) (Or.inl ⟨by rfl, ?_⟩) h0 ?_
  rotate_left 1
  · (intro w' hS; (try dsimp only at hS); (try simp only [List.getElem_toArray, List.getElem_cons_succ, List.getElem_cons_zero]); go_simp; (try with_reducible rfl))
  try simp only [Act.put, List.getElem_toArray, List.getElem_cons_succ, List.getElem_cons_zero, List.setIfInBounds_toArray, List.set_cons_zero, List.set_cons_succ]
  refine wpAnyU_take (i := 2) (v := ?_) rfl (by kernel_rfl) (by kernel_rfl) (by kernel_rfl) (by kernel_rfl) (fun _ _ _ h => h) (Or.inl ⟨by rfl, ?_⟩) h0 ?_
  rotate_left 1
  · (intro w' hS; (try dsimp only at hS); (try simp only [List.getElem_toArray, List.getElem_cons_succ, List.getElem_cons_zero]); go_simp; (try with_reducible rfl))
  try simp only [Act.put, List.getElem_toArray, List.getElem_cons_succ, List.getElem_cons_zero, List.setIfInBounds_toArray, List.set_cons_zero, List.set_cons_succ]
  refine wpAnyU_take (i := 3) (v := ?_) rfl (by kernel_rfl) (by kernel_rfl) (by kernel_rfl) (by kernel_rfl) (fun _ _ _ h => h) (Or.inl ⟨by rfl, ?_⟩) h0 ?_
  rotate_left 1
  · (intro w' hS; (try dsimp only at hS); (try simp only [List.getElem_toArray, List.getElem_cons_succ, List.getElem_cons_zero]); go_simp; (try with_reducible rfl))
  try simp only [Act.put, List.getElem_toArray, List.getElem_cons_succ, List.getElem_cons_zero, List.setIfInBounds_toArray, List.set_cons_zero, List.set_cons_succ]
  refine wpAnyU_take (i := 4) (v := ?_) rfl (by kernel_rfl) (by kernel_rfl) (by kernel_rfl) (by kernel_rfl) (fun _ _ _ h => h) (Or.inl ⟨by rfl, ?_⟩) h0 ?_
  rotate_left 1
  · (intro w' hS; (try dsimp only at hS); (try simp only [List.getElem_toArray, List.getElem_cons_succ, List.getElem_cons_zero]); go_simp; (try with_reducible rfl))
  try simp only [Act.put, List.getElem_toArray, List.getElem_cons_succ, List.getElem_cons_zero, List.setIfInBounds_toArray, List.set_cons_zero, List.set_cons_succ]
  refine wpAnyU_take (i := 5) (v := ?_) rfl (by kernel_rfl) (by kernel_rfl) (by kernel_rfl) (by kernel_rfl) (fun _ _ _ h => h) (Or.inl ⟨by rfl, ?_⟩) h0 ?_
  rotate_left 1
  · (intro w' hS; (try dsimp only at hS); (try simp only [List.getElem_toArray, List.getElem_cons_succ, List.getElem_cons_zero]); go_simp; (try with_reducible rfl))
  try simp only [Act.put, List.getElem_toArray, List.getElem_cons_succ, List.getElem_cons_zero, List.setIfInBounds_toArray, List.set_cons_zero, List.set_cons_succ]
  refine wpAnyU_all (rs := [6]) (by kernel_rfl) (by simp) (fun i hi => ?_)
  obtain rfl : i = 6 := by simpa using hi
  refine wpOpU_stepG rfl (by rfl) (fun K hK => ?_)
  go_simp
  refine ((rrcell_does hx cs.length c0 c8).at1 Z1.out).mono ?_
  rintro e wy ⟨rfl, sq⟩
  obtain ⟨y0, y1, y2⟩ := Y.out
  have h1 : wy.cell? ⟨q, 3, none⟩ = some (.slice (some ⟨g, 0, none⟩) cs.length cs.length) ∧ wy.cell? ⟨g, ix x cs.length * 3, none⟩ = some (.int .i64 k.flow) ∧ wy.cell? ⟨g, ix x cs.length * 3 + 1, none⟩ = some (.int .i64 k.len) ∧ wy.cell? ⟨g, ix x cs.length * 3 + 2, none⟩ = some (.int .i64 k.mark) := ⟨(sq.row 1 rfl).cell rfl, (sq.row 2 rfl).cell y0, (sq.row 2 rfl).cell y1, (sq.row 2 rfl).cell y2⟩
  have Z2 := Lib.hid sq
  refine hK _ _ ⟨fun _ => h1, ?_⟩
  clear hK K sq h0 y0 y1 y2
  try simp only [Act.put, List.getElem_toArray, List.getElem_cons_succ, List.getElem_cons_zero, List.setIfInBounds_toArray, List.set_cons_zero, List.set_cons_succ]
  refine wpAnyU_take (i := 7) (v := ?_) rfl (by kernel_rfl) (by kernel_rfl) (by kernel_rfl) (by kernel_rfl) (fun _ _ _ h => h) (Or.inl ⟨by rfl, ?_⟩) h1 ?_
  rotate_left 1
  · (intro w' hS; (try dsimp only at hS); (try simp only [List.getElem_toArray, List.getElem_cons_succ, List.getElem_cons_zero]); go_simp; (try with_reducible rfl))
  try simp only [Act.put, List.getElem_toArray, List.getElem_cons_succ, List.getElem_cons_zero, List.setIfInBounds_toArray, List.set_cons_zero, List.set_cons_succ]
  refine wpAnyU_take (i := 8) (v := ?_) rfl (by kernel_rfl) (by kernel_rfl) (by kernel_rfl) (by kernel_rfl) (fun _ _ _ h => h) (Or.inl ⟨by rfl, ?_⟩) h1 ?_
  rotate_left 1
  · (intro w' hS; (try dsimp only at hS); (try simp only [List.getElem_toArray, List.getElem_cons_succ, List.getElem_cons_zero]); go_simp; (try with_reducible rfl))
  try simp only [Act.put, List.getElem_toArray, List.getElem_cons_succ, List.getElem_cons_zero, List.setIfInBounds_toArray, List.set_cons_zero, List.set_cons_succ]
  refine wpAnyU_rest _ _ _ _ (fun j hj => ?_) ?_
  · simp at hj; rcases hj with rfl | rfl | rfl | rfl | rfl | rfl | rfl | rfl | rfl <;> rfl
  have rg := Z2.out.row (k := B) (vs := [.int .i64 0, .int .i64 0, .int .i64 0]) (t := 44) 3 rfl
  have f0 := rg.free 0; have f1 := rg.free 1; have f2 := rg.free 2
  obtain ⟨x0, x1, x2⟩ := rg.cells3
  have Rg := Lib.hid rg
  clear h1 rg
  refine wpAny_all (rs := [9]) (by kernel_rfl) (by simp) (fun i hi => ?_)
  obtain rfl : i = 9 := by simpa using hi
  refine wpOpU_stepG rfl (by rfl) (fun K hK => ?_)
  go_simp
  refine hK _ _ ?_
  clear hK K
  try simp only [Act.put, List.getElem_toArray, List.getElem_cons_succ, List.getElem_cons_zero, List.setIfInBounds_toArray, List.set_cons_zero, List.set_cons_succ]
  refine wpAny_done (by kernel_rfl) ?_ _
  clear f0 f1 f2 x0 x1 x2
  go_wp2
  refine bodyPost_ret (results_cell_row rfl _ _ B 44 #[.int .i64 k.flow, .int .i64 k.len, .int .i64 k.mark] (0, 0) _ rfl (((Rg.out.set 0 (.int .i64 k.flow)).set 1 (.int .i64 k.len)).set 2 (.int .i64 k.mark)) Try.underlying44 rfl (by kernel_rfl)) rfl ?_
  refine Ends.mk [box B [.int .i64 k.flow, .int .i64 k.len, .int .i64 k.mark] 44] ?_
  have q1 := Scope.setbox (As := [refA x' n (σ.put who 5 (cellL obj (ix x cs.length))), rrb q x' obj g cs.length, gb g cs]) (Bs := []) Z2.out 0 (.int .i64 k.flow)
  have q2 := Scope.setbox (As := [refA x' n (σ.put who 5 (cellL obj (ix x cs.length))), rrb q x' obj g cs.length, gb g cs]) (Bs := []) q1 1 (.int .i64 k.len)
  have q3 := Scope.setbox (As := [refA x' n (σ.put who 5 (cellL obj (ix x cs.length))), rrb q x' obj g cs.length, gb g cs]) (Bs := []) q2 2 (.int .i64 k.mark)
  exact q3

theorem rrturn0_does (who x : Int) (hx : U64 x) (hn : n ≤ 1000000) (hl : σ.log.length ≤ 1000000) : Does Try.prog [refA x' (n) (σ), rrb q x' obj g cs.length, gb g cs] 52 #[ptr q, .int .i64 who, .int .u64 x, .int .i64 0] (.bool (σ.turned obj 0 x)) [refA x' (n + 1) (σ.turn who obj 0 x), rrb q x' obj g cs.length, gb g cs] := Does.of_scope fun S w0 w h => by
  have zm : w.cell? ⟨q, 0, none⟩ = some (ptr x') := (h.row 1 rfl).cell rfl
  have zo : w.cell? ⟨q, 1, none⟩ = some (.int .i64 obj) := (h.row 1 rfl).cell rfl
  have H0 := Lib.hid h.drew; have Hx := Lib.hid hx
  clear h hx
  cases hb : tB 0 x with
  | true =>
    rw [show σ.turned obj 0 x = decide (σ.num (wordL obj) = x) by simp [MS.turned, hb], show σ.turn who obj 0 x = σ.swap who (wordL obj) x (tW 0 x) from if_pos hb]
    have Hb := Lib.hid hb
    clear hb
    go_enter Try.func52, Try.ntmps52
    go_wp2_with fail
    refine (turned0_same Hx.out _).mono ?_
    rintro e w1 ⟨he, rfl⟩
    rw [show tR 0 x = .tuple #[.int .u64 (tW 0 x), .bool true] by simp [tR, Hb.out]] at he
    subst he
    go_wp2_with fail
    go_region_held3 (fun w' => w'.cell? ⟨q, 0, none⟩ = some (ptr x') ∧ w'.cell? ⟨q, 1, none⟩ = some (.int .i64 obj)) (refine ⟨?_, ?_⟩ <;> assumption)
      (first
        | (go_at_call 31
           refine ((rloc_pure 11 obj 0).at (Hid.out (by assumption))).mono ?_
           rintro e wq ⟨rfl, sq⟩
           have zm : wq.cell? ⟨q, 0, none⟩ = some (ptr x') := (sq.row 1 rfl).cell rfl
           have zo : wq.cell? ⟨q, 1, none⟩ = some (.int .i64 obj) := (sq.row 1 rfl).cell rfl
           have Hq := Lib.hid sq
           clear sq)
        | (go_at_call 71
           refine ((rswap_does who (wordL obj) x (tW 0 x) hn hl).at0 Hq.out).mono ?_
           rintro e wz ⟨rfl, sq⟩
           have zm : wz.cell? ⟨q, 0, none⟩ = some (ptr x') := (sq.row 1 rfl).cell rfl
           have zo : wz.cell? ⟨q, 1, none⟩ = some (.int .i64 obj) := (sq.row 1 rfl).cell rfl
           have Hz := Lib.hid sq
           clear sq))
    go_wp2
    go_ret
    exact Ends.mk [] (by simpa using Hz.out)
  | false =>
    rw [show σ.turned obj 0 x = false by simp [MS.turned, hb], show σ.turn who obj 0 x = σ from if_neg (by simp [hb])]
    have Hb := Lib.hid hb
    clear hb
    go_enter Try.func52, Try.ntmps52
    go_wp2_with fail
    refine (turned0_same Hx.out _).mono ?_
    rintro e w1 ⟨he, rfl⟩
    rw [show tR 0 x = .tuple #[.int .u64 (tW 0 x), .bool false] by simp [tR, Hb.out]] at he
    subst he
    go_wp2_with fail
    refine wp_region_any (by kernel_rfl) ?_
    change wpAny _ _ _ _ _ _ _ (World.drew _)
    have h0 : True := trivial
    refine wpAny_of_U (S := fun _ => True) (U := [0, 1, 2, 3, 4, 5, 6, 7, 8, 9, 10, 11, 12, 13, 14, 15]) _ _ _ _ ?_
    refine wpAnyU_take (i := 0) (v := ?_) rfl (by kernel_rfl) (by kernel_rfl) (by kernel_rfl) (by kernel_rfl) (fun _ _ _ h => h) (Or.inl ⟨by rfl, ?_⟩) h0 ?_
    rotate_left 1
    · (intro w' hS; (try dsimp only at hS); (try simp only [List.getElem_toArray, List.getElem_cons_succ, List.getElem_cons_zero]); go_simp; (try with_reducible rfl))
    try simp only [Act.put, List.getElem_toArray, List.getElem_cons_succ, List.getElem_cons_zero, List.setIfInBounds_toArray, List.set_cons_zero, List.set_cons_succ]
    refine wpAnyU_take (i := 1) (v := ?_) rfl (by kernel_rfl) (by kernel_rfl) (by kernel_rfl) (by kernel_rfl) (fun _ _ _ h => h) (Or.inl ⟨by rfl, ?_⟩) h0 ?_
    rotate_left 1
    · (intro w' hS; (try dsimp only at hS); (try simp only [List.getElem_toArray, List.getElem_cons_succ, List.getElem_cons_zero]); go_simp; (try with_reducible rfl))
    try simp only [Act.put, List.getElem_toArray, List.getElem_cons_succ, List.getElem_cons_zero, List.setIfInBounds_toArray, List.set_cons_zero, List.set_cons_succ]
    refine wpAnyU_take (i := 2) (v := undef) rfl (by kernel_rfl) (by kernel_rfl) (by kernel_rfl) (by kernel_rfl) (fun _ _ _ h => h) (Or.inr ⟨by rfl, rfl⟩) h0 ?_
    try simp only [Act.put, List.getElem_toArray, List.getElem_cons_succ, List.getElem_cons_zero, List.setIfInBounds_toArray, List.set_cons_zero, List.set_cons_succ]
    refine wpAnyU_take (i := 3) (v := undef) rfl (by kernel_rfl) (by kernel_rfl) (by kernel_rfl) (by kernel_rfl) (fun _ _ _ h => h) (Or.inr ⟨by rfl, rfl⟩) h0 ?_
    try simp only [Act.put, List.getElem_toArray, List.getElem_cons_succ, List.getElem_cons_zero, List.setIfInBounds_toArray, List.set_cons_zero, List.set_cons_succ]
    refine wpAnyU_take (i := 4) (v := undef) rfl (by kernel_rfl) (by kernel_rfl) (by kernel_rfl) (by kernel_rfl) (fun _ _ _ h => h) (Or.inr ⟨by rfl, rfl⟩) h0 ?_
    try simp only [Act.put, List.getElem_toArray, List.getElem_cons_succ, List.getElem_cons_zero, List.setIfInBounds_toArray, List.set_cons_zero, List.set_cons_succ]
    refine wpAnyU_take (i := 5) (v := undef) rfl (by kernel_rfl) (by kernel_rfl) (by kernel_rfl) (by kernel_rfl) (fun _ _ _ h => h) (Or.inr ⟨by rfl, rfl⟩) h0 ?_
    try simp only [Act.put, List.getElem_toArray, List.getElem_cons_succ, List.getElem_cons_zero, List.setIfInBounds_toArray, List.set_cons_zero, List.set_cons_succ]
    refine wpAnyU_take (i := 6) (v := undef) rfl (by kernel_rfl) (by kernel_rfl) (by kernel_rfl) (by kernel_rfl) (fun _ _ _ h => h) (Or.inr ⟨by rfl, rfl⟩) h0 ?_
    try simp only [Act.put, List.getElem_toArray, List.getElem_cons_succ, List.getElem_cons_zero, List.setIfInBounds_toArray, List.set_cons_zero, List.set_cons_succ]
    refine wpAnyU_take (i := 7) (v := undef) rfl (by kernel_rfl) (by kernel_rfl) (by kernel_rfl) (by kernel_rfl) (fun _ _ _ h => h) (Or.inr ⟨by rfl, rfl⟩) h0 ?_
    try simp only [Act.put, List.getElem_toArray, List.getElem_cons_succ, List.getElem_cons_zero, List.setIfInBounds_toArray, List.set_cons_zero, List.set_cons_succ]
    refine wpAnyU_take (i := 8) (v := undef) rfl (by kernel_rfl) (by kernel_rfl) (by kernel_rfl) (by kernel_rfl) (fun _ _ _ h => h) (Or.inr ⟨by rfl, rfl⟩) h0 ?_
    try simp only [Act.put, List.getElem_toArray, List.getElem_cons_succ, List.getElem_cons_zero, List.setIfInBounds_toArray, List.set_cons_zero, List.set_cons_succ]
    refine wpAnyU_take (i := 9) (v := undef) rfl (by kernel_rfl) (by kernel_rfl) (by kernel_rfl) (by kernel_rfl) (fun _ _ _ h => h) (Or.inr ⟨by rfl, rfl⟩) h0 ?_
    try simp only [Act.put, List.getElem_toArray, List.getElem_cons_succ, List.getElem_cons_zero, List.setIfInBounds_toArray, List.set_cons_zero, List.set_cons_succ]
    refine wpAnyU_take (i := 10) (v := undef) rfl (by kernel_rfl) (by kernel_rfl) (by kernel_rfl) (by kernel_rfl) (fun _ _ _ h => h) (Or.inr ⟨by rfl, rfl⟩) h0 ?_
    try simp only [Act.put, List.getElem_toArray, List.getElem_cons_succ, List.getElem_cons_zero, List.setIfInBounds_toArray, List.set_cons_zero, List.set_cons_succ]
    refine wpAnyU_take (i := 11) (v := undef) rfl (by kernel_rfl) (by kernel_rfl) (by kernel_rfl) (by kernel_rfl) (fun _ _ _ h => h) (Or.inr ⟨by rfl, rfl⟩) h0 ?_
    try simp only [Act.put, List.getElem_toArray, List.getElem_cons_succ, List.getElem_cons_zero, List.setIfInBounds_toArray, List.set_cons_zero, List.set_cons_succ]
    refine wpAnyU_take (i := 12) (v := undef) rfl (by kernel_rfl) (by kernel_rfl) (by kernel_rfl) (by kernel_rfl) (fun _ _ _ h => h) (Or.inr ⟨by rfl, rfl⟩) h0 ?_
    try simp only [Act.put, List.getElem_toArray, List.getElem_cons_succ, List.getElem_cons_zero, List.setIfInBounds_toArray, List.set_cons_zero, List.set_cons_succ]
    refine wpAnyU_take (i := 13) (v := undef) rfl (by kernel_rfl) (by kernel_rfl) (by kernel_rfl) (by kernel_rfl) (fun _ _ _ h => h) (Or.inr ⟨by rfl, rfl⟩) h0 ?_
    try simp only [Act.put, List.getElem_toArray, List.getElem_cons_succ, List.getElem_cons_zero, List.setIfInBounds_toArray, List.set_cons_zero, List.set_cons_succ]
    refine wpAnyU_take (i := 14) (v := undef) rfl (by kernel_rfl) (by kernel_rfl) (by kernel_rfl) (by kernel_rfl) (fun _ _ _ h => h) (Or.inr ⟨by rfl, rfl⟩) h0 ?_
    try simp only [Act.put, List.getElem_toArray, List.getElem_cons_succ, List.getElem_cons_zero, List.setIfInBounds_toArray, List.set_cons_zero, List.set_cons_succ]
    refine wpAnyU_take (i := 15) (v := ?_) rfl (by kernel_rfl) (by kernel_rfl) (by kernel_rfl) (by kernel_rfl) (fun _ _ _ h => h) (Or.inl ⟨by rfl, ?_⟩) h0 ?_
    rotate_left 1
    · (intro w' hS; (try dsimp only at hS); (try simp only [List.getElem_toArray, List.getElem_cons_succ, List.getElem_cons_zero]); go_simp; (try with_reducible rfl))
    try simp only [Act.put, List.getElem_toArray, List.getElem_cons_succ, List.getElem_cons_zero, List.setIfInBounds_toArray, List.set_cons_zero, List.set_cons_succ]
    refine wpAnyU_rest _ _ _ _ (fun j hj => ?_) ?_
    · simp at hj; rcases hj with rfl | rfl | rfl | rfl | rfl | rfl | rfl | rfl | rfl | rfl | rfl | rfl | rfl | rfl | rfl | rfl <;> rfl
    refine wpAny_all (rs := [16]) (by kernel_rfl) (by simp) (fun i hi => ?_)
    obtain rfl : i = 16 := by simpa using hi
    refine wpOpU_stepG rfl (by rfl) (fun K hK => ?_)
    go_simp
    refine hK _ _ ?_
    clear hK K
    try simp only [Act.put, List.getElem_toArray, List.getElem_cons_succ, List.getElem_cons_zero, List.setIfInBounds_toArray, List.set_cons_zero, List.set_cons_succ]
    refine wpAny_done (by kernel_rfl) ?_ _
    go_wp2
    go_ret
    exact Ends.mk [] (by simpa using H0.out.up0 (Nat.le_succ n))

theorem rrturn1_does (who x : Int) (hx : U64 x) (hn : n ≤ 1000000) (hl : σ.log.length ≤ 1000000) : Does Try.prog [refA x' (n) (σ), rrb q x' obj g cs.length, gb g cs] 52 #[ptr q, .int .i64 who, .int .u64 x, .int .i64 1] (.bool (σ.turned obj 1 x)) [refA x' (n + 1) (σ.turn who obj 1 x), rrb q x' obj g cs.length, gb g cs] := Does.of_scope fun S w0 w h => by
  have zm : w.cell? ⟨q, 0, none⟩ = some (ptr x') := (h.row 1 rfl).cell rfl
  have zo : w.cell? ⟨q, 1, none⟩ = some (.int .i64 obj) := (h.row 1 rfl).cell rfl
  have H0 := Lib.hid h.drew; have Hx := Lib.hid hx
  clear h hx
  cases hb : tB 1 x with
  | true =>
    rw [show σ.turned obj 1 x = decide (σ.num (wordL obj) = x) by simp [MS.turned, hb], show σ.turn who obj 1 x = σ.swap who (wordL obj) x (tW 1 x) from if_pos hb]
    have Hb := Lib.hid hb
    clear hb
    go_enter Try.func52, Try.ntmps52
    go_wp2_with fail
    refine (turned1_same Hx.out _).mono ?_
    rintro e w1 ⟨he, rfl⟩
    rw [show tR 1 x = .tuple #[.int .u64 (tW 1 x), .bool true] by simp [tR, Hb.out]] at he
    subst he
    go_wp2_with fail
    go_region_held3 (fun w' => w'.cell? ⟨q, 0, none⟩ = some (ptr x') ∧ w'.cell? ⟨q, 1, none⟩ = some (.int .i64 obj)) (refine ⟨?_, ?_⟩ <;> assumption)
      (first
        | (go_at_call 31
           refine ((rloc_pure 11 obj 0).at (Hid.out (by assumption))).mono ?_
           rintro e wq ⟨rfl, sq⟩
           have zm : wq.cell? ⟨q, 0, none⟩ = some (ptr x') := (sq.row 1 rfl).cell rfl
           have zo : wq.cell? ⟨q, 1, none⟩ = some (.int .i64 obj) := (sq.row 1 rfl).cell rfl
           have Hq := Lib.hid sq
           clear sq)
        | (go_at_call 71
           refine ((rswap_does who (wordL obj) x (tW 1 x) hn hl).at0 Hq.out).mono ?_
           rintro e wz ⟨rfl, sq⟩
           have zm : wz.cell? ⟨q, 0, none⟩ = some (ptr x') := (sq.row 1 rfl).cell rfl
           have zo : wz.cell? ⟨q, 1, none⟩ = some (.int .i64 obj) := (sq.row 1 rfl).cell rfl
           have Hz := Lib.hid sq
           clear sq))
    go_wp2
    go_ret
    exact Ends.mk [] (by simpa using Hz.out)
  | false =>
    rw [show σ.turned obj 1 x = false by simp [MS.turned, hb], show σ.turn who obj 1 x = σ from if_neg (by simp [hb])]
    have Hb := Lib.hid hb
    clear hb
    go_enter Try.func52, Try.ntmps52
    go_wp2_with fail
    refine (turned1_same Hx.out _).mono ?_
    rintro e w1 ⟨he, rfl⟩
    rw [show tR 1 x = .tuple #[.int .u64 (tW 1 x), .bool false] by simp [tR, Hb.out]] at he
    subst he
    go_wp2_with fail
    refine wp_region_any (by kernel_rfl) ?_
    change wpAny _ _ _ _ _ _ _ (World.drew _)
    have h0 : True := trivial
    refine wpAny_of_U (S := fun _ => True) (U := [0, 1, 2, 3, 4, 5, 6, 7, 8, 9, 10, 11, 12, 13, 14, 15]) _ _ _ _ ?_
    refine wpAnyU_take (i := 0) (v := ?_) rfl (by kernel_rfl) (by kernel_rfl) (by kernel_rfl) (by kernel_rfl) (fun _ _ _ h => h) (Or.inl ⟨by rfl, ?_⟩) h0 ?_
    rotate_left 1
    · (intro w' hS; (try dsimp only at hS); (try simp only [List.getElem_toArray, List.getElem_cons_succ, List.getElem_cons_zero]); go_simp; (try with_reducible rfl))
    try simp only [Act.put, List.getElem_toArray, List.getElem_cons_succ, List.getElem_cons_zero, List.setIfInBounds_toArray, List.set_cons_zero, List.set_cons_succ]
    refine wpAnyU_take (i := 1) (v := ?_) rfl (by kernel_rfl) (by kernel_rfl) (by kernel_rfl) (by kernel_rfl) (fun _ _ _ h => h) (Or.inl ⟨by rfl, ?_⟩) h0 ?_
    rotate_left 1
    · (intro w' hS; (try dsimp only at hS); (try simp only [List.getElem_toArray, List.getElem_cons_succ, List.getElem_cons_zero]); go_simp; (try with_reducible rfl))
    try simp only [Act.put, List.getElem_toArray, List.getElem_cons_succ, List.getElem_cons_zero, List.setIfInBounds_toArray, List.set_cons_zero, List.set_cons_succ]
    refine wpAnyU_take (i := 2) (v := undef) rfl (by kernel_rfl) (by kernel_rfl) (by kernel_rfl) (by kernel_rfl) (fun _ _ _ h => h) (Or.inr ⟨by rfl, rfl⟩) h0 ?_
    try simp only [Act.put, List.getElem_toArray, List.getElem_cons_succ, List.getElem_cons_zero, List.setIfInBounds_toArray, List.set_cons_zero, List.set_cons_succ]
    refine wpAnyU_take (i := 3) (v := undef) rfl (by kernel_rfl) (by kernel_rfl) (by kernel_rfl) (by kernel_rfl) (fun _ _ _ h => h) (Or.inr ⟨by rfl, rfl⟩) h0 ?_
    try simp only [Act.put, List.getElem_toArray, List.getElem_cons_succ, List.getElem_cons_zero, List.setIfInBounds_toArray, List.set_cons_zero, List.set_cons_succ]
    refine wpAnyU_take (i := 4) (v := undef) rfl (by kernel_rfl) (by kernel_rfl) (by kernel_rfl) (by kernel_rfl) (fun _ _ _ h => h) (Or.inr ⟨by rfl, rfl⟩) h0 ?_
    try simp only [Act.put, List.getElem_toArray, List.getElem_cons_succ, List.getElem_cons_zero, List.setIfInBounds_toArray, List.set_cons_zero, List.set_cons_succ]
    refine wpAnyU_take (i := 5) (v := undef) rfl (by kernel_rfl) (by kernel_rfl) (by kernel_rfl) (by kernel_rfl) (fun _ _ _ h => h) (Or.inr ⟨by rfl, rfl⟩) h0 ?_
    try simp only [Act.put, List.getElem_toArray, List.getElem_cons_succ, List.getElem_cons_zero, List.setIfInBounds_toArray, List.set_cons_zero, List.set_cons_succ]
    refine wpAnyU_take (i := 6) (v := undef) rfl (by kernel_rfl) (by kernel_rfl) (by kernel_rfl) (by kernel_rfl) (fun _ _ _ h => h) (Or.inr ⟨by rfl, rfl⟩) h0 ?_
    try simp only [Act.put, List.getElem_toArray, List.getElem_cons_succ, List.getElem_cons_zero, List.setIfInBounds_toArray, List.set_cons_zero, List.set_cons_succ]
    refine wpAnyU_take (i := 7) (v := undef) rfl (by kernel_rfl) (by kernel_rfl) (by kernel_rfl) (by kernel_rfl) (fun _ _ _ h => h) (Or.inr ⟨by rfl, rfl⟩) h0 ?_
    try simp only [Act.put, List.getElem_toArray, List.getElem_cons_succ, List.getElem_cons_zero, List.setIfInBounds_toArray, List.set_cons_zero, List.set_cons_succ]
    refine wpAnyU_take (i := 8) (v := undef) rfl (by kernel_rfl) (by kernel_rfl) (by kernel_rfl) (by kernel_rfl) (fun _ _ _ h => h) (Or.inr ⟨by rfl, rfl⟩) h0 ?_
    try simp only [Act.put, List.getElem_toArray, List.getElem_cons_succ, List.getElem_cons_zero, List.setIfInBounds_toArray, List.set_cons_zero, List.set_cons_succ]
    refine wpAnyU_take (i := 9) (v := undef) rfl (by kernel_rfl) (by kernel_rfl) (by kernel_rfl) (by kernel_rfl) (fun _ _ _ h => h) (Or.inr ⟨by rfl, rfl⟩) h0 ?_
    try simp only [Act.put, List.getElem_toArray, List.getElem_cons_succ, List.getElem_cons_zero, List.setIfInBounds_toArray, List.set_cons_zero, List.set_cons_succ]
    refine wpAnyU_take (i := 10) (v := undef) rfl (by kernel_rfl) (by kernel_rfl) (by kernel_rfl) (by kernel_rfl) (fun _ _ _ h => h) (Or.inr ⟨by rfl, rfl⟩) h0 ?_
    try simp only [Act.put, List.getElem_toArray, List.getElem_cons_succ, List.getElem_cons_zero, List.setIfInBounds_toArray, List.set_cons_zero, List.set_cons_succ]
    refine wpAnyU_take (i := 11) (v := undef) rfl (by kernel_rfl) (by kernel_rfl) (by kernel_rfl) (by kernel_rfl) (fun _ _ _ h => h) (Or.inr ⟨by rfl, rfl⟩) h0 ?_
    try simp only [Act.put, List.getElem_toArray, List.getElem_cons_succ, List.getElem_cons_zero, List.setIfInBounds_toArray, List.set_cons_zero, List.set_cons_succ]
    refine wpAnyU_take (i := 12) (v := undef) rfl (by kernel_rfl) (by kernel_rfl) (by kernel_rfl) (by kernel_rfl) (fun _ _ _ h => h) (Or.inr ⟨by rfl, rfl⟩) h0 ?_
    try simp only [Act.put, List.getElem_toArray, List.getElem_cons_succ, List.getElem_cons_zero, List.setIfInBounds_toArray, List.set_cons_zero, List.set_cons_succ]
    refine wpAnyU_take (i := 13) (v := undef) rfl (by kernel_rfl) (by kernel_rfl) (by kernel_rfl) (by kernel_rfl) (fun _ _ _ h => h) (Or.inr ⟨by rfl, rfl⟩) h0 ?_
    try simp only [Act.put, List.getElem_toArray, List.getElem_cons_succ, List.getElem_cons_zero, List.setIfInBounds_toArray, List.set_cons_zero, List.set_cons_succ]
    refine wpAnyU_take (i := 14) (v := undef) rfl (by kernel_rfl) (by kernel_rfl) (by kernel_rfl) (by kernel_rfl) (fun _ _ _ h => h) (Or.inr ⟨by rfl, rfl⟩) h0 ?_
    try simp only [Act.put, List.getElem_toArray, List.getElem_cons_succ, List.getElem_cons_zero, List.setIfInBounds_toArray, List.set_cons_zero, List.set_cons_succ]
    refine wpAnyU_take (i := 15) (v := ?_) rfl (by kernel_rfl) (by kernel_rfl) (by kernel_rfl) (by kernel_rfl) (fun _ _ _ h => h) (Or.inl ⟨by rfl, ?_⟩) h0 ?_
    rotate_left 1
    · (intro w' hS; (try dsimp only at hS); (try simp only [List.getElem_toArray, List.getElem_cons_succ, List.getElem_cons_zero]); go_simp; (try with_reducible rfl))
    try simp only [Act.put, List.getElem_toArray, List.getElem_cons_succ, List.getElem_cons_zero, List.setIfInBounds_toArray, List.set_cons_zero, List.set_cons_succ]
    refine wpAnyU_rest _ _ _ _ (fun j hj => ?_) ?_
    · simp at hj; rcases hj with rfl | rfl | rfl | rfl | rfl | rfl | rfl | rfl | rfl | rfl | rfl | rfl | rfl | rfl | rfl | rfl <;> rfl
    refine wpAny_all (rs := [16]) (by kernel_rfl) (by simp) (fun i hi => ?_)
    obtain rfl : i = 16 := by simpa using hi
    refine wpOpU_stepG rfl (by rfl) (fun K hK => ?_)
    go_simp
    refine hK _ _ ?_
    clear hK K
    try simp only [Act.put, List.getElem_toArray, List.getElem_cons_succ, List.getElem_cons_zero, List.setIfInBounds_toArray, List.set_cons_zero, List.set_cons_succ]
    refine wpAny_done (by kernel_rfl) ?_ _
    go_wp2
    go_ret
    exact Ends.mk [] (by simpa using H0.out.up0 (Nat.le_succ n))

theorem rrturn2_does (who x : Int) (hx : U64 x) (hn : n ≤ 1000000) (hl : σ.log.length ≤ 1000000) : Does Try.prog [refA x' (n) (σ), rrb q x' obj g cs.length, gb g cs] 52 #[ptr q, .int .i64 who, .int .u64 x, .int .i64 2] (.bool (σ.turned obj 2 x)) [refA x' (n + 1) (σ.turn who obj 2 x), rrb q x' obj g cs.length, gb g cs] := Does.of_scope fun S w0 w h => by
  have zm : w.cell? ⟨q, 0, none⟩ = some (ptr x') := (h.row 1 rfl).cell rfl
  have zo : w.cell? ⟨q, 1, none⟩ = some (.int .i64 obj) := (h.row 1 rfl).cell rfl
  have H0 := Lib.hid h.drew; have Hx := Lib.hid hx
  clear h hx
  cases hb : tB 2 x with
  | true =>
    rw [show σ.turned obj 2 x = decide (σ.num (wordL obj) = x) by simp [MS.turned, hb], show σ.turn who obj 2 x = σ.swap who (wordL obj) x (tW 2 x) from if_pos hb]
    have Hb := Lib.hid hb
    clear hb
    go_enter Try.func52, Try.ntmps52
    go_wp2_with fail
    refine (turned2_same Hx.out _).mono ?_
    rintro e w1 ⟨he, rfl⟩
    rw [show tR 2 x = .tuple #[.int .u64 (tW 2 x), .bool true] by simp [tR, Hb.out]] at he
    subst he
    go_wp2_with fail
    go_region_held3 (fun w' => w'.cell? ⟨q, 0, none⟩ = some (ptr x') ∧ w'.cell? ⟨q, 1, none⟩ = some (.int .i64 obj)) (refine ⟨?_, ?_⟩ <;> assumption)
      (first
        | (go_at_call 31
           refine ((rloc_pure 11 obj 0).at (Hid.out (by assumption))).mono ?_
           rintro e wq ⟨rfl, sq⟩
           have zm : wq.cell? ⟨q, 0, none⟩ = some (ptr x') := (sq.row 1 rfl).cell rfl
           have zo : wq.cell? ⟨q, 1, none⟩ = some (.int .i64 obj) := (sq.row 1 rfl).cell rfl
           have Hq := Lib.hid sq
           clear sq)
        | (go_at_call 71
           refine ((rswap_does who (wordL obj) x (tW 2 x) hn hl).at0 Hq.out).mono ?_
           rintro e wz ⟨rfl, sq⟩
           have zm : wz.cell? ⟨q, 0, none⟩ = some (ptr x') := (sq.row 1 rfl).cell rfl
           have zo : wz.cell? ⟨q, 1, none⟩ = some (.int .i64 obj) := (sq.row 1 rfl).cell rfl
           have Hz := Lib.hid sq
           clear sq))
    go_wp2
    go_ret
    exact Ends.mk [] (by simpa using Hz.out)
  | false =>
    rw [show σ.turned obj 2 x = false by simp [MS.turned, hb], show σ.turn who obj 2 x = σ from if_neg (by simp [hb])]
    have Hb := Lib.hid hb
    clear hb
    go_enter Try.func52, Try.ntmps52
    go_wp2_with fail
    refine (turned2_same Hx.out _).mono ?_
    rintro e w1 ⟨he, rfl⟩
    rw [show tR 2 x = .tuple #[.int .u64 (tW 2 x), .bool false] by simp [tR, Hb.out]] at he
    subst he
    go_wp2_with fail
    refine wp_region_any (by kernel_rfl) ?_
    change wpAny _ _ _ _ _ _ _ (World.drew _)
    have h0 : True := trivial
    refine wpAny_of_U (S := fun _ => True) (U := [0, 1, 2, 3, 4, 5, 6, 7, 8, 9, 10, 11, 12, 13, 14, 15]) _ _ _ _ ?_
    refine wpAnyU_take (i := 0) (v := ?_) rfl (by kernel_rfl) (by kernel_rfl) (by kernel_rfl) (by kernel_rfl) (fun _ _ _ h => h) (Or.inl ⟨by rfl, ?_⟩) h0 ?_
    rotate_left 1
    · (intro w' hS; (try dsimp only at hS); (try simp only [List.getElem_toArray, List.getElem_cons_succ, List.getElem_cons_zero]); go_simp; (try with_reducible rfl))
    try simp only [Act.put, List.getElem_toArray, List.getElem_cons_succ, List.getElem_cons_zero, List.setIfInBounds_toArray, List.set_cons_zero, List.set_cons_succ]
    refine wpAnyU_take (i := 1) (v := ?_) rfl (by kernel_rfl) (by kernel_rfl) (by kernel_rfl) (by kernel_rfl) (fun _ _ _ h => h) (Or.inl ⟨by rfl, ?_⟩) h0 ?_
    rotate_left 1
    · (intro w' hS; (try dsimp only at hS); (try simp only [List.getElem_toArray, List.getElem_cons_succ, List.getElem_cons_zero]); go_simp; (try with_reducible rfl))
    try simp only [Act.put, List.getElem_toArray, List.getElem_cons_succ, List.getElem_cons_zero, List.setIfInBounds_toArray, List.set_cons_zero, List.set_cons_succ]
    refine wpAnyU_take (i := 2) (v := undef) rfl (by kernel_rfl) (by kernel_rfl) (by kernel_rfl) (by kernel_rfl) (fun _ _ _ h => h) (Or.inr ⟨by rfl, rfl⟩) h0 ?_
    try simp only [Act.put, List.getElem_toArray, List.getElem_cons_succ, List.getElem_cons_zero, List.setIfInBounds_toArray, List.set_cons_zero, List.set_cons_succ]
    refine wpAnyU_take (i := 3) (v := undef) rfl (by kernel_rfl) (by kernel_rfl) (by kernel_rfl) (by kernel_rfl) (fun _ _ _ h => h) (Or.inr ⟨by rfl, rfl⟩) h0 ?_
    try simp only [Act.put, List.getElem_toArray, List.getElem_cons_succ, List.getElem_cons_zero, List.setIfInBounds_toArray, List.set_cons_zero, List.set_cons_succ]
    refine wpAnyU_take (i := 4) (v := undef) rfl (by kernel_rfl) (by kernel_rfl) (by kernel_rfl) (by kernel_rfl) (fun _ _ _ h => h) (Or.inr ⟨by rfl, rfl⟩) h0 ?_
    try simp only [Act.put, List.getElem_toArray, List.getElem_cons_succ, List.getElem_cons_zero, List.setIfInBounds_toArray, List.set_cons_zero, List.set_cons_succ]
    refine wpAnyU_take (i := 5) (v := undef) rfl (by kernel_rfl) (by kernel_rfl) (by kernel_rfl) (by kernel_rfl) (fun _ _ _ h => h) (Or.inr ⟨by rfl, rfl⟩) h0 ?_
    try simp only [Act.put, List.getElem_toArray, List.getElem_cons_succ, List.getElem_cons_zero, List.setIfInBounds_toArray, List.set_cons_zero, List.set_cons_succ]
    refine wpAnyU_take (i := 6) (v := undef) rfl (by kernel_rfl) (by kernel_rfl) (by kernel_rfl) (by kernel_rfl) (fun _ _ _ h => h) (Or.inr ⟨by rfl, rfl⟩) h0 ?_
    try simp only [Act.put, List.getElem_toArray, List.getElem_cons_succ, List.getElem_cons_zero, List.setIfInBounds_toArray, List.set_cons_zero, List.set_cons_succ]
    refine wpAnyU_take (i := 7) (v := undef) rfl (by kernel_rfl) (by kernel_rfl) (by kernel_rfl) (by kernel_rfl) (fun _ _ _ h => h) (Or.inr ⟨by rfl, rfl⟩) h0 ?_
    try simp only [Act.put, List.getElem_toArray, List.getElem_cons_succ, List.getElem_cons_zero, List.setIfInBounds_toArray, List.set_cons_zero, List.set_cons_succ]
    refine wpAnyU_take (i := 8) (v := undef) rfl (by kernel_rfl) (by kernel_rfl) (by kernel_rfl) (by kernel_rfl) (fun _ _ _ h => h) (Or.inr ⟨by rfl, rfl⟩) h0 ?_
    try simp only [Act.put, List.getElem_toArray, List.getElem_cons_succ, List.getElem_cons_zero, List.setIfInBounds_toArray, List.set_cons_zero, List.set_cons_succ]
    refine wpAnyU_take (i := 9) (v := undef) rfl (by kernel_rfl) (by kernel_rfl) (by kernel_rfl) (by kernel_rfl) (fun _ _ _ h => h) (Or.inr ⟨by rfl, rfl⟩) h0 ?_
    try simp only [Act.put, List.getElem_toArray, List.getElem_cons_succ, List.getElem_cons_zero, List.setIfInBounds_toArray, List.set_cons_zero, List.set_cons_succ]
    refine wpAnyU_take (i := 10) (v := undef) rfl (by kernel_rfl) (by kernel_rfl) (by kernel_rfl) (by kernel_rfl) (fun _ _ _ h => h) (Or.inr ⟨by rfl, rfl⟩) h0 ?_
    try simp only [Act.put, List.getElem_toArray, List.getElem_cons_succ, List.getElem_cons_zero, List.setIfInBounds_toArray, List.set_cons_zero, List.set_cons_succ]
    refine wpAnyU_take (i := 11) (v := undef) rfl (by kernel_rfl) (by kernel_rfl) (by kernel_rfl) (by kernel_rfl) (fun _ _ _ h => h) (Or.inr ⟨by rfl, rfl⟩) h0 ?_
    try simp only [Act.put, List.getElem_toArray, List.getElem_cons_succ, List.getElem_cons_zero, List.setIfInBounds_toArray, List.set_cons_zero, List.set_cons_succ]
    refine wpAnyU_take (i := 12) (v := undef) rfl (by kernel_rfl) (by kernel_rfl) (by kernel_rfl) (by kernel_rfl) (fun _ _ _ h => h) (Or.inr ⟨by rfl, rfl⟩) h0 ?_
    try simp only [Act.put, List.getElem_toArray, List.getElem_cons_succ, List.getElem_cons_zero, List.setIfInBounds_toArray, List.set_cons_zero, List.set_cons_succ]
    refine wpAnyU_take (i := 13) (v := undef) rfl (by kernel_rfl) (by kernel_rfl) (by kernel_rfl) (by kernel_rfl) (fun _ _ _ h => h) (Or.inr ⟨by rfl, rfl⟩) h0 ?_
    try simp only [Act.put, List.getElem_toArray, List.getElem_cons_succ, List.getElem_cons_zero, List.setIfInBounds_toArray, List.set_cons_zero, List.set_cons_succ]
    refine wpAnyU_take (i := 14) (v := undef) rfl (by kernel_rfl) (by kernel_rfl) (by kernel_rfl) (by kernel_rfl) (fun _ _ _ h => h) (Or.inr ⟨by rfl, rfl⟩) h0 ?_
    try simp only [Act.put, List.getElem_toArray, List.getElem_cons_succ, List.getElem_cons_zero, List.setIfInBounds_toArray, List.set_cons_zero, List.set_cons_succ]
    refine wpAnyU_take (i := 15) (v := ?_) rfl (by kernel_rfl) (by kernel_rfl) (by kernel_rfl) (by kernel_rfl) (fun _ _ _ h => h) (Or.inl ⟨by rfl, ?_⟩) h0 ?_
    rotate_left 1
    · (intro w' hS; (try dsimp only at hS); (try simp only [List.getElem_toArray, List.getElem_cons_succ, List.getElem_cons_zero]); go_simp; (try with_reducible rfl))
    try simp only [Act.put, List.getElem_toArray, List.getElem_cons_succ, List.getElem_cons_zero, List.setIfInBounds_toArray, List.set_cons_zero, List.set_cons_succ]
    refine wpAnyU_rest _ _ _ _ (fun j hj => ?_) ?_
    · simp at hj; rcases hj with rfl | rfl | rfl | rfl | rfl | rfl | rfl | rfl | rfl | rfl | rfl | rfl | rfl | rfl | rfl | rfl <;> rfl
    refine wpAny_all (rs := [16]) (by kernel_rfl) (by simp) (fun i hi => ?_)
    obtain rfl : i = 16 := by simpa using hi
    refine wpOpU_stepG rfl (by rfl) (fun K hK => ?_)
    go_simp
    refine hK _ _ ?_
    clear hK K
    try simp only [Act.put, List.getElem_toArray, List.getElem_cons_succ, List.getElem_cons_zero, List.setIfInBounds_toArray, List.set_cons_zero, List.set_cons_succ]
    refine wpAny_done (by kernel_rfl) ?_ _
    go_wp2
    go_ret
    exact Ends.mk [] (by simpa using H0.out.up0 (Nat.le_succ n))
end
end Go.Proofs.Ytjipjhmcpjffcad
