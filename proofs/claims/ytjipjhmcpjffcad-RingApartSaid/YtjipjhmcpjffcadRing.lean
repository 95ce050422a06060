/- The methods of package ring: what they do to the memory under them, and to their cells. -/
import Derived.Test.YtjipjhmcpjffcadWordB
import Derived.Test.YtjipjhmcpjffcadNe
set_option linter.unusedSimpArgs false
set_option linter.unusedVariables false
set_option maxRecDepth 20000
namespace Go.Proofs.Ytjipjhmcpjffcad
open Go Go.RowKit Go.Maps

/-- A packet. -/
structure Pk where
  flow : Int
  len : Int
  mark : Int
  deriving DecidableEq
def Pk.cells (p : Pk) : List Value := [.int .i64 p.flow, .int .i64 p.len, .int .i64 p.mark]
@[reducible] def Pk.val (p : Pk) : Value := .agg #[.int .i64 p.flow, .int .i64 p.len, .int .i64 p.mark]
def Pk.zero : Pk := ⟨0, 0, 0⟩
def pks (l : List Pk) : List Value := l.flatMap Pk.cells
theorem pks_length (l : List Pk) : (pks l).length = l.length * 3 := by
  unfold pks
  induction l with
  | nil => rfl
  | cons e l ih => simp [Pk.cells, ih]; omega
theorem pks_get : ∀ (l : List Pk) (k : Nat) (p : Pk), l[k]? = some p → (pks l)[k * 3]? = some (.int .i64 p.flow) ∧ (pks l)[k * 3 + 1]? = some (.int .i64 p.len) ∧ (pks l)[k * 3 + 2]? = some (.int .i64 p.mark) := by
  intro l
  induction l with
  | nil => intro k p h; simp at h
  | cons x l ih =>
    intro k p h
    have e : pks (x :: l) = x.cells ++ pks l := by simp [pks]
    cases k with
    | zero => simp at h; subst h; rw [e]; exact ⟨rfl, rfl, rfl⟩
    | succ k =>
      obtain ⟨h0, h1, h2⟩ := ih k p (by simpa using h)
      have hl : x.cells.length = 3 := rfl
      rw [e, List.getElem?_append_right (by omega), List.getElem?_append_right (by omega), List.getElem?_append_right (by omega), hl, show (k + 1) * 3 - 3 = k * 3 by omega, show (k + 1) * 3 + 1 - 3 = k * 3 + 1 by omega, show (k + 1) * 3 + 2 - 3 = k * 3 + 2 by omega]
      exact ⟨h0, h1, h2⟩
theorem pks_set : ∀ (l : List Pk) (k : Nat) (p : Pk), k < l.length → (((pks l).set (k * 3) (.int .i64 p.flow)).set (k * 3 + 1) (.int .i64 p.len)).set (k * 3 + 2) (.int .i64 p.mark) = pks (l.set k p) := by
  intro l
  induction l with
  | nil => intro k p h; simp at h
  | cons x l ih =>
    intro k p h
    have e : ∀ y, pks (y :: l) = y.cells ++ pks l := fun y => by simp [pks]
    have e' : ∀ l', pks (x :: l') = x.cells ++ pks l' := fun y => by simp [pks]
    cases k with
    | zero => simp only [List.set_cons_zero]; rw [e, e]; rfl
    | succ k =>
      have := ih k p (by simpa using h)
      simp only [List.set_cons_succ]
      rw [e', e', ← this]
      have hl : x.cells.length = 3 := rfl
      rw [List.set_append_right _ _ (by omega), List.set_append_right _ _ (by omega), List.set_append_right _ _ (by omega), hl, show (k + 1) * 3 - 3 = k * 3 by omega, show (k + 1) * 3 + 1 - 3 = k * 3 + 1 by omega, show (k + 1) * 3 + 2 - 3 = k * 3 + 2 by omega]

@[reducible] def rb (p m : Nat) (obj : Int) (g n : Nat) : HA := box p [ptr m, .int .i64 obj, .slice (some ⟨g, 0, none⟩) n n] 75
@[reducible] def gb (g : Nat) (cs : List Pk) : HA := box g (pks cs) 44
@[reducible] def wordL (obj : Int) : Lc := ⟨11, obj, 0⟩
@[reducible] def headL (obj : Int) : Lc := ⟨12, obj, 0⟩
@[reducible] def flagL (obj : Int) (c : Nat) : Lc := ⟨15, obj, c⟩
@[reducible] def cellL (obj : Int) (c : Nat) : Lc := ⟨16, obj, c⟩
theorem small64 {k : Int} (h0 : 0 ≤ k) (h1 : k ≤ 1000) : I64 k := by unfold I64; omega
theorem wordL_wf {obj : Int} (h : I64 obj) : (wordL obj).wf := ⟨(show I64 11 from small64 (by omega) (by omega)), h, (show I64 0 from small64 (by omega) (by omega))⟩
theorem headL_wf {obj : Int} (h : I64 obj) : (headL obj).wf := ⟨(show I64 12 from small64 (by omega) (by omega)), h, (show I64 0 from small64 (by omega) (by omega))⟩
theorem flagL_wf {obj : Int} {c : Nat} (h : I64 obj) (hc : c ≤ 1000) : (flagL obj c).wf := ⟨(show I64 15 from small64 (by omega) (by omega)), h, (show I64 (c : Int) from small64 (by omega) (by omega))⟩
theorem cellL_wf {obj : Int} {c : Nat} (h : I64 obj) (hc : c ≤ 1000) : (cellL obj c).wf := ⟨(show I64 16 from small64 (by omega) (by omega)), h, (show I64 (c : Int) from small64 (by omega) (by omega))⟩
/-- The cell of a place. -/
def ix (n : Int) (l : Nat) : Nat := (n % (l : Int)).toNat
theorem ix_lt {n : Int} {l : Nat} (h : 0 < l) : ix n l < l := by
  have h1 := Int.emod_nonneg n (show (l : Int) ≠ 0 by omega)
  have h2 := Int.emod_lt_of_pos n (show (0 : Int) < (l : Int) by omega)
  unfold ix
  omega
theorem ix_is {n : Int} {l : Nat} (h : 0 < l) : n % (l : Int) = (ix n l : Int) := by
  have h1 := Int.emod_nonneg n (show (l : Int) ≠ 0 by omega)
  unfold ix
  omega

section
variable {p m g : Nat} {obj : Int} {σ : MS} {cs : List Pk}
set_option maxHeartbeats 1000000
theorem rat_does (n : Nat) (k c : Int) : Does Try.prog [rb p m obj g n] 39 #[ptr p, .int .i64 k, .int .i64 c] (⟨k, obj, c⟩ : Lc).val [rb p m obj g n] := Does.of_scope fun S w0 w h => by
  have c1 : w.cell? ⟨p, 1, none⟩ = some (.int .i64 obj) := (h.row 0 rfl).cell rfl
  have lp := (h.row 0 rfl).lt
  have H0 := Lib.hid h
  clear h
  go_enter Try.func39, Try.ntmps39
  go_wp2
  refine bodyPost_ret (results_cell_row rfl _ _ w.heap.size 62 #[.int .i64 k, .int .i64 obj, .int .i64 c] (0, 0) _ rfl (Row.new w [.int .i64 k, .int .i64 obj, .int .i64 c] 62) Try.underlying62 rfl (by kernel_rfl)) rfl ?_
  exact Ends.mk [] (by simpa using H0.out.alloc _)
theorem rcell_does {x : Int} (hx : U64 x) (l : Nat) (h0 : 0 < l) (h1 : l ≤ 1000) : Does Try.prog [rb p m obj g l] 40 #[ptr p, .int .u64 x] (.int .i64 (ix x l : Nat)) [rb p m obj g l] := Does.of_scope fun S w0 w h => by
  have c1 : w.cell? ⟨p, 2, none⟩ = some (.slice (some ⟨g, 0, none⟩) l l) := (h.row 0 rfl).cell rfl
  have x0 := hx.1; have x1 := hx.2
  have e1 : IntKind.u64.wrap (l : Int) = (l : Int) := by rw [IntKind.wrap_u64]; omega
  have b := ix_lt (n := x) h0
  have e2 : x % (l : Int) = (ix x l : Int) := ix_is h0
  have e3 : x.tmod (l : Int) = (ix x l : Int) := by rw [Int.tmod_eq_emod_of_nonneg x0, e2]
  have e4 : IntKind.i64.wrap (ix x l : Int) = (ix x l : Int) := by rw [IntKind.wrap_i64]; omega
  have e5 : IntKind.u64.wrap (ix x l : Int) = (ix x l : Int) := by rw [IntKind.wrap_u64]; omega
  have l0 : (0 : Int) < (l : Int) := by omega
  have H0 := Lib.hid h
  clear h hx
  go_enter Try.func40, Try.ntmps40
  go_wp2
  go_ret
  exact Ends.mk [] (by simpa using H0.out)
theorem rmost_does : Does Try.prog [rb p m obj g cs.length] 13 #[ptr p] (.int .i64 cs.length) [rb p m obj g cs.length] := Does.of_scope fun S w0 w h => by
  have c1 : w.cell? ⟨p, 2, none⟩ = some (.slice (some ⟨g, 0, none⟩) cs.length cs.length) := (h.row 0 rfl).cell rfl
  have H0 := Lib.hid h
  clear h
  go_enter Try.func13, Try.ntmps13
  go_wp2
  go_ret
  exact Ends.mk [] (by simpa using H0.out)

/-- Word. -/
theorem rword_does (who : Int) (ho : I64 obj) (hl : σ.log.length ≤ 1000000) :
    Does Try.prog [memA m (σ), rb p m obj g cs.length, gb g cs] 18 #[ptr p, .int .i64 who] (.int .u64 (σ.num (wordL obj))) [memA m (σ.put who 1 (wordL obj)), rb p m obj g cs.length, gb g cs] := Does.of_scope fun S w0 w h => by
  have zm : w.cell? ⟨p, 0, none⟩ = some (ptr m) := (h.row 1 rfl).cell rfl
  have zsl : w.cell? ⟨p, 2, none⟩ = some (.slice (some ⟨g, 0, none⟩) cs.length cs.length) := (h.row 1 rfl).cell rfl
  have H0 := Lib.hid h.drew
  have H00 := Lib.hid h
  clear h
  have hw := wordL_wf ho; have Hw := Lib.hid hw
  clear hw
  go_enter Try.func18, Try.ntmps18
  go_wp2_with fail
  go_region_held3 (fun w' => w'.cell? ⟨p, 0, none⟩ = some (ptr m)) (go_keep)
    (first
      | (go_at_call 39
         refine ((rat_does cs.length 11 0).at1 (Hid.out (by assumption))).mono ?_
         rintro e wq ⟨rfl, sq⟩
         have zm : wq.cell? ⟨p, 0, none⟩ = some (ptr m) := (sq.row 1 rfl).cell rfl
         have Hq := Lib.hid sq
         clear sq)
      | (go_at_call 38
         refine ((load_does who (wordL obj) Hw.out hl).at0 (Hid.out (by assumption))).mono ?_
         rintro e wz ⟨rfl, sq⟩
         have zm : wz.cell? ⟨p, 0, none⟩ = some (ptr m) := (sq.row 1 rfl).cell rfl
         have Hz := Lib.hid sq
         clear sq))
  go_wp2
  go_ret
  exact Ends.mk [] (by simpa using Hz.out)

/-- Head. -/
theorem rhead_does (who : Int) (ho : I64 obj) (hl : σ.log.length ≤ 1000000) :
    Does Try.prog [memA m (σ), rb p m obj g cs.length, gb g cs] 19 #[ptr p, .int .i64 who] (.int .u64 (σ.num (headL obj))) [memA m (σ.put who 1 (headL obj)), rb p m obj g cs.length, gb g cs] := Does.of_scope fun S w0 w h => by
  have zm : w.cell? ⟨p, 0, none⟩ = some (ptr m) := (h.row 1 rfl).cell rfl
  have zsl : w.cell? ⟨p, 2, none⟩ = some (.slice (some ⟨g, 0, none⟩) cs.length cs.length) := (h.row 1 rfl).cell rfl
  have H0 := Lib.hid h.drew
  have H00 := Lib.hid h
  clear h
  have hw := headL_wf ho; have Hw := Lib.hid hw
  clear hw
  go_enter Try.func19, Try.ntmps19
  go_wp2_with fail
  go_region_held3 (fun w' => w'.cell? ⟨p, 0, none⟩ = some (ptr m)) (go_keep)
    (first
      | (go_at_call 39
         refine ((rat_does cs.length 12 0).at1 (Hid.out (by assumption))).mono ?_
         rintro e wq ⟨rfl, sq⟩
         have zm : wq.cell? ⟨p, 0, none⟩ = some (ptr m) := (sq.row 1 rfl).cell rfl
         have Hq := Lib.hid sq
         clear sq)
      | (go_at_call 38
         refine ((load_does who (headL obj) Hw.out hl).at0 (Hid.out (by assumption))).mono ?_
         rintro e wz ⟨rfl, sq⟩
         have zm : wz.cell? ⟨p, 0, none⟩ = some (ptr m) := (sq.row 1 rfl).cell rfl
         have Hz := Lib.hid sq
         clear sq))
  go_wp2
  go_ret
  exact Ends.mk [] (by simpa using Hz.out)

/-- Free. -/
theorem rfree_does (who x : Int) (ho : I64 obj) (hl : σ.log.length ≤ 1000000) :
    Does Try.prog [memA m (σ), rb p m obj g cs.length, gb g cs] 25 #[ptr p, .int .i64 who, .int .u64 x] (.tuple #[]) [memA m ((σ.put who 2 (headL obj)).set (headL obj) (IntKind.u64.wrap (x + 1))), rb p m obj g cs.length, gb g cs] := Does.of_scope fun S w0 w h => by
  have zm : w.cell? ⟨p, 0, none⟩ = some (ptr m) := (h.row 1 rfl).cell rfl
  have zsl : w.cell? ⟨p, 2, none⟩ = some (.slice (some ⟨g, 0, none⟩) cs.length cs.length) := (h.row 1 rfl).cell rfl
  have H0 := Lib.hid h.drew
  have H00 := Lib.hid h
  clear h
  have hw := headL_wf ho; have Hw := Lib.hid hw
  clear hw
  go_enter Try.func25, Try.ntmps25
  go_wp2_with fail
  go_region_held3 (fun w' => w'.cell? ⟨p, 0, none⟩ = some (ptr m)) (go_keep)
    (first
      | (go_at_call 39
         refine ((rat_does cs.length 12 0).at1 (Hid.out (by assumption))).mono ?_
         rintro e wq ⟨rfl, sq⟩
         have zm : wq.cell? ⟨p, 0, none⟩ = some (ptr m) := (sq.row 1 rfl).cell rfl
         have Hq := Lib.hid sq
         clear sq)
      | (go_at_call 42
         refine ((store_does who (headL obj) Hw.out (IntKind.u64.wrap (x + 1)) (u64_wrap _) hl).at0 (Hid.out (by assumption))).mono ?_
         rintro e wz ⟨rfl, sq⟩
         have zm : wz.cell? ⟨p, 0, none⟩ = some (ptr m) := (sq.row 1 rfl).cell rfl
         have Hz := Lib.hid sq
         clear sq))
  go_wp2
  go_end0
  exact Ends.mk [] (by simpa using Hz.out)

/-- Show. -/
theorem rshow_does (who x : Int) (ho : I64 obj) (hl : σ.log.length ≤ 1000000) (hx : U64 x) (c0 : 0 < cs.length) (c8 : cs.length ≤ 1000) :
    Does Try.prog [memA m (σ), rb p m obj g cs.length, gb g cs] 23 #[ptr p, .int .i64 who, .int .u64 x] (.tuple #[]) [memA m ((σ.put who 2 (flagL obj (ix x cs.length))).set (flagL obj (ix x cs.length)) (IntKind.u64.wrap (x + 1))), rb p m obj g cs.length, gb g cs] := Does.of_scope fun S w0 w h => by
  have zm : w.cell? ⟨p, 0, none⟩ = some (ptr m) := (h.row 1 rfl).cell rfl
  have zsl : w.cell? ⟨p, 2, none⟩ = some (.slice (some ⟨g, 0, none⟩) cs.length cs.length) := (h.row 1 rfl).cell rfl
  have H0 := Lib.hid h.drew
  have H00 := Lib.hid h
  clear h
  have bx := ix_lt (n := x) c0
  have hw := flagL_wf (c := ix x cs.length) ho (by omega); have Hw := Lib.hid hw
  clear hw
  go_enter Try.func23, Try.ntmps23
  go_wp2_with fail
  go_region_held3 (fun w' => w'.cell? ⟨p, 0, none⟩ = some (ptr m)) (go_keep)
    (first
      | (go_at_call 40
         refine ((rcell_does hx cs.length c0 c8).at1 (Hid.out (by assumption))).mono ?_
         rintro e wq ⟨rfl, sq⟩
         have zm : wq.cell? ⟨p, 0, none⟩ = some (ptr m) := (sq.row 1 rfl).cell rfl
         have Hq := Lib.hid sq
         clear sq)
      | (go_at_call 39
         refine ((rat_does cs.length 15 (ix x cs.length : Nat)).at1 (Hid.out (by assumption))).mono ?_
         rintro e wq ⟨rfl, sq⟩
         have zm : wq.cell? ⟨p, 0, none⟩ = some (ptr m) := (sq.row 1 rfl).cell rfl
         have Hq := Lib.hid sq
         clear sq)
      | (go_at_call 42
         refine ((store_does who (flagL obj (ix x cs.length)) Hw.out (IntKind.u64.wrap (x + 1)) (u64_wrap _) hl).at0 (Hid.out (by assumption))).mono ?_
         rintro e wz ⟨rfl, sq⟩
         have zm : wz.cell? ⟨p, 0, none⟩ = some (ptr m) := (sq.row 1 rfl).cell rfl
         have Hz := Lib.hid sq
         clear sq))
  go_wp2
  go_end0
  exact Ends.mk [] (by simpa using Hz.out)

/-- Shown. -/
theorem rshown_does (who x : Int) (ho : I64 obj) (hl : σ.log.length ≤ 1000000) (hx : U64 x) (c0 : 0 < cs.length) (c8 : cs.length ≤ 1000) :
    Does Try.prog [memA m (σ), rb p m obj g cs.length, gb g cs] 21 #[ptr p, .int .i64 who, .int .u64 x] (.bool (σ.num (flagL obj (ix x cs.length)) == IntKind.u64.wrap (x + 1))) [memA m (σ.put who 1 (flagL obj (ix x cs.length))), rb p m obj g cs.length, gb g cs] := Does.of_scope fun S w0 w h => by
  have zm : w.cell? ⟨p, 0, none⟩ = some (ptr m) := (h.row 1 rfl).cell rfl
  have zsl : w.cell? ⟨p, 2, none⟩ = some (.slice (some ⟨g, 0, none⟩) cs.length cs.length) := (h.row 1 rfl).cell rfl
  have H0 := Lib.hid h.drew
  have H00 := Lib.hid h
  clear h
  have bx := ix_lt (n := x) c0
  have hw := flagL_wf (c := ix x cs.length) ho (by omega); have Hw := Lib.hid hw
  clear hw
  go_enter Try.func21, Try.ntmps21
  go_wp2_with fail
  go_region_held3 (fun w' => w'.cell? ⟨p, 0, none⟩ = some (ptr m)) (go_keep)
    (first
      | (go_at_call 40
         refine ((rcell_does hx cs.length c0 c8).at1 (Hid.out (by assumption))).mono ?_
         rintro e wq ⟨rfl, sq⟩
         have zm : wq.cell? ⟨p, 0, none⟩ = some (ptr m) := (sq.row 1 rfl).cell rfl
         have Hq := Lib.hid sq
         clear sq)
      | (go_at_call 39
         refine ((rat_does cs.length 15 (ix x cs.length : Nat)).at1 (Hid.out (by assumption))).mono ?_
         rintro e wq ⟨rfl, sq⟩
         have zm : wq.cell? ⟨p, 0, none⟩ = some (ptr m) := (sq.row 1 rfl).cell rfl
         have Hq := Lib.hid sq
         clear sq)
      | (go_at_call 38
         refine ((load_does who (flagL obj (ix x cs.length)) Hw.out hl).at0 (Hid.out (by assumption))).mono ?_
         rintro e wz ⟨rfl, sq⟩
         have zm : wz.cell? ⟨p, 0, none⟩ = some (ptr m) := (sq.row 1 rfl).cell rfl
         have Hz := Lib.hid sq
         clear sq))
  go_wp2
  go_ret
  exact Ends.mk [] (by simpa using Hz.out)

theorem rfull_does {x hd : Int} (hx : U64 x) (hh : U64 hd) (c8 : cs.length ≤ 1000) : Does Try.prog [rb p m obj g cs.length] 14 #[ptr p, .int .u64 x, .int .u64 hd] (.bool (decide (hd ≤ wcnt x ∧ (cs.length : Int) ≤ wcnt x - hd))) [rb p m obj g cs.length] := Does.of_scope fun S w0 w h => by
  have c1 : w.cell? ⟨p, 2, none⟩ = some (.slice (some ⟨g, 0, none⟩) cs.length cs.length) := (h.row 0 rfl).cell rfl
  have e1 : IntKind.u64.wrap (cs.length : Int) = (cs.length : Int) := by rw [IntKind.wrap_u64]; omega
  have cb : 0 ≤ wcnt x ∧ wcnt x ≤ 2305843009213693951 := by have := wC_b x; unfold wcnt; split <;> omega
  have h0 := hh.1; have h1 := hh.2
  have H0 := Lib.hid h; have Hx := Lib.hid hx
  clear h hx hh
  by_cases a : hd ≤ wcnt x
  · have e2 : IntKind.u64.wrap (wcnt x - hd) = wcnt x - hd := by rw [IntKind.wrap_u64]; omega
    have R : decide (hd ≤ wcnt x ∧ (cs.length : Int) ≤ wcnt x - hd) = decide ((cs.length : Int) ≤ wcnt x - hd) := by rw [Bool.eq_iff_iff]; simp [a]
    have Rr := Lib.hid R
    clear cb R
    go_enter Try.func14, Try.ntmps14
    go_wp2_with fail
    refine (count_same Hx.out _).mono ?_
    rintro e w1 ⟨rfl, rfl⟩
    go_wp2
    go_ret
    exact Ends.mk' (by rw [Rr.out]; rfl) [] (by simpa using H0.out)
  · rw [decide_eq_false (show ¬ (hd ≤ wcnt x ∧ (cs.length : Int) ≤ wcnt x - hd) by omega)]
    clear cb
    go_enter Try.func14, Try.ntmps14
    go_wp2_with fail
    refine (count_same Hx.out _).mono ?_
    rintro e w1 ⟨rfl, rfl⟩
    go_wp2
    go_ret
    exact Ends.mk [] (by simpa using H0.out)

/-- Put. -/
theorem rput_does (who x : Int) (k : Pk) (ho : I64 obj) (hl : σ.log.length ≤ 1000000) (hx : U64 x) (c0 : 0 < cs.length) (c8 : cs.length ≤ 1000) : Does Try.prog [memA m (σ), rb p m obj g cs.length, gb g cs] 22 #[ptr p, .int .i64 who, .int .u64 x, k.val] (.tuple #[]) [memA m (σ.put who 6 (cellL obj (ix x cs.length))), rb p m obj g cs.length, gb g (cs.set (ix x cs.length) k)] := Does.of_scope fun S w0 w h => by
  have s1 := Lib.hid (show Scope S w0 (w.alloc (.cells #[.int .i64 k.flow, .int .i64 k.len, .int .i64 k.mark] 44)).drew ([memA m (σ), rb p m obj g cs.length, gb g cs] ++ [box w.heap.size [.int .i64 k.flow, .int .i64 k.len, .int .i64 k.mark] 44]) from (h.box [.int .i64 k.flow, .int .i64 k.len, .int .i64 k.mark] 44).drew)
  have zm : (w.alloc (.cells #[.int .i64 k.flow, .int .i64 k.len, .int .i64 k.mark] 44)).drew.cell? ⟨p, 0, none⟩ = some (ptr m) := (s1.out.row 1 rfl).cell rfl
  have bx := ix_lt (n := x) c0
  have Bx := Lib.hid bx
  clear h bx
  unfold Pk.val
  go_enter Try.func22, Try.ntmps22
  go_wp2_with fail
  go_region_held3 (fun w' => w'.cell? ⟨p, 0, none⟩ = some (ptr m)) (go_keep)
    (first
      | (go_at_call 40
         refine ((rcell_does hx cs.length c0 c8).at1 (Hid.out (by assumption))).mono ?_
         rintro e wq ⟨rfl, sq⟩
         have zm : wq.cell? ⟨p, 0, none⟩ = some (ptr m) := (sq.row 1 rfl).cell rfl
         have Hq := Lib.hid sq
         clear sq)
      | (go_at_call 39
         refine ((rat_does cs.length 16 (ix x cs.length : Nat)).at1 (Hid.out (by assumption))).mono ?_
         rintro e wq ⟨rfl, sq⟩
         have zm : wq.cell? ⟨p, 0, none⟩ = some (ptr m) := (sq.row 1 rfl).cell rfl
         have Hq := Lib.hid sq
         clear sq)
      | (go_at_call 41
         refine ((write_does who (cellL obj (ix x cs.length)) hl).at0 (Hid.out (by assumption))).mono ?_
         rintro e wz ⟨rfl, sq⟩
         have zm : wz.cell? ⟨p, 0, none⟩ = some (ptr m) := (sq.row 1 rfl).cell rfl
         have Hz := Lib.hid sq
         clear sq))
  clear zm
  obtain ⟨B, hB⟩ : ∃ B, B = w.heap.size := ⟨_, rfl⟩
  have Z1 := Lib.hid (show Scope S w0 wz.drew ([memA m (σ.put who 6 (cellL obj (ix x cs.length))), rb p m obj g cs.length, gb g cs] ++ [box B [.int .i64 k.flow, .int .i64 k.len, .int .i64 k.mark] 44]) from by rw [hB]; exact Hz.out.drew)
  go_wp2_with fail
  rw [← hB]
  clear hB Hz s1
  refine wp_region_any (by kernel_rfl) ?_
  change wpAny _ _ _ _ _ _ _ wz.drew
  have h0 : wz.drew.cell? ⟨p, 2, none⟩ = some (.slice (some ⟨g, 0, none⟩) cs.length cs.length) ∧ wz.drew.cell? ⟨B, 0, none⟩ = some (.int .i64 k.flow) ∧ wz.drew.cell? ⟨B, 1, none⟩ = some (.int .i64 k.len) ∧ wz.drew.cell? ⟨B, 2, none⟩ = some (.int .i64 k.mark) := ⟨(Z1.out.row 1 rfl).cell rfl, (Z1.out.row 3 rfl).cell rfl, (Z1.out.row 3 rfl).cell rfl, (Z1.out.row 3 rfl).cell rfl⟩
  have i0 : (0 : Int) ≤ ((ix x cs.length : Nat) : Int) := by omega
  have bx := Bx.out
  have i1 : ((ix x cs.length : Nat) : Int) < (cs.length : Int) := by omega
  clear bx
  refine wpAny_of_U (S := fun w' => w'.cell? ⟨p, 2, none⟩ = some (.slice (some ⟨g, 0, none⟩) cs.length cs.length) ∧ w'.cell? ⟨B, 0, none⟩ = some (.int .i64 k.flow) ∧ w'.cell? ⟨B, 1, none⟩ = some (.int .i64 k.len) ∧ w'.cell? ⟨B, 2, none⟩ = some (.int .i64 k.mark)) (U := [0, 1, 2, 3, 4, 5, 6, 7, 8]) _ _ _ _ ?_
  refine wpAnyU_take (i := 0) (v := ?_) rfl (by kernel_rfl) (by kernel_rfl) (by kernel_rfl) (by kernel_rfl) (fun _ _ _ h => h) (Or.inl ⟨by rfl, ?_⟩) h0 ?_
  rotate_left 1
  · (intro w' hS; (try dsimp only at hS); (try simp only [List.getElem_toArray, List.getElem_cons_succ, List.getElem_cons_zero]); go_simp; (try with_reducible rfl))
  try simp only [Act.put, List.getElem_toArray, List.getElem_cons_succ, List.getElem_cons_zero, List.setIfInBounds_toArray, List.set_cons_zero, List.set_cons_succ]
  refine wpAnyU_take (i := 1) (v := ?_) rfl (by kernel_rfl) (by kernel_rfl) (by kernel_rfl) (by kernel_rfl) (fun _ _ _ h => h) (Or.inl ⟨by rfl, ?_⟩) h0 ?_
  rotate_left 1
  · (intro w' hS; (try dsimp only at hS); (try simp only [List.getElem_toArray, List.getElem_cons_succ, List.getElem_cons_zero]); go_simp; (try with_reducible rfl))
  try simp only [Act.put, List.getElem_toArray, List.getElem_cons_succ, List.getElem_cons_zero, List.setIfInBounds_toArray, List.set_cons_zero, List.set_cons_succ]
  refine wpAnyU_take (i := 2) (v := ?_) rfl (by kernel_rfl) (by kernel_rfl) (by kernel_rfl) (by kernel_rfl) (fun _ _ _ h => h) (Or.inl ⟨by rfl, ?_⟩) h0 ?_
  rotate_left 1
  · (intro w' hS; (try dsimp only at hS); (try simp only [List.getElem_toArray, List.getElem_cons_succ, List.getElem_cons_zero]); go_simp; (try with_reducible rfl))
  try simp only [Act.put, List.getElem_toArray, List.getElem_cons_succ, List.getElem_cons_zero, List.setIfInBounds_toArray, List.set_cons_zero, List.set_cons_succ]
  refine wpAnyU_take (i := 3) (v := ?_) rfl (by kernel_rfl) (by kernel_rfl) (by kernel_rfl) (by kernel_rfl) (fun _ _ _ h => h) (Or.inl ⟨by rfl, ?_⟩) h0 ?_
  rotate_left 1
  · (intro w' hS; (try dsimp only at hS); (try simp only [List.getElem_toArray, List.getElem_cons_succ, List.getElem_cons_zero]); go_simp; (try with_reducible rfl))
  try simp only [Act.put, List.getElem_toArray, List.getElem_cons_succ, List.getElem_cons_zero, List.setIfInBounds_toArray, List.set_cons_zero, List.set_cons_succ]
  refine wpAnyU_take (i := 4) (v := ?_) rfl (by kernel_rfl) (by kernel_rfl) (by kernel_rfl) (by kernel_rfl) (fun _ _ _ h => h) (Or.inl ⟨by rfl, ?_⟩) h0 ?_
  rotate_left 1
  · (intro w' hS; (try dsimp only at hS); (try simp only [List.getElem_toArray, List.getElem_cons_succ, List.getElem_cons_zero]); go_simp; (try with_reducible rfl))
  try simp only [Act.put, List.getElem_toArray, List.getElem_cons_succ, List.getElem_cons_zero, List.setIfInBounds_toArray, List.set_cons_zero, List.set_cons_succ]
  refine wpAnyU_take (i := 5) (v := ?_) rfl (by kernel_rfl) (by kernel_rfl) (by kernel_rfl) (by kernel_rfl) (fun _ _ _ h => h) (Or.inl ⟨by rfl, ?_⟩) h0 ?_
  rotate_left 1
  · (intro w' hS; (try dsimp only at hS); (try simp only [List.getElem_toArray, List.getElem_cons_succ, List.getElem_cons_zero]); go_simp; (try with_reducible rfl))
  try simp only [Act.put, List.getElem_toArray, List.getElem_cons_succ, List.getElem_cons_zero, List.setIfInBounds_toArray, List.set_cons_zero, List.set_cons_succ]
  refine wpAnyU_take (i := 7) (v := ?_) rfl (by kernel_rfl) (by kernel_rfl) (by kernel_rfl) (by kernel_rfl) (fun _ _ _ h => h) (Or.inl ⟨by rfl, ?_⟩) h0 ?_
  rotate_left 1
  · (intro w' hS; (try dsimp only at hS); (try simp only [List.getElem_toArray, List.getElem_cons_succ, List.getElem_cons_zero]); go_simp; (try with_reducible rfl))
  try simp only [Act.put, List.getElem_toArray, List.getElem_cons_succ, List.getElem_cons_zero, List.setIfInBounds_toArray, List.set_cons_zero, List.set_cons_succ]
  refine wpAnyU_all (rs := [6]) (by kernel_rfl) (by simp) (fun i hi => ?_)
  obtain rfl : i = 6 := by simpa using hi
  refine wpOpU_stepG rfl (by rfl) (fun K hK => ?_)
  go_simp
  refine ((rcell_does hx cs.length c0 c8).at1 Z1.out).mono ?_
  rintro e wy ⟨rfl, sq⟩
  have h1 : wy.cell? ⟨p, 2, none⟩ = some (.slice (some ⟨g, 0, none⟩) cs.length cs.length) ∧ wy.cell? ⟨B, 0, none⟩ = some (.int .i64 k.flow) ∧ wy.cell? ⟨B, 1, none⟩ = some (.int .i64 k.len) ∧ wy.cell? ⟨B, 2, none⟩ = some (.int .i64 k.mark) := ⟨(sq.row 1 rfl).cell rfl, (sq.row 3 rfl).cell rfl, (sq.row 3 rfl).cell rfl, (sq.row 3 rfl).cell rfl⟩
  have Z2 := Lib.hid sq
  refine hK _ _ ⟨fun _ => h1, ?_⟩
  clear hK K sq h0
  try simp only [Act.put, List.getElem_toArray, List.getElem_cons_succ, List.getElem_cons_zero, List.setIfInBounds_toArray, List.set_cons_zero, List.set_cons_succ]
  refine wpAnyU_take (i := 8) (v := ?_) rfl (by kernel_rfl) (by kernel_rfl) (by kernel_rfl) (by kernel_rfl) (fun _ _ _ h => h) (Or.inl ⟨by rfl, ?_⟩) h1 ?_
  rotate_left 1
  · (intro w' hS; (try dsimp only at hS); (try simp only [List.getElem_toArray, List.getElem_cons_succ, List.getElem_cons_zero]); go_simp; (try with_reducible rfl))
  try simp only [Act.put, List.getElem_toArray, List.getElem_cons_succ, List.getElem_cons_zero, List.setIfInBounds_toArray, List.set_cons_zero, List.set_cons_succ]
  refine wpAnyU_rest _ _ _ _ (fun j hj => ?_) ?_
  · simp at hj; rcases hj with rfl | rfl | rfl | rfl | rfl | rfl | rfl | rfl | rfl <;> rfl
  obtain ⟨y, hy⟩ : ∃ y, cs[ix x cs.length]? = some y := ⟨_, List.getElem?_eq_getElem Bx.out⟩
  obtain ⟨y0, y1, y2⟩ := pks_get cs _ y hy
  have rg := Z2.out.row (k := g) (vs := pks cs) (t := 44) 2 rfl
  have f0 := rg.free (ix x cs.length * 3); have f1 := rg.free (ix x cs.length * 3 + 1); have f2 := rg.free (ix x cs.length * 3 + 2)
  have x0 := rg.cell y0; have x1 := rg.cell y1; have x2 := rg.cell y2
  clear h1 y0 y1 y2 hy rg
  refine wpAny_all (rs := [9]) (by kernel_rfl) (by simp) (fun i hi => ?_)
  obtain rfl : i = 9 := by simpa using hi
  refine wpOpU_stepG rfl (by rfl) (fun K hK => ?_)
  go_simp
  refine hK _ _ ?_
  clear hK K
  try simp only [Act.put, List.getElem_toArray, List.getElem_cons_succ, List.getElem_cons_zero, List.setIfInBounds_toArray, List.set_cons_zero, List.set_cons_succ]
  refine wpAny_done (by kernel_rfl) ?_ _
  clear f0 f1 f2 x0 x1 x2
  go_wp2
  go_end0
  refine Ends.mk [box B [.int .i64 k.flow, .int .i64 k.len, .int .i64 k.mark] 44] ?_
  have q1 := Scope.setbox (As := [memA m _, rb p m obj g cs.length]) (Bs := [box B _ 44]) Z2.out (ix x cs.length * 3) (.int .i64 k.flow)
  have q2 := Scope.setbox (As := [memA m _, rb p m obj g cs.length]) (Bs := [box B _ 44]) q1 (ix x cs.length * 3 + 1) (.int .i64 k.len)
  have q3 := Scope.setbox (As := [memA m _, rb p m obj g cs.length]) (Bs := [box B _ 44]) q2 (ix x cs.length * 3 + 2) (.int .i64 k.mark)
  rw [pks_set cs _ k Bx.out] at q3
  exact q3

/-- Get. -/
theorem rget_does (who x : Int) (k : Pk) (ho : I64 obj) (hl : σ.log.length ≤ 1000000) (hx : U64 x) (c0 : 0 < cs.length) (c8 : cs.length ≤ 1000) (hk : cs[ix x cs.length]? = some k) : Does Try.prog [memA m (σ), rb p m obj g cs.length, gb g cs] 24 #[ptr p, .int .i64 who, .int .u64 x] k.val [memA m (σ.put who 5 (cellL obj (ix x cs.length))), rb p m obj g cs.length, gb g cs] := Does.of_scope fun S w0 w h => by
  have s1 := Lib.hid (show Scope S w0 (w.alloc (.cells #[.int .i64 0, .int .i64 0, .int .i64 0] 44)).drew ([memA m (σ), rb p m obj g cs.length, gb g cs] ++ [box w.heap.size [.int .i64 0, .int .i64 0, .int .i64 0] 44]) from (h.box [.int .i64 0, .int .i64 0, .int .i64 0] 44).drew)
  have zm : (w.alloc (.cells #[.int .i64 0, .int .i64 0, .int .i64 0] 44)).drew.cell? ⟨p, 0, none⟩ = some (ptr m) := (s1.out.row 1 rfl).cell rfl
  have bx := ix_lt (n := x) c0
  have Bx := Lib.hid bx
  clear h bx
  have Y := Lib.hid (pks_get cs _ k hk)
  clear hk
  go_enter Try.func24, Try.ntmps24
  go_wp2_with fail
  go_region_held3 (fun w' => w'.cell? ⟨p, 0, none⟩ = some (ptr m)) (go_keep)
    (first
      | (go_at_call 40
         refine ((rcell_does hx cs.length c0 c8).at1 (Hid.out (by assumption))).mono ?_
         rintro e wq ⟨rfl, sq⟩
         have zm : wq.cell? ⟨p, 0, none⟩ = some (ptr m) := (sq.row 1 rfl).cell rfl
         have Hq := Lib.hid sq
         clear sq)
      | (go_at_call 39
         refine ((rat_does cs.length 16 (ix x cs.length : Nat)).at1 (Hid.out (by assumption))).mono ?_
         rintro e wq ⟨rfl, sq⟩
         have zm : wq.cell? ⟨p, 0, none⟩ = some (ptr m) := (sq.row 1 rfl).cell rfl
         have Hq := Lib.hid sq
         clear sq)
      | (go_at_call 43
         refine ((read_does who (cellL obj (ix x cs.length)) hl).at0 (Hid.out (by assumption))).mono ?_
         rintro e wz ⟨rfl, sq⟩
         have zm : wz.cell? ⟨p, 0, none⟩ = some (ptr m) := (sq.row 1 rfl).cell rfl
         have Hz := Lib.hid sq
         clear sq))
  clear zm
  obtain ⟨B, hB⟩ : ∃ B, B = w.heap.size := ⟨_, rfl⟩
  have Z1 := Lib.hid (show Scope S w0 wz.drew ([memA m (σ.put who 5 (cellL obj (ix x cs.length))), rb p m obj g cs.length, gb g cs] ++ [box B [.int .i64 0, .int .i64 0, .int .i64 0] 44]) from by rw [hB]; exact Hz.out.drew)
  go_wp2_with fail
  rw [← hB]
  clear hB Hz s1
  refine wp_region_any (by kernel_rfl) ?_
  change wpAny _ _ _ _ _ _ _ wz.drew
  obtain ⟨y0, y1, y2⟩ := Y.out
  have h0 : wz.drew.cell? ⟨p, 2, none⟩ = some (.slice (some ⟨g, 0, none⟩) cs.length cs.length) ∧ wz.drew.cell? ⟨g, ix x cs.length * 3, none⟩ = some (.int .i64 k.flow) ∧ wz.drew.cell? ⟨g, ix x cs.length * 3 + 1, none⟩ = some (.int .i64 k.len) ∧ wz.drew.cell? ⟨g, ix x cs.length * 3 + 2, none⟩ = some (.int .i64 k.mark) := ⟨(Z1.out.row 1 rfl).cell rfl, (Z1.out.row 2 rfl).cell y0, (Z1.out.row 2 rfl).cell y1, (Z1.out.row 2 rfl).cell y2⟩
  have i0 : (0 : Int) ≤ ((ix x cs.length : Nat) : Int) := by omega
  have bx := Bx.out
  have i1 : ((ix x cs.length : Nat) : Int) < (cs.length : Int) := by omega
  clear bx
  clear y0 y1 y2
  refine wpAny_of_U (S := fun w' => w'.cell? ⟨p, 2, none⟩ = some (.slice (some ⟨g, 0, none⟩) cs.length cs.length) ∧ w'.cell? ⟨g, ix x cs.length * 3, none⟩ = some (.int .i64 k.flow) ∧ w'.cell? ⟨g, ix x cs.length * 3 + 1, none⟩ = some (.int .i64 k.len) ∧ w'.cell? ⟨g, ix x cs.length * 3 + 2, none⟩ = some (.int .i64 k.mark)) (U := [0, 1, 2, 3, 4, 5, 6, 7, 8]) _ _ _ _ ?_
  refine wpAnyU_take (i := 0) (v := ?_) rfl (by kernel_rfl) (by kernel_rfl) (by kernel_rfl) (by kernel_rfl) (fun _ _ _ h => h) (Or.inl ⟨by rfl, ?_⟩) h0 ?_
  rotate_left 1
  · (intro w' hS; (try dsimp only at hS); (try simp only [List.getElem_toArray, List.getElem_cons_succ, List.getElem_cons_zero]); go_simp; (try with_reducible rfl))
  try simp only [Act.put, List.getElem_toArray, List.getElem_cons_succ, List.getElem_cons_zero, List.setIfInBounds_toArray, List.set_cons_zero, List.set_cons_succ]
  refine wpAnyU_take (i := 1) (v := ?_) rfl (by kernel_rfl) (by kernel_rfl) (by kernel_rfl) (by kernel_rfl) (fun _ _ _ h => h) (Or.inl ⟨by rfl, ?_⟩) h0 ?_
  rotate_left 1
  · (intro w' hS; (try dsimp only at hS); (try simp only [List.getElem_toArray, List.getElem_cons_succ, List.getElem_cons_zero]); go_simp; (try with_reducible rfl))
  try simp only [Act.put, List.getElem_toArray, List.getElem_cons_succ, List.getElem_cons_zero, List.setIfInBounds_toArray, List.set_cons_zero, List.set_cons_succ]
  refine wpAnyU_take (i := 2) (v := ?_) rfl (by kernel_rfl) (by kernel_rfl) (by kernel_rfl) (by kernel_rfl) (fun _ _ _ h => h) (Or.inl ⟨by rfl, ?_⟩) h0 ?_
  rotate_left 1
  · (intro w' hS; (try dsimp only at hS); (try simp only [List.getElem_toArray, List.getElem_cons_succ, List.getElem_cons_zero]); go_simp; (try with_reducible rfl))
  try simp only [Act.put, List.getElem_toArray, List.getElem_cons_succ, List.getElem_cons_zero, List.setIfInBounds_toArray, List.set_cons_zero, List.set_cons_succ]
  refine wpAnyU_take (i := 3) (v := ?_) rfl (by kernel_rfl) (by kernel_rfl) (by kernel_rfl) (by kernel_rfl) (fun _ _ _ h => h) (Or.inl ⟨by rfl, ?_⟩) h0 ?_
  rotate_left 1
  · (intro w' hS; (try dsimp only at hS); (try simp only [List.getElem_toArray, List.getElem_cons_succ, List.getElem_cons_zero]); go_simp; (try with_reducible rfl))
  try simp only [Act.put, List.getElem_toArray, List.getElem_cons_succ, List.getElem_cons_zero, List.setIfInBounds_toArray, List.set_cons_zero, List.set_cons_succ]
  refine wpAnyU_take (i := 4) (v := ?_) rfl (by kernel_rfl) (by kernel_rfl) (by kernel_rfl) (by kernel_rfl) (fun _ _ _ h => h) (Or.inl ⟨by rfl, ?_⟩) h0 ?_
  rotate_left 1
  · (intro w' hS; (try dsimp only at hS); (try simp only [List.getElem_toArray, List.getElem_cons_succ, List.getElem_cons_zero]); go_simp; (try with_reducible rfl))
  try simp only [Act.put, List.getElem_toArray, List.getElem_cons_succ, List.getElem_cons_zero, List.setIfInBounds_toArray, List.set_cons_zero, List.set_cons_succ]
  refine wpAnyU_take (i := 5) (v := ?_) rfl (by kernel_rfl) (by kernel_rfl) (by kernel_rfl) (by kernel_rfl) (fun _ _ _ h => h) (Or.inl ⟨by rfl, ?_⟩) h0 ?_
  rotate_left 1
  · (intro w' hS; (try dsimp only at hS); (try simp only [List.getElem_toArray, List.getElem_cons_succ, List.getElem_cons_zero]); go_simp; (try with_reducible rfl))
  try simp only [Act.put, List.getElem_toArray, List.getElem_cons_succ, List.getElem_cons_zero, List.setIfInBounds_toArray, List.set_cons_zero, List.set_cons_succ]
  refine wpAnyU_all (rs := [6]) (by kernel_rfl) (by simp) (fun i hi => ?_)
  obtain rfl : i = 6 := by simpa using hi
  refine wpOpU_stepG rfl (by rfl) (fun K hK => ?_)
  go_simp
  refine ((rcell_does hx cs.length c0 c8).at1 Z1.out).mono ?_
  rintro e wy ⟨rfl, sq⟩
  obtain ⟨y0, y1, y2⟩ := Y.out
  have h1 : wy.cell? ⟨p, 2, none⟩ = some (.slice (some ⟨g, 0, none⟩) cs.length cs.length) ∧ wy.cell? ⟨g, ix x cs.length * 3, none⟩ = some (.int .i64 k.flow) ∧ wy.cell? ⟨g, ix x cs.length * 3 + 1, none⟩ = some (.int .i64 k.len) ∧ wy.cell? ⟨g, ix x cs.length * 3 + 2, none⟩ = some (.int .i64 k.mark) := ⟨(sq.row 1 rfl).cell rfl, (sq.row 2 rfl).cell y0, (sq.row 2 rfl).cell y1, (sq.row 2 rfl).cell y2⟩
  have Z2 := Lib.hid sq
  refine hK _ _ ⟨fun _ => h1, ?_⟩
  clear hK K sq h0 y0 y1 y2
  try simp only [Act.put, List.getElem_toArray, List.getElem_cons_succ, List.getElem_cons_zero, List.setIfInBounds_toArray, List.set_cons_zero, List.set_cons_succ]
  refine wpAnyU_take (i := 7) (v := ?_) rfl (by kernel_rfl) (by kernel_rfl) (by kernel_rfl) (by kernel_rfl) (fun _ _ _ h => h) (Or.inl ⟨by rfl, ?_⟩) h1 ?_
  rotate_left 1
  · (intro w' hS; (try dsimp only at hS); (try simp only [List.getElem_toArray, List.getElem_cons_succ, List.getElem_cons_zero]); go_simp; (try with_reducible rfl))
  try simp only [Act.put, List.getElem_toArray, List.getElem_cons_succ, List.getElem_cons_zero, List.setIfInBounds_toArray, List.set_cons_zero, List.set_cons_succ]
  refine wpAnyU_take (i := 8) (v := ?_) rfl (by kernel_rfl) (by kernel_rfl) (by kernel_rfl) (by kernel_rfl) (fun _ _ _ h => h) (Or.inl ⟨by rfl, ?_⟩) h1 ?_
  rotate_left 1
  · (intro w' hS; (try dsimp only at hS); (try simp only [List.getElem_toArray, List.getElem_cons_succ, List.getElem_cons_zero]); go_simp; (try with_reducible rfl))
  try simp only [Act.put, List.getElem_toArray, List.getElem_cons_succ, List.getElem_cons_zero, List.setIfInBounds_toArray, List.set_cons_zero, List.set_cons_succ]
  refine wpAnyU_rest _ _ _ _ (fun j hj => ?_) ?_
  · simp at hj; rcases hj with rfl | rfl | rfl | rfl | rfl | rfl | rfl | rfl | rfl <;> rfl
  have rg := Z2.out.row (k := B) (vs := [.int .i64 0, .int .i64 0, .int .i64 0]) (t := 44) 3 rfl
  have f0 := rg.free 0; have f1 := rg.free 1; have f2 := rg.free 2
  obtain ⟨x0, x1, x2⟩ := rg.cells3
  have Rg := Lib.hid rg
  clear h1 rg
  refine wpAny_all (rs := [9]) (by kernel_rfl) (by simp) (fun i hi => ?_)
  obtain rfl : i = 9 := by simpa using hi
  refine wpOpU_stepG rfl (by rfl) (fun K hK => ?_)
  go_simp
  refine hK _ _ ?_
  clear hK K
  try simp only [Act.put, List.getElem_toArray, List.getElem_cons_succ, List.getElem_cons_zero, List.setIfInBounds_toArray, List.set_cons_zero, List.set_cons_succ]
  refine wpAny_done (by kernel_rfl) ?_ _
  clear f0 f1 f2 x0 x1 x2
  go_wp2
  refine bodyPost_ret (results_cell_row rfl _ _ B 44 #[.int .i64 k.flow, .int .i64 k.len, .int .i64 k.mark] (0, 0) _ rfl (((Rg.out.set 0 (.int .i64 k.flow)).set 1 (.int .i64 k.len)).set 2 (.int .i64 k.mark)) Try.underlying44 rfl (by kernel_rfl)) rfl ?_
  refine Ends.mk [box B [.int .i64 k.flow, .int .i64 k.len, .int .i64 k.mark] 44] ?_
  have q1 := Scope.setbox (As := [memA m (σ.put who 5 (cellL obj (ix x cs.length))), rb p m obj g cs.length, gb g cs]) (Bs := []) Z2.out 0 (.int .i64 k.flow)
  have q2 := Scope.setbox (As := [memA m (σ.put who 5 (cellL obj (ix x cs.length))), rb p m obj g cs.length, gb g cs]) (Bs := []) q1 1 (.int .i64 k.len)
  have q3 := Scope.setbox (As := [memA m (σ.put who 5 (cellL obj (ix x cs.length))), rb p m obj g cs.length, gb g cs]) (Bs := []) q2 2 (.int .i64 k.mark)
  exact q3

def MS.turn (σ : MS) (who obj : Int) (how : Nat) (x : Int) : MS := if tB how x = true then σ.swap who (wordL obj) x (tW how x) else σ
def MS.turned (σ : MS) (obj : Int) (how : Nat) (x : Int) : Bool := tB how x && decide (σ.num (wordL obj) = x)

theorem rswap0_does (who x : Int) (hx : U64 x) (ho : I64 obj) (hl : σ.log.length ≤ 1000000) : Does Try.prog [memA m (σ), rb p m obj g cs.length, gb g cs] 36 #[ptr p, .int .i64 who, .int .u64 x, .func (.func 37) #[] #[]] (.bool (σ.turned obj 0 x)) [memA m (σ.turn who obj 0 x), rb p m obj g cs.length, gb g cs] := Does.of_scope fun S w0 w h => by
  have zm : w.cell? ⟨p, 0, none⟩ = some (ptr m) := (h.row 1 rfl).cell rfl
  have hw := wordL_wf ho
  have H0 := Lib.hid h.drew; have H00 := Lib.hid h; have Hx := Lib.hid hx; have Hw := Lib.hid hw
  clear h hx hw
  cases hb : tB 0 x with
  | true =>
    rw [show σ.turned obj 0 x = decide (σ.num (wordL obj) = x) by simp [MS.turned, hb], show σ.turn who obj 0 x = σ.swap who (wordL obj) x (tW 0 x) from if_pos hb]
    have Hb := Lib.hid hb
    clear hb
    go_enter Try.func36, Try.ntmps36
    go_wp2_with fail
    refine (more_same Hx.out _).mono ?_
    rintro e w1 ⟨he, rfl⟩
    rw [show tR 0 x = .tuple #[.int .u64 (tW 0 x), .bool true] by simp [tR, Hb.out]] at he
    subst he
    go_wp2_with fail
    go_region_held3 (fun w' => w'.cell? ⟨p, 0, none⟩ = some (ptr m)) (go_keep)
      (first
        | (go_at_call 39
           refine ((rat_does cs.length 11 0).at1 (Hid.out (by assumption))).mono ?_
           rintro e wq ⟨rfl, sq⟩
           have zm : wq.cell? ⟨p, 0, none⟩ = some (ptr m) := (sq.row 1 rfl).cell rfl
           have Hq := Lib.hid sq
           clear sq)
        | (go_at_call 64
           refine ((swap_does who (wordL obj) Hw.out x (tW 0 x) (tW_u Hb.out) hl).at0 Hq.out).mono ?_
           rintro e wz ⟨rfl, sq⟩
           have zm : wz.cell? ⟨p, 0, none⟩ = some (ptr m) := (sq.row 1 rfl).cell rfl
           have Hz := Lib.hid sq
           clear sq))
    go_wp2
    go_ret
    exact Ends.mk [] (by simpa using Hz.out)
  | false =>
    rw [show σ.turned obj 0 x = false by simp [MS.turned, hb], show σ.turn who obj 0 x = σ from if_neg (by simp [hb])]
    have Hb := Lib.hid hb
    clear hb
    go_enter Try.func36, Try.ntmps36
    go_wp2_with fail
    refine (more_same Hx.out _).mono ?_
    rintro e w1 ⟨he, rfl⟩
    rw [show tR 0 x = .tuple #[.int .u64 (tW 0 x), .bool false] by simp [tR, Hb.out]] at he
    subst he
    go_wp2_with fail
    refine wp_region_any (by kernel_rfl) ?_
    change wpAny _ _ _ _ _ _ _ (World.drew _)
    have h0 : True := trivial
    refine wpAny_of_U (S := fun _ => True) (U := [0, 1, 2, 3, 4, 5, 6, 7, 8, 9, 10, 11, 12]) _ _ _ _ ?_
    refine wpAnyU_take (i := 0) (v := ?_) rfl (by kernel_rfl) (by kernel_rfl) (by kernel_rfl) (by kernel_rfl) (fun _ _ _ h => h) (Or.inl ⟨by rfl, ?_⟩) h0 ?_
    rotate_left 1
    · (intro w' hS; (try dsimp only at hS); (try simp only [List.getElem_toArray, List.getElem_cons_succ, List.getElem_cons_zero]); go_simp; (try with_reducible rfl))
    try simp only [Act.put, List.getElem_toArray, List.getElem_cons_succ, List.getElem_cons_zero, List.setIfInBounds_toArray, List.set_cons_zero, List.set_cons_succ]
    refine wpAnyU_take (i := 1) (v := ?_) rfl (by kernel_rfl) (by kernel_rfl) (by kernel_rfl) (by kernel_rfl) (fun _ _ _ h => h) (Or.inl ⟨by rfl, ?_⟩) h0 ?_
    rotate_left 1
    · (intro w' hS; (try dsimp only at hS); (try simp only [List.getElem_toArray, List.getElem_cons_succ, List.getElem_cons_zero]); go_simp; (try with_reducible rfl))
    try simp only [Act.put, List.getElem_toArray, List.getElem_cons_succ, List.getElem_cons_zero, List.setIfInBounds_toArray, List.set_cons_zero, List.set_cons_succ]
    refine wpAnyU_take (i := 2) (v := undef) rfl (by kernel_rfl) (by kernel_rfl) (by kernel_rfl) (by kernel_rfl) (fun _ _ _ h => h) (Or.inr ⟨by rfl, rfl⟩) h0 ?_
    try simp only [Act.put, List.getElem_toArray, List.getElem_cons_succ, List.getElem_cons_zero, List.setIfInBounds_toArray, List.set_cons_zero, List.set_cons_succ]
    refine wpAnyU_take (i := 3) (v := undef) rfl (by kernel_rfl) (by kernel_rfl) (by kernel_rfl) (by kernel_rfl) (fun _ _ _ h => h) (Or.inr ⟨by rfl, rfl⟩) h0 ?_
    try simp only [Act.put, List.getElem_toArray, List.getElem_cons_succ, List.getElem_cons_zero, List.setIfInBounds_toArray, List.set_cons_zero, List.set_cons_succ]
    refine wpAnyU_take (i := 4) (v := undef) rfl (by kernel_rfl) (by kernel_rfl) (by kernel_rfl) (by kernel_rfl) (fun _ _ _ h => h) (Or.inr ⟨by rfl, rfl⟩) h0 ?_
    try simp only [Act.put, List.getElem_toArray, List.getElem_cons_succ, List.getElem_cons_zero, List.setIfInBounds_toArray, List.set_cons_zero, List.set_cons_succ]
    refine wpAnyU_take (i := 5) (v := undef) rfl (by kernel_rfl) (by kernel_rfl) (by kernel_rfl) (by kernel_rfl) (fun _ _ _ h => h) (Or.inr ⟨by rfl, rfl⟩) h0 ?_
    try simp only [Act.put, List.getElem_toArray, List.getElem_cons_succ, List.getElem_cons_zero, List.setIfInBounds_toArray, List.set_cons_zero, List.set_cons_succ]
    refine wpAnyU_take (i := 6) (v := undef) rfl (by kernel_rfl) (by kernel_rfl) (by kernel_rfl) (by kernel_rfl) (fun _ _ _ h => h) (Or.inr ⟨by rfl, rfl⟩) h0 ?_
    try simp only [Act.put, List.getElem_toArray, List.getElem_cons_succ, List.getElem_cons_zero, List.setIfInBounds_toArray, List.set_cons_zero, List.set_cons_succ]
    refine wpAnyU_take (i := 7) (v := undef) rfl (by kernel_rfl) (by kernel_rfl) (by kernel_rfl) (by kernel_rfl) (fun _ _ _ h => h) (Or.inr ⟨by rfl, rfl⟩) h0 ?_
    try simp only [Act.put, List.getElem_toArray, List.getElem_cons_succ, List.getElem_cons_zero, List.setIfInBounds_toArray, List.set_cons_zero, List.set_cons_succ]
    refine wpAnyU_take (i := 8) (v := undef) rfl (by kernel_rfl) (by kernel_rfl) (by kernel_rfl) (by kernel_rfl) (fun _ _ _ h => h) (Or.inr ⟨by rfl, rfl⟩) h0 ?_
    try simp only [Act.put, List.getElem_toArray, List.getElem_cons_succ, List.getElem_cons_zero, List.setIfInBounds_toArray, List.set_cons_zero, List.set_cons_succ]
    refine wpAnyU_take (i := 9) (v := undef) rfl (by kernel_rfl) (by kernel_rfl) (by kernel_rfl) (by kernel_rfl) (fun _ _ _ h => h) (Or.inr ⟨by rfl, rfl⟩) h0 ?_
    try simp only [Act.put, List.getElem_toArray, List.getElem_cons_succ, List.getElem_cons_zero, List.setIfInBounds_toArray, List.set_cons_zero, List.set_cons_succ]
    refine wpAnyU_take (i := 10) (v := undef) rfl (by kernel_rfl) (by kernel_rfl) (by kernel_rfl) (by kernel_rfl) (fun _ _ _ h => h) (Or.inr ⟨by rfl, rfl⟩) h0 ?_
    try simp only [Act.put, List.getElem_toArray, List.getElem_cons_succ, List.getElem_cons_zero, List.setIfInBounds_toArray, List.set_cons_zero, List.set_cons_succ]
    refine wpAnyU_take (i := 11) (v := undef) rfl (by kernel_rfl) (by kernel_rfl) (by kernel_rfl) (by kernel_rfl) (fun _ _ _ h => h) (Or.inr ⟨by rfl, rfl⟩) h0 ?_
    try simp only [Act.put, List.getElem_toArray, List.getElem_cons_succ, List.getElem_cons_zero, List.setIfInBounds_toArray, List.set_cons_zero, List.set_cons_succ]
    refine wpAnyU_take (i := 12) (v := ?_) rfl (by kernel_rfl) (by kernel_rfl) (by kernel_rfl) (by kernel_rfl) (fun _ _ _ h => h) (Or.inl ⟨by rfl, ?_⟩) h0 ?_
    rotate_left 1
    · (intro w' hS; (try dsimp only at hS); (try simp only [List.getElem_toArray, List.getElem_cons_succ, List.getElem_cons_zero]); go_simp; (try with_reducible rfl))
    try simp only [Act.put, List.getElem_toArray, List.getElem_cons_succ, List.getElem_cons_zero, List.setIfInBounds_toArray, List.set_cons_zero, List.set_cons_succ]
    refine wpAnyU_rest _ _ _ _ (fun j hj => ?_) ?_
    · simp at hj; rcases hj with rfl | rfl | rfl | rfl | rfl | rfl | rfl | rfl | rfl | rfl | rfl | rfl | rfl <;> rfl
    refine wpAny_all (rs := [13]) (by kernel_rfl) (by simp) (fun i hi => ?_)
    obtain rfl : i = 13 := by simpa using hi
    refine wpOpU_stepG rfl (by rfl) (fun K hK => ?_)
    go_simp
    refine hK _ _ ?_
    clear hK K
    try simp only [Act.put, List.getElem_toArray, List.getElem_cons_succ, List.getElem_cons_zero, List.setIfInBounds_toArray, List.set_cons_zero, List.set_cons_succ]
    refine wpAny_done (by kernel_rfl) ?_ _
    go_wp2
    go_ret
    exact Ends.mk [] (by simpa using H0.out)
theorem rclaim_does (who x : Int) (hx : U64 x) (ho : I64 obj) (hl : σ.log.length ≤ 1000000) : Does Try.prog [memA m (σ), rb p m obj g cs.length, gb g cs] 17 #[ptr p, .int .i64 who, .int .u64 x] (.bool (σ.turned obj 0 x)) [memA m (σ.turn who obj 0 x), rb p m obj g cs.length, gb g cs] := Does.of_scope fun S w0 w h => by
  have H0 := Lib.hid h; have Hx := Lib.hid hx
  clear h hx
  go_enter Try.func17, Try.ntmps17
  go_wp2_with fail
  refine ((rswap0_does who x Hx.out ho hl).call (Bs := []) (by simpa using H0.out)).mono ?_
  rintro e w1 ⟨rfl, s1⟩
  have S1 := Lib.hid s1
  clear s1
  go_wp2
  go_ret
  exact Ends.mk [] S1.out

theorem rswap1_does (who x : Int) (hx : U64 x) (ho : I64 obj) (hl : σ.log.length ≤ 1000000) : Does Try.prog [memA m (σ), rb p m obj g cs.length, gb g cs] 36 #[ptr p, .int .i64 who, .int .u64 x, .func (.func 45) #[] #[]] (.bool (σ.turned obj 1 x)) [memA m (σ.turn who obj 1 x), rb p m obj g cs.length, gb g cs] := Does.of_scope fun S w0 w h => by
  have zm : w.cell? ⟨p, 0, none⟩ = some (ptr m) := (h.row 1 rfl).cell rfl
  have hw := wordL_wf ho
  have H0 := Lib.hid h.drew; have H00 := Lib.hid h; have Hx := Lib.hid hx; have Hw := Lib.hid hw
  clear h hx hw
  cases hb : tB 1 x with
  | true =>
    rw [show σ.turned obj 1 x = decide (σ.num (wordL obj) = x) by simp [MS.turned, hb], show σ.turn who obj 1 x = σ.swap who (wordL obj) x (tW 1 x) from if_pos hb]
    have Hb := Lib.hid hb
    clear hb
    go_enter Try.func36, Try.ntmps36
    go_wp2_with fail
    refine (rest_same Hx.out _).mono ?_
    rintro e w1 ⟨he, rfl⟩
    rw [show tR 1 x = .tuple #[.int .u64 (tW 1 x), .bool true] by simp [tR, Hb.out]] at he
    subst he
    go_wp2_with fail
    go_region_held3 (fun w' => w'.cell? ⟨p, 0, none⟩ = some (ptr m)) (go_keep)
      (first
        | (go_at_call 39
           refine ((rat_does cs.length 11 0).at1 (Hid.out (by assumption))).mono ?_
           rintro e wq ⟨rfl, sq⟩
           have zm : wq.cell? ⟨p, 0, none⟩ = some (ptr m) := (sq.row 1 rfl).cell rfl
           have Hq := Lib.hid sq
           clear sq)
        | (go_at_call 64
           refine ((swap_does who (wordL obj) Hw.out x (tW 1 x) (tW_u Hb.out) hl).at0 Hq.out).mono ?_
           rintro e wz ⟨rfl, sq⟩
           have zm : wz.cell? ⟨p, 0, none⟩ = some (ptr m) := (sq.row 1 rfl).cell rfl
           have Hz := Lib.hid sq
           clear sq))
    go_wp2
    go_ret
    exact Ends.mk [] (by simpa using Hz.out)
  | false =>
    rw [show σ.turned obj 1 x = false by simp [MS.turned, hb], show σ.turn who obj 1 x = σ from if_neg (by simp [hb])]
    have Hb := Lib.hid hb
    clear hb
    go_enter Try.func36, Try.ntmps36
    go_wp2_with fail
    refine (rest_same Hx.out _).mono ?_
    rintro e w1 ⟨he, rfl⟩
    rw [show tR 1 x = .tuple #[.int .u64 (tW 1 x), .bool false] by simp [tR, Hb.out]] at he
    subst he
    go_wp2_with fail
    refine wp_region_any (by kernel_rfl) ?_
    change wpAny _ _ _ _ _ _ _ (World.drew _)
    have h0 : True := trivial
    refine wpAny_of_U (S := fun _ => True) (U := [0, 1, 2, 3, 4, 5, 6, 7, 8, 9, 10, 11, 12]) _ _ _ _ ?_
    refine wpAnyU_take (i := 0) (v := ?_) rfl (by kernel_rfl) (by kernel_rfl) (by kernel_rfl) (by kernel_rfl) (fun _ _ _ h => h) (Or.inl ⟨by rfl, ?_⟩) h0 ?_
    rotate_left 1
    · (intro w' hS; (try dsimp only at hS); (try simp only [List.getElem_toArray, List.getElem_cons_succ, List.getElem_cons_zero]); go_simp; (try with_reducible rfl))
    try simp only [Act.put, List.getElem_toArray, List.getElem_cons_succ, List.getElem_cons_zero, List.setIfInBounds_toArray, List.set_cons_zero, List.set_cons_succ]
    refine wpAnyU_take (i := 1) (v := ?_) rfl (by kernel_rfl) (by kernel_rfl) (by kernel_rfl) (by kernel_rfl) (fun _ _ _ h => h) (Or.inl ⟨by rfl, ?_⟩) h0 ?_
    rotate_left 1
    · (intro w' hS; (try dsimp only at hS); (try simp only [List.getElem_toArray, List.getElem_cons_succ, List.getElem_cons_zero]); go_simp; (try with_reducible rfl))
    try simp only [Act.put, List.getElem_toArray, List.getElem_cons_succ, List.getElem_cons_zero, List.setIfInBounds_toArray, List.set_cons_zero, List.set_cons_succ]
    refine wpAnyU_take (i := 2) (v := undef) rfl (by kernel_rfl) (by kernel_rfl) (by kernel_rfl) (by kernel_rfl) (fun _ _ _ h => h) (Or.inr ⟨by rfl, rfl⟩) h0 ?_
    try simp only [Act.put, List.getElem_toArray, List.getElem_cons_succ, List.getElem_cons_zero, List.setIfInBounds_toArray, List.set_cons_zero, List.set_cons_succ]
    refine wpAnyU_take (i := 3) (v := undef) rfl (by kernel_rfl) (by kernel_rfl) (by kernel_rfl) (by kernel_rfl) (fun _ _ _ h => h) (Or.inr ⟨by rfl, rfl⟩) h0 ?_
    try simp only [Act.put, List.getElem_toArray, List.getElem_cons_succ, List.getElem_cons_zero, List.setIfInBounds_toArray, List.set_cons_zero, List.set_cons_succ]
    refine wpAnyU_take (i := 4) (v := undef) rfl (by kernel_rfl) (by kernel_rfl) (by kernel_rfl) (by kernel_rfl) (fun _ _ _ h => h) (Or.inr ⟨by rfl, rfl⟩) h0 ?_
    try simp only [Act.put, List.getElem_toArray, List.getElem_cons_succ, List.getElem_cons_zero, List.setIfInBounds_toArray, List.set_cons_zero, List.set_cons_succ]
    refine wpAnyU_take (i := 5) (v := undef) rfl (by kernel_rfl) (by kernel_rfl) (by kernel_rfl) (by kernel_rfl) (fun _ _ _ h => h) (Or.inr ⟨by rfl, rfl⟩) h0 ?_
    try simp only [Act.put, List.getElem_toArray, List.getElem_cons_succ, List.getElem_cons_zero, List.setIfInBounds_toArray, List.set_cons_zero, List.set_cons_succ]
    refine wpAnyU_take (i := 6) (v := undef) rfl (by kernel_rfl) (by kernel_rfl) (by kernel_rfl) (by kernel_rfl) (fun _ _ _ h => h) (Or.inr ⟨by rfl, rfl⟩) h0 ?_
    try simp only [Act.put, List.getElem_toArray, List.getElem_cons_succ, List.getElem_cons_zero, List.setIfInBounds_toArray, List.set_cons_zero, List.set_cons_succ]
    refine wpAnyU_take (i := 7) (v := undef) rfl (by kernel_rfl) (by kernel_rfl) (by kernel_rfl) (by kernel_rfl) (fun _ _ _ h => h) (Or.inr ⟨by rfl, rfl⟩) h0 ?_
    try simp only [Act.put, List.getElem_toArray, List.getElem_cons_succ, List.getElem_cons_zero, List.setIfInBounds_toArray, List.set_cons_zero, List.set_cons_succ]
    refine wpAnyU_take (i := 8) (v := undef) rfl (by kernel_rfl) (by kernel_rfl) (by kernel_rfl) (by kernel_rfl) (fun _ _ _ h => h) (Or.inr ⟨by rfl, rfl⟩) h0 ?_
    try simp only [Act.put, List.getElem_toArray, List.getElem_cons_succ, List.getElem_cons_zero, List.setIfInBounds_toArray, List.set_cons_zero, List.set_cons_succ]
    refine wpAnyU_take (i := 9) (v := undef) rfl (by kernel_rfl) (by kernel_rfl) (by kernel_rfl) (by kernel_rfl) (fun _ _ _ h => h) (Or.inr ⟨by rfl, rfl⟩) h0 ?_
    try simp only [Act.put, List.getElem_toArray, List.getElem_cons_succ, List.getElem_cons_zero, List.setIfInBounds_toArray, List.set_cons_zero, List.set_cons_succ]
    refine wpAnyU_take (i := 10) (v := undef) rfl (by kernel_rfl) (by kernel_rfl) (by kernel_rfl) (by kernel_rfl) (fun _ _ _ h => h) (Or.inr ⟨by rfl, rfl⟩) h0 ?_
    try simp only [Act.put, List.getElem_toArray, List.getElem_cons_succ, List.getElem_cons_zero, List.setIfInBounds_toArray, List.set_cons_zero, List.set_cons_succ]
    refine wpAnyU_take (i := 11) (v := undef) rfl (by kernel_rfl) (by kernel_rfl) (by kernel_rfl) (by kernel_rfl) (fun _ _ _ h => h) (Or.inr ⟨by rfl, rfl⟩) h0 ?_
    try simp only [Act.put, List.getElem_toArray, List.getElem_cons_succ, List.getElem_cons_zero, List.setIfInBounds_toArray, List.set_cons_zero, List.set_cons_succ]
    refine wpAnyU_take (i := 12) (v := ?_) rfl (by kernel_rfl) (by kernel_rfl) (by kernel_rfl) (by kernel_rfl) (fun _ _ _ h => h) (Or.inl ⟨by rfl, ?_⟩) h0 ?_
    rotate_left 1
    · (intro w' hS; (try dsimp only at hS); (try simp only [List.getElem_toArray, List.getElem_cons_succ, List.getElem_cons_zero]); go_simp; (try with_reducible rfl))
    try simp only [Act.put, List.getElem_toArray, List.getElem_cons_succ, List.getElem_cons_zero, List.setIfInBounds_toArray, List.set_cons_zero, List.set_cons_succ]
    refine wpAnyU_rest _ _ _ _ (fun j hj => ?_) ?_
    · simp at hj; rcases hj with rfl | rfl | rfl | rfl | rfl | rfl | rfl | rfl | rfl | rfl | rfl | rfl | rfl <;> rfl
    refine wpAny_all (rs := [13]) (by kernel_rfl) (by simp) (fun i hi => ?_)
    obtain rfl : i = 13 := by simpa using hi
    refine wpOpU_stepG rfl (by rfl) (fun K hK => ?_)
    go_simp
    refine hK _ _ ?_
    clear hK K
    try simp only [Act.put, List.getElem_toArray, List.getElem_cons_succ, List.getElem_cons_zero, List.setIfInBounds_toArray, List.set_cons_zero, List.set_cons_succ]
    refine wpAny_done (by kernel_rfl) ?_ _
    go_wp2
    go_ret
    exact Ends.mk [] (by simpa using H0.out)
theorem rrest_does (who x : Int) (hx : U64 x) (ho : I64 obj) (hl : σ.log.length ≤ 1000000) : Does Try.prog [memA m (σ), rb p m obj g cs.length, gb g cs] 27 #[ptr p, .int .i64 who, .int .u64 x] (.bool (σ.turned obj 1 x)) [memA m (σ.turn who obj 1 x), rb p m obj g cs.length, gb g cs] := Does.of_scope fun S w0 w h => by
  have H0 := Lib.hid h; have Hx := Lib.hid hx
  clear h hx
  go_enter Try.func27, Try.ntmps27
  go_wp2_with fail
  refine ((rswap1_does who x Hx.out ho hl).call (Bs := []) (by simpa using H0.out)).mono ?_
  rintro e w1 ⟨rfl, s1⟩
  have S1 := Lib.hid s1
  clear s1
  go_wp2
  go_ret
  exact Ends.mk [] S1.out

theorem rswap2_does (who x : Int) (hx : U64 x) (ho : I64 obj) (hl : σ.log.length ≤ 1000000) : Does Try.prog [memA m (σ), rb p m obj g cs.length, gb g cs] 36 #[ptr p, .int .i64 who, .int .u64 x, .func (.func 44) #[] #[]] (.bool (σ.turned obj 2 x)) [memA m (σ.turn who obj 2 x), rb p m obj g cs.length, gb g cs] := Does.of_scope fun S w0 w h => by
  have zm : w.cell? ⟨p, 0, none⟩ = some (ptr m) := (h.row 1 rfl).cell rfl
  have hw := wordL_wf ho
  have H0 := Lib.hid h.drew; have H00 := Lib.hid h; have Hx := Lib.hid hx; have Hw := Lib.hid hw
  clear h hx hw
  cases hb : tB 2 x with
  | true =>
    rw [show σ.turned obj 2 x = decide (σ.num (wordL obj) = x) by simp [MS.turned, hb], show σ.turn who obj 2 x = σ.swap who (wordL obj) x (tW 2 x) from if_pos hb]
    have Hb := Lib.hid hb
    clear hb
    go_enter Try.func36, Try.ntmps36
    go_wp2_with fail
    refine (shut_same Hx.out _).mono ?_
    rintro e w1 ⟨he, rfl⟩
    rw [show tR 2 x = .tuple #[.int .u64 (tW 2 x), .bool true] by simp [tR, Hb.out]] at he
    subst he
    go_wp2_with fail
    go_region_held3 (fun w' => w'.cell? ⟨p, 0, none⟩ = some (ptr m)) (go_keep)
      (first
        | (go_at_call 39
           refine ((rat_does cs.length 11 0).at1 (Hid.out (by assumption))).mono ?_
           rintro e wq ⟨rfl, sq⟩
           have zm : wq.cell? ⟨p, 0, none⟩ = some (ptr m) := (sq.row 1 rfl).cell rfl
           have Hq := Lib.hid sq
           clear sq)
        | (go_at_call 64
           refine ((swap_does who (wordL obj) Hw.out x (tW 2 x) (tW_u Hb.out) hl).at0 Hq.out).mono ?_
           rintro e wz ⟨rfl, sq⟩
           have zm : wz.cell? ⟨p, 0, none⟩ = some (ptr m) := (sq.row 1 rfl).cell rfl
           have Hz := Lib.hid sq
           clear sq))
    go_wp2
    go_ret
    exact Ends.mk [] (by simpa using Hz.out)
  | false =>
    rw [show σ.turned obj 2 x = false by simp [MS.turned, hb], show σ.turn who obj 2 x = σ from if_neg (by simp [hb])]
    have Hb := Lib.hid hb
    clear hb
    go_enter Try.func36, Try.ntmps36
    go_wp2_with fail
    refine (shut_same Hx.out _).mono ?_
    rintro e w1 ⟨he, rfl⟩
    rw [show tR 2 x = .tuple #[.int .u64 (tW 2 x), .bool false] by simp [tR, Hb.out]] at he
    subst he
    go_wp2_with fail
    refine wp_region_any (by kernel_rfl) ?_
    change wpAny _ _ _ _ _ _ _ (World.drew _)
    have h0 : True := trivial
    refine wpAny_of_U (S := fun _ => True) (U := [0, 1, 2, 3, 4, 5, 6, 7, 8, 9, 10, 11, 12]) _ _ _ _ ?_
    refine wpAnyU_take (i := 0) (v := ?_) rfl (by kernel_rfl) (by kernel_rfl) (by kernel_rfl) (by kernel_rfl) (fun _ _ _ h => h) (Or.inl ⟨by rfl, ?_⟩) h0 ?_
    rotate_left 1
    · (intro w' hS; (try dsimp only at hS); (try simp only [List.getElem_toArray, List.getElem_cons_succ, List.getElem_cons_zero]); go_simp; (try with_reducible rfl))
    try simp only [Act.put, List.getElem_toArray, List.getElem_cons_succ, List.getElem_cons_zero, List.setIfInBounds_toArray, List.set_cons_zero, List.set_cons_succ]
    refine wpAnyU_take (i := 1) (v := ?_) rfl (by kernel_rfl) (by kernel_rfl) (by kernel_rfl) (by kernel_rfl) (fun _ _ _ h => h) (Or.inl ⟨by rfl, ?_⟩) h0 ?_
    rotate_left 1
    · (intro w' hS; (try dsimp only at hS); (try simp only [List.getElem_toArray, List.getElem_cons_succ, List.getElem_cons_zero]); go_simp; (try with_reducible rfl))
    try simp only [Act.put, List.getElem_toArray, List.getElem_cons_succ, List.getElem_cons_zero, List.setIfInBounds_toArray, List.set_cons_zero, List.set_cons_succ]
    refine wpAnyU_take (i := 2) (v := undef) rfl (by kernel_rfl) (by kernel_rfl) (by kernel_rfl) (by kernel_rfl) (fun _ _ _ h => h) (Or.inr ⟨by rfl, rfl⟩) h0 ?_
    try simp only [Act.put, List.getElem_toArray, List.getElem_cons_succ, List.getElem_cons_zero, List.setIfInBounds_toArray, List.set_cons_zero, List.set_cons_succ]
    refine wpAnyU_take (i := 3) (v := undef) rfl (by kernel_rfl) (by kernel_rfl) (by kernel_rfl) (by kernel_rfl) (fun _ _ _ h => h) (Or.inr ⟨by rfl, rfl⟩) h0 ?_
    try simp only [Act.put, List.getElem_toArray, List.getElem_cons_succ, List.getElem_cons_zero, List.setIfInBounds_toArray, List.set_cons_zero, List.set_cons_succ]
    refine wpAnyU_take (i := 4) (v := undef) rfl (by kernel_rfl) (by kernel_rfl) (by kernel_rfl) (by kernel_rfl) (fun _ _ _ h => h) (Or.inr ⟨by rfl, rfl⟩) h0 ?_
    try simp only [Act.put, List.getElem_toArray, List.getElem_cons_succ, List.getElem_cons_zero, List.setIfInBounds_toArray, List.set_cons_zero, List.set_cons_succ]
    refine wpAnyU_take (i := 5) (v := undef) rfl (by kernel_rfl) (by kernel_rfl) (by kernel_rfl) (by kernel_rfl) (fun _ _ _ h => h) (Or.inr ⟨by rfl, rfl⟩) h0 ?_
    try simp only [Act.put, List.getElem_toArray, List.getElem_cons_succ, List.getElem_cons_zero, List.setIfInBounds_toArray, List.set_cons_zero, List.set_cons_succ]
    refine wpAnyU_take (i := 6) (v := undef) rfl (by kernel_rfl) (by kernel_rfl) (by kernel_rfl) (by kernel_rfl) (fun _ _ _ h => h) (Or.inr ⟨by rfl, rfl⟩) h0 ?_
    try simp only [Act.put, List.getElem_toArray, List.getElem_cons_succ, List.getElem_cons_zero, List.setIfInBounds_toArray, List.set_cons_zero, List.set_cons_succ]
    refine wpAnyU_take (i := 7) (v := undef) rfl (by kernel_rfl) (by kernel_rfl) (by kernel_rfl) (by kernel_rfl) (fun _ _ _ h => h) (Or.inr ⟨by rfl, rfl⟩) h0 ?_
    try simp only [Act.put, List.getElem_toArray, List.getElem_cons_succ, List.getElem_cons_zero, List.setIfInBounds_toArray, List.set_cons_zero, List.set_cons_succ]
    refine wpAnyU_take (i := 8) (v := undef) rfl (by kernel_rfl) (by kernel_rfl) (by kernel_rfl) (by kernel_rfl) (fun _ _ _ h => h) (Or.inr ⟨by rfl, rfl⟩) h0 ?_
    try simp only [Act.put, List.getElem_toArray, List.getElem_cons_succ, List.getElem_cons_zero, List.setIfInBounds_toArray, List.set_cons_zero, List.set_cons_succ]
    refine wpAnyU_take (i := 9) (v := undef) rfl (by kernel_rfl) (by kernel_rfl) (by kernel_rfl) (by kernel_rfl) (fun _ _ _ h => h) (Or.inr ⟨by rfl, rfl⟩) h0 ?_
    try simp only [Act.put, List.getElem_toArray, List.getElem_cons_succ, List.getElem_cons_zero, List.setIfInBounds_toArray, List.set_cons_zero, List.set_cons_succ]
    refine wpAnyU_take (i := 10) (v := undef) rfl (by kernel_rfl) (by kernel_rfl) (by kernel_rfl) (by kernel_rfl) (fun _ _ _ h => h) (Or.inr ⟨by rfl, rfl⟩) h0 ?_
    try simp only [Act.put, List.getElem_toArray, List.getElem_cons_succ, List.getElem_cons_zero, List.setIfInBounds_toArray, List.set_cons_zero, List.set_cons_succ]
    refine wpAnyU_take (i := 11) (v := undef) rfl (by kernel_rfl) (by kernel_rfl) (by kernel_rfl) (by kernel_rfl) (fun _ _ _ h => h) (Or.inr ⟨by rfl, rfl⟩) h0 ?_
    try simp only [Act.put, List.getElem_toArray, List.getElem_cons_succ, List.getElem_cons_zero, List.setIfInBounds_toArray, List.set_cons_zero, List.set_cons_succ]
    refine wpAnyU_take (i := 12) (v := ?_) rfl (by kernel_rfl) (by kernel_rfl) (by kernel_rfl) (by kernel_rfl) (fun _ _ _ h => h) (Or.inl ⟨by rfl, ?_⟩) h0 ?_
    rotate_left 1
    · (intro w' hS; (try dsimp only at hS); (try simp only [List.getElem_toArray, List.getElem_cons_succ, List.getElem_cons_zero]); go_simp; (try with_reducible rfl))
    try simp only [Act.put, List.getElem_toArray, List.getElem_cons_succ, List.getElem_cons_zero, List.setIfInBounds_toArray, List.set_cons_zero, List.set_cons_succ]
    refine wpAnyU_rest _ _ _ _ (fun j hj => ?_) ?_
    · simp at hj; rcases hj with rfl | rfl | rfl | rfl | rfl | rfl | rfl | rfl | rfl | rfl | rfl | rfl | rfl <;> rfl
    refine wpAny_all (rs := [13]) (by kernel_rfl) (by simp) (fun i hi => ?_)
    obtain rfl : i = 13 := by simpa using hi
    refine wpOpU_stepG rfl (by rfl) (fun K hK => ?_)
    go_simp
    refine hK _ _ ?_
    clear hK K
    try simp only [Act.put, List.getElem_toArray, List.getElem_cons_succ, List.getElem_cons_zero, List.setIfInBounds_toArray, List.set_cons_zero, List.set_cons_succ]
    refine wpAny_done (by kernel_rfl) ?_ _
    go_wp2
    go_ret
    exact Ends.mk [] (by simpa using H0.out)
theorem rshut_does (who x : Int) (hx : U64 x) (ho : I64 obj) (hl : σ.log.length ≤ 1000000) : Does Try.prog [memA m (σ), rb p m obj g cs.length, gb g cs] 26 #[ptr p, .int .i64 who, .int .u64 x] (.bool (σ.turned obj 2 x)) [memA m (σ.turn who obj 2 x), rb p m obj g cs.length, gb g cs] := Does.of_scope fun S w0 w h => by
  have H0 := Lib.hid h; have Hx := Lib.hid hx
  clear h hx
  go_enter Try.func26, Try.ntmps26
  go_wp2_with fail
  refine ((rswap2_does who x Hx.out ho hl).call (Bs := []) (by simpa using H0.out)).mono ?_
  rintro e w1 ⟨rfl, s1⟩
  have S1 := Lib.hid s1
  clear s1
  go_wp2
  go_ret
  exact Ends.mk [] S1.out
end
end Go.Proofs.Ytjipjhmcpjffcad
