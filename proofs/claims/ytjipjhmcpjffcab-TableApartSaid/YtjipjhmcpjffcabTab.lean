/- The methods of package table and of the reference's Table: what they do to the memory under them. -/
import Derived.Test.YtjipjhmcpjffcabUsesP
import Derived.Laws.BitsAllLaws
set_option linter.unusedSimpArgs false
set_option linter.unusedVariables false
namespace Go.Proofs.Ytjipjhmcpjffcab
open Go Go.RowKit Go.Maps

/-- A table: its memory, and its own block. -/
@[reducible] def tabA (p m : Nat) (sh sl : Int) (σ : MS) : HA := stars [memA m σ, box p [ptr m, .int .i64 sh, .int .i64 sl] 71]
@[reducible] def rtabA (q x n : Nat) (sh sl : Int) (σ : MS) : HA := stars [refA x n σ, box q [ptr x, .int .i64 sh, .int .i64 sl] 32]
@[reducible] def mutL (s : Int) : Lc := ⟨8, s, 0⟩
@[reducible] def slotL (s i : Int) : Lc := ⟨10, s, i⟩
theorem mutL_wf {s : Int} (h : I64 s) : (mutL s).wf := ⟨(show I64 8 by unfold I64; omega), h, (show I64 0 by unfold I64; omega)⟩
theorem slotL_wf {s i : Int} (h : I64 s) (hi : I64 i) : (slotL s i).wf := ⟨(show I64 10 by unfold I64; omega), h, hi⟩

theorem rloc_pure (k a b : Int) : Pure Try.prog 50 #[.int .i64 k, .int .i64 a, .int .i64 b] (⟨k, a, b⟩ : Lc).val := fun w => by
  go_enter Try.func50, Try.ntmps50
  go_wp2
  exact bodyPost_ret (results_cell_row rfl _ _ w.heap.size 62 #[.int .i64 k, .int .i64 a, .int .i64 b] (0, 0) _ rfl (Row.new w [.int .i64 k, .int .i64 a, .int .i64 b] 62) Try.underlying62 rfl (by kernel_rfl)) rfl ⟨rfl, (Chg.refl _ _).alloc _⟩
theorem mutex_pure (s : Int) : Pure Try.prog 31 #[.int .i64 s] (mutL s).val := fun w => by
  go_enter Try.func31, Try.ntmps31
  go_wp2
  exact bodyPost_ret (results_cell_row rfl _ _ w.heap.size 62 #[.int .i64 8, .int .i64 s, .int .i64 0] (0, 0) _ rfl (Row.new w [.int .i64 8, .int .i64 s, .int .i64 0] 62) Try.underlying62 rfl (by kernel_rfl)) rfl ⟨rfl, (Chg.refl _ _).alloc _⟩
theorem slot_pure (s i : Int) : Pure Try.prog 29 #[.int .i64 s, .int .i64 i] (slotL s i).val := fun w => by
  go_enter Try.func29, Try.ntmps29
  go_wp2
  exact bodyPost_ret (results_cell_row rfl _ _ w.heap.size 62 #[.int .i64 10, .int .i64 s, .int .i64 i] (0, 0) _ rfl (Row.new w [.int .i64 10, .int .i64 s, .int .i64 i] 62) Try.underlying62 rfl (by kernel_rfl)) rfl ⟨rfl, (Chg.refl _ _).alloc _⟩

/-- A flow and an object as a slot's number. -/
def slotF (v : Int) : Int := if v = 0 then 0 else v / 4294967296 - 1
def slotO (v : Int) : Int := if v = 0 then 0 else v % 4294967296
def slotB (v : Int) : Bool := decide (v ≠ 0)
def slotR (v : Int) : Value := .tuple #[.int .i64 (slotF v), .int .i64 (slotO v), .bool (slotB v)]
theorem slotR_no {v : Int} (h : v = 0) : slotR v = .tuple #[.int .i64 0, .int .i64 0, .bool false] := by subst h; rfl
theorem slotR_yes {v : Int} (h : v ≠ 0) : slotR v = .tuple #[.int .i64 (v / 4294967296 - 1), .int .i64 (v % 4294967296), .bool true] := by simp [slotR, slotF, slotO, slotB, h]
theorem slot_and {v : Int} (h : U64 v) : Go.bits .and .u64 v 4294967295 = v % 4294967296 := by
  obtain ⟨h0, h1⟩ := h
  rw [u64_and _ _ (by omega) (by omega) (by omega) (by omega)]
  have : (4294967295 : Int).toNat = 2 ^ 32 - 1 := by decide
  rw [this, Nat.and_two_pow_sub_one_eq_mod]
  omega
def slotN (flow obj : Int) : Int := (flow + 1) * 4294967296 + obj
def goodB (flow obj : Int) : Bool := decide (0 ≤ flow ∧ flow ≤ 1048576 ∧ 0 ≤ obj ∧ obj < 4294967296)
theorem slotN_u {flow obj : Int} (h0 : 0 ≤ flow) (h1 : flow ≤ 1048576) (h2 : 0 ≤ obj) (h3 : obj < 4294967296) : U64 (slotN flow obj) := by unfold slotN U64; omega
theorem slot_or {flow obj : Int} (h0 : 0 ≤ flow) (h1 : flow ≤ 1048576) (h2 : 0 ≤ obj) (h3 : obj < 4294967296) : Go.bits .or .u64 ((flow + 1) * 4294967296) obj = slotN flow obj := by
  rw [u64_or _ _ (by omega) (by omega) (by omega) (by omega), nat_join 32 _ _ (by omega) (by omega)]
  unfold slotN
  omega
section
variable {p q m x n : Nat} {sh sl : Int} {σ : MS}

set_option maxHeartbeats 1000000 in
/-- Lock. -/
theorem tlock_does (who s : Int) (hs : I64 s) (hl : σ.log.length ≤ 1000000) :
    Does Try.prog [stars [memA m σ, box p [ptr m, .int .i64 sh, .int .i64 sl] 71]] 21 #[ptr p, .int .i64 who, .int .i64 s] (.bool (decide (σ.num (mutL s) = 0))) [stars [memA m (σ.swap who (mutL s) 0 1), box p [ptr m, .int .i64 sh, .int .i64 sl] 71]] := Does.pack fun S w0 w h => by
  have c0 : w.cell? ⟨p, 0, none⟩ = some (ptr m) := (h.row 1 rfl).cell rfl
  have H0 := Lib.hid h
  clear h
  have hw := mutL_wf hs; have Hw := Lib.hid hw
  clear hw
  go_enter Try.func21, Try.ntmps21
  go_wp2_with fail
  go_region_held3 (fun w' => w'.cell? ⟨p, 0, none⟩ = some (ptr m))
    (go_keep)
    (first
      | (go_at_call 31
         refine ((mutex_pure s).at H0.out.drew).mono ?_
         rintro e w1 ⟨rfl, s1⟩
         have g1 : w1.cell? ⟨p, 0, none⟩ = some (ptr m) := (s1.row 1 rfl).cell rfl
         have H1 := Lib.hid s1
         clear s1)
      | (go_at_call 32
         refine ((swap_does who (mutL s) Hw.out 0 1 (by unfold U64; omega) hl).at0 H1.out).mono ?_
         rintro e wz ⟨rfl, sz⟩
         have gz : wz.cell? ⟨p, 0, none⟩ = some (ptr m) := (sz.row 1 rfl).cell rfl
         have Hz := Lib.hid sz
         clear sz))
  go_wp2
  go_ret
  exact Ends.mk [] (by simpa using Hz.out)

set_option maxHeartbeats 1000000 in
/-- Lock. -/
theorem rtlock_does (who s : Int) (hn : n ≤ 1000000) (hl : σ.log.length ≤ 1000000) :
    Does Try.prog [stars [refA x n σ, box q [ptr x, .int .i64 sh, .int .i64 sl] 32]] 36 #[ptr q, .int .i64 who, .int .i64 s] (.bool (decide (σ.num (mutL s) = 0))) [stars [refA x (n + 1) (σ.swap who (mutL s) 0 1), box q [ptr x, .int .i64 sh, .int .i64 sl] 32]] := Does.pack fun S w0 w h => by
  have c0 : w.cell? ⟨q, 0, none⟩ = some (ptr x) := (h.row 1 rfl).cell rfl
  have H0 := Lib.hid h
  clear h
  go_enter Try.func36, Try.ntmps36
  go_wp2_with fail
  go_region_held3 (fun w' => w'.cell? ⟨q, 0, none⟩ = some (ptr x))
    (go_keep)
    (first
      | (go_at_call 50
         refine ((rloc_pure 8 s 0).at H0.out.drew).mono ?_
         rintro e w1 ⟨rfl, s1⟩
         have g1 : w1.cell? ⟨q, 0, none⟩ = some (ptr x) := (s1.row 1 rfl).cell rfl
         have H1 := Lib.hid s1
         clear s1)
      | (go_at_call 49
         refine ((rswap_does who (mutL s) 0 1 hn hl).at0 H1.out).mono ?_
         rintro e wz ⟨rfl, sz⟩
         have gz : wz.cell? ⟨q, 0, none⟩ = some (ptr x) := (sz.row 1 rfl).cell rfl
         have Hz := Lib.hid sz
         clear sz))
  go_wp2
  go_ret
  exact Ends.mk [] (by simpa using Hz.out)

set_option maxHeartbeats 1000000 in
/-- Unlock. -/
theorem tunlock_does (who s : Int) (hs : I64 s) (hl : σ.log.length ≤ 1000000) :
    Does Try.prog [stars [memA m σ, box p [ptr m, .int .i64 sh, .int .i64 sl] 71]] 20 #[ptr p, .int .i64 who, .int .i64 s] (.tuple #[]) [stars [memA m ((σ.put who 2 (mutL s)).set (mutL s) 0), box p [ptr m, .int .i64 sh, .int .i64 sl] 71]] := Does.pack fun S w0 w h => by
  have c0 : w.cell? ⟨p, 0, none⟩ = some (ptr m) := (h.row 1 rfl).cell rfl
  have H0 := Lib.hid h
  clear h
  have hw := mutL_wf hs; have Hw := Lib.hid hw
  clear hw
  go_enter Try.func20, Try.ntmps20
  go_wp2_with fail
  go_region_held3 (fun w' => w'.cell? ⟨p, 0, none⟩ = some (ptr m))
    (go_keep)
    (first
      | (go_at_call 31
         refine ((mutex_pure s).at H0.out.drew).mono ?_
         rintro e w1 ⟨rfl, s1⟩
         have g1 : w1.cell? ⟨p, 0, none⟩ = some (ptr m) := (s1.row 1 rfl).cell rfl
         have H1 := Lib.hid s1
         clear s1)
      | (go_at_call 28
         refine ((store_does who (mutL s) Hw.out 0 (by unfold U64; omega) hl).at0 H1.out).mono ?_
         rintro e wz ⟨rfl, sz⟩
         have gz : wz.cell? ⟨p, 0, none⟩ = some (ptr m) := (sz.row 1 rfl).cell rfl
         have Hz := Lib.hid sz
         clear sz))
  go_wp2
  go_end0
  exact Ends.mk [] (by simpa using Hz.out)

set_option maxHeartbeats 1000000 in
/-- Unlock. -/
theorem rtunlock_does (who s : Int) (hn : n ≤ 1000000) (hl : σ.log.length ≤ 1000000) :
    Does Try.prog [stars [refA x n σ, box q [ptr x, .int .i64 sh, .int .i64 sl] 32]] 37 #[ptr q, .int .i64 who, .int .i64 s] (.tuple #[]) [stars [refA x (n + 1) ((σ.put who 2 (mutL s)).set (mutL s) 0), box q [ptr x, .int .i64 sh, .int .i64 sl] 32]] := Does.pack fun S w0 w h => by
  have c0 : w.cell? ⟨q, 0, none⟩ = some (ptr x) := (h.row 1 rfl).cell rfl
  have H0 := Lib.hid h
  clear h
  go_enter Try.func37, Try.ntmps37
  go_wp2_with fail
  go_region_held3 (fun w' => w'.cell? ⟨q, 0, none⟩ = some (ptr x))
    (go_keep)
    (first
      | (go_at_call 50
         refine ((rloc_pure 8 s 0).at H0.out.drew).mono ?_
         rintro e w1 ⟨rfl, s1⟩
         have g1 : w1.cell? ⟨q, 0, none⟩ = some (ptr x) := (s1.row 1 rfl).cell rfl
         have H1 := Lib.hid s1
         clear s1)
      | (go_at_call 51
         refine ((rstore_does who (mutL s) 0 hn hl).at0 H1.out).mono ?_
         rintro e wz ⟨rfl, sz⟩
         have gz : wz.cell? ⟨q, 0, none⟩ = some (ptr x) := (sz.row 1 rfl).cell rfl
         have Hz := Lib.hid sz
         clear sz))
  go_wp2
  go_end0
  exact Ends.mk [] (by simpa using Hz.out)

set_option maxHeartbeats 1000000 in
/-- Clear. -/
theorem tclear_does (who s i : Int) (hs : I64 s) (hi : I64 i) (hl : σ.log.length ≤ 1000000) :
    Does Try.prog [stars [memA m σ, box p [ptr m, .int .i64 sh, .int .i64 sl] 71]] 19 #[ptr p, .int .i64 who, .int .i64 s, .int .i64 i] (.tuple #[]) [stars [memA m ((σ.put who 2 (slotL s i)).set (slotL s i) 0), box p [ptr m, .int .i64 sh, .int .i64 sl] 71]] := Does.pack fun S w0 w h => by
  have c0 : w.cell? ⟨p, 0, none⟩ = some (ptr m) := (h.row 1 rfl).cell rfl
  have H0 := Lib.hid h
  clear h
  have hw := slotL_wf hs hi; have Hw := Lib.hid hw
  clear hw
  go_enter Try.func19, Try.ntmps19
  go_wp2_with fail
  go_region_held3 (fun w' => w'.cell? ⟨p, 0, none⟩ = some (ptr m))
    (go_keep)
    (first
      | (go_at_call 29
         refine ((slot_pure s i).at H0.out.drew).mono ?_
         rintro e w1 ⟨rfl, s1⟩
         have g1 : w1.cell? ⟨p, 0, none⟩ = some (ptr m) := (s1.row 1 rfl).cell rfl
         have H1 := Lib.hid s1
         clear s1)
      | (go_at_call 28
         refine ((store_does who (slotL s i) Hw.out 0 (by unfold U64; omega) hl).at0 H1.out).mono ?_
         rintro e wz ⟨rfl, sz⟩
         have gz : wz.cell? ⟨p, 0, none⟩ = some (ptr m) := (sz.row 1 rfl).cell rfl
         have Hz := Lib.hid sz
         clear sz))
  go_wp2
  go_end0
  exact Ends.mk [] (by simpa using Hz.out)

set_option maxHeartbeats 1000000 in
/-- Clear. -/
theorem rtclear_does (who s i : Int) (hn : n ≤ 1000000) (hl : σ.log.length ≤ 1000000) :
    Does Try.prog [stars [refA x n σ, box q [ptr x, .int .i64 sh, .int .i64 sl] 32]] 41 #[ptr q, .int .i64 who, .int .i64 s, .int .i64 i] (.tuple #[]) [stars [refA x (n + 1) ((σ.put who 2 (slotL s i)).set (slotL s i) 0), box q [ptr x, .int .i64 sh, .int .i64 sl] 32]] := Does.pack fun S w0 w h => by
  have c0 : w.cell? ⟨q, 0, none⟩ = some (ptr x) := (h.row 1 rfl).cell rfl
  have H0 := Lib.hid h
  clear h
  go_enter Try.func41, Try.ntmps41
  go_wp2_with fail
  go_region_held3 (fun w' => w'.cell? ⟨q, 0, none⟩ = some (ptr x))
    (go_keep)
    (first
      | (go_at_call 50
         refine ((rloc_pure 10 s i).at H0.out.drew).mono ?_
         rintro e w1 ⟨rfl, s1⟩
         have g1 : w1.cell? ⟨q, 0, none⟩ = some (ptr x) := (s1.row 1 rfl).cell rfl
         have H1 := Lib.hid s1
         clear s1)
      | (go_at_call 51
         refine ((rstore_does who (slotL s i) 0 hn hl).at0 H1.out).mono ?_
         rintro e wz ⟨rfl, sz⟩
         have gz : wz.cell? ⟨q, 0, none⟩ = some (ptr x) := (sz.row 1 rfl).cell rfl
         have Hz := Lib.hid sz
         clear sz))
  go_wp2
  go_end0
  exact Ends.mk [] (by simpa using Hz.out)

set_option maxHeartbeats 1000000 in
/-- Put, of what may be. -/
theorem tput_yes (who s i flow obj : Int) (hs : I64 s) (hi : I64 i) (hl : σ.log.length ≤ 1000000) (h0 : 0 ≤ flow) (h1 : flow ≤ 1048576) (h2 : 0 ≤ obj) (h3 : obj < 4294967296) :
    Does Try.prog [stars [memA m σ, box p [ptr m, .int .i64 sh, .int .i64 sl] 71]] 16 #[ptr p, .int .i64 who, .int .i64 s, .int .i64 i, .int .i64 flow, .int .i64 obj] (.bool true) [stars [memA m ((σ.put who 2 (slotL s i)).set (slotL s i) (slotN flow obj)), box p [ptr m, .int .i64 sh, .int .i64 sl] 71]] := Does.pack fun S w0 w h => by
  have c0 : w.cell? ⟨p, 0, none⟩ = some (ptr m) := (h.row 1 rfl).cell rfl
  have H0 := Lib.hid h
  clear h
  have hw := slotL_wf hs hi; have Hw := Lib.hid hw
  clear hw
  have hu := slotN_u h0 h1 h2 h3; have Hu := Lib.hid hu; have e1 : IntKind.i64.wrap (flow + 1) = flow + 1 := by rw [IntKind.wrap_i64]; omega
  have e2 : IntKind.u64.wrap (flow + 1) = flow + 1 := by rw [IntKind.wrap_u64]; omega
  have e3 : IntKind.u64.wrap ((flow + 1) * 4294967296) = (flow + 1) * 4294967296 := by rw [IntKind.wrap_u64]; omega
  have e4 : IntKind.u64.wrap obj = obj := by rw [IntKind.wrap_u64]; omega
  clear hu
  have e5 := slot_or h0 h1 h2 h3
  go_enter Try.func16, Try.ntmps16
  go_wp2_with fail
  go_region_held3 (fun w' => w'.cell? ⟨p, 0, none⟩ = some (ptr m))
    (go_keep)
    (first
      | (go_at_call 29
         refine ((slot_pure s i).at H0.out.drew).mono ?_
         rintro e w1 ⟨rfl, s1⟩
         have g1 : w1.cell? ⟨p, 0, none⟩ = some (ptr m) := (s1.row 1 rfl).cell rfl
         have H1 := Lib.hid s1
         clear s1)
      | (go_at_call 28
         refine ((store_does who (slotL s i) Hw.out (slotN flow obj) Hu.out hl).at0 H1.out).mono ?_
         rintro e wz ⟨rfl, sz⟩
         have gz : wz.cell? ⟨p, 0, none⟩ = some (ptr m) := (sz.row 1 rfl).cell rfl
         have Hz := Lib.hid sz
         clear sz))
  go_wp2
  go_ret
  exact Ends.mk [] (by simpa using Hz.out)

set_option maxHeartbeats 1000000 in
/-- Put, of what may be. -/
theorem rtput_yes (who s i flow obj : Int) (hn : n ≤ 1000000) (hl : σ.log.length ≤ 1000000) (h0 : 0 ≤ flow) (h1 : flow ≤ 1048576) (h2 : 0 ≤ obj) (h3 : obj < 4294967296) :
    Does Try.prog [stars [refA x n σ, box q [ptr x, .int .i64 sh, .int .i64 sl] 32]] 40 #[ptr q, .int .i64 who, .int .i64 s, .int .i64 i, .int .i64 flow, .int .i64 obj] (.bool true) [stars [refA x (n + 1) ((σ.put who 2 (slotL s i)).set (slotL s i) (slotN flow obj)), box q [ptr x, .int .i64 sh, .int .i64 sl] 32]] := Does.pack fun S w0 w h => by
  have c0 : w.cell? ⟨q, 0, none⟩ = some (ptr x) := (h.row 1 rfl).cell rfl
  have H0 := Lib.hid h
  clear h
  have hu := slotN_u h0 h1 h2 h3; have Hu := Lib.hid hu; have e1 : IntKind.i64.wrap (flow + 1) = flow + 1 := by rw [IntKind.wrap_i64]; omega
  have e2 : IntKind.u64.wrap (flow + 1) = flow + 1 := by rw [IntKind.wrap_u64]; omega
  have e3 : IntKind.u64.wrap ((flow + 1) * 4294967296) = (flow + 1) * 4294967296 := by rw [IntKind.wrap_u64]; omega
  have e4 : IntKind.u64.wrap obj = obj := by rw [IntKind.wrap_u64]; omega
  clear hu
  have e5 : IntKind.u64.wrap ((flow + 1) * 4294967296 + obj) = slotN flow obj := by unfold slotN; rw [IntKind.wrap_u64]; omega
  have h4 : (4294967296 ≤ obj) = False := by simp; omega
  go_enter Try.func40, Try.ntmps40
  go_wp2_with fail
  go_region_held3 (fun w' => w'.cell? ⟨q, 0, none⟩ = some (ptr x))
    (go_keep)
    (first
      | (go_at_call 50
         refine ((rloc_pure 10 s i).at H0.out.drew).mono ?_
         rintro e w1 ⟨rfl, s1⟩
         have g1 : w1.cell? ⟨q, 0, none⟩ = some (ptr x) := (s1.row 1 rfl).cell rfl
         have H1 := Lib.hid s1
         clear s1)
      | (go_at_call 51
         refine ((rstore_does who (slotL s i) (slotN flow obj) hn hl).at0 H1.out).mono ?_
         rintro e wz ⟨rfl, sz⟩
         have gz : wz.cell? ⟨q, 0, none⟩ = some (ptr x) := (sz.row 1 rfl).cell rfl
         have Hz := Lib.hid sz
         clear sz))
  go_wp2
  go_ret
  exact Ends.mk [] (by simpa using Hz.out)

set_option maxHeartbeats 1000000 in
theorem tput_no (who s i flow obj : Int) (ho : I64 obj) (hb : goodB flow obj = false) : Does Try.prog [stars [memA m σ, box p [ptr m, .int .i64 sh, .int .i64 sl] 71]] 16 #[ptr p, .int .i64 who, .int .i64 s, .int .i64 i, .int .i64 flow, .int .i64 obj] (.bool false) [stars [memA m σ, box p [ptr m, .int .i64 sh, .int .i64 sl] 71]] := Does.pack fun S w0 w h => by
  have H0 := Lib.hid h
  clear h
  have hb := of_decide_eq_false hb
  by_cases a : flow < 0
  · clear hb
    clear ho
    go_enter Try.func16, Try.ntmps16
    go_wp2
    go_ret
    exact Ends.mk [] (by simpa using H0.out)
  by_cases b : 1048576 < flow
  · clear hb
    clear ho
    go_enter Try.func16, Try.ntmps16
    go_wp2
    go_ret
    exact Ends.mk [] (by simpa using H0.out)
  by_cases c : obj < 0
  · clear hb
    clear ho
    go_enter Try.func16, Try.ntmps16
    go_wp2
    go_ret
    exact Ends.mk [] (by simpa using H0.out)
  · have d : 4294967296 ≤ obj := by omega
    clear hb
    clear ho
    go_enter Try.func16, Try.ntmps16
    go_wp2
    go_ret
    exact Ends.mk [] (by simpa using H0.out)

set_option maxHeartbeats 1000000 in
theorem rtput_no (who s i flow obj : Int) (ho : I64 obj) (hb : goodB flow obj = false) : Does Try.prog [stars [refA x n σ, box q [ptr x, .int .i64 sh, .int .i64 sl] 32]] 40 #[ptr q, .int .i64 who, .int .i64 s, .int .i64 i, .int .i64 flow, .int .i64 obj] (.bool false) [stars [refA x n σ, box q [ptr x, .int .i64 sh, .int .i64 sl] 32]] := Does.pack fun S w0 w h => by
  have H0 := Lib.hid h
  clear h
  have hb := of_decide_eq_false hb
  by_cases a : flow < 0
  · clear hb
    clear ho
    go_enter Try.func40, Try.ntmps40
    go_wp2
    go_ret
    exact Ends.mk [] (by simpa using H0.out)
  by_cases b : 1048576 < flow
  · clear hb
    clear ho
    go_enter Try.func40, Try.ntmps40
    go_wp2
    go_ret
    exact Ends.mk [] (by simpa using H0.out)
  by_cases c : obj < 0
  · clear hb
    clear ho
    go_enter Try.func40, Try.ntmps40
    go_wp2
    go_ret
    exact Ends.mk [] (by simpa using H0.out)
  · have d : 4294967296 ≤ obj := by omega
    clear hb
    have e4 : IntKind.u64.wrap obj = obj := by rw [IntKind.wrap_u64]; unfold I64 at ho; omega
    clear ho
    go_enter Try.func40, Try.ntmps40
    go_wp2
    go_ret
    exact Ends.mk [] (by simpa using H0.out)

set_option maxHeartbeats 1000000 in
/-- Slot. -/
theorem tslot_no (who s i : Int) (hs : I64 s) (hi : I64 i) (hl : σ.log.length ≤ 1000000) (hu : U64 (σ.num (slotL s i))) (hz : σ.num (slotL s i) = 0) :
    Does Try.prog [stars [memA m σ, box p [ptr m, .int .i64 sh, .int .i64 sl] 71]] 17 #[ptr p, .int .i64 who, .int .i64 s, .int .i64 i] (slotR (σ.num (slotL s i))) [stars [memA m (σ.put who 1 (slotL s i)), box p [ptr m, .int .i64 sh, .int .i64 sl] 71]] := Does.pack fun S w0 w h => by
  have c0 : w.cell? ⟨p, 0, none⟩ = some (ptr m) := (h.row 1 rfl).cell rfl
  have H0 := Lib.hid h
  clear h
  have hw := slotL_wf hs hi; have Hw := Lib.hid hw
  clear hw
  rw [slotR_no hz]
  have Hz' := Lib.hid hz
  clear hz hu
  go_enter Try.func17, Try.ntmps17
  go_wp2_with fail
  go_region_held3 (fun w' => w'.cell? ⟨p, 0, none⟩ = some (ptr m))
    (go_keep)
    (first
      | (go_at_call 29
         refine ((slot_pure s i).at H0.out.drew).mono ?_
         rintro e w1 ⟨rfl, s1⟩
         have g1 : w1.cell? ⟨p, 0, none⟩ = some (ptr m) := (s1.row 1 rfl).cell rfl
         have H1 := Lib.hid s1
         clear s1)
      | (go_at_call 30
         refine ((load_does who (slotL s i) Hw.out hl).at0 H1.out).mono ?_
         rintro e wz ⟨rfl, sz⟩
         have gz : wz.cell? ⟨p, 0, none⟩ = some (ptr m) := (sz.row 1 rfl).cell rfl
         have Hz := Lib.hid sz
         clear sz))
  have hz' := Hz'.out
  go_wp2
  go_ret3
  exact Ends.mk [] (by simpa using Hz.out)

set_option maxHeartbeats 1000000 in
/-- Slot. -/
theorem rtslot_no (who s i : Int) (hn : n ≤ 1000000) (hl : σ.log.length ≤ 1000000) (hu : U64 (σ.num (slotL s i))) (hz : σ.num (slotL s i) = 0) :
    Does Try.prog [stars [refA x n σ, box q [ptr x, .int .i64 sh, .int .i64 sl] 32]] 42 #[ptr q, .int .i64 who, .int .i64 s, .int .i64 i] (slotR (σ.num (slotL s i))) [stars [refA x (n + 1) (σ.put who 1 (slotL s i)), box q [ptr x, .int .i64 sh, .int .i64 sl] 32]] := Does.pack fun S w0 w h => by
  have c0 : w.cell? ⟨q, 0, none⟩ = some (ptr x) := (h.row 1 rfl).cell rfl
  have H0 := Lib.hid h
  clear h
  rw [slotR_no hz]
  have Hz' := Lib.hid hz
  clear hz hu
  go_enter Try.func42, Try.ntmps42
  go_wp2_with fail
  go_region_held3 (fun w' => w'.cell? ⟨q, 0, none⟩ = some (ptr x))
    (go_keep)
    (first
      | (go_at_call 50
         refine ((rloc_pure 10 s i).at H0.out.drew).mono ?_
         rintro e w1 ⟨rfl, s1⟩
         have g1 : w1.cell? ⟨q, 0, none⟩ = some (ptr x) := (s1.row 1 rfl).cell rfl
         have H1 := Lib.hid s1
         clear s1)
      | (go_at_call 52
         refine ((rload_does who (slotL s i) hn hl).at0 H1.out).mono ?_
         rintro e wz ⟨rfl, sz⟩
         have gz : wz.cell? ⟨q, 0, none⟩ = some (ptr x) := (sz.row 1 rfl).cell rfl
         have Hz := Lib.hid sz
         clear sz))
  have hz' := Hz'.out
  go_wp2
  go_ret3
  exact Ends.mk [] (by simpa using Hz.out)

set_option maxHeartbeats 1000000 in
/-- Slot. -/
theorem tslot_yes (who s i : Int) (hs : I64 s) (hi : I64 i) (hl : σ.log.length ≤ 1000000) (hu : U64 (σ.num (slotL s i))) (hz : σ.num (slotL s i) ≠ 0) :
    Does Try.prog [stars [memA m σ, box p [ptr m, .int .i64 sh, .int .i64 sl] 71]] 17 #[ptr p, .int .i64 who, .int .i64 s, .int .i64 i] (slotR (σ.num (slotL s i))) [stars [memA m (σ.put who 1 (slotL s i)), box p [ptr m, .int .i64 sh, .int .i64 sl] 71]] := Does.pack fun S w0 w h => by
  have c0 : w.cell? ⟨p, 0, none⟩ = some (ptr m) := (h.row 1 rfl).cell rfl
  have H0 := Lib.hid h
  clear h
  have hw := slotL_wf hs hi; have Hw := Lib.hid hw
  clear hw
  rw [slotR_yes hz]
  have hz' : (σ.num (slotL s i) == 0) = false := by simpa using hz
  have b1 : 0 ≤ σ.num (slotL s i) := hu.1
  have b2 : σ.num (slotL s i) ≤ 18446744073709551615 := hu.2
  have b3 := slot_and hu
  have Hz' := Lib.hid hz'; have B1 := Lib.hid b1; have B2 := Lib.hid b2; have B3 := Lib.hid b3
  clear hz hu hz' b1 b2 b3
  go_enter Try.func17, Try.ntmps17
  go_wp2_with fail
  go_region_held3 (fun w' => w'.cell? ⟨p, 0, none⟩ = some (ptr m))
    (go_keep)
    (first
      | (go_at_call 29
         refine ((slot_pure s i).at H0.out.drew).mono ?_
         rintro e w1 ⟨rfl, s1⟩
         have g1 : w1.cell? ⟨p, 0, none⟩ = some (ptr m) := (s1.row 1 rfl).cell rfl
         have H1 := Lib.hid s1
         clear s1)
      | (go_at_call 30
         refine ((load_does who (slotL s i) Hw.out hl).at0 H1.out).mono ?_
         rintro e wz ⟨rfl, sz⟩
         have gz : wz.cell? ⟨p, 0, none⟩ = some (ptr m) := (sz.row 1 rfl).cell rfl
         have Hz := Lib.hid sz
         clear sz))
  have hz' := Hz'.out; have b1 := B1.out; have b2 := B2.out; have b3 := B3.out
  go_wp2
  go_ret3
  exact Ends.mk [] (by simpa using Hz.out)

set_option maxHeartbeats 1000000 in
/-- Slot. -/
theorem rtslot_yes (who s i : Int) (hn : n ≤ 1000000) (hl : σ.log.length ≤ 1000000) (hu : U64 (σ.num (slotL s i))) (hz : σ.num (slotL s i) ≠ 0) :
    Does Try.prog [stars [refA x n σ, box q [ptr x, .int .i64 sh, .int .i64 sl] 32]] 42 #[ptr q, .int .i64 who, .int .i64 s, .int .i64 i] (slotR (σ.num (slotL s i))) [stars [refA x (n + 1) (σ.put who 1 (slotL s i)), box q [ptr x, .int .i64 sh, .int .i64 sl] 32]] := Does.pack fun S w0 w h => by
  have c0 : w.cell? ⟨q, 0, none⟩ = some (ptr x) := (h.row 1 rfl).cell rfl
  have H0 := Lib.hid h
  clear h
  rw [slotR_yes hz]
  have hz' : (σ.num (slotL s i) == 0) = false := by simpa using hz
  have b1 : 0 ≤ σ.num (slotL s i) := hu.1
  have b2 : σ.num (slotL s i) ≤ 18446744073709551615 := hu.2
  have b3 := slot_and hu
  have Hz' := Lib.hid hz'; have B1 := Lib.hid b1; have B2 := Lib.hid b2; have B3 := Lib.hid b3
  clear hz hu hz' b1 b2 b3
  go_enter Try.func42, Try.ntmps42
  go_wp2_with fail
  go_region_held3 (fun w' => w'.cell? ⟨q, 0, none⟩ = some (ptr x))
    (go_keep)
    (first
      | (go_at_call 50
         refine ((rloc_pure 10 s i).at H0.out.drew).mono ?_
         rintro e w1 ⟨rfl, s1⟩
         have g1 : w1.cell? ⟨q, 0, none⟩ = some (ptr x) := (s1.row 1 rfl).cell rfl
         have H1 := Lib.hid s1
         clear s1)
      | (go_at_call 52
         refine ((rload_does who (slotL s i) hn hl).at0 H1.out).mono ?_
         rintro e wz ⟨rfl, sz⟩
         have gz : wz.cell? ⟨q, 0, none⟩ = some (ptr x) := (sz.row 1 rfl).cell rfl
         have Hz := Lib.hid sz
         clear sz))
  have hz' := Hz'.out; have b1 := B1.out; have b2 := B2.out; have b3 := B3.out
  go_wp2
  go_ret3
  exact Ends.mk [] (by simpa using Hz.out)

def MS.tput (σ : MS) (who s i flow obj : Int) : MS := if goodB flow obj = true then (σ.put who 2 (slotL s i)).set (slotL s i) (slotN flow obj) else σ
theorem MS.tput_len (σ : MS) (who s i flow obj : Int) : (σ.tput who s i flow obj).log.length ≤ σ.log.length + 1 := by
  unfold MS.tput
  split <;> simp [MS.put, MS.set]
theorem tput_does (who s i flow obj : Int) (hs : I64 s) (hi : I64 i) (ho : I64 obj) (hl : σ.log.length ≤ 1000000) :
    Does Try.prog [tabA p m sh sl σ] 16 #[ptr p, .int .i64 who, .int .i64 s, .int .i64 i, .int .i64 flow, .int .i64 obj] (.bool (goodB flow obj)) [tabA p m sh sl (σ.tput who s i flow obj)] := by
  unfold MS.tput
  by_cases hb : goodB flow obj = true
  · rw [if_pos hb, hb]
    obtain ⟨h0, h1, h2, h3⟩ := of_decide_eq_true hb
    exact tput_yes who s i flow obj hs hi hl h0 h1 h2 h3
  · rw [if_neg hb, Bool.eq_false_iff.2 hb]
    exact tput_no who s i flow obj ho (Bool.eq_false_iff.2 hb)
theorem rtput_does (who s i flow obj : Int) (ho : I64 obj) (hn : n ≤ 1000000) (hl : σ.log.length ≤ 1000000) :
    Does Try.prog [rtabA q x n sh sl σ] 40 #[ptr q, .int .i64 who, .int .i64 s, .int .i64 i, .int .i64 flow, .int .i64 obj] (.bool (goodB flow obj)) [rtabA q x (n + 1) sh sl (σ.tput who s i flow obj)] := by
  unfold MS.tput
  by_cases hb : goodB flow obj = true
  · rw [if_pos hb, hb]
    obtain ⟨h0, h1, h2, h3⟩ := of_decide_eq_true hb
    exact rtput_yes who s i flow obj hn hl h0 h1 h2 h3
  · rw [if_neg hb, Bool.eq_false_iff.2 hb]
    refine Does.more ?_ (rtput_no who s i flow obj ho (Bool.eq_false_iff.2 hb)) 
    intro w fp h
    obtain ⟨f, g, ⟨kv, k1, k2, k3⟩, h2, h3, h4⟩ := h
    exact ⟨f, g, ⟨kv, by omega, k2, k3⟩, h2, h3, h4⟩
theorem tslot_does (who s i : Int) (hs : I64 s) (hi : I64 i) (hl : σ.log.length ≤ 1000000) (hu : U64 (σ.num (slotL s i))) :
    Does Try.prog [tabA p m sh sl σ] 17 #[ptr p, .int .i64 who, .int .i64 s, .int .i64 i] (slotR (σ.num (slotL s i))) [tabA p m sh sl (σ.put who 1 (slotL s i))] := by
  by_cases hz : σ.num (slotL s i) = 0
  · exact tslot_no who s i hs hi hl hu hz
  · exact tslot_yes who s i hs hi hl hu hz
theorem rtslot_does (who s i : Int) (hn : n ≤ 1000000) (hl : σ.log.length ≤ 1000000) (hu : U64 (σ.num (slotL s i))) :
    Does Try.prog [rtabA q x n sh sl σ] 42 #[ptr q, .int .i64 who, .int .i64 s, .int .i64 i] (slotR (σ.num (slotL s i))) [rtabA q x (n + 1) sh sl (σ.put who 1 (slotL s i))] := by
  by_cases hz : σ.num (slotL s i) = 0
  · exact rtslot_no who s i hn hl hu hz
  · exact rtslot_yes who s i hn hl hu hz
end
end Go.Proofs.Ytjipjhmcpjffcab
