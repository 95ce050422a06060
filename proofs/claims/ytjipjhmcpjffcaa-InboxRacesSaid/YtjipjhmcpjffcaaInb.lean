/- The methods of package inbox and of the reference's Inbox: what they do to the memory under them. -/
import Derived.Test.YtjipjhmcpjffcaaUsesP
import Derived.Test.YtjipjhmcpjffcaaBoxes
set_option linter.unusedSimpArgs false
set_option linter.unusedVariables false
namespace Go.Proofs.Ytjipjhmcpjffcaa
open Go Go.RowKit Go.Maps

/-! ### objects' next ones -/
theorem lawInt : Keyed Try.prog 3 := int_keyed Try.underlying3
theorem keyInt : Try.prog.keyType 3 = true := by kernel_rfl
theorem keyOf_int {n : Int} (h : I64 n) : ∃ l, keyOf Try.prog 3 (.int .i64 n) = some l := by
  exact ⟨_, keyOf_int_mk Try.underlying3 (wf_i h)⟩
def numN : Option Value → Int
  | some (.int _ a) => a
  | _ => 0
/-- Block b is the map of the objects' next ones. -/
def nextA (b : Nat) (nx : Int → Int) : HA where
  holds w fp := (∃ n f, MapIs Try.prog 3 w b n f ∧ (∀ x y, f x = some y → ∃ a, y = .int .u64 a) ∧ ∀ o, I64 o → numN (f (.int .i64 o)) = nx o) ∧ fp = [b]
  lt := by rintro w fp ⟨⟨n, f, h, _⟩, rfl⟩ k hk; simp at hk; subst hk; exact h.lt
  chg := by rintro w w' S fp ⟨⟨n, f, h, h2⟩, rfl⟩ c hn; exact ⟨⟨n, f, h.chg c (hn _ (by simp)), h2⟩, rfl⟩
def nkeys (kv : List (Int × Int)) : List Value := kv.map fun x => .int .i64 x.1
def nvals (kv : List (Int × Int)) : List Value := kv.map fun x => .int .u64 x.2
def lookN : List (Int × Int) → Int → Int
  | [], _ => 0
  | x :: kv, l => if x.1 = l then x.2 else lookN kv l

/-- A thing that is one of several. -/
def exA {α : Type} (F : α → HA) : HA where
  holds w fp := ∃ a, (F a).holds w fp
  lt := fun ⟨a, h⟩ => (F a).lt h
  chg := fun ⟨a, h⟩ c hn => ⟨a, (F a).chg h c hn⟩
theorem Scope.exo {α : Type} {F : α → HA} {S : List Nat} {w0 w : World} {Bs : List HA} (h : Scope S w0 w (exA F :: Bs)) : ∃ a, Scope S w0 w (F a :: Bs) := by
  obtain ⟨c, fp, ⟨f, g, ⟨a, h1⟩, h2, h3, h4⟩, h5⟩ := h
  exact ⟨a, c, fp, ⟨f, g, h1, h2, h3, h4⟩, h5⟩
theorem Scope.exi {α : Type} {F : α → HA} (a : α) {S : List Nat} {w0 w : World} {Bs : List HA} (h : Scope S w0 w (F a :: Bs)) : Scope S w0 w (exA F :: Bs) := by
  obtain ⟨c, fp, ⟨f, g, h1, h2, h3, h4⟩, h5⟩ := h
  exact ⟨c, fp, ⟨f, g, ⟨a, h1⟩, h2, h3, h4⟩, h5⟩
/-- What is done to each is done to it. -/
theorem Does.ex {P : Program} {α : Type} {F G : α → HA} {f : FuncId} {args : Array Value} {r : Value} (d : ∀ a, Does P [F a] f args r [G a]) : Does P [exA F] f args r [exA G] := fun w fp h => by
  obtain ⟨a, h1⟩ := stars_one h
  exact (d a w fp (stars_mk1 h1)).mono fun _ _ ⟨he, fp', h2, h3⟩ => ⟨he, fp', stars_mk1 (A := exA G) ⟨a, stars_one h2⟩, h3⟩

/-- An inbox: its memory, its own block, its map. -/
@[reducible] def inA (p m b : Nat) (sh : Int) (σ : MS) (nx : Int → Int) : HA := stars [memA m (σ), box p [ptr m, .int .i64 sh, .map (some b), .func (.func 31) #[.int .i64 9] #[], .func (.func 31) #[.int .i64 14] #[]] 72, nextA b nx]
/-- The reference's: its memory, its own block, its two lists. -/
@[reducible] def rinB (q x n kb : Nat) (sh : Int) (σ : MS) (nx : Int → Int) (c : Value × Value × List (Int × Int)) : HA := stars [refA x n σ, box q [ptr x, .int .i64 sh, c.1, c.2.1] 48, ownA c.1 3 1 c.2.2.length (nkeys c.2.2), ownA c.2.1 22 1 c.2.2.length (nvals c.2.2), fact (lookN c.2.2 = nx ∧ c.2.2.length ≤ kb)]
@[reducible] def rinA (q x n kb : Nat) (sh : Int) (σ : MS) (nx : Int → Int) : HA := exA (rinB q x n kb sh σ nx)
@[reducible] def secL : Lc := ⟨3, 0, 0⟩
@[reducible] def inbL (s : Int) : Lc := ⟨9, s, 0⟩
@[reducible] def nxtL (s : Int) : Lc := ⟨14, s, 0⟩
theorem secL_wf : secL.wf := ⟨(show I64 3 by unfold I64; omega), (show I64 0 by unfold I64; omega), (show I64 0 by unfold I64; omega)⟩
theorem inbL_wf {s : Int} (h : I64 s) : (inbL s).wf := ⟨(show I64 9 by unfold I64; omega), h, (show I64 0 by unfold I64; omega)⟩
theorem nxtL_wf {s : Int} (h : I64 s) : (nxtL s).wf := ⟨(show I64 14 by unfold I64; omega), h, (show I64 0 by unfold I64; omega)⟩
theorem rloc_pure (k a b : Int) : Pure Try.prog 48 #[.int .i64 k, .int .i64 a, .int .i64 b] (⟨k, a, b⟩ : Lc).val := fun w => by
  go_enter Try.func48, Try.ntmps48
  go_wp2
  exact bodyPost_ret (results_cell_row rfl _ _ w.heap.size 60 #[.int .i64 k, .int .i64 a, .int .i64 b] (0, 0) _ rfl (Row.new w [.int .i64 k, .int .i64 a, .int .i64 b] 60) Try.underlying60 rfl (by kernel_rfl)) rfl ⟨rfl, (Chg.refl _ _).alloc _⟩
theorem site_pure (k a : Int) : Pure Try.prog 31 #[.int .i64 k, .int .i64 a] (⟨k, a, 0⟩ : Lc).val := fun w => by
  go_enter Try.func31, Try.ntmps31
  go_wp2
  exact bodyPost_ret (results_cell_row rfl _ _ w.heap.size 60 #[.int .i64 k, .int .i64 a, .int .i64 0] (0, 0) _ rfl (Row.new w [.int .i64 k, .int .i64 a, .int .i64 0] 60) Try.underlying60 rfl (by kernel_rfl)) rfl ⟨rfl, (Chg.refl _ _).alloc _⟩
/-- The word of an object. -/
def objW (o : Int) : Int := IntKind.u64.wrap (IntKind.u64.wrap o + 1)
theorem objW_u (o : Int) : U64 (objW o) := by unfold objW U64; rw [IntKind.wrap_u64]; omega

section
variable {p m b q x n kb : Nat} {sh : Int} {σ : MS} {nx : Int → Int} {vK vV : Value} {kv : List (Int × Int)}

set_option maxHeartbeats 1000000 in
/-- Sec. -/
theorem isec_does (who : Int) (hl : σ.log.length ≤ 1000000) :
    Does Try.prog [stars [memA m (σ), box p [ptr m, .int .i64 sh, .map (some b), .func (.func 31) #[.int .i64 9] #[], .func (.func 31) #[.int .i64 14] #[]] 72, nextA b nx]] 13 #[ptr p, .int .i64 who] (.int .u64 (σ.num secL)) [stars [memA m (σ.put who 1 secL), box p [ptr m, .int .i64 sh, .map (some b), .func (.func 31) #[.int .i64 9] #[], .func (.func 31) #[.int .i64 14] #[]] 72, nextA b nx]] := Does.pack fun S w0 w h => by
  have c0 : w.cell? ⟨p, 0, none⟩ = some (ptr m) := (h.row 1 rfl).cell rfl
  have H0 := Lib.hid h.drew
  have H00 := Lib.hid h
  clear h
  go_enter Try.func13, Try.ntmps13
  go_wp2_with fail
  go_region_held3 (fun w' => w'.cell? ⟨p, 0, none⟩ = some (ptr m)) (go_keep)
    (first
      | (go_at_call 31
         refine ((site_pure 3 0).at (Hid.out (by assumption))).mono ?_
         rintro e wq ⟨rfl, sq⟩
         have g0 : wq.cell? ⟨p, 0, none⟩ = some (ptr m) := (sq.row 1 rfl).cell rfl
         have Hq := Lib.hid sq
         clear sq)
      | (go_at_call 30
         refine ((load_does who secL secL_wf hl).at0 (Hid.out (by assumption))).mono ?_
         rintro e wz ⟨rfl, sz⟩
         have g0 : wz.cell? ⟨p, 0, none⟩ = some (ptr m) := (sz.row 1 rfl).cell rfl
         have Hz := Lib.hid sz
         clear sz))
  go_wp2
  go_ret
  exact Ends.mk [] (by simpa using Hz.out)

set_option maxHeartbeats 1000000 in
/-- Sec. -/
theorem risec_does (who : Int) (hn : n ≤ 1000000) (hl : σ.log.length ≤ 1000000) :
    Does Try.prog [stars [refA x (n) (σ), box q [ptr x, .int .i64 sh, vK, vV] 48, ownA vK 3 1 kv.length (nkeys kv), ownA vV 22 1 kv.length (nvals kv), fact (lookN kv = nx ∧ kv.length ≤ kb)]] 44 #[ptr q, .int .i64 who] (.int .u64 (σ.num secL)) [stars [refA x (n + 1) (σ.put who 1 secL), box q [ptr x, .int .i64 sh, vK, vV] 48, ownA vK 3 1 kv.length (nkeys kv), ownA vV 22 1 kv.length (nvals kv), fact (lookN kv = nx ∧ kv.length ≤ kb)]] := Does.pack fun S w0 w h => by
  have c0 : w.cell? ⟨q, 0, none⟩ = some (ptr x) := (h.row 1 rfl).cell rfl
  have H0 := Lib.hid h.drew
  have H00 := Lib.hid h
  clear h
  go_enter Try.func44, Try.ntmps44
  go_wp2_with fail
  go_region_held3 (fun w' => w'.cell? ⟨q, 0, none⟩ = some (ptr x)) (go_keep)
    (first
      | (go_at_call 48
         refine ((rloc_pure 3 0 0).at (Hid.out (by assumption))).mono ?_
         rintro e wq ⟨rfl, sq⟩
         have g0 : wq.cell? ⟨q, 0, none⟩ = some (ptr x) := (sq.row 1 rfl).cell rfl
         have Hq := Lib.hid sq
         clear sq)
      | (go_at_call 59
         refine ((rload_does who secL hn hl).at0 (Hid.out (by assumption))).mono ?_
         rintro e wz ⟨rfl, sz⟩
         have g0 : wz.cell? ⟨q, 0, none⟩ = some (ptr x) := (sz.row 1 rfl).cell rfl
         have Hz := Lib.hid sz
         clear sz))
  go_wp2
  go_ret
  exact Ends.mk [] (by simpa using Hz.out)

set_option maxHeartbeats 1000000 in
/-- Begin. -/
theorem ibegin_does (who : Int) (hl : σ.log.length ≤ 1000000) :
    Does Try.prog [stars [memA m (σ), box p [ptr m, .int .i64 sh, .map (some b), .func (.func 31) #[.int .i64 9] #[], .func (.func 31) #[.int .i64 14] #[]] 72, nextA b nx]] 15 #[ptr p, .int .i64 who] (.tuple #[]) [stars [memA m ((σ.put who 3 secL).set secL (IntKind.u64.wrap (σ.num secL + 4294967296))), box p [ptr m, .int .i64 sh, .map (some b), .func (.func 31) #[.int .i64 9] #[], .func (.func 31) #[.int .i64 14] #[]] 72, nextA b nx]] := Does.pack fun S w0 w h => by
  have c0 : w.cell? ⟨p, 0, none⟩ = some (ptr m) := (h.row 1 rfl).cell rfl
  have H0 := Lib.hid h.drew
  have H00 := Lib.hid h
  clear h
  go_enter Try.func15, Try.ntmps15
  go_wp2_with fail
  go_region_held3 (fun w' => w'.cell? ⟨p, 0, none⟩ = some (ptr m)) (go_keep)
    (first
      | (go_at_call 31
         refine ((site_pure 3 0).at (Hid.out (by assumption))).mono ?_
         rintro e wq ⟨rfl, sq⟩
         have g0 : wq.cell? ⟨p, 0, none⟩ = some (ptr m) := (sq.row 1 rfl).cell rfl
         have Hq := Lib.hid sq
         clear sq)
      | (go_at_call 32
         refine ((add_does who secL secL_wf 4294967296 (by unfold U64; omega) hl).at0 (Hid.out (by assumption))).mono ?_
         rintro e wz ⟨rfl, sz⟩
         have g0 : wz.cell? ⟨p, 0, none⟩ = some (ptr m) := (sz.row 1 rfl).cell rfl
         have Hz := Lib.hid sz
         clear sz))
  go_wp2
  go_end0
  exact Ends.mk [] (by simpa using Hz.out)

set_option maxHeartbeats 1000000 in
/-- Begin. -/
theorem ribegin_does (who : Int) (hn : n ≤ 1000000) (hl : σ.log.length ≤ 1000000) :
    Does Try.prog [stars [refA x (n) (σ), box q [ptr x, .int .i64 sh, vK, vV] 48, ownA vK 3 1 kv.length (nkeys kv), ownA vV 22 1 kv.length (nvals kv), fact (lookN kv = nx ∧ kv.length ≤ kb)]] 42 #[ptr q, .int .i64 who] (.tuple #[]) [stars [refA x (n + 1) ((σ.put who 3 secL).set secL (IntKind.u64.wrap (σ.num secL + 4294967296))), box q [ptr x, .int .i64 sh, vK, vV] 48, ownA vK 3 1 kv.length (nkeys kv), ownA vV 22 1 kv.length (nvals kv), fact (lookN kv = nx ∧ kv.length ≤ kb)]] := Does.pack fun S w0 w h => by
  have c0 : w.cell? ⟨q, 0, none⟩ = some (ptr x) := (h.row 1 rfl).cell rfl
  have H0 := Lib.hid h.drew
  have H00 := Lib.hid h
  clear h
  go_enter Try.func42, Try.ntmps42
  go_wp2_with fail
  go_region_held3 (fun w' => w'.cell? ⟨q, 0, none⟩ = some (ptr x)) (go_keep)
    (first
      | (go_at_call 48
         refine ((rloc_pure 3 0 0).at (Hid.out (by assumption))).mono ?_
         rintro e wq ⟨rfl, sq⟩
         have g0 : wq.cell? ⟨q, 0, none⟩ = some (ptr x) := (sq.row 1 rfl).cell rfl
         have Hq := Lib.hid sq
         clear sq)
      | (go_at_call 58
         refine ((radd_does who secL 4294967296 hn hl).at0 (Hid.out (by assumption))).mono ?_
         rintro e wz ⟨rfl, sz⟩
         have g0 : wz.cell? ⟨q, 0, none⟩ = some (ptr x) := (sz.row 1 rfl).cell rfl
         have Hz := Lib.hid sz
         clear sz))
  go_wp2
  go_end0
  exact Ends.mk [] (by simpa using Hz.out)

set_option maxHeartbeats 1000000 in
/-- End. -/
theorem iend_does (who : Int) (hl : σ.log.length ≤ 1000000) :
    Does Try.prog [stars [memA m (σ), box p [ptr m, .int .i64 sh, .map (some b), .func (.func 31) #[.int .i64 9] #[], .func (.func 31) #[.int .i64 14] #[]] 72, nextA b nx]] 14 #[ptr p, .int .i64 who] (.tuple #[]) [stars [memA m ((σ.put who 3 secL).set secL (IntKind.u64.wrap (σ.num secL + 1))), box p [ptr m, .int .i64 sh, .map (some b), .func (.func 31) #[.int .i64 9] #[], .func (.func 31) #[.int .i64 14] #[]] 72, nextA b nx]] := Does.pack fun S w0 w h => by
  have c0 : w.cell? ⟨p, 0, none⟩ = some (ptr m) := (h.row 1 rfl).cell rfl
  have H0 := Lib.hid h.drew
  have H00 := Lib.hid h
  clear h
  go_enter Try.func14, Try.ntmps14
  go_wp2_with fail
  go_region_held3 (fun w' => w'.cell? ⟨p, 0, none⟩ = some (ptr m)) (go_keep)
    (first
      | (go_at_call 31
         refine ((site_pure 3 0).at (Hid.out (by assumption))).mono ?_
         rintro e wq ⟨rfl, sq⟩
         have g0 : wq.cell? ⟨p, 0, none⟩ = some (ptr m) := (sq.row 1 rfl).cell rfl
         have Hq := Lib.hid sq
         clear sq)
      | (go_at_call 32
         refine ((add_does who secL secL_wf 1 (by unfold U64; omega) hl).at0 (Hid.out (by assumption))).mono ?_
         rintro e wz ⟨rfl, sz⟩
         have g0 : wz.cell? ⟨p, 0, none⟩ = some (ptr m) := (sz.row 1 rfl).cell rfl
         have Hz := Lib.hid sz
         clear sz))
  go_wp2
  go_end0
  exact Ends.mk [] (by simpa using Hz.out)

set_option maxHeartbeats 1000000 in
/-- End. -/
theorem riend_does (who : Int) (hn : n ≤ 1000000) (hl : σ.log.length ≤ 1000000) :
    Does Try.prog [stars [refA x (n) (σ), box q [ptr x, .int .i64 sh, vK, vV] 48, ownA vK 3 1 kv.length (nkeys kv), ownA vV 22 1 kv.length (nvals kv), fact (lookN kv = nx ∧ kv.length ≤ kb)]] 43 #[ptr q, .int .i64 who] (.tuple #[]) [stars [refA x (n + 1) ((σ.put who 3 secL).set secL (IntKind.u64.wrap (σ.num secL + 1))), box q [ptr x, .int .i64 sh, vK, vV] 48, ownA vK 3 1 kv.length (nkeys kv), ownA vV 22 1 kv.length (nvals kv), fact (lookN kv = nx ∧ kv.length ≤ kb)]] := Does.pack fun S w0 w h => by
  have c0 : w.cell? ⟨q, 0, none⟩ = some (ptr x) := (h.row 1 rfl).cell rfl
  have H0 := Lib.hid h.drew
  have H00 := Lib.hid h
  clear h
  go_enter Try.func43, Try.ntmps43
  go_wp2_with fail
  go_region_held3 (fun w' => w'.cell? ⟨q, 0, none⟩ = some (ptr x)) (go_keep)
    (first
      | (go_at_call 48
         refine ((rloc_pure 3 0 0).at (Hid.out (by assumption))).mono ?_
         rintro e wq ⟨rfl, sq⟩
         have g0 : wq.cell? ⟨q, 0, none⟩ = some (ptr x) := (sq.row 1 rfl).cell rfl
         have Hq := Lib.hid sq
         clear sq)
      | (go_at_call 58
         refine ((radd_does who secL 1 hn hl).at0 (Hid.out (by assumption))).mono ?_
         rintro e wz ⟨rfl, sz⟩
         have g0 : wz.cell? ⟨q, 0, none⟩ = some (ptr x) := (sz.row 1 rfl).cell rfl
         have Hz := Lib.hid sz
         clear sz))
  go_wp2
  go_end0
  exact Ends.mk [] (by simpa using Hz.out)

set_option maxHeartbeats 1000000 in
/-- Top. -/
theorem itop_does (who s : Int) (hs : I64 s) (hl : σ.log.length ≤ 1000000) :
    Does Try.prog [stars [memA m (σ), box p [ptr m, .int .i64 sh, .map (some b), .func (.func 31) #[.int .i64 9] #[], .func (.func 31) #[.int .i64 14] #[]] 72, nextA b nx]] 18 #[ptr p, .int .i64 who, .int .i64 s] (.int .u64 (σ.num (inbL s))) [stars [memA m (σ.put who 1 (inbL s)), box p [ptr m, .int .i64 sh, .map (some b), .func (.func 31) #[.int .i64 9] #[], .func (.func 31) #[.int .i64 14] #[]] 72, nextA b nx]] := Does.pack fun S w0 w h => by
  have c0 : w.cell? ⟨p, 0, none⟩ = some (ptr m) := (h.row 1 rfl).cell rfl
  have c1 : w.cell? ⟨p, 3, none⟩ = some (.func (.func 31) #[.int .i64 9] #[]) := (h.row 1 rfl).cell rfl
  have H0 := Lib.hid h.drew
  have H00 := Lib.hid h
  clear h
  have hw := inbL_wf hs; have Hw := Lib.hid hw
  clear hw
  go_enter Try.func18, Try.ntmps18
  go_wp2_with fail
  go_region_held3 (fun w' => w'.cell? ⟨p, 0, none⟩ = some (ptr m) ∧ w'.cell? ⟨p, 3, none⟩ = some (.func (.func 31) #[.int .i64 9] #[])) (go_keep)
    (first
      | (go_at_call 31
         refine ((site_pure 9 s).at (Hid.out (by assumption))).mono ?_
         rintro e wq ⟨rfl, sq⟩
         have g0 : wq.cell? ⟨p, 0, none⟩ = some (ptr m) := (sq.row 1 rfl).cell rfl
         have g1 : wq.cell? ⟨p, 3, none⟩ = some (.func (.func 31) #[.int .i64 9] #[]) := (sq.row 1 rfl).cell rfl
         have Hq := Lib.hid sq
         clear sq)
      | (go_at_call 30
         refine ((load_does who (inbL s) Hw.out hl).at0 (Hid.out (by assumption))).mono ?_
         rintro e wz ⟨rfl, sz⟩
         have g0 : wz.cell? ⟨p, 0, none⟩ = some (ptr m) := (sz.row 1 rfl).cell rfl
         have g1 : wz.cell? ⟨p, 3, none⟩ = some (.func (.func 31) #[.int .i64 9] #[]) := (sz.row 1 rfl).cell rfl
         have Hz := Lib.hid sz
         clear sz))
  go_wp2
  go_ret
  exact Ends.mk [] (by simpa using Hz.out)

set_option maxHeartbeats 1000000 in
/-- Top. -/
theorem ritop_does (who s : Int) (hn : n ≤ 1000000) (hl : σ.log.length ≤ 1000000) :
    Does Try.prog [stars [refA x (n) (σ), box q [ptr x, .int .i64 sh, vK, vV] 48, ownA vK 3 1 kv.length (nkeys kv), ownA vV 22 1 kv.length (nvals kv), fact (lookN kv = nx ∧ kv.length ≤ kb)]] 45 #[ptr q, .int .i64 who, .int .i64 s] (.int .u64 (σ.num (inbL s))) [stars [refA x (n + 1) (σ.put who 1 (inbL s)), box q [ptr x, .int .i64 sh, vK, vV] 48, ownA vK 3 1 kv.length (nkeys kv), ownA vV 22 1 kv.length (nvals kv), fact (lookN kv = nx ∧ kv.length ≤ kb)]] := Does.pack fun S w0 w h => by
  have c0 : w.cell? ⟨q, 0, none⟩ = some (ptr x) := (h.row 1 rfl).cell rfl
  have H0 := Lib.hid h.drew
  have H00 := Lib.hid h
  clear h
  go_enter Try.func45, Try.ntmps45
  go_wp2_with fail
  go_region_held3 (fun w' => w'.cell? ⟨q, 0, none⟩ = some (ptr x)) (go_keep)
    (first
      | (go_at_call 48
         refine ((rloc_pure 9 s 0).at (Hid.out (by assumption))).mono ?_
         rintro e wq ⟨rfl, sq⟩
         have g0 : wq.cell? ⟨q, 0, none⟩ = some (ptr x) := (sq.row 1 rfl).cell rfl
         have Hq := Lib.hid sq
         clear sq)
      | (go_at_call 59
         refine ((rload_does who (inbL s) hn hl).at0 (Hid.out (by assumption))).mono ?_
         rintro e wz ⟨rfl, sz⟩
         have g0 : wz.cell? ⟨q, 0, none⟩ = some (ptr x) := (sz.row 1 rfl).cell rfl
         have Hz := Lib.hid sz
         clear sz))
  go_wp2
  go_ret
  exact Ends.mk [] (by simpa using Hz.out)

set_option maxHeartbeats 1000000 in
/-- Grab. -/
theorem igrab_does (who s : Int) (hs : I64 s) (hl : σ.log.length ≤ 1000000) :
    Does Try.prog [stars [memA m (σ), box p [ptr m, .int .i64 sh, .map (some b), .func (.func 31) #[.int .i64 9] #[], .func (.func 31) #[.int .i64 14] #[]] 72, nextA b nx]] 20 #[ptr p, .int .i64 who, .int .i64 s] (.int .u64 (σ.num (inbL s))) [stars [memA m ((σ.put who 3 (inbL s)).set (inbL s) 0), box p [ptr m, .int .i64 sh, .map (some b), .func (.func 31) #[.int .i64 9] #[], .func (.func 31) #[.int .i64 14] #[]] 72, nextA b nx]] := Does.pack fun S w0 w h => by
  have c0 : w.cell? ⟨p, 0, none⟩ = some (ptr m) := (h.row 1 rfl).cell rfl
  have c1 : w.cell? ⟨p, 3, none⟩ = some (.func (.func 31) #[.int .i64 9] #[]) := (h.row 1 rfl).cell rfl
  have H0 := Lib.hid h.drew
  have H00 := Lib.hid h
  clear h
  have hw := inbL_wf hs; have Hw := Lib.hid hw
  clear hw
  go_enter Try.func20, Try.ntmps20
  go_wp2_with fail
  go_region_held3 (fun w' => w'.cell? ⟨p, 0, none⟩ = some (ptr m) ∧ w'.cell? ⟨p, 3, none⟩ = some (.func (.func 31) #[.int .i64 9] #[])) (go_keep)
    (first
      | (go_at_call 31
         refine ((site_pure 9 s).at (Hid.out (by assumption))).mono ?_
         rintro e wq ⟨rfl, sq⟩
         have g0 : wq.cell? ⟨p, 0, none⟩ = some (ptr m) := (sq.row 1 rfl).cell rfl
         have g1 : wq.cell? ⟨p, 3, none⟩ = some (.func (.func 31) #[.int .i64 9] #[]) := (sq.row 1 rfl).cell rfl
         have Hq := Lib.hid sq
         clear sq)
      | (go_at_call 35
         refine ((take_does who (inbL s) Hw.out 0 (by unfold U64; omega) hl).at0 (Hid.out (by assumption))).mono ?_
         rintro e wz ⟨rfl, sz⟩
         have g0 : wz.cell? ⟨p, 0, none⟩ = some (ptr m) := (sz.row 1 rfl).cell rfl
         have g1 : wz.cell? ⟨p, 3, none⟩ = some (.func (.func 31) #[.int .i64 9] #[]) := (sz.row 1 rfl).cell rfl
         have Hz := Lib.hid sz
         clear sz))
  go_wp2
  go_ret
  exact Ends.mk [] (by simpa using Hz.out)

set_option maxHeartbeats 1000000 in
/-- Grab. -/
theorem rigrab_does (who s : Int) (hn : n ≤ 1000000) (hl : σ.log.length ≤ 1000000) :
    Does Try.prog [stars [refA x (n) (σ), box q [ptr x, .int .i64 sh, vK, vV] 48, ownA vK 3 1 kv.length (nkeys kv), ownA vV 22 1 kv.length (nvals kv), fact (lookN kv = nx ∧ kv.length ≤ kb)]] 50 #[ptr q, .int .i64 who, .int .i64 s] (.int .u64 (σ.num (inbL s))) [stars [refA x (n + 1) ((σ.put who 3 (inbL s)).set (inbL s) 0), box q [ptr x, .int .i64 sh, vK, vV] 48, ownA vK 3 1 kv.length (nkeys kv), ownA vV 22 1 kv.length (nvals kv), fact (lookN kv = nx ∧ kv.length ≤ kb)]] := Does.pack fun S w0 w h => by
  have c0 : w.cell? ⟨q, 0, none⟩ = some (ptr x) := (h.row 1 rfl).cell rfl
  have H0 := Lib.hid h.drew
  have H00 := Lib.hid h
  clear h
  go_enter Try.func50, Try.ntmps50
  go_wp2_with fail
  go_region_held3 (fun w' => w'.cell? ⟨q, 0, none⟩ = some (ptr x)) (go_keep)
    (first
      | (go_at_call 48
         refine ((rloc_pure 9 s 0).at (Hid.out (by assumption))).mono ?_
         rintro e wq ⟨rfl, sq⟩
         have g0 : wq.cell? ⟨q, 0, none⟩ = some (ptr x) := (sq.row 1 rfl).cell rfl
         have Hq := Lib.hid sq
         clear sq)
      | (go_at_call 64
         refine ((rtake_does who (inbL s) 0 hn hl).at0 (Hid.out (by assumption))).mono ?_
         rintro e wz ⟨rfl, sz⟩
         have g0 : wz.cell? ⟨q, 0, none⟩ = some (ptr x) := (sz.row 1 rfl).cell rfl
         have Hz := Lib.hid sz
         clear sz))
  go_wp2
  go_ret
  exact Ends.mk [] (by simpa using Hz.out)

set_option maxHeartbeats 1000000 in
/-- Push. -/
theorem ipush_does (who s top obj : Int) (hs : I64 s) (hl : σ.log.length ≤ 1000000) :
    Does Try.prog [stars [memA m (σ), box p [ptr m, .int .i64 sh, .map (some b), .func (.func 31) #[.int .i64 9] #[], .func (.func 31) #[.int .i64 14] #[]] 72, nextA b nx]] 16 #[ptr p, .int .i64 who, .int .i64 s, .int .u64 top, .int .i64 obj] (.bool (decide (σ.num (inbL s) = top))) [stars [memA m (σ.swap who (inbL s) top (objW obj)), box p [ptr m, .int .i64 sh, .map (some b), .func (.func 31) #[.int .i64 9] #[], .func (.func 31) #[.int .i64 14] #[]] 72, nextA b nx]] := Does.pack fun S w0 w h => by
  have c0 : w.cell? ⟨p, 0, none⟩ = some (ptr m) := (h.row 1 rfl).cell rfl
  have c1 : w.cell? ⟨p, 3, none⟩ = some (.func (.func 31) #[.int .i64 9] #[]) := (h.row 1 rfl).cell rfl
  have H0 := Lib.hid h.drew
  have H00 := Lib.hid h
  clear h
  have hw := inbL_wf hs; have Hw := Lib.hid hw
  clear hw
  go_enter Try.func16, Try.ntmps16
  go_wp2_with fail
  go_region_held3 (fun w' => w'.cell? ⟨p, 0, none⟩ = some (ptr m) ∧ w'.cell? ⟨p, 3, none⟩ = some (.func (.func 31) #[.int .i64 9] #[])) (go_keep)
    (first
      | (go_at_call 31
         refine ((site_pure 9 s).at (Hid.out (by assumption))).mono ?_
         rintro e wq ⟨rfl, sq⟩
         have g0 : wq.cell? ⟨p, 0, none⟩ = some (ptr m) := (sq.row 1 rfl).cell rfl
         have g1 : wq.cell? ⟨p, 3, none⟩ = some (.func (.func 31) #[.int .i64 9] #[]) := (sq.row 1 rfl).cell rfl
         have Hq := Lib.hid sq
         clear sq)
      | (go_at_call 33
         refine ((swap_does who (inbL s) Hw.out top (objW obj) (objW_u obj) hl).at0 (Hid.out (by assumption))).mono ?_
         rintro e wz ⟨rfl, sz⟩
         have g0 : wz.cell? ⟨p, 0, none⟩ = some (ptr m) := (sz.row 1 rfl).cell rfl
         have g1 : wz.cell? ⟨p, 3, none⟩ = some (.func (.func 31) #[.int .i64 9] #[]) := (sz.row 1 rfl).cell rfl
         have Hz := Lib.hid sz
         clear sz))
  go_wp2
  go_ret
  exact Ends.mk [] (by simpa using Hz.out)

set_option maxHeartbeats 1000000 in
/-- Push. -/
theorem ripush_does (who s top obj : Int) (hn : n ≤ 1000000) (hl : σ.log.length ≤ 1000000) :
    Does Try.prog [stars [refA x (n) (σ), box q [ptr x, .int .i64 sh, vK, vV] 48, ownA vK 3 1 kv.length (nkeys kv), ownA vV 22 1 kv.length (nvals kv), fact (lookN kv = nx ∧ kv.length ≤ kb)]] 49 #[ptr q, .int .i64 who, .int .i64 s, .int .u64 top, .int .i64 obj] (.bool (decide (σ.num (inbL s) = top))) [stars [refA x (n + 1) (σ.swap who (inbL s) top (objW obj)), box q [ptr x, .int .i64 sh, vK, vV] 48, ownA vK 3 1 kv.length (nkeys kv), ownA vV 22 1 kv.length (nvals kv), fact (lookN kv = nx ∧ kv.length ≤ kb)]] := Does.pack fun S w0 w h => by
  have c0 : w.cell? ⟨q, 0, none⟩ = some (ptr x) := (h.row 1 rfl).cell rfl
  have H0 := Lib.hid h.drew
  have H00 := Lib.hid h
  clear h
  go_enter Try.func49, Try.ntmps49
  go_wp2_with fail
  go_region_held3 (fun w' => w'.cell? ⟨q, 0, none⟩ = some (ptr x)) (go_keep)
    (first
      | (go_at_call 48
         refine ((rloc_pure 9 s 0).at (Hid.out (by assumption))).mono ?_
         rintro e wq ⟨rfl, sq⟩
         have g0 : wq.cell? ⟨q, 0, none⟩ = some (ptr x) := (sq.row 1 rfl).cell rfl
         have Hq := Lib.hid sq
         clear sq)
      | (go_at_call 63
         refine ((rswap_does who (inbL s) top (objW obj) hn hl).at0 (Hid.out (by assumption))).mono ?_
         rintro e wz ⟨rfl, sz⟩
         have g0 : wz.cell? ⟨q, 0, none⟩ = some (ptr x) := (sz.row 1 rfl).cell rfl
         have Hz := Lib.hid sz
         clear sz))
  go_wp2
  go_ret
  exact Ends.mk [] (by simpa using Hz.out)
end
end Go.Proofs.Ytjipjhmcpjffcaa
