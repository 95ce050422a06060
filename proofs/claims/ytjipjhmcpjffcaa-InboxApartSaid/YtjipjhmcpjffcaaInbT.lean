/- New, awake and step of layer 18: a use of an inbox and of the reference's: they tell the same. -/
import Derived.Test.YtjipjhmcpjffcaaInbB
set_option linter.unusedSimpArgs false
set_option linter.unusedVariables false
namespace Go.Proofs.Ytjipjhmcpjffcaa
open Go Go.RowKit Go.Maps

def cl (v : Int) : Int := min (max v 1) 4
theorem cl_b (v : Int) : 1 ≤ cl v ∧ cl v ≤ 4 := by unfold cl; omega
theorem nextA_new (w : World) : (stars [nextA w.heap.size (fun _ => 0)]).holds (w.alloc (.map #[] 0)) [w.heap.size] :=
  stars_mk1 (A := nextA w.heap.size (fun _ => 0)) ⟨⟨0, fun _ => none, MapIs.made _ _ w, by simp, fun _ _ => rfl⟩, rfl⟩
theorem Scope.inew {S : List Nat} {w0 w : World} {As : List HA} (h : Scope S w0 w As) {m : Nat} {a x : Int} (hx : x = cl a) :
    Scope S w0 ((w.alloc (.map #[] 0)).alloc (.cells #[ptr m, .int .i64 x, .map (some w.heap.size), .func (.func 31) #[.int .i64 9] #[], .func (.func 31) #[.int .i64 14] #[]] 72)) (As ++ [nextA w.heap.size (fun _ => 0)] ++ [Go.Proofs.Ytjipjhmcpjffcaa.box (w.heap.size + 1) [ptr m, .int .i64 (cl a), .map (some w.heap.size), .func (.func 31) #[.int .i64 9] #[], .func (.func 31) #[.int .i64 14] #[]] 72]) := by
  subst hx
  have h1 := (h.join (nextA_new w) ((Chg.refl _ _).alloc _) (by simp)).box [ptr m, .int .i64 (cl a), .map (some w.heap.size), .func (.func 31) #[.int .i64 9] #[], .func (.func 31) #[.int .i64 14] #[]] 72
  simpa using h1
def NewIn (S : List Nat) (w0 : World) (As : List HA) (m : Nat) (a : Int) (e : Ending) (w' : World) : Prop := ∃ p b, e = .returned (ptr p) ∧ Scope S w0 w' (As ++ [nextA b (fun _ => 0)] ++ [box p [ptr m, .int .i64 (cl a), .map (some b), .func (.func 31) #[.int .i64 9] #[], .func (.func 31) #[.int .i64 14] #[]] 72])
theorem inew_scope {S : List Nat} {w0 w : World} {As : List HA} (h : Scope S w0 w As) (m : Nat) (a : Int) : Calls Try.prog 28 #[ptr m, .int .i64 a] w (NewIn S w0 As m a) := by
  have H0 := Lib.hid h
  have hmm := @run_makeMap Try.prog
  clear h
  go_enter Try.func28, Try.ntmps28
  go_wp2
  all_goals (go_ret; exact ⟨w.heap.size + 1, w.heap.size, by simp, H0.out.inew (by unfold cl; omega)⟩)
theorem Scope.rbox {S : List Nat} {w0 w : World} {As : List HA} (h : Scope S w0 w As) {x : Nat} {a y : Int} (hy : y = cl a) :
    Scope S w0 (w.alloc (.cells #[ptr x, .int .i64 y, .slice none 0 0, .slice none 0 0] 48)) (As ++ [Go.Proofs.Ytjipjhmcpjffcaa.box w.heap.size [ptr x, .int .i64 (cl a), .slice none 0 0, .slice none 0 0] 48]) := by
  subst hy
  exact h.box [ptr x, .int .i64 (cl a), .slice none 0 0, .slice none 0 0] 48
def NewRIn (S : List Nat) (w0 : World) (As : List HA) (x : Nat) (a : Int) (e : Ending) (w' : World) : Prop := ∃ q, e = .returned (ptr q) ∧ Scope S w0 w' (As ++ [box q [ptr x, .int .i64 (cl a), .slice none 0 0, .slice none 0 0] 48])
theorem rinew_scope {S : List Nat} {w0 w : World} {As : List HA} (h : Scope S w0 w As) (x : Nat) (a : Int) : Calls Try.prog 29 #[ptr x, .int .i64 a] w (NewRIn S w0 As x a) := by
  have H0 := Lib.hid h
  clear h
  go_enter Try.func29, Try.ntmps29
  go_wp2
  all_goals (go_ret; exact ⟨_, rfl, H0.out.rbox (by unfold cl; omega)⟩)

theorem stars_nil {w : World} {A : HA} {As : List HA} (h : A.holds w []) (hs : (stars As).holds w []) : (stars (A :: As)).holds w [] := ⟨[], [], h, hs, fun _ h => (by cases h), rfl⟩
theorem nil_lists (w : World) : (stars [ownA (.slice none 0 0) 3 1 0 (nkeys []), ownA (.slice none 0 0) 22 1 0 (nvals []), fact (lookN [] = (fun _ => 0) ∧ ([] : List (Int × Int)).length ≤ 0)]).holds w [] :=
  stars_nil ⟨⟨rfl, .inl ⟨rfl, rfl⟩⟩, rfl⟩ (stars_nil ⟨⟨rfl, .inl ⟨rfl, rfl⟩⟩, rfl⟩ (mkfact ⟨rfl, by simp⟩ w))
/-- Both, over new memories. -/
def Made18 (S : List Nat) (w0 : World) (As : List HA) (sh : Int) (e : Ending) (w' : World) : Prop :=
  ∃ m p b q x, e = .returned (.tuple #[ptr m, ptr p, ptr q]) ∧ Scope S w0 w' (inA p m b sh MS.zero (fun _ => 0) :: rinA q x 0 0 sh MS.zero (fun _ => 0) :: As)
theorem made18_end {S : List Nat} {w0 w : World} {As : List HA} {q x : Nat} {sh : Int} {M N T : HA} (h : Scope S w0 w ((([M] ++ As ++ [N] ++ [T]) ++ [refA x 0 MS.zero]) ++ [box q [ptr x, .int .i64 sh, .slice none 0 0, .slice none 0 0] 48])) : Scope S w0 w (stars [M, T, N] :: rinA q x 0 0 sh MS.zero (fun _ => 0) :: As) := by
  have h0 := h.join (nil_lists w) (Chg.refl _ _) (by simp)
  generalize hR : refA x 0 MS.zero = R at h0
  generalize hB : box q [ptr x, .int .i64 sh, .slice none 0 0, .slice none 0 0] 48 = B at h0
  generalize hK : ownA (.slice none 0 0) 3 1 0 (nkeys []) = K at h0
  generalize hV : ownA (.slice none 0 0) 22 1 0 (nvals []) = V at h0
  generalize hF : fact (lookN [] = (fun _ => 0) ∧ ([] : List (Int × Int)).length ≤ 0) = F at h0
  have h1 : Scope S w0 w ([M] ++ (As ++ ([N, T, R, B, K, V, F] ++ []))) := by simpa using h0
  have h2 : Scope S w0 w (As ++ ([M, N, T, R, B, K, V, F] ++ [])) := by simpa using h1.swap
  have h3 : Scope S w0 w ([M, N, T, R, B, K, V, F] ++ (As ++ [])) := h2.swap
  have h4 : Scope S w0 w ([M] ++ ([N] ++ ([T, R, B, K, V, F] ++ As))) := by simpa using h3
  have h5 : Scope S w0 w ([N] ++ ([M, T] ++ ([R, B, K, V, F] ++ As))) := by simpa using h4.swap |> fun z => (show Scope S w0 w ([N] ++ ([M] ++ ([T, R, B, K, V, F] ++ As))) from z)
  have h6 : Scope S w0 w ([M, T] ++ ([N] ++ ([R, B, K, V, F] ++ As))) := h5.swap
  have h7 : Scope S w0 w ([stars [M, T, N]] ++ ([R, B, K, V, F] ++ (As ++ []))) := by
    have : Scope S w0 w ([M, T, N] ++ ([R, B, K, V, F] ++ As)) := by simpa using h6
    simpa using this.shut1
  have h8 : Scope S w0 w ([R, B, K, V, F] ++ ([stars [M, T, N]] ++ (As ++ []))) := h7.swap
  have h9 : Scope S w0 w (stars [R, B, K, V, F] :: ([stars [M, T, N]] ++ (As ++ []))) := h8.shut1
  subst hR; subst hB; subst hK; subst hV; subst hF
  have h10 : Scope S w0 w ([rinA q x 0 0 sh MS.zero (fun _ => 0)] ++ ([stars [M, T, N]] ++ (As ++ []))) := Scope.exi (F := rinB q x 0 0 sh MS.zero (fun _ => 0)) (.slice none 0 0, .slice none 0 0, []) h9
  simpa using h10.swap
set_option maxHeartbeats 1000000 in
theorem made18_scope {S : List Nat} {w0 w : World} {As : List HA} (h : Scope S w0 w As) (a : Int) : Calls Try.prog 12 #[.int .i64 a] w (Made18 S w0 As (cl a)) := by
  have H0 := Lib.hid h
  clear h
  go_enter Try.func12, Try.ntmps12
  go_wp2_with fail
  refine (new_scope H0.out).mono ?_
  rintro e w1 ⟨m, rfl, s1⟩
  have S1 := Lib.hid s1
  clear s1
  go_wp2_with fail
  refine (inew_scope S1.out m _).mono ?_
  rintro e w2 ⟨p, b, rfl, s2⟩
  have S2 := Lib.hid (ref_new s2)
  clear s2
  go_wp2_with fail
  refine (rinew_scope S2.out _ _).mono ?_
  rintro e w3 ⟨q, rfl, s3⟩
  have S3 := Lib.hid s3
  clear s3
  go_wp2
  go_ret3
  exact ⟨m, p, b, q, _, rfl, made18_end S3.out⟩

/-! ### the reference's methods, whatever its lists are -/
section
variable {q x n kb : Nat} {sh : Int} {σ : MS} {nx : Int → Int}
theorem Does.head {P : Program} {A A' : HA} {As : List HA} {f : FuncId} {args : Array Value} {r : Value} (d : Does P [A] f args r [A']) : Does P [stars (A :: As)] f args r [stars (A' :: As)] :=
  Does.pack fun S w0 w h => (d.at0 h).mono fun _ _ ⟨he, hs⟩ => ⟨he, [], by simpa using hs⟩
theorem xisec_does (who : Int) (hn : n ≤ 1000000) (hl : σ.log.length ≤ 1000000) : Does Try.prog [rinA q x n kb sh σ nx] 44 #[ptr q, .int .i64 who] (.int .u64 (σ.num secL)) [rinA q x (n + 1) kb sh (σ.put who 1 secL) nx] :=
  Does.ex (F := rinB q x n kb sh σ nx) (G := rinB q x (n + 1) kb sh (σ.put who 1 secL) nx) fun _ => risec_does who hn hl
theorem xibegin_does (who : Int) (hn : n ≤ 1000000) (hl : σ.log.length ≤ 1000000) : Does Try.prog [rinA q x n kb sh σ nx] 42 #[ptr q, .int .i64 who] (.tuple #[]) [rinA q x (n + 1) kb sh ((σ.put who 3 secL).set secL (IntKind.u64.wrap (σ.num secL + 4294967296))) nx] :=
  Does.ex (F := rinB q x n kb sh σ nx) (G := rinB q x (n + 1) kb sh ((σ.put who 3 secL).set secL (IntKind.u64.wrap (σ.num secL + 4294967296))) nx) fun _ => ribegin_does who hn hl
theorem xiend_does (who : Int) (hn : n ≤ 1000000) (hl : σ.log.length ≤ 1000000) : Does Try.prog [rinA q x n kb sh σ nx] 43 #[ptr q, .int .i64 who] (.tuple #[]) [rinA q x (n + 1) kb sh ((σ.put who 3 secL).set secL (IntKind.u64.wrap (σ.num secL + 1))) nx] :=
  Does.ex (F := rinB q x n kb sh σ nx) (G := rinB q x (n + 1) kb sh ((σ.put who 3 secL).set secL (IntKind.u64.wrap (σ.num secL + 1))) nx) fun _ => riend_does who hn hl
theorem xitop_does (who s : Int) (hn : n ≤ 1000000) (hl : σ.log.length ≤ 1000000) : Does Try.prog [rinA q x n kb sh σ nx] 45 #[ptr q, .int .i64 who, .int .i64 s] (.int .u64 (σ.num (inbL s))) [rinA q x (n + 1) kb sh (σ.put who 1 (inbL s)) nx] :=
  Does.ex (F := rinB q x n kb sh σ nx) (G := rinB q x (n + 1) kb sh (σ.put who 1 (inbL s)) nx) fun _ => ritop_does who s hn hl
theorem xigrab_does (who s : Int) (hn : n ≤ 1000000) (hl : σ.log.length ≤ 1000000) : Does Try.prog [rinA q x n kb sh σ nx] 50 #[ptr q, .int .i64 who, .int .i64 s] (.int .u64 (σ.num (inbL s))) [rinA q x (n + 1) kb sh ((σ.put who 3 (inbL s)).set (inbL s) 0) nx] :=
  Does.ex (F := rinB q x n kb sh σ nx) (G := rinB q x (n + 1) kb sh ((σ.put who 3 (inbL s)).set (inbL s) 0) nx) fun _ => rigrab_does who s hn hl
theorem xipush_does (who s top obj : Int) (hn : n ≤ 1000000) (hl : σ.log.length ≤ 1000000) : Does Try.prog [rinA q x n kb sh σ nx] 49 #[ptr q, .int .i64 who, .int .i64 s, .int .u64 top, .int .i64 obj] (.bool (decide (σ.num (inbL s) = top))) [rinA q x (n + 1) kb sh (σ.swap who (inbL s) top (objW obj)) nx] :=
  Does.ex (F := rinB q x n kb sh σ nx) (G := rinB q x (n + 1) kb sh (σ.swap who (inbL s) top (objW obj)) nx) fun _ => ripush_does who s top obj hn hl
theorem xipeek_does (l : Lc) (hn : n ≤ 1000000) : Does Try.prog [rinA q x n kb sh σ nx] 47 #[ptr x, l.val] (.int .u64 (σ.num l)) [rinA q x (n + 1) kb sh σ nx] :=
  Does.ex (F := rinB q x n kb sh σ nx) (G := rinB q x (n + 1) kb sh σ nx) fun _ => Does.head (rpeek_does l hn)
end

/-! ### awake -/
def calmB (s : Int) : Bool := decide (s / 4294967296 = s % 4294967296)
theorem calm_pure {s : Int} (h : U64 s) : Pure Try.prog 11 #[.int .u64 s] (.bool (calmB s)) := fun w => by
  have h0 := h.1; have h1 := h.2
  clear h
  go_enter Try.func11, Try.ntmps11
  go_wp2
  go_ret
  exact ⟨ret_bool (by unfold calmB; rw [Bool.eq_iff_iff]; simp), Chg.refl _ _⟩
def ai1 : MS := (MS.zero.put 0 3 secL).set secL (IntKind.u64.wrap (MS.zero.num secL + 4294967296))
def ai2 : MS := ai1.put 0 1 secL
def ai3 : MS := (ai2.put 0 3 secL).set secL (IntKind.u64.wrap (ai2.num secL + 1))
def ai4 : MS := ai3.put 0 6 (nxtL 4)
def nx4 : Int → Int := nxset (fun _ => 0) 4 0
def ai5 : MS := ai4.put 0 1 secL
def ai6 : MS := ai5.swap 0 (inbL 1) 0 (objW 4)
def ai7 : MS := ai6.put 0 1 (inbL 1)
def ai8 : MS := (ai7.put 1 3 (inbL 1)).set (inbL 1) 0
def ai9 : MS := ai8.put 1 5 (nxtL 4)

set_option maxHeartbeats 2000000 in
theorem awake18_any (w : World) : Calls Try.prog 10 #[] w fun e w' => e = .returned (.bool true) ∧ Chg [] w w' := by
  have hi : ∀ k : Int, -100 ≤ k → k ≤ 100 → I64 k := fun k _ _ => by unfold I64; omega
  have H0 := Lib.hid (Scope.empty w); have Hi := Lib.hid hi
  clear hi
  go_enter Try.func10, Try.ntmps10
  go_wp2_with fail
  refine (new_scope H0.out).mono ?_
  rintro e w1 ⟨m, rfl, s1⟩
  have S1 := Lib.hid s1
  clear s1
  go_wp2_with fail
  refine (inew_scope S1.out m 2).mono ?_
  rintro e w2 ⟨p, b, rfl, s2⟩
  rw [show cl 2 = 2 from by decide] at s2
  have S2 := Lib.hid (show Scope [] w w2 [inA p m b 2 MS.zero (fun _ => 0)] from Scope.shut1 (Bs := []) (by
    have h1 := Scope.swap (As := [memA m MS.zero, nextA b (fun _ => 0)]) (Bs := [box p _ _]) (Cs := []) s2
    exact Scope.swap (As := [box p _ _]) (Bs := [memA m MS.zero]) (Cs := [nextA b (fun _ => 0)]) h1))
  clear s2
  go_wp2_with fail
  refine ((ishards_does).at0 S2.out).mono ?_
  rintro e w3 ⟨rfl, s3⟩
  have S3 := Lib.hid (show Scope [] w w3 [inA p m b 2 MS.zero (fun _ => 0)] from s3)
  clear s3
  go_wp2_with fail
  refine ((ibegin_does 0 (by decide)).at0 S3.out).mono ?_
  rintro e w4 ⟨rfl, s4⟩
  have S4 := Lib.hid (show Scope [] w w4 [inA p m b 2 ai1 (fun _ => 0)] from s4)
  clear s4
  go_wp2_with fail
  refine ((isec_does 0 (by decide)).at0 S4.out).mono ?_
  rintro e w5 ⟨he, s5⟩
  rw [show ai1.num secL = 4294967296 from by decide] at he
  subst he
  have S5 := Lib.hid (show Scope [] w w5 [inA p m b 2 ai2 (fun _ => 0)] from s5)
  clear s5
  go_wp2_with fail
  refine (calm_pure (s := 4294967296) (by unfold U64; omega) _).mono ?_
  rintro e wq ⟨he, hc⟩
  rw [show calmB 4294967296 = false from by decide] at he
  subst he
  have S5 := Lib.hid (S5.out.quiet hc)
  clear hc
  go_wp2_with fail
  refine ((iend_does 0 (by decide)).at0 S5.out).mono ?_
  rintro e w6 ⟨rfl, s6⟩
  have S6 := Lib.hid (show Scope [] w w6 [inA p m b 2 ai3 (fun _ => 0)] from s6)
  clear s6
  go_wp2_with fail
  refine ((ilink_does 0 4 0 (Hi.out 4 (by omega) (by omega)) (by decide)).at0 S6.out).mono ?_
  rintro e w7 ⟨rfl, s7⟩
  have S7 := Lib.hid (show Scope [] w w7 [inA p m b 2 ai4 nx4] from s7)
  clear s7
  go_wp2_with fail
  refine ((isec_does 0 (by decide)).at0 S7.out).mono ?_
  rintro e w8 ⟨he, s8⟩
  rw [show ai4.num secL = 4294967297 from by decide] at he
  subst he
  have S8 := Lib.hid (show Scope [] w w8 [inA p m b 2 ai5 nx4] from s8)
  clear s8
  go_wp2_with fail
  refine (calm_pure (s := 4294967297) (by unfold U64; omega) _).mono ?_
  rintro e wq ⟨he, hc⟩
  rw [show calmB 4294967297 = true from by decide] at he
  subst he
  have S8 := Lib.hid (S8.out.quiet hc)
  clear hc
  go_wp2_with fail
  refine ((ipush_does 0 1 0 4 (Hi.out 1 (by omega) (by omega)) (by decide)).at0 S8.out).mono ?_
  rintro e w9 ⟨he, s9⟩
  rw [show decide (ai5.num (inbL 1) = 0) = true from by decide] at he
  subst he
  have S9 := Lib.hid (show Scope [] w w9 [inA p m b 2 ai6 nx4] from s9)
  clear s9
  go_wp2_with fail
  refine ((itop_does 0 1 (Hi.out 1 (by omega) (by omega)) (by decide)).at0 S9.out).mono ?_
  rintro e w10 ⟨he, s10⟩
  rw [show ai6.num (inbL 1) = 5 from by decide] at he
  subst he
  have S10 := Lib.hid (show Scope [] w w10 [inA p m b 2 ai7 nx4] from s10)
  clear s10
  go_wp2_with fail
  refine ((igrab_does 1 1 (Hi.out 1 (by omega) (by omega)) (by decide)).at0 S10.out).mono ?_
  rintro e w11 ⟨he, s11⟩
  rw [show ai7.num (inbL 1) = 5 from by decide] at he
  subst he
  have S11 := Lib.hid (show Scope [] w w11 [inA p m b 2 ai8 nx4] from s11)
  clear s11
  go_wp2_with fail
  refine ((inext_does 1 4 (Hi.out 4 (by omega) (by omega)) (by decide)).at0 S11.out).mono ?_
  rintro e w12 ⟨he, s12⟩
  rw [show nx4 4 = 0 from by decide] at he
  subst he
  have S12 := Lib.hid (show Scope [] w w12 [inA p m b 2 ai9 nx4] from s12)
  clear s12
  go_wp2_with fail
  refine (len0 (σ := ai9) S12.out.open1 (by decide)).mono ?_
  rintro e wl ⟨he, rfl⟩
  rw [show ((ai9.log.length : Nat) : Int) = 9 from by decide] at he
  subst he
  go_wp2
  go_ret
  exact ⟨rfl, S12.out.1⟩
theorem awake18_scope {S : List Nat} {w0 w : World} {As : List HA} (h : Scope S w0 w As) : Calls Try.prog 10 #[] w fun e w' => e = .returned (.bool true) ∧ Scope S w0 w' As :=
  (awake18_any w).mono fun _ _ ⟨he, hc⟩ => ⟨he, h.quiet hc⟩

/-! ### step -/
theorem MS.swap_len (σ : MS) (who : Int) (l : Lc) (a b : Int) : (σ.swap who l a b).log.length ≤ σ.log.length + 1 := by
  unfold MS.swap
  split <;> simp [MS.put, MS.set]
def Stepped18 (S : List Nat) (w0 : World) (Bs : List HA) (p m b q x n : Nat) (sh : Int) (σ : MS) (e : Ending) (w' : World) : Prop :=
  e = .returned (.bool true) ∧ ∃ (σ' : MS) (nx' : Int → Int), σ'.log.length ≤ σ.log.length + 2 ∧ Scope S w0 w' (inA p m b sh σ' nx' :: rinA q x (n + 2) (n + 2) sh σ' nx' :: Bs)
theorem rin_mono {q x n n' k k' : Nat} {sh : Int} {σ : MS} {nx : Int → Int} (hn : n ≤ n') (hk : k ≤ k') : ∀ w fp, (rinA q x n k sh σ nx).holds w fp → (rinA q x n' k' sh σ nx).holds w fp := by
  rintro w fp ⟨c, f, g, ⟨kv, k1, k2, k3⟩, ⟨f1, g1, h1, ⟨f2, g2, h2, ⟨f3, g3, h3, ⟨f4, g4, ⟨⟨hA, hB⟩, h4'⟩, h5⟩, h6⟩, h7⟩, h8⟩, h9⟩
  exact ⟨c, f, g, ⟨kv, by omega, k2, k3⟩, ⟨f1, g1, h1, ⟨f2, g2, h2, ⟨f3, g3, h3, ⟨f4, g4, ⟨⟨hA, by omega⟩, h4'⟩, h5⟩, h6⟩, h7⟩, h8⟩, h9⟩
theorem Scope.rin_up {S : List Nat} {w0 w : World} {X : HA} {Bs : List HA} {q x n n' : Nat} {sh : Int} {σ : MS} {nx : Int → Int} {k k' : Nat} (h : Scope S w0 w (X :: rinA q x n k sh σ nx :: Bs)) (hn : n ≤ n') (hk : k ≤ k' := by omega) : Scope S w0 w (X :: rinA q x n' k' sh σ nx :: Bs) :=
  (Scope.turn1 (B := rinA q x n' k' sh σ nx) h.swap2 (rin_mono hn hk)).swap2
theorem Scope.stepped18 {S : List Nat} {w0 w' : World} {Bs : List HA} {p m b q x n n' k : Nat} {sh : Int} {σ σ' : MS} {nx : Int → Int} {b1 : HA} (h : Scope S w0 w' (inA p m b sh σ' nx :: rinA q x n' k sh σ' nx :: (Bs ++ [b1]))) (hn : n' ≤ n + 2) (hk : k ≤ n + 2) (hlen : σ'.log.length ≤ σ.log.length + 2) :
    Stepped18 S w0 Bs p m b q x n sh σ (.returned (.bool true)) w' :=
  ⟨rfl, σ', nx, hlen, (Scope.drop (As := inA p m b sh σ' nx :: rinA q x n' k sh σ' nx :: Bs) (Bs := [b1]) h).rin_up hn hk⟩

theorem few_pure {x : Int} (hx : U64 x) : Pure Try.prog 40 #[.int .u64 x] (.int .u64 (few x)) := fun w => (few_any hx w).mono fun _ _ ⟨he, hw⟩ => ⟨he, hw ▸ Chg.refl _ _⟩
set_option maxHeartbeats 8000000 in
set_option maxRecDepth 20000 in
theorem step18_any {S : List Nat} {w0 w : World} {Bs : List HA} {p m b q x n : Nat} {sh : Int} {σ : MS} {nx : Int → Int} {u : Us} (h : Scope S w0 w (inA p m b sh σ nx :: rinA q x n n sh σ nx :: Bs)) (hu : u.wf) (hn : n ≤ 800000) (hl : σ.log.length ≤ 900000) :
    Calls Try.prog 24 #[ptr p, ptr q, u.val] w (Stepped18 S w0 Bs p m b q x n sh σ) := by
  have s0 : Scope S w0 (w.alloc (.cells #[.int .i64 u.k, .int .i64 u.who, .int .i64 u.obj, .int .i64 u.i, .int .u64 u.n, .int .u64 u.m, .int .i64 u.flow, .int .i64 u.len, .int .i64 u.mark] 53)) (inA p m b sh σ nx :: rinA q x n n sh σ nx :: (Bs ++ [box w.heap.size u.cells 53])) := h.box u.cells 53
  have ht := Us.thing_i hu; have hp := Us.place_i hu; have hun := hu.2.2.2.2.1; have m0 := hu.2.2.2.2.2.1.1
  have S0 := Lib.hid s0; have Ht := Lib.hid ht; have Hp := Lib.hid hp; have Hn := Lib.hid hun
  clear h s0 hu ht hp hun
  unfold Us.val
  go_enter Try.func24, Try.ntmps24
  go_wp2_with fail
  generalize w.alloc _ = W at S0 ⊢
  generalize w.heap.size = B0 at S0 ⊢
  have ud : ∀ w', UseAt B0 u w' → (w'.cell? ⟨B0, 0, none⟩ = some (.int .i64 u.k) ∧ w'.cell? ⟨B0, 1, none⟩ = some (.int .i64 u.who) ∧ w'.cell? ⟨B0, 2, none⟩ = some (.int .i64 u.obj) ∧ w'.cell? ⟨B0, 3, none⟩ = some (.int .i64 u.i) ∧ w'.cell? ⟨B0, 4, none⟩ = some (.int .u64 u.n) ∧ w'.cell? ⟨B0, 5, none⟩ = some (.int .u64 u.m) ∧ w'.cell? ⟨B0, 6, none⟩ = some (.int .i64 u.flow) ∧ w'.cell? ⟨B0, 7, none⟩ = some (.int .i64 u.len) ∧ w'.cell? ⟨B0, 8, none⟩ = some (.int .i64 u.mark)) := fun w' hc => hc
  have u0 : UseAt B0 u W.drew := UseAt.of_row (S0.out.drew.rowm (by simp))
  have S0d := Lib.hid S0.out.drew
  go_region_held3 (UseAt B0 u) (assumption)
    (first
      | (go_at_call 37
         refine (by_any u _).mono ?_
         rintro e w1 ⟨rfl, hc⟩
         have S1 := Lib.hid (Scope.quiet (Hid.out (by assumption)) hc)
         have uq : UseAt B0 u w1 := UseAt.of_row (S1.out.rowm (by simp))
         clear hc)
      | (go_at_call 38
         refine (thing_any u _).mono ?_
         rintro e w2 ⟨rfl, hc⟩
         have S2 := Lib.hid (Scope.quiet (Hid.out (by assumption)) hc)
         have uq : UseAt B0 u w2 := UseAt.of_row (S2.out.rowm (by simp))
         clear hc)
      | (go_at_call 39
         refine (uplace_any u _).mono ?_
         rintro e w3 ⟨rfl, hc⟩
         have S3 := Lib.hid (Scope.quiet (Hid.out (by assumption)) hc)
         have uq : UseAt B0 u w3 := UseAt.of_row (S3.out.rowm (by simp))
         clear hc)
      | (go_at_call 40
         refine (few_pure Hn.out _).mono ?_
         rintro e w4 ⟨rfl, hc⟩
         have S4 := Lib.hid (Scope.quiet (Hid.out (by assumption)) hc)
         have uq : UseAt B0 u w4 := UseAt.of_row (S4.out.rowm (by simp))
         clear hc))
  go_wp2_with fail
  refine (what_any u (n := 12) (by omega) (by omega) _).mono ?_
  rintro e w4' ⟨he, hc⟩
  have S4' := Lib.hid (S4.out.quiet hc)
  clear hc S1 S2 S3 S4 S0 S0d u0
  obtain ⟨w4, hw4⟩ : ∃ w4, w4 = w4' := ⟨_, rfl⟩
  subst hw4
  have S4 := S4'
  clear S4'
  have hm := mod_lt u.k (n := 12) (by omega)
  have hv : u.what 12 = 0 ∨ u.what 12 = 1 ∨ u.what 12 = 2 ∨ u.what 12 = 3 ∨ u.what 12 = 4 ∨ u.what 12 = 5 ∨ u.what 12 = 6 ∨ u.what 12 = 7 ∨ u.what 12 = 8 ∨ u.what 12 = 9 ∨ u.what 12 = 10 ∨ u.what 12 = 11 := by unfold Us.what; omega
  clear hm
  rcases hv with hv | hv | hv | hv | hv | hv | hv | hv | hv | hv | hv | hv
  · rw [hv] at he
    subst he
    clear hv
    go_wp2_with fail
    refine ((ibegin_does u.by (by omega)).at0 S4.out).mono ?_
    rintro e w5 ⟨rfl, s5⟩
    have S5 := Lib.hid s5
    clear s5
    go_wp2_with fail
    refine ((xibegin_does u.by (by omega) (by omega)).at1 S5.out).mono ?_
    rintro e w6 ⟨rfl, s6⟩
    have S6 := Lib.hid s6
    clear s6
    go_wp2_with fail
    refine ((inext_does u.by u.thing Ht.out (by simp [MS.put, MS.set]; omega)).at0 S6.out).mono ?_
    rintro e w7 ⟨rfl, s7⟩
    have S7 := Lib.hid s7
    clear s7
    go_wp2_with fail
    refine ((rinext_does u.by u.thing Ht.out (by omega) (by simp [MS.put, MS.set]; omega)).at1 S7.out).mono ?_
    rintro e w8 ⟨rfl, s8⟩
    have S8 := Lib.hid s8
    clear s8
    go_wp2
    go_ret
    exact S8.out.stepped18 (by omega) (by omega) (by simp [MS.put, MS.set])
  · rw [hv] at he
    subst he
    clear hv
    go_wp2_with fail
    refine ((iend_does u.by (by omega)).at0 S4.out).mono ?_
    rintro e w5 ⟨rfl, s5⟩
    have S5 := Lib.hid s5
    clear s5
    go_wp2_with fail
    refine ((xiend_does u.by (by omega) (by omega)).at1 S5.out).mono ?_
    rintro e w6 ⟨rfl, s6⟩
    have S6 := Lib.hid s6
    clear s6
    go_wp2_with fail
    refine ((inext_does u.by u.thing Ht.out (by simp [MS.put, MS.set]; omega)).at0 S6.out).mono ?_
    rintro e w7 ⟨rfl, s7⟩
    have S7 := Lib.hid s7
    clear s7
    go_wp2_with fail
    refine ((rinext_does u.by u.thing Ht.out (by omega) (by simp [MS.put, MS.set]; omega)).at1 S7.out).mono ?_
    rintro e w8 ⟨rfl, s8⟩
    have S8 := Lib.hid s8
    clear s8
    go_wp2
    go_ret
    exact S8.out.stepped18 (by omega) (by omega) (by simp [MS.put, MS.set])
  · rw [hv] at he
    subst he
    clear hv
    go_wp2_with fail
    refine ((isec_does u.by (by omega)).at0 S4.out).mono ?_
    rintro e w5 ⟨rfl, s5⟩
    have S5 := Lib.hid s5
    clear s5
    go_wp2_with fail
    refine ((xisec_does u.by (by omega) (by omega)).at1 S5.out).mono ?_
    rintro e w6 ⟨rfl, s6⟩
    have S6 := Lib.hid s6
    clear s6
    go_wp2
    go_ret
    exact S6.out.stepped18 (by omega) (by omega) (by simp [MS.put, MS.set])
  · rw [hv] at he
    subst he
    clear hv
    go_wp2_with fail
    refine ((itop_does u.by u.place Hp.out (by omega)).at0 S4.out).mono ?_
    rintro e w5 ⟨rfl, s5⟩
    have S5 := Lib.hid s5
    clear s5
    go_wp2_with fail
    refine ((xitop_does u.by u.place (by omega) (by omega)).at1 S5.out).mono ?_
    rintro e w6 ⟨rfl, s6⟩
    have S6 := Lib.hid s6
    clear s6
    go_wp2
    go_ret
    exact S6.out.stepped18 (by omega) (by omega) (by simp [MS.put, MS.set])
  · rw [hv] at he
    subst he
    clear hv
    go_wp2_with fail
    refine ((ilink_does u.by u.thing (few u.n) Ht.out (by omega)).at0 S4.out).mono ?_
    rintro e w5 ⟨rfl, s5⟩
    have S5 := Lib.hid s5
    clear s5
    go_wp2_with fail
    refine ((rilink_does u.by u.thing (few u.n) Ht.out (by omega) (by omega) (by omega)).at1 S5.out).mono ?_
    rintro e w6 ⟨rfl, s6⟩
    have S6 := Lib.hid s6
    clear s6
    go_wp2_with fail
    refine ((inext_does u.by u.thing Ht.out (by simp [MS.put, MS.set]; omega)).at0 S6.out).mono ?_
    rintro e w7 ⟨rfl, s7⟩
    have S7 := Lib.hid s7
    clear s7
    go_wp2_with fail
    refine ((rinext_does u.by u.thing Ht.out (by omega) (by simp [MS.put, MS.set]; omega)).at1 S7.out).mono ?_
    rintro e w8 ⟨rfl, s8⟩
    have S8 := Lib.hid s8
    clear s8
    go_wp2
    go_ret
    exact S8.out.stepped18 (by omega) (by omega) (by simp [MS.put, MS.set])
  · rw [hv] at he
    subst he
    clear hv
    go_wp2_with fail
    refine ((ilink_does u.by u.thing (few u.n) Ht.out (by omega)).at0 S4.out).mono ?_
    rintro e w5 ⟨rfl, s5⟩
    have S5 := Lib.hid s5
    clear s5
    go_wp2_with fail
    refine ((rilink_does u.by u.thing (few u.n) Ht.out (by omega) (by omega) (by omega)).at1 S5.out).mono ?_
    rintro e w6 ⟨rfl, s6⟩
    have S6 := Lib.hid s6
    clear s6
    go_wp2_with fail
    refine ((inext_does u.by u.thing Ht.out (by simp [MS.put, MS.set]; omega)).at0 S6.out).mono ?_
    rintro e w7 ⟨rfl, s7⟩
    have S7 := Lib.hid s7
    clear s7
    go_wp2_with fail
    refine ((rinext_does u.by u.thing Ht.out (by omega) (by simp [MS.put, MS.set]; omega)).at1 S7.out).mono ?_
    rintro e w8 ⟨rfl, s8⟩
    have S8 := Lib.hid s8
    clear s8
    go_wp2
    go_ret
    exact S8.out.stepped18 (by omega) (by omega) (by simp [MS.put, MS.set])
  · rw [hv] at he
    subst he
    clear hv
    have d5 : w4.cell? ⟨B0, 5, none⟩ = some (.int .u64 u.m) := (S4.out.rowm (k := B0) (vs := u.cells) (t := 53) (by simp)).cell rfl
    by_cases hp : 0 < u.m % 3
    · have hq : w4.cell? ⟨q, 0, none⟩ = some (ptr x) := by
        obtain ⟨c, h1⟩ := S4.out.swap2.exo
        exact (h1.open1.row 1 rfl).cell rfl
      have D4 := Lib.hid S4.out.drew
      go_wp2_with fail
      go_region_held3 (fun w' => w'.cell? ⟨q, 0, none⟩ = some (ptr x)) (go_keep)
        (first
          | (go_at_call 48
             refine ((rloc_pure 9 u.place 0).at D4.out).mono ?_
             rintro e wq ⟨rfl, sq⟩
             have hq : wq.cell? ⟨q, 0, none⟩ = some (ptr x) := by
               obtain ⟨c, h1⟩ := sq.swap2.exo
               exact (h1.open1.row 1 rfl).cell rfl
             have Sq := Lib.hid sq
             clear sq)
          | (go_at_call 47
             refine ((xipeek_does (inbL u.place) (by omega)).at1 Sq.out).mono ?_
             rintro e w5 ⟨rfl, s5⟩
             have hq : w5.cell? ⟨q, 0, none⟩ = some (ptr x) := by
               obtain ⟨c, h1⟩ := s5.swap2.exo
               exact (h1.open1.row 1 rfl).cell rfl
             have S5 := Lib.hid s5
             clear s5))
      go_wp2_with fail
      refine ((ipush_does u.by u.place (σ.num (inbL u.place)) u.thing Hp.out (by omega)).at0 S5.out).mono ?_
      rintro e w6 ⟨rfl, s6⟩
      have S6 := Lib.hid s6
      clear s6
      go_wp2_with fail
      refine ((xipush_does u.by u.place (σ.num (inbL u.place)) u.thing (by omega) (by omega)).at1 S6.out).mono ?_
      rintro e w7 ⟨rfl, s7⟩
      have S7 := Lib.hid s7
      clear s7
      go_wp2
      go_ret
      exact S7.out.stepped18 (by omega) (by omega) (by have := MS.swap_len σ u.by (inbL u.place) (σ.num (inbL u.place)) (objW u.thing); omega)
    · go_wp2_with fail
      refine ((ipush_does u.by u.place (few u.n) u.thing Hp.out (by omega)).at0 S4.out).mono ?_
      rintro e w5 ⟨rfl, s5⟩
      have S5 := Lib.hid s5
      clear s5
      go_wp2_with fail
      refine ((xipush_does u.by u.place (few u.n) u.thing (by omega) (by omega)).at1 S5.out).mono ?_
      rintro e w6 ⟨rfl, s6⟩
      have S6 := Lib.hid s6
      clear s6
      go_wp2
      go_ret
      exact S6.out.stepped18 (by omega) (by omega) (by have := MS.swap_len σ u.by (inbL u.place) (few u.n) (objW u.thing); omega)
  · rw [hv] at he
    subst he
    clear hv
    have d5 : w4.cell? ⟨B0, 5, none⟩ = some (.int .u64 u.m) := (S4.out.rowm (k := B0) (vs := u.cells) (t := 53) (by simp)).cell rfl
    by_cases hp : 0 < u.m % 3
    · have hq : w4.cell? ⟨q, 0, none⟩ = some (ptr x) := by
        obtain ⟨c, h1⟩ := S4.out.swap2.exo
        exact (h1.open1.row 1 rfl).cell rfl
      have D4 := Lib.hid S4.out.drew
      go_wp2_with fail
      go_region_held3 (fun w' => w'.cell? ⟨q, 0, none⟩ = some (ptr x)) (go_keep)
        (first
          | (go_at_call 48
             refine ((rloc_pure 9 u.place 0).at D4.out).mono ?_
             rintro e wq ⟨rfl, sq⟩
             have hq : wq.cell? ⟨q, 0, none⟩ = some (ptr x) := by
               obtain ⟨c, h1⟩ := sq.swap2.exo
               exact (h1.open1.row 1 rfl).cell rfl
             have Sq := Lib.hid sq
             clear sq)
          | (go_at_call 47
             refine ((xipeek_does (inbL u.place) (by omega)).at1 Sq.out).mono ?_
             rintro e w5 ⟨rfl, s5⟩
             have hq : w5.cell? ⟨q, 0, none⟩ = some (ptr x) := by
               obtain ⟨c, h1⟩ := s5.swap2.exo
               exact (h1.open1.row 1 rfl).cell rfl
             have S5 := Lib.hid s5
             clear s5))
      go_wp2_with fail
      refine ((ipush_does u.by u.place (σ.num (inbL u.place)) u.thing Hp.out (by omega)).at0 S5.out).mono ?_
      rintro e w6 ⟨rfl, s6⟩
      have S6 := Lib.hid s6
      clear s6
      go_wp2_with fail
      refine ((xipush_does u.by u.place (σ.num (inbL u.place)) u.thing (by omega) (by omega)).at1 S6.out).mono ?_
      rintro e w7 ⟨rfl, s7⟩
      have S7 := Lib.hid s7
      clear s7
      go_wp2
      go_ret
      exact S7.out.stepped18 (by omega) (by omega) (by have := MS.swap_len σ u.by (inbL u.place) (σ.num (inbL u.place)) (objW u.thing); omega)
    · go_wp2_with fail
      refine ((ipush_does u.by u.place (few u.n) u.thing Hp.out (by omega)).at0 S4.out).mono ?_
      rintro e w5 ⟨rfl, s5⟩
      have S5 := Lib.hid s5
      clear s5
      go_wp2_with fail
      refine ((xipush_does u.by u.place (few u.n) u.thing (by omega) (by omega)).at1 S5.out).mono ?_
      rintro e w6 ⟨rfl, s6⟩
      have S6 := Lib.hid s6
      clear s6
      go_wp2
      go_ret
      exact S6.out.stepped18 (by omega) (by omega) (by have := MS.swap_len σ u.by (inbL u.place) (few u.n) (objW u.thing); omega)
  · rw [hv] at he
    subst he
    clear hv
    have d5 : w4.cell? ⟨B0, 5, none⟩ = some (.int .u64 u.m) := (S4.out.rowm (k := B0) (vs := u.cells) (t := 53) (by simp)).cell rfl
    by_cases hp : 0 < u.m % 3
    · have hq : w4.cell? ⟨q, 0, none⟩ = some (ptr x) := by
        obtain ⟨c, h1⟩ := S4.out.swap2.exo
        exact (h1.open1.row 1 rfl).cell rfl
      have D4 := Lib.hid S4.out.drew
      go_wp2_with fail
      go_region_held3 (fun w' => w'.cell? ⟨q, 0, none⟩ = some (ptr x)) (go_keep)
        (first
          | (go_at_call 48
             refine ((rloc_pure 9 u.place 0).at D4.out).mono ?_
             rintro e wq ⟨rfl, sq⟩
             have hq : wq.cell? ⟨q, 0, none⟩ = some (ptr x) := by
               obtain ⟨c, h1⟩ := sq.swap2.exo
               exact (h1.open1.row 1 rfl).cell rfl
             have Sq := Lib.hid sq
             clear sq)
          | (go_at_call 47
             refine ((xipeek_does (inbL u.place) (by omega)).at1 Sq.out).mono ?_
             rintro e w5 ⟨rfl, s5⟩
             have hq : w5.cell? ⟨q, 0, none⟩ = some (ptr x) := by
               obtain ⟨c, h1⟩ := s5.swap2.exo
               exact (h1.open1.row 1 rfl).cell rfl
             have S5 := Lib.hid s5
             clear s5))
      go_wp2_with fail
      refine ((ipush_does u.by u.place (σ.num (inbL u.place)) u.thing Hp.out (by omega)).at0 S5.out).mono ?_
      rintro e w6 ⟨rfl, s6⟩
      have S6 := Lib.hid s6
      clear s6
      go_wp2_with fail
      refine ((xipush_does u.by u.place (σ.num (inbL u.place)) u.thing (by omega) (by omega)).at1 S6.out).mono ?_
      rintro e w7 ⟨rfl, s7⟩
      have S7 := Lib.hid s7
      clear s7
      go_wp2
      go_ret
      exact S7.out.stepped18 (by omega) (by omega) (by have := MS.swap_len σ u.by (inbL u.place) (σ.num (inbL u.place)) (objW u.thing); omega)
    · go_wp2_with fail
      refine ((ipush_does u.by u.place (few u.n) u.thing Hp.out (by omega)).at0 S4.out).mono ?_
      rintro e w5 ⟨rfl, s5⟩
      have S5 := Lib.hid s5
      clear s5
      go_wp2_with fail
      refine ((xipush_does u.by u.place (few u.n) u.thing (by omega) (by omega)).at1 S5.out).mono ?_
      rintro e w6 ⟨rfl, s6⟩
      have S6 := Lib.hid s6
      clear s6
      go_wp2
      go_ret
      exact S6.out.stepped18 (by omega) (by omega) (by have := MS.swap_len σ u.by (inbL u.place) (few u.n) (objW u.thing); omega)
  · rw [hv] at he
    subst he
    clear hv
    go_wp2_with fail
    refine ((igrab_does u.by u.place Hp.out (by omega)).at0 S4.out).mono ?_
    rintro e w5 ⟨rfl, s5⟩
    have S5 := Lib.hid s5
    clear s5
    go_wp2_with fail
    refine ((xigrab_does u.by u.place (by omega) (by omega)).at1 S5.out).mono ?_
    rintro e w6 ⟨rfl, s6⟩
    have S6 := Lib.hid s6
    clear s6
    go_wp2
    go_ret
    exact S6.out.stepped18 (by omega) (by omega) (by simp [MS.put, MS.set])
  · rw [hv] at he
    subst he
    clear hv
    go_wp2_with fail
    refine ((inext_does u.by u.thing Ht.out (by omega)).at0 S4.out).mono ?_
    rintro e w5 ⟨rfl, s5⟩
    have S5 := Lib.hid s5
    clear s5
    go_wp2_with fail
    refine ((rinext_does u.by u.thing Ht.out (by omega) (by omega)).at1 S5.out).mono ?_
    rintro e w6 ⟨rfl, s6⟩
    have S6 := Lib.hid s6
    clear s6
    go_wp2
    go_ret
    exact S6.out.stepped18 (by omega) (by omega) (by simp [MS.put, MS.set])
  · rw [hv] at he
    subst he
    clear hv
    go_wp2_with fail
    refine ((inext_does u.by u.thing Ht.out (by omega)).at0 S4.out).mono ?_
    rintro e w5 ⟨rfl, s5⟩
    have S5 := Lib.hid s5
    clear s5
    go_wp2_with fail
    refine ((rinext_does u.by u.thing Ht.out (by omega) (by omega)).at1 S5.out).mono ?_
    rintro e w6 ⟨rfl, s6⟩
    have S6 := Lib.hid s6
    clear s6
    go_wp2
    go_ret
    exact S6.out.stepped18 (by omega) (by omega) (by simp [MS.put, MS.set])
end Go.Proofs.Ytjipjhmcpjffcaa
