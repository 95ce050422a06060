/- The methods of the reference's memory, as what they do to the things that lie in memory: they tell just what package mem's tell. -/
import Derived.Test.YtcbipbnomgdklaaRefB
set_option linter.unusedSimpArgs false
set_option linter.unusedVariables false
namespace Go.Proofs.Ytcbipbnomgdklaa
open Go Go.RowKit Go.Maps

theorem Scope.turn1 {S : List Nat} {w0 w : World} {A B : HA} {As : List HA} (h : Scope S w0 w (A :: As)) (f : ∀ w fp, A.holds w fp → B.holds w fp) : Scope S w0 w (B :: As) := by
  obtain ⟨c, fp, ⟨x, y, h1, h2, h3, h4⟩, h5⟩ := h
  exact ⟨c, fp, ⟨x, y, f _ _ h1, h2, h3, h4⟩, h5⟩

section
variable {S : List Nat} {w0 w : World} {Bs : List HA} {p : Nat} {log : List Ev} {kv : List (Lc × Int)}
def PlacedS (S : List Nat) (w0 : World) (Bs : List HA) (p : Nat) (log : List Ev) (kv : List (Lc × Int)) (l : Lc) (e : Ending) (w' : World) : Prop :=
  ∃ (kv' : List (Lc × Int)) (k : Nat), kv'[k]? = some (l, look kv l) ∧ NotYet kv' l k ∧ look kv' = look kv ∧ kv'.length ≤ kv.length + 1 ∧ e = .returned (.int .i64 (k : Nat)) ∧ Scope S w0 w' ([refB p log kv'] ++ Bs)
theorem place_scope (h : Scope S w0 w ([refB p log kv] ++ Bs)) (l : Lc) (hn : kv.length ≤ 1000000) :
    Calls Try.prog 41 #[ptr p, l.val] w (PlacedS S w0 Bs p log kv l) := by
  obtain ⟨f, hf, hd⟩ := h.does
  exact (place_any (stars_one hf) l hn).mono fun e w' ⟨kv', k, h1, h2, h3, h4, h5, h6⟩ => ⟨kv', k, h1, h2, h3, h4, h5, hd _ _ h6.intro1⟩
theorem rlog_scope (h : Scope S w0 w ([refB p log kv] ++ Bs)) (who kind : Int) (l : Lc) (hn : log.length ≤ 1000000) :
    Calls Try.prog 38 #[ptr p, .int .i64 who, .int .i64 kind, l.val] w fun e w' => e = .returned (.tuple #[]) ∧ Scope S w0 w' ([refB p (log ++ [⟨who, kind, l⟩]) kv] ++ Bs) := by
  obtain ⟨f, hf, hd⟩ := h.does
  exact (rlog_any (stars_one hf) who kind l hn).mono fun e w' ⟨h1, h2⟩ => ⟨h1, hd _ _ h2.intro1⟩
theorem slot_scope (h : Scope S w0 w ([refB p log kv] ++ Bs)) {l : Lc} {k : Nat} {x : Int} (hk : kv[k]? = some (l, x)) :
    ∃ g cap, k < kv.length ∧ w.cell? ⟨p, 1, none⟩ = some (.slice (some ⟨g, 0, none⟩) kv.length cap) ∧ w.cell? ⟨g, k, none⟩ = some (.int .u64 x) ∧ w.frozen? ⟨g, k, none⟩ = false ∧
      ∀ y, Scope S w0 (w.setCell ⟨g, k, none⟩ (.int .u64 y)) ([refB p log (kv.set k (l, y))] ++ Bs) := by
  obtain ⟨f, hf, hd⟩ := h.does
  obtain ⟨g, cap, h1, h2, h3, h4, h5⟩ := ref_slot (stars_one hf) hk
  exact ⟨g, cap, h1, h2, h3, h4, fun y => hd _ _ (h5 y).intro1⟩
end

/-- The reference's memory at block p, of at most n places. -/
def refA (p n : Nat) (σ : MS) : HA where
  holds w fp := ∃ kv, kv.length ≤ n ∧ look kv = σ.num ∧ RefAt w p fp σ.log kv
  lt := fun ⟨_, _, _, h⟩ => h.lt
  chg := fun ⟨kv, h1, h2, h⟩ c hn => ⟨kv, h1, h2, h.chg c hn⟩

theorem refA_after {fp : List Nat} {w w' : World} {As : List HA} {p n : Nat} {σ : MS} {log : List Ev} {kv : List (Lc × Int)} (h : Scope fp w w' ([refB p log kv] ++ As)) (hn : kv.length ≤ n) (h1 : look kv = σ.num) (h2 : log = σ.log) :
    After (stars [refA p n σ]) w fp w' := by
  subst h2
  exact (Scope.turn1 (B := refA p n σ) h.drop (fun w fp hh => ⟨kv, hn, h1, hh⟩)).after

section
variable {p n : Nat} {σ : MS}
set_option maxHeartbeats 1000000 in
theorem rpeek_does (l : Lc) (hn : n ≤ 1000000) : Does Try.prog [refA p n σ] 34 #[ptr p, l.val] (.int .u64 (σ.num l)) [refA p (n + 1) σ] := by
  intro w fp h
  obtain ⟨kv, hkv, hlk, hR⟩ := stars_one h
  have s0 : Scope fp w (w.alloc (.cells #[.int .i64 l.k, .int .i64 l.a, .int .i64 l.b] 23)) ([refB p σ.log kv] ++ [box w.heap.size [.int .i64 l.k, .int .i64 l.a, .int .i64 l.b] 23]) := (Scope.start (stars_mk1 (A := refB p σ.log kv) hR)).box [.int .i64 l.k, .int .i64 l.a, .int .i64 l.b] 23
  have S0 := Lib.hid s0; have Hlk := Lib.hid hlk
  rw [show σ.num l = look kv l from by rw [hlk]]
  clear s0 hlk hR h
  unfold Lc.val
  go_enter Try.func34, Try.ntmps34
  go_wp2_with fail
  refine (place_scope S0.out l (by omega)).mono ?_
  rintro e w1 ⟨kv', k, hk, hny, hlk', hlen, rfl, s1⟩
  obtain ⟨g, cap, hlt, c1, c2, c3, put⟩ := slot_scope s1 hk
  have Hlk' := Lib.hid hlk'; have S1 := Lib.hid s1
  clear hny s1 put hk hlk'
  have i1 : (k : Int) < (kv'.length : Int) := by omega
  have i0 : (0 : Int) ≤ (k : Int) := by omega
  go_wp2_with fail
  go_ret
  exact ⟨rfl, refA_after S1.out (by omega) (by rw [Hlk'.out, Hlk.out]) rfl⟩

set_option maxHeartbeats 1000000 in
theorem rload_does (who : Int) (l : Lc) (hn : n ≤ 1000000) (hm : σ.log.length ≤ 1000000) : Does Try.prog [refA p n σ] 32 #[ptr p, .int .i64 who, l.val] (.int .u64 (σ.num l)) [refA p (n + 1) (σ.put who 1 l)] := by
  intro w fp h
  obtain ⟨kv, hkv, hlk, hR⟩ := stars_one h
  have s0 : Scope fp w (w.alloc (.cells #[.int .i64 l.k, .int .i64 l.a, .int .i64 l.b] 23)) ([refB p σ.log kv] ++ [box w.heap.size [.int .i64 l.k, .int .i64 l.a, .int .i64 l.b] 23]) := (Scope.start (stars_mk1 (A := refB p σ.log kv) hR)).box [.int .i64 l.k, .int .i64 l.a, .int .i64 l.b] 23
  have S0 := Lib.hid s0; have Hlk := Lib.hid hlk
  rw [show σ.num l = look kv l from by rw [hlk]]
  clear s0 hlk hR h
  unfold Lc.val
  go_enter Try.func32, Try.ntmps32
  go_wp2_with fail
  refine (rlog_scope S0.out who 1 l hm).mono ?_
  rintro e w1 ⟨rfl, s1⟩
  obtain ⟨d0, d1, d2⟩ := (s1.row 1 rfl).cells3
  have S1 := Lib.hid s1
  clear s1
  go_wp2_with fail
  refine (place_scope S1.out l (by omega)).mono ?_
  rintro e w2 ⟨kv', k, hk, hny, hlk', hlen, rfl, s2⟩
  obtain ⟨g, cap, hlt, c1, c2, c3, put⟩ := slot_scope s2 hk
  have Hlk' := Lib.hid hlk'; have S2 := Lib.hid s2
  clear hny s2 put hk hlk' d0 d1 d2
  have i1 : (k : Int) < (kv'.length : Int) := by omega
  have i0 : (0 : Int) ≤ (k : Int) := by omega
  go_wp2_with fail
  go_ret
  exact ⟨rfl, refA_after S2.out (by omega) (by rw [Hlk'.out, Hlk.out]; rfl) rfl⟩

theorem set_after {fp : List Nat} {w w' : World} {As : List HA} {τ : MS} {log : List Ev} {kv : List (Lc × Int)} {l : Lc} {k : Nat} {x y : Int} (h : Scope fp w w' ([refB p log (kv.set k (l, y))] ++ As)) (hk : kv[k]? = some (l, x)) (hny : NotYet kv l k) (hn : kv.length ≤ n)
    (h1 : look kv = τ.num) (h2 : log = τ.log) : After (stars [refA p n (τ.set l y)]) w fp w' := by
  refine refA_after h (by simpa using hn) ?_ h2
  rw [look_set y hk hny, h1]
  rfl

set_option maxHeartbeats 1000000 in
theorem rstore_does (who : Int) (l : Lc) (y : Int) (hn : n ≤ 1000000) (hm : σ.log.length ≤ 1000000) : Does Try.prog [refA p n σ] 33 #[ptr p, .int .i64 who, l.val, .int .u64 y] (.tuple #[]) [refA p (n + 1) ((σ.put who 2 l).set l y)] := by
  intro w fp h
  obtain ⟨kv, hkv, hlk, hR⟩ := stars_one h
  have s0 : Scope fp w (w.alloc (.cells #[.int .i64 l.k, .int .i64 l.a, .int .i64 l.b] 23)) ([refB p σ.log kv] ++ [box w.heap.size [.int .i64 l.k, .int .i64 l.a, .int .i64 l.b] 23]) := (Scope.start (stars_mk1 (A := refB p σ.log kv) hR)).box [.int .i64 l.k, .int .i64 l.a, .int .i64 l.b] 23
  have S0 := Lib.hid s0; have Hlk := Lib.hid hlk
  clear s0 hlk hR h
  unfold Lc.val
  go_enter Try.func33, Try.ntmps33
  go_wp2_with fail
  refine (rlog_scope S0.out who 2 l hm).mono ?_
  rintro e w1 ⟨rfl, s1⟩
  obtain ⟨d0, d1, d2⟩ := (s1.row 1 rfl).cells3
  have S1 := Lib.hid s1
  clear s1
  go_wp2_with fail
  refine (place_scope S1.out l (by omega)).mono ?_
  rintro e w2 ⟨kv', k, hk, hny, hlk', hlen, rfl, s2⟩
  obtain ⟨g, cap, hlt, c1, c2, c3, put⟩ := slot_scope s2 hk
  have Hlk' := Lib.hid hlk'; have Put := Lib.hid put; have Hk := Lib.hid hk; have Hny := Lib.hid hny
  clear hny s2 put hk hlk' d0 d1 d2
  have i1 : (k : Int) < (kv'.length : Int) := by omega
  have i0 : (0 : Int) ≤ (k : Int) := by omega
  go_wp2_with fail
  go_end0
  exact ⟨rfl, set_after (τ := σ.put who 2 l) (Put.out y) Hk.out Hny.out (by omega) (by rw [Hlk'.out, Hlk.out]; rfl) rfl⟩

set_option maxHeartbeats 1000000 in
theorem radd_does (who : Int) (l : Lc) (y : Int) (hn : n ≤ 1000000) (hm : σ.log.length ≤ 1000000) : Does Try.prog [refA p n σ] 36 #[ptr p, .int .i64 who, l.val, .int .u64 y] (.int .u64 (σ.num l)) [refA p (n + 1) ((σ.put who 3 l).set l (IntKind.u64.wrap (σ.num l + y)))] := by
  intro w fp h
  obtain ⟨kv, hkv, hlk, hR⟩ := stars_one h
  have s0 : Scope fp w (w.alloc (.cells #[.int .i64 l.k, .int .i64 l.a, .int .i64 l.b] 23)) ([refB p σ.log kv] ++ [box w.heap.size [.int .i64 l.k, .int .i64 l.a, .int .i64 l.b] 23]) := (Scope.start (stars_mk1 (A := refB p σ.log kv) hR)).box [.int .i64 l.k, .int .i64 l.a, .int .i64 l.b] 23
  have S0 := Lib.hid s0; have Hlk := Lib.hid hlk
  rw [show σ.num l = look kv l from by rw [hlk]]
  clear s0 hlk hR h
  unfold Lc.val
  go_enter Try.func36, Try.ntmps36
  go_wp2_with fail
  refine (place_scope S0.out l (by omega)).mono ?_
  rintro e w1 ⟨kv', k, hk, hny, hlk', hlen, rfl, s1⟩
  have S1 := Lib.hid s1; have Hlk' := Lib.hid hlk'; have Hk := Lib.hid hk; have Hny := Lib.hid hny
  obtain ⟨d0, d1, d2⟩ := (s1.row 1 rfl).cells3
  clear s1 hny hlk' hk
  go_wp2_with fail
  refine (rlog_scope S1.out who 3 l hm).mono ?_
  rintro e w2 ⟨rfl, s2⟩
  obtain ⟨g, cap, hlt, c1, c2, c3, put⟩ := slot_scope s2 Hk.out
  have Put := Lib.hid put
  clear s2 put d0 d1 d2
  have i1 : (k : Int) < (kv'.length : Int) := by omega
  have i0 : (0 : Int) ≤ (k : Int) := by omega
  go_wp2_with fail
  go_ret
  exact ⟨rfl, set_after (τ := σ.put who 3 l) (Put.out _) Hk.out Hny.out (by omega) (by rw [Hlk'.out, Hlk.out]; rfl) rfl⟩

set_option maxHeartbeats 1000000 in
theorem rtake_does (who : Int) (l : Lc) (y : Int) (hn : n ≤ 1000000) (hm : σ.log.length ≤ 1000000) : Does Try.prog [refA p n σ] 37 #[ptr p, .int .i64 who, l.val, .int .u64 y] (.int .u64 (σ.num l)) [refA p (n + 1) ((σ.put who 3 l).set l y)] := by
  intro w fp h
  obtain ⟨kv, hkv, hlk, hR⟩ := stars_one h
  have s0 : Scope fp w (w.alloc (.cells #[.int .i64 l.k, .int .i64 l.a, .int .i64 l.b] 23)) ([refB p σ.log kv] ++ [box w.heap.size [.int .i64 l.k, .int .i64 l.a, .int .i64 l.b] 23]) := (Scope.start (stars_mk1 (A := refB p σ.log kv) hR)).box [.int .i64 l.k, .int .i64 l.a, .int .i64 l.b] 23
  have S0 := Lib.hid s0; have Hlk := Lib.hid hlk
  rw [show σ.num l = look kv l from by rw [hlk]]
  clear s0 hlk hR h
  unfold Lc.val
  go_enter Try.func37, Try.ntmps37
  go_wp2_with fail
  refine (place_scope S0.out l (by omega)).mono ?_
  rintro e w1 ⟨kv', k, hk, hny, hlk', hlen, rfl, s1⟩
  have S1 := Lib.hid s1; have Hlk' := Lib.hid hlk'; have Hk := Lib.hid hk; have Hny := Lib.hid hny
  obtain ⟨d0, d1, d2⟩ := (s1.row 1 rfl).cells3
  clear s1 hny hlk' hk
  go_wp2_with fail
  refine (rlog_scope S1.out who 3 l hm).mono ?_
  rintro e w2 ⟨rfl, s2⟩
  obtain ⟨g, cap, hlt, c1, c2, c3, put⟩ := slot_scope s2 Hk.out
  have Put := Lib.hid put
  clear s2 put d0 d1 d2
  have i1 : (k : Int) < (kv'.length : Int) := by omega
  have i0 : (0 : Int) ≤ (k : Int) := by omega
  go_wp2_with fail
  go_ret
  exact ⟨rfl, set_after (τ := σ.put who 3 l) (Put.out y) Hk.out Hny.out (by omega) (by rw [Hlk'.out, Hlk.out]; rfl) rfl⟩

set_option maxHeartbeats 1000000 in
theorem rswap_yes (who : Int) (l : Lc) (was now : Int) (hw : σ.num l = was) (hn : n ≤ 1000000) (hm : σ.log.length ≤ 1000000) : Does Try.prog [refA p n σ] 35 #[ptr p, .int .i64 who, l.val, .int .u64 was, .int .u64 now] (.bool true) [refA p (n + 1) ((σ.put who 3 l).set l now)] := by
  intro w fp h
  obtain ⟨kv, hkv, hlk, hR⟩ := stars_one h
  have s0 : Scope fp w (w.alloc (.cells #[.int .i64 l.k, .int .i64 l.a, .int .i64 l.b] 23)) ([refB p σ.log kv] ++ [box w.heap.size [.int .i64 l.k, .int .i64 l.a, .int .i64 l.b] 23]) := (Scope.start (stars_mk1 (A := refB p σ.log kv) hR)).box [.int .i64 l.k, .int .i64 l.a, .int .i64 l.b] 23
  have S0 := Lib.hid s0; have Hlk := Lib.hid hlk
  rw [← hlk] at hw
  clear s0 hlk hR h
  unfold Lc.val
  go_enter Try.func35, Try.ntmps35
  go_wp2_with fail
  refine (place_scope S0.out l (by omega)).mono ?_
  rintro e w1 ⟨kv', k, hk, hny, hlk', hlen, rfl, s1⟩
  rw [hw] at hk
  clear hw
  obtain ⟨g, cap, hlt, c1, c2, c3, put⟩ := slot_scope s1 hk
  obtain ⟨d0, d1, d2⟩ := (s1.row 1 rfl).cells3
  have S1 := Lib.hid s1; have Hlk' := Lib.hid hlk'; have Hk := Lib.hid hk; have Hny := Lib.hid hny
  clear s1 hny hlk' hk put
  have i1 : (k : Int) < (kv'.length : Int) := by omega
  have i0 : (0 : Int) ≤ (k : Int) := by omega
  go_wp2_with fail
  refine (rlog_scope S1.out who 3 l hm).mono ?_
  rintro e w2 ⟨rfl, s2⟩
  obtain ⟨g, cap, hlt, f1, f2, f3, put⟩ := slot_scope s2 Hk.out
  have Put := Lib.hid put
  clear s2 put d0 d1 d2 c1 c2 c3
  go_wp2_with fail
  go_ret
  exact ⟨rfl, set_after (τ := σ.put who 3 l) (Put.out now) Hk.out Hny.out (by omega) (by rw [Hlk'.out, Hlk.out]; rfl) rfl⟩

set_option maxHeartbeats 1000000 in
theorem rswap_no (who : Int) (l : Lc) (was now : Int) (hw : ¬ σ.num l = was) (hn : n ≤ 1000000) (hm : σ.log.length ≤ 1000000) : Does Try.prog [refA p n σ] 35 #[ptr p, .int .i64 who, l.val, .int .u64 was, .int .u64 now] (.bool false) [refA p (n + 1) (σ.put who 4 l)] := by
  intro w fp h
  obtain ⟨kv, hkv, hlk, hR⟩ := stars_one h
  have s0 : Scope fp w (w.alloc (.cells #[.int .i64 l.k, .int .i64 l.a, .int .i64 l.b] 23)) ([refB p σ.log kv] ++ [box w.heap.size [.int .i64 l.k, .int .i64 l.a, .int .i64 l.b] 23]) := (Scope.start (stars_mk1 (A := refB p σ.log kv) hR)).box [.int .i64 l.k, .int .i64 l.a, .int .i64 l.b] 23
  have S0 := Lib.hid s0; have Hlk := Lib.hid hlk
  rw [← hlk] at hw
  clear s0 hlk hR h
  unfold Lc.val
  go_enter Try.func35, Try.ntmps35
  go_wp2_with fail
  refine (place_scope S0.out l (by omega)).mono ?_
  rintro e w1 ⟨kv', k, hk, hny, hlk', hlen, rfl, s1⟩
  obtain ⟨g, cap, hlt, c1, c2, c3, put⟩ := slot_scope s1 hk
  obtain ⟨d0, d1, d2⟩ := (s1.row 1 rfl).cells3
  have S1 := Lib.hid s1; have Hlk' := Lib.hid hlk'; have Hk := Lib.hid hk; have Hny := Lib.hid hny
  clear s1 hny hlk' hk put
  have i1 : (k : Int) < (kv'.length : Int) := by omega
  have i0 : (0 : Int) ≤ (k : Int) := by omega
  go_wp2_with fail
  refine (rlog_scope S1.out who 4 l hm).mono ?_
  rintro e w2 ⟨rfl, s2⟩
  have S2 := Lib.hid s2
  clear s2 d0 d1 d2 c1 c2 c3
  go_wp2_with fail
  go_ret
  exact ⟨rfl, refA_after S2.out (by omega) (by rw [Hlk'.out, Hlk.out]; rfl) rfl⟩

theorem rswap_does (who : Int) (l : Lc) (was now : Int) (hn : n ≤ 1000000) (hm : σ.log.length ≤ 1000000) : Does Try.prog [refA p n σ] 35 #[ptr p, .int .i64 who, l.val, .int .u64 was, .int .u64 now] (.bool (decide (σ.num l = was))) [refA p (n + 1) (σ.swap who l was now)] := by
  unfold MS.swap
  by_cases hw : σ.num l = was
  · rw [if_pos hw, decide_eq_true hw]; exact rswap_yes who l was now hw hn hm
  · rw [if_neg hw, decide_eq_false hw]; exact rswap_no who l was now hw hn hm
theorem rlog_does (who kind : Int) (l : Lc) (hm : σ.log.length ≤ 1000000) : Does Try.prog [refA p n σ] 38 #[ptr p, .int .i64 who, .int .i64 kind, l.val] (.tuple #[]) [refA p n (σ.put who kind l)] := by
  intro w fp h
  obtain ⟨kv, hkv, hlk, hR⟩ := stars_one h
  refine (rlog_any hR who kind l hm).mono fun e w' ⟨h1, f, h2, h3, h4⟩ => ⟨h1, After.intro1 ⟨f, ⟨kv, hkv, hlk, h2⟩, h3, h4⟩⟩
end
end Go.Proofs.Ytcbipbnomgdklaa
