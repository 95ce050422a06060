/- PostOrder: while asks and results are handed over by their states no access of them races with another. -/
import Derived.Test.YtjipjhmcpjffcacOrdE
set_option linter.unusedSimpArgs false
set_option linter.unusedVariables false
set_option maxRecDepth 20000
namespace Go.Proofs.Ytjipjhmcpjffcac
open Go Go.RowKit Go.Maps

/-! ### the plain law -/
/-- The accesses of one round: asker j, server w. -/
def rnd (j w : Int) : List Ev := [⟨j, 6, argL j⟩, ⟨j, 2, reqL j⟩, ⟨w, 3, lockL⟩, ⟨j, 4, lockL⟩, ⟨w, 1, reqL j⟩, ⟨w, 5, argL j⟩, ⟨w, 6, resL j⟩, ⟨w, 2, reqL j⟩, ⟨w, 2, lockL⟩, ⟨j, 1, reqL j⟩, ⟨j, 5, resL j⟩]
def evR (rs : List (Int × Int)) : List Ev := rs.flatMap fun p => rnd p.1 p.2
theorem rnd_len (j w : Int) : (rnd j w).length = 11 := rfl
theorem evR_len (rs : List (Int × Int)) : (evR rs).length = 11 * rs.length := by
  unfold evR
  induction rs with
  | nil => rfl
  | cons p rs ih => simp [rnd_len, ih]; omega
theorem evR_snoc (rs : List (Int × Int)) (j w : Int) : evR (rs ++ [(j, w)]) = evR rs ++ rnd j w := by simp [evR]
theorem evR_get : ∀ (rs : List (Int × Int)) (r : Nat) (j w : Int) (t : Nat), rs[r]? = some (j, w) → t < 11 → (evR rs)[11 * r + t]? = (rnd j w)[t]? := by
  intro rs
  induction rs with
  | nil => intro r j w t h; simp at h
  | cons p rs ih =>
    intro r j w t h ht
    have e : evR (p :: rs) = rnd p.1 p.2 ++ evR rs := by simp [evR]
    cases r with
    | zero => simp at h; subst h; rw [e, Nat.mul_zero, Nat.zero_add, List.getElem?_append_left (by rw [rnd_len]; exact ht)]
    | succ r =>
      rw [e, List.getElem?_append_right (by rw [rnd_len]; omega), rnd_len, show 11 * (r + 1) + t - 11 = 11 * r + t by omega]
      exact ih r j w t (by simpa using h) ht
theorem rnd_get {j w : Int} {t : Nat} {x : Ev} (h : (rnd j w)[t]? = some x) (hk : x.loc.k = 6 ∨ x.loc.k = 7) : (t = 0 ∧ x = ⟨j, 6, argL j⟩) ∨ (t = 5 ∧ x = ⟨w, 5, argL j⟩) ∨ (t = 6 ∧ x = ⟨w, 6, resL j⟩) ∨ (t = 10 ∧ x = ⟨j, 5, resL j⟩) := by
  have ht : t < 11 := by have := (List.getElem?_eq_some_iff.1 h).1; rwa [rnd_len] at this
  have hc : t = 0 ∨ t = 1 ∨ t = 2 ∨ t = 3 ∨ t = 4 ∨ t = 5 ∨ t = 6 ∨ t = 7 ∨ t = 8 ∨ t = 9 ∨ t = 10 := by omega
  rcases hc with rfl | rfl | rfl | rfl | rfl | rfl | rfl | rfl | rfl | rfl | rfl <;> simp [rnd] at h <;> subst h <;> simp_all
theorem rnd_kind {j w : Int} {t : Nat} {x : Ev} (h : (rnd j w)[t]? = some x) : 5 ≤ x.kind → x.loc.k = 6 ∨ x.loc.k = 7 := by
  have ht : t < 11 := by have := (List.getElem?_eq_some_iff.1 h).1; rwa [rnd_len] at this
  have hc : t = 0 ∨ t = 1 ∨ t = 2 ∨ t = 3 ∨ t = 4 ∨ t = 5 ∨ t = 6 ∨ t = 7 ∨ t = 8 ∨ t = 9 ∨ t = 10 := by omega
  rcases hc with rfl | rfl | rfl | rfl | rfl | rfl | rfl | rfl | rfl | rfl | rfl <;> simp [rnd] at h <;> subst h <;> simp
theorem evR_at {rs : List (Int × Int)} {i : Nat} {x : Ev} (h : (evR rs)[i]? = some x) : ∃ r t j w, i = 11 * r + t ∧ t < 11 ∧ rs[r]? = some (j, w) ∧ (rnd j w)[t]? = some x := by
  have hl := (List.getElem?_eq_some_iff.1 h).1
  rw [evR_len] at hl
  have hr : i / 11 < rs.length := by omega
  obtain ⟨⟨j, w⟩, hjw⟩ : ∃ p, rs[i / 11]? = some p := ⟨_, List.getElem?_eq_getElem hr⟩
  have ht : i % 11 < 11 := by omega
  have e := evR_get rs (i / 11) j w (i % 11) hjw ht
  rw [show 11 * (i / 11) + i % 11 = i by omega, h] at e
  exact ⟨i / 11, i % 11, j, w, by omega, ht, hjw, e.symm⟩
/-- Each conflict's clocks are ahead of each other. -/
theorem order_good (rs : List (Int × Int)) (cs : List (List Int)) (h : ClkInv (evR rs) cs (evR rs).length) (i m : Nat) (x y : Ev) (him : i < m) (hx : (evR rs)[i]? = some x) (hy : (evR rs)[m]? = some y) (hc : cfB x y = true) : le' (cs.getD i []) (cs.getD m []) := by
  obtain ⟨hw, hloc, hpl, hwr⟩ := of_decide_eq_true hc
  obtain ⟨r, t, j, w, rfl, ht, hr, ex⟩ := evR_at hx
  obtain ⟨r', t', j', w', rfl, ht', hr', ey⟩ := evR_at hy
  have hlen : ∀ (a b : Nat) (p : Int × Int), rs[a]? = some p → b < 11 → 11 * a + b < (evR rs).length := fun a b p ha hb => by
    have := (List.getElem?_eq_some_iff.1 ha).1
    rw [evR_len]
    omega
  have at_ : ∀ (a b : Nat) (p : Int × Int), rs[a]? = some p → b < 11 → (evR rs)[11 * a + b]? = (rnd p.1 p.2)[b]? := fun a b p ha hb => evR_get rs a p.1 p.2 b ha hb
  have own : ∀ (a b a' b' : Nat) (p p' : Int × Int) (u v : Ev), rs[a]? = some p → rs[a']? = some p' → b < 11 → b' < 11 → 11 * a + b < 11 * a' + b' → (rnd p.1 p.2)[b]? = some u → (rnd p'.1 p'.2)[b']? = some v → u.who = v.who → le' (cs.getD (11 * a + b) []) (cs.getD (11 * a' + b') []) :=
    fun a b a' b' p p' u v ha ha' hb hb' hlt hu hv huv => h.own _ _ v u hlt (hlen a' b' p' ha' hb') (by rw [at_ a' b' p' ha' hb', hv]) (by rw [at_ a b p ha hb, hu]) huv
  have f1 : ∀ (a : Nat) (p : Int × Int), rs[a]? = some p → le' (cs.getD (11 * a + 1) []) (cs.getD (11 * a + 4) []) := fun a p ha =>
    h.fnd (11 * a + 4) (11 * a + 1) ⟨p.2, 1, reqL p.1⟩ ⟨p.1, 2, reqL p.1⟩ (by omega) (hlen a 4 p ha (by omega)) (by rw [at_ a 4 p ha (by omega)]; rfl) (by rw [at_ a 1 p ha (by omega)]; rfl) (.inl rfl) rfl (.inl rfl) (fun k z h1 h2 hz => by
      have hk : k = 11 * a + 2 ∨ k = 11 * a + 3 := by omega
      rcases hk with rfl | rfl
      · rw [at_ a 2 p ha (by omega)] at hz; simp [rnd] at hz; subst hz; simp
      · rw [at_ a 3 p ha (by omega)] at hz; simp [rnd] at hz; subst hz; simp)
  have f2 : ∀ (a : Nat) (p : Int × Int), rs[a]? = some p → le' (cs.getD (11 * a + 7) []) (cs.getD (11 * a + 9) []) := fun a p ha =>
    h.fnd (11 * a + 9) (11 * a + 7) ⟨p.1, 1, reqL p.1⟩ ⟨p.2, 2, reqL p.1⟩ (by omega) (hlen a 9 p ha (by omega)) (by rw [at_ a 9 p ha (by omega)]; rfl) (by rw [at_ a 7 p ha (by omega)]; rfl) (.inl rfl) rfl (.inl rfl) (fun k z h1 h2 hz => by
      have hk : k = 11 * a + 8 := by omega
      subst hk
      rw [at_ a 8 p ha (by omega)] at hz; simp [rnd] at hz; subst hz; simp)
  have hk6 : (x.loc.k = 6 ∨ x.loc.k = 7) ∧ (y.loc.k = 6 ∨ y.loc.k = 7) := by
    rcases hpl with h5 | h5
    · have := rnd_kind ex h5; exact ⟨this, hloc ▸ this⟩
    · have := rnd_kind ey h5; exact ⟨hloc ▸ this, this⟩
  rcases rnd_get ex hk6.1 with ⟨rfl, rfl⟩ | ⟨rfl, rfl⟩ | ⟨rfl, rfl⟩ | ⟨rfl, rfl⟩ <;> rcases rnd_get ey hk6.2 with ⟨rfl, rfl⟩ | ⟨rfl, rfl⟩ | ⟨rfl, rfl⟩ | ⟨rfl, rfl⟩ <;> simp [wrB] at hloc hw hwr
  · exact absurd hloc hw
  · subst hloc
    exact (own r 0 r' 1 _ _ _ _ hr hr' (by omega) (by omega) (by omega) rfl rfl rfl).trans ((f1 r' _ hr').trans (own r' 4 r' 5 _ _ _ _ hr' hr' (by omega) (by omega) (by omega) rfl rfl rfl))
  · subst hloc
    exact (own r 5 r 7 _ _ _ _ hr hr (by omega) (by omega) (by omega) rfl rfl rfl).trans ((f2 r _ hr).trans (own r 9 r' 0 _ _ _ _ hr hr' (by omega) (by omega) (by omega) rfl rfl rfl))
  · subst hloc
    exact (own r 6 r 7 _ _ _ _ hr hr (by omega) (by omega) (by omega) rfl rfl rfl).trans ((f2 r _ hr).trans ((own r 9 r' 1 _ _ _ _ hr hr' (by omega) (by omega) (by omega) rfl rfl rfl).trans ((f1 r' _ hr').trans (own r' 4 r' 6 _ _ _ _ hr' hr' (by omega) (by omega) (by omega) rfl rfl rfl))))
  · subst hloc
    exact (own r 6 r 7 _ _ _ _ hr hr (by omega) (by omega) (by omega) rfl rfl rfl).trans ((f2 r _ hr).trans (own r 9 r' 10 _ _ _ _ hr hr' (by omega) (by omega) (by omega) rfl rfl rfl))
  · subst hloc
    exact (own r 10 r' 1 _ _ _ _ hr hr' (by omega) (by omega) (by omega) rfl rfl rfl).trans ((f1 r' _ hr').trans (own r' 4 r' 6 _ _ _ _ hr' hr' (by omega) (by omega) (by omega) rfl rfl rfl))
def goodR (rs : List (Int × Int)) : Prop := ∀ p, p ∈ rs → 0 ≤ p.1 ∧ p.1 < 4 ∧ 0 ≤ p.2 ∧ p.2 < 4
theorem order_ok {rs : List (Int × Int)} (h : goodR rs) : okEv (evR rs) := by
  intro x hx
  unfold evR at hx
  obtain ⟨p, hp, hx⟩ := List.mem_flatMap.1 hx
  obtain ⟨h1, h2, h3, h4⟩ := h p hp
  simp [rnd] at hx
  rcases hx with rfl | rfl | rfl | rfl | rfl | rfl | rfl | rfl | rfl | rfl | rfl <;> (simp; omega)

/-! ### the walk -/
@[go_sem] theorem field_cl0 (b c d : Value) (n : Int) (w : World) : (Instr.field 32 (.agg #[.int .i64 n, b, c, d]) 0).run Try.prog w = .ok (.int .i64 n) w := by kernel_rfl
/-- What is known of the memory: its events, the state of ask j, the lock. -/
structure Tr (σ : MS) (l : List Ev) (j rq lk : Int) : Prop where
  log : σ.log = l
  rq : σ.num (reqL j) = rq
  lk : σ.num lockL = lk
section
variable {σ : MS} {l : List Ev} {j a b : Int}
theorem Tr.put (h : Tr σ l j a b) (who k : Int) (loc : Lc) : Tr (σ.put who k loc) (l ++ [⟨who, k, loc⟩]) j a b := ⟨by simp [MS.put, h.log], h.rq, h.lk⟩
theorem Tr.req (h : Tr σ l j a b) (v : Int) : Tr (σ.set (reqL j) v) l j v b := ⟨h.log, by simp [MS.set], by simp [MS.set]; exact h.lk⟩
theorem Tr.lock (h : Tr σ l j a b) (v : Int) : Tr (σ.set lockL v) l j a v := ⟨h.log, by simp [MS.set]; exact h.rq, by simp [MS.set]⟩
theorem Tr.try0 (h : Tr σ l j a 0) (who : Int) : Tr (σ.swap who lockL 0 1) (l ++ [⟨who, 3, lockL⟩]) j a 1 := by
  unfold MS.swap
  rw [if_pos h.lk]
  exact (h.put who 3 lockL).lock 1
theorem Tr.try1 (h : Tr σ l j a 1) (who : Int) : Tr (σ.swap who lockL 0 1) (l ++ [⟨who, 4, lockL⟩]) j a 1 := by
  unfold MS.swap
  rw [if_neg (by rw [h.lk]; decide)]
  exact h.put who 4 lockL
theorem Tr.le (h : Tr σ l j a b) {k : Nat} (hk : l.length ≤ k) : σ.log.length ≤ k := by rw [h.log]; exact hk
end

set_option maxHeartbeats 8000000 in
set_option maxRecDepth 20000 in
theorem postOrder_row {w : World} (a : Int) (v1 : Value) (LA : List Int) (v2 : Value) (LS : List Int) (ha : I64 a) (_ : ∀ n, n ∈ LA → I64 n) (h1 : NumsAt .i64 w v1 LA) (_ : ∀ n, n ∈ LS → I64 n) (h2 : NumsAt .i64 w v2 LS) :
    Calls Try.prog 7 #[.int .i64 a, v1, v2] w fun e w' => e = .returned (.bool true) ∧ Below w.heap.size w w' := by
  obtain ⟨oa, cp, rfl, hlc, hcm, hel⟩ := h1.form
  obtain ⟨ob, cq, rfl, hlr, hcr, her⟩ := h2.form
  obtain ⟨NA, hNA⟩ : ∃ N, N = LA.length := ⟨_, rfl⟩
  obtain ⟨NS', hNS⟩ : ∃ N, N = LS.length := ⟨_, rfl⟩
  rw [← hNA] at hlc ⊢
  rw [← hNS] at hlr ⊢
  have HelA := Lib.hid hel; have HelS := Lib.hid her; have HNA := Lib.hid hNA; have HNS := Lib.hid hNS; have S0 := Lib.hid (Scope.empty w)
  have hmA : NA ≤ 9223372036854775807 := by unfold maxLen at hcm; omega
  have hmS : NS' ≤ 9223372036854775807 := by unfold maxLen at hcr; omega
  clear hel her hNA hNS hcm hcr hlc hlr h1 h2
  go_enter Try.func7, Try.ntmps7
  go_wp2_with fail
  refine (made20_scope S0.out a).mono ?_
  rintro e w1 ⟨m, p, ba, br, q, x, rfl, s1⟩
  have S1 := Lib.hid s1
  clear s1
  generalize cl6 a = W at S1 ⊢
  go_wp2_with fail
  refine (awake20_scope S1.out).mono ?_
  rintro e w2 ⟨rfl, s2⟩
  have S2 := Lib.hid s2
  clear s2 S1
  go_wp2_with fail
  go_loopw [10] (fun i wr => ∃ (k : Nat) (σ : MS) (KC : List (Int × Cl)) (JR : List (Int × Rt)) (rs : List (Int × Int)), k ≤ NA ∧ k ≤ 20 ∧ i = .int .i64 k ∧ rs.length = k ∧ goodR rs ∧ σ.log = evR rs ∧ σ.num lockL = 0 ∧ Scope [] w wr (postA p m ba br W σ KC JR :: ([] ++ [refA x 0 MS.zero] ++ [box q [ptr x, .int .i64 W, .slice none 0 0, .slice none 0 0, .slice none 0 0, .slice none 0 0] 59]))) (fun i _ => NA - (intOf i).toNat)
  case atStart => exact ⟨0, MS.zero, [], [], [], by omega, by omega, rfl, rfl, fun p h => (by cases h), rfl, rfl, S2.out⟩
  case round =>
    obtain ⟨k, σ, KC, JR, rs, hk, hk2, rfl, hrs, hgd, hlog, hlk, hs⟩ := hrel
    have Sr := Lib.hid hs; have Hrs := Lib.hid hrs; have Hgd := Lib.hid hgd; have Hlog := Lib.hid hlog; have Hlk := Lib.hid hlk
    clear hs hrs hgd hlog hlk S2
    by_cases hlt : k < NA
    · by_cases h20 : k < 20
      · obtain ⟨x0, hx⟩ : ∃ u, LA[k]? = some u := ⟨_, List.getElem?_eq_getElem (by rw [← HNA.out]; exact hlt)⟩
        obtain ⟨g, off, rfl, hc⟩ := HelA.out k x0 hx
        have c0 := hc wr Sr.out.1
        have i1 : (k : Int) < (NA : Int) := by omega
        have i0 : (0 : Int) ≤ (k : Int) := by omega
        have i20 : (k : Int) < 20 := by omega
        have ik := Lib.hid (show I64 (k : Int) from by unfold I64; omega)
        obtain ⟨jb0, jb1⟩ := mod_lt x0 (n := 4) (by omega)
        obtain ⟨j, hj⟩ : ∃ j, j = mod x0 4 := ⟨_, rfl⟩
        rw [← hj] at jb0 jb1
        have Hj := Lib.hid hj
        have ij := Lib.hid (show I64 j from by unfold I64; omega)
        have hll : (evR rs).length ≤ 220 := by rw [evR_len, Hrs.out]; omega
        have T0 := Lib.hid (show Tr σ (evR rs) j (σ.num (reqL j)) 0 from ⟨Hlog.out, rfl, Hlk.out⟩)
        clear hx hc hj
        go_wp2_with fail
        refine (mod_any (v := x0) (n := 4) (by omega) (by omega) _).mono ?_
        rintro e w3 ⟨he, rfl⟩
        rw [← Hj.out] at he
        subst he
        clear c0
        by_cases hs2 : k < NS'
        · obtain ⟨y0, hy⟩ : ∃ u, LS[k]? = some u := ⟨_, List.getElem?_eq_getElem (by rw [← HNS.out]; exact hs2)⟩
          obtain ⟨g', off', rfl, hc'⟩ := HelS.out k y0 hy
          have c1 := hc' _ Sr.out.1
          have i2 : (k : Int) < (NS' : Int) := by omega
          obtain ⟨wb0, wb1⟩ := mod_lt y0 (n := 4) (by omega)
          obtain ⟨sv, hsv⟩ : ∃ j, j = mod y0 4 := ⟨_, rfl⟩
          rw [← hsv] at wb0 wb1
          have Hsv := Lib.hid hsv
          clear hy hc' hsv
          go_wp2_with fail
          refine (mod_any (v := y0) (n := 4) (by omega) (by omega) _).mono ?_
          rintro e w3 ⟨he, rfl⟩
          rw [← Hsv.out] at he
          subst he
          clear c1
          have is := Lib.hid (show I64 sv from by unfold I64; omega)
          go_wp2_with fail
          refine ((pask_does j ⟨(k : Int), 0, 0, 0⟩ ij.out (T0.out.le (by (try simp only [List.length_append, List.length_cons, List.length_nil]); omega))).at0 Sr.out).mono ?_
          rintro e v1 ⟨rfl, s1⟩
          have T1 := Lib.hid (T0.out.put j 6 (argL j)); have S1 := Lib.hid s1
          clear s1
          generalize σ.put j 6 (argL j) = σ1 at S1 T1
          go_wp2_with fail
          refine ((psend_does j ij.out (T1.out.le (by (try simp only [List.length_append, List.length_cons, List.length_nil]); omega))).at0 S1.out).mono ?_
          rintro e v2 ⟨rfl, s2⟩
          have T2 := Lib.hid ((T1.out.put j 2 (reqL j)).req 1); have S2 := Lib.hid s2
          clear s2
          generalize (σ1.put j 2 (reqL j)).set (reqL j) 1 = σ2 at S2 T2
          go_wp2_with fail
          refine ((ptry_does sv (T2.out.le (by (try simp only [List.length_append, List.length_cons, List.length_nil]); omega))).at0 S2.out).mono ?_
          rintro e v3 ⟨he, s3⟩
          rw [show decide (_ = (0 : Int)) = true from by rw [T2.out.lk]; rfl] at he
          subst he
          have T3 := Lib.hid (T2.out.try0 sv); have S3 := Lib.hid s3
          clear s3
          generalize σ2.swap sv lockL 0 1 = σ3 at S3 T3
          go_wp2_with fail
          refine ((ptry_does j (T3.out.le (by (try simp only [List.length_append, List.length_cons, List.length_nil]); omega))).at0 S3.out).mono ?_
          rintro e v4 ⟨he, s4⟩
          rw [show decide (_ = (0 : Int)) = false from by rw [T3.out.lk]; rfl] at he
          subst he
          have T4 := Lib.hid (T3.out.try1 j); have S4 := Lib.hid s4
          clear s4
          generalize σ3.swap j lockL 0 1 = σ4 at S4 T4
          go_wp2_with fail
          refine ((pstate_does sv j ij.out (T4.out.le (by (try simp only [List.length_append, List.length_cons, List.length_nil]); omega))).at0 S4.out).mono ?_
          rintro e v5 ⟨he, s5⟩
          rw [T4.out.rq] at he
          subst he
          have T5 := Lib.hid (T4.out.put sv 1 (reqL j)); have S5 := Lib.hid s5
          clear s5
          generalize σ4.put sv 1 (reqL j) = σ5 at S5 T5
          go_wp2_with fail
          refine ((parg_does sv j ij.out (T5.out.le (by (try simp only [List.length_append, List.length_cons, List.length_nil]); omega))).at0 S5.out).mono ?_
          rintro e v6 ⟨he, s6⟩
          rw [lastOf_snoc, if_pos rfl] at he
          subst he
          have T6 := Lib.hid (T5.out.put sv 5 (argL j)); have S6 := Lib.hid s6
          clear s6
          generalize σ5.put sv 5 (argL j) = σ6 at S6 T6
          go_wp2_with fail
          refine (panswer_scope sv j ⟨0, [], (k : Int), 0⟩ (.slice none 0 0) S6.out ij.out (fun _ _ _ => .inl ⟨rfl, rfl⟩) (by unfold few'; simp) (T6.out.le (by (try simp only [List.length_append, List.length_cons, List.length_nil]); omega))).mono ?_
          rintro e v7 ⟨rfl, s7⟩
          have T7 := Lib.hid (T6.out.put sv 6 (resL j)); have S7 := Lib.hid s7
          clear s7
          generalize σ6.put sv 6 (resL j) = σ7 at S7 T7
          go_wp2_with fail
          refine ((pready_does sv j ij.out (T7.out.le (by (try simp only [List.length_append, List.length_cons, List.length_nil]); omega))).at0 S7.out).mono ?_
          rintro e v8 ⟨rfl, s8⟩
          have T8 := Lib.hid ((T7.out.put sv 2 (reqL j)).req 2); have S8 := Lib.hid s8
          clear s8
          generalize (σ7.put sv 2 (reqL j)).set (reqL j) 2 = σ8 at S8 T8
          go_wp2_with fail
          refine ((pleave_does sv (T8.out.le (by (try simp only [List.length_append, List.length_cons, List.length_nil]); omega))).at0 S8.out).mono ?_
          rintro e v9 ⟨rfl, s9⟩
          have T9 := Lib.hid ((T8.out.put sv 2 lockL).lock 0); have S9 := Lib.hid s9
          clear s9
          generalize (σ8.put sv 2 lockL).set lockL 0 = σ9 at S9 T9
          go_wp2_with fail
          refine ((pstate_does j j ij.out (T9.out.le (by (try simp only [List.length_append, List.length_cons, List.length_nil]); omega))).at0 S9.out).mono ?_
          rintro e v10 ⟨he, s10⟩
          rw [T9.out.rq] at he
          subst he
          have T10 := Lib.hid (T9.out.put j 1 (reqL j)); have S10 := Lib.hid s10
          clear s10
          generalize σ9.put j 1 (reqL j) = σ10 at S10 T10
          go_wp2_with fail
          refine (presult_scope j S10.out ij.out (T10.out.le (by (try simp only [List.length_append, List.length_cons, List.length_nil]); omega))).mono ?_
          rintro e v11 ⟨cv, ov, he, s11⟩
          rw [lastOf_snoc, if_pos rfl] at he s11
          have he := he.trans (congrArg Ending.returned (show Rt.val (⟨0, [], (k : Int), 0⟩ : Rt) (.slice ov 0 cv) = .agg #[.int .i64 0, .slice ov 0 cv, .int .i64 (k : Int), .int .u64 0] from rfl))
          subst he
          have T11 := Lib.hid (T10.out.put j 5 (resL j)); have S11 := Lib.hid s11.tail1
          clear s11
          generalize σ10.put j 5 (resL j) = σ11 at S11 T11
          go_wp2_with fail
          go_roundw
          case rel => exact ⟨k + 1, σ11, _, _, rs ++ [(j, sv)], by omega, by omega, by go_num, by simp [Hrs.out], fun p hp => (by
            rcases List.mem_append.1 hp with hp | hp
            · exact Hgd.out p hp
            · simp at hp; subst hp; exact ⟨jb0, jb1, wb0, wb1⟩), by rw [T11.out.log, evR_snoc]; simp [rnd], T11.out.lk, S11.out⟩
          case measure => simp [intOf]; omega
        · have i2 : (NS' : Int) ≤ (k : Int) := by omega
          have wb0 : (0 : Int) ≤ 0 := by omega
          have wb1 : (0 : Int) < 4 := by omega
          have is := Lib.hid (show I64 0 from by unfold I64; omega)
          go_wp2_with fail
          refine ((pask_does j ⟨(k : Int), 0, 0, 0⟩ ij.out (T0.out.le (by (try simp only [List.length_append, List.length_cons, List.length_nil]); omega))).at0 Sr.out).mono ?_
          rintro e v1 ⟨rfl, s1⟩
          have T1 := Lib.hid (T0.out.put j 6 (argL j)); have S1 := Lib.hid s1
          clear s1
          generalize σ.put j 6 (argL j) = σ1 at S1 T1
          go_wp2_with fail
          refine ((psend_does j ij.out (T1.out.le (by (try simp only [List.length_append, List.length_cons, List.length_nil]); omega))).at0 S1.out).mono ?_
          rintro e v2 ⟨rfl, s2⟩
          have T2 := Lib.hid ((T1.out.put j 2 (reqL j)).req 1); have S2 := Lib.hid s2
          clear s2
          generalize (σ1.put j 2 (reqL j)).set (reqL j) 1 = σ2 at S2 T2
          go_wp2_with fail
          refine ((ptry_does 0 (T2.out.le (by (try simp only [List.length_append, List.length_cons, List.length_nil]); omega))).at0 S2.out).mono ?_
          rintro e v3 ⟨he, s3⟩
          rw [show decide (_ = (0 : Int)) = true from by rw [T2.out.lk]; rfl] at he
          subst he
          have T3 := Lib.hid (T2.out.try0 0); have S3 := Lib.hid s3
          clear s3
          generalize σ2.swap 0 lockL 0 1 = σ3 at S3 T3
          go_wp2_with fail
          refine ((ptry_does j (T3.out.le (by (try simp only [List.length_append, List.length_cons, List.length_nil]); omega))).at0 S3.out).mono ?_
          rintro e v4 ⟨he, s4⟩
          rw [show decide (_ = (0 : Int)) = false from by rw [T3.out.lk]; rfl] at he
          subst he
          have T4 := Lib.hid (T3.out.try1 j); have S4 := Lib.hid s4
          clear s4
          generalize σ3.swap j lockL 0 1 = σ4 at S4 T4
          go_wp2_with fail
          refine ((pstate_does 0 j ij.out (T4.out.le (by (try simp only [List.length_append, List.length_cons, List.length_nil]); omega))).at0 S4.out).mono ?_
          rintro e v5 ⟨he, s5⟩
          rw [T4.out.rq] at he
          subst he
          have T5 := Lib.hid (T4.out.put 0 1 (reqL j)); have S5 := Lib.hid s5
          clear s5
          generalize σ4.put 0 1 (reqL j) = σ5 at S5 T5
          go_wp2_with fail
          refine ((parg_does 0 j ij.out (T5.out.le (by (try simp only [List.length_append, List.length_cons, List.length_nil]); omega))).at0 S5.out).mono ?_
          rintro e v6 ⟨he, s6⟩
          rw [lastOf_snoc, if_pos rfl] at he
          subst he
          have T6 := Lib.hid (T5.out.put 0 5 (argL j)); have S6 := Lib.hid s6
          clear s6
          generalize σ5.put 0 5 (argL j) = σ6 at S6 T6
          go_wp2_with fail
          refine (panswer_scope 0 j ⟨0, [], (k : Int), 0⟩ (.slice none 0 0) S6.out ij.out (fun _ _ _ => .inl ⟨rfl, rfl⟩) (by unfold few'; simp) (T6.out.le (by (try simp only [List.length_append, List.length_cons, List.length_nil]); omega))).mono ?_
          rintro e v7 ⟨rfl, s7⟩
          have T7 := Lib.hid (T6.out.put 0 6 (resL j)); have S7 := Lib.hid s7
          clear s7
          generalize σ6.put 0 6 (resL j) = σ7 at S7 T7
          go_wp2_with fail
          refine ((pready_does 0 j ij.out (T7.out.le (by (try simp only [List.length_append, List.length_cons, List.length_nil]); omega))).at0 S7.out).mono ?_
          rintro e v8 ⟨rfl, s8⟩
          have T8 := Lib.hid ((T7.out.put 0 2 (reqL j)).req 2); have S8 := Lib.hid s8
          clear s8
          generalize (σ7.put 0 2 (reqL j)).set (reqL j) 2 = σ8 at S8 T8
          go_wp2_with fail
          refine ((pleave_does 0 (T8.out.le (by (try simp only [List.length_append, List.length_cons, List.length_nil]); omega))).at0 S8.out).mono ?_
          rintro e v9 ⟨rfl, s9⟩
          have T9 := Lib.hid ((T8.out.put 0 2 lockL).lock 0); have S9 := Lib.hid s9
          clear s9
          generalize (σ8.put 0 2 lockL).set lockL 0 = σ9 at S9 T9
          go_wp2_with fail
          refine ((pstate_does j j ij.out (T9.out.le (by (try simp only [List.length_append, List.length_cons, List.length_nil]); omega))).at0 S9.out).mono ?_
          rintro e v10 ⟨he, s10⟩
          rw [T9.out.rq] at he
          subst he
          have T10 := Lib.hid (T9.out.put j 1 (reqL j)); have S10 := Lib.hid s10
          clear s10
          generalize σ9.put j 1 (reqL j) = σ10 at S10 T10
          go_wp2_with fail
          refine (presult_scope j S10.out ij.out (T10.out.le (by (try simp only [List.length_append, List.length_cons, List.length_nil]); omega))).mono ?_
          rintro e v11 ⟨cv, ov, he, s11⟩
          rw [lastOf_snoc, if_pos rfl] at he s11
          have he := he.trans (congrArg Ending.returned (show Rt.val (⟨0, [], (k : Int), 0⟩ : Rt) (.slice ov 0 cv) = .agg #[.int .i64 0, .slice ov 0 cv, .int .i64 (k : Int), .int .u64 0] from rfl))
          subst he
          have T11 := Lib.hid (T10.out.put j 5 (resL j)); have S11 := Lib.hid s11.tail1
          clear s11
          generalize σ10.put j 5 (resL j) = σ11 at S11 T11
          go_wp2_with fail
          go_roundw
          case rel => exact ⟨k + 1, σ11, _, _, rs ++ [(j, 0)], by omega, by omega, by go_num, by simp [Hrs.out], fun p hp => (by
            rcases List.mem_append.1 hp with hp | hp
            · exact Hgd.out p hp
            · simp at hp; subst hp; exact ⟨jb0, jb1, wb0, wb1⟩), by rw [T11.out.log, evR_snoc]; simp [rnd], T11.out.lk, S11.out⟩
          case measure => simp [intOf]; omega
      · have e20 : k = 20 := by omega
        subst e20
        go_wp2_with fail
        have hlen : σ.log.length ≤ 1000 := by rw [Hlog.out, evR_len, Hrs.out]; omega
        obtain ⟨F, hq1⟩ := Sr.out.exo
        refine (events0 hq1.open1 (by omega)).mono ?_
        rintro e w5 ⟨v5, rfl, o5, c5, _⟩
        have hev := EvF.of (EvSlice.of_owns o5)
        rw [Hlog.out] at hev
        have Hev := Lib.hid hev; have C5 := Lib.hid (Sr.out.quiet c5)
        clear hq1 o5 c5 hev
        go_wp2_with fail
        refine (first_any Hev.out (order_ok Hgd.out) (by rw [← Hlog.out]; exact hlen) (order_good rs)).mono ?_
        rintro e w6 ⟨rfl, c6⟩
        have C6 := Lib.hid (C5.out.quiet c6)
        clear c6
        go_wp2
        go_ret
        exact ⟨rfl, C6.out.below⟩
    · have ek : k = NA := by omega
      have ek' : (NA : Int) ≤ (k : Int) := by omega
      clear ek
      go_wp2_with fail
      have hlen : σ.log.length ≤ 1000 := by rw [Hlog.out, evR_len, Hrs.out]; omega
      obtain ⟨F, hq1⟩ := Sr.out.exo
      refine (events0 hq1.open1 (by omega)).mono ?_
      rintro e w5 ⟨v5, rfl, o5, c5, _⟩
      have hev := EvF.of (EvSlice.of_owns o5)
      rw [Hlog.out] at hev
      have Hev := Lib.hid hev; have C5 := Lib.hid (Sr.out.quiet c5)
      clear hq1 o5 c5 hev
      go_wp2_with fail
      refine (first_any Hev.out (order_ok Hgd.out) (by rw [← Hlog.out]; exact hlen) (order_good rs)).mono ?_
      rintro e w6 ⟨rfl, c6⟩
      have C6 := Lib.hid (C5.out.quiet c6)
      clear c6
      go_wp2
      go_ret
      exact ⟨rfl, C6.out.below⟩
end Go.Proofs.Ytjipjhmcpjffcac
