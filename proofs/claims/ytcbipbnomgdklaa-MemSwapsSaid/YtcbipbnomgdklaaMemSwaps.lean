/- MemSwaps: of any swaps of one number, one is done just if the number is what it was told to be. -/
import Derived.Test.YtcbipbnomgdklaaUses
namespace Go.Proofs.Ytcbipbnomgdklaa
open Go Go.RowKit Go.Maps

def four (n : Int) : Int := few n % 4
theorem four_lt (n : Int) : 0 ≤ four n ∧ four n < 4 := ⟨Int.emod_nonneg _ (by omega), Int.emod_lt_of_pos _ (by omega)⟩
theorem four_u (n : Int) : U64 (four n) := by
  have := four_lt n
  unfold U64
  omega
theorem four_tmod {n : Int} (h : U64 n) : (few n).tmod 4 = four n := Int.tmod_eq_emod_of_nonneg (few_u h).1

theorem Scope.nil1 {S : List Nat} {w0 w : World} {X Y : HA} (h : Scope S w0 w [X, Y]) (t : TypeId) (size : Nat) : Scope S w0 w [X, ownA (.slice none 0 0) t size 0 [], Y] := by
  obtain ⟨c, fp, ⟨f, g, h1, h2, h3, h4⟩, h5⟩ := h
  exact ⟨c, fp, ⟨f, g, h1, ⟨[], g, ⟨⟨by simp, .inl ⟨rfl, rfl⟩⟩, rfl⟩, h2, fun _ h => by (cases h), rfl⟩, h3, h4⟩, h5⟩
theorem Scope.grow1 {S : List Nat} {w0 w w' : World} {X : HA} {Bs : List HA} {v v' : Value} {t : TypeId} {size n n' : Nat} {xs xs' : List Value} (h : Scope S w0 w (X :: ownA v t size n xs :: Bs))
    (ho : w'.ownsRow 0 t size v' n' xs') (hg : w.grownBy w' v.ownBlock) (ha : v'.ownBlock = v.ownBlock ∨ v'.ownBlock = some w.heap.size) : Scope S w0 w' (X :: ownA v' t size n' xs' :: Bs) := by
  obtain ⟨f, hf, hd⟩ := Scope.does (As := [ownA v t size n xs]) (Bs := X :: Bs) h.swap2
  obtain ⟨hr, rfl⟩ := stars_one hf
  have := hd [ownA v' t size n' xs'] w' (After.intro1 ⟨v'.ownBlock.toList, ⟨ho, rfl⟩, (Chg.refl _ _).grown hg (fun k hk => .inl (by simp [hk])), fun k hk => ?_⟩)
  · exact Scope.swap2 this
  · rcases ha with ha | ha
    · rw [ha] at hk; exact .inl hk
    · rw [ha] at hk; simp at hk; exact .inr (by omega)

set_option maxHeartbeats 8000000 in
set_option maxRecDepth 20000 in
theorem memSwaps_row {w : World} (l : Lc) (v1 : Value) (A : List Int) (v2 : Value) (B : List Int) (hl : l.wf) (hA : ∀ n, n ∈ A → U64 n) (eA : NumsAt .u64 w v1 A) (hB : ∀ n, n ∈ B → U64 n) (eB : NumsAt .u64 w v2 B) :
    Calls Try.prog 3 #[l.val, v1, v2] w fun e w' => e = .returned (.bool true) ∧ Below w.heap.size w w' := by
  obtain ⟨oa, c1, rfl, hl1, hm1, el1⟩ := eA.form
  obtain ⟨ob, c2, rfl, hl2, hm2, el2⟩ := eB.form
  obtain ⟨n1, hn1⟩ : ∃ n, n = A.length := ⟨_, rfl⟩
  obtain ⟨n2, hn2⟩ : ∃ n, n = B.length := ⟨_, rfl⟩
  rw [← hn1] at hl1 ⊢
  rw [← hn2] at hl2 ⊢
  have s0 : Scope [] w (w.alloc (.cells #[.int .i64 l.k, .int .i64 l.a, .int .i64 l.b] 23)) [box w.heap.size l.cells 23] := (Scope.empty w).box l.cells 23
  have El1 := Lib.hid el1; have El2 := Lib.hid el2; have Hn1 := Lib.hid hn1; have Hn2 := Lib.hid hn2; have HA := Lib.hid hA; have HB := Lib.hid hB; have S0 := Lib.hid s0; have Hl := Lib.hid hl
  clear el1 el2 hn1 hn2 hA hB s0 hl eA eB
  unfold Lc.val
  go_enter Try.func3, Try.ntmps3
  go_wp2_with fail
  refine (new_scope S0.out).mono ?_
  rintro e w1 ⟨m, rfl, s1⟩
  have S1 := Lib.hid s1
  clear s1
  go_wp2_with fail
  refine (awake16_scope S1.out).mono ?_
  rintro e w2 ⟨rfl, s2⟩
  have S2 := Lib.hid s2
  clear s2 S1
  go_wp2_with fail
  generalize w.heap.size = B0 at S2 ⊢
  go_loopw [8, 9, 10] (fun s8 s9 s10 wr => ∃ (k : Nat) (x : Int) (σ : MS) (wv : Value), wv = s9 ∧ k ≤ n1 ∧ k ≤ n2 ∧ k ≤ 60 ∧ s10 = .int .i64 k ∧ s8 = .int .u64 x ∧ 0 ≤ x ∧ x < 4 ∧ σ.num l = x ∧ σ.log.length = k ∧ Scope [] w wr [memA m σ, ownA wv 33 5 k (evs σ.log), box B0 l.cells 23]) (fun _ _ s10 _ => 60 - (intOf s10).toNat)
  case atStart => exact ⟨0, 0, MS.zero, _, rfl, by omega, by omega, by omega, rfl, rfl, by omega, by omega, rfl, rfl, S2.out.nil1 _ _⟩
  case round =>
    obtain ⟨k, x, σ, wv, rfl, hk1, hk2, hk3, rfl, rfl, hx0, hx4, hx, hlg, hs⟩ := hrel
    have Sr := Lib.hid hs; have Hx := Lib.hid hx; have Hlg := Lib.hid hlg
    have hlg2 : σ.log.length ≤ 60 := by omega
    obtain ⟨r0, r1, r2⟩ := (show Row wr B0 l.cells 23 from hs.rowm (by simp)).cells3
    clear hs S2 S0 hx hlg
    by_cases h1 : k < n1
    · by_cases h2 : k < n2
      · by_cases h3 : k < 60
        · obtain ⟨a, ha⟩ : ∃ a, A[k]? = some a := ⟨_, List.getElem?_eq_getElem (by rw [← Hn1.out]; exact h1)⟩
          obtain ⟨b, hb⟩ : ∃ b, B[k]? = some b := ⟨_, List.getElem?_eq_getElem (by rw [← Hn2.out]; exact h2)⟩
          obtain ⟨g, off, rfl, ca⟩ := El1.out k a ha
          obtain ⟨g', off', rfl, cb⟩ := El2.out k b hb
          have ca := ca wr Sr.out.1
          have cb := cb wr Sr.out.1
          have Ha := Lib.hid (HA.out a (List.mem_of_getElem? ha)); have Hb := Lib.hid (HB.out b (List.mem_of_getElem? hb))
          have ta := four_tmod Ha.out
          have tb := four_tmod Hb.out
          clear ha hb
          have i1 : (k : Int) < (n1 : Int) := by omega
          have i2 : (k : Int) < (n2 : Int) := by omega
          have i0 : (0 : Int) ≤ (k : Int) := by omega
          by_cases heq : four a = x
          · subst heq
            go_wp2_with fail
            go_quiet ((first
              | (go_at_call_of 10 (Value.int .u64 a); exact Calls.quiet_of_same (few_any Ha.out _))
              | (go_at_call_of 10 (Value.int .u64 b); exact Calls.quiet_of_same (few_any Hb.out _))))
            obtain ⟨r0, r1, r2⟩ := (show Row wr B0 l.cells 23 from Sr.out.rowm (by simp)).cells3
            have S3 := Lib.hid (Sr.out.quiet ((Chg.refl _ _).drewN nq))
            go_wp2_with fail
            refine ((swap_does k l Hl.out (four a) (four b) (four_u b) (by omega)).at0 S3.out).mono ?_
            rintro e w4 ⟨he, s4⟩
            rw [decide_eq_true Hx.out] at he
            rw [MS.swap, if_pos Hx.out] at s4
            subst he
            obtain ⟨r0, r1, r2⟩ := (show Row w4 B0 l.cells 23 from s4.rowm (by simp)).cells3
            have S4 := Lib.hid s4
            obtain ⟨fo, ho, _⟩ := (s4.alloc (.cells #[.int .i64 k, .int .i64 3, .int .i64 l.k, .int .i64 l.a, .int .i64 l.b] 33)).get 1 rfl
            have Ho := Lib.hid ho.1
            clear s4 ho S3
            obtain ⟨i0, hi, hz0, hz1, hz2⟩ := info_parts infoEvent
            go_wp2_with (at_builtin; refine wpList_append_own_at _ rfl (.tmp 66) (.tmp 71) 29 rfl 0 33 i0 _ 5 40 Try.underlying29 hi hz0 hz1 hz2 rfl (by omega) wv k (evs σ.log) rfl Ho.out ⟨w4.heap.size, 0, none⟩ 1 1 [.int .i64 k, .int .i64 3, .int .i64 l.k, .int .i64 l.a, .int .i64 l.b] rfl rfl (row_news (Row.new w4 [.int .i64 k, .int .i64 3, .int .i64 l.k, .int .i64 l.a, .int .i64 l.b] 33)) (by simp [Value.oneCell']) (by unfold maxLen; omega) (by omega) (by omega) ?_; intro v9 w9 o9 g9 n9 a9)
            have S9 := Lib.hid ((S4.out.alloc (.cells #[.int .i64 k, .int .i64 3, .int .i64 l.k, .int .i64 l.a, .int .i64 l.b] 33)).grow1 o9 g9 a9)
            clear o9 g9 n9 a9
            go_wp2
            go_roundw
            case rel => exact ⟨k + 1, four b, ((σ.put k 3 l).set l (four b)), _, rfl, by omega, by omega, by omega, by go_num, rfl, (four_lt b).1, (four_lt b).2, by simp [MS.set], by rw [← Hlg.out]; simp [MS.put, MS.set], by simpa [MS.put, MS.set, evs_append, Ev.cells] using S9.out⟩
            case measure => simp [intOf]; omega
          · have hbn : (four a == x) = false := by simp [heq]
            have Heq := Lib.hid heq
            clear heq
            go_wp2_with fail
            go_quiet ((first
              | (go_at_call_of 10 (Value.int .u64 a); exact Calls.quiet_of_same (few_any Ha.out _))
              | (go_at_call_of 10 (Value.int .u64 b); exact Calls.quiet_of_same (few_any Hb.out _))))
            obtain ⟨r0, r1, r2⟩ := (show Row wr B0 l.cells 23 from Sr.out.rowm (by simp)).cells3
            have S3 := Lib.hid (Sr.out.quiet ((Chg.refl _ _).drewN nq))
            go_wp2_with fail
            refine ((swap_does k l Hl.out (four a) (four b) (four_u b) (by omega)).at0 S3.out).mono ?_
            rintro e w4 ⟨he, s4⟩
            rw [decide_eq_false (by rw [Hx.out]; exact fun e => Heq.out e.symm)] at he
            rw [MS.swap, if_neg (by rw [Hx.out]; exact fun e => Heq.out e.symm)] at s4
            subst he
            obtain ⟨r0, r1, r2⟩ := (show Row w4 B0 l.cells 23 from s4.rowm (by simp)).cells3
            have S4 := Lib.hid s4
            obtain ⟨fo, ho, _⟩ := (s4.alloc (.cells #[.int .i64 k, .int .i64 4, .int .i64 l.k, .int .i64 l.a, .int .i64 l.b] 33)).get 1 rfl
            have Ho := Lib.hid ho.1
            clear s4 ho S3
            obtain ⟨i0, hi, hz0, hz1, hz2⟩ := info_parts infoEvent
            go_wp2_with (at_builtin; refine wpList_append_own_at _ rfl (.tmp 66) (.tmp 71) 29 rfl 0 33 i0 _ 5 40 Try.underlying29 hi hz0 hz1 hz2 rfl (by omega) wv k (evs σ.log) rfl Ho.out ⟨w4.heap.size, 0, none⟩ 1 1 [.int .i64 k, .int .i64 4, .int .i64 l.k, .int .i64 l.a, .int .i64 l.b] rfl rfl (row_news (Row.new w4 [.int .i64 k, .int .i64 4, .int .i64 l.k, .int .i64 l.a, .int .i64 l.b] 33)) (by simp [Value.oneCell']) (by unfold maxLen; omega) (by omega) (by omega) ?_; intro v9 w9 o9 g9 n9 a9)
            have S9 := Lib.hid ((S4.out.alloc (.cells #[.int .i64 k, .int .i64 4, .int .i64 l.k, .int .i64 l.a, .int .i64 l.b] 33)).grow1 o9 g9 a9)
            clear o9 g9 n9 a9
            go_wp2
            go_roundw
            case rel => exact ⟨k + 1, x, (σ.put k 4 l), _, rfl, by omega, by omega, by omega, by go_num, rfl, hx0, hx4, Hx.out, by rw [← Hlg.out]; simp [MS.put, MS.set], by simpa [MS.put, MS.set, evs_append, Ev.cells] using S9.out⟩
            case measure => simp [intOf]; omega
        · have e60 : k = 60 := by omega
          go_wp2_with fail
          refine ((peek_does l Hl.out).at0 Sr.out).mono ?_
          rintro e w4 ⟨he, s4⟩
          rw [Hx.out] at he
          subst he
          have S4 := Lib.hid s4
          clear s4 r0 r1 r2
          go_wp2_with fail
          refine (events0 S4.out (by omega)).mono ?_
          rintro e w5 ⟨v5, rfl, o5, c5, _⟩
          have O5 := Lib.hid (EvSlice.of_owns o5); have C5 := Lib.hid c5
          clear o5 c5
          obtain ⟨fo, ho, _⟩ := S4.out.get 1 rfl
          have ho2 := EvSlice.of_owns (L := σ.log) (by rw [Hlg.out]; exact ho.1)
          have Ho := Lib.hid (ho2.chg C5.out)
          clear ho ho2
          go_wp2_with fail
          refine (plainEv_any O5.out Ho.out (by omega)).mono ?_
          rintro e w6 ⟨he, hc⟩
          rw [decide_eq_true rfl] at he
          subst he
          have C6 := Lib.hid hc
          clear hc
          go_wp2
          go_ret
          exact ⟨rfl, ((S4.out.quiet C5.out).quiet C6.out).below⟩
      · have e2 : k = n2 := by omega
        go_wp2_with fail
        refine ((peek_does l Hl.out).at0 Sr.out).mono ?_
        rintro e w4 ⟨he, s4⟩
        rw [Hx.out] at he
        subst he
        have S4 := Lib.hid s4
        clear s4 r0 r1 r2
        go_wp2_with fail
        refine (events0 S4.out (by omega)).mono ?_
        rintro e w5 ⟨v5, rfl, o5, c5, _⟩
        have O5 := Lib.hid (EvSlice.of_owns o5); have C5 := Lib.hid c5
        clear o5 c5
        obtain ⟨fo, ho, _⟩ := S4.out.get 1 rfl
        have ho2 := EvSlice.of_owns (L := σ.log) (by rw [Hlg.out]; exact ho.1)
        have Ho := Lib.hid (ho2.chg C5.out)
        clear ho ho2
        go_wp2_with fail
        refine (plainEv_any O5.out Ho.out (by omega)).mono ?_
        rintro e w6 ⟨he, hc⟩
        rw [decide_eq_true rfl] at he
        subst he
        have C6 := Lib.hid hc
        clear hc
        go_wp2
        go_ret
        exact ⟨rfl, ((S4.out.quiet C5.out).quiet C6.out).below⟩
    · have e1 : k = n1 := by omega
      go_wp2_with fail
      refine ((peek_does l Hl.out).at0 Sr.out).mono ?_
      rintro e w4 ⟨he, s4⟩
      rw [Hx.out] at he
      subst he
      have S4 := Lib.hid s4
      clear s4 r0 r1 r2
      go_wp2_with fail
      refine (events0 S4.out (by omega)).mono ?_
      rintro e w5 ⟨v5, rfl, o5, c5, _⟩
      have O5 := Lib.hid (EvSlice.of_owns o5); have C5 := Lib.hid c5
      clear o5 c5
      obtain ⟨fo, ho, _⟩ := S4.out.get 1 rfl
      have ho2 := EvSlice.of_owns (L := σ.log) (by rw [Hlg.out]; exact ho.1)
      have Ho := Lib.hid (ho2.chg C5.out)
      clear ho ho2
      go_wp2_with fail
      refine (plainEv_any O5.out Ho.out (by omega)).mono ?_
      rintro e w6 ⟨he, hc⟩
      rw [decide_eq_true rfl] at he
      subst he
      have C6 := Lib.hid hc
      clear hc
      go_wp2
      go_ret
      exact ⟨rfl, ((S4.out.quiet C5.out).quiet C6.out).below⟩
end Go.Proofs.Ytcbipbnomgdklaa
