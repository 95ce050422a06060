/- RingRoom: what is got is what was put, in the order of the places; no two packets ever lie in one cell. -/
import Derived.Test.YtjipjhmcpjffcadRingClaims
set_option linter.unusedSimpArgs false
set_option linter.unusedVariables false
set_option maxRecDepth 20000
namespace Go.Proofs.Ytjipjhmcpjffcad
open Go Go.RowKit Go.Maps

theorem ix_nat (x l : Nat) : ix (x : Int) l = x % l := by
  unfold ix
  have : ((x : Int) % (l : Int)) = ((x % l : Nat) : Int) := by simp
  rw [this]; exact Int.toNat_natCast _
theorem ix_ne {x y l : Nat} (h1 : x < y) (h2 : y < x + l) : ix (x : Int) l ≠ ix (y : Int) l := by
  rw [ix_nat, ix_nat]
  intro e
  have h3 := Nat.sub_mod_eq_zero_of_mod_eq e.symm
  rw [Nat.mod_eq_of_lt (by omega)] at h3
  omega
structure Room (obj : Int) (l : Nat) (N : Lc → Int) (cs L : List Pk) (got : Nat) : Prop where
  word : N (wordL obj) = Ws L.length
  head : N (headL obj) = got
  le : got ≤ L.length
  ge : L.length ≤ got + l
  flag : ∀ j : Nat, N (flagL obj j) ≤ L.length
  live : ∀ x : Nat, got ≤ x → x < L.length → N (flagL obj (ix (x : Int) l)) = (x : Int) + 1
  cell : ∀ x : Nat, got ≤ x → x < L.length → cs[ix (x : Int) l]? = L[x]?
theorem Room.push {obj : Int} {l : Nat} {N N' : Lc → Int} {cs L : List Pk} {got : Nat} (h : Room obj l N cs L got) (hlt : L.length < got + l) (hl : 0 < l) (hc : cs.length = l) (k : Pk)
    (hw : N' (wordL obj) = Ws (L.length + 1)) (hh : N' (headL obj) = N (headL obj)) (hf : ∀ j : Nat, N' (flagL obj j) = if j = ix (L.length : Int) l then (L.length : Int) + 1 else N (flagL obj j)) :
    Room obj l N' (cs.set (ix (L.length : Int) l) k) (L ++ [k]) got := by
  have bx := ix_lt (n := (L.length : Int)) hl
  constructor
  · rw [hw, List.length_append]; rfl
  · rw [hh, h.head]
  · have := h.le; simp; omega
  · simp; omega
  · intro j
    rw [hf, List.length_append]
    have := h.flag j
    split <;> simp <;> omega
  · intro x h1 h2
    rw [List.length_append] at h2
    simp at h2
    by_cases e : x = L.length
    · subst e; rw [hf, if_pos rfl]
    · rw [hf, if_neg (ix_ne (by omega) (by omega)), h.live x h1 (by omega)]
  · intro x h1 h2
    rw [List.length_append] at h2
    simp at h2
    by_cases e : x = L.length
    · subst e; simp [List.getElem?_set_self, hc, bx]
    · rw [List.getElem?_set_ne (ix_ne (by omega) (by omega)).symm, h.cell x h1 (by omega), List.getElem?_append_left (by omega)]
theorem Room.pop {obj : Int} {l : Nat} {N N' : Lc → Int} {cs L : List Pk} {got : Nat} (h : Room obj l N cs L got) (hg : got < L.length)
    (hw : N' (wordL obj) = N (wordL obj)) (hh : N' (headL obj) = (got : Int) + 1) (hf : ∀ j : Nat, N' (flagL obj j) = N (flagL obj j)) : Room obj l N' cs L (got + 1) := by
  have := h.ge
  exact ⟨by rw [hw, h.word], by rw [hh]; simp, by omega, by omega, fun j => by rw [hf]; exact h.flag j, fun x h1 h2 => by rw [hf]; exact h.live x (by omega) h2, fun x h1 h2 => h.cell x (by omega) h2⟩
theorem turn_other {σ : MS} {obj x who : Int} {how : Nat} {j : Lc} (hj : j ≠ wordL obj) : (σ.turn who obj how x).num j = σ.num j := by
  unfold MS.turn MS.swap
  split
  · split <;> simp [MS.set, MS.put, hj]
  · rfl
theorem flag_word {obj : Int} {j : Nat} : flagL obj j ≠ wordL obj := fun h => by cases h
theorem head_word {obj : Int} : headL obj ≠ wordL obj := fun h => by cases h
theorem flag_head {obj : Int} {j : Nat} : flagL obj j ≠ headL obj := fun h => by cases h
theorem flag_inj {obj : Int} {i j : Nat} (h : flagL obj i = flagL obj j) : i = j := by
  have : (i : Int) = (j : Int) := congrArg Lc.b h
  omega
def stW (k : Nat) : Int := if k = 0 then 0 else 1
theorem parts_Wst {k : Nat} (h : k ≤ 60) : partsR (Ws k) = .tuple #[.int .u64 k, .int .i64 (stW k), .bool true] := by
  by_cases h0 : k = 0
  · subst h0; rw [parts_Ws0]; rfl
  · rw [parts_Ws h (by omega), stW, if_neg h0]
theorem wcnt_Ws {k : Nat} (h : k ≤ 60) : wcnt (Ws k) = k := by rw [cnt_is (by have := Ws_S2 h; omega), Ws_C h]
theorem infoPacket : (Try.prog.info? 44).map (fun i => (i.zero, i.size, i.bytes)) = some (some (.agg #[.int .i64 0, .int .i64 0, .int .i64 0]), 3, 24) := by kernel_rfl
theorem own3 {w : World} {v : Value} {t : TypeId} {n : Nat} {xs : List Value} (h : w.ownsRow 0 t 3 v n xs) : ∃ oa cp, v = .slice oa n cp ∧ n ≤ cp ∧ ∀ j u, xs[j]? = some u → ∃ g, oa = some ⟨g, 0, none⟩ ∧ w.cell? ⟨g, j, none⟩ = some u := by
  rcases ownsRow_form h with ⟨rfl, rfl⟩ | ⟨g, cap, rfl, _, hc, _⟩
  · refine ⟨none, 0, rfl, by omega, fun j u hu => ?_⟩
    have := (List.getElem?_eq_some_iff.1 hu).1
    rw [h.1] at this
    omega
  · exact ⟨_, cap, rfl, hc, fun j u hu => ⟨g, rfl, ownsRow_cell h rfl hu⟩⟩
theorem Scope.own0 {S : List Nat} {w0 w : World} {As : List HA} (h : Scope S w0 w As) {v : Value} {t : TypeId} {size n : Nat} {xs : List Value} (i : Nat) (hi : As[i]? = some (ownA v t size n xs)) : w.ownsRow 0 t size v n xs := by
  obtain ⟨f, h1, _⟩ := h.get i hi
  exact h1.1
theorem Scope.grow3 {S : List Nat} {w0 w w' : World} {A B C : HA} {Bs : List HA} {v v' : Value} {t : TypeId} {size n n' : Nat} {xs xs' : List Value} (h : Scope S w0 w ([A, B, C] ++ ([ownA v t size n xs] ++ Bs)))
    (ho : w'.ownsRow 0 t size v' n' xs') (hg : w.grownBy w' v.ownBlock) (ha : v'.ownBlock = v.ownBlock ∨ v'.ownBlock = some w.heap.size) : Scope S w0 w' ([A, B, C] ++ ([ownA v' t size n' xs'] ++ Bs)) := by
  obtain ⟨f, hf, hd⟩ := Scope.does (As := [ownA v t size n xs]) (Bs := [A, B, C] ++ Bs) h.swap
  obtain ⟨hr, rfl⟩ := stars_one hf
  have := hd [ownA v' t size n' xs'] w' (After.intro1 ⟨v'.ownBlock.toList, ⟨ho, rfl⟩, (Chg.refl _ _).grown hg (fun k hk => .inl (by simp [hk])), fun k hk => ?_⟩)
  · exact Scope.swap this
  · rcases ha with ha | ha
    · rw [ha] at hk; exact .inl hk
    · rw [ha] at hk; simp at hk; exact .inr (by omega)

theorem Does.full3 {P : Program} {f : FuncId} {args : Array Value} {r : Value} {A X B : HA} {S : List Nat} {w0 w : World} {Bs : List HA} (d : Does P [X] f args r [X]) (h : Scope S w0 w ([A, X, B] ++ Bs)) : Calls P f args w fun e w' => e = .returned r ∧ Scope S w0 w' ([A, X, B] ++ Bs) :=
  (d.call (Scope.swap (As := [A]) (Bs := [X]) (Cs := B :: Bs) h)).mono fun _ _ ⟨he, hs⟩ => ⟨he, Scope.swap (As := [X]) (Bs := [A]) (Cs := B :: Bs) hs⟩

set_option maxHeartbeats 8000000 in
set_option maxRecDepth 20000 in
theorem ringRoom_row {w : World} (obj most : Int) (v : Value) (L0 : List Us) (ho : I64 obj) (_ : I64 most) (_ : True) (h : UsesAt w v L0) :
    Calls Try.prog 5 #[.int .i64 obj, .int .i64 most, v] w fun e w' => e = .returned (.bool true) ∧ Below w.heap.size w w' := by
  obtain ⟨oa, cp, rfl, hlc, hcm, hel⟩ := h.form
  obtain ⟨N, hN⟩ : ∃ N, N = L0.length := ⟨_, rfl⟩
  rw [← hN] at hlc ⊢
  have Hel := Lib.hid hel; have HN := Lib.hid hN; have S0 := Lib.hid (Scope.empty w); have Ho := Lib.hid ho
  clear hel hN h ho
  obtain ⟨i9, hi9, hz0, hz1, hz2⟩ := info_parts infoPacket
  go_enter Try.func5, Try.ntmps5
  go_wp2_with fail
  refine (made17_scope S0.out obj most).mono ?_
  rintro e w1 ⟨m, p, g, q, x, g', cs, hl, hcz, rfl, s1⟩
  have hb := cl8_b (if 0 < mod most 5 then mod most 10 else most)
  obtain ⟨l, hll⟩ : ∃ l, l = cs.length := ⟨_, rfl⟩
  have l1 : 1 ≤ l := by rw [hll, hl]; exact hb.1
  have l8 : l ≤ 8 := by rw [hll, hl]; exact hb.2
  have S1 := Lib.hid s1; have Lc0 := Lib.hid hll
  clear s1 hb hl hcz hll
  go_wp2_with fail
  refine (awake17_scope S1.out).mono ?_
  rintro e w2 ⟨rfl, s2⟩
  have s2b : Scope [] w w2 ([memA m MS.zero, rb p m obj g cs.length, gb g cs] ++ [refA x 0 MS.zero, rrb q x obj g' cs.length, gb g' cs]) := by simpa using s2
  have q2 := s2b.joinL (Bs := [ownA (.slice none 0 0) 44 3 0 (pks [])]) ⟨[], [], ⟨⟨rfl, .inl ⟨rfl, rfl⟩⟩, rfl⟩, rfl, fun _ h => (by cases h), rfl⟩ (Chg.refl _ _) (by simp)
  have q3 : Scope [] w w2 (([memA m MS.zero, rb p m obj g cs.length, gb g cs]) ++ ([ownA (.slice none 0 0) 44 3 ([] : List Pk).length (pks [])] ++ [refA x 0 MS.zero, rrb q x obj g' cs.length, gb g' cs])) := Scope.swap (As := [ownA (.slice none 0 0) 44 3 0 (pks [])]) (Bs := [memA m MS.zero, rb p m obj g cs.length, gb g cs]) (by simpa using q2)
  have S2 := Lib.hid q3
  clear s2 s2b S1 q2 q3
  obtain ⟨ds, hds⟩ : ∃ ds, ds = cs := ⟨_, rfl⟩
  have S2' : Hid (Scope [] w w2 ([memA m (MS.zero), rb p m obj g (cs).length, gb g (cs)] ++ ([ownA (.slice none 0 0) 44 3 ([] : List Pk).length (pks [])] ++ [refA x 0 MS.zero, rrb q x obj g' l, gb g' ds]))) := Lib.hid (by rw [hds, Lc0.out]; exact S2.out)
  clear S2 hds
  go_wp2_with fail
  go_loopw [10, 11, 12] (fun u10 u11 u12 wr => ∃ (k got : Nat) (σ : MS) (cs L : List Pk) (pv : Value), k ≤ N ∧ k ≤ 60 ∧ u12 = .int .i64 k ∧ u11 = .int .u64 got ∧ u10 = pv ∧ cs.length = l ∧ L.length ≤ k ∧ σ.log.length ≤ 7 * k ∧ Room obj l σ.num cs L got ∧ Scope [] w wr ([memA m (σ), rb p m obj g (cs).length, gb g (cs)] ++ ([ownA (pv) 44 3 (L).length (pks (L))] ++ [refA x 0 MS.zero, rrb q x obj g' l, gb g' ds]))) (fun _ _ i _ => 60 - (intOf i).toNat)
  case atStart => exact ⟨0, 0, MS.zero, cs, [], _, by omega, by omega, rfl, rfl, rfl, Lc0.out.symm, by simp, by simp [MS.zero], ⟨rfl, rfl, by simp, by simp, fun _ => by simp [MS.zero], fun _ _ h => by simp at h, fun _ _ h => by simp at h⟩, S2'.out⟩
  case round =>
    clear S2' Lc0
    clear cs
    obtain ⟨k, got, σ, cs, L, pv, hk, hk2, rfl, rfl, rfl, hcl, hLk, hlg, hR, hs⟩ := hrel
    have Sr := Lib.hid hs; have HR := Lib.hid hR
    obtain ⟨oq, cq, rfl, hcq, hown⟩ := own3 (hs.own0 3 rfl)
    have Hcl := Lib.hid hcl
    have g1 := hR.le; have g2 := hR.ge
    clear hs hR hown hcl
    by_cases hlt : k < N ∧ k < 60
    · obtain ⟨hlt, h60⟩ := hlt
      obtain ⟨u, hu⟩ : ∃ u, L0[k]? = some u := ⟨_, List.getElem?_eq_getElem (by rw [← HN.out]; exact hlt)⟩
      obtain ⟨hw, gu, off, rfl, hc⟩ := Hel.out k u hu
      have Hc := Lib.hid hc
      clear hc hu hw
      obtain ⟨c, hc⟩ : ∃ c, c = L.length := ⟨_, rfl⟩
      have HC := Lib.hid hc
      have s0' := Sr.out
      rw [← hc] at s0'
      rw [← hc] at hLk g1 g2 hcq ⊢
      clear hc Sr
      have Sr := Lib.hid s0'
      clear s0'
      have i1 : (k : Int) < (N : Int) := by omega
      have i0 : (0 : Int) ≤ (k : Int) := by omega
      have wc : IntKind.u64.wrap (c : Int) = (c : Int) := by rw [IntKind.wrap_u64]; omega
      have wl : IntKind.u64.wrap (l : Int) = (l : Int) := by rw [IntKind.wrap_u64]; omega
      go_wp2_with fail
      refine ((rword_does (σ := σ) 0 Ho.out (by omega)).call (Bs := ([ownA (.slice oq c cq) 44 3 c (pks L)] ++ [refA x 0 MS.zero, rrb q x obj g' l, gb g' ds])) Sr.out).mono ?_
      rintro e w4 ⟨he, s4⟩
      rw [HR.out.word, ← HC.out] at he
      subst he
      have S4 := Lib.hid s4
      clear s4
      go_wp2_with fail
      refine ((rhead_does (σ := σ.put 0 1 (wordL obj)) 0 Ho.out (by simp [MS.put]; omega)).call (Bs := ([ownA (.slice oq c cq) 44 3 c (pks L)] ++ [refA x 0 MS.zero, rrb q x obj g' l, gb g' ds])) S4.out).mono ?_
      rintro e w5 ⟨he, s5⟩
      rw [show (σ.put 0 1 (wordL obj)).num (headL obj) = got from HR.out.head] at he
      subst he
      have hR5 : Room obj l ((σ.put 0 1 (wordL obj)).put 0 1 (headL obj)).num cs L got := HR.out
      have hl5 : ((σ.put 0 1 (wordL obj)).put 0 1 (headL obj)).log.length ≤ 7 * k + 2 := by simp [MS.put]; omega
      generalize (σ.put 0 1 (wordL obj)).put 0 1 (headL obj) = σ5 at s5 hR5 hl5
      have S5 := Lib.hid s5; have R5 := Lib.hid hR5
      clear s5 hR5 S4 Sr HR hlg
      clear σ
      go_wp2_with fail
      refine (parts_same (Ws_u (by omega)) _).mono ?_
      rintro e w6 ⟨rfl, rfl⟩
      rw [parts_Wst (by omega)]
      obtain ⟨d0, d1, d2, d3, d4, d5, d6, d7, d8⟩ := Hc.out _ S5.out.1
      clear d1 d2 d3 d4 d5
      have hm5 := mod_lt u.k (n := 5) (by omega)
      by_cases mk : mod u.k 5 < 3
      · go_wp2_with fail
        refine (mod_any (v := u.k) (n := 5) (by omega) (by omega) _).mono ?_
        rintro e w7 ⟨rfl, rfl⟩
        go_wp2_with fail
        refine ((rfull_does (cs := cs) (x := Ws c) (hd := got) (Ws_u (by omega)) (by unfold U64; omega) (by have := Hcl.out; omega)).full3 S5.out).mono ?_
        rintro e w8 ⟨he, s8⟩
        rw [wcnt_Ws (by omega), Hcl.out] at he
        obtain ⟨d0, d1, d2, d3, d4, d5, d6, d7, d8⟩ := Hc.out _ s8.1
        have S8 := Lib.hid s8
        clear s8 d0 d1 d2 d3 d4 d5
        by_cases hf : (l : Int) ≤ (c : Int) - (got : Int)
        · rw [decide_eq_true (⟨by omega, hf⟩ : (got : Int) ≤ (c : Int) ∧ (l : Int) ≤ (c : Int) - (got : Int))] at he
          subst he
          go_wp2_with fail
          refine ((rmost_does (cs := cs)).full3 S8.out).mono ?_
          rintro e w9 ⟨he, s9⟩
          rw [Hcl.out] at he
          subst he
          have S9 := Lib.hid s9
          clear s9 d6 d7 d8
          go_wp2_with fail
          refine ((rfull_does (cs := cs) (x := Ws c) (hd := got) (Ws_u (by omega)) (by unfold U64; omega) (by have := Hcl.out; omega)).full3 S9.out).mono ?_
          rintro e w10 ⟨he, s10⟩
          rw [wcnt_Ws (by omega), Hcl.out, decide_eq_true (⟨by omega, hf⟩ : (got : Int) ≤ (c : Int) ∧ (l : Int) ≤ (c : Int) - (got : Int))] at he
          subst he
          have S10 := Lib.hid s10
          clear s10
          go_wp2_with fail
          go_roundw
          case rel => exact ⟨k + 1, got, σ5, cs, L, _, by omega, by omega, by go_num, rfl, by rw [HC.out], Hcl.out, by rw [← HC.out]; omega, by omega, R5.out, by rw [HC.out] at S10; exact S10.out⟩
          case measure => simp [intOf]; omega
        · rw [decide_eq_false (by omega : ¬ ((got : Int) ≤ (c : Int) ∧ (l : Int) ≤ (c : Int) - (got : Int)))] at he
          subst he
          go_wp2_with fail
          refine ((rmost_does (cs := cs)).full3 S8.out).mono ?_
          rintro e w9 ⟨he, s9⟩
          rw [Hcl.out] at he
          subst he
          obtain ⟨d0, d1, d2, d3, d4, d5, d6, d7, d8⟩ := Hc.out _ s9.1
          have S9 := Lib.hid s9
          clear s9 d0 d1 d2 d3 d4 d5
          go_wp2_with fail
          refine ((rfull_does (cs := cs) (x := Ws c) (hd := got) (Ws_u (by omega)) (by unfold U64; omega) (by have := Hcl.out; omega)).full3 S9.out).mono ?_
          rintro e w10 ⟨he, s10⟩
          rw [wcnt_Ws (by omega), Hcl.out, decide_eq_false (by omega : ¬ ((got : Int) ≤ (c : Int) ∧ (l : Int) ≤ (c : Int) - (got : Int)))] at he
          subst he
          have S10 := Lib.hid s10
          clear s10
          have c0 : 0 < cs.length := by have := Hcl.out; omega
          have c8 : cs.length ≤ 1000 := by have := Hcl.out; omega
          have u64c : U64 (c : Int) := by unfold U64; omega
          have w1c : IntKind.u64.wrap ((c : Int) + 1) = (c : Int) + 1 := by rw [IntKind.wrap_u64]; omega
          have C0 := Lib.hid c0; have C8 := Lib.hid c8; have Uc := Lib.hid u64c; have W1 := Lib.hid w1c
          clear c0 c8 u64c w1c d6 d7 d8
          go_wp2_with fail
          refine ((rshown_does (σ := σ5) 1 (c : Int) Ho.out (by omega) Uc.out C0.out C8.out).call (Bs := ([ownA (.slice oq c cq) 44 3 c (pks L)] ++ [refA x 0 MS.zero, rrb q x obj g' l, gb g' ds])) S10.out).mono ?_
          rintro e w11 ⟨he, s11⟩
          rw [W1.out, beq_eq_false_iff_ne.2 (by have := R5.out.flag (ix (c : Int) cs.length); have := HC.out; omega)] at he
          subst he
          have R11 := Lib.hid (show Room obj l (σ5.put 1 1 (flagL obj (ix (c : Int) cs.length))).num cs L got from R5.out)
          have hl11 : (σ5.put 1 1 (flagL obj (ix (c : Int) cs.length))).log.length ≤ 7 * k + 3 := by simp [MS.put]; omega
          generalize σ5.put 1 1 (flagL obj (ix (c : Int) cs.length)) = σ11 at s11 R11 hl11
          have S11 := Lib.hid s11
          clear s11 S10 S9 S8 S5 R5 hl5
          clear σ5
          go_wp2_with fail
          refine ((rclaim_does (σ := σ11) 0 (Ws c) (Ws_u (by omega)) Ho.out (by omega)).call (Bs := ([ownA (.slice oq c cq) 44 3 c (pks L)] ++ [refA x 0 MS.zero, rrb q x obj g' l, gb g' ds])) S11.out).mono ?_
          rintro e w12 ⟨he, s12⟩
          have hn11 : σ11.num (wordL obj) = Ws c := by rw [R11.out.word, HC.out]
          rw [turned_yes (Ws_B (by omega)) hn11] at he
          subst he
          have ty := turn_yes 0 (Ws_B (by omega)) hn11
          rw [Ws_W (by omega)] at ty
          have hl12 : (σ11.turn 0 obj 0 (Ws c)).log.length ≤ 7 * k + 4 := by rw [ty.2]; omega
          have hw12 := ty.1
          have hh12 : (σ11.turn 0 obj 0 (Ws c)).num (headL obj) = σ11.num (headL obj) := turn_other head_word
          have hf12 : ∀ j : Nat, (σ11.turn 0 obj 0 (Ws c)).num (flagL obj j) = σ11.num (flagL obj j) := fun j => turn_other flag_word
          generalize σ11.turn 0 obj 0 (Ws c) = σ12 at s12 hl12 hw12 hh12 hf12
          obtain ⟨d0, d1, d2, d3, d4, d5, d6, d7, d8⟩ := Hc.out _ s12.1
          have S12 := Lib.hid s12; have W12 := Lib.hid hw12; have H12 := Lib.hid hh12; have F12 := Lib.hid hf12
          clear s12 ty hn11 hw12 hh12 hf12 d0 d1 d2 d3 d4 d5 S11
          go_wp2_with fail
          refine ((rput_does (σ := σ12) 0 (c : Int) ⟨u.flow, u.len, u.mark⟩ Ho.out (by omega) Uc.out C0.out C8.out).call (Bs := ([ownA (.slice oq c cq) 44 3 c (pks L)] ++ [refA x 0 MS.zero, rrb q x obj g' l, gb g' ds])) S12.out).mono ?_
          rintro e w13 ⟨rfl, s13⟩
          have hl13 : (σ12.put 0 6 (cellL obj (ix (c : Int) cs.length))).log.length ≤ 7 * k + 5 := by simp [MS.put]; omega
          have S13 := Lib.hid s13
          clear s13 d6 d7 d8
          go_wp2_with fail
          have hset : ∀ (j : Nat) (y : Pk), (cs.set j y).length = cs.length := fun j y => by simp
          obtain ⟨es, hes⟩ : ∃ es, es = cs.set (ix (c : Int) cs.length) ⟨u.flow, u.len, u.mark⟩ := ⟨_, rfl⟩
          have hel' : es.length = cs.length := by rw [hes]; simp
          have s13 := S13.out
          rw [← hes, ← hel'] at s13
          have Hes := Lib.hid hes; have Hel' := Lib.hid hel'
          clear S13 hset hes hel'
          have S13 := Lib.hid s13
          clear s13
          refine ((rshown_does (σ := σ12.put 0 6 (cellL obj (ix (c : Int) es.length))) 1 (c : Int) Ho.out (by simp [MS.put]; omega) Uc.out (by rw [Hel'.out]; exact C0.out) (by rw [Hel'.out]; exact C8.out)).call (Bs := ([ownA (.slice oq c cq) 44 3 c (pks L)] ++ [refA x 0 MS.zero, rrb q x obj g' l, gb g' ds])) S13.out).mono ?_
          rintro e w14 ⟨he, s14⟩
          rw [W1.out, beq_eq_false_iff_ne.2 (by rw [show (σ12.put 0 6 (cellL obj (ix (c : Int) es.length))).num (flagL obj (ix (c : Int) es.length)) = σ12.num (flagL obj (ix (c : Int) es.length)) from rfl, F12.out]; have := R11.out.flag (ix (c : Int) es.length); have := HC.out; omega)] at he
          subst he
          have S14 := Lib.hid s14
          clear s14 S13
          go_wp2_with fail
          refine ((rshow_does 0 (c : Int) Ho.out (by simp [MS.put]; omega) Uc.out (by rw [Hel'.out]; exact C0.out) (by rw [Hel'.out]; exact C8.out)).call (Bs := ([ownA (.slice oq c cq) 44 3 c (pks L)] ++ [refA x 0 MS.zero, rrb q x obj g' l, gb g' ds])) S14.out).mono ?_
          rintro e w15 ⟨rfl, s15⟩
          rw [W1.out] at s15
          obtain ⟨σ15, h15⟩ : ∃ σ15, σ15 = ((((σ12.put 0 6 (cellL obj (ix (c : Int) es.length))).put 1 1 (flagL obj (ix (c : Int) es.length))).put 0 2 (flagL obj (ix (c : Int) es.length))).set (flagL obj (ix (c : Int) es.length)) ((c : Int) + 1)) := ⟨_, rfl⟩
          rw [← h15] at s15
          have hl15 : σ15.log.length ≤ 7 * k + 7 := by rw [h15]; simp [MS.put, MS.set]; omega
          have hes2 : es = cs.set (ix (L.length : Int) l) ⟨u.flow, u.len, u.mark⟩ := by rw [Hes.out, Hcl.out, HC.out]
          have R15 : Room obj l σ15.num es (L ++ [⟨u.flow, u.len, u.mark⟩]) got := by
            have hi : ix (c : Int) es.length = ix (L.length : Int) l := by rw [Hel'.out, Hcl.out, HC.out]
            rw [h15, hi, hes2]
            refine R11.out.push (by have := HC.out; omega) (by omega) Hcl.out _ ?_ ?_ ?_
            · show (if wordL obj = flagL obj (ix (L.length : Int) l) then (c : Int) + 1 else σ12.num (wordL obj)) = Ws (L.length + 1)
              rw [if_neg flag_word.symm, W12.out, HC.out]
            · show (if headL obj = flagL obj (ix (L.length : Int) l) then (c : Int) + 1 else σ12.num (headL obj)) = σ11.num (headL obj)
              rw [if_neg flag_head.symm, H12.out]
            · intro j
              show (if flagL obj j = flagL obj (ix (L.length : Int) l) then (c : Int) + 1 else σ12.num (flagL obj j)) = (if j = ix (L.length : Int) l then (L.length : Int) + 1 else σ11.num (flagL obj j))
              by_cases e : j = ix (L.length : Int) l
              · rw [if_pos e, if_pos (by rw [e]), HC.out]
              · rw [if_neg e, if_neg (fun h => e (flag_inj h)), F12.out]
          have R15 := Lib.hid R15
          have Hel15 := Lib.hid (show es.length = l by rw [Hel'.out, Hcl.out])
          clear h15 hes2 S14 W12 H12 F12 R11 Hes Hel' hl11 hl12 hl13
          obtain ⟨d0, d1, d2, d3, d4, d5, d6, d7, d8⟩ := Hc.out _ s15.1
          have S15 := Lib.hid s15
          have ow := (s15.alloc (.cells #[.int .i64 u.flow, .int .i64 u.len, .int .i64 u.mark] 44)).own0 3 rfl
          have Ow := Lib.hid ow
          clear s15 ow d0 d1 d2 d3 d4 d5
          go_wp2_with (at_builtin; refine wpList_append_own_at _ rfl (.tmp 111) (.tmp 117) 41 rfl 0 44 i9 _ 3 24 Try.underlying41 hi9 hz0 hz1 hz2 rfl (by omega) (.slice oq c cq) c (pks L) rfl Ow.out ⟨w15.heap.size, 0, none⟩ 1 1 [.int .i64 u.flow, .int .i64 u.len, .int .i64 u.mark] rfl rfl (row_news (Row.new w15 [.int .i64 u.flow, .int .i64 u.len, .int .i64 u.mark] 44)) (by simp [Value.oneCell']) (by unfold maxLen; omega) (by omega) (by omega) ?_; intro v9 w9 o9 g9 n9 a9)
          have S16 := Lib.hid (Scope.grow3 (S15.out.alloc (.cells #[.int .i64 u.flow, .int .i64 u.len, .int .i64 u.mark] 44)) o9 g9 a9)
          clear o9 g9 n9 a9 d6 d7 d8
          go_wp2
          go_roundw
          case rel => exact ⟨k + 1, got, σ15, es, L ++ [⟨u.flow, u.len, u.mark⟩], v9, by omega, by omega, by go_num, rfl, rfl, Hel15.out, by rw [List.length_append, ← HC.out]; simp; omega, by omega, R15.out, by
            have e1 : (L ++ [(⟨u.flow, u.len, u.mark⟩ : Pk)]).length = c + 1 := by rw [List.length_append, ← HC.out]; rfl
            have e2 : pks (L ++ [(⟨u.flow, u.len, u.mark⟩ : Pk)]) = pks L ++ [.int .i64 u.flow, .int .i64 u.len, .int .i64 u.mark] := by simp [pks, Pk.cells]
            rw [e1, e2]
            exact S16.out⟩
          case measure => simp [intOf]; omega
      · by_cases hg : got < c
        · have hg' : (got : Int) < (c : Int) := by omega
          obtain ⟨y, hy⟩ : ∃ y, L[got]? = some y := ⟨_, List.getElem?_eq_getElem (by rw [← HC.out]; exact hg)⟩
          have hcell : cs[ix (got : Int) cs.length]? = some y := by rw [Hcl.out, R5.out.cell got (Nat.le_refl _) (by rw [← HC.out]; exact hg), hy]
          have c0 : 0 < cs.length := by have := Hcl.out; omega
          have c8 : cs.length ≤ 1000 := by have := Hcl.out; omega
          have u64g : U64 (got : Int) := by unfold U64; omega
          have w1g : IntKind.u64.wrap ((got : Int) + 1) = (got : Int) + 1 := by rw [IntKind.wrap_u64]; omega
          have hlive : σ5.num (flagL obj (ix (got : Int) cs.length)) = (got : Int) + 1 := by rw [Hcl.out, R5.out.live got (Nat.le_refl _) (by rw [← HC.out]; exact hg)]
          have C0 := Lib.hid c0; have C8 := Lib.hid c8; have Ug := Lib.hid u64g; have W1 := Lib.hid w1g; have Hy := Lib.hid hy; have Hcell := Lib.hid hcell; have Hlive := Lib.hid hlive
          clear c0 c8 u64g w1g hy hcell hlive
          go_wp2_with fail
          refine (mod_any (v := u.k) (n := 5) (by omega) (by omega) _).mono ?_
          rintro e w7 ⟨rfl, rfl⟩
          clear d0 d6 d7 d8
          have S5d := Lib.hid S5.out.drew
          obtain ⟨go, rfl⟩ : ∃ go, oq = some ⟨go, 0, none⟩ := by
            obtain ⟨oa', cp', e1, _, hh⟩ := own3 (S5.out.own0 3 rfl)
            cases e1
            obtain ⟨y0, _, _⟩ := pks_get L got y Hy.out
            obtain ⟨g1, e2, _⟩ := hh _ _ y0
            exact ⟨g1, e2⟩
          have hcells : ∀ (wq : World) (τ : MS) (fs : List Pk), Scope [] w wq ([memA m τ, rb p m obj g cs.length, gb g fs] ++ ([ownA (.slice (some ⟨go, 0, none⟩) c cq) 44 3 c (pks L)] ++ [refA x 0 MS.zero, rrb q x obj g' l, gb g' ds])) → (wq.cell? ⟨go, got * 3, none⟩ = some (.int .i64 y.flow) ∧ wq.cell? ⟨go, got * 3 + 1, none⟩ = some (.int .i64 y.len) ∧ wq.cell? ⟨go, got * 3 + 2, none⟩ = some (.int .i64 y.mark)) := by
            intro wq τ fs hh
            obtain ⟨oa', cp', e1, _, h2⟩ := own3 (hh.own0 3 rfl)
            cases e1
            obtain ⟨y0, y1, y2⟩ := pks_get L got y Hy.out
            obtain ⟨_, e2, z0⟩ := h2 _ _ y0
            cases e2
            obtain ⟨_, e2, z1⟩ := h2 _ _ y1
            cases e2
            obtain ⟨_, e2, z2⟩ := h2 _ _ y2
            cases e2
            exact ⟨z0, z1, z2⟩
          have r0 := hcells _ _ _ S5d.out
          have Hcs := Lib.hid hcells
          clear hcells
          have i3 : (0 : Int) ≤ (got : Int) := by omega
          have L5 := Lib.hid hl5
          go_wp2_with fail
          refine wp_region_any (by kernel_rfl) ?_
          change wpAny _ _ _ _ _ _ _ (World.drew _)
          refine wpAny_of_U (S := fun w' => w'.cell? ⟨go, got * 3, none⟩ = some (.int .i64 y.flow) ∧ w'.cell? ⟨go, got * 3 + 1, none⟩ = some (.int .i64 y.len) ∧ w'.cell? ⟨go, got * 3 + 2, none⟩ = some (.int .i64 y.mark)) (U := [0, 1, 2, 3, 4, 5, 6, 7, 8, 9, 10, 11, 12, 13]) _ _ _ _ ?_
          refine wpAnyU_take (i := 0) (v := ?_) rfl (by kernel_rfl) (by kernel_rfl) (by kernel_rfl) (by kernel_rfl) (fun _ _ _ h => h) (Or.inl ⟨by rfl, ?_⟩) r0 ?_
          rotate_left 1
          · (intro w' hS; (try dsimp only at hS); (try simp only [List.getElem_toArray, List.getElem_cons_succ, List.getElem_cons_zero]); go_simp; (try with_reducible rfl))
          try simp only [Act.put, List.getElem_toArray, List.getElem_cons_succ, List.getElem_cons_zero, List.setIfInBounds_toArray, List.set_cons_zero, List.set_cons_succ]
          refine wpAnyU_take (i := 1) (v := ?_) rfl (by kernel_rfl) (by kernel_rfl) (by kernel_rfl) (by kernel_rfl) (fun _ _ _ h => h) (Or.inl ⟨by rfl, ?_⟩) r0 ?_
          rotate_left 1
          · (intro w' hS; (try dsimp only at hS); (try simp only [List.getElem_toArray, List.getElem_cons_succ, List.getElem_cons_zero]); go_simp; (try with_reducible rfl))
          try simp only [Act.put, List.getElem_toArray, List.getElem_cons_succ, List.getElem_cons_zero, List.setIfInBounds_toArray, List.set_cons_zero, List.set_cons_succ]
          refine wpAnyU_all (rs := [2]) (by kernel_rfl) (by simp) (fun i hi => ?_)
          obtain rfl : i = 2 := by simpa using hi
          refine wpOpU_stepG rfl (by rfl) (fun K hK => ?_)
          go_simp
          refine ((rshown_does (σ := σ5) 1 (got : Int) Ho.out (by omega) Ug.out C0.out C8.out).call (Bs := ([ownA (.slice (some ⟨go, 0, none⟩) c cq) 44 3 c (pks L)] ++ [refA x 0 MS.zero, rrb q x obj g' l, gb g' ds])) S5d.out).mono ?_
          rintro e v1 ⟨he, s11⟩
          rw [W1.out, Hlive.out, beq_self_eq_true] at he
          subst he
          have r1 := Hcs.out _ _ _ s11
          have S11 := Lib.hid s11
          refine hK _ _ ⟨fun _ => r1, ?_⟩
          clear hK K s11 r0
          try simp only [Act.put, List.getElem_toArray, List.getElem_cons_succ, List.getElem_cons_zero, List.setIfInBounds_toArray, List.set_cons_zero, List.set_cons_succ]
          refine wpAnyU_take (i := 3) (v := ?_) rfl (by kernel_rfl) (by kernel_rfl) (by kernel_rfl) (by kernel_rfl) (fun _ _ _ h => h) (Or.inl ⟨by rfl, ?_⟩) r1 ?_
          rotate_left 1
          · (intro w' hS; (try dsimp only at hS); (try simp only [List.getElem_toArray, List.getElem_cons_succ, List.getElem_cons_zero]); go_simp; (try with_reducible rfl))
          try simp only [Act.put, List.getElem_toArray, List.getElem_cons_succ, List.getElem_cons_zero, List.setIfInBounds_toArray, List.set_cons_zero, List.set_cons_succ]
          refine wpAnyU_take (i := 4) (v := ?_) rfl (by kernel_rfl) (by kernel_rfl) (by kernel_rfl) (by kernel_rfl) (fun _ _ _ h => h) (Or.inl ⟨by rfl, ?_⟩) r1 ?_
          rotate_left 1
          · (intro w' hS; (try dsimp only at hS); (try simp only [List.getElem_toArray, List.getElem_cons_succ, List.getElem_cons_zero]); go_simp; (try with_reducible rfl))
          try simp only [Act.put, List.getElem_toArray, List.getElem_cons_succ, List.getElem_cons_zero, List.setIfInBounds_toArray, List.set_cons_zero, List.set_cons_succ]
          refine wpAnyU_take (i := 5) (v := ?_) rfl (by kernel_rfl) (by kernel_rfl) (by kernel_rfl) (by kernel_rfl) (fun _ _ _ h => h) (Or.inl ⟨by rfl, ?_⟩) r1 ?_
          rotate_left 1
          · (intro w' hS; (try dsimp only at hS); (try simp only [List.getElem_toArray, List.getElem_cons_succ, List.getElem_cons_zero]); go_simp; (try with_reducible rfl))
          try simp only [Act.put, List.getElem_toArray, List.getElem_cons_succ, List.getElem_cons_zero, List.setIfInBounds_toArray, List.set_cons_zero, List.set_cons_succ]
          refine wpAnyU_take (i := 6) (v := ?_) rfl (by kernel_rfl) (by kernel_rfl) (by kernel_rfl) (by kernel_rfl) (fun _ _ _ h => h) (Or.inl ⟨by rfl, ?_⟩) r1 ?_
          rotate_left 1
          · (intro w' hS; (try dsimp only at hS); (try simp only [List.getElem_toArray, List.getElem_cons_succ, List.getElem_cons_zero]); go_simp; (try with_reducible rfl))
          try simp only [Act.put, List.getElem_toArray, List.getElem_cons_succ, List.getElem_cons_zero, List.setIfInBounds_toArray, List.set_cons_zero, List.set_cons_succ]
          refine wpAnyU_take (i := 8) (v := ?_) rfl (by kernel_rfl) (by kernel_rfl) (by kernel_rfl) (by kernel_rfl) (fun _ _ _ h => h) (Or.inl ⟨by rfl, ?_⟩) r1 ?_
          rotate_left 1
          · (intro w' hS; (try dsimp only at hS); (try simp only [List.getElem_toArray, List.getElem_cons_succ, List.getElem_cons_zero]); go_simp; (try with_reducible rfl))
          try simp only [Act.put, List.getElem_toArray, List.getElem_cons_succ, List.getElem_cons_zero, List.setIfInBounds_toArray, List.set_cons_zero, List.set_cons_succ]
          refine wpAnyU_take (i := 9) (v := ?_) rfl (by kernel_rfl) (by kernel_rfl) (by kernel_rfl) (by kernel_rfl) (fun _ _ _ h => h) (Or.inl ⟨by rfl, ?_⟩) r1 ?_
          rotate_left 1
          · (intro w' hS; (try dsimp only at hS); (try simp only [List.getElem_toArray, List.getElem_cons_succ, List.getElem_cons_zero]); go_simp; (try with_reducible rfl))
          try simp only [Act.put, List.getElem_toArray, List.getElem_cons_succ, List.getElem_cons_zero, List.setIfInBounds_toArray, List.set_cons_zero, List.set_cons_succ]
          refine wpAnyU_take (i := 10) (v := ?_) rfl (by kernel_rfl) (by kernel_rfl) (by kernel_rfl) (by kernel_rfl) (fun _ _ _ h => h) (Or.inl ⟨by rfl, ?_⟩) r1 ?_
          rotate_left 1
          · (intro w' hS; (try dsimp only at hS); (try simp only [List.getElem_toArray, List.getElem_cons_succ, List.getElem_cons_zero]); go_simp; (try with_reducible rfl))
          try simp only [Act.put, List.getElem_toArray, List.getElem_cons_succ, List.getElem_cons_zero, List.setIfInBounds_toArray, List.set_cons_zero, List.set_cons_succ]
          refine wpAnyU_take (i := 11) (v := ?_) rfl (by kernel_rfl) (by kernel_rfl) (by kernel_rfl) (by kernel_rfl) (fun _ _ _ h => h) (Or.inl ⟨by rfl, ?_⟩) r1 ?_
          rotate_left 1
          · (intro w' hS; (try dsimp only at hS); (try simp only [List.getElem_toArray, List.getElem_cons_succ, List.getElem_cons_zero]); go_simp; (try with_reducible rfl))
          try simp only [Act.put, List.getElem_toArray, List.getElem_cons_succ, List.getElem_cons_zero, List.setIfInBounds_toArray, List.set_cons_zero, List.set_cons_succ]
          refine wpAnyU_all (rs := [7]) (by kernel_rfl) (by simp) (fun i hi => ?_)
          obtain rfl : i = 7 := by simpa using hi
          refine wpOpU_stepG rfl (by rfl) (fun K hK => ?_)
          go_simp
          refine ((rget_does 1 (got : Int) y Ho.out (by simp [MS.put]; omega) Ug.out C0.out C8.out Hcell.out).call (Bs := ([ownA (.slice (some ⟨go, 0, none⟩) c cq) 44 3 c (pks L)] ++ [refA x 0 MS.zero, rrb q x obj g' l, gb g' ds])) S11.out).mono ?_
          rintro e v2 ⟨rfl, s12⟩
          have r2 := Hcs.out _ _ _ s12
          have S12 := Lib.hid s12
          refine hK _ _ ⟨fun _ => r2, ?_⟩
          clear hK K s12 r1
          try simp only [Act.put, List.getElem_toArray, List.getElem_cons_succ, List.getElem_cons_zero, List.setIfInBounds_toArray, List.set_cons_zero, List.set_cons_succ]
          refine wpAnyU_take (i := 12) (v := ?_) rfl (by kernel_rfl) (by kernel_rfl) (by kernel_rfl) (by kernel_rfl) (fun _ _ _ h => h) (Or.inl ⟨by rfl, ?_⟩) r2 ?_
          rotate_left 1
          · (intro w' hS; (try dsimp only at hS); (try simp only [List.getElem_toArray, List.getElem_cons_succ, List.getElem_cons_zero]); go_simp; (try with_reducible rfl))
          try simp only [Act.put, List.getElem_toArray, List.getElem_cons_succ, List.getElem_cons_zero, List.setIfInBounds_toArray, List.set_cons_zero, List.set_cons_succ]
          refine wpAnyU_take (i := 13) (v := ?_) rfl (by kernel_rfl) (by kernel_rfl) (by kernel_rfl) (by kernel_rfl) (fun _ _ _ h => h) (Or.inl ⟨by rfl, ?_⟩) r2 ?_
          rotate_left 1
          · (intro w' hS; (try dsimp only at hS); (try simp only [List.getElem_toArray, List.getElem_cons_succ, List.getElem_cons_zero]); go_simp; (try with_reducible rfl))
          try simp only [Act.put, List.getElem_toArray, List.getElem_cons_succ, List.getElem_cons_zero, List.setIfInBounds_toArray, List.set_cons_zero, List.set_cons_succ]
          refine wpAnyU_done (by kernel_rfl) ?_ _
          clear r2
          go_wp2_with fail
          refine ((rfree_does 1 (got : Int) Ho.out (by simp [MS.put]; omega)).call (Bs := ([ownA (.slice (some ⟨go, 0, none⟩) c cq) 44 3 c (pks L)] ++ [refA x 0 MS.zero, rrb q x obj g' l, gb g' ds])) S12.out).mono ?_
          rintro e w13 ⟨rfl, s13⟩
          rw [W1.out] at s13
          obtain ⟨σ13, h13⟩ : ∃ σ13, σ13 = ((((σ5.put 1 1 (flagL obj (ix (got : Int) cs.length))).put 1 5 (cellL obj (ix (got : Int) cs.length))).put 1 2 (headL obj)).set (headL obj) ((got : Int) + 1)) := ⟨_, rfl⟩
          rw [← h13] at s13
          have hl13 : σ13.log.length ≤ 7 * k + 5 := by rw [h13]; simp [MS.put, MS.set]; omega
          have R13 : Room obj l σ13.num cs L (got + 1) := by
            rw [h13]
            refine R5.out.pop (by rw [← HC.out]; exact hg) ?_ ?_ ?_
            · show (if wordL obj = headL obj then (got : Int) + 1 else σ5.num (wordL obj)) = σ5.num (wordL obj)
              rw [if_neg head_word.symm]
            · show (if headL obj = headL obj then (got : Int) + 1 else σ5.num (headL obj)) = (got : Int) + 1
              rw [if_pos rfl]
            · intro j
              show (if flagL obj j = headL obj then (got : Int) + 1 else σ5.num (flagL obj j)) = σ5.num (flagL obj j)
              rw [if_neg flag_head]
          have S13 := Lib.hid s13; have R13 := Lib.hid R13
          clear s13 h13 S5 S5d S11 S12 R5 Hcs Hlive Hcell L5 hl5
          go_wp2_with fail
          go_roundw
          case rel => exact ⟨k + 1, got + 1, σ13, cs, L, _, by omega, by omega, by go_num, by go_num, by rw [HC.out], Hcl.out, by rw [← HC.out]; omega, by omega, R13.out, by rw [HC.out] at S13; exact S13.out⟩
          case measure => simp [intOf]; omega
        · have hg' : ¬ (got : Int) < (c : Int) := by omega
          go_wp2_with fail
          refine (mod_any (v := u.k) (n := 5) (by omega) (by omega) _).mono ?_
          rintro e w7 ⟨rfl, rfl⟩
          clear d0 d6 d7 d8
          go_wp2_with fail
          go_roundw
          case rel => exact ⟨k + 1, got, σ5, cs, L, _, by omega, by omega, by go_num, rfl, by rw [HC.out], Hcl.out, by rw [← HC.out]; omega, by omega, R5.out, by rw [HC.out] at S5; exact S5.out⟩
          case measure => simp [intOf]; omega
    · have i1 : ¬ ((k : Int) < (N : Int) ∧ (k : Int) < 60) := by omega
      by_cases n0 : (k : Int) < (N : Int)
      · have n1 : ¬ (k : Int) < 60 := by omega
        go_wp2
        go_ret
        exact ⟨rfl, Sr.out.below⟩
      · go_wp2
        go_ret
        exact ⟨rfl, Sr.out.below⟩
end Go.Proofs.Ytjipjhmcpjffcad
