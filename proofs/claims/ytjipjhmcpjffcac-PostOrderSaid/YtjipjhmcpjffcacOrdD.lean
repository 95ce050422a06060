/- Clocks of package weighbridgeref12: which events' clocks are ahead of which. -/
import Derived.Test.YtjipjhmcpjffcacOrdC
set_option linter.unusedSimpArgs false
set_option linter.unusedVariables false
set_option maxRecDepth 20000
namespace Go.Proofs.Ytjipjhmcpjffcac
open Go Go.RowKit Go.Maps

/-- The clocks: each in memory of its own. -/
def csA (sl : List Value) (cs : List (List Int)) : HA where
  holds w fp := (∀ k, k ∈ fp → k < w.heap.size) ∧ sl.length = cs.length ∧ ∀ (i : Nat) (L : List Int) (s : Value), cs[i]? = some L → sl[i]? = some s → w.ownsRow 0 3 1 s L.length (ints L) ∧ ∀ k, s.ownBlock = some k → k ∈ fp
  lt := by rintro w fp ⟨h, _⟩ k hk; exact h k hk
  chg := by
    rintro w w' S fp ⟨h1, h2, h3⟩ c hn
    refine ⟨fun k hk => Nat.lt_of_lt_of_le (h1 k hk) c.size, h2, fun i L s hy hs => ?_⟩
    obtain ⟨q2, q3⟩ := h3 i L s hy hs
    exact ⟨ownsRow_chg q2 c (fun k hk => hn k (q3 k hk)), q3⟩
theorem Scope.cs_snoc {S : List Nat} {w0 w : World} {sl : List Value} {cs : List (List Int)} {L : List Int} {s : Value} {Bs : List HA}
    (h : Scope S w0 w (csA sl cs :: ownA s 3 1 L.length (ints L) :: Bs)) : Scope S w0 w (csA (sl ++ [s]) (cs ++ [L]) :: Bs) := by
  have h' : Scope S w0 w ([csA sl cs, ownA s 3 1 L.length (ints L)] ++ Bs) := h
  obtain ⟨fp, hfp, hd⟩ := h'.does
  obtain ⟨f, g, ⟨k1, k2, k3⟩, hg, ha, rfl⟩ := hfp
  obtain ⟨o1, rfl⟩ := stars_one hg
  refine hd [csA (sl ++ [s]) (cs ++ [L])] w (After.intro1 (A := csA (sl ++ [s]) (cs ++ [L])) ⟨f ++ s.ownBlock.toList, ⟨fun k hk => ?_, by simp [k2], fun i y t hy ht => ?_⟩, Chg.refl _ _, Own.refl _ _⟩)
  · rcases List.mem_append.1 hk with hk | hk
    · exact k1 k hk
    · exact (o1.lt k (by simpa using hk)).2
  · by_cases e : i < cs.length
    · rw [List.getElem?_append_left e] at hy
      rw [List.getElem?_append_left (by omega)] at ht
      obtain ⟨q2, q3⟩ := k3 i y t hy ht
      exact ⟨q2, fun k hk => by simp [q3 k hk]⟩
    · have hi : i = cs.length := by
        have := (List.getElem?_eq_some_iff.1 hy).1
        simp at this
        omega
      subst hi
      rw [List.getElem?_append_right (by omega)] at hy ht
      simp at hy
      rw [k2] at ht
      simp at ht
      subst hy
      subst ht
      exact ⟨o1, fun k hk => by simp [hk]⟩
theorem Scope.cs_get {S : List Nat} {w0 w : World} {As : List HA} {sl : List Value} {cs : List (List Int)} (h : Scope S w0 w As) (i : Nat) (hi : As[i]? = some (csA sl cs)) {m : Nat} (hm : m < cs.length) : ∃ s, sl[m]? = some s ∧ NS w s (cs.getD m []) := by
  obtain ⟨f, ⟨_, h2, h3⟩, _⟩ := h.get i hi
  have hs : m < sl.length := by omega
  obtain ⟨q, _⟩ := h3 m cs[m] sl[m] (List.getElem?_eq_getElem hm) (List.getElem?_eq_getElem hs)
  refine ⟨sl[m], List.getElem?_eq_getElem hs, ?_⟩
  have e : cs.getD m [] = cs[m] := by simp [List.getD, List.getElem?_eq_getElem hm]
  rw [e]
  exact NS.of_owns q
/-- What the clocks of the first k events say. -/
structure ClkInv (l : List Ev) (cs : List (List Int)) (k : Nat) : Prop where
  len : cs.length = k
  ok : ∀ i, i < k → clk (cs.getD i []) (i + 1)
  own : ∀ (i m : Nat) (x y : Ev), m < i → i < k → l[i]? = some x → l[m]? = some y → y.who = x.who → le' (cs.getD m []) (cs.getD i [])
  fnd : ∀ (i m : Nat) (x y : Ev), m < i → i < k → l[i]? = some x → l[m]? = some y → (x.kind = 1 ∨ x.kind = 3 ∨ x.kind = 4) → y.loc = x.loc → isSt y → (∀ (j : Nat) (z : Ev), m < j → j < i → l[j]? = some z → ¬ (z.loc = x.loc ∧ isSt z)) → le' (cs.getD m []) (cs.getD i [])
theorem getD_app {α : Type} (l : List α) (x d : α) (i : Nat) (h : i < l.length) : (l ++ [x]).getD i d = l.getD i d := by simp [List.getD, List.getElem?_append_left h]
theorem getD_app' {α : Type} (l : List α) (x d : α) : (l ++ [x]).getD l.length d = x := by simp [List.getD]
theorem ClkInv.push {l : List Ev} {cs : List (List Int)} {k : Nat} (h : ClkInv l cs k) {x : Ev} (hx : l[k]? = some x) {L : List Int} (hk : clk L (k + 1)) {r : Int} (hr : OwnIs l k x r)
    (hO : ∀ m : Nat, r = m → m < k → le' (cs.getD m []) L) (hF : (x.kind = 1 ∨ x.kind = 3 ∨ x.kind = 4) → ∃ r', FoundIs l k x r' ∧ ∀ m : Nat, r' = m → m < k → le' (cs.getD m []) L) : ClkInv l (cs ++ [L]) (k + 1) := by
  have e : ∀ i, i < k → (cs ++ [L]).getD i [] = cs.getD i [] := fun i hi => getD_app _ _ _ _ (by rw [h.len]; exact hi)
  have e' : (cs ++ [L]).getD k [] = L := by have := getD_app' cs L []; rwa [h.len] at this
  refine ⟨by simp [h.len], fun i hi => ?_, fun i m y z hm hi hy hz hw => ?_, fun i m y z hm hi hy hz hkd hloc hst hno => ?_⟩
  · by_cases c : i < k
    · rw [e i c]; exact h.ok i c
    · obtain rfl : i = k := by omega
      rw [e']; exact hk
  · by_cases c : i < k
    · rw [e i c, e m (by omega)]; exact h.own i m y z hm c hy hz hw
    · obtain rfl : i = k := by omega
      rw [e', e m hm]
      have exy := hx.symm.trans hy
      simp at exy
      subst exy
      rcases hr with ⟨_, hn⟩ | ⟨m0, y0, hr0, h0, hy0, hw0, hl0⟩
      · exact absurd hw (hn m z hm hz)
      · by_cases c1 : m = m0
        · subst c1; exact hO m hr0 hm
        · have c2 : m < m0 := by
            rcases Nat.lt_or_ge m0 m with c3 | c3
            · exact absurd hw (hl0 m z c3 hm hz)
            · omega
          exact (h.own m0 m y0 z c2 h0 hy0 hz (hw.trans hw0.symm)).trans (hO m0 hr0 h0)
  · by_cases c : i < k
    · rw [e i c, e m (by omega)]; exact h.fnd i m y z hm c hy hz hkd hloc hst hno
    · obtain rfl : i = k := by omega
      rw [e', e m hm]
      have exy := hx.symm.trans hy
      simp at exy
      subst exy
      obtain ⟨r', hr', hle⟩ := hF hkd
      rcases hr' with ⟨_, hn⟩ | ⟨m0, y0, hr0, h0, hy0, hw0, hl0⟩
      · exact absurd ⟨hloc, hst⟩ (hn m z hm hz)
      · have c1 : m = m0 := by
          rcases Nat.lt_trichotomy m m0 with c3 | c3 | c3
          · exact absurd hw0 (hno m0 y0 c3 h0 hy0)
          · exact c3
          · exact absurd ⟨hloc, hst⟩ (hl0 m z c3 hm hz)
        subst c1
        exact hle m hr0 hm
theorem infoInts : (Try.prog.info? 52).map (fun i => (i.zero, i.size, i.bytes)) = some (some (.slice none 0 0), 1, 24) := by kernel_rfl
theorem owns_cell {w : World} {oa : Option Addr} {cp : Nat} {t : TypeId} {n size : Nat} {xs : List Value} (h : w.ownsRow 0 t size (.slice oa n cp) n xs) {j : Nat} {u : Value} (hu : xs[j]? = some u) : ∃ g, oa = some ⟨g, 0, none⟩ ∧ w.cell? ⟨g, j, none⟩ = some u := by
  obtain ⟨oa', cp', e, _, h2⟩ := own_formS h
  simp at e
  obtain ⟨rfl, rfl⟩ := e
  exact h2 j u hu
/-- What Clocks tells. -/
def Clocked (w : World) (l : List Ev) (e : Ending) (w' : World) : Prop := ∃ v sl cs, e = .returned v ∧ ClkInv l cs l.length ∧ Scope [] w w' [ownA v 52 1 l.length sl, csA sl cs]

set_option maxHeartbeats 8000000 in
theorem clocks_any {w : World} {v : Value} {l : List Ev} (h : EvF w v l) (hok : okEv l) (hl : l.length ≤ 1000) : Calls Try.prog 57 #[v] w (Clocked w l) := by
  have hv := h
  obtain ⟨oa, c, ev, hc⟩ := h
  obtain ⟨n, hn⟩ : ∃ n, n = l.length := ⟨_, rfl⟩
  unfold Clocked
  rw [← hn] at ev hl ⊢
  obtain ⟨i2, hi2, hy0, hy1, hy2⟩ := info_parts infoInts
  have Hv := Lib.hid hv; have Hc := Lib.hid hc; have HN := Lib.hid hn; have Hok := Lib.hid hok
  clear hc hn hok hv
  subst ev
  go_enter Try.func57, Try.ntmps57
  go_wp2_with fail
  refine (right_any Hv.out Hok.out (by rw [← HN.out]; exact hl)).mono ?_
  rintro e w1 ⟨rfl, hc1⟩
  have s1 : Scope [] w w1 [ownA (.slice none 0 0) 52 1 0 [], csA [] []] := by
    have q1 : Scope [] w w1 [] := (Scope.empty w).quiet hc1
    have q2 := q1.join (Bs := [ownA (.slice none 0 0) 52 1 0 [], csA [] []]) (g := []) ⟨[], [], ⟨⟨rfl, .inl ⟨rfl, rfl⟩⟩, rfl⟩, stars_mk1 (A := csA [] []) ⟨by simp, rfl, fun i L s h => by simp at h⟩, fun _ h => (by cases h), rfl⟩ (Chg.refl _ _) (by simp)
    simpa using q2
  have S1 := Lib.hid s1
  clear s1 hc1
  go_wp2_with fail
  go_loopw [3, 4] (fun o i wr => ∃ (k : Nat) (sl : List Value) (cs : List (List Int)) (oo : Option Addr) (cp : Nat), k ≤ n ∧ i = .int .i64 k ∧ o = .slice oo k cp ∧ ClkInv l cs k ∧ Scope [] w wr [ownA (.slice oo k cp) 52 1 k sl, csA sl cs]) (fun _ i _ => n - (intOf i).toNat)
  case atStart => exact ⟨0, [], [], none, 0, by omega, rfl, rfl, ⟨rfl, fun i hi => absurd hi (by omega), fun i m x y h1 h2 => absurd h2 (by omega), fun i m x y h1 h2 => absurd h2 (by omega)⟩, S1.out⟩
  case round =>
    obtain ⟨k, sl, cs, oo, cp, hk, rfl, rfl, hinv, hs⟩ := hrel
    have Sr := Lib.hid hs; have Iv := Lib.hid hinv
    clear hs hinv S1
    by_cases hlt : k < n
    · obtain ⟨x, hx⟩ : ∃ x, l[k]? = some x := ⟨_, List.getElem?_eq_getElem (by rw [← HN.out]; exact hlt)⟩
      obtain ⟨g, o, rfl, z⟩ := Hc.out k x hx
      obtain ⟨hw0, hw1, _, _⟩ := Hok.out x (List.mem_of_getElem? hx)
      obtain ⟨wn, hwn⟩ : ∃ wn : Nat, x.who = (wn : Int) := ⟨x.who.toNat, by omega⟩
      have Hwn := Lib.hid hwn
      have wn63 : wn ≤ 63 := by omega
      have Hx := Lib.hid hx; have Z := Lib.hid z
      have i0 : (0 : Int) ≤ (k : Int) := by omega
      have i1 : (k : Int) < (n : Int) := by omega
      clear hx z hw0 hw1 hwn
      go_wp2_with fail
      refine (own12_any (Hv.out.chg Sr.out.1) Hx.out (by rw [← HN.out]; exact hl)).mono ?_
      rintro e w2 ⟨r, rfl, hr, hc2⟩
      have S2 := Lib.hid (Sr.out.quiet hc2)
      clear hc2
      have Hr := Lib.hid hr
      rcases hr with ⟨rfl, _⟩ | ⟨m, y, rfl, hm, _, _, _⟩
      · by_cases k1 : x.kind = 1
        · obtain ⟨z0, z1, z2, z3, z4⟩ := Z.out _ S2.out.1
          have f1 : (x.kind == 1) = true := by simpa using k1
          have HK := Lib.hid (show x.kind = 1 ∨ x.kind = 3 ∨ x.kind = 4 from .inl k1)
          clear k1
          go_wp2_with fail
          refine (found12_any (Hv.out.chg S2.out.1) Hx.out (by rw [← HN.out]; exact hl)).mono ?_
          rintro e w3 ⟨r', rfl, hr', hc3⟩
          have S3 := Lib.hid (S2.out.quiet hc3); have C3 := Lib.hid hc3
          clear hc3 z0 z1 z2 z3 z4
          have Hr' := Lib.hid hr'
          rcases hr' with ⟨rfl, _⟩ | ⟨m', y', rfl, hm', _, _, _⟩
          · obtain ⟨z0, z1, z2, z3, z4⟩ := Z.out _ S3.out.1
            rw [Hwn.out] at z0
            go_wp2_with fail
            refine (tick_any (B := k) (show NS _ (.slice none 0 0) [] from .inl ⟨rfl, rfl⟩) wn wn63 (⟨by simp, by simp⟩ : clk [] k) (by omega)).mono ?_
            rintro e w7 ⟨v7, L7, rfl, o7, c7, n7, k7, le7⟩
            obtain ⟨o7a, c7p, e7, _, _⟩ := own_formS o7
            subst e7
            have q7 := S3.out.joinL (Bs := [ownA (.slice o7a L7.length c7p) 3 1 L7.length (ints L7)]) (stars_mk1 (A := ownA (.slice o7a L7.length c7p) 3 1 L7.length (ints L7)) ⟨o7, rfl⟩) c7 (fun j hj => n7 j (by simpa using hj))
            have Q8 := Lib.hid ((Scope.pick q7 1 rfl).alloc (.cells #[.slice o7a L7.length c7p] 52))
            have K7 := Lib.hid k7; have E7 := Lib.hid le7
            clear o7 c7 n7 k7 le7 q7 z0 z1 z2 z3 z4
            go_wp2_with (at_builtin; refine wpList_append_lies _ rfl _ _ 106 rfl 0 52 i2 _ 1 24 Try.underlying106 hi2 hy0 hy1 hy2 rfl (by decide) (.slice _ k cp) k sl rfl (Q8.out.owned' 0 rfl) ⟨w7.heap.size, 0, none⟩ 1 1 [.slice o7a L7.length c7p] rfl rfl (row_news (Row.new w7 [.slice o7a L7.length c7p] 52)) (by simp [Value.oneCell']) (by omega) (by unfold maxLen; omega) (by omega) (by omega) _ rfl ?_; intro g9 p9 w9 o9 gr9 a9 l9; have Q9 := Lib.hid (Scope.appended Q8.out o9 gr9 a9); clear o9 gr9 a9 l9)
            go_roundw
            case rel => exact ⟨k + 1, sl ++ [.slice o7a L7.length c7p], cs ++ [L7], _, _, by omega, by go_num, rfl, Iv.out.push Hx.out K7.out Hr.out (fun m' em hm' => by omega) (fun _ => ⟨_, Hr'.out, fun m'' em hm'' => by omega⟩), (Scope.cs_snoc (Scope.pick (Scope.pick Q9.out 1 rfl) 2 rfl)).swap2⟩
            case measure => simp [intOf]; omega
          · obtain ⟨sB, hsB, nsB⟩ := S3.out.cs_get 1 rfl (m := m') (by rw [Iv.out.len]; exact hm')
            obtain ⟨oB, cB, eB, _⟩ := nsB.form
            have zzB := owns_cell (S3.out.owned' 0 rfl) hsB
            obtain ⟨lnB, hlnB⟩ : ∃ y, y = (cs.getD m' []).length := ⟨_, rfl⟩
            rw [← hlnB] at eB
            subst eB
            obtain ⟨ggB, egB, zcB⟩ := zzB
            have NSB := Lib.hid nsB
            have imB : (m' : Int) < (k : Int) := by omega
            have i0B : (0 : Int) ≤ (m' : Int) := by omega
            clear hsB nsB hlnB
            subst egB
            go_wp2_with fail
            refine (join_any (M := k) (show NS _ (.slice none 0 0) [] from .inl ⟨rfl, rfl⟩) NSB.out (⟨by simp, by simp⟩ : clk [] k) ((Iv.out.ok m' hm').mono (by omega)) (by omega)).mono ?_
            rintro e w5 ⟨v5, L5, rfl, o5, c5, n5, k5, leA, leB⟩
            have S5 := Lib.hid (S3.out.quiet c5); have N5 := Lib.hid (NS.of_owns o5); have K5 := Lib.hid k5; have LA := Lib.hid leA; have LB := Lib.hid leB
            obtain ⟨o5a, c5p, e5, _, _⟩ := own_formS o5
            subst e5
            clear o5 c5 n5 k5 leA leB
            obtain ⟨z0, z1, z2, z3, z4⟩ := Z.out _ S5.out.1
            rw [Hwn.out] at z0
            go_wp2_with fail
            refine (tick_any (B := k) N5.out wn wn63 K5.out (by omega)).mono ?_
            rintro e w7 ⟨v7, L7, rfl, o7, c7, n7, k7, le7⟩
            obtain ⟨o7a, c7p, e7, _, _⟩ := own_formS o7
            subst e7
            have q7 := S5.out.joinL (Bs := [ownA (.slice o7a L7.length c7p) 3 1 L7.length (ints L7)]) (stars_mk1 (A := ownA (.slice o7a L7.length c7p) 3 1 L7.length (ints L7)) ⟨o7, rfl⟩) c7 (fun j hj => n7 j (by simpa using hj))
            have Q8 := Lib.hid ((Scope.pick q7 1 rfl).alloc (.cells #[.slice o7a L7.length c7p] 52))
            have K7 := Lib.hid k7; have E7 := Lib.hid le7
            clear o7 c7 n7 k7 le7 q7 z0 z1 z2 z3 z4
            go_wp2_with (at_builtin; refine wpList_append_lies _ rfl _ _ 106 rfl 0 52 i2 _ 1 24 Try.underlying106 hi2 hy0 hy1 hy2 rfl (by decide) (.slice _ k cp) k sl rfl (Q8.out.owned' 0 rfl) ⟨w7.heap.size, 0, none⟩ 1 1 [.slice o7a L7.length c7p] rfl rfl (row_news (Row.new w7 [.slice o7a L7.length c7p] 52)) (by simp [Value.oneCell']) (by omega) (by unfold maxLen; omega) (by omega) (by omega) _ rfl ?_; intro g9 p9 w9 o9 gr9 a9 l9; have Q9 := Lib.hid (Scope.appended Q8.out o9 gr9 a9); clear o9 gr9 a9 l9)
            go_roundw
            case rel => exact ⟨k + 1, sl ++ [.slice o7a L7.length c7p], cs ++ [L7], _, _, by omega, by go_num, rfl, Iv.out.push Hx.out K7.out Hr.out (fun m' em hm' => by omega) (fun _ => ⟨_, Hr'.out, fun m'' em hm'' => (by have em0 : m' = m'' := (by omega); subst em0; exact LB.out.trans E7.out)⟩), (Scope.cs_snoc (Scope.pick (Scope.pick Q9.out 1 rfl) 2 rfl)).swap2⟩
            case measure => simp [intOf]; omega
        by_cases k3 : x.kind = 3
        · obtain ⟨z0, z1, z2, z3, z4⟩ := Z.out _ S2.out.1
          have f1 : (x.kind == 1) = false := by simpa using k1
          have f3 : (x.kind == 3) = true := by simpa using k3
          have HK := Lib.hid (show x.kind = 1 ∨ x.kind = 3 ∨ x.kind = 4 from .inr (.inl k3))
          clear k1 k3
          go_wp2_with fail
          refine (found12_any (Hv.out.chg S2.out.1) Hx.out (by rw [← HN.out]; exact hl)).mono ?_
          rintro e w3 ⟨r', rfl, hr', hc3⟩
          have S3 := Lib.hid (S2.out.quiet hc3); have C3 := Lib.hid hc3
          clear hc3 z0 z1 z2 z3 z4
          have Hr' := Lib.hid hr'
          rcases hr' with ⟨rfl, _⟩ | ⟨m', y', rfl, hm', _, _, _⟩
          · obtain ⟨z0, z1, z2, z3, z4⟩ := Z.out _ S3.out.1
            rw [Hwn.out] at z0
            go_wp2_with fail
            refine (tick_any (B := k) (show NS _ (.slice none 0 0) [] from .inl ⟨rfl, rfl⟩) wn wn63 (⟨by simp, by simp⟩ : clk [] k) (by omega)).mono ?_
            rintro e w7 ⟨v7, L7, rfl, o7, c7, n7, k7, le7⟩
            obtain ⟨o7a, c7p, e7, _, _⟩ := own_formS o7
            subst e7
            have q7 := S3.out.joinL (Bs := [ownA (.slice o7a L7.length c7p) 3 1 L7.length (ints L7)]) (stars_mk1 (A := ownA (.slice o7a L7.length c7p) 3 1 L7.length (ints L7)) ⟨o7, rfl⟩) c7 (fun j hj => n7 j (by simpa using hj))
            have Q8 := Lib.hid ((Scope.pick q7 1 rfl).alloc (.cells #[.slice o7a L7.length c7p] 52))
            have K7 := Lib.hid k7; have E7 := Lib.hid le7
            clear o7 c7 n7 k7 le7 q7 z0 z1 z2 z3 z4
            go_wp2_with (at_builtin; refine wpList_append_lies _ rfl _ _ 106 rfl 0 52 i2 _ 1 24 Try.underlying106 hi2 hy0 hy1 hy2 rfl (by decide) (.slice _ k cp) k sl rfl (Q8.out.owned' 0 rfl) ⟨w7.heap.size, 0, none⟩ 1 1 [.slice o7a L7.length c7p] rfl rfl (row_news (Row.new w7 [.slice o7a L7.length c7p] 52)) (by simp [Value.oneCell']) (by omega) (by unfold maxLen; omega) (by omega) (by omega) _ rfl ?_; intro g9 p9 w9 o9 gr9 a9 l9; have Q9 := Lib.hid (Scope.appended Q8.out o9 gr9 a9); clear o9 gr9 a9 l9)
            go_roundw
            case rel => exact ⟨k + 1, sl ++ [.slice o7a L7.length c7p], cs ++ [L7], _, _, by omega, by go_num, rfl, Iv.out.push Hx.out K7.out Hr.out (fun m' em hm' => by omega) (fun _ => ⟨_, Hr'.out, fun m'' em hm'' => by omega⟩), (Scope.cs_snoc (Scope.pick (Scope.pick Q9.out 1 rfl) 2 rfl)).swap2⟩
            case measure => simp [intOf]; omega
          · obtain ⟨sB, hsB, nsB⟩ := S3.out.cs_get 1 rfl (m := m') (by rw [Iv.out.len]; exact hm')
            obtain ⟨oB, cB, eB, _⟩ := nsB.form
            have zzB := owns_cell (S3.out.owned' 0 rfl) hsB
            obtain ⟨lnB, hlnB⟩ : ∃ y, y = (cs.getD m' []).length := ⟨_, rfl⟩
            rw [← hlnB] at eB
            subst eB
            obtain ⟨ggB, egB, zcB⟩ := zzB
            have NSB := Lib.hid nsB
            have imB : (m' : Int) < (k : Int) := by omega
            have i0B : (0 : Int) ≤ (m' : Int) := by omega
            clear hsB nsB hlnB
            subst egB
            go_wp2_with fail
            refine (join_any (M := k) (show NS _ (.slice none 0 0) [] from .inl ⟨rfl, rfl⟩) NSB.out (⟨by simp, by simp⟩ : clk [] k) ((Iv.out.ok m' hm').mono (by omega)) (by omega)).mono ?_
            rintro e w5 ⟨v5, L5, rfl, o5, c5, n5, k5, leA, leB⟩
            have S5 := Lib.hid (S3.out.quiet c5); have N5 := Lib.hid (NS.of_owns o5); have K5 := Lib.hid k5; have LA := Lib.hid leA; have LB := Lib.hid leB
            obtain ⟨o5a, c5p, e5, _, _⟩ := own_formS o5
            subst e5
            clear o5 c5 n5 k5 leA leB
            obtain ⟨z0, z1, z2, z3, z4⟩ := Z.out _ S5.out.1
            rw [Hwn.out] at z0
            go_wp2_with fail
            refine (tick_any (B := k) N5.out wn wn63 K5.out (by omega)).mono ?_
            rintro e w7 ⟨v7, L7, rfl, o7, c7, n7, k7, le7⟩
            obtain ⟨o7a, c7p, e7, _, _⟩ := own_formS o7
            subst e7
            have q7 := S5.out.joinL (Bs := [ownA (.slice o7a L7.length c7p) 3 1 L7.length (ints L7)]) (stars_mk1 (A := ownA (.slice o7a L7.length c7p) 3 1 L7.length (ints L7)) ⟨o7, rfl⟩) c7 (fun j hj => n7 j (by simpa using hj))
            have Q8 := Lib.hid ((Scope.pick q7 1 rfl).alloc (.cells #[.slice o7a L7.length c7p] 52))
            have K7 := Lib.hid k7; have E7 := Lib.hid le7
            clear o7 c7 n7 k7 le7 q7 z0 z1 z2 z3 z4
            go_wp2_with (at_builtin; refine wpList_append_lies _ rfl _ _ 106 rfl 0 52 i2 _ 1 24 Try.underlying106 hi2 hy0 hy1 hy2 rfl (by decide) (.slice _ k cp) k sl rfl (Q8.out.owned' 0 rfl) ⟨w7.heap.size, 0, none⟩ 1 1 [.slice o7a L7.length c7p] rfl rfl (row_news (Row.new w7 [.slice o7a L7.length c7p] 52)) (by simp [Value.oneCell']) (by omega) (by unfold maxLen; omega) (by omega) (by omega) _ rfl ?_; intro g9 p9 w9 o9 gr9 a9 l9; have Q9 := Lib.hid (Scope.appended Q8.out o9 gr9 a9); clear o9 gr9 a9 l9)
            go_roundw
            case rel => exact ⟨k + 1, sl ++ [.slice o7a L7.length c7p], cs ++ [L7], _, _, by omega, by go_num, rfl, Iv.out.push Hx.out K7.out Hr.out (fun m' em hm' => by omega) (fun _ => ⟨_, Hr'.out, fun m'' em hm'' => (by have em0 : m' = m'' := (by omega); subst em0; exact LB.out.trans E7.out)⟩), (Scope.cs_snoc (Scope.pick (Scope.pick Q9.out 1 rfl) 2 rfl)).swap2⟩
            case measure => simp [intOf]; omega
        by_cases k4 : x.kind = 4
        · obtain ⟨z0, z1, z2, z3, z4⟩ := Z.out _ S2.out.1
          have f1 : (x.kind == 1) = false := by simpa using k1
          have f3 : (x.kind == 3) = false := by simpa using k3
          have f4 : (x.kind == 4) = true := by simpa using k4
          have HK := Lib.hid (show x.kind = 1 ∨ x.kind = 3 ∨ x.kind = 4 from .inr (.inr k4))
          clear k1 k3 k4
          go_wp2_with fail
          refine (found12_any (Hv.out.chg S2.out.1) Hx.out (by rw [← HN.out]; exact hl)).mono ?_
          rintro e w3 ⟨r', rfl, hr', hc3⟩
          have S3 := Lib.hid (S2.out.quiet hc3); have C3 := Lib.hid hc3
          clear hc3 z0 z1 z2 z3 z4
          have Hr' := Lib.hid hr'
          rcases hr' with ⟨rfl, _⟩ | ⟨m', y', rfl, hm', _, _, _⟩
          · obtain ⟨z0, z1, z2, z3, z4⟩ := Z.out _ S3.out.1
            rw [Hwn.out] at z0
            go_wp2_with fail
            refine (tick_any (B := k) (show NS _ (.slice none 0 0) [] from .inl ⟨rfl, rfl⟩) wn wn63 (⟨by simp, by simp⟩ : clk [] k) (by omega)).mono ?_
            rintro e w7 ⟨v7, L7, rfl, o7, c7, n7, k7, le7⟩
            obtain ⟨o7a, c7p, e7, _, _⟩ := own_formS o7
            subst e7
            have q7 := S3.out.joinL (Bs := [ownA (.slice o7a L7.length c7p) 3 1 L7.length (ints L7)]) (stars_mk1 (A := ownA (.slice o7a L7.length c7p) 3 1 L7.length (ints L7)) ⟨o7, rfl⟩) c7 (fun j hj => n7 j (by simpa using hj))
            have Q8 := Lib.hid ((Scope.pick q7 1 rfl).alloc (.cells #[.slice o7a L7.length c7p] 52))
            have K7 := Lib.hid k7; have E7 := Lib.hid le7
            clear o7 c7 n7 k7 le7 q7 z0 z1 z2 z3 z4
            go_wp2_with (at_builtin; refine wpList_append_lies _ rfl _ _ 106 rfl 0 52 i2 _ 1 24 Try.underlying106 hi2 hy0 hy1 hy2 rfl (by decide) (.slice _ k cp) k sl rfl (Q8.out.owned' 0 rfl) ⟨w7.heap.size, 0, none⟩ 1 1 [.slice o7a L7.length c7p] rfl rfl (row_news (Row.new w7 [.slice o7a L7.length c7p] 52)) (by simp [Value.oneCell']) (by omega) (by unfold maxLen; omega) (by omega) (by omega) _ rfl ?_; intro g9 p9 w9 o9 gr9 a9 l9; have Q9 := Lib.hid (Scope.appended Q8.out o9 gr9 a9); clear o9 gr9 a9 l9)
            go_roundw
            case rel => exact ⟨k + 1, sl ++ [.slice o7a L7.length c7p], cs ++ [L7], _, _, by omega, by go_num, rfl, Iv.out.push Hx.out K7.out Hr.out (fun m' em hm' => by omega) (fun _ => ⟨_, Hr'.out, fun m'' em hm'' => by omega⟩), (Scope.cs_snoc (Scope.pick (Scope.pick Q9.out 1 rfl) 2 rfl)).swap2⟩
            case measure => simp [intOf]; omega
          · obtain ⟨sB, hsB, nsB⟩ := S3.out.cs_get 1 rfl (m := m') (by rw [Iv.out.len]; exact hm')
            obtain ⟨oB, cB, eB, _⟩ := nsB.form
            have zzB := owns_cell (S3.out.owned' 0 rfl) hsB
            obtain ⟨lnB, hlnB⟩ : ∃ y, y = (cs.getD m' []).length := ⟨_, rfl⟩
            rw [← hlnB] at eB
            subst eB
            obtain ⟨ggB, egB, zcB⟩ := zzB
            have NSB := Lib.hid nsB
            have imB : (m' : Int) < (k : Int) := by omega
            have i0B : (0 : Int) ≤ (m' : Int) := by omega
            clear hsB nsB hlnB
            subst egB
            go_wp2_with fail
            refine (join_any (M := k) (show NS _ (.slice none 0 0) [] from .inl ⟨rfl, rfl⟩) NSB.out (⟨by simp, by simp⟩ : clk [] k) ((Iv.out.ok m' hm').mono (by omega)) (by omega)).mono ?_
            rintro e w5 ⟨v5, L5, rfl, o5, c5, n5, k5, leA, leB⟩
            have S5 := Lib.hid (S3.out.quiet c5); have N5 := Lib.hid (NS.of_owns o5); have K5 := Lib.hid k5; have LA := Lib.hid leA; have LB := Lib.hid leB
            obtain ⟨o5a, c5p, e5, _, _⟩ := own_formS o5
            subst e5
            clear o5 c5 n5 k5 leA leB
            obtain ⟨z0, z1, z2, z3, z4⟩ := Z.out _ S5.out.1
            rw [Hwn.out] at z0
            go_wp2_with fail
            refine (tick_any (B := k) N5.out wn wn63 K5.out (by omega)).mono ?_
            rintro e w7 ⟨v7, L7, rfl, o7, c7, n7, k7, le7⟩
            obtain ⟨o7a, c7p, e7, _, _⟩ := own_formS o7
            subst e7
            have q7 := S5.out.joinL (Bs := [ownA (.slice o7a L7.length c7p) 3 1 L7.length (ints L7)]) (stars_mk1 (A := ownA (.slice o7a L7.length c7p) 3 1 L7.length (ints L7)) ⟨o7, rfl⟩) c7 (fun j hj => n7 j (by simpa using hj))
            have Q8 := Lib.hid ((Scope.pick q7 1 rfl).alloc (.cells #[.slice o7a L7.length c7p] 52))
            have K7 := Lib.hid k7; have E7 := Lib.hid le7
            clear o7 c7 n7 k7 le7 q7 z0 z1 z2 z3 z4
            go_wp2_with (at_builtin; refine wpList_append_lies _ rfl _ _ 106 rfl 0 52 i2 _ 1 24 Try.underlying106 hi2 hy0 hy1 hy2 rfl (by decide) (.slice _ k cp) k sl rfl (Q8.out.owned' 0 rfl) ⟨w7.heap.size, 0, none⟩ 1 1 [.slice o7a L7.length c7p] rfl rfl (row_news (Row.new w7 [.slice o7a L7.length c7p] 52)) (by simp [Value.oneCell']) (by omega) (by unfold maxLen; omega) (by omega) (by omega) _ rfl ?_; intro g9 p9 w9 o9 gr9 a9 l9; have Q9 := Lib.hid (Scope.appended Q8.out o9 gr9 a9); clear o9 gr9 a9 l9)
            go_roundw
            case rel => exact ⟨k + 1, sl ++ [.slice o7a L7.length c7p], cs ++ [L7], _, _, by omega, by go_num, rfl, Iv.out.push Hx.out K7.out Hr.out (fun m' em hm' => by omega) (fun _ => ⟨_, Hr'.out, fun m'' em hm'' => (by have em0 : m' = m'' := (by omega); subst em0; exact LB.out.trans E7.out)⟩), (Scope.cs_snoc (Scope.pick (Scope.pick Q9.out 1 rfl) 2 rfl)).swap2⟩
            case measure => simp [intOf]; omega
        · obtain ⟨z0, z1, z2, z3, z4⟩ := Z.out _ S2.out.1
          have f1 : (x.kind == 1) = false := by simpa using k1
          have f3 : (x.kind == 3) = false := by simpa using k3
          have f4 : (x.kind == 4) = false := by simpa using k4
          have HK := Lib.hid (show ¬ (x.kind = 1 ∨ x.kind = 3 ∨ x.kind = 4) from fun h => h.elim k1 (fun h => h.elim k3 k4))
          clear k1 k3 k4
          clear z0 z2 z3 z4
          have z1' := z1
          clear z1
          obtain ⟨z0, z1, z2, z3, z4⟩ := Z.out _ S2.out.1
          rw [Hwn.out] at z0
          go_wp2_with fail
          refine (tick_any (B := k) (show NS _ (.slice none 0 0) [] from .inl ⟨rfl, rfl⟩) wn wn63 (⟨by simp, by simp⟩ : clk [] k) (by omega)).mono ?_
          rintro e w7 ⟨v7, L7, rfl, o7, c7, n7, k7, le7⟩
          obtain ⟨o7a, c7p, e7, _, _⟩ := own_formS o7
          subst e7
          have q7 := S2.out.joinL (Bs := [ownA (.slice o7a L7.length c7p) 3 1 L7.length (ints L7)]) (stars_mk1 (A := ownA (.slice o7a L7.length c7p) 3 1 L7.length (ints L7)) ⟨o7, rfl⟩) c7 (fun j hj => n7 j (by simpa using hj))
          have Q8 := Lib.hid ((Scope.pick q7 1 rfl).alloc (.cells #[.slice o7a L7.length c7p] 52))
          have K7 := Lib.hid k7; have E7 := Lib.hid le7
          clear o7 c7 n7 k7 le7 q7 z0 z1 z2 z3 z4
          go_wp2_with (at_builtin; refine wpList_append_lies _ rfl _ _ 106 rfl 0 52 i2 _ 1 24 Try.underlying106 hi2 hy0 hy1 hy2 rfl (by decide) (.slice _ k cp) k sl rfl (Q8.out.owned' 0 rfl) ⟨w7.heap.size, 0, none⟩ 1 1 [.slice o7a L7.length c7p] rfl rfl (row_news (Row.new w7 [.slice o7a L7.length c7p] 52)) (by simp [Value.oneCell']) (by omega) (by unfold maxLen; omega) (by omega) (by omega) _ rfl ?_; intro g9 p9 w9 o9 gr9 a9 l9; have Q9 := Lib.hid (Scope.appended Q8.out o9 gr9 a9); clear o9 gr9 a9 l9)
          go_roundw
          case rel => exact ⟨k + 1, sl ++ [.slice o7a L7.length c7p], cs ++ [L7], _, _, by omega, by go_num, rfl, Iv.out.push Hx.out K7.out Hr.out (fun m' em hm' => by omega) (fun hk => absurd hk HK.out), (Scope.cs_snoc (Scope.pick (Scope.pick Q9.out 1 rfl) 2 rfl)).swap2⟩
          case measure => simp [intOf]; omega
      · obtain ⟨sA, hsA, nsA⟩ := S2.out.cs_get 1 rfl (m := m) (by rw [Iv.out.len]; exact hm)
        obtain ⟨oA, cA, eA, _⟩ := nsA.form
        have zzA := owns_cell (S2.out.owned' 0 rfl) hsA
        obtain ⟨lnA, hlnA⟩ : ∃ y, y = (cs.getD m []).length := ⟨_, rfl⟩
        rw [← hlnA] at eA
        subst eA
        obtain ⟨ggA, egA, zcA⟩ := zzA
        have NSA := Lib.hid nsA
        have imA : (m : Int) < (k : Int) := by omega
        have i0A : (0 : Int) ≤ (m : Int) := by omega
        clear hsA nsA hlnA
        subst egA
        by_cases k1 : x.kind = 1
        · obtain ⟨z0, z1, z2, z3, z4⟩ := Z.out _ S2.out.1
          have f1 : (x.kind == 1) = true := by simpa using k1
          have HK := Lib.hid (show x.kind = 1 ∨ x.kind = 3 ∨ x.kind = 4 from .inl k1)
          clear k1
          go_wp2_with fail
          refine (found12_any (Hv.out.chg S2.out.1) Hx.out (by rw [← HN.out]; exact hl)).mono ?_
          rintro e w3 ⟨r', rfl, hr', hc3⟩
          have S3 := Lib.hid (S2.out.quiet hc3); have C3 := Lib.hid hc3
          clear hc3 z0 z1 z2 z3 z4
          have Hr' := Lib.hid hr'
          rcases hr' with ⟨rfl, _⟩ | ⟨m', y', rfl, hm', _, _, _⟩
          · obtain ⟨z0, z1, z2, z3, z4⟩ := Z.out _ S3.out.1
            rw [Hwn.out] at z0
            go_wp2_with fail
            refine (tick_any (B := k) (NSA.out.chg C3.out) wn wn63 ((Iv.out.ok m hm).mono (by omega)) (by omega)).mono ?_
            rintro e w7 ⟨v7, L7, rfl, o7, c7, n7, k7, le7⟩
            obtain ⟨o7a, c7p, e7, _, _⟩ := own_formS o7
            subst e7
            have q7 := S3.out.joinL (Bs := [ownA (.slice o7a L7.length c7p) 3 1 L7.length (ints L7)]) (stars_mk1 (A := ownA (.slice o7a L7.length c7p) 3 1 L7.length (ints L7)) ⟨o7, rfl⟩) c7 (fun j hj => n7 j (by simpa using hj))
            have Q8 := Lib.hid ((Scope.pick q7 1 rfl).alloc (.cells #[.slice o7a L7.length c7p] 52))
            have K7 := Lib.hid k7; have E7 := Lib.hid le7
            clear o7 c7 n7 k7 le7 q7 z0 z1 z2 z3 z4
            go_wp2_with (at_builtin; refine wpList_append_lies _ rfl _ _ 106 rfl 0 52 i2 _ 1 24 Try.underlying106 hi2 hy0 hy1 hy2 rfl (by decide) (.slice _ k cp) k sl rfl (Q8.out.owned' 0 rfl) ⟨w7.heap.size, 0, none⟩ 1 1 [.slice o7a L7.length c7p] rfl rfl (row_news (Row.new w7 [.slice o7a L7.length c7p] 52)) (by simp [Value.oneCell']) (by omega) (by unfold maxLen; omega) (by omega) (by omega) _ rfl ?_; intro g9 p9 w9 o9 gr9 a9 l9; have Q9 := Lib.hid (Scope.appended Q8.out o9 gr9 a9); clear o9 gr9 a9 l9)
            go_roundw
            case rel => exact ⟨k + 1, sl ++ [.slice o7a L7.length c7p], cs ++ [L7], _, _, by omega, by go_num, rfl, Iv.out.push Hx.out K7.out Hr.out (fun m' em hm' => (by have em0 : m = m' := (by omega); subst em0; exact E7.out)) (fun _ => ⟨_, Hr'.out, fun m'' em hm'' => by omega⟩), (Scope.cs_snoc (Scope.pick (Scope.pick Q9.out 1 rfl) 2 rfl)).swap2⟩
            case measure => simp [intOf]; omega
          · obtain ⟨sB, hsB, nsB⟩ := S3.out.cs_get 1 rfl (m := m') (by rw [Iv.out.len]; exact hm')
            obtain ⟨oB, cB, eB, _⟩ := nsB.form
            have zzB := owns_cell (S3.out.owned' 0 rfl) hsB
            obtain ⟨lnB, hlnB⟩ : ∃ y, y = (cs.getD m' []).length := ⟨_, rfl⟩
            rw [← hlnB] at eB
            subst eB
            obtain ⟨ggB, egB, zcB⟩ := zzB
            have NSB := Lib.hid nsB
            have imB : (m' : Int) < (k : Int) := by omega
            have i0B : (0 : Int) ≤ (m' : Int) := by omega
            clear hsB nsB hlnB
            simp at egB
            subst egB
            go_wp2_with fail
            refine (join_any (M := k) (NSA.out.chg C3.out) NSB.out ((Iv.out.ok m hm).mono (by omega)) ((Iv.out.ok m' hm').mono (by omega)) (by omega)).mono ?_
            rintro e w5 ⟨v5, L5, rfl, o5, c5, n5, k5, leA, leB⟩
            have S5 := Lib.hid (S3.out.quiet c5); have N5 := Lib.hid (NS.of_owns o5); have K5 := Lib.hid k5; have LA := Lib.hid leA; have LB := Lib.hid leB
            obtain ⟨o5a, c5p, e5, _, _⟩ := own_formS o5
            subst e5
            clear o5 c5 n5 k5 leA leB
            obtain ⟨z0, z1, z2, z3, z4⟩ := Z.out _ S5.out.1
            rw [Hwn.out] at z0
            go_wp2_with fail
            refine (tick_any (B := k) N5.out wn wn63 K5.out (by omega)).mono ?_
            rintro e w7 ⟨v7, L7, rfl, o7, c7, n7, k7, le7⟩
            obtain ⟨o7a, c7p, e7, _, _⟩ := own_formS o7
            subst e7
            have q7 := S5.out.joinL (Bs := [ownA (.slice o7a L7.length c7p) 3 1 L7.length (ints L7)]) (stars_mk1 (A := ownA (.slice o7a L7.length c7p) 3 1 L7.length (ints L7)) ⟨o7, rfl⟩) c7 (fun j hj => n7 j (by simpa using hj))
            have Q8 := Lib.hid ((Scope.pick q7 1 rfl).alloc (.cells #[.slice o7a L7.length c7p] 52))
            have K7 := Lib.hid k7; have E7 := Lib.hid le7
            clear o7 c7 n7 k7 le7 q7 z0 z1 z2 z3 z4
            go_wp2_with (at_builtin; refine wpList_append_lies _ rfl _ _ 106 rfl 0 52 i2 _ 1 24 Try.underlying106 hi2 hy0 hy1 hy2 rfl (by decide) (.slice _ k cp) k sl rfl (Q8.out.owned' 0 rfl) ⟨w7.heap.size, 0, none⟩ 1 1 [.slice o7a L7.length c7p] rfl rfl (row_news (Row.new w7 [.slice o7a L7.length c7p] 52)) (by simp [Value.oneCell']) (by omega) (by unfold maxLen; omega) (by omega) (by omega) _ rfl ?_; intro g9 p9 w9 o9 gr9 a9 l9; have Q9 := Lib.hid (Scope.appended Q8.out o9 gr9 a9); clear o9 gr9 a9 l9)
            go_roundw
            case rel => exact ⟨k + 1, sl ++ [.slice o7a L7.length c7p], cs ++ [L7], _, _, by omega, by go_num, rfl, Iv.out.push Hx.out K7.out Hr.out (fun m' em hm' => (by have em0 : m = m' := (by omega); subst em0; exact LA.out.trans E7.out)) (fun _ => ⟨_, Hr'.out, fun m'' em hm'' => (by have em0 : m' = m'' := (by omega); subst em0; exact LB.out.trans E7.out)⟩), (Scope.cs_snoc (Scope.pick (Scope.pick Q9.out 1 rfl) 2 rfl)).swap2⟩
            case measure => simp [intOf]; omega
        by_cases k3 : x.kind = 3
        · obtain ⟨z0, z1, z2, z3, z4⟩ := Z.out _ S2.out.1
          have f1 : (x.kind == 1) = false := by simpa using k1
          have f3 : (x.kind == 3) = true := by simpa using k3
          have HK := Lib.hid (show x.kind = 1 ∨ x.kind = 3 ∨ x.kind = 4 from .inr (.inl k3))
          clear k1 k3
          go_wp2_with fail
          refine (found12_any (Hv.out.chg S2.out.1) Hx.out (by rw [← HN.out]; exact hl)).mono ?_
          rintro e w3 ⟨r', rfl, hr', hc3⟩
          have S3 := Lib.hid (S2.out.quiet hc3); have C3 := Lib.hid hc3
          clear hc3 z0 z1 z2 z3 z4
          have Hr' := Lib.hid hr'
          rcases hr' with ⟨rfl, _⟩ | ⟨m', y', rfl, hm', _, _, _⟩
          · obtain ⟨z0, z1, z2, z3, z4⟩ := Z.out _ S3.out.1
            rw [Hwn.out] at z0
            go_wp2_with fail
            refine (tick_any (B := k) (NSA.out.chg C3.out) wn wn63 ((Iv.out.ok m hm).mono (by omega)) (by omega)).mono ?_
            rintro e w7 ⟨v7, L7, rfl, o7, c7, n7, k7, le7⟩
            obtain ⟨o7a, c7p, e7, _, _⟩ := own_formS o7
            subst e7
            have q7 := S3.out.joinL (Bs := [ownA (.slice o7a L7.length c7p) 3 1 L7.length (ints L7)]) (stars_mk1 (A := ownA (.slice o7a L7.length c7p) 3 1 L7.length (ints L7)) ⟨o7, rfl⟩) c7 (fun j hj => n7 j (by simpa using hj))
            have Q8 := Lib.hid ((Scope.pick q7 1 rfl).alloc (.cells #[.slice o7a L7.length c7p] 52))
            have K7 := Lib.hid k7; have E7 := Lib.hid le7
            clear o7 c7 n7 k7 le7 q7 z0 z1 z2 z3 z4
            go_wp2_with (at_builtin; refine wpList_append_lies _ rfl _ _ 106 rfl 0 52 i2 _ 1 24 Try.underlying106 hi2 hy0 hy1 hy2 rfl (by decide) (.slice _ k cp) k sl rfl (Q8.out.owned' 0 rfl) ⟨w7.heap.size, 0, none⟩ 1 1 [.slice o7a L7.length c7p] rfl rfl (row_news (Row.new w7 [.slice o7a L7.length c7p] 52)) (by simp [Value.oneCell']) (by omega) (by unfold maxLen; omega) (by omega) (by omega) _ rfl ?_; intro g9 p9 w9 o9 gr9 a9 l9; have Q9 := Lib.hid (Scope.appended Q8.out o9 gr9 a9); clear o9 gr9 a9 l9)
            go_roundw
            case rel => exact ⟨k + 1, sl ++ [.slice o7a L7.length c7p], cs ++ [L7], _, _, by omega, by go_num, rfl, Iv.out.push Hx.out K7.out Hr.out (fun m' em hm' => (by have em0 : m = m' := (by omega); subst em0; exact E7.out)) (fun _ => ⟨_, Hr'.out, fun m'' em hm'' => by omega⟩), (Scope.cs_snoc (Scope.pick (Scope.pick Q9.out 1 rfl) 2 rfl)).swap2⟩
            case measure => simp [intOf]; omega
          · obtain ⟨sB, hsB, nsB⟩ := S3.out.cs_get 1 rfl (m := m') (by rw [Iv.out.len]; exact hm')
            obtain ⟨oB, cB, eB, _⟩ := nsB.form
            have zzB := owns_cell (S3.out.owned' 0 rfl) hsB
            obtain ⟨lnB, hlnB⟩ : ∃ y, y = (cs.getD m' []).length := ⟨_, rfl⟩
            rw [← hlnB] at eB
            subst eB
            obtain ⟨ggB, egB, zcB⟩ := zzB
            have NSB := Lib.hid nsB
            have imB : (m' : Int) < (k : Int) := by omega
            have i0B : (0 : Int) ≤ (m' : Int) := by omega
            clear hsB nsB hlnB
            simp at egB
            subst egB
            go_wp2_with fail
            refine (join_any (M := k) (NSA.out.chg C3.out) NSB.out ((Iv.out.ok m hm).mono (by omega)) ((Iv.out.ok m' hm').mono (by omega)) (by omega)).mono ?_
            rintro e w5 ⟨v5, L5, rfl, o5, c5, n5, k5, leA, leB⟩
            have S5 := Lib.hid (S3.out.quiet c5); have N5 := Lib.hid (NS.of_owns o5); have K5 := Lib.hid k5; have LA := Lib.hid leA; have LB := Lib.hid leB
            obtain ⟨o5a, c5p, e5, _, _⟩ := own_formS o5
            subst e5
            clear o5 c5 n5 k5 leA leB
            obtain ⟨z0, z1, z2, z3, z4⟩ := Z.out _ S5.out.1
            rw [Hwn.out] at z0
            go_wp2_with fail
            refine (tick_any (B := k) N5.out wn wn63 K5.out (by omega)).mono ?_
            rintro e w7 ⟨v7, L7, rfl, o7, c7, n7, k7, le7⟩
            obtain ⟨o7a, c7p, e7, _, _⟩ := own_formS o7
            subst e7
            have q7 := S5.out.joinL (Bs := [ownA (.slice o7a L7.length c7p) 3 1 L7.length (ints L7)]) (stars_mk1 (A := ownA (.slice o7a L7.length c7p) 3 1 L7.length (ints L7)) ⟨o7, rfl⟩) c7 (fun j hj => n7 j (by simpa using hj))
            have Q8 := Lib.hid ((Scope.pick q7 1 rfl).alloc (.cells #[.slice o7a L7.length c7p] 52))
            have K7 := Lib.hid k7; have E7 := Lib.hid le7
            clear o7 c7 n7 k7 le7 q7 z0 z1 z2 z3 z4
            go_wp2_with (at_builtin; refine wpList_append_lies _ rfl _ _ 106 rfl 0 52 i2 _ 1 24 Try.underlying106 hi2 hy0 hy1 hy2 rfl (by decide) (.slice _ k cp) k sl rfl (Q8.out.owned' 0 rfl) ⟨w7.heap.size, 0, none⟩ 1 1 [.slice o7a L7.length c7p] rfl rfl (row_news (Row.new w7 [.slice o7a L7.length c7p] 52)) (by simp [Value.oneCell']) (by omega) (by unfold maxLen; omega) (by omega) (by omega) _ rfl ?_; intro g9 p9 w9 o9 gr9 a9 l9; have Q9 := Lib.hid (Scope.appended Q8.out o9 gr9 a9); clear o9 gr9 a9 l9)
            go_roundw
            case rel => exact ⟨k + 1, sl ++ [.slice o7a L7.length c7p], cs ++ [L7], _, _, by omega, by go_num, rfl, Iv.out.push Hx.out K7.out Hr.out (fun m' em hm' => (by have em0 : m = m' := (by omega); subst em0; exact LA.out.trans E7.out)) (fun _ => ⟨_, Hr'.out, fun m'' em hm'' => (by have em0 : m' = m'' := (by omega); subst em0; exact LB.out.trans E7.out)⟩), (Scope.cs_snoc (Scope.pick (Scope.pick Q9.out 1 rfl) 2 rfl)).swap2⟩
            case measure => simp [intOf]; omega
        by_cases k4 : x.kind = 4
        · obtain ⟨z0, z1, z2, z3, z4⟩ := Z.out _ S2.out.1
          have f1 : (x.kind == 1) = false := by simpa using k1
          have f3 : (x.kind == 3) = false := by simpa using k3
          have f4 : (x.kind == 4) = true := by simpa using k4
          have HK := Lib.hid (show x.kind = 1 ∨ x.kind = 3 ∨ x.kind = 4 from .inr (.inr k4))
          clear k1 k3 k4
          go_wp2_with fail
          refine (found12_any (Hv.out.chg S2.out.1) Hx.out (by rw [← HN.out]; exact hl)).mono ?_
          rintro e w3 ⟨r', rfl, hr', hc3⟩
          have S3 := Lib.hid (S2.out.quiet hc3); have C3 := Lib.hid hc3
          clear hc3 z0 z1 z2 z3 z4
          have Hr' := Lib.hid hr'
          rcases hr' with ⟨rfl, _⟩ | ⟨m', y', rfl, hm', _, _, _⟩
          · obtain ⟨z0, z1, z2, z3, z4⟩ := Z.out _ S3.out.1
            rw [Hwn.out] at z0
            go_wp2_with fail
            refine (tick_any (B := k) (NSA.out.chg C3.out) wn wn63 ((Iv.out.ok m hm).mono (by omega)) (by omega)).mono ?_
            rintro e w7 ⟨v7, L7, rfl, o7, c7, n7, k7, le7⟩
            obtain ⟨o7a, c7p, e7, _, _⟩ := own_formS o7
            subst e7
            have q7 := S3.out.joinL (Bs := [ownA (.slice o7a L7.length c7p) 3 1 L7.length (ints L7)]) (stars_mk1 (A := ownA (.slice o7a L7.length c7p) 3 1 L7.length (ints L7)) ⟨o7, rfl⟩) c7 (fun j hj => n7 j (by simpa using hj))
            have Q8 := Lib.hid ((Scope.pick q7 1 rfl).alloc (.cells #[.slice o7a L7.length c7p] 52))
            have K7 := Lib.hid k7; have E7 := Lib.hid le7
            clear o7 c7 n7 k7 le7 q7 z0 z1 z2 z3 z4
            go_wp2_with (at_builtin; refine wpList_append_lies _ rfl _ _ 106 rfl 0 52 i2 _ 1 24 Try.underlying106 hi2 hy0 hy1 hy2 rfl (by decide) (.slice _ k cp) k sl rfl (Q8.out.owned' 0 rfl) ⟨w7.heap.size, 0, none⟩ 1 1 [.slice o7a L7.length c7p] rfl rfl (row_news (Row.new w7 [.slice o7a L7.length c7p] 52)) (by simp [Value.oneCell']) (by omega) (by unfold maxLen; omega) (by omega) (by omega) _ rfl ?_; intro g9 p9 w9 o9 gr9 a9 l9; have Q9 := Lib.hid (Scope.appended Q8.out o9 gr9 a9); clear o9 gr9 a9 l9)
            go_roundw
            case rel => exact ⟨k + 1, sl ++ [.slice o7a L7.length c7p], cs ++ [L7], _, _, by omega, by go_num, rfl, Iv.out.push Hx.out K7.out Hr.out (fun m' em hm' => (by have em0 : m = m' := (by omega); subst em0; exact E7.out)) (fun _ => ⟨_, Hr'.out, fun m'' em hm'' => by omega⟩), (Scope.cs_snoc (Scope.pick (Scope.pick Q9.out 1 rfl) 2 rfl)).swap2⟩
            case measure => simp [intOf]; omega
          · obtain ⟨sB, hsB, nsB⟩ := S3.out.cs_get 1 rfl (m := m') (by rw [Iv.out.len]; exact hm')
            obtain ⟨oB, cB, eB, _⟩ := nsB.form
            have zzB := owns_cell (S3.out.owned' 0 rfl) hsB
            obtain ⟨lnB, hlnB⟩ : ∃ y, y = (cs.getD m' []).length := ⟨_, rfl⟩
            rw [← hlnB] at eB
            subst eB
            obtain ⟨ggB, egB, zcB⟩ := zzB
            have NSB := Lib.hid nsB
            have imB : (m' : Int) < (k : Int) := by omega
            have i0B : (0 : Int) ≤ (m' : Int) := by omega
            clear hsB nsB hlnB
            simp at egB
            subst egB
            go_wp2_with fail
            refine (join_any (M := k) (NSA.out.chg C3.out) NSB.out ((Iv.out.ok m hm).mono (by omega)) ((Iv.out.ok m' hm').mono (by omega)) (by omega)).mono ?_
            rintro e w5 ⟨v5, L5, rfl, o5, c5, n5, k5, leA, leB⟩
            have S5 := Lib.hid (S3.out.quiet c5); have N5 := Lib.hid (NS.of_owns o5); have K5 := Lib.hid k5; have LA := Lib.hid leA; have LB := Lib.hid leB
            obtain ⟨o5a, c5p, e5, _, _⟩ := own_formS o5
            subst e5
            clear o5 c5 n5 k5 leA leB
            obtain ⟨z0, z1, z2, z3, z4⟩ := Z.out _ S5.out.1
            rw [Hwn.out] at z0
            go_wp2_with fail
            refine (tick_any (B := k) N5.out wn wn63 K5.out (by omega)).mono ?_
            rintro e w7 ⟨v7, L7, rfl, o7, c7, n7, k7, le7⟩
            obtain ⟨o7a, c7p, e7, _, _⟩ := own_formS o7
            subst e7
            have q7 := S5.out.joinL (Bs := [ownA (.slice o7a L7.length c7p) 3 1 L7.length (ints L7)]) (stars_mk1 (A := ownA (.slice o7a L7.length c7p) 3 1 L7.length (ints L7)) ⟨o7, rfl⟩) c7 (fun j hj => n7 j (by simpa using hj))
            have Q8 := Lib.hid ((Scope.pick q7 1 rfl).alloc (.cells #[.slice o7a L7.length c7p] 52))
            have K7 := Lib.hid k7; have E7 := Lib.hid le7
            clear o7 c7 n7 k7 le7 q7 z0 z1 z2 z3 z4
            go_wp2_with (at_builtin; refine wpList_append_lies _ rfl _ _ 106 rfl 0 52 i2 _ 1 24 Try.underlying106 hi2 hy0 hy1 hy2 rfl (by decide) (.slice _ k cp) k sl rfl (Q8.out.owned' 0 rfl) ⟨w7.heap.size, 0, none⟩ 1 1 [.slice o7a L7.length c7p] rfl rfl (row_news (Row.new w7 [.slice o7a L7.length c7p] 52)) (by simp [Value.oneCell']) (by omega) (by unfold maxLen; omega) (by omega) (by omega) _ rfl ?_; intro g9 p9 w9 o9 gr9 a9 l9; have Q9 := Lib.hid (Scope.appended Q8.out o9 gr9 a9); clear o9 gr9 a9 l9)
            go_roundw
            case rel => exact ⟨k + 1, sl ++ [.slice o7a L7.length c7p], cs ++ [L7], _, _, by omega, by go_num, rfl, Iv.out.push Hx.out K7.out Hr.out (fun m' em hm' => (by have em0 : m = m' := (by omega); subst em0; exact LA.out.trans E7.out)) (fun _ => ⟨_, Hr'.out, fun m'' em hm'' => (by have em0 : m' = m'' := (by omega); subst em0; exact LB.out.trans E7.out)⟩), (Scope.cs_snoc (Scope.pick (Scope.pick Q9.out 1 rfl) 2 rfl)).swap2⟩
            case measure => simp [intOf]; omega
        · obtain ⟨z0, z1, z2, z3, z4⟩ := Z.out _ S2.out.1
          have f1 : (x.kind == 1) = false := by simpa using k1
          have f3 : (x.kind == 3) = false := by simpa using k3
          have f4 : (x.kind == 4) = false := by simpa using k4
          have HK := Lib.hid (show ¬ (x.kind = 1 ∨ x.kind = 3 ∨ x.kind = 4) from fun h => h.elim k1 (fun h => h.elim k3 k4))
          clear k1 k3 k4
          clear z0 z2 z3 z4
          have z1' := z1
          clear z1
          obtain ⟨z0, z1, z2, z3, z4⟩ := Z.out _ S2.out.1
          rw [Hwn.out] at z0
          go_wp2_with fail
          refine (tick_any (B := k) (NSA.out.chg (Chg.refl _ _)) wn wn63 ((Iv.out.ok m hm).mono (by omega)) (by omega)).mono ?_
          rintro e w7 ⟨v7, L7, rfl, o7, c7, n7, k7, le7⟩
          obtain ⟨o7a, c7p, e7, _, _⟩ := own_formS o7
          subst e7
          have q7 := S2.out.joinL (Bs := [ownA (.slice o7a L7.length c7p) 3 1 L7.length (ints L7)]) (stars_mk1 (A := ownA (.slice o7a L7.length c7p) 3 1 L7.length (ints L7)) ⟨o7, rfl⟩) c7 (fun j hj => n7 j (by simpa using hj))
          have Q8 := Lib.hid ((Scope.pick q7 1 rfl).alloc (.cells #[.slice o7a L7.length c7p] 52))
          have K7 := Lib.hid k7; have E7 := Lib.hid le7
          clear o7 c7 n7 k7 le7 q7 z0 z1 z2 z3 z4
          go_wp2_with (at_builtin; refine wpList_append_lies _ rfl _ _ 106 rfl 0 52 i2 _ 1 24 Try.underlying106 hi2 hy0 hy1 hy2 rfl (by decide) (.slice _ k cp) k sl rfl (Q8.out.owned' 0 rfl) ⟨w7.heap.size, 0, none⟩ 1 1 [.slice o7a L7.length c7p] rfl rfl (row_news (Row.new w7 [.slice o7a L7.length c7p] 52)) (by simp [Value.oneCell']) (by omega) (by unfold maxLen; omega) (by omega) (by omega) _ rfl ?_; intro g9 p9 w9 o9 gr9 a9 l9; have Q9 := Lib.hid (Scope.appended Q8.out o9 gr9 a9); clear o9 gr9 a9 l9)
          go_roundw
          case rel => exact ⟨k + 1, sl ++ [.slice o7a L7.length c7p], cs ++ [L7], _, _, by omega, by go_num, rfl, Iv.out.push Hx.out K7.out Hr.out (fun m' em hm' => (by have em0 : m = m' := (by omega); subst em0; exact E7.out)) (fun hk => absurd hk HK.out), (Scope.cs_snoc (Scope.pick (Scope.pick Q9.out 1 rfl) 2 rfl)).swap2⟩
          case measure => simp [intOf]; omega
    · have ek : (n : Int) ≤ (k : Int) := by omega
      have ekn : k = n := by omega
      go_wp2
      go_ret
      subst ekn
      exact ⟨_, sl, cs, rfl, Iv.out, Sr.out⟩
end Go.Proofs.Ytjipjhmcpjffcac
