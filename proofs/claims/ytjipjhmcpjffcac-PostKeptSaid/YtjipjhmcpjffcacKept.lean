/- Own, Kept, Spoil of packets: a copy with room behind it; whether it is as it was; all of it written over. -/
import Derived.Test.YtjipjhmcpjffcacPostC
set_option linter.unusedSimpArgs false
set_option linter.unusedVariables false
set_option maxRecDepth 20000
namespace Go.Proofs.Ytjipjhmcpjffcac
open Go Go.RowKit Go.Maps
theorem pks_append (A B : List Pk) : pks (A ++ B) = pks A ++ pks B := by simp [pks]
theorem row_of_owns {w : World} {g n cap : Nat} {xs : List Value} (h : w.ownsRow 0 48 3 (.slice (some ⟨g, 0, none⟩) n cap) n xs) : ∃ vs, Row w g vs 48 ∧ vs.length = cap * 3 ∧ vs.take (n * 3) = xs ∧ n ≤ cap := by
  rcases h.2 with ⟨h0, _⟩ | ⟨g', cap', cur, hv, _, hg, hc, _, hs, ht⟩
  · simp at h0
  · simp at hv
    obtain ⟨rfl, rfl⟩ := hv
    exact ⟨cur.toList, by unfold Row; simpa using hg, by simpa using hs, ht, hc⟩
theorem owns_of_row {w : World} {g n cap : Nat} {vs xs : List Value} (h : Row w g vs 48) (hl : vs.length = cap * 3) (ht : vs.take (n * 3) = xs) (hn : n ≤ cap) (hc : cap ≤ maxLen) : w.ownsRow 0 48 3 (.slice (some ⟨g, 0, none⟩) n cap) n xs := by
  refine ⟨?_, .inr ⟨g, cap, vs.toArray, rfl, by omega, h, hn, hc, by simpa using hl, by simpa using ht⟩⟩
  rw [← ht, List.length_take, hl]
  omega
/-- Element k of the row is f. -/
theorem set3 {vs : List Value} {L : List Pk} {k n : Nat} (f : Pk) (hl : vs.length = n * 3) (hk : k < n) (ht : vs.take (k * 3) = pks L) (hL : L.length = k) :
    (((vs.set (k * 3) (.int .i64 f.flow)).set (k * 3 + 1) (.int .i64 f.len)).set (k * 3 + 2) (.int .i64 f.mark)).take ((k + 1) * 3) = pks (L ++ [f]) := by
  have hp := pks_length L
  refine List.ext_getElem? fun i => ?_
  rw [pks_append, show pks [f] = f.cells from by simp [pks]]
  by_cases h1 : i < k * 3
  · rw [List.getElem?_take, if_pos (by omega), List.getElem?_set, if_neg (by omega), List.getElem?_set, if_neg (by omega), List.getElem?_set, if_neg (by omega), List.getElem?_append_left (by omega), ← ht, List.getElem?_take, if_pos h1]
  · by_cases h2 : i < (k + 1) * 3
    · rw [List.getElem?_take, if_pos h2, List.getElem?_append_right (by omega)]
      have h3 : i = k * 3 ∨ i = k * 3 + 1 ∨ i = k * 3 + 2 := by omega
      rcases h3 with rfl | rfl | rfl
      · rw [List.getElem?_set, if_neg (by omega), List.getElem?_set, if_neg (by omega), List.getElem?_set, if_pos rfl, if_pos (by omega), show k * 3 - (pks L).length = 0 by omega]; rfl
      · rw [List.getElem?_set, if_neg (by omega), List.getElem?_set, if_pos rfl, if_pos (by simp; omega), show k * 3 + 1 - (pks L).length = 1 by omega]; rfl
      · rw [List.getElem?_set, if_pos rfl, if_pos (by simp; omega), show k * 3 + 2 - (pks L).length = 2 by omega]; rfl
    · rw [List.getElem?_take, if_neg h2, List.getElem?_append_right (by omega), List.getElem?_eq_none]
      simp [Pk.cells]
      omega

set_option maxHeartbeats 1000000 in
theorem ownPk_any {w : World} {v : Value} {L : List Pk} (h : PkS w v L) (hf : few' L) (f : Pk) : Calls Try.prog 19 #[v, f.val] w fun e w' => ∃ g, e = .returned (.slice (some ⟨g, 0, none⟩) L.length (L.length + 3)) ∧ Row w' g (pks (L ++ [f, f, f])) 48 ∧ Chg [] w w' ∧ w.heap.size ≤ g := by
  obtain ⟨i0, hi, hz0, hz1, hz2⟩ := info_parts infoPacket
  obtain ⟨i00, hi0, hb, _⟩ : ∃ i00, Try.prog.info? 48 = some i00 ∧ i00.bytes = 24 ∧ True := ⟨i0, hi, hz2, trivial⟩
  unfold few' at hf
  obtain ⟨oa, cp, es⟩ := h.form
  have hnone : oa = none → L.length = 0 ∧ cp = 0 := by
    rintro rfl
    rcases h with ⟨e, rfl⟩ | ⟨ad, c, e, _⟩
    · rw [es] at e
      simp at e
      exact ⟨rfl, e⟩
    · rw [es] at e
      simp at e
  have hcell : ∀ ad, oa = some ad → ∀ j u, (pks L)[j]? = some u → w.cell? (ad.add j) = some u := by
    intro ad e0 j u hu
    subst e0
    rcases h with ⟨e, rfl⟩ | ⟨ad', c, e, _, hc⟩
    · simp [pks] at hu
    · rw [es] at e
      simp at e
      obtain ⟨rfl, _⟩ := e
      exact hc j u hu
  have Hnone := Lib.hid hnone; have Hcell := Lib.hid hcell; have Hl := Lib.hid (pks_length L); have H1 := Lib.hid (pks_one L)
  subst es
  clear h hnone hcell hi0 hb
  obtain ⟨n, hn⟩ : ∃ n, n = L.length := ⟨_, rfl⟩
  rw [← hn] at hf Hl Hnone ⊢
  have HN := Lib.hid hn
  clear hn
  have C0 := Lib.hid ((Chg.refl [] w).alloc (.cells #[.int .i64 f.flow, .int .i64 f.len, .int .i64 f.mark] 48))
  obtain ⟨N3, hN3⟩ : ∃ m, m = n + 3 := ⟨_, rfl⟩
  have HC := Lib.hid (show (n : Int) + 3 = (N3 : Int) by omega)
  rw [← hN3]
  have HN3 := Lib.hid hN3
  have hf3 : N3 * 24 ≤ 140737488355328 := by omega
  have h3a : n + 3 ≤ N3 := by omega
  have h3b : N3 ≤ n + 3 := by omega
  clear hN3
  have rf := Row.new w [.int .i64 f.flow, .int .i64 f.len, .int .i64 f.mark] 48
  have Rf := Lib.hid rf
  clear rf
  unfold Pk.val
  go_enter Try.func19, Try.ntmps19
  go_wp2_with (first
    | (at_make; refine wpList_make_own _ rfl _ _ 39 rfl 0 48 i0 _ 3 Try.underlying39 hi hz0 hz1 _ _ _ N3 rfl rfl HC.out (by rw [hz2]; omega) (by unfold maxLen; omega) (by omega) ?_; intro w2 o2 gr2; have O2 := Lib.hid (show w2.ownsRow 0 48 3 (.slice (some ⟨w.heap.size + 1, 0, none⟩) 0 N3) 0 [] from by simpa using o2); have C2 := Lib.hid (C0.out.grown gr2 (fun k hk => by cases hk)); have R2 := Lib.hid (Rf.out.grown gr2 (by simp)); clear o2 gr2)
    | (at_builtin; refine wpList_append_fits_any _ rfl _ _ 39 rfl 0 48 i0 3 Try.underlying39 hi hz1 _ 0 N3 [] rfl O2.out oa n cp (pks L) rfl Hl.out Hnone.out (fun ad e j u hu => C2.out.cell (Hcell.out ad e j u hu) (by simp)) H1.out (by omega) ?_; intro w3 o3 gr3; have O3 := Lib.hid (show w3.ownsRow 0 48 3 (.slice (some ⟨w.heap.size + 1, 0, none⟩) n N3) n (pks L) from by simpa using o3); have C3 := Lib.hid (C2.out.grown gr3 (fun k hk => .inr (by simp at hk; omega))); have R3 := Lib.hid (R2.out.grown gr3 (by simp)); clear o3 gr3))
  obtain ⟨G, hG⟩ : ∃ G, G = w.heap.size + 1 := ⟨_, rfl⟩
  rw [← hG] at O3 ⊢
  generalize hB : w.heap.size = B at R3 ⊢
  have HG := Lib.hid (show w.heap.size ≤ G by omega)
  have hGB : B ≠ G := by omega
  have HGB := Lib.hid hGB
  obtain ⟨vs0, r0, l0, t0, _⟩ := row_of_owns O3.out
  have R0 := Lib.hid r0; have L0 := Lib.hid l0; have T0 := Lib.hid t0
  clear r0 l0 t0 hG hB hGB O2 O3 R2 C2
  have HL : (pks L).length = n * 3 := Hl.out
  go_loopw [7] (fun i wr => ∃ (t : Nat) (vs : List Value), n ≤ t ∧ t ≤ N3 ∧ i = .int .i64 t ∧ Row wr G vs 48 ∧ vs.length = N3 * 3 ∧ vs.take (t * 3) = pks (L ++ List.replicate (t - n) f) ∧ Row wr B [.int .i64 f.flow, .int .i64 f.len, .int .i64 f.mark] 48 ∧ Chg [] w wr) (fun i _ => N3 - (intOf i).toNat)
  case atStart => exact ⟨n, vs0, by omega, by have := HN3.out; omega, rfl, R0.out, L0.out, by rw [T0.out]; simp, R3.out, C3.out⟩
  case round =>
    obtain ⟨t, vs, ht1, ht2, rfl, hr, hvl, hvt, hrb, hc⟩ := hrel
    have Hr := Lib.hid hr; have Hvl := Lib.hid hvl; have Hvt := Lib.hid hvt; have Hrb := Lib.hid hrb; have Hc := Lib.hid hc
    clear hr hvl hvt hrb hc R0 L0 T0 R3 C3
    by_cases hlt : t < N3
    · have i0 : (0 : Int) ≤ (t : Int) := by omega
      have i1 : (t : Int) < (N3 : Int) := by omega
      obtain ⟨b0, b1, b2⟩ := Hrb.out.cells3
      obtain ⟨u0, e0⟩ : ∃ u, vs[t * 3]? = some u := ⟨_, List.getElem?_eq_getElem (by rw [Hvl.out]; omega)⟩
      obtain ⟨u1, e1⟩ : ∃ u, vs[t * 3 + 1]? = some u := ⟨_, List.getElem?_eq_getElem (by rw [Hvl.out]; omega)⟩
      obtain ⟨u2, e2⟩ : ∃ u, vs[t * 3 + 2]? = some u := ⟨_, List.getElem?_eq_getElem (by rw [Hvl.out]; omega)⟩
      have c0 := Hr.out.cell e0; have c1 := Hr.out.cell e1; have c2 := Hr.out.cell e2
      have f0 := Hr.out.free (t * 3); have f1 := Hr.out.free (t * 3 + 1); have f2 := Hr.out.free (t * 3 + 2)
      clear e0 e1 e2
      go_wp2_with fail
      go_roundw
      case rel =>
        have hL : (L ++ List.replicate (t - n) f).length = t := by
          have := HN.out
          simp
          omega
        have q := set3 f Hvl.out hlt Hvt.out hL
        have hG := HG.out
        have e : L ++ List.replicate (t + 1 - n) f = L ++ List.replicate (t - n) f ++ [f] := by
          rw [show t + 1 - n = t - n + 1 by omega, List.replicate_succ', List.append_assoc]
        exact ⟨t + 1, _, by omega, by omega, by go_num, ((Hr.out.set (t * 3) (.int .i64 f.flow)).set (t * 3 + 1) (.int .i64 f.len)).set (t * 3 + 2) (.int .i64 f.mark), by simp [Hvl.out], by rw [e]; exact q,
          ((Hrb.out.other (a := ⟨G, t * 3, none⟩) HGB.out _).other (a := ⟨G, t * 3 + 1, none⟩) HGB.out _).other (a := ⟨G, t * 3 + 2, none⟩) HGB.out _, ((Hc.out.setCell (.inr hG) _).setCell (.inr hG) _).setCell (.inr hG) _⟩
      case measure => simp [intOf]; omega
    · have i1 : (N3 : Int) ≤ (t : Int) := by omega
      have et : t = N3 := by omega
      have hvt := Hvt.out
      have h3 := HN3.out
      rw [et, List.take_of_length_le (by rw [Hvl.out]; exact Nat.le_refl _), show N3 - n = 3 by omega] at hvt
      have hr := Hr.out
      rw [hvt] at hr
      have Hr3 := Lib.hid hr
      clear hr hvt h3 et
      go_wp2
      go_ret
      exact ⟨G, rfl, Hr3.out, Hc.out, HG.out⟩

theorem equal_pk_same (x : Pk) (w : World) : (Op.equalIn 10000 48 (.agg #[.int .i64 x.flow, .int .i64 x.len, .int .i64 x.mark]) (.agg #[.int .i64 x.flow, .int .i64 x.len, .int .i64 x.mark])).run Try.prog w = .ok true w := by
  simp [go_sem]
set_option maxHeartbeats 1000000 in
theorem keptPk_any {w : World} {vb : Value} {L : List Pk} {G : Nat} (f : Pk) (hr : Row w G (pks (L ++ [f, f, f])) 48) (hb : PkS w vb L) (hf : few' L) :
    Calls Try.prog 20 #[.slice (some ⟨G, 0, none⟩) L.length (L.length + 3), vb, f.val] w fun e w' => e = .returned (.bool true) ∧ Chg [] w w' := by
  have hl : (pks (L ++ [f, f, f])).length = (L.length + 3) * 3 := by rw [pks_length]; simp
  have ht : (pks (L ++ [f, f, f])).take (L.length * 3) = pks L := by
    rw [pks_append, List.take_append_of_le_length (by rw [pks_length]; exact Nat.le_refl _), List.take_of_length_le (by rw [pks_length]; exact Nat.le_refl _)]
  unfold few' at hf
  have ha : PkS w (.slice (some ⟨G, 0, none⟩) L.length (L.length + 3)) L := PkS.of_owns (owns_of_row hr hl ht (by omega) (by unfold maxLen; omega))
  have hget : ∀ t, L.length ≤ t → t < L.length + 3 → (L ++ [f, f, f])[t]? = some f := by
    intro t h1 h2
    rw [List.getElem?_append_right h1]
    have h3 : t - L.length = 0 ∨ t - L.length = 1 ∨ t - L.length = 2 := by omega
    rcases h3 with h3 | h3 | h3 <;> simp [h3]
  obtain ⟨ob, cq, eb⟩ := hb.form
  obtain ⟨n, hn⟩ : ∃ n, n = L.length := ⟨_, rfl⟩
  obtain ⟨N3, hN3⟩ : ∃ m, m = n + 3 := ⟨_, rfl⟩
  have hff : few' L := hf
  rw [← hn] at eb ha hget hf ⊢
  rw [← hN3] at ha hget ⊢
  have Hr := Lib.hid hr; have Ha := Lib.hid ha; have Hb := Lib.hid hb; have Hg := Lib.hid hget; have HF := Lib.hid hff; have HN := Lib.hid hn
  have Rf := Lib.hid (Row.new w [.int .i64 f.flow, .int .i64 f.len, .int .i64 f.mark] 48)
  have C0 := Lib.hid ((Chg.refl [] w).alloc (.cells #[.int .i64 f.flow, .int .i64 f.len, .int .i64 f.mark] 48))
  have w3 : IntKind.i64.wrap ((n : Int) + 3) = (N3 : Int) := by rw [IntKind.wrap_i64]; omega
  have e3 : (n : Int) + 3 = (N3 : Int) := by omega
  have i3 : ¬ (N3 : Int) < (n : Int) + 3 := by omega
  have E3 := Lib.hid e3
  have h3a : n + 3 ≤ N3 := by omega
  have h3b : N3 ≤ n + 3 := by omega
  clear hr ha hb hget hff hn hl ht e3 hN3 w3
  subst eb
  unfold Pk.val
  go_enter Try.func20, Try.ntmps20
  go_wp2_with fail
  refine (plainPk_any (Ha.out.chg C0.out) (Hb.out.chg C0.out) HF.out).mono ?_
  rintro e v1 ⟨he, hc1⟩
  rw [decide_eq_true rfl] at he
  subst he
  have C1 := Lib.hid (C0.out.quiet hc1)
  have R1 := Lib.hid (Rf.out.chg hc1 (by simp))
  generalize w.heap.size = B at R1 ⊢
  clear hc1 Rf C0
  go_wp2_with fail
  go_loopw [8] (fun i wr => ∃ t : Nat, n ≤ t ∧ t ≤ n + 3 ∧ i = .int .i64 t ∧ Chg [] v1 wr) (fun i _ => n + 3 - (intOf i).toNat)
  case atStart => exact ⟨n, by omega, by omega, rfl, Chg.refl _ _⟩
  case round =>
    obtain ⟨t, ht1, ht2, rfl, hc⟩ := hrel
    have Hc := Lib.hid hc
    by_cases hlt : t < n + 3
    · have i0 : (0 : Int) ≤ (t : Int) := by omega
      have i1 : (t : Int) < (n : Int) + 3 := by omega
      have i1' : (t : Int) < ((n + 3 : Nat) : Int) := by omega
      obtain ⟨b0, b1, b2⟩ := (R1.out.chg hc (by simp)).cells3
      have hrw := (Hr.out.chg C1.out (by simp)).chg hc (by simp)
      have hp := pks_get _ t f (Hg.out t ht1 (by omega))
      have z0 := hrw.cell (hp 0 _ rfl); have z1 := hrw.cell (hp 1 _ rfl); have z2 := hrw.cell (hp 2 _ rfl)
      rw [Nat.add_zero] at z0
      have hec := fun w' => equal_pk_same f w'
      clear hp hrw hc
      go_wp2_with fail
      go_quiet (fail)
      go_wp2
      go_roundw
      case rel => exact ⟨t + 1, by omega, by omega, by go_num, Hc.out.drewN nq⟩
      case measure => simp [intOf]; omega
    · have i1 : (n : Int) + 3 ≤ (t : Int) := by omega
      clear hc
      go_wp2
      go_ret
      exact ⟨rfl, C1.out.quiet Hc.out⟩

set_option maxHeartbeats 1000000 in
theorem spoilPk_rows {w : World} {g n cap : Nat} {xs : List Value} (h : w.ownsRow 0 48 3 (.slice (some ⟨g, 0, none⟩) n cap) n xs) (hn : n ≤ 140737488351232) :
    Calls Try.prog 21 #[.slice (some ⟨g, 0, none⟩) n cap] w fun e w' => e = .returned (.tuple #[]) ∧ Chg [g] w w' := by
  have lg : g < w.heap.size := (row_of_owns h).choose_spec.1.lt
  have h0 := h.alloc (.cells #[.int .i64 0, .int .i64 0, .int .i64 0] 48)
  have rb := Row.new w [.int .i64 0, .int .i64 0, .int .i64 0] 48
  have ngb : w.heap.size ≠ g := by omega
  have H0 := Lib.hid h0; have Rb := Lib.hid rb; have Ngb := Lib.hid ngb
  clear h h0 rb lg ngb
  go_enter Try.func21, Try.ntmps21
  go_wp2_with fail
  generalize hB : w.heap.size = B at Rb Ngb ⊢
  have c0 : Chg [g] w (w.alloc (.cells #[.int .i64 0, .int .i64 0, .int .i64 0] 48)) := (Chg.refl _ _).alloc _
  have C0 := Lib.hid c0
  clear c0 hB
  generalize w.alloc _ = W at H0 Rb C0 ⊢
  go_loopw [3] (fun i wr => ∃ (k : Nat) (xs' : List Value), k ≤ n ∧ i = .int .i64 k ∧ wr.ownsRow 0 48 3 (.slice (some ⟨g, 0, none⟩) n cap) n xs' ∧ Chg [g] W wr) (fun i _ => n - (intOf i).toNat)
  case atStart => exact ⟨0, xs, by omega, rfl, H0.out, Chg.refl _ _⟩
  case round =>
    obtain ⟨k, xs', hk, rfl, hr, hc⟩ := hrel
    have Hr := Lib.hid hr; have Hc := Lib.hid hc
    by_cases hlt : k < n
    · obtain ⟨d0, d1, d2⟩ := (Rb.out.chg hc (by simp; exact Ngb.out)).cells3
      have hl := hr.1
      obtain ⟨u0, e0⟩ : ∃ u, xs'[k * 3]? = some u := ⟨_, List.getElem?_eq_getElem (by omega)⟩
      obtain ⟨u1, e1⟩ : ∃ u, xs'[k * 3 + 1]? = some u := ⟨_, List.getElem?_eq_getElem (by omega)⟩
      obtain ⟨u2, e2⟩ : ∃ u, xs'[k * 3 + 2]? = some u := ⟨_, List.getElem?_eq_getElem (by omega)⟩
      have z0 := ownsRow_cell hr rfl e0; have z1 := ownsRow_cell hr rfl e1; have z2 := ownsRow_cell hr rfl e2
      have f0 := ownsRow_free hr rfl (k * 3)
      have f1 := ownsRow_free hr rfl (k * 3 + 1)
      have f2 := ownsRow_free hr rfl (k * 3 + 2)
      have i1 : (k : Int) < (n : Int) := by omega
      have i0 : (0 : Int) ≤ (k : Int) := by omega
      clear e0 e1 e2 hr hc hl
      go_wp2_with fail
      go_roundw
      case rel =>
        have cs : ∀ (V : World) (j : Nat) (v : Value), Chg [g] V (V.setCell ⟨g, j, none⟩ v) := fun V j v => (Chg.refl _ _).setCell (.inl (by simp)) v
        exact ⟨k + 1, _, by omega, by go_num, ownsRow_put (ownsRow_put (ownsRow_put Hr.out rfl (by omega) _) rfl (by omega) _) rfl (by omega) _,
          ((Hc.out.same (cs _ _ _)).same (cs _ _ _)).same (cs _ _ _)⟩
      case measure => simp [intOf]; omega
    · clear hr hc
      go_wp2
      go_end0
      exact ⟨rfl, C0.out.same Hc.out⟩
theorem spoilPk_none {w : World} : Calls Try.prog 21 #[.slice none 0 0] w fun e w' => e = .returned (.tuple #[]) ∧ Chg [] w w' := by
  go_enter Try.func21, Try.ntmps21
  go_wp2_with fail
  go_loopw [3] (fun i wr => i = .int .i64 0 ∧ Chg [] w wr) (fun _ _ => 0)
  case atStart => exact ⟨rfl, (Chg.refl _ _).alloc _⟩
  case round =>
    obtain ⟨rfl, hc⟩ := hrel
    have Hc := Lib.hid hc
    clear hc
    go_wp2
    go_end0
    exact ⟨rfl, Hc.out⟩
end Go.Proofs.Ytjipjhmcpjffcac
