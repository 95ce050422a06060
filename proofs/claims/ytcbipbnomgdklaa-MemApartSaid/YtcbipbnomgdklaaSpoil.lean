/- Spoil: all events of a slice are written over; nothing else turns. -/
import Derived.Test.YtcbipbnomgdklaaUses
set_option linter.unusedSimpArgs false
set_option linter.unusedVariables false
namespace Go.Proofs.Ytcbipbnomgdklaa
open Go Go.RowKit Go.Maps

theorem own_at {w : World} {v : Value} {n : Nat} {xs : List Value} (h : w.ownsRow 0 33 5 v n xs) {g : Nat} (hg : v.ownBlock = some g) {j : Nat} (hj : j < n * 5) : ∃ u, w.cell? ⟨g, j, none⟩ = some u := by
  obtain ⟨u, hu⟩ : ∃ u, xs[j]? = some u := ⟨_, List.getElem?_eq_getElem (by rw [h.1]; exact hj)⟩
  rcases ownsRow_form h with ⟨rfl, _⟩ | ⟨g', cap, rfl, _⟩
  · simp [Value.ownBlock] at hg
  · simp [Value.ownBlock] at hg
    subst hg
    exact ⟨u, ownsRow_cell h rfl hu⟩

set_option maxHeartbeats 1000000 in
theorem spoil_rows {w : World} {g n cap : Nat} {xs : List Value} (h : w.ownsRow 0 33 5 (.slice (some ⟨g, 0, none⟩) n cap) n xs) (hn : n ≤ 1000000) :
    Calls Try.prog 24 #[.slice (some ⟨g, 0, none⟩) n cap] w fun e w' => e = .returned (.tuple #[]) ∧ Chg [g] w w' := by
  have lg : g < w.heap.size := by rcases ownsRow_form h with ⟨h0, _⟩ | ⟨g', cap', h0, hg, _⟩ <;> simp at h0; obtain ⟨rfl, _⟩ := h0; exact hg
  have h0 := h.alloc (.cells #[.int .i64 0, .int .i64 0, .int .i64 0, .int .i64 0, .int .i64 0] 33)
  have rb := Row.new w [.int .i64 0, .int .i64 0, .int .i64 0, .int .i64 0, .int .i64 0] 33
  have ngb : w.heap.size ≠ g := by omega
  have H0 := Lib.hid h0; have Rb := Lib.hid rb; have Ngb := Lib.hid ngb
  clear h h0 rb lg ngb
  go_enter Try.func24, Try.ntmps24
  go_wp2_with fail
  generalize hB : w.heap.size = B at Rb Ngb ⊢
  have c0 : Chg [g] w (w.alloc (.cells #[.int .i64 0, .int .i64 0, .int .i64 0, .int .i64 0, .int .i64 0] 33)) := (Chg.refl _ _).alloc _
  have C0 := Lib.hid c0
  clear c0 hB
  generalize w.alloc _ = W at H0 Rb C0 ⊢
  go_loopw [3] (fun i wr => ∃ (k : Nat) (xs' : List Value), k ≤ n ∧ i = .int .i64 k ∧ wr.ownsRow 0 33 5 (.slice (some ⟨g, 0, none⟩) n cap) n xs' ∧ Chg [g] W wr) (fun i _ => n - (intOf i).toNat)
  case atStart => exact ⟨0, xs, by omega, rfl, H0.out, Chg.refl _ _⟩
  case round =>
    obtain ⟨k, xs', hk, rfl, hr, hc⟩ := hrel
    have Hr := Lib.hid hr; have Hc := Lib.hid hc
    clear hr hc
    by_cases hlt : k < n
    · obtain ⟨d0, d1, d2, d3, d4⟩ := (Rb.out.chg Hc.out (by simp; exact Ngb.out)).cells5
      obtain ⟨u0, e0⟩ := own_at Hr.out rfl (j := k * 5) (by omega)
      obtain ⟨u1, e1⟩ := own_at Hr.out rfl (j := k * 5 + 1) (by omega)
      obtain ⟨u2, e2⟩ := own_at Hr.out rfl (j := k * 5 + 2) (by omega)
      obtain ⟨u3, e3⟩ := own_at Hr.out rfl (j := k * 5 + 3) (by omega)
      obtain ⟨u4, e4⟩ := own_at Hr.out rfl (j := k * 5 + 4) (by omega)
      have f0 := ownsRow_free Hr.out rfl (k * 5)
      have f1 := ownsRow_free Hr.out rfl (k * 5 + 1)
      have f2 := ownsRow_free Hr.out rfl (k * 5 + 2)
      have f3 := ownsRow_free Hr.out rfl (k * 5 + 3)
      have f4 := ownsRow_free Hr.out rfl (k * 5 + 4)
      have i1 : (k : Int) < (n : Int) := by omega
      have i0 : (0 : Int) ≤ (k : Int) := by omega
      go_wp2_with fail
      go_roundw
      case rel =>
        have cs : ∀ (V : World) (j : Nat) (v : Value), Chg [g] V (V.setCell ⟨g, j, none⟩ v) := fun V j v => (Chg.refl _ _).setCell (.inl (by simp)) v
        exact ⟨k + 1, _, by omega, by go_num, ownsRow_put (ownsRow_put (ownsRow_put (ownsRow_put (ownsRow_put Hr.out rfl (by omega) _) rfl (by omega) _) rfl (by omega) _) rfl (by omega) _) rfl (by omega) _,
          ((((Hc.out.same (cs _ _ _)).same (cs _ _ _)).same (cs _ _ _)).same (cs _ _ _)).same (cs _ _ _)⟩
      case measure => simp [intOf]; omega
    · go_wp2
      go_end0
      exact ⟨rfl, C0.out.same Hc.out⟩

theorem spoil_none {w : World} : Calls Try.prog 24 #[.slice none 0 0] w fun e w' => e = .returned (.tuple #[]) ∧ Chg [] w w' := by
  go_enter Try.func24, Try.ntmps24
  go_wp2_with fail
  go_loopw [3] (fun i wr => i = .int .i64 0 ∧ Chg [] w wr) (fun _ _ => 0)
  case atStart => exact ⟨rfl, (Chg.refl _ _).alloc _⟩
  case round =>
    obtain ⟨rfl, hc⟩ := hrel
    have Hc := Lib.hid hc
    clear hc
    go_wp2
    go_end0
    exact ⟨rfl, Hc.out⟩

theorem spoil_scope {S : List Nat} {w0 w w1 : World} {As : List HA} {v : Value} {n : Nat} {xs : List Value} (hs : Scope S w0 w As) (c : Chg [] w w1) (ho : w1.ownsRow 0 33 5 v n xs) (hnew : ∀ k, v.ownBlock = some k → w.heap.size ≤ k) (hn : n ≤ 1000000) :
    Calls Try.prog 24 #[v] w1 fun e w' => e = .returned (.tuple #[]) ∧ Scope S w0 w' As := by
  rcases ownsRow_form ho with ⟨rfl, _⟩ | ⟨g, cap, rfl, _⟩
  · exact spoil_none.mono fun _ _ ⟨he, hc⟩ => ⟨he, (hs.quiet c).quiet hc⟩
  · refine (spoil_rows ho hn).mono fun _ w' ⟨he, hc⟩ => ⟨he, hs.quiet ?_⟩
    exact c.trans hc (fun i hi => .inr (by simp at hi; subst hi; exact hnew _ rfl))
end Go.Proofs.Ytcbipbnomgdklaa
