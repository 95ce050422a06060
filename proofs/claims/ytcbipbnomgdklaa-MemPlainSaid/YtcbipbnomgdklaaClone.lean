/- slices.Clone of events, and Events: a list of events in new memory. -/
import Derived.Test.YtcbipbnomgdklaaEvs
set_option linter.unusedSimpArgs false
set_option linter.unusedVariables false
namespace Go.Proofs.Ytcbipbnomgdklaa
open Go Go.RowKit Go.Maps

theorem EvSlice.of_owns {w : World} {v : Value} {L : List Ev} (h : w.ownsRow 0 33 5 v L.length (evs L)) : EvSlice w v L := by
  rcases ownsRow_form h with ⟨rfl, h0⟩ | ⟨g, cap, rfl, _⟩
  · exact .inl ⟨rfl, List.eq_nil_of_length_eq_zero h0⟩
  · exact .inr ⟨g, 0, cap, rfl, fun j u hu => by simpa using ownsRow_cell h rfl hu⟩

/-- What a copy is: it owns the same, in new memory. -/
def Cloned (w : World) (t : TypeId) (size n : Nat) (xs : List Value) (e : Ending) (w' : World) : Prop :=
  ∃ v, e = .returned v ∧ w'.ownsRow 0 t size v n xs ∧ Chg [] w w' ∧ ∀ k, v.ownBlock = some k → w.heap.size ≤ k

set_option maxHeartbeats 400000 in
theorem cloneEv_any {w : World} {v : Value} {n : Nat} {xs : List Value} (h : w.ownsRow 0 33 5 v n xs) (h1 : ∀ u ∈ xs, u.oneCell' = true) (hn : n ≤ 1000000) :
    Calls Try.prog 29 #[v] w (Cloned w 33 5 n xs) := by
  obtain ⟨i0, hi, hz0, hz1, hz2⟩ := info_parts infoEvent
  rcases ownsRow_form h with ⟨rfl, rfl⟩ | ⟨g, cap, rfl, hg, hc, hm⟩
  · have e0 := fun w => Lib.run_eql_slice_nil (P := Try.prog) w 29 33 none 0 0 0 0 Try.underlying29
    have H := Lib.hid h
    clear h
    go_enter Try.func29, Try.ntmps29
    go_wp2
    go_ret
    exact ⟨_, rfl, H.out, Chg.refl _ _, fun k hk => by simp [Value.ownBlock] at hk⟩
  · have e0 := fun w => Lib.run_eql_slice_nil (P := Try.prog) w 29 33 (some ⟨g, 0, none⟩) n cap 0 0 Try.underlying29
    have hl := h.1
    have hcell : ∀ j u, xs[j]? = some u → (w.alloc (.cells #[] 33)).cell? ((⟨g, 0, none⟩ : Addr).add j) = some u := (h.alloc _).cells rfl

    have hown : (w.alloc (.cells #[] 33)).ownsRow 0 33 5 (.slice (some ⟨w.heap.size, 0, none⟩) 0 0) 0 [] := World.ownsRow_made w #[] 0 (by omega) (by unfold maxLen; omega) (by simp)
    have H := Lib.hid h; have Hl := Lib.hid hl; have Hcell := Lib.hid hcell; have H1 := Lib.hid h1; have Hown := Lib.hid hown
    clear h hl hcell h1 hown
    go_enter Try.func29, Try.ntmps29
    go_wp2_with (at_builtin; go_must (refine wpList_append_own_at _ rfl (.tmp 5) (.tmp 6) 29 rfl 0 33 i0 _ 5 40 Try.underlying29 hi hz0 hz1 hz2 rfl (by decide) (.slice (some ⟨w.heap.size, 0, none⟩) 0 0) 0 [] rfl Hown.out ⟨g, 0, none⟩ n cap xs rfl Hl.out Hcell.out H1.out (by unfold maxLen; omega) (by omega) (by omega) ?_); intro v' w1 hown' hgrow hnil hat)
    go_ret
    refine ⟨v', rfl, by simpa using hown', ((Chg.refl _ _).alloc _).grown hgrow (fun k hk => ?_), fun k hk => ?_⟩
    · simp [Value.ownBlock] at hk; subst hk; exact .inr (Nat.le_refl _)
    · rcases hat with h | h
      · rw [h] at hk; simp [Value.ownBlock] at hk; omega
      · rw [h] at hk; simp at hk; omega

theorem evs_one (L : List Ev) : ∀ u ∈ evs L, u.oneCell' = true := by
  intro u hu
  unfold evs at hu
  obtain ⟨e, _, he⟩ := List.mem_flatMap.1 hu
  simp [Ev.cells] at he
  rcases he with rfl | rfl | rfl | rfl | rfl <;> rfl

set_option maxHeartbeats 400000 in
/-- Events tells all events, in new memory. -/
theorem events_any {w : World} {p : Nat} {fp : List Nat} {σ : MS} (h : MemAt w p fp σ) (hn : σ.log.length ≤ 1000000) :
    Calls Try.prog 14 #[.pointer (some ⟨p, 0, none⟩)] w (Cloned w 33 5 σ.log.length (evs σ.log)) := by
  obtain ⟨mb, v, n, f, h1, h2, h3, h4, h5, _⟩ := h
  have c0 : w.cell? ⟨p, 1, none⟩ = some v := h1.cell rfl
  have H5 := Lib.hid h5
  clear h1 h2 h3 h4 h5
  go_enter Try.func14, Try.ntmps14
  go_wp2_with fail
  refine (cloneEv_any H5.out (evs_one _) hn).mono ?_
  intro e w1 hc
  obtain ⟨v', he, k1, k2, k3⟩ := hc
  subst he
  have K1 := Lib.hid k1; have K2 := Lib.hid k2; have K3 := Lib.hid k3
  clear k1 k2 k3
  go_wp2
  go_ret
  exact ⟨v', rfl, K1.out, K2.out, K3.out⟩

end Go.Proofs.Ytcbipbnomgdklaa
