/- What each method of package mem leaves of a memory: note, turn, Load, Store, Swap, Add, Take, Read, Write, Len, New. -/
import Derived.Test.YtcbipbnomgdklaaMem
import Derived.Deep.RegionLaw
set_option linter.unusedSimpArgs false
set_option linter.unusedVariables false
namespace Go.Proofs.Ytcbipbnomgdklaa
open Go Go.RowKit Go.Maps

/-- Behind a method: the memory is σ now; its own blocks alone have turned. -/
def Left (w : World) (p : Nat) (fp : List Nat) (σ : MS) (w' : World) : Prop := ∃ fp', MemAt w' p fp' σ ∧ Chg fp w w' ∧ Own fp fp' w
def MS.put (σ : MS) (who kind : Int) (l : Lc) : MS := ⟨σ.log ++ [⟨who, kind, l⟩], σ.num⟩

theorem infoEvent : (Try.prog.info? 33).map (fun i => (i.zero, i.size, i.bytes)) = some (some (.agg #[.int .i64 0, .int .i64 0, .int .i64 0, .int .i64 0, .int .i64 0]), 5, 40) := by kernel_rfl

theorem heap_alloc_at {w : World} {k : Nat} (h : w.heap.size = k) (o : Obj) : (w.alloc o).drew.heap[k]? = some o := by subst h; exact heap_alloc_new w o

theorem Left.from_alloc {w : World} {p : Nat} {fp : List Nat} {σ : MS} {o : Obj} {w' : World} (h : Left (w.alloc o) p fp σ w') : Left w p fp σ w' := by
  obtain ⟨fp', h1, h2, h3⟩ := h
  refine ⟨fp', h1, ((Chg.refl fp w).alloc o).same h2, fun k hk => ?_⟩
  rcases h3 k hk with h | h
  · exact .inl h
  · right; simp at h; omega

theorem note_done {w W w1 : World} {p mb n gg cap : Nat} {v : Value} {f : Value → Option Value} {σ : MS} {fp : List Nat} {who kind : Int} {l : Lc} (hW : Chg [] w W)
    (h1 : Row w p [.map (some mb), v] 61) (h2 : MapIs Try.prog 23 w mb n f) (h3 : ∀ x y, f x = some y → ∃ a, y = .agg #[.int .u64 a] ∧ U64 a) (h4 : ∀ l : Lc, l.wf → numOf (f l.val) = σ.num l)
    (h5 : w.ownsRow 0 33 5 v σ.log.length (evs σ.log)) (hfp : fp = p :: mb :: v.ownBlock.toList) (hgrow : W.grownBy w1 v.ownBlock)
    (hown : w1.ownsRow 0 33 5 (.slice (some ⟨gg, 0, none⟩) (σ.log.length + 1) cap) (σ.log.length + 1) (evs σ.log ++ [.int .i64 who, .int .i64 kind, .int .i64 l.k, .int .i64 l.a, .int .i64 l.b]))
    (hat : v.ownBlock = some gg ∨ gg = W.heap.size) : Left w p fp (σ.put who kind l) (w1.setCell ⟨p, 1, none⟩ (.slice (some ⟨gg, 0, none⟩) (σ.log.length + 1) cap)) := by
  have np : v.ownBlock ≠ some p := ownsRow_not_row h5 h1 (by decide)
  have nm : v.ownBlock ≠ some mb := ownsRow_not_map h5 h2
  have nmp : p ≠ mb := h2.not_row h1
  have r1 : Row w1 p [.map (some mb), v] 61 := (h1.chg hW (by simp)).grown hgrow np
  have m1 : MapIs Try.prog 23 w1 mb n f := (h2.chg hW (by simp)).grown hgrow nm
  have ng : gg ≠ p := fun e => by
    have := ownsRow_not_row hown r1 (by decide)
    exact this (by simp [Value.ownBlock, e])
  have c1 : Chg fp w w1 := ((Chg.refl fp w).quiet hW).grown hgrow (fun k hk => .inl (by rw [hfp]; simp [hk]))
  refine ⟨p :: mb :: [gg], ⟨mb, _, n, f, r1.set 1 _, m1.setCell (Ne.symm nmp) _, h3, h4, ?_, rfl⟩, c1.setCell (.inl (by rw [hfp]; simp)) _, ?_⟩
  · have e : (σ.put who kind l).log.length = σ.log.length + 1 := by simp [MS.put]
    have e2 : evs (σ.put who kind l).log = evs σ.log ++ [.int .i64 who, .int .i64 kind, .int .i64 l.k, .int .i64 l.a, .int .i64 l.b] := by simp [MS.put, evs_append, Ev.cells]
    rw [e, e2]
    exact ownsRow_chg hown ((Chg.refl [p] w1).setCell (.inl (by simp)) _) (fun k hk => by simp [Value.ownBlock] at hk; subst hk; simpa using ng)
  · intro k hk
    simp at hk
    rw [hfp]
    rcases hk with rfl | rfl | rfl
    · simp
    · simp
    · rcases hat with h | h
      · simp [h]
      · right; rw [h]; exact hW.size

set_option maxHeartbeats 1000000 in
theorem note_any {w : World} {p : Nat} {fp : List Nat} {σ : MS} (h : MemAt w p fp σ) (who kind : Int) (l : Lc) (hn : σ.log.length ≤ 1000000) :
    Calls Try.prog 25 #[.pointer (some ⟨p, 0, none⟩), .int .i64 who, .int .i64 kind, l.val] w fun e w' => e = .returned (.tuple #[]) ∧ Left w p fp (σ.put who kind l) w' := by
  obtain ⟨mb, v, n, f, h1, h2, h3, h4, h5, hfp⟩ := h
  obtain ⟨i0, hi, hz0, hz1, hz2⟩ := info_parts infoEvent
  have c0 : w.cell? ⟨p, 1, none⟩ = some v := h1.cell rfl
  have lp := h1.lt
  have np : v.ownBlock ≠ some p := ownsRow_not_row h5 h1 (by decide)
  have nm : v.ownBlock ≠ some mb := ownsRow_not_map h5 h2
  have nmp : p ≠ mb := h2.not_row h1
  have lv := h5.lt
  have r2 : ∀ o1 o2, Row ((w.alloc o1).alloc o2).drew p [.map (some mb), v] 61 := fun o1 o2 => ((h1.alloc o1).alloc o2).drew
  have fin := fun W w1 gg cap => note_done (W := W) (w1 := w1) (gg := gg) (cap := cap) (who := who) (kind := kind) (l := l) (hfp := hfp) (h1 := h1) (h2 := h2) (h3 := h3) (h4 := h4) (h5 := h5)
  have R2 := Lib.hid r2; have Fin := Lib.hid fin; have Hnp := Lib.hid np
  clear h1 h2 h3 h4 hfp np lv nm nmp r2 fin
  unfold Lc.val
  go_enter Try.func25, Try.ntmps25
  go_wp2
  go_region_law
    ((refine step_append_lies _ (by rfl) _ _ _ (by rfl) 0 33 i0 _ 5 40 Try.underlying29 hi hz0 hz1 hz2 rfl (by omega) v σ.log.length (evs σ.log) (by rfl) ((h5.alloc _).alloc _).drew
        ⟨w.heap.size + 1, 0, none⟩ 1 1 [.int .i64 who, .int .i64 kind, .int .i64 l.k, .int .i64 l.a, .int .i64 l.b] (by rfl) (by rfl) (World.news_of_block (cs := #[.int .i64 who, .int .i64 kind, .int .i64 l.k, .int .i64 l.a, .int .i64 l.b]) (t := 33) (fr := (0, 0)) (heap_alloc_at (by simp) _)) (by simp [Value.oneCell'])
        (by omega) (by unfold maxLen; omega) (by omega) (by omega) (w.heap.size + 2) (by simp) ?_; intro gg cap w1 hown1 hgrow hat hlt; have r1 := (R2.out _ _).grown hgrow Hnp.out; have hc1 := r1.cell (j := 1) rfl; have hf1 := r1.free 1; have Hown := Lib.hid hown1; have Hg := Lib.hid hgrow; have Hat := Lib.hid hat; clear r1 hown1 hgrow hat))
  all_goals (go_wp2; go_end0; exact ⟨rfl, Fin.out _ _ _ _ ((((Chg.refl _ _).alloc _).alloc _).drew) Hg.out Hown.out (by simpa using Hat.out)⟩)

def MS.set (σ : MS) (l : Lc) (v : Int) : MS := ⟨σ.log, fun x => if x = l then v else σ.num x⟩

section
variable {w w' w'' : World} {p : Nat} {fp : List Nat} {σ σ' : MS}
theorem Left.quiet (h : Left w p fp σ w') (c : Chg [] w' w'') : Left w p fp σ w'' := by
  obtain ⟨fp', h1, h2, h3⟩ := h
  exact ⟨fp', h1.chg c (by simp), h2.quiet c, h3⟩
theorem MemAt.drew (h : MemAt w p fp σ) : MemAt w.drew p fp σ := h.chg (S := []) (Chg.refl _ _).drew (by simp)
theorem Own.up {f g : List Nat} {w w1 : World} (h : Own f g w1) (hs : w.heap.size ≤ w1.heap.size) : Own f g w := fun k hk => (h k hk).imp id (fun h => Nat.le_trans hs h)
theorem Left.chain {fp2 : List Nat} (c : Chg fp w w') (o : Own fp fp2 w) (h : Left w' p fp2 σ w'') : Left w p fp σ w'' := by
  obtain ⟨fp', h1, h2, h3⟩ := h
  exact ⟨fp', h1, c.trans h2 o, o.trans h3 c.size⟩
theorem Left.refl (h : MemAt w p fp σ) : Left w p fp σ w := ⟨fp, h, Chg.refl _ _, Own.refl _ _⟩
/-- A block that the method has made for itself is as it was. -/
theorem Left.row (h : Left w p fp σ w') {k : Nat} {vs : List Value} {t : TypeId} (r : Row w k vs t) (hk : k ∉ fp) : Row w' k vs t := by
  obtain ⟨fp', h1, h2, h3⟩ := h
  exact r.chg h2 hk
theorem MemAt.new (h : MemAt w p fp σ) : w.heap.size ∉ fp := fun hk => by have := h.lt _ hk; omega
end

/-- The map's element, set: what the numbers are then. -/
theorem mem_stored {w w2 w3 : World} {p mb n : Nat} {v : Value} {f : Value → Option Value} {σ : MS} {fp : List Nat} {l : Lc} {x : Int} (hl : l.wf) (hx : U64 x)
    (h1 : Row w2 p [.map (some mb), v] 61) (h3 : ∀ x y, f x = some y → ∃ a, y = .agg #[.int .u64 a] ∧ U64 a) (h4 : ∀ l : Lc, l.wf → numOf (f l.val) = σ.num l)
    (h5 : w2.ownsRow 0 33 5 v σ.log.length (evs σ.log)) (hfp : fp = p :: mb :: v.ownBlock.toList) (hc : Chg fp w w2) (hmb : mb ∈ fp)
    (h2 : MapIs Try.prog 23 w2 mb n f) (m3 : MapIs Try.prog 23 w3 mb (n + 1) (fun y => open Classical in if y = l.val then some (.agg #[.int .u64 x]) else f y)) (c3 : Chg [mb] w2 w3) : Left w p fp (σ.set l x) w3 := by
  have np := h2.not_row h1
  have no := ownsRow_not_map h5 h2
  refine ⟨fp, ⟨mb, v, n + 1, _, h1.chg c3 (by simpa using np), m3, ?_, ?_, ownsRow_chg h5 c3 (fun k hk => ?_), hfp⟩, hc.trans c3 (fun i hi => .inl (by simp at hi; subst hi; exact hmb)), Own.refl _ _⟩
  · intro y z hz
    by_cases e : y = l.val
    · have hz := (if_pos e).symm.trans hz
      exact ⟨x, by simpa using hz.symm, hx⟩
    · have hz := (if_neg e).symm.trans hz
      exact h3 y z hz
  · intro q hq
    unfold MS.set
    by_cases e : q = l
    · subst e
      simp [numOf, intOne]
    · have ne : q.val ≠ l.val := fun h => e (by cases q; cases l; simp [Lc.val] at h; simp [h])
      rw [if_neg ne]
      simp only []
      rw [if_neg e]
      exact h4 q hq
  · intro hm
    simp at hm
    subst hm
    exact no hk

set_option maxHeartbeats 400000 in
/-- turn: a number as a swap; what it was is told. -/
theorem turn_any {w : World} {p : Nat} {fp : List Nat} {σ : MS} (h : MemAt w p fp σ) (who : Int) (l : Lc) (hl : l.wf) (x : Int) (hx : U64 x) (hn : σ.log.length ≤ 1000000) :
    Calls Try.prog 26 #[.pointer (some ⟨p, 0, none⟩), .int .i64 who, l.val, .int .u64 x] w fun e w' => e = .returned (.int .u64 (σ.num l)) ∧ Left w p fp ((σ.put who 3 l).set l x) w' := by
  have hnew := h.new
  have hlt := h.lt
  have rb := Row.new w [.int .i64 l.k, .int .i64 l.a, .int .i64 l.b] 23
  have H := Lib.hid h; have Hnew := Lib.hid hnew; have Hlt := Lib.hid hlt; have Rb := Lib.hid rb
  clear h hnew hlt rb
  unfold Lc.val
  go_enter Try.func26, Try.ntmps26
  go_wp2_with fail
  refine (peek_any (H.out.alloc _) l hl).mono ?_
  rintro e w1 ⟨rfl, hc⟩
  have r1 := Rb.out.chg hc (by simp)
  have h1 := (H.out.alloc (.cells #[.int .i64 l.k, .int .i64 l.a, .int .i64 l.b] 23)).chg hc (by simp)
  have d0 := r1.cell (j := 0) rfl; have d1 := r1.cell (j := 1) rfl; have d2 := r1.cell (j := 2) rfl
  have H1 := Lib.hid h1; have R1 := Lib.hid r1; have C1 := Lib.hid hc
  clear h1 r1 hc
  go_wp2_with fail
  refine (note_any H1.out who 3 l hn).mono ?_
  rintro e w2 ⟨rfl, hL⟩
  have r2 := hL.row R1.out Hnew.out
  have e0 := r2.cell (j := 0) rfl; have e1 := r2.cell (j := 1) rfl; have e2 := r2.cell (j := 2) rfl
  clear d0 d1 d2
  obtain ⟨fp2, ⟨mb, v, n, f, k1, k2, k3, k4, k5, k6⟩, k7, k8⟩ := hL
  have c0 : w2.cell? ⟨p, 0, none⟩ = some (.map (some mb)) := k1.cell rfl
  have K1 := Lib.hid k1; have K3 := Lib.hid k3; have K4 := Lib.hid k4; have K5 := Lib.hid k5; have K6 := Lib.hid k6; have K7 := Lib.hid k7; have K8 := Lib.hid k8; have R2 := Lib.hid r2
  clear k1 k3 k4 k5 k6 k7 k8 r2
  obtain ⟨y, hy⟩ := keyOf_loc hl
  go_wp2_with fail
  go_still_tail 7, (by kernel_rfl)
  change wpList _ _ _ _ _ w2.drew
  refine wpList_mapUpdate_is _ rfl _ _ _ 59 rfl 23 64 lawLoc Try.underlying59 mb n f rfl (k2.drew) _ _ y rfl rfl hy ?_
  intro w3 m3 c3
  go_wp2
  go_ret
  refine ⟨rfl, ?_⟩
  have fin := mem_stored (w := w2) (w2 := w2.drew) hl hx K1.out.drew K3.out K4.out K5.out.drew K6.out (Chg.refl _ w2).drew (by rw [K6.out]; simp) k2.drew m3 c3
  exact Left.chain ((((Chg.refl fp w).alloc _).quiet C1.out).same K7.out) (K8.out.up (by have := C1.out.size; simp at this; omega)) fin

set_option maxHeartbeats 400000 in
/-- Load. -/
theorem load_any {w : World} {p : Nat} {fp : List Nat} {σ : MS} (h : MemAt w p fp σ) (who : Int) (l : Lc) (hl : l.wf) (hn : σ.log.length ≤ 1000000) :
    Calls Try.prog 15 #[.pointer (some ⟨p, 0, none⟩), .int .i64 who, l.val] w fun e w' => e = .returned (.int .u64 (σ.num l)) ∧ Left w p fp (σ.put who 1 l) w' := by
  have hnew := h.new
  have rb := Row.new w [.int .i64 l.k, .int .i64 l.a, .int .i64 l.b] 23
  have H := Lib.hid h; have Hnew := Lib.hid hnew; have Rb := Lib.hid rb
  clear h hnew rb
  unfold Lc.val
  go_enter Try.func15, Try.ntmps15
  go_wp2_with fail
  refine (note_any (H.out.alloc _) who 1 l hn).mono ?_
  rintro e w1 ⟨rfl, hL⟩
  have r1 := hL.row Rb.out Hnew.out
  have e0 := r1.cell (j := 0) rfl; have e1 := r1.cell (j := 1) rfl; have e2 := r1.cell (j := 2) rfl
  clear r1
  obtain ⟨fp1, k1, k2, k3⟩ := hL
  have K1 := Lib.hid k1; have K2 := Lib.hid k2; have K3 := Lib.hid k3
  clear k1 k2 k3
  go_wp2_with fail
  refine (peek_any K1.out l hl).mono ?_
  rintro e w2 ⟨rfl, hc⟩
  have C2 := Lib.hid hc
  clear hc
  go_wp2
  go_ret
  exact ⟨rfl, Left.quiet (Left.from_alloc ⟨fp1, K1.out, K2.out, K3.out⟩) C2.out⟩

set_option maxHeartbeats 400000 in
/-- Store. -/
theorem store_any {w : World} {p : Nat} {fp : List Nat} {σ : MS} (h : MemAt w p fp σ) (who : Int) (l : Lc) (hl : l.wf) (x : Int) (hx : U64 x) (hn : σ.log.length ≤ 1000000) :
    Calls Try.prog 18 #[.pointer (some ⟨p, 0, none⟩), .int .i64 who, l.val, .int .u64 x] w fun e w' => e = .returned (.tuple #[]) ∧ Left w p fp ((σ.put who 2 l).set l x) w' := by
  have hnew := h.new
  have rb := Row.new w [.int .i64 l.k, .int .i64 l.a, .int .i64 l.b] 23
  have H := Lib.hid h; have Hnew := Lib.hid hnew; have Rb := Lib.hid rb
  clear h hnew rb
  unfold Lc.val
  go_enter Try.func18, Try.ntmps18
  go_wp2_with fail
  refine (note_any (H.out.alloc _) who 2 l hn).mono ?_
  rintro e w2 ⟨rfl, hL⟩
  have r2 := hL.row Rb.out Hnew.out
  have e0 := r2.cell (j := 0) rfl; have e1 := r2.cell (j := 1) rfl; have e2 := r2.cell (j := 2) rfl
  obtain ⟨fp2, ⟨mb, v, n, f, k1, k2, k3, k4, k5, k6⟩, k7, k8⟩ := hL
  have c0 : w2.cell? ⟨p, 0, none⟩ = some (.map (some mb)) := k1.cell rfl
  have K1 := Lib.hid k1; have K3 := Lib.hid k3; have K4 := Lib.hid k4; have K5 := Lib.hid k5; have K6 := Lib.hid k6; have K7 := Lib.hid k7; have K8 := Lib.hid k8; have R2 := Lib.hid r2
  clear k1 k3 k4 k5 k6 k7 k8 r2
  obtain ⟨y, hy⟩ := keyOf_loc hl
  go_wp2_with fail
  go_still_tail 7, (by kernel_rfl)
  change wpList _ _ _ _ _ w2.drew
  refine wpList_mapUpdate_is _ rfl _ _ _ 59 rfl 23 64 lawLoc Try.underlying59 mb n f rfl (k2.drew) _ _ y rfl rfl hy ?_
  intro w3 m3 c3
  go_wp2
  go_end0
  refine ⟨rfl, ?_⟩
  have fin := mem_stored (w := w2) (w2 := w2.drew) hl hx K1.out.drew K3.out K4.out K5.out.drew K6.out (Chg.refl _ w2).drew (by rw [K6.out]; simp) k2.drew m3 c3
  exact Left.chain (((Chg.refl fp w).alloc _).same K7.out) (K8.out.up (by simp)) fin

set_option maxHeartbeats 400000 in
/-- Take. -/
theorem take_any {w : World} {p : Nat} {fp : List Nat} {σ : MS} (h : MemAt w p fp σ) (who : Int) (l : Lc) (hl : l.wf) (x : Int) (hx : U64 x) (hn : σ.log.length ≤ 1000000) :
    Calls Try.prog 16 #[.pointer (some ⟨p, 0, none⟩), .int .i64 who, l.val, .int .u64 x] w fun e w' => e = .returned (.int .u64 (σ.num l)) ∧ Left w p fp ((σ.put who 3 l).set l x) w' := by
  have hlt := h.lt
  have H := Lib.hid h; have Hlt := Lib.hid hlt
  clear h hlt
  unfold Lc.val
  go_enter Try.func16, Try.ntmps16
  go_wp2_with fail
  refine (turn_any (H.out.alloc _) who l hl x hx hn).mono ?_
  rintro e w2 ⟨rfl, hL⟩
  have L := Lib.hid hL
  clear hL
  go_wp2
  go_ret
  exact ⟨rfl, Left.from_alloc L.out⟩

theorem u64_wrap (n : Int) : U64 (IntKind.u64.wrap n) := by
  rw [IntKind.wrap_u64]
  unfold U64
  omega

set_option maxHeartbeats 1000000 in
/-- Add. -/
theorem add_any {w : World} {p : Nat} {fp : List Nat} {σ : MS} (h : MemAt w p fp σ) (who : Int) (l : Lc) (hl : l.wf) (x : Int) (hx : U64 x) (hn : σ.log.length ≤ 1000000) :
    Calls Try.prog 17 #[.pointer (some ⟨p, 0, none⟩), .int .i64 who, l.val, .int .u64 x] w fun e w' => e = .returned (.int .u64 (σ.num l)) ∧ Left w p fp ((σ.put who 3 l).set l (IntKind.u64.wrap (σ.num l + x))) w' := by
  have hnew := h.new
  have hlt := h.lt
  have rb := Row.new w [.int .i64 l.k, .int .i64 l.a, .int .i64 l.b] 23
  have H := Lib.hid h; have Hnew := Lib.hid hnew; have Hlt := Lib.hid hlt; have Rb := Lib.hid rb
  have hu := u64_wrap (σ.num l + x)
  have Hu := Lib.hid hu
  clear h hnew hlt rb hu
  unfold Lc.val
  go_enter Try.func17, Try.ntmps17
  go_wp2_with fail
  go_region_held3 (fun w' => w'.cell? ⟨w.heap.size, 0, none⟩ = some (.int .i64 l.k) ∧ w'.cell? ⟨w.heap.size, 1, none⟩ = some (.int .i64 l.a) ∧ w'.cell? ⟨w.heap.size, 2, none⟩ = some (.int .i64 l.b))
    (go_keep)
    (first
      | (go_at_call 12
         refine (peek_any (H.out.alloc _).drew l hl).mono ?_
         rintro e w1 ⟨rfl, hc⟩
         have d0 := (Rb.out.drew.chg hc (by simp)).cell (j := 0) rfl
         have d1 := (Rb.out.drew.chg hc (by simp)).cell (j := 1) rfl
         have d2 := (Rb.out.drew.chg hc (by simp)).cell (j := 2) rfl
         have C1 := Lib.hid hc
         clear hc)
      | (go_at_call 26
         refine (turn_any ((H.out.alloc _).drew.chg C1.out (by simp)) who l hl _ Hu.out hn).mono ?_
         rintro e w2 ⟨rfl, hL⟩
         have r2 := hL.row (Rb.out.drew.chg C1.out (by simp)) Hnew.out
         have d3 := r2.cell (j := 0) rfl
         have d4 := r2.cell (j := 1) rfl
         have d5 := r2.cell (j := 2) rfl
         have L := Lib.hid hL
         clear hL r2))
  go_wp2
  go_ret
  exact ⟨rfl, Left.chain ((((Chg.refl fp w).alloc _).drew).quiet C1.out) (Own.refl _ _) L.out⟩
end Go.Proofs.Ytcbipbnomgdklaa
