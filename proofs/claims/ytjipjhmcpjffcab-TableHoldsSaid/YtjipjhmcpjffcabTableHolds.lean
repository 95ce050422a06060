/- TableHolds: what was put in a slot is told till it is cleared, or another is put there; other slots stay. -/
import Derived.Test.YtjipjhmcpjffcabTabT
import Derived.Test.YtjipjhmcpjffcabBoxes
set_option linter.unusedSimpArgs false
set_option linter.unusedVariables false
namespace Go.Proofs.Ytjipjhmcpjffcab
open Go Go.RowKit Go.Maps

def bs (h : Nat → Bool) : List Value := (List.range 9).map fun j => .bool (h j)
def ns (f : Nat → Int) : List Value := (List.range 9).map fun j => .int .i64 (f j)
theorem bs_get {h : Nat → Bool} {j : Nat} (hj : j < 9) : (bs h)[j]? = some (.bool (h j)) := by simp [bs, hj]
theorem ns_get {f : Nat → Int} {j : Nat} (hj : j < 9) : (ns f)[j]? = some (.int .i64 (f j)) := by simp [ns, hj]
def upd {α : Type} (f : Nat → α) (j : Nat) (v : α) : Nat → α := fun i => if i = j then v else f i
theorem bs_set (h : Nat → Bool) (j : Nat) (b : Bool) : (bs h).set j (.bool b) = bs (upd h j b) := by
  refine List.ext_getElem (by simp [bs]) (fun i h1 h2 => ?_)
  rw [List.getElem_set]
  simp only [bs, List.getElem_map, List.getElem_range, upd]
  by_cases e : j = i
  · subst e; simp
  · rw [if_neg e, if_neg (fun h => e h.symm)]
theorem ns_set (f : Nat → Int) (j : Nat) (b : Int) : (ns f).set j (.int .i64 b) = ns (upd f j b) := by
  refine List.ext_getElem (by simp [ns]) (fun i h1 h2 => ?_)
  rw [List.getElem_set]
  simp only [ns, List.getElem_map, List.getElem_range, upd]
  by_cases e : j = i
  · subst e; simp
  · rw [if_neg e, if_neg (fun h => e h.symm)]

/-- A flow and an object that may be. -/
def Okay (f b : Int) : Prop := 0 ≤ f ∧ f ≤ 1048576 ∧ 0 ≤ b ∧ b < 4294967296
theorem slotR_N {f b : Int} (h : Okay f b) : slotR (slotN f b) = .tuple #[.int .i64 f, .int .i64 b, .bool true] := by
  obtain ⟨h0, h1, h2, h3⟩ := h
  have hz : slotN f b ≠ 0 := by unfold slotN; omega
  rw [slotR_yes hz]
  have e1 : slotN f b / 4294967296 - 1 = f := by unfold slotN; omega
  have e2 : slotN f b % 4294967296 = b := by unfold slotN; omega
  rw [e1, e2]
/-- The slots are as they are held. -/
def HoldIs (σ : MS) (h : Nat → Bool) (f b : Nat → Int) : Prop :=
  (∀ s k : Nat, s < 3 → k < 3 → σ.num (slotL s k) = if h (s * 3 + k) = true then slotN (f (s * 3 + k)) (b (s * 3 + k)) else 0) ∧ ∀ j, Okay (f j) (b j)
theorem HoldIs.num {σ τ : MS} {h : Nat → Bool} {f b : Nat → Int} (H : HoldIs σ h f b) (e : τ.num = σ.num) : HoldIs τ h f b := by
  refine ⟨fun s k hs hk => ?_, H.2⟩
  rw [e]
  exact H.1 s k hs hk
theorem slotL_ne {s k s' k' : Nat} (h : s * 3 + k ≠ s' * 3 + k') : slotL (s : Int) (k : Int) ≠ slotL (s' : Int) (k' : Int) := fun e => by
  have e1 : (s : Int) = s' := congrArg Lc.a e
  have e2 : (k : Int) = k' := congrArg Lc.b e
  exact h (by omega)
theorem HoldIs.clear {σ : MS} {h : Nat → Bool} {f b : Nat → Int} (H : HoldIs σ h f b) (who : Int) (s k : Nat) (hs : s < 3) (hk : k < 3) : HoldIs ((σ.put who 2 (slotL s k)).set (slotL s k) 0) (upd h (s * 3 + k) false) f b := by
  refine ⟨fun s' k' hs' hk' => ?_, H.2⟩
  unfold MS.set upd
  by_cases e : s' * 3 + k' = s * 3 + k
  · have e1 : s' = s := by omega
    have e2 : k' = k := by omega
    subst e1; subst e2
    simp
  · simp only [if_neg (slotL_ne e), if_neg e]
    exact H.1 s' k' hs' hk'
theorem HoldIs.put {σ : MS} {h : Nat → Bool} {f b : Nat → Int} (H : HoldIs σ h f b) (who : Int) (s k : Nat) (hs : s < 3) (hk : k < 3) {x y : Int} (ok : Okay x y) :
    HoldIs ((σ.put who 2 (slotL s k)).set (slotL s k) (slotN x y)) (upd h (s * 3 + k) true) (upd f (s * 3 + k) x) (upd b (s * 3 + k) y) := by
  refine ⟨fun s' k' hs' hk' => ?_, fun j => ?_⟩
  · unfold MS.set upd
    by_cases e : s' * 3 + k' = s * 3 + k
    · have e1 : s' = s := by omega
      have e2 : k' = k := by omega
      subst e1; subst e2
      simp
    · simp only [if_neg (slotL_ne e), if_neg e]
      exact H.1 s' k' hs' hk'
  · unfold upd
    by_cases e : j = s * 3 + k
    · simp only [if_pos e]; exact ok
    · simp only [if_neg e]; exact H.2 j
theorem stars_mem {As : List HA} {w : World} : ∀ {fp : List Nat} {j b : Nat} {vs : List Value} {t : TypeId}, (stars As).holds w fp → As[j]? = some (box b vs t) → b ∈ fp := by
  induction As with
  | nil => intro fp j b vs t _ h; simp at h
  | cons A As ih =>
    rintro fp j b vs t ⟨f, g, h1, h2, h3, rfl⟩ hj
    cases j with
    | zero => simp at hj; subst hj; obtain ⟨_, rfl⟩ := h1; simp
    | succ j => exact List.mem_append.2 (.inr (ih h2 (by simpa using hj)))
theorem stars_ne {As : List HA} {w : World} : ∀ {fp : List Nat} {i j a b : Nat} {vs us : List Value} {t r : TypeId}, (stars As).holds w fp → i < j → As[i]? = some (box a vs t) → As[j]? = some (box b us r) → a ≠ b := by
  induction As with
  | nil => intro fp i j a b vs us t r _ _ h; simp at h
  | cons A As ih =>
    rintro fp i j a b vs us t r ⟨f, g, h1, h2, h3, rfl⟩ hij hi hj
    cases j with
    | zero => omega
    | succ j =>
      cases i with
      | zero =>
        simp at hi
        subst hi
        obtain ⟨_, rfl⟩ := h1
        have := stars_mem (vs := us) (t := r) h2 (j := j) (by simpa using hj)
        exact fun e => h3 a (by simp) (e ▸ this)
      | succ i => exact ih (vs := vs) (us := us) (t := t) (r := r) h2 (by omega : i < j) (by simpa using hi) (by simpa using hj)
theorem Scope.ne {S : List Nat} {w0 w : World} {As : List HA} {i j a b : Nat} {vs us : List Value} {t r : TypeId} (h : Scope S w0 w As) (hij : i < j) (hi : As[i]? = some (Go.Proofs.Ytjipjhmcpjffcab.box a vs t)) (hj : As[j]? = some (Go.Proofs.Ytjipjhmcpjffcab.box b us r)) : a ≠ b := by
  obtain ⟨_, fp, h1, _⟩ := h
  exact stars_ne h1 hij hi hj

set_option maxHeartbeats 8000000 in
set_option maxRecDepth 20000 in
theorem tableHolds_row {w : World} (a b : Int) (v : Value) (L : List Us) (_ : I64 a) (_ : I64 b) (_ : True) (h : UsesAt w v L) :
    Calls Try.prog 5 #[.int .i64 a, .int .i64 b, v] w fun e w' => e = .returned (.bool true) ∧ Below w.heap.size w w' := by
  obtain ⟨oa, cp, rfl, hlc, hcm, hel⟩ := h.form
  obtain ⟨n, hn⟩ : ∃ n, n = L.length := ⟨_, rfl⟩
  rw [← hn] at hlc ⊢
  have Hel := Lib.hid hel; have Hn := Lib.hid hn; have S0 := Lib.hid (Scope.empty w)
  clear hel hn h
  go_enter Try.func5, Try.ntmps5
  go_wp2_with fail
  refine (made19_scope S0.out a b).mono ?_
  rintro e w1 ⟨m, p, q, x, rfl, s1⟩
  have S1 := Lib.hid s1
  clear s1
  generalize cl (mshard a b) = sh at S1 ⊢
  generalize cl (mslots a b) = sl at S1 ⊢
  go_wp2_with fail
  refine (awake19_scope S1.out).mono ?_
  rintro e w2 ⟨rfl, s2⟩
  have hb0 : (bs fun _ => false) = [.bool false, .bool false, .bool false, .bool false, .bool false, .bool false, .bool false, .bool false, .bool false] := rfl
  have hn0 : (ns fun _ => 0) = [.int .i64 0, .int .i64 0, .int .i64 0, .int .i64 0, .int .i64 0, .int .i64 0, .int .i64 0, .int .i64 0, .int .i64 0] := rfl
  have t3 := ((s2.box [.bool false, .bool false, .bool false, .bool false, .bool false, .bool false, .bool false, .bool false, .bool false] 46).box [.int .i64 0, .int .i64 0, .int .i64 0, .int .i64 0, .int .i64 0, .int .i64 0, .int .i64 0, .int .i64 0, .int .i64 0] 48).box [.int .i64 0, .int .i64 0, .int .i64 0, .int .i64 0, .int .i64 0, .int .i64 0, .int .i64 0, .int .i64 0, .int .i64 0] 48
  have S2 := Lib.hid (show Scope [] w (((w2.alloc (.cells #[.bool false, .bool false, .bool false, .bool false, .bool false, .bool false, .bool false, .bool false, .bool false] 46)).alloc (.cells #[.int .i64 0, .int .i64 0, .int .i64 0, .int .i64 0, .int .i64 0, .int .i64 0, .int .i64 0, .int .i64 0, .int .i64 0] 48)).alloc (.cells #[.int .i64 0, .int .i64 0, .int .i64 0, .int .i64 0, .int .i64 0, .int .i64 0, .int .i64 0, .int .i64 0, .int .i64 0] 48)) [tabA p m sh sl MS.zero, rtabA q x 0 sh sl MS.zero, box w2.heap.size (bs fun _ => false) 46, box (w2.heap.size + 1) (ns fun _ => 0) 48, box (w2.heap.size + 1 + 1) (ns fun _ => 0) 48] from by rw [hb0, hn0]; simpa using t3)
  clear s2 t3 hb0 hn0
  go_wp2_with fail
  generalize ((w2.alloc _).alloc _).alloc _ = W at S2 ⊢
  generalize w2.heap.size = Bh at S2 ⊢
  generalize Bh + 1 = Bf at S2 ⊢
  generalize Bf + 1 = Bo at S2 ⊢
  go_loopw [13] (fun i' wr => ∃ (i : Nat) (σ : MS) (hs : Nat → Bool) (fl ob : Nat → Int), i ≤ n ∧ i ≤ 60 ∧ i' = .int .i64 i ∧ σ.log.length ≤ 10 * i ∧ HoldIs σ hs fl ob ∧ Scope [] w wr [tabA p m sh sl σ, rtabA q x 0 sh sl MS.zero, box Bh (bs hs) 46, box Bf (ns fl) 48, box Bo (ns ob) 48]) (fun i _ => n - (intOf i).toNat)
  case atStart => exact ⟨0, MS.zero, fun _ => false, fun _ => 0, fun _ => 0, by omega, by omega, rfl, by simp [MS.zero], ⟨fun _ _ _ _ => rfl, fun _ => (show Okay 0 0 from ⟨by omega, by omega, by omega, by omega⟩)⟩, S2.out⟩
  case round =>
    obtain ⟨i, σ, hs, fl, ob, hk, hk2, rfl, hlg, hin, hsc⟩ := hrel
    have Sr := Lib.hid hsc; have Hin := Lib.hid hin
    clear hsc hin S2
    by_cases hlt : i < n
    · by_cases h60 : i < 60
      · obtain ⟨u, hu⟩ : ∃ u, L[i]? = some u := ⟨_, List.getElem?_eq_getElem (by rw [← Hn.out]; exact hlt)⟩
        obtain ⟨hw, g, off, rfl, hc⟩ := Hel.out i u hu
        obtain ⟨d0, d1, d2, d3, d4, d5, d6, d7, d8⟩ := hc wr Sr.out.1
        have n0 := hw.2.2.2.2.1.1
        have ec : IntKind.i64.wrap (u.n % 4294967296) = u.n % 4294967296 := by rw [IntKind.wrap_i64]; omega
        have et : u.n.tmod 4294967296 = u.n % 4294967296 := Int.tmod_eq_emod_of_nonneg n0
        clear hc hu hw
        have i1 : (i : Int) < (n : Int) := by omega
        have i0 : (0 : Int) ≤ (i : Int) := by omega
        have s1 : Scope [] w (wr.alloc (.cells #[.int .i64 u.k, .int .i64 u.who, .int .i64 u.obj, .int .i64 u.i, .int .u64 u.n, .int .u64 u.m, .int .i64 u.flow, .int .i64 u.len, .int .i64 u.mark] 39)) [tabA p m sh sl σ, rtabA q x 0 sh sl MS.zero, box Bh (bs hs) 46, box Bf (ns fl) 48, box Bo (ns ob) 48, box wr.heap.size u.cells 39] := Sr.out.box u.cells 39
        have S1 := Lib.hid s1
        clear s1
        have ms := mod_lt u.obj (n := 3) (by omega); have mk := mod_lt u.i (n := 3) (by omega)
        obtain ⟨s, hs'⟩ := Int.eq_ofNat_of_zero_le ms.1
        obtain ⟨k, hk'⟩ := Int.eq_ofNat_of_zero_le mk.1
        have s3 : s < 3 := by omega
        have k3 : k < 3 := by omega
        have m1 : ∀ w, Calls Try.prog 12 #[.int .i64 u.obj, .int .i64 3] w fun e w' => e = .returned (.int .i64 (s : Int)) ∧ w' = w := fun w => by rw [← hs']; exact mod_any (by omega) (by omega) w
        have m2 : ∀ w, Calls Try.prog 12 #[.int .i64 u.i, .int .i64 3] w fun e w' => e = .returned (.int .i64 (k : Int)) ∧ w' = w := fun w => by rw [← hk']; exact mod_any (by omega) (by omega) w
        have M1 := Lib.hid m1; have M2 := Lib.hid m2
        clear ms mk hs' hk' m1 m2
        have js : (s : Int) < 3 := by omega
        have js0 : (0 : Int) ≤ (s : Int) := by omega
        have jk : (k : Int) < 3 := by omega
        have jk0 : (0 : Int) ≤ (k : Int) := by omega
        go_wp2_with fail
        generalize wr.alloc _ = W1 at S1 ⊢
        generalize wr.heap.size = Bu at S1 ⊢
        clear d0 d1 d2 d3 d4 d5 d6 d7 d8
        obtain ⟨d0, d1, d2, d3, d4, d5, d6, d7, d8⟩ := (S1.out.rowm (k := Bu) (vs := u.cells) (t := 39) (by simp)).cells9
        go_quiet ((first
          | (go_at_call_of 12 (Value.int .i64 u.obj); exact Calls.quiet_of_same (M1.out _))
          | (go_at_call_of 12 (Value.int .i64 u.i); exact Calls.quiet_of_same (M2.out _))))
        go_wp2_with fail
        refine (what_any u (n := 4) (by omega) (by omega) _).mono ?_
        rintro e w4 ⟨he, hc⟩
        have S4 := Lib.hid ((S1.out.quiet ((Chg.refl _ _).drewN nq)).quiet hc)
        clear hc d0 d1 d2 d3 d4 d5 d6 d7 d8
        obtain ⟨d0, d1, d2, d3, d4, d5, d6, d7, d8⟩ := (S4.out.rowm (k := Bu) (vs := u.cells) (t := 39) (by simp)).cells9
        clear d0 d2 d3 d5 d7 d8
        by_cases hz : u.what 4 = 0
        · rw [hz] at he
          subst he
          clear hz d4 d6
          go_wp2_with fail
          refine ((tclear_does u.who s k (by unfold I64; omega) (by unfold I64; omega) (by omega)).at0 S4.out).mono ?_
          rintro e w5 ⟨rfl, s5⟩
          have r5 := s5.rowm (k := Bh) (vs := bs hs) (t := 46) (by simp)
          have f5 := r5.free (s * 3 + k)
          have z5 : w5.cell? ⟨Bh, s * 3 + k, none⟩ = some (.bool (hs (s * 3 + k))) := r5.cell (bs_get (by omega))
          have S5 := Lib.hid s5
          clear s5 r5 d1
          go_wp2_with fail
          have q6 := Scope.setbox (As := [tabA p m sh sl _, rtabA q x 0 sh sl MS.zero]) (Bs := [box Bf (ns fl) 48, box Bo (ns ob) 48, box Bu u.cells 39]) S5.out (s * 3 + k) (.bool false)
          rw [bs_set] at q6
          have S6 := Lib.hid q6
          have hi := Hin.out.clear u.who s k s3 k3
          have lg : ((σ.put u.who 2 (slotL s k)).set (slotL s k) 0).log.length ≤ 10 * i + 1 := by simp [MS.put, MS.set]; omega
          have Hi := Lib.hid hi
          clear q6 hi S5 f5 z5
          generalize w5.setCell _ _ = wz at S6 ⊢
          generalize hσ1 : ((σ.put u.who 2 (slotL s k)).set (slotL s k) 0) = σ1 at S6 Hi lg
          generalize (upd hs (s * 3 + k) false) = hs1 at S6 Hi
          generalize fl = fl1 at S6 Hi
          generalize ob = ob1 at S6 Hi
          clear hσ1
          obtain ⟨wo, hwo⟩ : ∃ wo : World, wo = wz := ⟨_, rfl⟩
          subst hwo
          go_loopw [17] (fun a wr => ∃ (ka : Nat) (σ2 : MS), ka ≤ 3 ∧ a = .int .i64 ka ∧ σ2.num = σ1.num ∧ σ2.log.length ≤ σ1.log.length + 3 * ka ∧ Scope [] w wr [tabA p m sh sl σ2, rtabA q x 0 sh sl MS.zero, box Bh (bs hs1) 46, box Bf (ns fl1) 48, box Bo (ns ob1) 48, box Bu u.cells 39]) (fun a _ => 3 - (intOf a).toNat)
          case atStart => exact ⟨0, σ1, by omega, rfl, rfl, by omega, S6.out⟩
          case round =>
            obtain ⟨ka, σ2, hka, rfl, hnum2, hlg2, hs2⟩ := hrel
            have Q2 := Lib.hid hs2; have N2 := Lib.hid hnum2
            clear hs2 hnum2 S6
            by_cases hla : ka < 3
            · obtain ⟨wp, hwp⟩ : ∃ wp : World, wp = wr := ⟨_, rfl⟩
              subst hwp
              have ja : (ka : Int) < 3 := by omega
              have ja0 : (0 : Int) ≤ (ka : Int) := by omega
              go_wp2_with fail
              go_loopw [18] (fun b wr => ∃ (kb : Nat) (σ3 : MS), kb ≤ 3 ∧ b = .int .i64 kb ∧ σ3.num = σ1.num ∧ σ3.log.length ≤ σ1.log.length + 3 * ka + kb ∧ Scope [] w wr [tabA p m sh sl σ3, rtabA q x 0 sh sl MS.zero, box Bh (bs hs1) 46, box Bf (ns fl1) 48, box Bo (ns ob1) 48, box Bu u.cells 39]) (fun b _ => 3 - (intOf b).toNat)
              case atStart => exact ⟨0, σ2, by omega, rfl, N2.out, by omega, Q2.out⟩
              case round =>
                obtain ⟨kb, σ3, hkb, rfl, hnum3, hlg3, hs3⟩ := hrel
                have Q3 := Lib.hid hs3; have N3 := Lib.hid hnum3
                clear hs3 hnum3 Q2
                by_cases hlb : kb < 3
                · have jb : (kb : Int) < 3 := by omega
                  have jb0 : (0 : Int) ≤ (kb : Int) := by omega
                  have hi := Hi.out.1 ka kb hla hlb
                  have hb := Hi.out.2 (ka * 3 + kb)
                  rw [← N3.out] at hi
                  have hiu := Q3.out.tab_u64 (slotL_wf (s := (ka : Int)) (i := (kb : Int)) (by unfold I64; omega) (by unfold I64; omega))
                  have Iu := Lib.hid hiu; have Ii := Lib.hid hi; have Ib := Lib.hid hb
                  clear hi hb hiu
                  go_wp2_with fail
                  refine ((tslot_does (i : Int) ka kb (by unfold I64; omega) (by unfold I64; omega) (by omega) Iu.out).at0 Q3.out).mono ?_
                  rintro e wv ⟨he, sv⟩
                  have z1 : wv.cell? ⟨Bh, ka * 3 + kb, none⟩ = some (.bool (hs1 (ka * 3 + kb))) := (sv.rowm (k := Bh) (vs := bs hs1) (t := 46) (by simp)).cell (bs_get (by omega))
                  have z2 : wv.cell? ⟨Bf, ka * 3 + kb, none⟩ = some (.int .i64 (fl1 (ka * 3 + kb))) := (sv.rowm (k := Bf) (vs := ns fl1) (t := 48) (by simp)).cell (ns_get (by omega))
                  have z3 : wv.cell? ⟨Bo, ka * 3 + kb, none⟩ = some (.int .i64 (ob1 (ka * 3 + kb))) := (sv.rowm (k := Bo) (vs := ns ob1) (t := 48) (by simp)).cell (ns_get (by omega))
                  have Qv := Lib.hid sv
                  clear sv
                  cases hh : hs1 (ka * 3 + kb) with
                  | true =>
                    rw [Ii.out, hh, if_pos rfl, slotR_N Ib.out] at he
                    subst he
                    rw [hh] at z1
                    clear hh
                    go_wp2_with fail
                    go_roundw
                    case rel => exact ⟨kb + 1, σ3.put i 1 (slotL ka kb), by omega, by go_num, N3.out, (by simp [MS.put]; omega), Qv.out⟩
                    case measure => simp [intOf]; omega
                  | false =>
                    rw [Ii.out, hh, if_neg (by simp), slotR_no rfl] at he
                    subst he
                    rw [hh] at z1
                    clear hh
                    go_wp2_with fail
                    go_roundw
                    case rel => exact ⟨kb + 1, σ3.put i 1 (slotL ka kb), by omega, by go_num, N3.out, (by simp [MS.put]; omega), Qv.out⟩
                    case measure => simp [intOf]; omega
                · go_wp2
                  go_roundw
                  case rel => exact ⟨ka + 1, σ3, by omega, by go_num, N3.out, by omega, Q3.out⟩
                  case measure => simp [intOf]; omega
            · go_wp2
              go_roundw
              case rel => exact ⟨i + 1, σ2, hs1, fl1, ob1, by omega, by omega, by go_num, by omega, Hi.out.num N2.out, Scope.drop (Bs := [box Bu u.cells 39]) (As := [tabA p m sh sl σ2, rtabA q x 0 sh sl MS.zero, box Bh (bs hs1) 46, box Bf (ns fl1) 48, box Bo (ns ob1) 48]) Q2.out⟩
              case measure => simp [intOf]; omega
        · have hz' : (u.what 4 == 0) = false := by simpa using hz
          subst he
          have Hz := Lib.hid hz
          clear hz
          have mf : ∀ w, Calls Try.prog 12 #[.int .i64 u.flow, .int .i64 1048577] w fun e w' => e = .returned (.int .i64 (mod u.flow 1048577)) ∧ w' = w := fun w => mod_any (by omega) (by omega) w
          have mfb := mod_lt u.flow (n := 1048577) (by omega)
          have ok : Okay (mod u.flow 1048577) (u.n % 4294967296) := ⟨mfb.1, by omega, by omega, by omega⟩
          have Mf := Lib.hid mf; have Ok := Lib.hid ok
          clear mf mfb ok
          have rh := S4.out.rowm (k := Bh) (vs := bs hs) (t := 46) (by simp)
          have rf := S4.out.row (k := Bf) (vs := ns fl) (t := 48) 3 rfl
          have ro := S4.out.row (k := Bo) (vs := ns ob) (t := 48) 4 rfl
          have fh := rh.free (s * 3 + k); have ff := rf.free (s * 3 + k); have fo := ro.free (s * 3 + k)
          have zh : w4.cell? ⟨Bh, s * 3 + k, none⟩ = some (.bool (hs (s * 3 + k))) := rh.cell (bs_get (by omega))
          have zf : w4.cell? ⟨Bf, s * 3 + k, none⟩ = some (.int .i64 (fl (s * 3 + k))) := rf.cell (ns_get (by omega))
          have zo : w4.cell? ⟨Bo, s * 3 + k, none⟩ = some (.int .i64 (ob (s * 3 + k))) := ro.cell (ns_get (by omega))
          have n1 := S4.out.ne (i := 2) (j := 3) (by omega) rfl rfl; have n2 := S4.out.ne (i := 2) (j := 4) (by omega) rfl rfl; have n3 := S4.out.ne (i := 2) (j := 5) (by omega) rfl rfl
          have n4 := S4.out.ne (i := 3) (j := 4) (by omega) rfl rfl; have n5 := S4.out.ne (i := 3) (j := 5) (by omega) rfl rfl; have n6 := S4.out.ne (i := 4) (j := 5) (by omega) rfl rfl
          have n1' := n1.symm; have n2' := n2.symm; have n3' := n3.symm; have n4' := n4.symm; have n5' := n5.symm; have n6' := n6.symm
          clear rh rf ro
          go_wp2_with fail
          go_region_held3 (fun w' => w'.cell? ⟨Bu, 1, none⟩ = some (.int .i64 u.who) ∧ w'.cell? ⟨Bu, 4, none⟩ = some (.int .u64 u.n) ∧ w'.cell? ⟨Bu, 6, none⟩ = some (.int .i64 u.flow)) (go_keep)
            (first
              | (go_at_call 12
                 refine (Mf.out _).mono ?_
                 rintro e wm ⟨rfl, rfl⟩))
          clear fh ff fo zh zf zo
          have q5 := Scope.setbox (As := [tabA p m sh sl σ, rtabA q x 0 sh sl MS.zero, box Bh (bs hs) 46]) (Bs := [box Bo (ns ob) 48, box Bu u.cells 39]) S4.out (s * 3 + k) (.int .i64 (mod u.flow 1048577))
          rw [ns_set] at q5
          have q6 := Scope.setbox (As := [tabA p m sh sl σ, rtabA q x 0 sh sl MS.zero, box Bh (bs hs) 46, box Bf _ 48]) (Bs := [box Bu u.cells 39]) q5 (s * 3 + k) (.int .i64 (u.n % 4294967296))
          rw [ns_set] at q6
          have q7 := Scope.setbox (As := [tabA p m sh sl σ, rtabA q x 0 sh sl MS.zero]) (Bs := [box Bf _ 48, box Bo _ 48, box Bu u.cells 39]) q6 (s * 3 + k) (.bool true)
          rw [bs_set] at q7
          have S7 := Lib.hid q7
          clear q5 q6 q7 d1 d4 d6 n1 n2 n3 n4 n5 n6 n1' n2' n3' n4' n5' n6'
          generalize World.setCell _ _ _ = W7 at S7 ⊢
          have S8 := Lib.hid S7.out.drew.drew
          have e1 : W7.drew.drew.cell? ⟨Bu, 1, none⟩ = some (.int .i64 u.who) := (S8.out.rowm (k := Bu) (vs := u.cells) (t := 39) (by simp)).cell rfl
          have e2 : W7.drew.drew.cell? ⟨Bf, s * 3 + k, none⟩ = some (.int .i64 (mod u.flow 1048577)) := (S8.out.row (k := Bf) 3 rfl).cell (by rw [ns_get (by omega)]; simp [upd])
          have e3 : W7.drew.drew.cell? ⟨Bo, s * 3 + k, none⟩ = some (.int .i64 (u.n % 4294967296)) := (S8.out.row (k := Bo) 4 rfl).cell (by rw [ns_get (by omega)]; simp [upd])
          go_wp2_with fail
          go_region_held3 (fun w' => w'.cell? ⟨Bu, 1, none⟩ = some (.int .i64 u.who) ∧ w'.cell? ⟨Bf, s * 3 + k, none⟩ = some (.int .i64 (mod u.flow 1048577)) ∧ w'.cell? ⟨Bo, s * 3 + k, none⟩ = some (.int .i64 (u.n % 4294967296))) (go_keep)
            (first
              | (go_at_call 16
                 refine ((tput_yes u.who s k (mod u.flow 1048577) (u.n % 4294967296) (by unfold I64; omega) (by unfold I64; omega) (by omega) Ok.out.1 Ok.out.2.1 Ok.out.2.2.1 Ok.out.2.2.2).at0 S8.out).mono ?_
                 rintro e w9 ⟨rfl, s9⟩
                 have g1 : w9.cell? ⟨Bu, 1, none⟩ = some (.int .i64 u.who) := (s9.rowm (k := Bu) (vs := u.cells) (t := 39) (by simp)).cell rfl
                 have g2 : w9.cell? ⟨Bf, s * 3 + k, none⟩ = some (.int .i64 (mod u.flow 1048577)) := (s9.row (k := Bf) 3 rfl).cell (by rw [ns_get (by omega)]; simp [upd])
                 have g3 : w9.cell? ⟨Bo, s * 3 + k, none⟩ = some (.int .i64 (u.n % 4294967296)) := (s9.row (k := Bo) 4 rfl).cell (by rw [ns_get (by omega)]; simp [upd])
                 have S9 := Lib.hid s9
                 clear s9))
          clear e1 e2 e3 g1 g2 g3 S7 S8
          have hi := Hin.out.put u.who s k s3 k3 Ok.out
          have lg : ((σ.put u.who 2 (slotL s k)).set (slotL s k) (slotN (mod u.flow 1048577) (u.n % 4294967296))).log.length ≤ 10 * i + 1 := by simp [MS.put, MS.set]; omega
          have Hi := Lib.hid hi
          clear hi
          go_wp2_with fail
          generalize w9 = wz at S9 ⊢
          generalize hσ1 : ((σ.put u.who 2 (slotL s k)).set (slotL s k) (slotN (mod u.flow 1048577) (u.n % 4294967296))) = σ1 at S9 Hi lg
          generalize (upd hs (s * 3 + k) true) = hs1 at S9 Hi
          generalize (upd fl (s * 3 + k) (mod u.flow 1048577)) = fl1 at S9 Hi
          generalize (upd ob (s * 3 + k) (u.n % 4294967296)) = ob1 at S9 Hi
          clear hσ1
          obtain ⟨wo, hwo⟩ : ∃ wo : World, wo = wz := ⟨_, rfl⟩
          subst hwo
          go_loopw [17] (fun a wr => ∃ (ka : Nat) (σ2 : MS), ka ≤ 3 ∧ a = .int .i64 ka ∧ σ2.num = σ1.num ∧ σ2.log.length ≤ σ1.log.length + 3 * ka ∧ Scope [] w wr [tabA p m sh sl σ2, rtabA q x 0 sh sl MS.zero, box Bh (bs hs1) 46, box Bf (ns fl1) 48, box Bo (ns ob1) 48, box Bu u.cells 39]) (fun a _ => 3 - (intOf a).toNat)
          case atStart => exact ⟨0, σ1, by omega, rfl, rfl, by omega, S9.out⟩
          case round =>
            obtain ⟨ka, σ2, hka, rfl, hnum2, hlg2, hs2⟩ := hrel
            have Q2 := Lib.hid hs2; have N2 := Lib.hid hnum2
            clear hs2 hnum2 S9
            by_cases hla : ka < 3
            · obtain ⟨wp, hwp⟩ : ∃ wp : World, wp = wr := ⟨_, rfl⟩
              subst hwp
              have ja : (ka : Int) < 3 := by omega
              have ja0 : (0 : Int) ≤ (ka : Int) := by omega
              go_wp2_with fail
              go_loopw [18] (fun b wr => ∃ (kb : Nat) (σ3 : MS), kb ≤ 3 ∧ b = .int .i64 kb ∧ σ3.num = σ1.num ∧ σ3.log.length ≤ σ1.log.length + 3 * ka + kb ∧ Scope [] w wr [tabA p m sh sl σ3, rtabA q x 0 sh sl MS.zero, box Bh (bs hs1) 46, box Bf (ns fl1) 48, box Bo (ns ob1) 48, box Bu u.cells 39]) (fun b _ => 3 - (intOf b).toNat)
              case atStart => exact ⟨0, σ2, by omega, rfl, N2.out, by omega, Q2.out⟩
              case round =>
                obtain ⟨kb, σ3, hkb, rfl, hnum3, hlg3, hs3⟩ := hrel
                have Q3 := Lib.hid hs3; have N3 := Lib.hid hnum3
                clear hs3 hnum3 Q2
                by_cases hlb : kb < 3
                · have jb : (kb : Int) < 3 := by omega
                  have jb0 : (0 : Int) ≤ (kb : Int) := by omega
                  have hi := Hi.out.1 ka kb hla hlb
                  have hb := Hi.out.2 (ka * 3 + kb)
                  rw [← N3.out] at hi
                  have hiu := Q3.out.tab_u64 (slotL_wf (s := (ka : Int)) (i := (kb : Int)) (by unfold I64; omega) (by unfold I64; omega))
                  have Iu := Lib.hid hiu; have Ii := Lib.hid hi; have Ib := Lib.hid hb
                  clear hi hb hiu
                  go_wp2_with fail
                  refine ((tslot_does (i : Int) ka kb (by unfold I64; omega) (by unfold I64; omega) (by omega) Iu.out).at0 Q3.out).mono ?_
                  rintro e wv ⟨he, sv⟩
                  have z1 : wv.cell? ⟨Bh, ka * 3 + kb, none⟩ = some (.bool (hs1 (ka * 3 + kb))) := (sv.rowm (k := Bh) (vs := bs hs1) (t := 46) (by simp)).cell (bs_get (by omega))
                  have z2 : wv.cell? ⟨Bf, ka * 3 + kb, none⟩ = some (.int .i64 (fl1 (ka * 3 + kb))) := (sv.rowm (k := Bf) (vs := ns fl1) (t := 48) (by simp)).cell (ns_get (by omega))
                  have z3 : wv.cell? ⟨Bo, ka * 3 + kb, none⟩ = some (.int .i64 (ob1 (ka * 3 + kb))) := (sv.rowm (k := Bo) (vs := ns ob1) (t := 48) (by simp)).cell (ns_get (by omega))
                  have Qv := Lib.hid sv
                  clear sv
                  cases hh : hs1 (ka * 3 + kb) with
                  | true =>
                    rw [Ii.out, hh, if_pos rfl, slotR_N Ib.out] at he
                    subst he
                    rw [hh] at z1
                    clear hh
                    go_wp2_with fail
                    go_roundw
                    case rel => exact ⟨kb + 1, σ3.put i 1 (slotL ka kb), by omega, by go_num, N3.out, (by simp [MS.put]; omega), Qv.out⟩
                    case measure => simp [intOf]; omega
                  | false =>
                    rw [Ii.out, hh, if_neg (by simp), slotR_no rfl] at he
                    subst he
                    rw [hh] at z1
                    clear hh
                    go_wp2_with fail
                    go_roundw
                    case rel => exact ⟨kb + 1, σ3.put i 1 (slotL ka kb), by omega, by go_num, N3.out, (by simp [MS.put]; omega), Qv.out⟩
                    case measure => simp [intOf]; omega
                · go_wp2
                  go_roundw
                  case rel => exact ⟨ka + 1, σ3, by omega, by go_num, N3.out, by omega, Q3.out⟩
                  case measure => simp [intOf]; omega
            · go_wp2
              go_roundw
              case rel => exact ⟨i + 1, σ2, hs1, fl1, ob1, by omega, by omega, by go_num, by omega, Hi.out.num N2.out, Scope.drop (Bs := [box Bu u.cells 39]) (As := [tabA p m sh sl σ2, rtabA q x 0 sh sl MS.zero, box Bh (bs hs1) 46, box Bf (ns fl1) 48, box Bo (ns ob1) 48]) Q2.out⟩
              case measure => simp [intOf]; omega
      · have e60 : i = 60 := by omega
        go_wp2
        go_ret
        exact ⟨rfl, Sr.out.below⟩
    · have ek : i = n := by omega
      go_wp2
      go_ret
      exact ⟨rfl, Sr.out.below⟩
end Go.Proofs.Ytjipjhmcpjffcab
