/- Arg, Answer, Result of the reference's Post. -/
import Derived.Test.YtjipjhmcpjffcacPostR
set_option linter.unusedSimpArgs false
set_option linter.unusedVariables false
set_option maxRecDepth 20000
namespace Go.Proofs.Ytjipjhmcpjffcac
open Go Go.RowKit Go.Maps

theorem Scope.boxL {S : List Nat} {w0 w : World} {As : List HA} (h : Scope S w0 w As) (vs : List Value) (t : TypeId) : Scope S w0 (w.alloc (.cells vs.toArray t)) (Go.Proofs.Ytjipjhmcpjffcac.box w.heap.size vs t :: As) :=
  h.joinL (Bs := [Go.Proofs.Ytjipjhmcpjffcac.box w.heap.size vs t]) (g := [w.heap.size]) (stars_mk1 (A := Go.Proofs.Ytjipjhmcpjffcac.box w.heap.size vs t) ⟨Row.new w vs t, rfl⟩) ((Chg.refl _ _).alloc _) (by simp)
theorem owns_get {w : World} {oa : Option Addr} {cp : Nat} {t : TypeId} {n size : Nat} {xs : List Value} (h : w.ownsRow 0 t size (.slice oa n cp) n xs) {j : Nat} {u : Value} (hu : xs[j]? = some u) : ∃ g, oa = some ⟨g, 0, none⟩ ∧ w.cell? ⟨g, j, none⟩ = some u := by
  obtain ⟨oa', cp', e, _, h2⟩ := own_formS h
  simp at e
  obtain ⟨rfl, rfl⟩ := e
  exact h2 j u hu
theorem Scope.box_ne {S : List Nat} {w0 w : World} {X : HA} {As : List HA} {k j : Nat} {vs us : List Value} {t u : TypeId} (h : Scope S w0 w (X :: Go.Proofs.Ytjipjhmcpjffcac.box k vs t :: Go.Proofs.Ytjipjhmcpjffcac.box j us u :: As)) : j ≠ k := by
  obtain ⟨_, fp, ⟨f, g, _, ⟨f1, g1, h1, ⟨f2, g2, h2, _, _, rfl⟩, ha, rfl⟩, _, rfl⟩, _⟩ := h
  obtain ⟨_, rfl⟩ := h1
  obtain ⟨_, rfl⟩ := h2
  rintro rfl
  exact ha j (by simp) (by simp)
section
variable {q x n : Nat} {W : Int} {σ : MS} {KC : List (Int × Cl)} {JR : List (Int × Rt)}
set_option maxHeartbeats 4000000 in
/-- Arg. -/
theorem rparg_does (who j : Int) (hk : KC.length ≤ 900000) (hl : σ.log.length ≤ 1000000) : Does Try.prog [rpostA q x n W σ KC JR] 50 #[ptr q, .int .i64 who, .int .i64 j] (lastOf Cl.zero KC j).val [rpostA q x n W (σ.put who 5 (argL j)) KC JR] := by
  refine Does.packX (Fl := rpostL q x n W σ KC JR) (Gl := rpostL q x n W (σ.put who 5 (argL j)) KC JR) fun ⟨vK, vJ, vC, vR, sl⟩ S w0 w h => ?_
  have s1 := Lib.hid (show Scope S w0 (w.alloc (.cells #[.int .i64 0, .int .i64 0, .int .i64 0, .int .i64 0] 32)).drew (box w.heap.size [.int .i64 0, .int .i64 0, .int .i64 0, .int .i64 0] 32 :: [refA x n (σ), box q [ptr x, .int .i64 W, vK, vJ, vC, vR] 59, ownA vK 3 1 KC.length (ikeys KC), ownA vC 32 4 KC.length (cvals KC), ownA vJ 3 1 JR.length (ikeys JR), ownA vR 41 4 JR.length (rcells JR sl), slA sl JR]) from (h.boxL [.int .i64 0, .int .i64 0, .int .i64 0, .int .i64 0] 32).drew)
  have g0 : (w.alloc (.cells #[.int .i64 0, .int .i64 0, .int .i64 0, .int .i64 0] 32)).drew.cell? ⟨q, 0, none⟩ = some (ptr x) := (s1.out.row 2 rfl).cell rfl
  clear h
  go_enter Try.func50, Try.ntmps50
  go_wp2_with fail
  go_region_held3 (fun w' => w'.cell? ⟨q, 0, none⟩ = some (ptr x)) (go_keep)
    (first
      | (go_at_call 67
         refine ((rloc_pure 6 j 0).at s1.out).mono ?_
         rintro e wq ⟨rfl, sq⟩
         have g0 : wq.cell? ⟨q, 0, none⟩ = some (ptr x) := (sq.row 2 rfl).cell rfl
         have Hq := Lib.hid sq
         clear sq)
      | (go_at_call 66
         refine ((rlog_does who 5 (argL j) hl).at1 Hq.out).mono ?_
         rintro e wz ⟨rfl, sz⟩
         have g0 : wz.cell? ⟨q, 0, none⟩ = some (ptr x) := (sz.row 2 rfl).cell rfl
         have Hz := Lib.hid sz
         clear sz))
  clear g0 s1
  obtain ⟨oK, cK, eK, hcK, _⟩ := own_formS (Hz.out.owned' 3 rfl)
  obtain ⟨oC, cC, eC, hcC, _⟩ := own_formS (Hz.out.owned' 4 rfl)
  subst eK
  subst eC
  obtain ⟨N, hN⟩ : ∃ N, N = KC.length := ⟨_, rfl⟩
  have HN := Lib.hid hN
  have hNb : N ≤ 900000 := by omega
  generalize hB : w.heap.size = B at Hz ⊢
  have Z1 := Lib.hid (Hz.out.boxL [.int .i64 0, .int .i64 0, .int .i64 0, .int .i64 0] 32)
  clear Hz hB hN
  go_wp2_with fail
  generalize wz.alloc _ = W0 at Z1 ⊢
  generalize wz.heap.size = B1 at Z1 ⊢
  go_loopw [8] (fun i wr => ∃ k : Nat, k ≤ N ∧ i = .int .i64 k ∧ Scope S w0 wr (box B1 [.int .i64 (lastOf Cl.zero (KC.take k) j).op, .int .i64 (lastOf Cl.zero (KC.take k) j).flow, .int .i64 (lastOf Cl.zero (KC.take k) j).a, .int .i64 (lastOf Cl.zero (KC.take k) j).b] 32 :: box B [.int .i64 0, .int .i64 0, .int .i64 0, .int .i64 0] 32 :: [refA x n (σ.put who 5 (argL j)), box q [ptr x, .int .i64 W, (.slice oK KC.length cK), vJ, (.slice oC KC.length cC), vR] 59, ownA (.slice oK KC.length cK) 3 1 KC.length (ikeys KC), ownA (.slice oC KC.length cC) 32 4 KC.length (cvals KC), ownA vJ 3 1 JR.length (ikeys JR), ownA vR 41 4 JR.length (rcells JR sl), slA sl JR])) (fun i _ => N - (intOf i).toNat)
  case atStart => exact ⟨0, by omega, rfl, Z1.out⟩
  case round =>
    obtain ⟨k, hkN, rfl, hs⟩ := hrel
    have Sr := Lib.hid hs
    clear hs Z1
    have c2 : wr.cell? ⟨q, 2, none⟩ = some (.slice oK N cK) := by rw [HN.out]; exact (Sr.out.row 3 rfl).cell rfl
    by_cases hlt : k < N
    · obtain ⟨y, hy⟩ : ∃ y, KC[k]? = some y := ⟨_, List.getElem?_eq_getElem (by rw [← HN.out]; exact hlt)⟩
      obtain ⟨gK, rfl, zK⟩ := owns_get (Sr.out.owned' 4 rfl) (ikeys_get hy)
      have i0 : (0 : Int) ≤ (k : Int) := by omega
      have i1 : (k : Int) < (N : Int) := by omega
      by_cases e : y.1 = j
      · have e' : (y.1 == j) = true := by simpa using e
        have c4 : wr.cell? ⟨q, 4, none⟩ = some (.slice oC N cC) := by rw [HN.out]; exact (Sr.out.row 3 rfl).cell rfl
        have hz := cvals_get KC k y hy
        obtain ⟨gC, rfl, z0⟩ := owns_get (Sr.out.owned' 5 rfl) (hz 0 _ rfl)
        obtain ⟨g1, hg1, z1⟩ := owns_get (Sr.out.owned' 5 rfl) (hz 1 _ rfl)
        obtain ⟨g2, hg2, z2⟩ := owns_get (Sr.out.owned' 5 rfl) (hz 2 _ rfl)
        obtain ⟨g3, hg3, z3⟩ := owns_get (Sr.out.owned' 5 rfl) (hz 3 _ rfl)
        simp at hg1 hg2 hg3
        subst hg1
        subst hg2
        subst hg3
        rw [Nat.add_zero] at z0
        have rb := Sr.out.row 0 rfl
        have f0 := rb.free 0; have f1 := rb.free 1; have f2 := rb.free 2; have f3 := rb.free 3
        obtain ⟨x0, x1, x2, x3⟩ := rb.cells4
        have Hy := Lib.hid hy; have He := Lib.hid e
        clear hy e hz rb
        go_wp2_with fail
        go_roundw
        case rel =>
          refine ⟨k + 1, by omega, by go_num, ?_⟩
          rw [lastOf_take _ _ _ y Hy.out, if_pos He.out]
          have q1 := Scope.setbox (As := []) Sr.out 0 (.int .i64 y.2.op)
          have q2 := Scope.setbox (As := []) q1 1 (.int .i64 y.2.flow)
          have q3 := Scope.setbox (As := []) q2 2 (.int .i64 y.2.a)
          exact Scope.setbox (As := []) q3 3 (.int .i64 y.2.b)
        case measure => simp [intOf]; omega
      · have e' : (y.1 == j) = false := by simpa using e
        have Hy := Lib.hid hy; have He := Lib.hid e
        clear hy e
        go_wp2_with fail
        go_roundw
        case rel =>
          refine ⟨k + 1, by omega, by go_num, ?_⟩
          rw [lastOf_take _ _ _ y Hy.out, if_neg He.out]
          exact Sr.out
        case measure => simp [intOf]; omega
    · have ek : k = N := by omega
      have et : KC.take k = KC := List.take_of_length_le (by rw [← HN.out]; omega)
      rw [et] at Sr
      clear et
      generalize lastOf Cl.zero KC j = c at *
      have rb := Sr.out.row 0 rfl
      obtain ⟨x0, x1, x2, x3⟩ := rb.cells4
      have rg := Sr.out.row 1 rfl
      have f0 := rg.free 0; have f1 := rg.free 1; have f2 := rg.free 2; have f3 := rg.free 3
      obtain ⟨y0, y1, y2, y3⟩ := rg.cells4
      have Rg := Lib.hid rg
      clear rb rg
      go_wp2
      refine bodyPost_ret (results_cell_row rfl _ _ B 32 #[.int .i64 c.op, .int .i64 c.flow, .int .i64 c.a, .int .i64 c.b] (0, 0) _ rfl ((((Rg.out.set 0 (.int .i64 c.op)).set 1 (.int .i64 c.flow)).set 2 (.int .i64 c.a)).set 3 (.int .i64 c.b)) Try.underlying32 rfl (by kernel_rfl)) rfl ?_
      have q1 := Scope.setbox (As := [box B1 _ _]) Sr.out 0 (.int .i64 c.op)
      have q2 := Scope.setbox (As := [box B1 _ _]) q1 1 (.int .i64 c.flow)
      have q3 := Scope.setbox (As := [box B1 _ _]) q2 2 (.int .i64 c.a)
      have q4 := Scope.setbox (As := [box B1 _ _]) q3 3 (.int .i64 c.b)
      have q5 := Scope.drop_left (As := [box B1 _ _, box B _ _]) q4
      exact EndsX.mk (Gl := rpostL q x n W (σ.put who 5 (argL j)) KC JR) ⟨.slice oK KC.length cK, vJ, .slice oC KC.length cC, vR, sl⟩ [] (by rw [List.append_nil]; exact q5)

/-- The slice of a result that is told: nil, or one of those that were handed in. -/
def FromSl (sl : List Value) (JR : List (Int × Rt)) (r : Rt) (s : Value) : Prop := (s = .slice none 0 0 ∧ r.pk = []) ∨ ∃ (i : Nat) (y : Int × Rt), JR[i]? = some y ∧ sl[i]? = some s ∧ r = y.2
theorem FromSl.pk {S : List Nat} {w0 w : World} {As : List HA} {sl : List Value} {r : Rt} {s : Value} (hs : FromSl sl JR r s) (h : Scope S w0 w As) (i : Nat) (hi : As[i]? = some (slA sl JR)) : PkS w s r.pk ∧ few' r.pk := by
  obtain ⟨f, ⟨_, _, h3⟩, _⟩ := h.get i hi
  rcases hs with ⟨rfl, h0⟩ | ⟨i, y, hy, ht, rfl⟩
  · rw [h0]
    exact ⟨.inl ⟨rfl, rfl⟩, by unfold few'; simp⟩
  · obtain ⟨q1, q2, _⟩ := h3 i y s hy ht
    exact ⟨PkS.of_owns q2, q1⟩
theorem sl_at {S : List Nat} {w0 w : World} {As : List HA} {sl : List Value} {k : Nat} {y : Int × Rt} (h : Scope S w0 w As) (i : Nat) (hi : As[i]? = some (slA sl JR)) (hy : JR[k]? = some y) : ∃ oa c, sl[k]? = some (.slice oa y.2.pk.length c) := by
  obtain ⟨f, ⟨_, h2, h3⟩, _⟩ := h.get i hi
  have hlt : k < sl.length := by rw [h2]; exact (List.getElem?_eq_some_iff.1 hy).1
  obtain ⟨q1, q2, _⟩ := h3 k y _ hy (List.getElem?_eq_getElem hlt)
  obtain ⟨oa, c, e⟩ := (PkS.of_owns q2).form
  exact ⟨oa, c, by rw [List.getElem?_eq_getElem hlt, e]⟩
def RTold (S : List Nat) (w0 : World) (r : Rt) (X : HA) (Bs : List HA) (e : Ending) (w' : World) : Prop := Told20 S w0 r X Bs e w'
set_option maxHeartbeats 8000000 in
/-- Result. -/
theorem rpresult_scope {S : List Nat} {w0 w : World} {Bs : List HA} (who : Int) (h : Scope S w0 w (rpostA q x n W σ KC JR :: Bs)) (hk : JR.length ≤ 900000) (hl : σ.log.length ≤ 1000000) :
    Calls Try.prog 53 #[ptr q, .int .i64 who] w (RTold S w0 (lastOf Rt.zero JR who) (rpostA q x n W (σ.put who 5 (resL who)) KC JR) Bs) := by
  obtain ⟨⟨vK, vJ, vC, vR, sl⟩, h1⟩ := h.exo
  have s1 := Lib.hid (show Scope S w0 (w.alloc (.cells #[.int .i64 0, .slice none 0 0, .int .i64 0, .int .u64 0] 41)).drew (box w.heap.size [.int .i64 0, .slice none 0 0, .int .i64 0, .int .u64 0] 41 :: ([refA x n (σ), box q [ptr x, .int .i64 W, vK, vJ, vC, vR] 59, ownA vK 3 1 KC.length (ikeys KC), ownA vC 32 4 KC.length (cvals KC), ownA vJ 3 1 JR.length (ikeys JR), ownA vR 41 4 JR.length (rcells JR sl), slA sl JR] ++ Bs)) from (h1.open1.boxL [.int .i64 0, .slice none 0 0, .int .i64 0, .int .u64 0] 41).drew)
  have g0 : (w.alloc (.cells #[.int .i64 0, .slice none 0 0, .int .i64 0, .int .u64 0] 41)).drew.cell? ⟨q, 0, none⟩ = some (ptr x) := (s1.out.row 2 rfl).cell rfl
  clear h h1
  go_enter Try.func53, Try.ntmps53
  go_wp2_with fail
  go_region_held3 (fun w' => w'.cell? ⟨q, 0, none⟩ = some (ptr x)) (go_keep)
    (first
      | (go_at_call 67
         refine ((rloc_pure 7 who 0).at s1.out).mono ?_
         rintro e wq ⟨rfl, sq⟩
         have g0 : wq.cell? ⟨q, 0, none⟩ = some (ptr x) := (sq.row 2 rfl).cell rfl
         have Hq := Lib.hid sq
         clear sq)
      | (go_at_call 66
         refine ((rlog_does who 5 (resL who) hl).at1 Hq.out).mono ?_
         rintro e wz ⟨rfl, sz⟩
         have g0 : wz.cell? ⟨q, 0, none⟩ = some (ptr x) := (sz.row 2 rfl).cell rfl
         have Hz := Lib.hid sz
         clear sz))
  clear g0 s1
  obtain ⟨oJ, cJ, eJ, hcJ, _⟩ := own_formS (Hz.out.owned' 5 rfl)
  obtain ⟨oR, cR, eR, hcR, _⟩ := own_formS (Hz.out.owned' 6 rfl)
  subst eJ
  subst eR
  obtain ⟨N, hN⟩ : ∃ N, N = JR.length := ⟨_, rfl⟩
  have HN := Lib.hid hN
  have hNb : N ≤ 900000 := by omega
  generalize hB : w.heap.size = B at Hz ⊢
  have Z1 := Lib.hid (Hz.out.boxL [.int .i64 0, .slice none 0 0, .int .i64 0, .int .u64 0] 41)
  clear Hz hB hN
  go_wp2_with fail
  generalize wz.alloc _ = W0 at Z1 ⊢
  generalize wz.heap.size = B1 at Z1 ⊢
  go_loopw [6] (fun i wr => ∃ (k : Nat) (oa : Option Addr) (c : Nat), k ≤ N ∧ i = .int .i64 k ∧ FromSl sl JR (lastOf Rt.zero (JR.take k) who) (.slice oa (lastOf Rt.zero (JR.take k) who).pk.length c) ∧ Scope S w0 wr (box B1 [.int .i64 (lastOf Rt.zero (JR.take k) who).e, .slice oa (lastOf Rt.zero (JR.take k) who).pk.length c, .int .i64 (lastOf Rt.zero (JR.take k) who).n, .int .u64 (lastOf Rt.zero (JR.take k) who).v] 41 :: box B [.int .i64 0, .slice none 0 0, .int .i64 0, .int .u64 0] 41 :: ([refA x n (σ.put who 5 (resL who)), box q [ptr x, .int .i64 W, vK, (.slice oJ JR.length cJ), vC, (.slice oR JR.length cR)] 59, ownA vK 3 1 KC.length (ikeys KC), ownA vC 32 4 KC.length (cvals KC), ownA (.slice oJ JR.length cJ) 3 1 JR.length (ikeys JR), ownA (.slice oR JR.length cR) 41 4 JR.length (rcells JR sl), slA sl JR] ++ Bs))) (fun i _ => N - (intOf i).toNat)
  case atStart => exact ⟨0, none, 0, by omega, rfl, Or.inl ⟨rfl, rfl⟩, Z1.out⟩
  case round =>
    obtain ⟨k, oa, c, hkN, rfl, hfr, hs⟩ := hrel
    have Sr := Lib.hid hs; have Fr := Lib.hid hfr
    clear hs Z1 hfr
    have c2 : wr.cell? ⟨q, 3, none⟩ = some (.slice oJ N cJ) := by rw [HN.out]; exact (Sr.out.row 3 rfl).cell rfl
    by_cases hlt : k < N
    · obtain ⟨y, hy⟩ : ∃ y, JR[k]? = some y := ⟨_, List.getElem?_eq_getElem (by rw [← HN.out]; exact hlt)⟩
      obtain ⟨gK, rfl, zK⟩ := owns_get (Sr.out.owned' 6 rfl) (ikeys_get hy)
      have i0 : (0 : Int) ≤ (k : Int) := by omega
      have i1 : (k : Int) < (N : Int) := by omega
      by_cases e : y.1 = who
      · have e' : (y.1 == who) = true := by simpa using e
        have c4 : wr.cell? ⟨q, 5, none⟩ = some (.slice oR N cR) := by rw [HN.out]; exact (Sr.out.row 3 rfl).cell rfl
        obtain ⟨os, cs, hsl⟩ := sl_at Sr.out 8 rfl hy
        have hz := rcells_get JR sl k y _ hy hsl
        obtain ⟨gC, rfl, z0⟩ := owns_get (Sr.out.owned' 7 rfl) (hz 0 _ rfl)
        obtain ⟨g1, hg1, z1⟩ := owns_get (Sr.out.owned' 7 rfl) (hz 1 _ rfl)
        obtain ⟨g2, hg2, z2⟩ := owns_get (Sr.out.owned' 7 rfl) (hz 2 _ rfl)
        obtain ⟨g3, hg3, z3⟩ := owns_get (Sr.out.owned' 7 rfl) (hz 3 _ rfl)
        simp at hg1 hg2 hg3
        subst hg1
        subst hg2
        subst hg3
        rw [Nat.add_zero] at z0
        have rb := Sr.out.row 0 rfl
        have f0 := rb.free 0; have f1 := rb.free 1; have f2 := rb.free 2; have f3 := rb.free 3
        obtain ⟨x0, x1, x2, x3⟩ := rb.cells4
        have Hy := Lib.hid hy; have He := Lib.hid e; have Hsl := Lib.hid hsl
        clear hy e hz rb hsl
        go_wp2_with fail
        go_roundw
        case rel =>
          refine ⟨k + 1, os, cs, by omega, by go_num, ?_, ?_⟩
          · rw [lastOf_take _ _ _ y Hy.out, if_pos He.out]
            exact Or.inr ⟨k, y, Hy.out, Hsl.out, rfl⟩
          · rw [lastOf_take _ _ _ y Hy.out, if_pos He.out]
            have q1 := Scope.setbox (As := []) Sr.out 0 (.int .i64 y.2.e)
            have q2 := Scope.setbox (As := []) q1 1 (.slice os y.2.pk.length cs)
            have q3 := Scope.setbox (As := []) q2 2 (.int .i64 y.2.n)
            exact Scope.setbox (As := []) q3 3 (.int .u64 y.2.v)
        case measure => simp [intOf]; omega
      · have e' : (y.1 == who) = false := by simpa using e
        have Hy := Lib.hid hy; have He := Lib.hid e
        clear hy e
        go_wp2_with fail
        go_roundw
        case rel =>
          refine ⟨k + 1, oa, c, by omega, by go_num, ?_, ?_⟩
          · rw [lastOf_take _ _ _ y Hy.out, if_neg He.out]
            exact Fr.out
          · rw [lastOf_take _ _ _ y Hy.out, if_neg He.out]
            exact Sr.out
        case measure => simp [intOf]; omega
    · have ek : k = N := by omega
      have et : JR.take k = JR := List.take_of_length_le (by rw [← HN.out]; omega)
      rw [et] at Sr Fr
      clear et
      generalize lastOf Rt.zero JR who = r at *
      obtain ⟨hpk, hf⟩ := Fr.out.pk Sr.out 8 rfl
      have HP := Lib.hid hpk
      have rb := Sr.out.row 0 rfl
      obtain ⟨x0, x1, x2, x3⟩ := rb.cells4
      clear rb hpk ek
      go_wp2_with (at_builtin; refine wpList_copy_nil rfl _ _ rfl _ r.pk rfl rfl HP.out hf ?_; intro v4 w4 o1 c1 n1; obtain ⟨ob, cq, ev⟩ := (PkS.of_owns o1).form; subst ev; have z4 := Sr.out.joinL (Bs := [ownA (.slice ob r.pk.length cq) 48 3 r.pk.length (pks r.pk)]) (stars_mk1 (A := ownA (.slice ob r.pk.length cq) 48 3 r.pk.length (pks r.pk)) ⟨o1, rfl⟩) c1 (fun k hk => n1 k (by simpa using hk)); have Z4 := Lib.hid z4; have rb := z4.row 1 rfl; have p1 := rb.free 1; obtain ⟨x0, x1, x2, x3⟩ := rb.cells4; have rg := z4.row 2 rfl; have f0 := rg.free 0; have f1 := rg.free 1; have f2 := rg.free 2; have f3 := rg.free 3; obtain ⟨y0, y1, y2, y3⟩ := rg.cells4; have nb : B ≠ B1 := (Scope.box_ne z4); have Rg := Lib.hid rg; clear z4 o1 c1 n1 rb rg)
      have nb' := Ne.symm nb
      refine bodyPost_ret (results_cell_row rfl _ _ B 41 #[.int .i64 r.e, .slice ob r.pk.length cq, .int .i64 r.n, .int .u64 r.v] (0, 0) _ rfl (((((Rg.out.other (a := ⟨B1, 1, none⟩) nb (.slice ob r.pk.length cq)).set 0 (.int .i64 r.e)).set 1 (.slice ob r.pk.length cq)).set 2 (.int .i64 r.n)).set 3 (.int .u64 r.v)) Try.underlying41 rfl (by kernel_rfl)) rfl ?_
      have q0 := Scope.setbox (As := [ownA _ _ _ _ _]) Z4.out 1 (.slice ob r.pk.length cq)
      have q1 := Scope.setbox (As := [ownA _ _ _ _ _, box B1 _ _]) q0 0 (.int .i64 r.e)
      have q2 := Scope.setbox (As := [ownA _ _ _ _ _, box B1 _ _]) q1 1 (.slice ob r.pk.length cq)
      have q3 := Scope.setbox (As := [ownA _ _ _ _ _, box B1 _ _]) q2 2 (.int .i64 r.n)
      have q4 := Scope.setbox (As := [ownA _ _ _ _ _, box B1 _ _]) q3 3 (.int .u64 r.v)
      have q5 := Scope.drop_left (As := [box B1 _ _, box B _ _]) (Scope.swap (As := [ownA _ _ _ _ _]) (Bs := [box B1 _ _, box B _ _]) q4)
      have q6 := Scope.swap (As := [ownA (.slice ob r.pk.length cq) 48 3 r.pk.length (pks r.pk)]) (Bs := [refA x n (σ.put who 5 (resL who)), box q [ptr x, .int .i64 W, vK, (.slice oJ JR.length cJ), vC, (.slice oR JR.length cR)] 59, ownA vK 3 1 KC.length (ikeys KC), ownA vC 32 4 KC.length (cvals KC), ownA (.slice oJ JR.length cJ) 3 1 JR.length (ikeys JR), ownA (.slice oR JR.length cR) 41 4 JR.length (rcells JR sl), slA sl JR]) (Cs := Bs) q5
      exact ⟨cq, ob, rfl, Scope.exi (F := fun c => stars (rpostL q x n W (σ.put who 5 (resL who)) KC JR c)) ⟨vK, .slice oJ JR.length cJ, vC, .slice oR JR.length cR, sl⟩ (Scope.shut1 (As := rpostL q x n W (σ.put who 5 (resL who)) KC JR ⟨vK, .slice oJ JR.length cJ, vC, .slice oR JR.length cR, sl⟩) q6)⟩

theorem Scope.drop2 {S : List Nat} {w0 w : World} {X Y Z : HA} {Bs : List HA} (h : Scope S w0 w (X :: ((Bs ++ [Y]) ++ [Z]))) : Scope S w0 w (X :: Bs) := by
  have h' : Scope S w0 w ((X :: Bs) ++ ([Y] ++ [Z])) := by simpa using h
  exact h'.drop
theorem rans_done {S : List Nat} {w0 w : World} {Bs : List HA} {X : HA} {vK vJ vC vR : Value} {sl : List Value} {N gA pA gB pB cq : Nat} {ob : Option Addr} {τ : MS} {j : Int} {r : Rt}
    (h : Scope S w0 w (ownA (.slice (some ⟨gA, 0, none⟩) (N + 1) pA) 3 1 (N + 1) (ikeys JR ++ [.int .i64 j]) :: ownA (.slice (some ⟨gB, 0, none⟩) (N + 1) pB) 41 4 (N + 1) (rcells JR sl ++ [.int .i64 r.e, .slice ob r.pk.length cq, .int .i64 r.n, .int .u64 r.v]) :: box q [ptr x, .int .i64 W, vK, vJ, vC, vR] 59 :: refA x n τ :: ownA vK 3 1 KC.length (ikeys KC) :: ownA vC 32 4 KC.length (cvals KC) :: slA sl JR :: ownA (.slice ob r.pk.length cq) 48 3 r.pk.length (pks r.pk) :: X :: Bs))
    (hN : N = JR.length) (hf : few' r.pk) : Scope S w0 ((w.setCell ⟨q, 3, none⟩ (.slice (some ⟨gA, 0, none⟩) (N + 1) pA)).setCell ⟨q, 5, none⟩ (.slice (some ⟨gB, 0, none⟩) (N + 1) pB)) (rpostA q x n W τ KC (JR ++ [(j, r)]) :: Bs) := by
  subst hN
  have hsl : sl.length = JR.length := by
    obtain ⟨f, ⟨_, h2, _⟩, _⟩ := h.get (A := slA sl JR) 6 rfl
    exact h2
  have q1 := Scope.setbox (As := [ownA _ _ _ _ _, ownA _ _ _ _ _]) h 3 (.slice (some ⟨gA, 0, none⟩) (JR.length + 1) pA)
  have q2 := Scope.setbox (As := [ownA _ _ _ _ _, ownA _ _ _ _ _]) q1 5 (.slice (some ⟨gB, 0, none⟩) (JR.length + 1) pB)
  have q3 := Scope.pick q2 7 rfl
  have q4 := Scope.pick q3 7 rfl
  have q5 := Scope.sl_snoc (j := j) hf q4
  have q6 := Scope.pick q5 7 rfl
  have q7 := Scope.drop_left (As := [X]) q6
  have q8 := Scope.pick (Scope.pick (Scope.pick (Scope.pick (Scope.pick (Scope.pick q7 2 rfl) 2 rfl) 6 rfl) 6 rfl) 5 rfl) 6 rfl
  have e1 := ikeys_snoc JR j r
  have e2 := rcells_snoc JR sl hsl j r (.slice ob r.pk.length cq)
  have e3 : (JR ++ [(j, r)]).length = JR.length + 1 := by simp
  rw [← e1, ← e2] at q8
  refine Scope.exi (F := fun c => stars (rpostL q x n W τ KC (JR ++ [(j, r)]) c)) ⟨vK, .slice (some ⟨gA, 0, none⟩) (JR.length + 1) pA, vC, .slice (some ⟨gB, 0, none⟩) (JR.length + 1) pB, sl ++ [.slice ob r.pk.length cq]⟩ (Scope.shut1 (As := rpostL q x n W τ KC (JR ++ [(j, r)]) _) ?_)
  unfold rpostL
  rw [e3]
  exact q8
set_option maxHeartbeats 8000000 in
/-- Answer. -/
theorem rpanswer_scope {S : List Nat} {w0 w : World} {Bs : List HA} (who j : Int) (r : Rt) (s : Value) (h : Scope S w0 w (rpostA q x n W σ KC JR :: Bs)) (hsafe : ∀ X w', Scope S w0 w' (X :: Bs) → PkS w' s r.pk) (hf : few' r.pk) (hk : JR.length ≤ 900000) (hl : σ.log.length ≤ 1000000) :
    Calls Try.prog 51 #[ptr q, .int .i64 who, .int .i64 j, r.val s] w fun e w' => e = .returned (.tuple #[]) ∧ Scope S w0 w' (rpostA q x n W (σ.put who 6 (resL j)) KC (JR ++ [(j, r)]) :: Bs) := by
  obtain ⟨⟨vK, vJ, vC, vR, sl⟩, h1⟩ := h.exo
  obtain ⟨oa, cp, es⟩ := (hsafe _ _ h1).form
  obtain ⟨m, hm⟩ : ∃ m, m = r.pk.length := ⟨_, rfl⟩
  rw [← hm] at es
  have HM := Lib.hid hm
  clear hm
  subst es
  have s1 := Lib.hid (show Scope S w0 (w.alloc (.cells #[.int .i64 r.e, .slice oa m cp, .int .i64 r.n, .int .u64 r.v] 41)).drew (box w.heap.size [.int .i64 r.e, .slice oa m cp, .int .i64 r.n, .int .u64 r.v] 41 :: ([refA x n (σ), box q [ptr x, .int .i64 W, vK, vJ, vC, vR] 59, ownA vK 3 1 KC.length (ikeys KC), ownA vC 32 4 KC.length (cvals KC), ownA vJ 3 1 JR.length (ikeys JR), ownA vR 41 4 JR.length (rcells JR sl), slA sl JR] ++ Bs)) from (h1.open1.boxL [.int .i64 r.e, .slice oa m cp, .int .i64 r.n, .int .u64 r.v] 41).drew)
  have g0 : (w.alloc (.cells #[.int .i64 r.e, .slice oa m cp, .int .i64 r.n, .int .u64 r.v] 41)).drew.cell? ⟨q, 0, none⟩ = some (ptr x) := (s1.out.row 2 rfl).cell rfl
  have HS := Lib.hid hsafe
  clear h h1 hsafe
  go_enter Try.func51, Try.ntmps51
  go_wp2_with fail
  go_region_held3 (fun w' => w'.cell? ⟨q, 0, none⟩ = some (ptr x)) (go_keep)
    (first
      | (go_at_call 67
         refine ((rloc_pure 7 j 0).at s1.out).mono ?_
         rintro e wq ⟨rfl, sq⟩
         have g0 : wq.cell? ⟨q, 0, none⟩ = some (ptr x) := (sq.row 2 rfl).cell rfl
         have Hq := Lib.hid sq
         clear sq)
      | (go_at_call 66
         refine ((rlog_does who 6 (resL j) hl).at1 Hq.out).mono ?_
         rintro e wz ⟨rfl, sz⟩
         have g0 : wz.cell? ⟨q, 0, none⟩ = some (ptr x) := (sz.row 2 rfl).cell rfl
         have Hz := Lib.hid sz
         clear sz))
  clear g0 s1
  generalize hB : w.heap.size = B at Hz ⊢
  have hpk := HS.out _ _ (Scope.shut1 (As := box B [.int .i64 r.e, .slice oa m cp, .int .i64 r.n, .int .u64 r.v] 41 :: [refA x n (σ.put who 6 (resL j)), box q [ptr x, .int .i64 W, vK, vJ, vC, vR] 59, ownA vK 3 1 KC.length (ikeys KC), ownA vC 32 4 KC.length (cvals KC), ownA vJ 3 1 JR.length (ikeys JR), ownA vR 41 4 JR.length (rcells JR sl), slA sl JR]) Hz.out)
  have HP := Lib.hid hpk
  obtain ⟨x0, x1, x2, x3⟩ := (Hz.out.row 0 rfl).cells4
  clear hpk hB
  go_wp2_with (at_builtin; refine wpList_copy_nil rfl _ _ rfl _ r.pk rfl rfl HP.out hf ?_; intro v4 w4 o1 c1 n1; obtain ⟨ob, cq, ev⟩ := (PkS.of_owns o1).form; subst ev; have z4 := Hz.out.joinL (Bs := [ownA (.slice ob r.pk.length cq) 48 3 r.pk.length (pks r.pk)]) (stars_mk1 (A := ownA (.slice ob r.pk.length cq) 48 3 r.pk.length (pks r.pk)) ⟨o1, rfl⟩) c1 (fun k hk => n1 k (by simpa using hk)); have Z4 := Lib.hid z4; have rb := z4.row 1 rfl; have p1 := rb.free 1; obtain ⟨x0, x1, x2, x3⟩ := rb.cells4; clear z4 o1 c1 n1 rb)
  have Z5 := Lib.hid (Scope.setbox (As := [ownA _ _ _ _ _]) Z4.out 1 (.slice ob r.pk.length cq))
  clear Z4 Hz x0 x1 x2 x3 p1
  generalize w4.setCell _ _ = w5 at Z5 ⊢
  obtain ⟨oJ, cJ, eJ, hcJ, _⟩ := own_formS (Z5.out.owned' (v := vJ) 6 rfl)
  obtain ⟨oR, cR, eR, hcR, _⟩ := own_formS (Z5.out.owned' (v := vR) 7 rfl)
  obtain ⟨i1, hi1, hx0, hx1, hx2⟩ := info_parts infoInt
  obtain ⟨i2, hi2, hy0, hy1, hy2⟩ := info_parts infoRet
  obtain ⟨N, hN⟩ : ∃ N, N = JR.length := ⟨_, rfl⟩
  have HN := Lib.hid hN
  have hNb : N ≤ 900000 := by omega
  subst eJ
  subst eR
  have Z0 := Lib.hid (show Scope S w0 w5.drew (ownA (.slice oJ JR.length cJ) 3 1 N (ikeys JR) :: ownA (.slice oR JR.length cR) 41 4 N (rcells JR sl) :: box q [ptr x, .int .i64 W, vK, .slice oJ JR.length cJ, vC, .slice oR JR.length cR] 59 :: refA x n (σ.put who 6 (resL j)) :: ownA vK 3 1 KC.length (ikeys KC) :: ownA vC 32 4 KC.length (cvals KC) :: slA sl JR :: ownA (.slice ob r.pk.length cq) 48 3 r.pk.length (pks r.pk) :: box B [.int .i64 r.e, .slice ob r.pk.length cq, .int .i64 r.n, .int .u64 r.v] 41 :: Bs) from by
    rw [hN]
    have q1 := Scope.pick (Scope.pick (Scope.pick (Scope.pick (Scope.pick (Scope.pick (Scope.pick (Scope.pick Z5.out.drew 1 rfl) 1 rfl) 8 rfl) 6 rfl) 6 rfl) 5 rfl) 6 rfl) 8 rfl
    exact Scope.pick q1 8 rfl)
  clear hN Z5
  go_wp2_with fail
  refine wp_region_any (by kernel_rfl) ?_
  change wpAny _ _ _ _ _ _ _ (w5.drew)
  have h0 : (w5.drew).cell? ⟨q, 3, none⟩ = some (.slice oJ JR.length cJ) ∧ (w5.drew).cell? ⟨q, 5, none⟩ = some (.slice oR JR.length cR) ∧ (w5.drew).cell? ⟨B, 0, none⟩ = some (.int .i64 r.e) ∧ (w5.drew).cell? ⟨B, 1, none⟩ = some (.slice ob r.pk.length cq) ∧ (w5.drew).cell? ⟨B, 2, none⟩ = some (.int .i64 r.n) ∧ (w5.drew).cell? ⟨B, 3, none⟩ = some (.int .u64 r.v) := ⟨(Z0.out.rowm (k := q) (vs := [ptr x, .int .i64 W, vK, .slice oJ JR.length cJ, vC, .slice oR JR.length cR]) (t := 59) (by simp)).cell rfl, (Z0.out.rowm (k := q) (vs := [ptr x, .int .i64 W, vK, .slice oJ JR.length cJ, vC, .slice oR JR.length cR]) (t := 59) (by simp)).cell rfl, (Z0.out.rowm (k := B) (vs := [.int .i64 r.e, .slice ob r.pk.length cq, .int .i64 r.n, .int .u64 r.v]) (t := 41) (by simp)).cell rfl, (Z0.out.rowm (k := B) (vs := [.int .i64 r.e, .slice ob r.pk.length cq, .int .i64 r.n, .int .u64 r.v]) (t := 41) (by simp)).cell rfl, (Z0.out.rowm (k := B) (vs := [.int .i64 r.e, .slice ob r.pk.length cq, .int .i64 r.n, .int .u64 r.v]) (t := 41) (by simp)).cell rfl, (Z0.out.rowm (k := B) (vs := [.int .i64 r.e, .slice ob r.pk.length cq, .int .i64 r.n, .int .u64 r.v]) (t := 41) (by simp)).cell rfl⟩
  have D0 := Z0
  generalize w5.drew = d0 at D0 h0 ⊢
  refine wpAny_take (i := 0) (v := ?_) rfl (by kernel_rfl) (by kernel_rfl) (by kernel_rfl) (fun _ _ _ h => h) (Or.inl ⟨by rfl, ?_⟩) ?_
  rotate_left 1
  · (intro w'; (try simp only [List.getElem_toArray, List.getElem_cons_succ, List.getElem_cons_zero]); go_simp; (try with_reducible rfl))
  try simp only [Act.put, List.getElem_toArray, List.getElem_cons_succ, List.getElem_cons_zero, List.setIfInBounds_toArray, List.set_cons_zero, List.set_cons_succ]
  refine wpAny_take (i := 1) (v := ?_) rfl (by kernel_rfl) (by kernel_rfl) (by kernel_rfl) (fun _ _ _ h => h) (Or.inl ⟨by rfl, ?_⟩) ?_
  rotate_left 1
  · (intro w'; (try simp only [List.getElem_toArray, List.getElem_cons_succ, List.getElem_cons_zero]); go_simp; (try with_reducible rfl))
  try simp only [Act.put, List.getElem_toArray, List.getElem_cons_succ, List.getElem_cons_zero, List.setIfInBounds_toArray, List.set_cons_zero, List.set_cons_succ]
  refine wpAny_take (i := 2) (v := ?_) rfl (by kernel_rfl) (by kernel_rfl) (by kernel_rfl) (fun _ _ _ h => h) (Or.inl ⟨by rfl, ?_⟩) ?_
  rotate_left 1
  · (intro w'; (try simp only [List.getElem_toArray, List.getElem_cons_succ, List.getElem_cons_zero]); go_simp; (try with_reducible rfl))
  try simp only [Act.put, List.getElem_toArray, List.getElem_cons_succ, List.getElem_cons_zero, List.setIfInBounds_toArray, List.set_cons_zero, List.set_cons_succ]
  refine wpAny_take (i := 3) (v := ?_) rfl (by kernel_rfl) (by kernel_rfl) (by kernel_rfl) (fun _ _ _ h => h) (Or.inl ⟨by rfl, ?_⟩) ?_
  rotate_left 1
  · (intro w'; (try simp only [List.getElem_toArray, List.getElem_cons_succ, List.getElem_cons_zero]); go_simp; (try with_reducible rfl))
  try simp only [Act.put, List.getElem_toArray, List.getElem_cons_succ, List.getElem_cons_zero, List.setIfInBounds_toArray, List.set_cons_zero, List.set_cons_succ]
  refine wpAny_take (i := 4) (v := ?_) rfl (by kernel_rfl) (by kernel_rfl) (by kernel_rfl) (fun _ _ _ h => h) (Or.inl ⟨by rfl, ?_⟩) ?_
  rotate_left 1
  · (intro w'; (try simp only [List.getElem_toArray, List.getElem_cons_succ, List.getElem_cons_zero]); go_simp; (try with_reducible rfl))
  try simp only [Act.put, List.getElem_toArray, List.getElem_cons_succ, List.getElem_cons_zero, List.setIfInBounds_toArray, List.set_cons_zero, List.set_cons_succ]
  refine wpAny_take (i := 6) (v := ?_) rfl (by kernel_rfl) (by kernel_rfl) (by kernel_rfl) (fun _ _ _ h => h) (Or.inl ⟨by rfl, ?_⟩) ?_
  rotate_left 1
  · (intro w'; (try simp only [List.getElem_toArray, List.getElem_cons_succ, List.getElem_cons_zero]); go_simp; (try with_reducible rfl))
  try simp only [Act.put, List.getElem_toArray, List.getElem_cons_succ, List.getElem_cons_zero, List.setIfInBounds_toArray, List.set_cons_zero, List.set_cons_succ]
  refine wpAny_take (i := 9) (v := ?_) rfl (by kernel_rfl) (by kernel_rfl) (by kernel_rfl) (fun _ _ _ h => h) (Or.inl ⟨by rfl, ?_⟩) ?_
  rotate_left 1
  · (intro w'; (try simp only [List.getElem_toArray, List.getElem_cons_succ, List.getElem_cons_zero]); go_simp; (try with_reducible rfl))
  try simp only [Act.put, List.getElem_toArray, List.getElem_cons_succ, List.getElem_cons_zero, List.setIfInBounds_toArray, List.set_cons_zero, List.set_cons_succ]
  refine wpAny_take (i := 10) (v := ?_) rfl (by kernel_rfl) (by kernel_rfl) (by kernel_rfl) (fun _ _ _ h => h) (Or.inl ⟨by rfl, ?_⟩) ?_
  rotate_left 1
  · (intro w'; (try simp only [List.getElem_toArray, List.getElem_cons_succ, List.getElem_cons_zero]); go_simp; (try with_reducible rfl))
  try simp only [Act.put, List.getElem_toArray, List.getElem_cons_succ, List.getElem_cons_zero, List.setIfInBounds_toArray, List.set_cons_zero, List.set_cons_succ]
  refine wpAny_take (i := 11) (v := ?_) rfl (by kernel_rfl) (by kernel_rfl) (by kernel_rfl) (fun _ _ _ h => h) (Or.inl ⟨by rfl, ?_⟩) ?_
  rotate_left 1
  · (intro w'; (try simp only [List.getElem_toArray, List.getElem_cons_succ, List.getElem_cons_zero]); go_simp; (try with_reducible rfl))
  try simp only [Act.put, List.getElem_toArray, List.getElem_cons_succ, List.getElem_cons_zero, List.setIfInBounds_toArray, List.set_cons_zero, List.set_cons_succ]
  refine wpAny_of_U (S := fun w' => w'.cell? ⟨q, 3, none⟩ = some (.slice oJ JR.length cJ) ∧ w'.cell? ⟨q, 5, none⟩ = some (.slice oR JR.length cR) ∧ w'.cell? ⟨B, 0, none⟩ = some (.int .i64 r.e) ∧ w'.cell? ⟨B, 1, none⟩ = some (.slice ob r.pk.length cq) ∧ w'.cell? ⟨B, 2, none⟩ = some (.int .i64 r.n) ∧ w'.cell? ⟨B, 3, none⟩ = some (.int .u64 r.v)) (U := [5, 7, 8, 12, 13, 14, 15]) _ _ _ _ ?_
  refine wpAnyU_take (i := 5) (v := ?_) rfl (by kernel_rfl) (by kernel_rfl) (by kernel_rfl) (by kernel_rfl) (fun _ _ _ h => h) (Or.inl ⟨by rfl, ?_⟩) h0 ?_
  rotate_left 1
  · (intro w' hS; (try dsimp only at hS); (try simp only [List.getElem_toArray, List.getElem_cons_succ, List.getElem_cons_zero]); go_simp; (try with_reducible rfl))
  try simp only [Act.put, List.getElem_toArray, List.getElem_cons_succ, List.getElem_cons_zero, List.setIfInBounds_toArray, List.set_cons_zero, List.set_cons_succ]
  refine wpAnyU_take (i := 12) (v := ?_) rfl (by kernel_rfl) (by kernel_rfl) (by kernel_rfl) (by kernel_rfl) (fun _ _ _ h => h) (Or.inl ⟨by rfl, ?_⟩) h0 ?_
  rotate_left 1
  · (intro w' hS; (try dsimp only at hS); (try simp only [List.getElem_toArray, List.getElem_cons_succ, List.getElem_cons_zero]); go_simp; (try with_reducible rfl))
  try simp only [Act.put, List.getElem_toArray, List.getElem_cons_succ, List.getElem_cons_zero, List.setIfInBounds_toArray, List.set_cons_zero, List.set_cons_succ]
  refine wpAnyU_takeD [14, 15, 16, 17, 18, 19, 20, 21] (i := 13) (v := ?_) rfl (by kernel_rfl) (by kernel_rfl) (by kernel_rfl) (by kernel_rfl) (by kernel_rfl) (by kernel_rfl) (fun _ _ _ h => h) (Or.inl ⟨by rfl, ?_⟩) h0 ?_
  rotate_left 1
  · (intro w' hS; (try dsimp only at hS); (try simp only [List.getElem_toArray, List.getElem_cons_succ, List.getElem_cons_zero]); go_simp; (try with_reducible rfl))
  try simp only [Act.put, List.getElem_toArray, List.getElem_cons_succ, List.getElem_cons_zero, List.setIfInBounds_toArray, List.set_cons_zero, List.set_cons_succ]
  refine wpAnyU_all (rs := [7, 14]) (by kernel_rfl) (by simp) (fun i hi => ?_)
  simp only [List.mem_cons, List.not_mem_nil, or_false] at hi
  rcases hi with rfl | rfl
  · refine wpOpU_step rfl rfl (fun K hK => ?_)
    go_simp
    have D1 := Lib.hid (D0.out.box [.int .i64 j] 3)
    have h1 : (d0.alloc (.cells ([.int .i64 j] : List Value).toArray 3)).cell? ⟨q, 3, none⟩ = some (.slice oJ JR.length cJ) ∧ (d0.alloc (.cells ([.int .i64 j] : List Value).toArray 3)).cell? ⟨q, 5, none⟩ = some (.slice oR JR.length cR) ∧ (d0.alloc (.cells ([.int .i64 j] : List Value).toArray 3)).cell? ⟨B, 0, none⟩ = some (.int .i64 r.e) ∧ (d0.alloc (.cells ([.int .i64 j] : List Value).toArray 3)).cell? ⟨B, 1, none⟩ = some (.slice ob r.pk.length cq) ∧ (d0.alloc (.cells ([.int .i64 j] : List Value).toArray 3)).cell? ⟨B, 2, none⟩ = some (.int .i64 r.n) ∧ (d0.alloc (.cells ([.int .i64 j] : List Value).toArray 3)).cell? ⟨B, 3, none⟩ = some (.int .u64 r.v) := ⟨(D1.out.rowm (k := q) (vs := [ptr x, .int .i64 W, vK, .slice oJ JR.length cJ, vC, .slice oR JR.length cR]) (t := 59) (by simp)).cell rfl, (D1.out.rowm (k := q) (vs := [ptr x, .int .i64 W, vK, .slice oJ JR.length cJ, vC, .slice oR JR.length cR]) (t := 59) (by simp)).cell rfl, (D1.out.rowm (k := B) (vs := [.int .i64 r.e, .slice ob r.pk.length cq, .int .i64 r.n, .int .u64 r.v]) (t := 41) (by simp)).cell rfl, (D1.out.rowm (k := B) (vs := [.int .i64 r.e, .slice ob r.pk.length cq, .int .i64 r.n, .int .u64 r.v]) (t := 41) (by simp)).cell rfl, (D1.out.rowm (k := B) (vs := [.int .i64 r.e, .slice ob r.pk.length cq, .int .i64 r.n, .int .u64 r.v]) (t := 41) (by simp)).cell rfl, (D1.out.rowm (k := B) (vs := [.int .i64 r.e, .slice ob r.pk.length cq, .int .i64 r.n, .int .u64 r.v]) (t := 41) (by simp)).cell rfl⟩
    refine hK _ _ ⟨fun _ => h1, ?_⟩
    clear hK K
    generalize d0.alloc (.cells ([.int .i64 j] : List Value).toArray 3) = d1 at D1 h1 ⊢
    generalize d0.heap.size = x1 at D1 ⊢
    try simp only [Act.put, List.getElem_toArray, List.getElem_cons_succ, List.getElem_cons_zero, List.setIfInBounds_toArray, List.set_cons_zero, List.set_cons_succ]
    refine wpAnyU_all (rs := [8, 14]) (by kernel_rfl) (by simp) (fun i hi => ?_)
    simp only [List.mem_cons, List.not_mem_nil, or_false] at hi
    rcases hi with rfl | rfl
    · refine wpOpU_step rfl rfl (fun K hK => ?_)
      refine wp_append_lies _ (.tmp 25) (.tmp 27) 52 rfl 0 3 i1 _ 1 8 Try.underlying52 hi1 hx0 hx1 hx2 rfl (by omega) (.slice oJ JR.length cJ) N (ikeys JR) rfl (D1.out.owned' 0 rfl) ⟨x1, 0, none⟩ 1 1 [.int .i64 j] rfl rfl (row_news (D1.out.rowm (k := x1) (vs := [.int .i64 j]) (t := 3) (by simp))) (by simp [Value.oneCell']) (by omega) (by unfold maxLen; omega) (by omega) (by omega) _ rfl ?_
      intro g2 p2 d2 own gro hat hlt
      have D2 := Lib.hid (Scope.appended (D1.out) own gro hat)
      have h2 : d2.cell? ⟨q, 3, none⟩ = some (.slice oJ JR.length cJ) ∧ d2.cell? ⟨q, 5, none⟩ = some (.slice oR JR.length cR) ∧ d2.cell? ⟨B, 0, none⟩ = some (.int .i64 r.e) ∧ d2.cell? ⟨B, 1, none⟩ = some (.slice ob r.pk.length cq) ∧ d2.cell? ⟨B, 2, none⟩ = some (.int .i64 r.n) ∧ d2.cell? ⟨B, 3, none⟩ = some (.int .u64 r.v) := ⟨(D2.out.rowm (k := q) (vs := [ptr x, .int .i64 W, vK, .slice oJ JR.length cJ, vC, .slice oR JR.length cR]) (t := 59) (by simp)).cell rfl, (D2.out.rowm (k := q) (vs := [ptr x, .int .i64 W, vK, .slice oJ JR.length cJ, vC, .slice oR JR.length cR]) (t := 59) (by simp)).cell rfl, (D2.out.rowm (k := B) (vs := [.int .i64 r.e, .slice ob r.pk.length cq, .int .i64 r.n, .int .u64 r.v]) (t := 41) (by simp)).cell rfl, (D2.out.rowm (k := B) (vs := [.int .i64 r.e, .slice ob r.pk.length cq, .int .i64 r.n, .int .u64 r.v]) (t := 41) (by simp)).cell rfl, (D2.out.rowm (k := B) (vs := [.int .i64 r.e, .slice ob r.pk.length cq, .int .i64 r.n, .int .u64 r.v]) (t := 41) (by simp)).cell rfl, (D2.out.rowm (k := B) (vs := [.int .i64 r.e, .slice ob r.pk.length cq, .int .i64 r.n, .int .u64 r.v]) (t := 41) (by simp)).cell rfl⟩
      refine hK _ _ ⟨fun _ => h2, ?_⟩
      clear hK K own gro hat hlt
      try simp only [Act.put, List.getElem_toArray, List.getElem_cons_succ, List.getElem_cons_zero, List.setIfInBounds_toArray, List.set_cons_zero, List.set_cons_succ]
      refine wpAnyU_all (rs := [14]) (by kernel_rfl) (by simp) (fun i hi => ?_)
      obtain rfl : i = 14 := by simpa using hi
      refine wpOpU_step rfl rfl (fun K hK => ?_)
      go_simp
      have D3 := Lib.hid (D2.out.box [.int .i64 r.e, .slice ob r.pk.length cq, .int .i64 r.n, .int .u64 r.v] 41)
      have h3 : (d2.alloc (.cells ([.int .i64 r.e, .slice ob r.pk.length cq, .int .i64 r.n, .int .u64 r.v] : List Value).toArray 41)).cell? ⟨q, 3, none⟩ = some (.slice oJ JR.length cJ) ∧ (d2.alloc (.cells ([.int .i64 r.e, .slice ob r.pk.length cq, .int .i64 r.n, .int .u64 r.v] : List Value).toArray 41)).cell? ⟨q, 5, none⟩ = some (.slice oR JR.length cR) ∧ (d2.alloc (.cells ([.int .i64 r.e, .slice ob r.pk.length cq, .int .i64 r.n, .int .u64 r.v] : List Value).toArray 41)).cell? ⟨B, 0, none⟩ = some (.int .i64 r.e) ∧ (d2.alloc (.cells ([.int .i64 r.e, .slice ob r.pk.length cq, .int .i64 r.n, .int .u64 r.v] : List Value).toArray 41)).cell? ⟨B, 1, none⟩ = some (.slice ob r.pk.length cq) ∧ (d2.alloc (.cells ([.int .i64 r.e, .slice ob r.pk.length cq, .int .i64 r.n, .int .u64 r.v] : List Value).toArray 41)).cell? ⟨B, 2, none⟩ = some (.int .i64 r.n) ∧ (d2.alloc (.cells ([.int .i64 r.e, .slice ob r.pk.length cq, .int .i64 r.n, .int .u64 r.v] : List Value).toArray 41)).cell? ⟨B, 3, none⟩ = some (.int .u64 r.v) := ⟨(D3.out.rowm (k := q) (vs := [ptr x, .int .i64 W, vK, .slice oJ JR.length cJ, vC, .slice oR JR.length cR]) (t := 59) (by simp)).cell rfl, (D3.out.rowm (k := q) (vs := [ptr x, .int .i64 W, vK, .slice oJ JR.length cJ, vC, .slice oR JR.length cR]) (t := 59) (by simp)).cell rfl, (D3.out.rowm (k := B) (vs := [.int .i64 r.e, .slice ob r.pk.length cq, .int .i64 r.n, .int .u64 r.v]) (t := 41) (by simp)).cell rfl, (D3.out.rowm (k := B) (vs := [.int .i64 r.e, .slice ob r.pk.length cq, .int .i64 r.n, .int .u64 r.v]) (t := 41) (by simp)).cell rfl, (D3.out.rowm (k := B) (vs := [.int .i64 r.e, .slice ob r.pk.length cq, .int .i64 r.n, .int .u64 r.v]) (t := 41) (by simp)).cell rfl, (D3.out.rowm (k := B) (vs := [.int .i64 r.e, .slice ob r.pk.length cq, .int .i64 r.n, .int .u64 r.v]) (t := 41) (by simp)).cell rfl⟩
      refine hK _ _ ⟨fun _ => h3, ?_⟩
      clear hK K
      generalize d2.alloc (.cells ([.int .i64 r.e, .slice ob r.pk.length cq, .int .i64 r.n, .int .u64 r.v] : List Value).toArray 41) = d3 at D3 h3 ⊢
      generalize d2.heap.size = x3 at D3 ⊢
      try simp only [Act.put, List.getElem_toArray, List.getElem_cons_succ, List.getElem_cons_zero, List.setIfInBounds_toArray, List.set_cons_zero, List.set_cons_succ]
      refine wpAnyU_all (rs := [15]) (by kernel_rfl) (by simp) (fun i hi => ?_)
      obtain rfl : i = 15 := by simpa using hi
      refine wpOpU_step rfl rfl (fun K hK => ?_)
      refine wp_append_lies _ (.tmp 32) (.tmp 34) 23 rfl 0 41 i2 _ 4 48 Try.underlying23 hi2 hy0 hy1 hy2 rfl (by omega) (.slice oR JR.length cR) N (rcells JR sl) rfl (D3.out.owned' 1 rfl) ⟨x3, 0, none⟩ 1 1 [.int .i64 r.e, .slice ob r.pk.length cq, .int .i64 r.n, .int .u64 r.v] rfl rfl (row_news (D3.out.rowm (k := x3) (vs := [.int .i64 r.e, .slice ob r.pk.length cq, .int .i64 r.n, .int .u64 r.v]) (t := 41) (by simp))) (by simp [Value.oneCell']) (by omega) (by unfold maxLen; omega) (by omega) (by omega) _ rfl ?_
      intro g4 p4 d4 own gro hat hlt
      have D4 := Lib.hid ((Scope.appended (D3.out.swap2) own gro hat).swap2)
      have h4 : d4.cell? ⟨q, 3, none⟩ = some (.slice oJ JR.length cJ) ∧ d4.cell? ⟨q, 5, none⟩ = some (.slice oR JR.length cR) ∧ d4.cell? ⟨B, 0, none⟩ = some (.int .i64 r.e) ∧ d4.cell? ⟨B, 1, none⟩ = some (.slice ob r.pk.length cq) ∧ d4.cell? ⟨B, 2, none⟩ = some (.int .i64 r.n) ∧ d4.cell? ⟨B, 3, none⟩ = some (.int .u64 r.v) := ⟨(D4.out.rowm (k := q) (vs := [ptr x, .int .i64 W, vK, .slice oJ JR.length cJ, vC, .slice oR JR.length cR]) (t := 59) (by simp)).cell rfl, (D4.out.rowm (k := q) (vs := [ptr x, .int .i64 W, vK, .slice oJ JR.length cJ, vC, .slice oR JR.length cR]) (t := 59) (by simp)).cell rfl, (D4.out.rowm (k := B) (vs := [.int .i64 r.e, .slice ob r.pk.length cq, .int .i64 r.n, .int .u64 r.v]) (t := 41) (by simp)).cell rfl, (D4.out.rowm (k := B) (vs := [.int .i64 r.e, .slice ob r.pk.length cq, .int .i64 r.n, .int .u64 r.v]) (t := 41) (by simp)).cell rfl, (D4.out.rowm (k := B) (vs := [.int .i64 r.e, .slice ob r.pk.length cq, .int .i64 r.n, .int .u64 r.v]) (t := 41) (by simp)).cell rfl, (D4.out.rowm (k := B) (vs := [.int .i64 r.e, .slice ob r.pk.length cq, .int .i64 r.n, .int .u64 r.v]) (t := 41) (by simp)).cell rfl⟩
      refine hK _ _ ⟨fun _ => h4, ?_⟩
      clear hK K own gro hat hlt
      try simp only [Act.put, List.getElem_toArray, List.getElem_cons_succ, List.getElem_cons_zero, List.setIfInBounds_toArray, List.set_cons_zero, List.set_cons_succ]
      have rq := D4.out.rowm (k := q) (vs := [ptr x, .int .i64 W, vK, .slice oJ JR.length cJ, vC, .slice oR JR.length cR]) (t := 59) (by simp)
      have fA := rq.free 3
      have fB := rq.free 5
      have zA : d4.cell? ⟨q, 3, none⟩ = some (.slice oJ JR.length cJ) := rq.cell rfl
      have zB : d4.cell? ⟨q, 5, none⟩ = some (.slice oR JR.length cR) := rq.cell rfl
      clear rq h4
      refine wpAnyU_rest _ _ _ _ (fun j hj => ?_) ?_
      · simp at hj; rcases hj with rfl | rfl | rfl | rfl | rfl | rfl | rfl <;> rfl
      refine wpAny_take (i := 16) (v := ?_) rfl (by kernel_rfl) (by kernel_rfl) (by kernel_rfl) (fun _ _ _ h => h) (Or.inl ⟨by rfl, ?_⟩) ?_
      rotate_left 1
      · (intro w'; (try simp only [List.getElem_toArray, List.getElem_cons_succ, List.getElem_cons_zero]); go_simp; (try with_reducible rfl))
      try simp only [Act.put, List.getElem_toArray, List.getElem_cons_succ, List.getElem_cons_zero, List.setIfInBounds_toArray, List.set_cons_zero, List.set_cons_succ]
      refine wpAny_take (i := 17) (v := ?_) rfl (by kernel_rfl) (by kernel_rfl) (by kernel_rfl) (fun _ _ _ h => h) (Or.inl ⟨by rfl, ?_⟩) ?_
      rotate_left 1
      · (intro w'; (try simp only [List.getElem_toArray, List.getElem_cons_succ, List.getElem_cons_zero]); go_simp; (try with_reducible rfl))
      try simp only [Act.put, List.getElem_toArray, List.getElem_cons_succ, List.getElem_cons_zero, List.setIfInBounds_toArray, List.set_cons_zero, List.set_cons_succ]
      refine wpAny_all (rs := [18]) (by kernel_rfl) (by simp) (fun i hi => ?_)
      obtain rfl : i = 18 := by simpa using hi
      refine wpOpU_stepG rfl (by rfl) (fun K hK => ?_)
      go_simp
      refine hK _ _ ?_
      clear hK K
      try simp only [Act.put, List.getElem_toArray, List.getElem_cons_succ, List.getElem_cons_zero, List.setIfInBounds_toArray, List.set_cons_zero, List.set_cons_succ]
      refine wpAny_take (i := 19) (v := ?_) rfl (by kernel_rfl) (by kernel_rfl) (by kernel_rfl) (fun _ _ _ h => h) (Or.inl ⟨by rfl, ?_⟩) ?_
      rotate_left 1
      · (intro w'; (try simp only [List.getElem_toArray, List.getElem_cons_succ, List.getElem_cons_zero]); go_simp; (try with_reducible rfl))
      try simp only [Act.put, List.getElem_toArray, List.getElem_cons_succ, List.getElem_cons_zero, List.setIfInBounds_toArray, List.set_cons_zero, List.set_cons_succ]
      refine wpAny_take (i := 20) (v := ?_) rfl (by kernel_rfl) (by kernel_rfl) (by kernel_rfl) (fun _ _ _ h => h) (Or.inl ⟨by rfl, ?_⟩) ?_
      rotate_left 1
      · (intro w'; (try simp only [List.getElem_toArray, List.getElem_cons_succ, List.getElem_cons_zero]); go_simp; (try with_reducible rfl))
      try simp only [Act.put, List.getElem_toArray, List.getElem_cons_succ, List.getElem_cons_zero, List.setIfInBounds_toArray, List.set_cons_zero, List.set_cons_succ]
      refine wpAny_all (rs := [21]) (by kernel_rfl) (by simp) (fun i hi => ?_)
      obtain rfl : i = 21 := by simpa using hi
      refine wpOpU_stepG rfl (by rfl) (fun K hK => ?_)
      go_simp
      refine hK _ _ ?_
      clear hK K
      try simp only [Act.put, List.getElem_toArray, List.getElem_cons_succ, List.getElem_cons_zero, List.setIfInBounds_toArray, List.set_cons_zero, List.set_cons_succ]
      refine wpAny_done (by kernel_rfl) ?_ _
      go_wp2
      go_end0
      have hz := rans_done D4.out HN.out hf
      exact ⟨rfl, hz.drop2⟩
    · refine wpOpU_step rfl rfl (fun K hK => ?_)
      go_simp
      have D5 := Lib.hid (D1.out.box [.int .i64 r.e, .slice ob r.pk.length cq, .int .i64 r.n, .int .u64 r.v] 41)
      have h5 : (d1.alloc (.cells ([.int .i64 r.e, .slice ob r.pk.length cq, .int .i64 r.n, .int .u64 r.v] : List Value).toArray 41)).cell? ⟨q, 3, none⟩ = some (.slice oJ JR.length cJ) ∧ (d1.alloc (.cells ([.int .i64 r.e, .slice ob r.pk.length cq, .int .i64 r.n, .int .u64 r.v] : List Value).toArray 41)).cell? ⟨q, 5, none⟩ = some (.slice oR JR.length cR) ∧ (d1.alloc (.cells ([.int .i64 r.e, .slice ob r.pk.length cq, .int .i64 r.n, .int .u64 r.v] : List Value).toArray 41)).cell? ⟨B, 0, none⟩ = some (.int .i64 r.e) ∧ (d1.alloc (.cells ([.int .i64 r.e, .slice ob r.pk.length cq, .int .i64 r.n, .int .u64 r.v] : List Value).toArray 41)).cell? ⟨B, 1, none⟩ = some (.slice ob r.pk.length cq) ∧ (d1.alloc (.cells ([.int .i64 r.e, .slice ob r.pk.length cq, .int .i64 r.n, .int .u64 r.v] : List Value).toArray 41)).cell? ⟨B, 2, none⟩ = some (.int .i64 r.n) ∧ (d1.alloc (.cells ([.int .i64 r.e, .slice ob r.pk.length cq, .int .i64 r.n, .int .u64 r.v] : List Value).toArray 41)).cell? ⟨B, 3, none⟩ = some (.int .u64 r.v) := ⟨(D5.out.rowm (k := q) (vs := [ptr x, .int .i64 W, vK, .slice oJ JR.length cJ, vC, .slice oR JR.length cR]) (t := 59) (by simp)).cell rfl, (D5.out.rowm (k := q) (vs := [ptr x, .int .i64 W, vK, .slice oJ JR.length cJ, vC, .slice oR JR.length cR]) (t := 59) (by simp)).cell rfl, (D5.out.rowm (k := B) (vs := [.int .i64 r.e, .slice ob r.pk.length cq, .int .i64 r.n, .int .u64 r.v]) (t := 41) (by simp)).cell rfl, (D5.out.rowm (k := B) (vs := [.int .i64 r.e, .slice ob r.pk.length cq, .int .i64 r.n, .int .u64 r.v]) (t := 41) (by simp)).cell rfl, (D5.out.rowm (k := B) (vs := [.int .i64 r.e, .slice ob r.pk.length cq, .int .i64 r.n, .int .u64 r.v]) (t := 41) (by simp)).cell rfl, (D5.out.rowm (k := B) (vs := [.int .i64 r.e, .slice ob r.pk.length cq, .int .i64 r.n, .int .u64 r.v]) (t := 41) (by simp)).cell rfl⟩
      refine hK _ _ ⟨fun _ => h5, ?_⟩
      clear hK K
      generalize d1.alloc (.cells ([.int .i64 r.e, .slice ob r.pk.length cq, .int .i64 r.n, .int .u64 r.v] : List Value).toArray 41) = d5 at D5 h5 ⊢
      generalize d1.heap.size = x5 at D5 ⊢
      try simp only [Act.put, List.getElem_toArray, List.getElem_cons_succ, List.getElem_cons_zero, List.setIfInBounds_toArray, List.set_cons_zero, List.set_cons_succ]
      refine wpAnyU_all (rs := [8]) (by kernel_rfl) (by simp) (fun i hi => ?_)
      obtain rfl : i = 8 := by simpa using hi
      refine wpOpU_step rfl rfl (fun K hK => ?_)
      refine wp_append_lies _ (.tmp 25) (.tmp 27) 52 rfl 0 3 i1 _ 1 8 Try.underlying52 hi1 hx0 hx1 hx2 rfl (by omega) (.slice oJ JR.length cJ) N (ikeys JR) rfl (D5.out.owned' 0 rfl) ⟨x1, 0, none⟩ 1 1 [.int .i64 j] rfl rfl (row_news (D5.out.rowm (k := x1) (vs := [.int .i64 j]) (t := 3) (by simp))) (by simp [Value.oneCell']) (by omega) (by unfold maxLen; omega) (by omega) (by omega) _ rfl ?_
      intro g6 p6 d6 own gro hat hlt
      have D6 := Lib.hid (Scope.appended (D5.out) own gro hat)
      have h6 : d6.cell? ⟨q, 3, none⟩ = some (.slice oJ JR.length cJ) ∧ d6.cell? ⟨q, 5, none⟩ = some (.slice oR JR.length cR) ∧ d6.cell? ⟨B, 0, none⟩ = some (.int .i64 r.e) ∧ d6.cell? ⟨B, 1, none⟩ = some (.slice ob r.pk.length cq) ∧ d6.cell? ⟨B, 2, none⟩ = some (.int .i64 r.n) ∧ d6.cell? ⟨B, 3, none⟩ = some (.int .u64 r.v) := ⟨(D6.out.rowm (k := q) (vs := [ptr x, .int .i64 W, vK, .slice oJ JR.length cJ, vC, .slice oR JR.length cR]) (t := 59) (by simp)).cell rfl, (D6.out.rowm (k := q) (vs := [ptr x, .int .i64 W, vK, .slice oJ JR.length cJ, vC, .slice oR JR.length cR]) (t := 59) (by simp)).cell rfl, (D6.out.rowm (k := B) (vs := [.int .i64 r.e, .slice ob r.pk.length cq, .int .i64 r.n, .int .u64 r.v]) (t := 41) (by simp)).cell rfl, (D6.out.rowm (k := B) (vs := [.int .i64 r.e, .slice ob r.pk.length cq, .int .i64 r.n, .int .u64 r.v]) (t := 41) (by simp)).cell rfl, (D6.out.rowm (k := B) (vs := [.int .i64 r.e, .slice ob r.pk.length cq, .int .i64 r.n, .int .u64 r.v]) (t := 41) (by simp)).cell rfl, (D6.out.rowm (k := B) (vs := [.int .i64 r.e, .slice ob r.pk.length cq, .int .i64 r.n, .int .u64 r.v]) (t := 41) (by simp)).cell rfl⟩
      refine hK _ _ ⟨fun _ => h6, ?_⟩
      clear hK K own gro hat hlt
      try simp only [Act.put, List.getElem_toArray, List.getElem_cons_succ, List.getElem_cons_zero, List.setIfInBounds_toArray, List.set_cons_zero, List.set_cons_succ]
      refine wpAnyU_all (rs := [15]) (by kernel_rfl) (by simp) (fun i hi => ?_)
      obtain rfl : i = 15 := by simpa using hi
      refine wpOpU_step rfl rfl (fun K hK => ?_)
      refine wp_append_lies _ (.tmp 32) (.tmp 34) 23 rfl 0 41 i2 _ 4 48 Try.underlying23 hi2 hy0 hy1 hy2 rfl (by omega) (.slice oR JR.length cR) N (rcells JR sl) rfl (D6.out.owned' 1 rfl) ⟨x5, 0, none⟩ 1 1 [.int .i64 r.e, .slice ob r.pk.length cq, .int .i64 r.n, .int .u64 r.v] rfl rfl (row_news (D6.out.rowm (k := x5) (vs := [.int .i64 r.e, .slice ob r.pk.length cq, .int .i64 r.n, .int .u64 r.v]) (t := 41) (by simp))) (by simp [Value.oneCell']) (by omega) (by unfold maxLen; omega) (by omega) (by omega) _ rfl ?_
      intro g7 p7 d7 own gro hat hlt
      have D7 := Lib.hid ((Scope.appended (D6.out.swap2) own gro hat).swap2)
      have h7 : d7.cell? ⟨q, 3, none⟩ = some (.slice oJ JR.length cJ) ∧ d7.cell? ⟨q, 5, none⟩ = some (.slice oR JR.length cR) ∧ d7.cell? ⟨B, 0, none⟩ = some (.int .i64 r.e) ∧ d7.cell? ⟨B, 1, none⟩ = some (.slice ob r.pk.length cq) ∧ d7.cell? ⟨B, 2, none⟩ = some (.int .i64 r.n) ∧ d7.cell? ⟨B, 3, none⟩ = some (.int .u64 r.v) := ⟨(D7.out.rowm (k := q) (vs := [ptr x, .int .i64 W, vK, .slice oJ JR.length cJ, vC, .slice oR JR.length cR]) (t := 59) (by simp)).cell rfl, (D7.out.rowm (k := q) (vs := [ptr x, .int .i64 W, vK, .slice oJ JR.length cJ, vC, .slice oR JR.length cR]) (t := 59) (by simp)).cell rfl, (D7.out.rowm (k := B) (vs := [.int .i64 r.e, .slice ob r.pk.length cq, .int .i64 r.n, .int .u64 r.v]) (t := 41) (by simp)).cell rfl, (D7.out.rowm (k := B) (vs := [.int .i64 r.e, .slice ob r.pk.length cq, .int .i64 r.n, .int .u64 r.v]) (t := 41) (by simp)).cell rfl, (D7.out.rowm (k := B) (vs := [.int .i64 r.e, .slice ob r.pk.length cq, .int .i64 r.n, .int .u64 r.v]) (t := 41) (by simp)).cell rfl, (D7.out.rowm (k := B) (vs := [.int .i64 r.e, .slice ob r.pk.length cq, .int .i64 r.n, .int .u64 r.v]) (t := 41) (by simp)).cell rfl⟩
      refine hK _ _ ⟨fun _ => h7, ?_⟩
      clear hK K own gro hat hlt
      try simp only [Act.put, List.getElem_toArray, List.getElem_cons_succ, List.getElem_cons_zero, List.setIfInBounds_toArray, List.set_cons_zero, List.set_cons_succ]
      have rq := D7.out.rowm (k := q) (vs := [ptr x, .int .i64 W, vK, .slice oJ JR.length cJ, vC, .slice oR JR.length cR]) (t := 59) (by simp)
      have fA := rq.free 3
      have fB := rq.free 5
      have zA : d7.cell? ⟨q, 3, none⟩ = some (.slice oJ JR.length cJ) := rq.cell rfl
      have zB : d7.cell? ⟨q, 5, none⟩ = some (.slice oR JR.length cR) := rq.cell rfl
      clear rq h7
      refine wpAnyU_rest _ _ _ _ (fun j hj => ?_) ?_
      · simp at hj; rcases hj with rfl | rfl | rfl | rfl | rfl | rfl | rfl <;> rfl
      refine wpAny_take (i := 16) (v := ?_) rfl (by kernel_rfl) (by kernel_rfl) (by kernel_rfl) (fun _ _ _ h => h) (Or.inl ⟨by rfl, ?_⟩) ?_
      rotate_left 1
      · (intro w'; (try simp only [List.getElem_toArray, List.getElem_cons_succ, List.getElem_cons_zero]); go_simp; (try with_reducible rfl))
      try simp only [Act.put, List.getElem_toArray, List.getElem_cons_succ, List.getElem_cons_zero, List.setIfInBounds_toArray, List.set_cons_zero, List.set_cons_succ]
      refine wpAny_take (i := 17) (v := ?_) rfl (by kernel_rfl) (by kernel_rfl) (by kernel_rfl) (fun _ _ _ h => h) (Or.inl ⟨by rfl, ?_⟩) ?_
      rotate_left 1
      · (intro w'; (try simp only [List.getElem_toArray, List.getElem_cons_succ, List.getElem_cons_zero]); go_simp; (try with_reducible rfl))
      try simp only [Act.put, List.getElem_toArray, List.getElem_cons_succ, List.getElem_cons_zero, List.setIfInBounds_toArray, List.set_cons_zero, List.set_cons_succ]
      refine wpAny_all (rs := [18]) (by kernel_rfl) (by simp) (fun i hi => ?_)
      obtain rfl : i = 18 := by simpa using hi
      refine wpOpU_stepG rfl (by rfl) (fun K hK => ?_)
      go_simp
      refine hK _ _ ?_
      clear hK K
      try simp only [Act.put, List.getElem_toArray, List.getElem_cons_succ, List.getElem_cons_zero, List.setIfInBounds_toArray, List.set_cons_zero, List.set_cons_succ]
      refine wpAny_take (i := 19) (v := ?_) rfl (by kernel_rfl) (by kernel_rfl) (by kernel_rfl) (fun _ _ _ h => h) (Or.inl ⟨by rfl, ?_⟩) ?_
      rotate_left 1
      · (intro w'; (try simp only [List.getElem_toArray, List.getElem_cons_succ, List.getElem_cons_zero]); go_simp; (try with_reducible rfl))
      try simp only [Act.put, List.getElem_toArray, List.getElem_cons_succ, List.getElem_cons_zero, List.setIfInBounds_toArray, List.set_cons_zero, List.set_cons_succ]
      refine wpAny_take (i := 20) (v := ?_) rfl (by kernel_rfl) (by kernel_rfl) (by kernel_rfl) (fun _ _ _ h => h) (Or.inl ⟨by rfl, ?_⟩) ?_
      rotate_left 1
      · (intro w'; (try simp only [List.getElem_toArray, List.getElem_cons_succ, List.getElem_cons_zero]); go_simp; (try with_reducible rfl))
      try simp only [Act.put, List.getElem_toArray, List.getElem_cons_succ, List.getElem_cons_zero, List.setIfInBounds_toArray, List.set_cons_zero, List.set_cons_succ]
      refine wpAny_all (rs := [21]) (by kernel_rfl) (by simp) (fun i hi => ?_)
      obtain rfl : i = 21 := by simpa using hi
      refine wpOpU_stepG rfl (by rfl) (fun K hK => ?_)
      go_simp
      refine hK _ _ ?_
      clear hK K
      try simp only [Act.put, List.getElem_toArray, List.getElem_cons_succ, List.getElem_cons_zero, List.setIfInBounds_toArray, List.set_cons_zero, List.set_cons_succ]
      refine wpAny_done (by kernel_rfl) ?_ _
      go_wp2
      go_end0
      have hz := rans_done D7.out HN.out hf
      exact ⟨rfl, hz.drop2⟩
  · refine wpOpU_step rfl rfl (fun K hK => ?_)
    go_simp
    have D8 := Lib.hid (D0.out.box [.int .i64 r.e, .slice ob r.pk.length cq, .int .i64 r.n, .int .u64 r.v] 41)
    have h8 : (d0.alloc (.cells ([.int .i64 r.e, .slice ob r.pk.length cq, .int .i64 r.n, .int .u64 r.v] : List Value).toArray 41)).cell? ⟨q, 3, none⟩ = some (.slice oJ JR.length cJ) ∧ (d0.alloc (.cells ([.int .i64 r.e, .slice ob r.pk.length cq, .int .i64 r.n, .int .u64 r.v] : List Value).toArray 41)).cell? ⟨q, 5, none⟩ = some (.slice oR JR.length cR) ∧ (d0.alloc (.cells ([.int .i64 r.e, .slice ob r.pk.length cq, .int .i64 r.n, .int .u64 r.v] : List Value).toArray 41)).cell? ⟨B, 0, none⟩ = some (.int .i64 r.e) ∧ (d0.alloc (.cells ([.int .i64 r.e, .slice ob r.pk.length cq, .int .i64 r.n, .int .u64 r.v] : List Value).toArray 41)).cell? ⟨B, 1, none⟩ = some (.slice ob r.pk.length cq) ∧ (d0.alloc (.cells ([.int .i64 r.e, .slice ob r.pk.length cq, .int .i64 r.n, .int .u64 r.v] : List Value).toArray 41)).cell? ⟨B, 2, none⟩ = some (.int .i64 r.n) ∧ (d0.alloc (.cells ([.int .i64 r.e, .slice ob r.pk.length cq, .int .i64 r.n, .int .u64 r.v] : List Value).toArray 41)).cell? ⟨B, 3, none⟩ = some (.int .u64 r.v) := ⟨(D8.out.rowm (k := q) (vs := [ptr x, .int .i64 W, vK, .slice oJ JR.length cJ, vC, .slice oR JR.length cR]) (t := 59) (by simp)).cell rfl, (D8.out.rowm (k := q) (vs := [ptr x, .int .i64 W, vK, .slice oJ JR.length cJ, vC, .slice oR JR.length cR]) (t := 59) (by simp)).cell rfl, (D8.out.rowm (k := B) (vs := [.int .i64 r.e, .slice ob r.pk.length cq, .int .i64 r.n, .int .u64 r.v]) (t := 41) (by simp)).cell rfl, (D8.out.rowm (k := B) (vs := [.int .i64 r.e, .slice ob r.pk.length cq, .int .i64 r.n, .int .u64 r.v]) (t := 41) (by simp)).cell rfl, (D8.out.rowm (k := B) (vs := [.int .i64 r.e, .slice ob r.pk.length cq, .int .i64 r.n, .int .u64 r.v]) (t := 41) (by simp)).cell rfl, (D8.out.rowm (k := B) (vs := [.int .i64 r.e, .slice ob r.pk.length cq, .int .i64 r.n, .int .u64 r.v]) (t := 41) (by simp)).cell rfl⟩
    refine hK _ _ ⟨fun _ => h8, ?_⟩
    clear hK K
    generalize d0.alloc (.cells ([.int .i64 r.e, .slice ob r.pk.length cq, .int .i64 r.n, .int .u64 r.v] : List Value).toArray 41) = d8 at D8 h8 ⊢
    generalize d0.heap.size = x8 at D8 ⊢
    try simp only [Act.put, List.getElem_toArray, List.getElem_cons_succ, List.getElem_cons_zero, List.setIfInBounds_toArray, List.set_cons_zero, List.set_cons_succ]
    refine wpAnyU_all (rs := [7]) (by kernel_rfl) (by simp) (fun i hi => ?_)
    obtain rfl : i = 7 := by simpa using hi
    refine wpOpU_step rfl rfl (fun K hK => ?_)
    go_simp
    have D9 := Lib.hid (D8.out.box [.int .i64 j] 3)
    have h9 : (d8.alloc (.cells ([.int .i64 j] : List Value).toArray 3)).cell? ⟨q, 3, none⟩ = some (.slice oJ JR.length cJ) ∧ (d8.alloc (.cells ([.int .i64 j] : List Value).toArray 3)).cell? ⟨q, 5, none⟩ = some (.slice oR JR.length cR) ∧ (d8.alloc (.cells ([.int .i64 j] : List Value).toArray 3)).cell? ⟨B, 0, none⟩ = some (.int .i64 r.e) ∧ (d8.alloc (.cells ([.int .i64 j] : List Value).toArray 3)).cell? ⟨B, 1, none⟩ = some (.slice ob r.pk.length cq) ∧ (d8.alloc (.cells ([.int .i64 j] : List Value).toArray 3)).cell? ⟨B, 2, none⟩ = some (.int .i64 r.n) ∧ (d8.alloc (.cells ([.int .i64 j] : List Value).toArray 3)).cell? ⟨B, 3, none⟩ = some (.int .u64 r.v) := ⟨(D9.out.rowm (k := q) (vs := [ptr x, .int .i64 W, vK, .slice oJ JR.length cJ, vC, .slice oR JR.length cR]) (t := 59) (by simp)).cell rfl, (D9.out.rowm (k := q) (vs := [ptr x, .int .i64 W, vK, .slice oJ JR.length cJ, vC, .slice oR JR.length cR]) (t := 59) (by simp)).cell rfl, (D9.out.rowm (k := B) (vs := [.int .i64 r.e, .slice ob r.pk.length cq, .int .i64 r.n, .int .u64 r.v]) (t := 41) (by simp)).cell rfl, (D9.out.rowm (k := B) (vs := [.int .i64 r.e, .slice ob r.pk.length cq, .int .i64 r.n, .int .u64 r.v]) (t := 41) (by simp)).cell rfl, (D9.out.rowm (k := B) (vs := [.int .i64 r.e, .slice ob r.pk.length cq, .int .i64 r.n, .int .u64 r.v]) (t := 41) (by simp)).cell rfl, (D9.out.rowm (k := B) (vs := [.int .i64 r.e, .slice ob r.pk.length cq, .int .i64 r.n, .int .u64 r.v]) (t := 41) (by simp)).cell rfl⟩
    refine hK _ _ ⟨fun _ => h9, ?_⟩
    clear hK K
    generalize d8.alloc (.cells ([.int .i64 j] : List Value).toArray 3) = d9 at D9 h9 ⊢
    generalize d8.heap.size = x9 at D9 ⊢
    try simp only [Act.put, List.getElem_toArray, List.getElem_cons_succ, List.getElem_cons_zero, List.setIfInBounds_toArray, List.set_cons_zero, List.set_cons_succ]
    refine wpAnyU_all (rs := [8]) (by kernel_rfl) (by simp) (fun i hi => ?_)
    obtain rfl : i = 8 := by simpa using hi
    refine wpOpU_step rfl rfl (fun K hK => ?_)
    refine wp_append_lies _ (.tmp 25) (.tmp 27) 52 rfl 0 3 i1 _ 1 8 Try.underlying52 hi1 hx0 hx1 hx2 rfl (by omega) (.slice oJ JR.length cJ) N (ikeys JR) rfl (D9.out.owned' 0 rfl) ⟨x9, 0, none⟩ 1 1 [.int .i64 j] rfl rfl (row_news (D9.out.rowm (k := x9) (vs := [.int .i64 j]) (t := 3) (by simp))) (by simp [Value.oneCell']) (by omega) (by unfold maxLen; omega) (by omega) (by omega) _ rfl ?_
    intro g10 p10 d10 own gro hat hlt
    have D10 := Lib.hid (Scope.appended (D9.out) own gro hat)
    have h10 : d10.cell? ⟨q, 3, none⟩ = some (.slice oJ JR.length cJ) ∧ d10.cell? ⟨q, 5, none⟩ = some (.slice oR JR.length cR) ∧ d10.cell? ⟨B, 0, none⟩ = some (.int .i64 r.e) ∧ d10.cell? ⟨B, 1, none⟩ = some (.slice ob r.pk.length cq) ∧ d10.cell? ⟨B, 2, none⟩ = some (.int .i64 r.n) ∧ d10.cell? ⟨B, 3, none⟩ = some (.int .u64 r.v) := ⟨(D10.out.rowm (k := q) (vs := [ptr x, .int .i64 W, vK, .slice oJ JR.length cJ, vC, .slice oR JR.length cR]) (t := 59) (by simp)).cell rfl, (D10.out.rowm (k := q) (vs := [ptr x, .int .i64 W, vK, .slice oJ JR.length cJ, vC, .slice oR JR.length cR]) (t := 59) (by simp)).cell rfl, (D10.out.rowm (k := B) (vs := [.int .i64 r.e, .slice ob r.pk.length cq, .int .i64 r.n, .int .u64 r.v]) (t := 41) (by simp)).cell rfl, (D10.out.rowm (k := B) (vs := [.int .i64 r.e, .slice ob r.pk.length cq, .int .i64 r.n, .int .u64 r.v]) (t := 41) (by simp)).cell rfl, (D10.out.rowm (k := B) (vs := [.int .i64 r.e, .slice ob r.pk.length cq, .int .i64 r.n, .int .u64 r.v]) (t := 41) (by simp)).cell rfl, (D10.out.rowm (k := B) (vs := [.int .i64 r.e, .slice ob r.pk.length cq, .int .i64 r.n, .int .u64 r.v]) (t := 41) (by simp)).cell rfl⟩
    refine hK _ _ ⟨fun _ => h10, ?_⟩
    clear hK K own gro hat hlt
    try simp only [Act.put, List.getElem_toArray, List.getElem_cons_succ, List.getElem_cons_zero, List.setIfInBounds_toArray, List.set_cons_zero, List.set_cons_succ]
    refine wpAnyU_all (rs := [15]) (by kernel_rfl) (by simp) (fun i hi => ?_)
    obtain rfl : i = 15 := by simpa using hi
    refine wpOpU_step rfl rfl (fun K hK => ?_)
    refine wp_append_lies _ (.tmp 32) (.tmp 34) 23 rfl 0 41 i2 _ 4 48 Try.underlying23 hi2 hy0 hy1 hy2 rfl (by omega) (.slice oR JR.length cR) N (rcells JR sl) rfl (D10.out.owned' 1 rfl) ⟨x8, 0, none⟩ 1 1 [.int .i64 r.e, .slice ob r.pk.length cq, .int .i64 r.n, .int .u64 r.v] rfl rfl (row_news (D10.out.rowm (k := x8) (vs := [.int .i64 r.e, .slice ob r.pk.length cq, .int .i64 r.n, .int .u64 r.v]) (t := 41) (by simp))) (by simp [Value.oneCell']) (by omega) (by unfold maxLen; omega) (by omega) (by omega) _ rfl ?_
    intro g11 p11 d11 own gro hat hlt
    have D11 := Lib.hid ((Scope.appended (D10.out.swap2) own gro hat).swap2)
    have h11 : d11.cell? ⟨q, 3, none⟩ = some (.slice oJ JR.length cJ) ∧ d11.cell? ⟨q, 5, none⟩ = some (.slice oR JR.length cR) ∧ d11.cell? ⟨B, 0, none⟩ = some (.int .i64 r.e) ∧ d11.cell? ⟨B, 1, none⟩ = some (.slice ob r.pk.length cq) ∧ d11.cell? ⟨B, 2, none⟩ = some (.int .i64 r.n) ∧ d11.cell? ⟨B, 3, none⟩ = some (.int .u64 r.v) := ⟨(D11.out.rowm (k := q) (vs := [ptr x, .int .i64 W, vK, .slice oJ JR.length cJ, vC, .slice oR JR.length cR]) (t := 59) (by simp)).cell rfl, (D11.out.rowm (k := q) (vs := [ptr x, .int .i64 W, vK, .slice oJ JR.length cJ, vC, .slice oR JR.length cR]) (t := 59) (by simp)).cell rfl, (D11.out.rowm (k := B) (vs := [.int .i64 r.e, .slice ob r.pk.length cq, .int .i64 r.n, .int .u64 r.v]) (t := 41) (by simp)).cell rfl, (D11.out.rowm (k := B) (vs := [.int .i64 r.e, .slice ob r.pk.length cq, .int .i64 r.n, .int .u64 r.v]) (t := 41) (by simp)).cell rfl, (D11.out.rowm (k := B) (vs := [.int .i64 r.e, .slice ob r.pk.length cq, .int .i64 r.n, .int .u64 r.v]) (t := 41) (by simp)).cell rfl, (D11.out.rowm (k := B) (vs := [.int .i64 r.e, .slice ob r.pk.length cq, .int .i64 r.n, .int .u64 r.v]) (t := 41) (by simp)).cell rfl⟩
    refine hK _ _ ⟨fun _ => h11, ?_⟩
    clear hK K own gro hat hlt
    try simp only [Act.put, List.getElem_toArray, List.getElem_cons_succ, List.getElem_cons_zero, List.setIfInBounds_toArray, List.set_cons_zero, List.set_cons_succ]
    have rq := D11.out.rowm (k := q) (vs := [ptr x, .int .i64 W, vK, .slice oJ JR.length cJ, vC, .slice oR JR.length cR]) (t := 59) (by simp)
    have fA := rq.free 3
    have fB := rq.free 5
    have zA : d11.cell? ⟨q, 3, none⟩ = some (.slice oJ JR.length cJ) := rq.cell rfl
    have zB : d11.cell? ⟨q, 5, none⟩ = some (.slice oR JR.length cR) := rq.cell rfl
    clear rq h11
    refine wpAnyU_rest _ _ _ _ (fun j hj => ?_) ?_
    · simp at hj; rcases hj with rfl | rfl | rfl | rfl | rfl | rfl | rfl <;> rfl
    refine wpAny_take (i := 16) (v := ?_) rfl (by kernel_rfl) (by kernel_rfl) (by kernel_rfl) (fun _ _ _ h => h) (Or.inl ⟨by rfl, ?_⟩) ?_
    rotate_left 1
    · (intro w'; (try simp only [List.getElem_toArray, List.getElem_cons_succ, List.getElem_cons_zero]); go_simp; (try with_reducible rfl))
    try simp only [Act.put, List.getElem_toArray, List.getElem_cons_succ, List.getElem_cons_zero, List.setIfInBounds_toArray, List.set_cons_zero, List.set_cons_succ]
    refine wpAny_take (i := 17) (v := ?_) rfl (by kernel_rfl) (by kernel_rfl) (by kernel_rfl) (fun _ _ _ h => h) (Or.inl ⟨by rfl, ?_⟩) ?_
    rotate_left 1
    · (intro w'; (try simp only [List.getElem_toArray, List.getElem_cons_succ, List.getElem_cons_zero]); go_simp; (try with_reducible rfl))
    try simp only [Act.put, List.getElem_toArray, List.getElem_cons_succ, List.getElem_cons_zero, List.setIfInBounds_toArray, List.set_cons_zero, List.set_cons_succ]
    refine wpAny_all (rs := [18]) (by kernel_rfl) (by simp) (fun i hi => ?_)
    obtain rfl : i = 18 := by simpa using hi
    refine wpOpU_stepG rfl (by rfl) (fun K hK => ?_)
    go_simp
    refine hK _ _ ?_
    clear hK K
    try simp only [Act.put, List.getElem_toArray, List.getElem_cons_succ, List.getElem_cons_zero, List.setIfInBounds_toArray, List.set_cons_zero, List.set_cons_succ]
    refine wpAny_take (i := 19) (v := ?_) rfl (by kernel_rfl) (by kernel_rfl) (by kernel_rfl) (fun _ _ _ h => h) (Or.inl ⟨by rfl, ?_⟩) ?_
    rotate_left 1
    · (intro w'; (try simp only [List.getElem_toArray, List.getElem_cons_succ, List.getElem_cons_zero]); go_simp; (try with_reducible rfl))
    try simp only [Act.put, List.getElem_toArray, List.getElem_cons_succ, List.getElem_cons_zero, List.setIfInBounds_toArray, List.set_cons_zero, List.set_cons_succ]
    refine wpAny_take (i := 20) (v := ?_) rfl (by kernel_rfl) (by kernel_rfl) (by kernel_rfl) (fun _ _ _ h => h) (Or.inl ⟨by rfl, ?_⟩) ?_
    rotate_left 1
    · (intro w'; (try simp only [List.getElem_toArray, List.getElem_cons_succ, List.getElem_cons_zero]); go_simp; (try with_reducible rfl))
    try simp only [Act.put, List.getElem_toArray, List.getElem_cons_succ, List.getElem_cons_zero, List.setIfInBounds_toArray, List.set_cons_zero, List.set_cons_succ]
    refine wpAny_all (rs := [21]) (by kernel_rfl) (by simp) (fun i hi => ?_)
    obtain rfl : i = 21 := by simpa using hi
    refine wpOpU_stepG rfl (by rfl) (fun K hK => ?_)
    go_simp
    refine hK _ _ ?_
    clear hK K
    try simp only [Act.put, List.getElem_toArray, List.getElem_cons_succ, List.getElem_cons_zero, List.setIfInBounds_toArray, List.set_cons_zero, List.set_cons_succ]
    refine wpAny_done (by kernel_rfl) ?_ _
    go_wp2
    go_end0
    have hz := rans_done D11.out HN.out hf
    exact ⟨rfl, hz.drop2⟩
end
end Go.Proofs.Ytjipjhmcpjffcac
