/- First of package weighbridgeref12: no two accesses race where each conflict's clocks are ahead of each other. -/
import Derived.Test.YtjipjhmcpjffcacOrdD
set_option linter.unusedSimpArgs false
set_option linter.unusedVariables false
set_option maxRecDepth 20000
namespace Go.Proofs.Ytjipjhmcpjffcac
open Go Go.RowKit Go.Maps

set_option maxHeartbeats 8000000 in
theorem first_any {w : World} {v : Value} {l : List Ev} (h : EvF w v l) (hok : okEv l) (hl : l.length ≤ 1000)
    (hgood : ∀ cs, ClkInv l cs l.length → ∀ (i j : Nat) (x y : Ev), i < j → l[i]? = some x → l[j]? = some y → cfB x y = true → le' (cs.getD i []) (cs.getD j [])) :
    Calls Try.prog 30 #[v] w fun e w' => e = .returned (.tuple #[.int .i64 0, .int .i64 0, .bool false]) ∧ Chg [] w w' := by
  have clk0 := clocks_any h hok hl
  obtain ⟨oa, c, ev, hc⟩ := h
  obtain ⟨n, hn⟩ : ∃ n, n = l.length := ⟨_, rfl⟩
  unfold Clocked at clk0
  rw [← hn] at ev hl hgood clk0
  have Hc := Lib.hid hc; have HN := Lib.hid hn; have HG := Lib.hid hgood; have HC := Lib.hid clk0
  clear hc hn hok hgood clk0
  subst ev
  go_enter Try.func30, Try.ntmps30
  go_wp2_with fail
  refine HC.out.mono ?_
  rintro e w1 ⟨vC, sl, cs, rfl, hinv, s1⟩
  obtain ⟨oC, cC, eC, _, _⟩ := own_formS (s1.owned' 0 rfl)
  subst eC
  have S1 := Lib.hid s1; have Iv := Lib.hid hinv; have C1 := Lib.hid s1.1; have Good := Lib.hid (HG.out cs hinv)
  clear s1 hinv HC HG
  go_wp2_with fail
  go_loopw [6] (fun j wr => ∃ jn : Nat, jn ≤ n ∧ j = .int .i64 jn ∧ Chg [] w1 wr) (fun j _ => n - (intOf j).toNat)
  case atStart => exact ⟨0, by omega, rfl, Chg.refl _ _⟩
  case round =>
    obtain ⟨jn, hjn, rfl, hch⟩ := hrel
    have Ch := Lib.hid hch
    clear hch
    by_cases hlt : jn < n
    · obtain ⟨y, hy⟩ : ∃ y, l[jn]? = some y := ⟨_, List.getElem?_eq_getElem (by rw [← HN.out]; exact hlt)⟩
      have j1 : (jn : Int) < (n : Int) := by omega
      have j0 : (0 : Int) ≤ (jn : Int) := by omega
      have Hy := Lib.hid hy
      clear hy
      go_wp2_with fail
      go_loopw [7] (fun i wr => ∃ t : Nat, t ≤ jn ∧ i = .int .i64 t ∧ Chg [] w1 wr) (fun i _ => jn - (intOf i).toNat)
      case atStart => exact ⟨0, by omega, rfl, Ch.out⟩
      case round =>
        obtain ⟨t, htj, rfl, hch⟩ := hrel
        have Cr := Lib.hid hch
        clear hch Ch
        by_cases htl : t < jn
        · obtain ⟨x, hx⟩ : ∃ y, l[t]? = some y := ⟨_, List.getElem?_eq_getElem (by rw [← HN.out]; omega)⟩
          have t1 : (t : Int) < (n : Int) := by omega
          have t2 : (t : Int) < (jn : Int) := by omega
          have t0 : (0 : Int) ≤ (t : Int) := by omega
          obtain ⟨g, o, rfl, zx⟩ := Hc.out t x hx
          obtain ⟨g', o', hg', zy⟩ := Hc.out jn y Hy.out
          simp at hg'
          obtain ⟨rfl, rfl⟩ := hg'
          obtain ⟨sa, hsa, nsa⟩ := S1.out.cs_get 1 rfl (m := t) (by rw [Iv.out.len]; omega)
          obtain ⟨sb, hsb, nsb⟩ := S1.out.cs_get 1 rfl (m := jn) (by rw [Iv.out.len]; omega)
          obtain ⟨gC, rfl, ca⟩ := owns_cell (S1.out.owned' 0 rfl) hsa
          obtain ⟨gC', hgC, cb⟩ := owns_cell (S1.out.owned' 0 rfl) hsb
          simp at hgC
          subst hgC
          have la := (Iv.out.ok t (by omega)).1
          have lb := (Iv.out.ok jn (by omega)).1
          have gd := Good.out t jn x y htl hx Hy.out
          have Zx := Lib.hid zx; have Zy := Lib.hid zy; have Ca := Lib.hid ca; have Cb := Lib.hid cb; have Na := Lib.hid nsa; have Nb := Lib.hid nsb; have La := Lib.hid la; have Lb := Lib.hid lb; have Gd := Lib.hid gd
          clear hx zx zy hsa hsb nsa nsb ca cb la lb gd
          obtain ⟨oa, ka, ea, _⟩ := Na.out.form
          obtain ⟨ob, kb, eb, _⟩ := Nb.out.form
          obtain ⟨na, hna⟩ : ∃ y, y = (cs.getD t []).length := ⟨_, rfl⟩
          obtain ⟨nb, hnb⟩ : ∃ y, y = (cs.getD jn []).length := ⟨_, rfl⟩
          rw [← hna] at ea
          rw [← hnb] at eb
          clear hna hnb
          subst ea
          subst eb
          go_wp2_with fail
          refine wp_region_any (by kernel_rfl) ?_
          change wpAny _ _ _ _ _ _ _ (World.drew _)
          have h0 : Chg [] w1 wr.drew := Cr.out.drew
          refine wpAny_of_U (S := fun w' => Chg [] w1 w') (U := [0, 1, 2, 3, 4, 5, 6, 7, 8, 9, 10, 11, 12, 13, 14, 15, 16, 17, 18, 19, 20]) _ _ _ _ ?_
          refine wpAnyU_take (i := 0) (v := ?_) rfl (by kernel_rfl) (by kernel_rfl) (by kernel_rfl) (by kernel_rfl) (fun _ _ _ h => h) (Or.inl ⟨by rfl, ?_⟩) h0 ?_
          rotate_left 1
          · (intro w' hS; have hh := C1.out.quiet hS; obtain ⟨x0, x1, x2, x3, x4⟩ := Zx.out w' hh; obtain ⟨y0, y1, y2, y3, y4⟩ := Zy.out w' hh; (try dsimp only at hS); (try simp only [List.getElem_toArray, List.getElem_cons_succ, List.getElem_cons_zero]); go_simp; (try with_reducible rfl))
          try simp only [Act.put, List.getElem_toArray, List.getElem_cons_succ, List.getElem_cons_zero, List.setIfInBounds_toArray, List.set_cons_zero, List.set_cons_succ]
          refine wpAnyU_take (i := 1) (v := ?_) rfl (by kernel_rfl) (by kernel_rfl) (by kernel_rfl) (by kernel_rfl) (fun _ _ _ h => h) (Or.inl ⟨by rfl, ?_⟩) h0 ?_
          rotate_left 1
          · (intro w' hS; have hh := C1.out.quiet hS; obtain ⟨x0, x1, x2, x3, x4⟩ := Zx.out w' hh; obtain ⟨y0, y1, y2, y3, y4⟩ := Zy.out w' hh; (try dsimp only at hS); (try simp only [List.getElem_toArray, List.getElem_cons_succ, List.getElem_cons_zero]); go_simp; (try with_reducible rfl))
          try simp only [Act.put, List.getElem_toArray, List.getElem_cons_succ, List.getElem_cons_zero, List.setIfInBounds_toArray, List.set_cons_zero, List.set_cons_succ]
          refine wpAnyU_take (i := 2) (v := ?_) rfl (by kernel_rfl) (by kernel_rfl) (by kernel_rfl) (by kernel_rfl) (fun _ _ _ h => h) (Or.inl ⟨by rfl, ?_⟩) h0 ?_
          rotate_left 1
          · (intro w' hS; have hh := C1.out.quiet hS; obtain ⟨x0, x1, x2, x3, x4⟩ := Zx.out w' hh; obtain ⟨y0, y1, y2, y3, y4⟩ := Zy.out w' hh; (try dsimp only at hS); (try simp only [List.getElem_toArray, List.getElem_cons_succ, List.getElem_cons_zero]); go_simp; (try with_reducible rfl))
          try simp only [Act.put, List.getElem_toArray, List.getElem_cons_succ, List.getElem_cons_zero, List.setIfInBounds_toArray, List.set_cons_zero, List.set_cons_succ]
          refine wpAnyU_take (i := 3) (v := ?_) rfl (by kernel_rfl) (by kernel_rfl) (by kernel_rfl) (by kernel_rfl) (fun _ _ _ h => h) (Or.inl ⟨by rfl, ?_⟩) h0 ?_
          rotate_left 1
          · (intro w' hS; have hh := C1.out.quiet hS; obtain ⟨x0, x1, x2, x3, x4⟩ := Zx.out w' hh; obtain ⟨y0, y1, y2, y3, y4⟩ := Zy.out w' hh; (try dsimp only at hS); (try simp only [List.getElem_toArray, List.getElem_cons_succ, List.getElem_cons_zero]); go_simp; (try with_reducible rfl))
          try simp only [Act.put, List.getElem_toArray, List.getElem_cons_succ, List.getElem_cons_zero, List.setIfInBounds_toArray, List.set_cons_zero, List.set_cons_succ]
          refine wpAnyU_take (i := 4) (v := ?_) rfl (by kernel_rfl) (by kernel_rfl) (by kernel_rfl) (by kernel_rfl) (fun _ _ _ h => h) (Or.inl ⟨by rfl, ?_⟩) h0 ?_
          rotate_left 1
          · (intro w' hS; have hh := C1.out.quiet hS; obtain ⟨x0, x1, x2, x3, x4⟩ := Zx.out w' hh; obtain ⟨y0, y1, y2, y3, y4⟩ := Zy.out w' hh; (try dsimp only at hS); (try simp only [List.getElem_toArray, List.getElem_cons_succ, List.getElem_cons_zero]); go_simp; (try with_reducible rfl))
          try simp only [Act.put, List.getElem_toArray, List.getElem_cons_succ, List.getElem_cons_zero, List.setIfInBounds_toArray, List.set_cons_zero, List.set_cons_succ]
          refine wpAnyU_take (i := 5) (v := ?_) rfl (by kernel_rfl) (by kernel_rfl) (by kernel_rfl) (by kernel_rfl) (fun _ _ _ h => h) (Or.inl ⟨by rfl, ?_⟩) h0 ?_
          rotate_left 1
          · (intro w' hS; have hh := C1.out.quiet hS; obtain ⟨x0, x1, x2, x3, x4⟩ := Zx.out w' hh; obtain ⟨y0, y1, y2, y3, y4⟩ := Zy.out w' hh; (try dsimp only at hS); (try simp only [List.getElem_toArray, List.getElem_cons_succ, List.getElem_cons_zero]); go_simp; (try with_reducible rfl))
          try simp only [Act.put, List.getElem_toArray, List.getElem_cons_succ, List.getElem_cons_zero, List.setIfInBounds_toArray, List.set_cons_zero, List.set_cons_succ]
          refine wpAnyU_take (i := 6) (v := ?_) rfl (by kernel_rfl) (by kernel_rfl) (by kernel_rfl) (by kernel_rfl) (fun _ _ _ h => h) (Or.inl ⟨by rfl, ?_⟩) h0 ?_
          rotate_left 1
          · (intro w' hS; have hh := C1.out.quiet hS; obtain ⟨x0, x1, x2, x3, x4⟩ := Zx.out w' hh; obtain ⟨y0, y1, y2, y3, y4⟩ := Zy.out w' hh; (try dsimp only at hS); (try simp only [List.getElem_toArray, List.getElem_cons_succ, List.getElem_cons_zero]); go_simp; (try with_reducible rfl))
          try simp only [Act.put, List.getElem_toArray, List.getElem_cons_succ, List.getElem_cons_zero, List.setIfInBounds_toArray, List.set_cons_zero, List.set_cons_succ]
          refine wpAnyU_take (i := 7) (v := ?_) rfl (by kernel_rfl) (by kernel_rfl) (by kernel_rfl) (by kernel_rfl) (fun _ _ _ h => h) (Or.inl ⟨by rfl, ?_⟩) h0 ?_
          rotate_left 1
          · (intro w' hS; have hh := C1.out.quiet hS; obtain ⟨x0, x1, x2, x3, x4⟩ := Zx.out w' hh; obtain ⟨y0, y1, y2, y3, y4⟩ := Zy.out w' hh; (try dsimp only at hS); (try simp only [List.getElem_toArray, List.getElem_cons_succ, List.getElem_cons_zero]); go_simp; (try with_reducible rfl))
          try simp only [Act.put, List.getElem_toArray, List.getElem_cons_succ, List.getElem_cons_zero, List.setIfInBounds_toArray, List.set_cons_zero, List.set_cons_succ]
          refine wpAnyU_all (rs := [8]) (by kernel_rfl) (by simp) (fun i hi => ?_)
          obtain rfl : i = 8 := by simpa using hi
          refine wpOpU_stepG rfl (by rfl) (fun K hK => ?_)
          go_simp
          by_cases cf : cfB x y = true
          · refine (conflict_pure x y _).mono ?_
            rintro e w2 ⟨he, hc2⟩
            rw [cf] at he
            subst he
            have hle := Gd.out cf
            have h2 : Chg [] w1 w2 := h0.quiet hc2
            refine hK _ _ ⟨fun _ => h2, ?_⟩
            clear hK K hc2 h0 cf
            try simp only [Act.put, List.getElem_toArray, List.getElem_cons_succ, List.getElem_cons_zero, List.setIfInBounds_toArray, List.set_cons_zero, List.set_cons_succ]
            refine wpAnyU_take (i := 9) (v := ?_) rfl (by kernel_rfl) (by kernel_rfl) (by kernel_rfl) (by kernel_rfl) (fun _ _ _ h => h) (Or.inl ⟨by rfl, ?_⟩) h2 ?_
            rotate_left 1
            · (intro w' hS; have za := hS.cell Ca.out (by simp); have zb := hS.cell Cb.out (by simp); (try dsimp only at hS); (try simp only [List.getElem_toArray, List.getElem_cons_succ, List.getElem_cons_zero]); go_simp; (try with_reducible rfl))
            try simp only [Act.put, List.getElem_toArray, List.getElem_cons_succ, List.getElem_cons_zero, List.setIfInBounds_toArray, List.set_cons_zero, List.set_cons_succ]
            refine wpAnyU_take (i := 10) (v := ?_) rfl (by kernel_rfl) (by kernel_rfl) (by kernel_rfl) (by kernel_rfl) (fun _ _ _ h => h) (Or.inl ⟨by rfl, ?_⟩) h2 ?_
            rotate_left 1
            · (intro w' hS; have za := hS.cell Ca.out (by simp); have zb := hS.cell Cb.out (by simp); (try dsimp only at hS); (try simp only [List.getElem_toArray, List.getElem_cons_succ, List.getElem_cons_zero]); go_simp; (try with_reducible rfl))
            try simp only [Act.put, List.getElem_toArray, List.getElem_cons_succ, List.getElem_cons_zero, List.setIfInBounds_toArray, List.set_cons_zero, List.set_cons_succ]
            refine wpAnyU_take (i := 11) (v := ?_) rfl (by kernel_rfl) (by kernel_rfl) (by kernel_rfl) (by kernel_rfl) (fun _ _ _ h => h) (Or.inl ⟨by rfl, ?_⟩) h2 ?_
            rotate_left 1
            · (intro w' hS; have za := hS.cell Ca.out (by simp); have zb := hS.cell Cb.out (by simp); (try dsimp only at hS); (try simp only [List.getElem_toArray, List.getElem_cons_succ, List.getElem_cons_zero]); go_simp; (try with_reducible rfl))
            try simp only [Act.put, List.getElem_toArray, List.getElem_cons_succ, List.getElem_cons_zero, List.setIfInBounds_toArray, List.set_cons_zero, List.set_cons_succ]
            refine wpAnyU_take (i := 12) (v := ?_) rfl (by kernel_rfl) (by kernel_rfl) (by kernel_rfl) (by kernel_rfl) (fun _ _ _ h => h) (Or.inl ⟨by rfl, ?_⟩) h2 ?_
            rotate_left 1
            · (intro w' hS; have za := hS.cell Ca.out (by simp); have zb := hS.cell Cb.out (by simp); (try dsimp only at hS); (try simp only [List.getElem_toArray, List.getElem_cons_succ, List.getElem_cons_zero]); go_simp; (try with_reducible rfl))
            try simp only [Act.put, List.getElem_toArray, List.getElem_cons_succ, List.getElem_cons_zero, List.setIfInBounds_toArray, List.set_cons_zero, List.set_cons_succ]
            refine wpAnyU_take (i := 13) (v := ?_) rfl (by kernel_rfl) (by kernel_rfl) (by kernel_rfl) (by kernel_rfl) (fun _ _ _ h => h) (Or.inl ⟨by rfl, ?_⟩) h2 ?_
            rotate_left 1
            · (intro w' hS; have za := hS.cell Ca.out (by simp); have zb := hS.cell Cb.out (by simp); (try dsimp only at hS); (try simp only [List.getElem_toArray, List.getElem_cons_succ, List.getElem_cons_zero]); go_simp; (try with_reducible rfl))
            try simp only [Act.put, List.getElem_toArray, List.getElem_cons_succ, List.getElem_cons_zero, List.setIfInBounds_toArray, List.set_cons_zero, List.set_cons_succ]
            refine wpAnyU_take (i := 14) (v := ?_) rfl (by kernel_rfl) (by kernel_rfl) (by kernel_rfl) (by kernel_rfl) (fun _ _ _ h => h) (Or.inl ⟨by rfl, ?_⟩) h2 ?_
            rotate_left 1
            · (intro w' hS; have za := hS.cell Ca.out (by simp); have zb := hS.cell Cb.out (by simp); (try dsimp only at hS); (try simp only [List.getElem_toArray, List.getElem_cons_succ, List.getElem_cons_zero]); go_simp; (try with_reducible rfl))
            try simp only [Act.put, List.getElem_toArray, List.getElem_cons_succ, List.getElem_cons_zero, List.setIfInBounds_toArray, List.set_cons_zero, List.set_cons_succ]
            refine wpAnyU_take (i := 15) (v := ?_) rfl (by kernel_rfl) (by kernel_rfl) (by kernel_rfl) (by kernel_rfl) (fun _ _ _ h => h) (Or.inl ⟨by rfl, ?_⟩) h2 ?_
            rotate_left 1
            · (intro w' hS; have za := hS.cell Ca.out (by simp); have zb := hS.cell Cb.out (by simp); (try dsimp only at hS); (try simp only [List.getElem_toArray, List.getElem_cons_succ, List.getElem_cons_zero]); go_simp; (try with_reducible rfl))
            try simp only [Act.put, List.getElem_toArray, List.getElem_cons_succ, List.getElem_cons_zero, List.setIfInBounds_toArray, List.set_cons_zero, List.set_cons_succ]
            refine wpAnyU_take (i := 16) (v := ?_) rfl (by kernel_rfl) (by kernel_rfl) (by kernel_rfl) (by kernel_rfl) (fun _ _ _ h => h) (Or.inl ⟨by rfl, ?_⟩) h2 ?_
            rotate_left 1
            · (intro w' hS; have za := hS.cell Ca.out (by simp); have zb := hS.cell Cb.out (by simp); (try dsimp only at hS); (try simp only [List.getElem_toArray, List.getElem_cons_succ, List.getElem_cons_zero]); go_simp; (try with_reducible rfl))
            try simp only [Act.put, List.getElem_toArray, List.getElem_cons_succ, List.getElem_cons_zero, List.setIfInBounds_toArray, List.set_cons_zero, List.set_cons_succ]
            refine wpAnyU_take (i := 17) (v := ?_) rfl (by kernel_rfl) (by kernel_rfl) (by kernel_rfl) (by kernel_rfl) (fun _ _ _ h => h) (Or.inl ⟨by rfl, ?_⟩) h2 ?_
            rotate_left 1
            · (intro w' hS; have za := hS.cell Ca.out (by simp); have zb := hS.cell Cb.out (by simp); (try dsimp only at hS); (try simp only [List.getElem_toArray, List.getElem_cons_succ, List.getElem_cons_zero]); go_simp; (try with_reducible rfl))
            try simp only [Act.put, List.getElem_toArray, List.getElem_cons_succ, List.getElem_cons_zero, List.setIfInBounds_toArray, List.set_cons_zero, List.set_cons_succ]
            refine wpAnyU_all (rs := [18]) (by kernel_rfl) (by simp) (fun i hi => ?_)
            obtain rfl : i = 18 := by simpa using hi
            refine wpOpU_stepG rfl (by rfl) (fun K hK => ?_)
            go_simp
            refine (leq_any (Na.out.chg h2) (Nb.out.chg h2) hle La.out Lb.out).mono ?_
            rintro e w3 ⟨rfl, hc3⟩
            have h3 : Chg [] w1 w3 := h2.quiet hc3
            refine hK _ _ ⟨fun _ => h3, ?_⟩
            clear hK K hc3 h2
            try simp only [Act.put, List.getElem_toArray, List.getElem_cons_succ, List.getElem_cons_zero, List.setIfInBounds_toArray, List.set_cons_zero, List.set_cons_succ]
            refine wpAnyU_take (i := 19) (v := ?_) rfl (by kernel_rfl) (by kernel_rfl) (by kernel_rfl) (by kernel_rfl) (fun _ _ _ h => h) (Or.inl ⟨by rfl, ?_⟩) h3 ?_
            rotate_left 1
            · (intro w' hS; (try dsimp only at hS); (try simp only [List.getElem_toArray, List.getElem_cons_succ, List.getElem_cons_zero]); go_simp; (try with_reducible rfl))
            try simp only [Act.put, List.getElem_toArray, List.getElem_cons_succ, List.getElem_cons_zero, List.setIfInBounds_toArray, List.set_cons_zero, List.set_cons_succ]
            refine wpAnyU_take (i := 20) (v := ?_) rfl (by kernel_rfl) (by kernel_rfl) (by kernel_rfl) (by kernel_rfl) (fun _ _ _ h => h) (Or.inl ⟨by rfl, ?_⟩) h3 ?_
            rotate_left 1
            · (intro w' hS; (try dsimp only at hS); (try simp only [List.getElem_toArray, List.getElem_cons_succ, List.getElem_cons_zero]); go_simp; (try with_reducible rfl))
            try simp only [Act.put, List.getElem_toArray, List.getElem_cons_succ, List.getElem_cons_zero, List.setIfInBounds_toArray, List.set_cons_zero, List.set_cons_succ]
            refine wpAnyU_done (by kernel_rfl) ?_ _
            go_wp2
            go_roundw
            case rel => exact ⟨t + 1, by omega, by go_num, h3⟩
            case measure => simp [intOf]; omega
          · have cf' : cfB x y = false := by simpa using cf
            refine (conflict_pure x y _).mono ?_
            rintro e w2 ⟨he, hc2⟩
            rw [cf'] at he
            subst he
            have h2 : Chg [] w1 w2 := h0.quiet hc2
            refine hK _ _ ⟨fun _ => h2, ?_⟩
            clear hK K hc2 h0 cf cf'
            try simp only [Act.put, List.getElem_toArray, List.getElem_cons_succ, List.getElem_cons_zero, List.setIfInBounds_toArray, List.set_cons_zero, List.set_cons_succ]
            refine wpAnyU_take (i := 9) (v := ?_) rfl (by kernel_rfl) (by kernel_rfl) (by kernel_rfl) (by kernel_rfl) (fun _ _ _ h => h) (Or.inl ⟨by rfl, ?_⟩) h2 ?_
            rotate_left 1
            · (intro w' hS; (try dsimp only at hS); (try simp only [List.getElem_toArray, List.getElem_cons_succ, List.getElem_cons_zero]); go_simp; (try with_reducible rfl))
            try simp only [Act.put, List.getElem_toArray, List.getElem_cons_succ, List.getElem_cons_zero, List.setIfInBounds_toArray, List.set_cons_zero, List.set_cons_succ]
            refine wpAnyU_take (i := 10) (v := undef) rfl (by kernel_rfl) (by kernel_rfl) (by kernel_rfl) (by kernel_rfl) (fun _ _ _ h => h) (Or.inr ⟨by rfl, rfl⟩) h2 ?_
            try simp only [Act.put, List.getElem_toArray, List.getElem_cons_succ, List.getElem_cons_zero, List.setIfInBounds_toArray, List.set_cons_zero, List.set_cons_succ]
            refine wpAnyU_take (i := 11) (v := undef) rfl (by kernel_rfl) (by kernel_rfl) (by kernel_rfl) (by kernel_rfl) (fun _ _ _ h => h) (Or.inr ⟨by rfl, rfl⟩) h2 ?_
            try simp only [Act.put, List.getElem_toArray, List.getElem_cons_succ, List.getElem_cons_zero, List.setIfInBounds_toArray, List.set_cons_zero, List.set_cons_succ]
            refine wpAnyU_take (i := 12) (v := undef) rfl (by kernel_rfl) (by kernel_rfl) (by kernel_rfl) (by kernel_rfl) (fun _ _ _ h => h) (Or.inr ⟨by rfl, rfl⟩) h2 ?_
            try simp only [Act.put, List.getElem_toArray, List.getElem_cons_succ, List.getElem_cons_zero, List.setIfInBounds_toArray, List.set_cons_zero, List.set_cons_succ]
            refine wpAnyU_take (i := 13) (v := undef) rfl (by kernel_rfl) (by kernel_rfl) (by kernel_rfl) (by kernel_rfl) (fun _ _ _ h => h) (Or.inr ⟨by rfl, rfl⟩) h2 ?_
            try simp only [Act.put, List.getElem_toArray, List.getElem_cons_succ, List.getElem_cons_zero, List.setIfInBounds_toArray, List.set_cons_zero, List.set_cons_succ]
            refine wpAnyU_take (i := 14) (v := undef) rfl (by kernel_rfl) (by kernel_rfl) (by kernel_rfl) (by kernel_rfl) (fun _ _ _ h => h) (Or.inr ⟨by rfl, rfl⟩) h2 ?_
            try simp only [Act.put, List.getElem_toArray, List.getElem_cons_succ, List.getElem_cons_zero, List.setIfInBounds_toArray, List.set_cons_zero, List.set_cons_succ]
            refine wpAnyU_take (i := 15) (v := undef) rfl (by kernel_rfl) (by kernel_rfl) (by kernel_rfl) (by kernel_rfl) (fun _ _ _ h => h) (Or.inr ⟨by rfl, rfl⟩) h2 ?_
            try simp only [Act.put, List.getElem_toArray, List.getElem_cons_succ, List.getElem_cons_zero, List.setIfInBounds_toArray, List.set_cons_zero, List.set_cons_succ]
            refine wpAnyU_take (i := 16) (v := undef) rfl (by kernel_rfl) (by kernel_rfl) (by kernel_rfl) (by kernel_rfl) (fun _ _ _ h => h) (Or.inr ⟨by rfl, rfl⟩) h2 ?_
            try simp only [Act.put, List.getElem_toArray, List.getElem_cons_succ, List.getElem_cons_zero, List.setIfInBounds_toArray, List.set_cons_zero, List.set_cons_succ]
            refine wpAnyU_take (i := 17) (v := undef) rfl (by kernel_rfl) (by kernel_rfl) (by kernel_rfl) (by kernel_rfl) (fun _ _ _ h => h) (Or.inr ⟨by rfl, rfl⟩) h2 ?_
            try simp only [Act.put, List.getElem_toArray, List.getElem_cons_succ, List.getElem_cons_zero, List.setIfInBounds_toArray, List.set_cons_zero, List.set_cons_succ]
            refine wpAnyU_take (i := 18) (v := undef) rfl (by kernel_rfl) (by kernel_rfl) (by kernel_rfl) (by kernel_rfl) (fun _ _ _ h => h) (Or.inr ⟨by rfl, rfl⟩) h2 ?_
            try simp only [Act.put, List.getElem_toArray, List.getElem_cons_succ, List.getElem_cons_zero, List.setIfInBounds_toArray, List.set_cons_zero, List.set_cons_succ]
            refine wpAnyU_take (i := 19) (v := undef) rfl (by kernel_rfl) (by kernel_rfl) (by kernel_rfl) (by kernel_rfl) (fun _ _ _ h => h) (Or.inr ⟨by rfl, rfl⟩) h2 ?_
            try simp only [Act.put, List.getElem_toArray, List.getElem_cons_succ, List.getElem_cons_zero, List.setIfInBounds_toArray, List.set_cons_zero, List.set_cons_succ]
            refine wpAnyU_take (i := 20) (v := ?_) rfl (by kernel_rfl) (by kernel_rfl) (by kernel_rfl) (by kernel_rfl) (fun _ _ _ h => h) (Or.inl ⟨by rfl, ?_⟩) h2 ?_
            rotate_left 1
            · (intro w' hS; (try dsimp only at hS); (try simp only [List.getElem_toArray, List.getElem_cons_succ, List.getElem_cons_zero]); go_simp; (try with_reducible rfl))
            try simp only [Act.put, List.getElem_toArray, List.getElem_cons_succ, List.getElem_cons_zero, List.setIfInBounds_toArray, List.set_cons_zero, List.set_cons_succ]
            refine wpAnyU_done (by kernel_rfl) ?_ _
            go_wp2
            go_roundw
            case rel => exact ⟨t + 1, by omega, by go_num, h2⟩
            case measure => simp [intOf]; omega
        · have et : t = jn := by omega
          have et' : (jn : Int) ≤ (t : Int) := by omega
          clear et
          go_wp2
          go_roundw
          case rel => exact ⟨jn + 1, by omega, by go_num, Cr.out⟩
          case measure => simp [intOf]; omega
    · have ej : (n : Int) ≤ (jn : Int) := by omega
      go_wp2
      go_ret3
      exact ⟨rfl, C1.out.quiet Ch.out⟩
end Go.Proofs.Ytjipjhmcpjffcac
