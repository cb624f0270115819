/- The law FnExactBlocksOfBuildings: part 5 of its texts, joined (wip/pack.py). -/
import Derived.Test.YtlhhigkmcidekaaDoorKFnExactBlocksOfBuildingsa
import Derived.Test.YtlhhigkmcidekaaDoorKFnExactBlocksOfBuildingsb
import Derived.Test.YtlhhigkmcidekaaDoorKFnExactBlocksOfBuildingsc
import Derived.Test.YtlhhigkmcidekaaDoorKFnExactBlocksOfBuildingsd
import Derived.Test.YtlhhigkmcidekaaDoorKFnExactBlocksOfBuildingse
import Derived.Deep.Slices
import Derived.SizedLaws
import Derived.ChangeArms
import Derived.WideShapes
import Derived.KernelRfl
import Derived.Lib.Strings
import Derived.Lib.IndexLaws
import Derived.Lib.IndexBytes
import Derived.Lib.IndexMore
import Derived.Laws.BitsLemmas
import Derived.Lib.ItoaMem

section
namespace Go.Proofs.YtlhhigkmcidekaaDoor.XB
open Go.RowKit Go.Proofs.YtlhhigkmcidekaaDoorW.PrintWords Go.Proofs.YtlhhigkmcidekaaDoorW.PrintLast Go.Proofs.YtlhhigkmcidekaaDoorW.PrintMore
attribute [local go_sem] run_eql_slice_nil binOp_string_gtr' binOp_string_leq' binOp_string_geq' max2_int min2_int max_two min_two max_three min_three max_four min_four   -- for this text's walks alone
set_option linter.unusedVariables false
set_option linter.unusedSimpArgs false
def laws_markBuildingS.el (k : Nat) (x : S39) (x1 : Int) : Option (Int × S39) := (laws_markText.f k x1).bind fun t => (laws_markInt64S.f k x.f5 (wrap64 ((wrap64 ((wrap64 ((wrap64 ((wrap64 (x1 + 1)) + 1)) + 1)) + 1)) + 1))).bind fun b => some (b.1, ⟨t, (wrap64 (x1 + 1)), (wrap64 ((wrap64 (x1 + 1)) + 1)), (wrap64 ((wrap64 ((wrap64 (x1 + 1)) + 1)) + 1)), (wrap64 ((wrap64 ((wrap64 ((wrap64 (x1 + 1)) + 1)) + 1)) + 1)), b.2⟩)
def laws_markBuildingS.l0 : Nat → List (S39) → Int → Int → Option (Int × List (S39))
 | 0, _, _, _ => none
 | k + 1, x0, x1, x5 => if x5 < (x0.length : Int) then (if 0 ≤ x5 then ((laws_markBuildingS.el k (x0.getD x5.toNat z39) x1).bind fun b => laws_markBuildingS.l0 k (x0.set x5.toNat b.2) b.1 (wrap64 (x5 + 1))) else none) else some (x1, x0)
def laws_markBuildingS.f (k : Nat) (l0 : List (S39)) (a1 : Int) : Option (Int × List (S39)) := laws_markBuildingS.l0 k l0 a1 0
theorem laws_markBuildingS.set_self (xs : List (S39)) (i : Nat) (h : i < xs.length) : xs.set i (xs.getD i z39) = xs := by
 rw [List.getD_eq_getElem?_getD, List.getElem?_eq_getElem h]
 exact List.set_getElem_self h
theorem laws_markBuildingS.get_set (xs : List (S39)) (i : Nat) (e : S39) (h : i < xs.length) : (xs.set i e).getD i z39 = e := by
 rw [List.getD_eq_getElem?_getD, List.getElem?_set_self h]
 rfl
section
variable {P : Program} {ops : Array Oper} {rest : List Oper} {o : Oper} {a : Act} {Q : Exit → Act → World → Prop} {W w0 : World}
theorem laws_markBuildingS.put {g n cap : Nat} {ok : Nat → Prop} {xs : List (S39)} {i : Int} {e : S39} (t : TypeId) (p x : Operand) (j : Nat) (u : Value) (e' : S39) (hN : o.dst = none) (hgd : o.guard = none) (ho : o.op = .store t p x) (haddr : a.eval p = .pointer (some ⟨g, i.toNat * 6 + j, none⟩)) (hx : a.eval x = u) (hu : u.cells.toList = [u]) (ht : (P.info? t).map (·.size) = some 1) (h1 : u.oneCell' = true)
  (HS : Kd.S k39 39 W w0.heap.size ok (.slice (some ⟨g, 0, none⟩) n cap) (xs.set i.toNat e)) (h0 : 0 ≤ i) (hi : i < n) (hl : i.toNat < xs.length) (hj : j + 1 ≤ 6) (hM : ∀ oki cc, (k39).M W w0.heap.size oki e cc → (k39).M W w0.heap.size oki e' (cc.take j ++ [u] ++ cc.drop (j + 1))) (HB : Below w0.heap.size w0 W)
  (h : ∀ w1, Kd.S k39 39 w1 w0.heap.size ok (.slice (some ⟨g, 0, none⟩) n cap) (xs.set i.toNat e') → Below w0.heap.size w0 w1 → W.grownBy w1 (some g) → wpList P ops Q rest a w1) : wpList P ops Q (o :: rest) a W := by
 obtain ⟨oki, cc, hcl, hMM, hcc, hoki, hH⟩ := Kd.S_lend HS z39 i h0 hi
 rw [laws_markBuildingS.get_set xs _ e hl] at hMM
 refine Kd.H_store k39 w0.heap.size hN hgd t p x ho 39 i j (xs.set i.toNat e) e' u [u] cc ok oki oki haddr rfl hx hu ht (by simpa using h1) hH h0 hi hj (hM oki cc hMM) (fun _ h => h) HB ?_
 intro w1 hs hb hg
 rw [List.set_set] at hs
 exact h w1 hs hb hg
end
set_option maxHeartbeats 2000000 in
set_option maxRecDepth 100000 in
theorem laws_markBuildingS.calls (k : Nat) (P0_ : Nat → Prop) (u9000_ : Value) (l0 : List (S39)) (a1 : Int) (r1 : Int) (r2 : List (S39)) (w0 w : World) (hB : Below w0.heap.size w0 w) (ho0 : Kd.S k39 39 w w0.heap.size P0_ u9000_ l0) (h : laws_markBuildingS.f k l0 a1 = some (r1, r2)) :
  Calls Tryd.prog 10 #[u9000_, .int .i64 a1] w fun e w' => e = .returned (.int .i64 r1) ∧ Kd.S k39 39 w' w0.heap.size P0_ u9000_ r2 ∧ Below w0.heap.size w0 w' ∧ Kept w w' (fun k_ => P0_ k_) := by
 obtain ⟨A, c, rfl⟩ := Kd.S_slice ho0
 have HO0 := Aside0.mk ho0
 have HK := Aside0.mk (Kept.refl w (fun k_ => P0_ k_))
 have HB := Aside0.mk hB
 have H' := Aside0.mk (show laws_markBuildingS.l0 k l0 a1 0 = some (r1, r2) from h)
 clear hB ho0 h
 go_enter Tryd.func10, Tryd.ntmps10
 go_wp2
 go_loopg [1, 5] k (fun kq v1 v5 w' => ∃ (x0 : List (S39)) (x1 x5 : Int), v1 = .int .i64 x1 ∧ v5 = .int .i64 x5 ∧ Aside0 (laws_markBuildingS.l0 kq x0 x1 x5 = some (r1, r2)) ∧ Aside0 (kq ≤ k) ∧ Aside0 (Kd.S k39 39 w' w0.heap.size P0_ (.slice A l0.length c) x0) ∧ Aside0 (Kept w w' (fun k_ => P0_ k_)) ∧ Aside0 (Below w0.heap.size w0 w'))
 case atStart => exact ⟨l0, a1, 0, rfl, rfl, H', ⟨Nat.le_refl _⟩, ⟨by (with_reducible repeat (first | apply Kd.S_alloc | apply Kd.S_drewN | apply Kd.S_drew)); exact HO0.out⟩, ⟨by repeat (first | (with_reducible first | exact HK.out | apply Kept.alloc | apply Kept.drewN | apply Kept.drew) | exact HK.out)⟩, ⟨bZ⟩⟩
 case round =>
  clear H'
  obtain ⟨x0, x1, x5, rfl, rfl, HA, HK1, HS, HK, HB⟩ := hrel
  cases gk with
  | zero => exact absurd HA.out (by simp [laws_markBuildingS.l0])
  | succ k1 =>
   have H := HA.out
   clear HA
   simp only [laws_markBuildingS.l0] at H
   have hlen : l0.length = x0.length := (Kd.S_reads' HS.out).1
   by_cases c3 : x5 < (x0.length : Int)
   ·rw [if_pos c3] at H
    by_cases c5 : 0 ≤ x5
    ·rw [if_pos c5] at H
     replace H := Option.bind_eq_some_iff.mp H
     obtain ⟨y, hy, H⟩ := H
     unfold laws_markBuildingS.el at hy
     replace hy := Option.bind_eq_some_iff.mp hy
     obtain ⟨t0, ht0, hy⟩ := hy
     replace hy := Option.bind_eq_some_iff.mp hy
     obtain ⟨b, hb, hy⟩ := hy
     obtain rfl := Option.some.inj hy
     obtain ⟨el, hel⟩ : ∃ el, el = x0.getD x5.toNat z39 := ⟨_, rfl⟩
     rw [← hel] at hb
     have HH := Aside0.mk H
     have HT := Aside0.mk ht0
     have HM := Aside0.mk hb
     have HL := Aside0.mk (show x5.toNat < x0.length by omega)
     replace HS := Aside0.mk (show Kd.S k39 39 wr w0.heap.size P0_ (.slice A l0.length c) (x0.set x5.toNat el) by rw [hel, laws_markBuildingS.set_self _ _ HL.out]; exact HS.out)
     clear H ht0 hb hel
     obtain ⟨g, cap, e0, _, _, _⟩ := Kd.S_form HS.out (by rw [List.length_set]; omega)
     injection e0 with e1 e2 e3
     subst e1
     subst e3
     have HG := Aside0.mk ((Kd.S_R HS.out).1 g (by simp [Value.ownBlock]))
     have HQ := Aside0.mk (show x5 < (l0.length : Int) by rw [hlen]; exact c3)
     have HP := Aside0.mk c5
     have c3b0 : decide (x5 < (l0.length : Int)) = true := decide_eq_true HQ.out
     have c5b0 : decide (0 ≤ x5) = true := decide_eq_true c5
     have p1_ : (0 ≤ x5) = True := eq_true c5
     have q1_ : (x5 < (l0.length : Int)) = True := eq_true HQ.out
     have HLEN := Aside0.mk hlen
     clear e2 hlen c3 c5
     go_wp2_with (first | (go_at_call 21; go_loud ((with_reducible refine (laws_markText.calls k1 x1 t0 _ HT.out).mono ?_); rintro e w2 ⟨rfl, hb⟩; replace HS := Aside0.mk (Kd.S_below HS.out hb); replace HK := Aside0.mk (Kept.below HK.out hb); replace HB := Aside0.mk (below_step HB.out hb); clear hb)) | ((with_reducible refine gate_store (t := 9) (p := 17) rfl ?_); go_loud (refine laws_markBuildingS.put 9 (.tmp 17) (.tmp 15) 0 (.string t0) ⟨t0, el.f1, el.f2, el.f3, el.f4, el.f5⟩ rfl rfl rfl rfl rfl rfl (by kernel_rfl) rfl HS.out HP.out HQ.out HL.out (by decide) ?_ HB.out ?_); rotate_left; intro w3 hs hb hg; replace HS := Aside0.mk hs; replace HB := Aside0.mk hb; replace HK := Aside0.mk (Kept.of_grown hg HK.out (fun k_ hk_ => .inl (by injection hk_ with hk_; rw [← hk_]; exact HG.out))); clear hs hb hg; rotate_left; (exact fun oki cc hm => by obtain ⟨v5, rfl, g5⟩ := k39_openM hm; exact k39_mkM _ _ _ ⟨t0, el.f1, el.f2, el.f3, el.f4, el.f5⟩ g5)) | ((with_reducible refine gate_store (t := 2) (p := 24) rfl ?_); go_loud (refine laws_markBuildingS.put 2 (.tmp 24) (.tmp 22) 1 (.int .i64 (wrap64 (x1 + 1))) ⟨t0, (wrap64 (x1 + 1)), el.f2, el.f3, el.f4, el.f5⟩ rfl rfl rfl rfl rfl rfl (by kernel_rfl) rfl HS.out HP.out HQ.out HL.out (by decide) ?_ HB.out ?_); rotate_left; intro w4 hs hb hg; replace HS := Aside0.mk hs; replace HB := Aside0.mk hb; replace HK := Aside0.mk (Kept.of_grown hg HK.out (fun k_ hk_ => .inl (by injection hk_ with hk_; rw [← hk_]; exact HG.out))); clear hs hb hg; rotate_left; (exact fun oki cc hm => by obtain ⟨v5, rfl, g5⟩ := k39_openM hm; exact k39_mkM _ _ _ ⟨t0, (wrap64 (x1 + 1)), el.f2, el.f3, el.f4, el.f5⟩ g5)) | ((with_reducible refine gate_store (t := 2) (p := 31) rfl ?_); go_loud (refine laws_markBuildingS.put 2 (.tmp 31) (.tmp 29) 2 (.int .i64 (wrap64 ((wrap64 (x1 + 1)) + 1))) ⟨t0, (wrap64 (x1 + 1)), (wrap64 ((wrap64 (x1 + 1)) + 1)), el.f3, el.f4, el.f5⟩ rfl rfl rfl rfl rfl rfl (by kernel_rfl) rfl HS.out HP.out HQ.out HL.out (by decide) ?_ HB.out ?_); rotate_left; intro w5 hs hb hg; replace HS := Aside0.mk hs; replace HB := Aside0.mk hb; replace HK := Aside0.mk (Kept.of_grown hg HK.out (fun k_ hk_ => .inl (by injection hk_ with hk_; rw [← hk_]; exact HG.out))); clear hs hb hg; rotate_left; (exact fun oki cc hm => by obtain ⟨v5, rfl, g5⟩ := k39_openM hm; exact k39_mkM _ _ _ ⟨t0, (wrap64 (x1 + 1)), (wrap64 ((wrap64 (x1 + 1)) + 1)), el.f3, el.f4, el.f5⟩ g5)) | ((with_reducible refine gate_store (t := 2) (p := 38) rfl ?_); go_loud (refine laws_markBuildingS.put 2 (.tmp 38) (.tmp 36) 3 (.int .i64 (wrap64 ((wrap64 ((wrap64 (x1 + 1)) + 1)) + 1))) ⟨t0, (wrap64 (x1 + 1)), (wrap64 ((wrap64 (x1 + 1)) + 1)), (wrap64 ((wrap64 ((wrap64 (x1 + 1)) + 1)) + 1)), el.f4, el.f5⟩ rfl rfl rfl rfl rfl rfl (by kernel_rfl) rfl HS.out HP.out HQ.out HL.out (by decide) ?_ HB.out ?_); rotate_left; intro w6 hs hb hg; replace HS := Aside0.mk hs; replace HB := Aside0.mk hb; replace HK := Aside0.mk (Kept.of_grown hg HK.out (fun k_ hk_ => .inl (by injection hk_ with hk_; rw [← hk_]; exact HG.out))); clear hs hb hg; rotate_left; (exact fun oki cc hm => by obtain ⟨v5, rfl, g5⟩ := k39_openM hm; exact k39_mkM _ _ _ ⟨t0, (wrap64 (x1 + 1)), (wrap64 ((wrap64 (x1 + 1)) + 1)), (wrap64 ((wrap64 ((wrap64 (x1 + 1)) + 1)) + 1)), el.f4, el.f5⟩ g5)) | ((with_reducible refine gate_store (t := 2) (p := 45) rfl ?_); go_loud (refine laws_markBuildingS.put 2 (.tmp 45) (.tmp 43) 4 (.int .i64 (wrap64 ((wrap64 ((wrap64 ((wrap64 (x1 + 1)) + 1)) + 1)) + 1))) ⟨t0, (wrap64 (x1 + 1)), (wrap64 ((wrap64 (x1 + 1)) + 1)), (wrap64 ((wrap64 ((wrap64 (x1 + 1)) + 1)) + 1)), (wrap64 ((wrap64 ((wrap64 ((wrap64 (x1 + 1)) + 1)) + 1)) + 1)), el.f5⟩ rfl rfl rfl rfl rfl rfl (by kernel_rfl) rfl HS.out HP.out HQ.out HL.out (by decide) ?_ HB.out ?_); rotate_left; intro w7 hs hb hg; replace HS := Aside0.mk hs; replace HB := Aside0.mk hb; replace HK := Aside0.mk (Kept.of_grown hg HK.out (fun k_ hk_ => .inl (by injection hk_ with hk_; rw [← hk_]; exact HG.out))); clear hs hb hg; obtain ⟨oki, cc, hcl, hMM, hcells, hoki, hH⟩ := Kd.S_lend HS.out z39 x5 HP.out HQ.out; rw [laws_markBuildingS.get_set x0 _ _ HL.out] at hMM; obtain ⟨v5, rfl, hR⟩ := k39_openM hMM; obtain ⟨A2, c2, rfl⟩ := Kd.R_slice hR; have hx : w7.cell? ⟨g, x5.toNat * 6 + 5, none⟩ = some (.slice A2 el.f5.length c2) := hcells 5 _ rfl; have HR := Aside0.mk hR; have HHH := Aside0.mk hH; have HOK := Aside0.mk hoki; clear hR hH hoki hcells hcl hMM; rotate_left; (exact fun oki cc hm => by obtain ⟨v5, rfl, g5⟩ := k39_openM hm; exact k39_mkM _ _ _ ⟨t0, (wrap64 (x1 + 1)), (wrap64 ((wrap64 (x1 + 1)) + 1)), (wrap64 ((wrap64 ((wrap64 (x1 + 1)) + 1)) + 1)), (wrap64 ((wrap64 ((wrap64 ((wrap64 (x1 + 1)) + 1)) + 1)) + 1)), el.f5⟩ g5)) | (go_at_call 22; go_loud ((with_reducible refine (laws_markInt64S.calls k1 oki _ el.f5 (wrap64 ((wrap64 ((wrap64 ((wrap64 ((wrap64 (x1 + 1)) + 1)) + 1)) + 1)) + 1)) b.1 b.2 w0 _ HB.out HR.out HM.out).mono ?_); rintro e w9 ⟨rfl, hy, hb2, hk2⟩; have HY := Aside0.mk hy; have HB2 := Aside0.mk hb2; have HK2 := Aside0.mk hk2; clear hy hb2 hk2 hx)))
     go_roundg k1
     case measure => have := HK1.out; omega
     case rel =>
      refine ⟨_, _, _, rfl, rfl, HH, ⟨by have := HK1.out; omega⟩, ⟨?_⟩, ⟨Kept.then_ HK.out HK2.out (fun k_ hk => .inl (HOK.out k_ hk).1)⟩, HB2⟩
      have h2 := Kd.H_step HHH.out (w1 := w9) (fun k_ _ hn hlt => HK2.out.2 k_ hlt hn)
      have h3 := Kd.H_back h2 (okp := oki) (k39_mkM w9 _ _ ⟨t0, (wrap64 (x1 + 1)), (wrap64 ((wrap64 (x1 + 1)) + 1)), (wrap64 ((wrap64 ((wrap64 (x1 + 1)) + 1)) + 1)), (wrap64 ((wrap64 ((wrap64 ((wrap64 (x1 + 1)) + 1)) + 1)) + 1)), b.2⟩ (Kd.R_mono (Kd.R_tight rfl HY.out) (fun k_ hk => HR.out.1 k_ hk.symm))) (fun _ h => h)
      rw [List.set_set] at h3
      exact h3
    ·rw [if_neg c5] at H
     exact absurd H (by simp)
   ·rw [if_neg c3] at H
    have c3b0 : decide (x5 < (l0.length : Int)) = false := decide_eq_false (by rw [hlen]; exact c3)
    simp only [Option.some.injEq, Prod.mk.injEq] at H
    obtain ⟨rfl, rfl⟩ := H
    clear c3 hlen
    go_wp2
    go_ret
    exact ⟨rfl, HS.out, HB.out, HK.out⟩
def laws_markBlockS.l0 : Nat → List (S43) → Int → Int → Option (Int × (List (S43)))
 | 0, _, _, _ => none
 | k + 1, x0, x1, x5 => if x5 < (x0.length : Int) then ((laws_markText.f k x1).bind fun t239 => (if 0 ≤ x5 then ((some (x0.set (x5 : Int).toNat (⟨t239, (rd_T43 x0 x5).f1, (rd_T43 x0 x5).f2⟩ : S43) : List (S43))).bind fun y240 => ((laws_markText.f k (wrap64 (x1 + 1))).bind fun t241 => ((some (y240.set (x5 : Int).toNat (⟨(rd_T43 y240 x5).f0, t241, (rd_T43 y240 x5).f2⟩ : S43) : List (S43))).bind fun y242 => ((laws_markText.f k (wrap64 ((wrap64 (x1 + 1)) + 1))).bind fun t243 => (laws_markBlockS.l0 k (y242.set (x5 : Int).toNat (⟨(rd_T43 y242 x5).f0, (rd_T43 y242 x5).f1, t243⟩ : S43)) (wrap64 ((wrap64 ((wrap64 (x1 + 1)) + 1)) + 1)) (wrap64 (x5 + 1))))))) else (none))) else (some (x1, x0))
def laws_markBlockS.f (k : Nat) (l0 : List (S43)) (a1 : Int) : Option (Int × (List (S43))) := laws_markBlockS.l0 k l0 a1 0
set_option maxHeartbeats 8000000 in
set_option maxRecDepth 100000 in
theorem laws_markBlockS.calls (k : Nat) (P0_ : Nat → Prop) (u9000_ : Value) (l0 : List (S43)) (a1 : Int) (r1 : Int) (r2 : List (S43)) (w0 w : World) (hB : Below w0.heap.size w0 w) (ho0 : Kd.R k43 43 w w0.heap.size P0_ u9000_ l0) (h : laws_markBlockS.f k l0 a1 = some (r1, r2)) :
  Calls Tryd.prog 11 #[u9000_, .int .i64 a1] w fun e w' => e = .returned (.int .i64 r1) ∧ Kd.R k43 43 w' w0.heap.size (fun k_ => (P0_ k_ ∨ w.heap.size ≤ k_)) u9000_ r2 ∧ Below w0.heap.size w0 w' ∧ Kept w w' (fun k_ => P0_ k_) := by
 have HO0 := Aside0.mk (show Kd.R k43 43 w w0.heap.size (fun k_ => (P0_ k_ ∨ w.heap.size ≤ k_)) u9000_ l0 from Kd.R_mono ho0 (fun k_ hk => (.inl hk)))
 have HK := Aside0.mk (Kept.refl w (fun k_ => P0_ k_))
 have HW0 := Aside0.mk hB.size
 have HB := Aside0.mk hB
 clear hB
 have H : (laws_markBlockS.l0 k l0 a1 0) = some (r1, r2) := h
 clear h
 have H' := Aside0.mk H
 clear H
 go_enter Tryd.func11, Tryd.ntmps11
 go_wp2
 go_loopg [1, 5] k (fun kq v1 v5 w' => ∃ (x0_1 : List (S43)) (x1_1 : Int) (x5_1 : Int), v1 = .int .i64 x1_1 ∧ v5 = .int .i64 x5_1 ∧ Aside0 (laws_markBlockS.l0 kq x0_1 x1_1 x5_1 = some (r1, r2)) ∧ Aside0 (kq ≤ k) ∧ Aside0 (Kd.R k43 43 w' w0.heap.size (fun k_ => (P0_ k_ ∨ w.heap.size ≤ k_)) u9000_ x0_1) ∧ Aside0 (Kept w w' (fun k_ => P0_ k_)) ∧ Aside0 (Below w0.heap.size w0 w'))
 case atStart => exact ⟨(l0), (a1), (0), sZ, sZ, H', ⟨Nat.le_refl _⟩, ⟨Kd.rZ HO0.out⟩, ⟨by repeat (first | (with_reducible first | exact HK.out | apply Kept.alloc | apply Kept.drewN | apply Kept.drew) | exact HK.out)⟩, ⟨bZ⟩⟩
 case round =>
  clear H'; (try clear c1); (try clear p2)
  obtain ⟨x0_1, x1_1, x5_1, rfl, rfl, HA, HK1, HO_0, HK, HB⟩ := hrel
  cases gk with
  | zero => exact absurd HA.out (by simp [laws_markBlockS.l0])
  | succ k1 =>
   have H := HA.out
   clear HA
   simp only [laws_markBlockS.l0] at H
   by_cases c3 : x5_1 < (x0_1.length : Int)
   ·rw [if_pos c3] at H
    have c3b0 : decide (x5_1 < (x0_1.length : Int)) = true := decide_eq_true c3
    clear c3
    replace H := Option.bind_eq_some_iff.mp H
    obtain ⟨t239, A40, H⟩ := H
    replace H : (if 0 ≤ x5_1 then ((some (x0_1.set (x5_1 : Int).toNat (⟨t239, (rd_T43 x0_1 x5_1).f1, (rd_T43 x0_1 x5_1).f2⟩ : S43) : List (S43))).bind fun y240 => ((laws_markText.f k1 (wrap64 (x1_1 + 1))).bind fun t241 => ((some (y240.set (x5_1 : Int).toNat (⟨(rd_T43 y240 x5_1).f0, t241, (rd_T43 y240 x5_1).f2⟩ : S43) : List (S43))).bind fun y242 => ((laws_markText.f k1 (wrap64 ((wrap64 (x1_1 + 1)) + 1))).bind fun t243 => (laws_markBlockS.l0 k1 (y242.set (x5_1 : Int).toNat (⟨(rd_T43 y242 x5_1).f0, (rd_T43 y242 x5_1).f1, t243⟩ : S43)) (wrap64 ((wrap64 ((wrap64 (x1_1 + 1)) + 1)) + 1)) (wrap64 (x5_1 + 1))))))) else (none)) = some (r1, r2) := H
    have A4 := Aside0.mk A40
    clear A40
    by_cases c5 : 0 ≤ x5_1
    ·rw [if_pos c5] at H
     have c5b0 : decide (0 ≤ x5_1) = true := decide_eq_true c5
     clear c5
     obtain ⟨y240, hy240⟩ : ∃ y_ : List (S43), y_ = (x0_1.set (x5_1 : Int).toNat (⟨t239, (rd_T43 x0_1 x5_1).f1, (rd_T43 x0_1 x5_1).f2⟩ : S43)) := ⟨_, rfl⟩
     replace H : ((laws_markText.f k1 (wrap64 (x1_1 + 1))).bind fun t241 => ((some (y240.set (x5_1 : Int).toNat (⟨(rd_T43 y240 x5_1).f0, t241, (rd_T43 y240 x5_1).f2⟩ : S43) : List (S43))).bind fun y242 => ((laws_markText.f k1 (wrap64 ((wrap64 (x1_1 + 1)) + 1))).bind fun t243 => (laws_markBlockS.l0 k1 (y242.set (x5_1 : Int).toNat (⟨(rd_T43 y242 x5_1).f0, (rd_T43 y242 x5_1).f1, t243⟩ : S43)) (wrap64 ((wrap64 ((wrap64 (x1_1 + 1)) + 1)) + 1)) (wrap64 (x5_1 + 1)))))) = some (r1, r2) := by first | (rw [hy240]; with_reducible exact H) | (have H2_ := (Option.bind_some _ _).symm.trans H; rw [hy240]; with_reducible exact H2_) | (have H2_ := (Option.bind_some _ _).symm.trans H; with_reducible exact H2_) | with_reducible exact H | (rw [hy240]; exact H) | exact H
     have Ny240 := Aside0.mk hy240
     clear hy240
     replace H := Option.bind_eq_some_iff.mp H
     obtain ⟨t241, A70, H⟩ := H
     replace H : ((some (y240.set (x5_1 : Int).toNat (⟨(rd_T43 y240 x5_1).f0, t241, (rd_T43 y240 x5_1).f2⟩ : S43) : List (S43))).bind fun y242 => ((laws_markText.f k1 (wrap64 ((wrap64 (x1_1 + 1)) + 1))).bind fun t243 => (laws_markBlockS.l0 k1 (y242.set (x5_1 : Int).toNat (⟨(rd_T43 y242 x5_1).f0, (rd_T43 y242 x5_1).f1, t243⟩ : S43)) (wrap64 ((wrap64 ((wrap64 (x1_1 + 1)) + 1)) + 1)) (wrap64 (x5_1 + 1))))) = some (r1, r2) := H
     have A7 := Aside0.mk A70
     clear A70
     obtain ⟨y242, hy242⟩ : ∃ y_ : List (S43), y_ = (y240.set (x5_1 : Int).toNat (⟨(rd_T43 y240 x5_1).f0, t241, (rd_T43 y240 x5_1).f2⟩ : S43)) := ⟨_, rfl⟩
     replace H : ((laws_markText.f k1 (wrap64 ((wrap64 (x1_1 + 1)) + 1))).bind fun t243 => (laws_markBlockS.l0 k1 (y242.set (x5_1 : Int).toNat (⟨(rd_T43 y242 x5_1).f0, (rd_T43 y242 x5_1).f1, t243⟩ : S43)) (wrap64 ((wrap64 ((wrap64 (x1_1 + 1)) + 1)) + 1)) (wrap64 (x5_1 + 1)))) = some (r1, r2) := by first | (rw [hy242]; with_reducible exact H) | (have H2_ := (Option.bind_some _ _).symm.trans H; rw [hy242]; with_reducible exact H2_) | (have H2_ := (Option.bind_some _ _).symm.trans H; with_reducible exact H2_) | with_reducible exact H | (rw [hy242]; exact H) | exact H
     have Ny242 := Aside0.mk hy242
     clear hy242
     replace H := Option.bind_eq_some_iff.mp H
     obtain ⟨t243, A90, H⟩ := H
     replace H : (laws_markBlockS.l0 k1 (y242.set (x5_1 : Int).toNat (⟨(rd_T43 y242 x5_1).f0, (rd_T43 y242 x5_1).f1, t243⟩ : S43)) (wrap64 ((wrap64 ((wrap64 (x1_1 + 1)) + 1)) + 1)) (wrap64 (x5_1 + 1))) = some (r1, r2) := H
     have A9 := Aside0.mk A90
     clear A90
     obtain ⟨y244, hy244⟩ : ∃ y_ : List (S43), y_ = (y242.set (x5_1 : Int).toNat (⟨(rd_T43 y242 x5_1).f0, (rd_T43 y242 x5_1).f1, t243⟩ : S43)) := ⟨_, rfl⟩
     replace H : (laws_markBlockS.l0 k1 y244 (wrap64 ((wrap64 ((wrap64 (x1_1 + 1)) + 1)) + 1)) (wrap64 (x5_1 + 1))) = some (r1, r2) := by first | (rw [hy244]; with_reducible exact H) | (have H2_ := (Option.bind_some _ _).symm.trans H; rw [hy244]; with_reducible exact H2_) | (have H2_ := (Option.bind_some _ _).symm.trans H; with_reducible exact H2_) | with_reducible exact H | (rw [hy244]; exact H) | exact H
     have Ny244 := Aside0.mk hy244
     clear hy244
     have H' := Aside0.mk H
     clear H
     obtain ⟨Ao11, co11, eo11⟩ := Kd.R_slice HO_0.out
     subst eo11
     go_wp2_with (first | ((with_reducible refine gate_callee (f := 21) rfl ?_); refine goesL_ (some 15) rfl rfl Tryd.func21 (by kernel_rfl) rfl #[.int .i64 x1_1] rfl gZ ?_; (with_reducible refine (laws_markText.calls k1 x1_1 t239 _ A4.out).mono ?_); rintro e w12 ⟨rfl, hb⟩; refine ⟨_, rfl, ?_⟩; have n0_ := Aside0.mk (Kd.R_below (Kd.rZ HO_0.out) hb); have n1_ := Aside0.mk (Kept.below (S := (fun k_ => P0_ k_)) (by repeat (first | (with_reducible first | exact HK.out | apply Kept.alloc | apply Kept.drewN | apply Kept.drew) | exact HK.out)) hb); have n2_ := Aside0.mk (below_step bZ hb); clear HO_0; clear HK; clear HB; have HO_0 := n0_; have HK := n1_; have HB := n2_; clear n0_ n1_ n2_; (try clear hb); (try clear hb2); (try clear hk); (try clear hi); have p6 : 0 ≤ (x5_1 : Int) := oZ; have q6 : (x5_1 : Int) < ((x0_1.length : Int) : Int) := oZ; obtain ⟨go6, co6, eo6, gb6, gl6, cl6, HG6⟩ := Kd.R_form HO_0.out (by omega); (first | cases eo6 | (injection eo6 with ea_ en_ ec_; (first | subst ea_ | (injection ea_ with ea_; subst ea_)); subst ec_; clear en_)); have GB6 := Aside0.mk gb6; have GG6 := Aside0.mk HG6; clear gb6 gl6 HG6; have HMgo6 := Aside0.mk (show (P0_ go6 ∨ w.heap.size ≤ go6) from (HO_0.out.1 _ rfl)); obtain ⟨ce6, hcl6, hM6, hcc6, hfr6⟩ := Kd.R_elem HO_0.out z43 (x5_1 : Int) p6 q6; obtain rfl := k43_openM hM6; have hx6_0 : w12.cell? ⟨go6, (x5_1 : Int).toNat * 3, none⟩ = some (.string ((rd_T43 x0_1 x5_1).f0)) := hcc6 0 _ rfl; have hx6_1 : w12.cell? ⟨go6, (x5_1 : Int).toNat * 3 + 1, none⟩ = some (.string ((rd_T43 x0_1 x5_1).f1)) := hcc6 1 _ rfl; have hx6_2 : w12.cell? ⟨go6, (x5_1 : Int).toNat * 3 + 2, none⟩ = some (.string ((rd_T43 x0_1 x5_1).f2)) := hcc6 2 _ rfl; have hf6_0 : w12.frozen? ⟨go6, (x5_1 : Int).toNat * 3, none⟩ = false := hfr6 0; have hf6_1 : w12.frozen? ⟨go6, (x5_1 : Int).toNat * 3 + 1, none⟩ = false := hfr6 1; have hf6_2 : w12.frozen? ⟨go6, (x5_1 : Int).toNat * 3 + 2, none⟩ = false := hfr6 2; clear hcl6 hcc6 hfr6; (try clear hM6); replace p6 := eq_true p6; replace q6 := eq_true q6; have HX13 := Aside0.mk (show Kd.R k43 43 w12 w0.heap.size (fun k_ => (P0_ k_ ∨ w.heap.size ≤ k_)) (.slice (some ⟨go6, 0, none⟩) x0_1.length co11) x0_1 from (Kd.rZ HO_0.out)); obtain ⟨ce13, hcl13, hM13, hcc13, hfr13⟩ := Kd.R_elem HX13.out z43 (x5_1 : Int) oZ (by have h_ : (x5_1 : Int) < ((x0_1.length : Int) : Int) := oZ; first | exact h_ | (have e_ := (Kd.R_reads' HO_0.out).1; omega) | simpa using h_); obtain rfl := k43_openM hM13; have HP13 := Kd.R_seg HX13.out (x5_1 : Int) oZ (by have h_ : (x5_1 : Int) < ((x0_1.length : Int) : Int) := oZ; first | exact h_ | (have e_ := (Kd.R_reads' HO_0.out).1; omega) | simpa using h_) (seg := [.string t239]) (j := 0) hcl13 hcc13 (show 1 ≤ 3 from by decide) (x' := (⟨t239, (rd_T43 x0_1 x5_1).f1, (rd_T43 x0_1 x5_1).f2⟩ : S43)) (k43_mkM _ _ _ (⟨t239, (rd_T43 x0_1 x5_1).f1, (rd_T43 x0_1 x5_1).f2⟩ : S43) ) (fun _ hk => hk); have hx13_0 := hcc13 0 _ rfl; (try simp only [show (k43).sz = 3 from rfl, Nat.mul_one, Nat.add_zero] at hx13_0); have hf13_0 := hfr13 0; (try simp only [show (k43).sz = 3 from rfl, Nat.mul_one, Nat.add_zero] at hf13_0); clear hcl13 hcc13 hfr13; (try clear hM13)) | ((with_reducible refine gate_store (t := 9) (p := 17) rfl ?_); refine store_event (t := 9) (p := 17) (v := ?vo_w14) (w1 := (w12.setCell ⟨go6, (x5_1 : Int).toNat * 3, none⟩ (.string t239))) ?hg ?ho ?hn ?hr ?_; (case ho => rfl); (case hg => rfl); (case hn => rfl); (case hr => first | (go_simp; done) | (go_simp; rfl)); intro w14 hw; have hg : w12.grownBy w14 (some go6) := (by rw [hw]; exact HP13.2); have hp_ : Kd.R k43 43 w14 w0.heap.size (fun k_ => (P0_ k_ ∨ w.heap.size ≤ k_)) (.slice (some ⟨go6, 0, none⟩) x0_1.length co11) y240 := (by rw [hw, Ny240.out]; exact HP13.1); clear HP13; have n0_ := Aside0.mk (hp_); have n1_ := Aside0.mk ((by rw [hw]; exact below_set (HB.out) GB6.out : Below w0.heap.size w0 w14)); have n2_ := Aside0.mk (Kept.of_grown (S := (fun k_ => P0_ k_)) hg (by repeat (first | (with_reducible first | exact HK.out | apply Kept.alloc | apply Kept.drewN | apply Kept.drew) | exact HK.out)) (fun k_ e_ => (HO_0.out.1 k_ e_))); clear HO_0; clear HB; clear HK; have HO_0 := n0_; have HB := n1_; have HK := n2_; clear n0_ n1_ n2_; clear hg hw hp_) | ((with_reducible refine gate_callee (f := 21) rfl ?_); refine goesL_ (some 23) rfl rfl Tryd.func21 (by kernel_rfl) rfl #[.int .i64 (wrap64 (x1_1 + 1))] rfl gZ ?_; (with_reducible refine (laws_markText.calls k1 (wrap64 (x1_1 + 1)) t241 _ A7.out).mono ?_); rintro e w15 ⟨rfl, hb⟩; refine ⟨_, rfl, ?_⟩; have n0_ := Aside0.mk (Kd.R_below (Kd.rZ HO_0.out) hb); have n1_ := Aside0.mk (Kept.below (S := (fun k_ => P0_ k_)) (by repeat (first | (with_reducible first | exact HK.out | apply Kept.alloc | apply Kept.drewN | apply Kept.drew) | exact HK.out)) hb); have n2_ := Aside0.mk (below_step bZ hb); clear HO_0; clear HK; clear HB; have HO_0 := n0_; have HK := n1_; have HB := n2_; clear n0_ n1_ n2_; (try clear hb); (try clear hb2); (try clear hk); (try clear hi); have p8 : 0 ≤ (x5_1 : Int) := oZ; have q8 : (x5_1 : Int) < ((x0_1.length : Int) : Int) := oZ; obtain ⟨ce8, hcl8, hM8, hcc8, hfr8⟩ := Kd.R_elem HO_0.out z43 (x5_1 : Int) p8 q8; obtain rfl := k43_openM hM8; have hx8_0 : w15.cell? ⟨go6, (x5_1 : Int).toNat * 3, none⟩ = some (.string ((rd_T43 y240 x5_1).f0)) := hcc8 0 _ rfl; have hx8_1 : w15.cell? ⟨go6, (x5_1 : Int).toNat * 3 + 1, none⟩ = some (.string ((rd_T43 y240 x5_1).f1)) := hcc8 1 _ rfl; have hx8_2 : w15.cell? ⟨go6, (x5_1 : Int).toNat * 3 + 2, none⟩ = some (.string ((rd_T43 y240 x5_1).f2)) := hcc8 2 _ rfl; have hf8_0 : w15.frozen? ⟨go6, (x5_1 : Int).toNat * 3, none⟩ = false := hfr8 0; have hf8_1 : w15.frozen? ⟨go6, (x5_1 : Int).toNat * 3 + 1, none⟩ = false := hfr8 1; have hf8_2 : w15.frozen? ⟨go6, (x5_1 : Int).toNat * 3 + 2, none⟩ = false := hfr8 2; clear hcl8 hcc8 hfr8; (try clear hM8); replace p8 := eq_true p8; replace q8 := eq_true q8; have HX16 := Aside0.mk (show Kd.R k43 43 w15 w0.heap.size (fun k_ => (P0_ k_ ∨ w.heap.size ≤ k_)) (.slice (some ⟨go6, 0, none⟩) x0_1.length co11) y240 from (Kd.rZ HO_0.out)); obtain ⟨ce16, hcl16, hM16, hcc16, hfr16⟩ := Kd.R_elem HX16.out z43 (x5_1 : Int) oZ (by have h_ : (x5_1 : Int) < ((x0_1.length : Int) : Int) := oZ; first | exact h_ | (have e_ := (Kd.R_reads' HO_0.out).1; omega) | simpa using h_); obtain rfl := k43_openM hM16; have HP16 := Kd.R_seg HX16.out (x5_1 : Int) oZ (by have h_ : (x5_1 : Int) < ((x0_1.length : Int) : Int) := oZ; first | exact h_ | (have e_ := (Kd.R_reads' HO_0.out).1; omega) | simpa using h_) (seg := [.string t241]) (j := 1) hcl16 hcc16 (show 2 ≤ 3 from by decide) (x' := (⟨(rd_T43 y240 x5_1).f0, t241, (rd_T43 y240 x5_1).f2⟩ : S43)) (k43_mkM _ _ _ (⟨(rd_T43 y240 x5_1).f0, t241, (rd_T43 y240 x5_1).f2⟩ : S43) ) (fun _ hk => hk); have hx16_1 := hcc16 1 _ rfl; (try simp only [show (k43).sz = 3 from rfl, Nat.mul_one, Nat.add_zero] at hx16_1); have hf16_1 := hfr16 1; (try simp only [show (k43).sz = 3 from rfl, Nat.mul_one, Nat.add_zero] at hf16_1); clear hcl16 hcc16 hfr16; (try clear hM16)) | ((with_reducible refine gate_store (t := 9) (p := 25) rfl ?_); refine store_event (t := 9) (p := 25) (v := ?vo_w17) (w1 := (w15.setCell ⟨go6, (x5_1 : Int).toNat * 3 + 1, none⟩ (.string t241))) ?hg ?ho ?hn ?hr ?_; (case ho => rfl); (case hg => rfl); (case hn => rfl); (case hr => first | (go_simp; done) | (go_simp; rfl)); intro w17 hw; have hg : w15.grownBy w17 (some go6) := (by rw [hw]; exact HP16.2); have hp_ : Kd.R k43 43 w17 w0.heap.size (fun k_ => (P0_ k_ ∨ w.heap.size ≤ k_)) (.slice (some ⟨go6, 0, none⟩) x0_1.length co11) y242 := (by rw [hw, Ny242.out]; exact HP16.1); clear HP16; have n0_ := Aside0.mk (hp_); have n1_ := Aside0.mk ((by rw [hw]; exact below_set (HB.out) GB6.out : Below w0.heap.size w0 w17)); have n2_ := Aside0.mk (Kept.of_grown (S := (fun k_ => P0_ k_)) hg (by repeat (first | (with_reducible first | exact HK.out | apply Kept.alloc | apply Kept.drewN | apply Kept.drew) | exact HK.out)) (fun k_ e_ => (HO_0.out.1 k_ e_))); clear HO_0; clear HB; clear HK; have HO_0 := n0_; have HB := n1_; have HK := n2_; clear n0_ n1_ n2_; clear hg hw hp_) | ((with_reducible refine gate_callee (f := 21) rfl ?_); refine goesL_ (some 31) rfl rfl Tryd.func21 (by kernel_rfl) rfl #[.int .i64 (wrap64 ((wrap64 (x1_1 + 1)) + 1))] rfl gZ ?_; (with_reducible refine (laws_markText.calls k1 (wrap64 ((wrap64 (x1_1 + 1)) + 1)) t243 _ A9.out).mono ?_); rintro e w18 ⟨rfl, hb⟩; refine ⟨_, rfl, ?_⟩; have n0_ := Aside0.mk (Kd.R_below (Kd.rZ HO_0.out) hb); have n1_ := Aside0.mk (Kept.below (S := (fun k_ => P0_ k_)) (by repeat (first | (with_reducible first | exact HK.out | apply Kept.alloc | apply Kept.drewN | apply Kept.drew) | exact HK.out)) hb); have n2_ := Aside0.mk (below_step bZ hb); clear HO_0; clear HK; clear HB; have HO_0 := n0_; have HK := n1_; have HB := n2_; clear n0_ n1_ n2_; (try clear hb); (try clear hb2); (try clear hk); (try clear hi); have p10 : 0 ≤ (x5_1 : Int) := oZ; have q10 : (x5_1 : Int) < ((x0_1.length : Int) : Int) := oZ; obtain ⟨ce10, hcl10, hM10, hcc10, hfr10⟩ := Kd.R_elem HO_0.out z43 (x5_1 : Int) p10 q10; obtain rfl := k43_openM hM10; have hx10_0 : w18.cell? ⟨go6, (x5_1 : Int).toNat * 3, none⟩ = some (.string ((rd_T43 y242 x5_1).f0)) := hcc10 0 _ rfl; have hx10_1 : w18.cell? ⟨go6, (x5_1 : Int).toNat * 3 + 1, none⟩ = some (.string ((rd_T43 y242 x5_1).f1)) := hcc10 1 _ rfl; have hx10_2 : w18.cell? ⟨go6, (x5_1 : Int).toNat * 3 + 2, none⟩ = some (.string ((rd_T43 y242 x5_1).f2)) := hcc10 2 _ rfl; have hf10_0 : w18.frozen? ⟨go6, (x5_1 : Int).toNat * 3, none⟩ = false := hfr10 0; have hf10_1 : w18.frozen? ⟨go6, (x5_1 : Int).toNat * 3 + 1, none⟩ = false := hfr10 1; have hf10_2 : w18.frozen? ⟨go6, (x5_1 : Int).toNat * 3 + 2, none⟩ = false := hfr10 2; clear hcl10 hcc10 hfr10; (try clear hM10); replace p10 := eq_true p10; replace q10 := eq_true q10; have HX19 := Aside0.mk (show Kd.R k43 43 w18 w0.heap.size (fun k_ => (P0_ k_ ∨ w.heap.size ≤ k_)) (.slice (some ⟨go6, 0, none⟩) x0_1.length co11) y242 from (Kd.rZ HO_0.out)); obtain ⟨ce19, hcl19, hM19, hcc19, hfr19⟩ := Kd.R_elem HX19.out z43 (x5_1 : Int) oZ (by have h_ : (x5_1 : Int) < ((x0_1.length : Int) : Int) := oZ; first | exact h_ | (have e_ := (Kd.R_reads' HO_0.out).1; omega) | simpa using h_); obtain rfl := k43_openM hM19; have HP19 := Kd.R_seg HX19.out (x5_1 : Int) oZ (by have h_ : (x5_1 : Int) < ((x0_1.length : Int) : Int) := oZ; first | exact h_ | (have e_ := (Kd.R_reads' HO_0.out).1; omega) | simpa using h_) (seg := [.string t243]) (j := 2) hcl19 hcc19 (show 3 ≤ 3 from by decide) (x' := (⟨(rd_T43 y242 x5_1).f0, (rd_T43 y242 x5_1).f1, t243⟩ : S43)) (k43_mkM _ _ _ (⟨(rd_T43 y242 x5_1).f0, (rd_T43 y242 x5_1).f1, t243⟩ : S43) ) (fun _ hk => hk); have hx19_2 := hcc19 2 _ rfl; (try simp only [show (k43).sz = 3 from rfl, Nat.mul_one, Nat.add_zero] at hx19_2); have hf19_2 := hfr19 2; (try simp only [show (k43).sz = 3 from rfl, Nat.mul_one, Nat.add_zero] at hf19_2); clear hcl19 hcc19 hfr19; (try clear hM19)) | ((with_reducible refine gate_store (t := 9) (p := 33) rfl ?_); refine store_event (t := 9) (p := 33) (v := ?vo_w20) (w1 := (w18.setCell ⟨go6, (x5_1 : Int).toNat * 3 + 2, none⟩ (.string t243))) ?hg ?ho ?hn ?hr ?_; (case ho => rfl); (case hg => rfl); (case hn => rfl); (case hr => first | (go_simp; done) | (go_simp; rfl)); intro w20 hw; have hg : w18.grownBy w20 (some go6) := (by rw [hw]; exact HP19.2); have hp_ : Kd.R k43 43 w20 w0.heap.size (fun k_ => (P0_ k_ ∨ w.heap.size ≤ k_)) (.slice (some ⟨go6, 0, none⟩) x0_1.length co11) y244 := (by rw [hw, Ny244.out]; exact HP19.1); clear HP19; have n0_ := Aside0.mk (hp_); have n1_ := Aside0.mk ((by rw [hw]; exact below_set (HB.out) GB6.out : Below w0.heap.size w0 w20)); have n2_ := Aside0.mk (Kept.of_grown (S := (fun k_ => P0_ k_)) hg (by repeat (first | (with_reducible first | exact HK.out | apply Kept.alloc | apply Kept.drewN | apply Kept.drew) | exact HK.out)) (fun k_ e_ => (HO_0.out.1 k_ e_))); clear HO_0; clear HB; clear HK; have HO_0 := n0_; have HB := n1_; have HK := n2_; clear n0_ n1_ n2_; clear hg hw hp_))
     go_roundg k1
     case measure => have := HK1.out; omega
     case rel => exact ⟨(y244), (wrap64 ((wrap64 ((wrap64 (x1_1 + 1)) + 1)) + 1)), (wrap64 (x5_1 + 1)), sZ, sZ, H', ⟨by have := HK1.out; omega⟩, ⟨Kd.rZ HO_0.out⟩, ⟨by repeat (first | (with_reducible first | exact HK.out | apply Kept.alloc | apply Kept.drewN | apply Kept.drew) | exact HK.out)⟩, ⟨bZ⟩⟩
    ·rw [if_neg c5] at H
     exact absurd H (by simp)
   ·rw [if_neg c3] at H
    have c3b0 : decide (x5_1 < (x0_1.length : Int)) = false := decide_eq_false c3
    clear c3
    simp only [Option.some.injEq, Prod.mk.injEq] at H
    obtain ⟨rfl, rfl⟩ := H
    obtain ⟨Ao21, co21, eo21⟩ := Kd.R_slice HO_0.out
    subst eo21
    go_wp2
    go_ret
    exact ⟨eZ, Kd.rZ HO_0.out, bZ, by repeat (first | (with_reducible first | exact HK.out | apply Kept.alloc | apply Kept.drewN | apply Kept.drew) | exact HK.out)⟩
end Go.Proofs.YtlhhigkmcidekaaDoor.XB
end

section
namespace Go.Proofs.YtlhhigkmcidekaaDoor.XB
open Go.RowKit Go.Proofs.YtlhhigkmcidekaaDoorW.PrintWords Go.Proofs.YtlhhigkmcidekaaDoorW.PrintLast Go.Proofs.YtlhhigkmcidekaaDoorW.PrintMore
attribute [local go_sem] run_eql_slice_nil binOp_string_gtr' binOp_string_leq' binOp_string_geq' max2_int min2_int max_two min_two max_three min_three max_four min_four   -- for this text's walks alone
set_option linter.unusedVariables false
set_option linter.unusedSimpArgs false
def laws_heldBlockS.l0 : Nat → List (S43) → Int → Int → Option (Int)
 | 0, _, _, _ => none
 | k + 1, x0, x1, x5 => if x5 < (x0.length : Int) then (if 0 ≤ x5 then ((laws_markText.f k x1).bind fun t246 => (if ((rd_T43 x0 x5).f0).toList = t246.toList then ((laws_markText.f k (wrap64 (x1 + 1))).bind fun t248 => (if ((rd_T43 x0 x5).f1).toList = t248.toList then ((laws_markText.f k (wrap64 ((wrap64 (x1 + 1)) + 1))).bind fun t250 => (if ((rd_T43 x0 x5).f2).toList = t250.toList then (laws_heldBlockS.l0 k x0 (wrap64 ((wrap64 ((wrap64 (x1 + 1)) + 1)) + 1)) (wrap64 (x5 + 1))) else (some (-1)))) else (some (-1)))) else (some (-1)))) else (none)) else (some x1)
def laws_heldBlockS.f (k : Nat) (l0 : List (S43)) (a1 : Int) : Option (Int) := laws_heldBlockS.l0 k l0 a1 0
def laws_heldBlockS.T4 : Bool × List (List Nat × List Nat) := (true, [([], []), ([], []), ([0, 1], [0, 1]), ([2], [2]), ([3], [3]), ([], []), ([5], [5]), ([4, 6], [4, 6])])
def laws_heldBlockS.B4 : List Nat := [0, 0, 3, 7, 15, 0, 32, 127]
theorem laws_heldBlockS.tab4 : rtab .any (opsOf Tryd.f12 4) = laws_heldBlockS.T4 := by kernel_rfl
theorem laws_heldBlockS.bits4 : waitsOk laws_heldBlockS.T4.2 laws_heldBlockS.B4 = true := by kernel_rfl
def laws_heldBlockS.T7 : Bool × List (List Nat × List Nat) := (true, [([], []), ([], []), ([0, 1], [0, 1]), ([2], [2]), ([3], [3]), ([], []), ([5], [5]), ([4, 6], [4, 6])])
def laws_heldBlockS.B7 : List Nat := [0, 0, 3, 7, 15, 0, 32, 127]
theorem laws_heldBlockS.tab7 : rtab .any (opsOf Tryd.f12 7) = laws_heldBlockS.T7 := by kernel_rfl
theorem laws_heldBlockS.bits7 : waitsOk laws_heldBlockS.T7.2 laws_heldBlockS.B7 = true := by kernel_rfl
def laws_heldBlockS.T10 : Bool × List (List Nat × List Nat) := (true, [([], []), ([], []), ([0, 1], [0, 1]), ([2], [2]), ([3], [3]), ([], []), ([5], [5]), ([4, 6], [4, 6])])
def laws_heldBlockS.B10 : List Nat := [0, 0, 3, 7, 15, 0, 32, 127]
theorem laws_heldBlockS.tab10 : rtab .any (opsOf Tryd.f12 10) = laws_heldBlockS.T10 := by kernel_rfl
theorem laws_heldBlockS.bits10 : waitsOk laws_heldBlockS.T10.2 laws_heldBlockS.B10 = true := by kernel_rfl
set_option maxHeartbeats 8000000 in
set_option maxRecDepth 100000 in
theorem laws_heldBlockS.calls (k : Nat) (A0 : Option Addr) (c0 : Nat) (l0 : List (S43)) (a1 : Int) (r : Int) (w : World) (hr0 : Kd.C k43 w A0 l0.length l0) (hc0 : l0.length ≤ c0) (h : laws_heldBlockS.f k l0 a1 = some r) :
  Calls Tryd.prog 12 #[.slice A0 l0.length c0, .int .i64 a1] w fun e w' => e = .returned (.int .i64 r) ∧ Below w.heap.size w w' := by
 have HR0 := Aside0.mk hr0
 have HC0 := Aside0.mk hc0
 clear hr0 hc0
 have HB := Aside0.mk (Below.refl w.heap.size w)
 have H : (laws_heldBlockS.l0 k l0 a1 0) = some r := h
 clear h
 have H' := Aside0.mk H
 clear H
 go_enter Tryd.func12, Tryd.ntmps12
 go_wp2
 go_loopg [1, 5] k (fun kq v1 v5 w' => ∃ (x1_1 : Int) (x5_1 : Int), v1 = .int .i64 x1_1 ∧ v5 = .int .i64 x5_1 ∧ Aside0 (laws_heldBlockS.l0 kq l0 x1_1 x5_1 = some r) ∧ Aside0 (kq ≤ k) ∧ Aside0 (Below w.heap.size w w'))
 case atStart => exact ⟨(a1), (0), sZ, sZ, H', ⟨Nat.le_refl _⟩, ⟨bZ⟩⟩
 case round =>
  clear H'; (try clear c1); (try clear p2)
  obtain ⟨x1_1, x5_1, rfl, rfl, HA, HK1, HB⟩ := hrel
  cases gk with
  | zero => exact absurd HA.out (by simp [laws_heldBlockS.l0])
  | succ k1 =>
   have H := HA.out
   clear HA
   simp only [laws_heldBlockS.l0] at H
   by_cases c3 : x5_1 < (l0.length : Int)
   ·rw [if_pos c3] at H
    have c3b0 : decide (x5_1 < (l0.length : Int)) = true := decide_eq_true c3
    clear c3
    by_cases c4 : 0 ≤ x5_1
    ·rw [if_pos c4] at H
     have c4b0 : decide (0 ≤ x5_1) = true := decide_eq_true c4
     clear c4
     replace H := Option.bind_eq_some_iff.mp H
     obtain ⟨t246, A50, H⟩ := H
     replace H : (if ((rd_T43 l0 x5_1).f0).toList = t246.toList then ((laws_markText.f k1 (wrap64 (x1_1 + 1))).bind fun t248 => (if ((rd_T43 l0 x5_1).f1).toList = t248.toList then ((laws_markText.f k1 (wrap64 ((wrap64 (x1_1 + 1)) + 1))).bind fun t250 => (if ((rd_T43 l0 x5_1).f2).toList = t250.toList then (laws_heldBlockS.l0 k1 l0 (wrap64 ((wrap64 ((wrap64 (x1_1 + 1)) + 1)) + 1)) (wrap64 (x5_1 + 1))) else (some (-1)))) else (some (-1)))) else (some (-1))) = some r := H
     have A5 := Aside0.mk A50
     clear A50
     by_cases c6 : ((rd_T43 l0 x5_1).f0).toList = t246.toList
     ·rw [if_pos c6] at H
      have c6b0 : (((rd_T43 l0 x5_1).f0).toList == t246.toList) = true := beq_iff_eq.mpr c6
      have c6b1 : (((rd_T43 l0 x5_1).f0).toList != t246.toList) = false := bne_eq_false_iff_eq.mpr c6
      clear c6
      replace H := Option.bind_eq_some_iff.mp H
      obtain ⟨t248, A70, H⟩ := H
      replace H : (if ((rd_T43 l0 x5_1).f1).toList = t248.toList then ((laws_markText.f k1 (wrap64 ((wrap64 (x1_1 + 1)) + 1))).bind fun t250 => (if ((rd_T43 l0 x5_1).f2).toList = t250.toList then (laws_heldBlockS.l0 k1 l0 (wrap64 ((wrap64 ((wrap64 (x1_1 + 1)) + 1)) + 1)) (wrap64 (x5_1 + 1))) else (some (-1)))) else (some (-1))) = some r := H
      have A7 := Aside0.mk A70
      clear A70
      by_cases c8 : ((rd_T43 l0 x5_1).f1).toList = t248.toList
      ·rw [if_pos c8] at H
       have c8b0 : (((rd_T43 l0 x5_1).f1).toList == t248.toList) = true := beq_iff_eq.mpr c8
       have c8b1 : (((rd_T43 l0 x5_1).f1).toList != t248.toList) = false := bne_eq_false_iff_eq.mpr c8
       clear c8
       replace H := Option.bind_eq_some_iff.mp H
       obtain ⟨t250, A90, H⟩ := H
       replace H : (if ((rd_T43 l0 x5_1).f2).toList = t250.toList then (laws_heldBlockS.l0 k1 l0 (wrap64 ((wrap64 ((wrap64 (x1_1 + 1)) + 1)) + 1)) (wrap64 (x5_1 + 1))) else (some (-1))) = some r := H
       have A9 := Aside0.mk A90
       clear A90
       by_cases c10 : ((rd_T43 l0 x5_1).f2).toList = t250.toList
       ·rw [if_pos c10] at H
        have c10b0 : (((rd_T43 l0 x5_1).f2).toList == t250.toList) = true := beq_iff_eq.mpr c10
        have c10b1 : (((rd_T43 l0 x5_1).f2).toList != t250.toList) = false := bne_eq_false_iff_eq.mpr c10
        clear c10
        have H' := Aside0.mk H
        clear H
        try go_wp2
        have n0_ := Aside0.mk (below_drew1 HB.out)
        clear HB
        have HB := n0_
        clear n0_
        have p245 : 0 ≤ (x5_1 : Int) := oZ
        have q245 : x5_1 < (l0.length : Int) := oZ
        obtain ⟨ad245, e245, hx245_0, hx245_1, hx245_2⟩ := at_T43 HR0.out x5_1 p245 q245
        have hw245_2 := hx245_2
        have hw245_1 := hx245_1
        have hw245_0 := hx245_0
        cases e245
        replace hx245_0 := (HB.out.cell (World.block_lt_of_cell? w _ hx245_0)).trans hx245_0
        replace hx245_1 := (HB.out.cell (World.block_lt_of_cell? w _ hx245_1)).trans hx245_1
        replace hx245_2 := (HB.out.cell (World.block_lt_of_cell? w _ hx245_2)).trans hx245_2
        replace p245 := eq_true p245
        replace q245 := eq_true q245
        refine start_ (n := 8) (S := fun w' => w'.cell? (ad245.add ((x5_1).toNat * 3)) = some (.string ((rd_T43 l0 x5_1).f0)) ∧ w'.cell? ⟨(ad245.add ((x5_1).toNat * 3)).block, (ad245.add ((x5_1).toNat * 3)).off + 1, none⟩ = some (.string ((rd_T43 l0 x5_1).f1)) ∧ w'.cell? ⟨(ad245.add ((x5_1).toNat * 3)).block, (ad245.add ((x5_1).toNat * 3)).off + 2, none⟩ = some (.string ((rd_T43 l0 x5_1).f2))) (ds := []) #[false, false, false, false, false, false, false, false] (by kernel_rfl) rfl rfl ⟨((HB.out.cell (World.block_lt_of_cell? w _ hw245_0)).trans hw245_0), ((HB.out.cell (World.block_lt_of_cell? w _ hw245_1)).trans hw245_1), ((HB.out.cell (World.block_lt_of_cell? w _ hw245_2)).trans hw245_2)⟩ (fun hHeld => ?_); refine with_tabW laws_heldBlockS.tab4 laws_heldBlockS.bits4 (fun HT_ HW_ => ?_)
        generalize wr.drew = w11 at HB hx245_0 hx245_1 hx245_2 hHeld ⊢
        refine puZ 0 (some 12) #[true, false, false, false, false, false, false, false] rfl rfl HT_.out ?_
        refine puZ 1 (some 13) #[true, true, false, false, false, false, false, false] rfl rfl HT_.out ?_
        refine puZ 2 (some 14) #[true, true, true, false, false, false, false, false] rfl rfl HT_.out ?_
        refine puZ 3 (some 15) #[true, true, true, true, false, false, false, false] rfl rfl HT_.out ?_
        refine puZ 5 (some 17) #[true, true, true, true, false, true, false, false] rfl rfl HT_.out ?_
        refine take_ (i := 4) (N := some 16) (v := ?_) (a' := ?_) #[true, true, true, true, true, true, false, false] rfl rfl (take_ofW HT_.out HW_.out (by kernel_rfl)) (fun _ _ _ h => h) (Or.inl ⟨by rfl, ?_⟩) hHeld ?_ ?_
        rotate_left
        ·rintro w' ⟨s0, s1, s2⟩
         go_simp
         with_reducible rfl
        rotate_left
        ·simp only [Act.put, List.setIfInBounds_toArray, List.set_cons_zero, List.set_cons_succ, i64_w, i32_w]
         rfl
        refine one_ (i := 6) (N := some 18) #[true, true, true, true, true, true, true, false] rfl rfl (one_of HT_.out (by kernel_rfl)) (by decide) (fun K hK => ?_)
        refine goes_ Tryd.func21 (by kernel_rfl) rfl #[.int .i64 x1_1] (by rfl) rfl rfl gZ ?_
        with_reducible refine (laws_markText.calls k1 x1_1 t246 _ A5.out).mono ?_
        rintro e w12 ⟨rfl, hb⟩
        refine ⟨_, rfl, ?_⟩
        have n0_ := Aside0.mk (below_step bZ hb)
        clear HB
        have HB := n0_
        clear n0_
        (try clear hb)
        (try clear hb2)
        (try clear hk)
        (try clear hi)
        refine hK.out _ _ ⟨((HB.out.cell (World.block_lt_of_cell? w _ hw245_0)).trans hw245_0), ((HB.out.cell (World.block_lt_of_cell? w _ hw245_1)).trans hw245_1), ((HB.out.cell (World.block_lt_of_cell? w _ hw245_2)).trans hw245_2)⟩ (fun hHeld => ?_)
        clear hK K
        refine norm_ (a' := ?_) ?_ ?_
        rotate_left
        ·show Act.put _ (some 18) _ = _
         simp only [Act.put, List.setIfInBounds_toArray, List.set_cons_zero, List.set_cons_succ, i64_w, i32_w]
         rfl
        refine puZ 7 (some 19) #[true, true, true, true, true, true, true, true] rfl rfl HT_.out ?_
        refine done_ (done_of HT_.out (by kernel_rfl)) ?_
        try go_wp2
        have n0_ := Aside0.mk (below_drew1 HB.out)
        clear HB
        have HB := n0_
        clear n0_
        have p247 : 0 ≤ (x5_1 : Int) := oZ
        have q247 : x5_1 < (l0.length : Int) := oZ
        obtain ⟨ad247, e247, hx247_0, hx247_1, hx247_2⟩ := at_T43 HR0.out x5_1 p247 q247
        have hw247_2 := hx247_2
        have hw247_1 := hx247_1
        have hw247_0 := hx247_0
        obtain rfl : ad245 = ad247 := (by injection e247)
        replace hx247_0 := (HB.out.cell (World.block_lt_of_cell? w _ hx247_0)).trans hx247_0
        replace hx247_1 := (HB.out.cell (World.block_lt_of_cell? w _ hx247_1)).trans hx247_1
        replace hx247_2 := (HB.out.cell (World.block_lt_of_cell? w _ hx247_2)).trans hx247_2
        replace p247 := eq_true p247
        replace q247 := eq_true q247
        refine start_ (n := 8) (S := fun w' => w'.cell? (ad245.add ((x5_1).toNat * 3)) = some (.string ((rd_T43 l0 x5_1).f0)) ∧ w'.cell? ⟨(ad245.add ((x5_1).toNat * 3)).block, (ad245.add ((x5_1).toNat * 3)).off + 1, none⟩ = some (.string ((rd_T43 l0 x5_1).f1)) ∧ w'.cell? ⟨(ad245.add ((x5_1).toNat * 3)).block, (ad245.add ((x5_1).toNat * 3)).off + 2, none⟩ = some (.string ((rd_T43 l0 x5_1).f2))) (ds := []) #[false, false, false, false, false, false, false, false] (by kernel_rfl) rfl rfl ⟨((HB.out.cell (World.block_lt_of_cell? w _ hw247_0)).trans hw247_0), ((HB.out.cell (World.block_lt_of_cell? w _ hw247_1)).trans hw247_1), ((HB.out.cell (World.block_lt_of_cell? w _ hw247_2)).trans hw247_2)⟩ (fun hHeld => ?_); refine with_tabW laws_heldBlockS.tab7 laws_heldBlockS.bits7 (fun HT_ HW_ => ?_)
        generalize w12.drew = w13 at HB hx247_0 hx247_1 hx247_2 hHeld ⊢
        refine puZ 0 (some 22) #[true, false, false, false, false, false, false, false] rfl rfl HT_.out ?_
        refine puZ 1 (some 23) #[true, true, false, false, false, false, false, false] rfl rfl HT_.out ?_
        refine puZ 2 (some 24) #[true, true, true, false, false, false, false, false] rfl rfl HT_.out ?_
        refine puZ 3 (some 25) #[true, true, true, true, false, false, false, false] rfl rfl HT_.out ?_
        refine puZ 5 (some 27) #[true, true, true, true, false, true, false, false] rfl rfl HT_.out ?_
        refine take_ (i := 4) (N := some 26) (v := ?_) (a' := ?_) #[true, true, true, true, true, true, false, false] rfl rfl (take_ofW HT_.out HW_.out (by kernel_rfl)) (fun _ _ _ h => h) (Or.inl ⟨by rfl, ?_⟩) hHeld ?_ ?_
        rotate_left
        ·rintro w' ⟨s0, s1, s2⟩
         go_simp
         with_reducible rfl
        rotate_left
        ·simp only [Act.put, List.setIfInBounds_toArray, List.set_cons_zero, List.set_cons_succ, i64_w, i32_w]
         rfl
        refine one_ (i := 6) (N := some 28) #[true, true, true, true, true, true, true, false] rfl rfl (one_of HT_.out (by kernel_rfl)) (by decide) (fun K hK => ?_)
        refine goes_ Tryd.func21 (by kernel_rfl) rfl #[.int .i64 (wrap64 (x1_1 + 1))] (by rfl) rfl rfl gZ ?_
        with_reducible refine (laws_markText.calls k1 (wrap64 (x1_1 + 1)) t248 _ A7.out).mono ?_
        rintro e w14 ⟨rfl, hb⟩
        refine ⟨_, rfl, ?_⟩
        have n0_ := Aside0.mk (below_step bZ hb)
        clear HB
        have HB := n0_
        clear n0_
        (try clear hb)
        (try clear hb2)
        (try clear hk)
        (try clear hi)
        refine hK.out _ _ ⟨((HB.out.cell (World.block_lt_of_cell? w _ hw247_0)).trans hw247_0), ((HB.out.cell (World.block_lt_of_cell? w _ hw247_1)).trans hw247_1), ((HB.out.cell (World.block_lt_of_cell? w _ hw247_2)).trans hw247_2)⟩ (fun hHeld => ?_)
        clear hK K
        refine norm_ (a' := ?_) ?_ ?_
        rotate_left
        ·show Act.put _ (some 28) _ = _
         simp only [Act.put, List.setIfInBounds_toArray, List.set_cons_zero, List.set_cons_succ, i64_w, i32_w]
         rfl
        refine puZ 7 (some 29) #[true, true, true, true, true, true, true, true] rfl rfl HT_.out ?_
        refine done_ (done_of HT_.out (by kernel_rfl)) ?_
        try go_wp2
        have n0_ := Aside0.mk (below_drew1 HB.out)
        clear HB
        have HB := n0_
        clear n0_
        have p249 : 0 ≤ (x5_1 : Int) := oZ
        have q249 : x5_1 < (l0.length : Int) := oZ
        obtain ⟨ad249, e249, hx249_0, hx249_1, hx249_2⟩ := at_T43 HR0.out x5_1 p249 q249
        have hw249_2 := hx249_2
        have hw249_1 := hx249_1
        have hw249_0 := hx249_0
        obtain rfl : ad245 = ad249 := (by injection e249)
        replace hx249_0 := (HB.out.cell (World.block_lt_of_cell? w _ hx249_0)).trans hx249_0
        replace hx249_1 := (HB.out.cell (World.block_lt_of_cell? w _ hx249_1)).trans hx249_1
        replace hx249_2 := (HB.out.cell (World.block_lt_of_cell? w _ hx249_2)).trans hx249_2
        replace p249 := eq_true p249
        replace q249 := eq_true q249
        refine start_ (n := 8) (S := fun w' => w'.cell? (ad245.add ((x5_1).toNat * 3)) = some (.string ((rd_T43 l0 x5_1).f0)) ∧ w'.cell? ⟨(ad245.add ((x5_1).toNat * 3)).block, (ad245.add ((x5_1).toNat * 3)).off + 1, none⟩ = some (.string ((rd_T43 l0 x5_1).f1)) ∧ w'.cell? ⟨(ad245.add ((x5_1).toNat * 3)).block, (ad245.add ((x5_1).toNat * 3)).off + 2, none⟩ = some (.string ((rd_T43 l0 x5_1).f2))) (ds := []) #[false, false, false, false, false, false, false, false] (by kernel_rfl) rfl rfl ⟨((HB.out.cell (World.block_lt_of_cell? w _ hw249_0)).trans hw249_0), ((HB.out.cell (World.block_lt_of_cell? w _ hw249_1)).trans hw249_1), ((HB.out.cell (World.block_lt_of_cell? w _ hw249_2)).trans hw249_2)⟩ (fun hHeld => ?_); refine with_tabW laws_heldBlockS.tab10 laws_heldBlockS.bits10 (fun HT_ HW_ => ?_)
        generalize w14.drew = w15 at HB hx249_0 hx249_1 hx249_2 hHeld ⊢
        refine puZ 0 (some 32) #[true, false, false, false, false, false, false, false] rfl rfl HT_.out ?_
        refine puZ 1 (some 33) #[true, true, false, false, false, false, false, false] rfl rfl HT_.out ?_
        refine puZ 2 (some 34) #[true, true, true, false, false, false, false, false] rfl rfl HT_.out ?_
        refine puZ 3 (some 35) #[true, true, true, true, false, false, false, false] rfl rfl HT_.out ?_
        refine puZ 5 (some 37) #[true, true, true, true, false, true, false, false] rfl rfl HT_.out ?_
        refine take_ (i := 4) (N := some 36) (v := ?_) (a' := ?_) #[true, true, true, true, true, true, false, false] rfl rfl (take_ofW HT_.out HW_.out (by kernel_rfl)) (fun _ _ _ h => h) (Or.inl ⟨by rfl, ?_⟩) hHeld ?_ ?_
        rotate_left
        ·rintro w' ⟨s0, s1, s2⟩
         go_simp
         with_reducible rfl
        rotate_left
        ·simp only [Act.put, List.setIfInBounds_toArray, List.set_cons_zero, List.set_cons_succ, i64_w, i32_w]
         rfl
        refine one_ (i := 6) (N := some 38) #[true, true, true, true, true, true, true, false] rfl rfl (one_of HT_.out (by kernel_rfl)) (by decide) (fun K hK => ?_)
        refine goes_ Tryd.func21 (by kernel_rfl) rfl #[.int .i64 (wrap64 ((wrap64 (x1_1 + 1)) + 1))] (by rfl) rfl rfl gZ ?_
        with_reducible refine (laws_markText.calls k1 (wrap64 ((wrap64 (x1_1 + 1)) + 1)) t250 _ A9.out).mono ?_
        rintro e w16 ⟨rfl, hb⟩
        refine ⟨_, rfl, ?_⟩
        have n0_ := Aside0.mk (below_step bZ hb)
        clear HB
        have HB := n0_
        clear n0_
        (try clear hb)
        (try clear hb2)
        (try clear hk)
        (try clear hi)
        refine hK.out _ _ ⟨((HB.out.cell (World.block_lt_of_cell? w _ hw249_0)).trans hw249_0), ((HB.out.cell (World.block_lt_of_cell? w _ hw249_1)).trans hw249_1), ((HB.out.cell (World.block_lt_of_cell? w _ hw249_2)).trans hw249_2)⟩ (fun hHeld => ?_)
        clear hK K
        refine norm_ (a' := ?_) ?_ ?_
        rotate_left
        ·show Act.put _ (some 38) _ = _
         simp only [Act.put, List.setIfInBounds_toArray, List.set_cons_zero, List.set_cons_succ, i64_w, i32_w]
         rfl
        refine puZ 7 (some 39) #[true, true, true, true, true, true, true, true] rfl rfl HT_.out ?_
        refine done_ (done_of HT_.out (by kernel_rfl)) ?_
        try go_wp2
        go_roundg k1
        case measure => have := HK1.out; omega
        case rel => exact ⟨(wrap64 ((wrap64 ((wrap64 (x1_1 + 1)) + 1)) + 1)), (wrap64 (x5_1 + 1)), sZ, sZ, H', ⟨by have := HK1.out; omega⟩, ⟨bZ⟩⟩
       ·rw [if_neg c10] at H
        have c10b0 : (((rd_T43 l0 x5_1).f2).toList == t250.toList) = false := beq_eq_false_iff_ne.mpr c10
        have c10b1 : (((rd_T43 l0 x5_1).f2).toList != t250.toList) = true := bne_iff_ne.mpr c10
        obtain rfl := Option.some.inj H
        try go_wp2
        have n0_ := Aside0.mk (below_drew1 HB.out)
        clear HB
        have HB := n0_
        clear n0_
        have p245 : 0 ≤ (x5_1 : Int) := oZ
        have q245 : x5_1 < (l0.length : Int) := oZ
        obtain ⟨ad245, e245, hx245_0, hx245_1, hx245_2⟩ := at_T43 HR0.out x5_1 p245 q245
        have hw245_2 := hx245_2
        have hw245_1 := hx245_1
        have hw245_0 := hx245_0
        cases e245
        replace hx245_0 := (HB.out.cell (World.block_lt_of_cell? w _ hx245_0)).trans hx245_0
        replace hx245_1 := (HB.out.cell (World.block_lt_of_cell? w _ hx245_1)).trans hx245_1
        replace hx245_2 := (HB.out.cell (World.block_lt_of_cell? w _ hx245_2)).trans hx245_2
        replace p245 := eq_true p245
        replace q245 := eq_true q245
        refine start_ (n := 8) (S := fun w' => w'.cell? (ad245.add ((x5_1).toNat * 3)) = some (.string ((rd_T43 l0 x5_1).f0)) ∧ w'.cell? ⟨(ad245.add ((x5_1).toNat * 3)).block, (ad245.add ((x5_1).toNat * 3)).off + 1, none⟩ = some (.string ((rd_T43 l0 x5_1).f1)) ∧ w'.cell? ⟨(ad245.add ((x5_1).toNat * 3)).block, (ad245.add ((x5_1).toNat * 3)).off + 2, none⟩ = some (.string ((rd_T43 l0 x5_1).f2))) (ds := []) #[false, false, false, false, false, false, false, false] (by kernel_rfl) rfl rfl ⟨((HB.out.cell (World.block_lt_of_cell? w _ hw245_0)).trans hw245_0), ((HB.out.cell (World.block_lt_of_cell? w _ hw245_1)).trans hw245_1), ((HB.out.cell (World.block_lt_of_cell? w _ hw245_2)).trans hw245_2)⟩ (fun hHeld => ?_); refine with_tabW laws_heldBlockS.tab4 laws_heldBlockS.bits4 (fun HT_ HW_ => ?_)
        generalize wr.drew = w17 at HB hx245_0 hx245_1 hx245_2 hHeld ⊢
        refine puZ 0 (some 12) #[true, false, false, false, false, false, false, false] rfl rfl HT_.out ?_
        refine puZ 1 (some 13) #[true, true, false, false, false, false, false, false] rfl rfl HT_.out ?_
        refine puZ 2 (some 14) #[true, true, true, false, false, false, false, false] rfl rfl HT_.out ?_
        refine puZ 3 (some 15) #[true, true, true, true, false, false, false, false] rfl rfl HT_.out ?_
        refine puZ 5 (some 17) #[true, true, true, true, false, true, false, false] rfl rfl HT_.out ?_
        refine take_ (i := 4) (N := some 16) (v := ?_) (a' := ?_) #[true, true, true, true, true, true, false, false] rfl rfl (take_ofW HT_.out HW_.out (by kernel_rfl)) (fun _ _ _ h => h) (Or.inl ⟨by rfl, ?_⟩) hHeld ?_ ?_
        rotate_left
        ·rintro w' ⟨s0, s1, s2⟩
         go_simp
         with_reducible rfl
        rotate_left
        ·simp only [Act.put, List.setIfInBounds_toArray, List.set_cons_zero, List.set_cons_succ, i64_w, i32_w]
         rfl
        refine one_ (i := 6) (N := some 18) #[true, true, true, true, true, true, true, false] rfl rfl (one_of HT_.out (by kernel_rfl)) (by decide) (fun K hK => ?_)
        refine goes_ Tryd.func21 (by kernel_rfl) rfl #[.int .i64 x1_1] (by rfl) rfl rfl gZ ?_
        with_reducible refine (laws_markText.calls k1 x1_1 t246 _ A5.out).mono ?_
        rintro e w18 ⟨rfl, hb⟩
        refine ⟨_, rfl, ?_⟩
        have n0_ := Aside0.mk (below_step bZ hb)
        clear HB
        have HB := n0_
        clear n0_
        (try clear hb)
        (try clear hb2)
        (try clear hk)
        (try clear hi)
        refine hK.out _ _ ⟨((HB.out.cell (World.block_lt_of_cell? w _ hw245_0)).trans hw245_0), ((HB.out.cell (World.block_lt_of_cell? w _ hw245_1)).trans hw245_1), ((HB.out.cell (World.block_lt_of_cell? w _ hw245_2)).trans hw245_2)⟩ (fun hHeld => ?_)
        clear hK K
        refine norm_ (a' := ?_) ?_ ?_
        rotate_left
        ·show Act.put _ (some 18) _ = _
         simp only [Act.put, List.setIfInBounds_toArray, List.set_cons_zero, List.set_cons_succ, i64_w, i32_w]
         rfl
        refine puZ 7 (some 19) #[true, true, true, true, true, true, true, true] rfl rfl HT_.out ?_
        refine done_ (done_of HT_.out (by kernel_rfl)) ?_
        try go_wp2
        have n0_ := Aside0.mk (below_drew1 HB.out)
        clear HB
        have HB := n0_
        clear n0_
        have p247 : 0 ≤ (x5_1 : Int) := oZ
        have q247 : x5_1 < (l0.length : Int) := oZ
        obtain ⟨ad247, e247, hx247_0, hx247_1, hx247_2⟩ := at_T43 HR0.out x5_1 p247 q247
        have hw247_2 := hx247_2
        have hw247_1 := hx247_1
        have hw247_0 := hx247_0
        obtain rfl : ad245 = ad247 := (by injection e247)
        replace hx247_0 := (HB.out.cell (World.block_lt_of_cell? w _ hx247_0)).trans hx247_0
        replace hx247_1 := (HB.out.cell (World.block_lt_of_cell? w _ hx247_1)).trans hx247_1
        replace hx247_2 := (HB.out.cell (World.block_lt_of_cell? w _ hx247_2)).trans hx247_2
        replace p247 := eq_true p247
        replace q247 := eq_true q247
        refine start_ (n := 8) (S := fun w' => w'.cell? (ad245.add ((x5_1).toNat * 3)) = some (.string ((rd_T43 l0 x5_1).f0)) ∧ w'.cell? ⟨(ad245.add ((x5_1).toNat * 3)).block, (ad245.add ((x5_1).toNat * 3)).off + 1, none⟩ = some (.string ((rd_T43 l0 x5_1).f1)) ∧ w'.cell? ⟨(ad245.add ((x5_1).toNat * 3)).block, (ad245.add ((x5_1).toNat * 3)).off + 2, none⟩ = some (.string ((rd_T43 l0 x5_1).f2))) (ds := []) #[false, false, false, false, false, false, false, false] (by kernel_rfl) rfl rfl ⟨((HB.out.cell (World.block_lt_of_cell? w _ hw247_0)).trans hw247_0), ((HB.out.cell (World.block_lt_of_cell? w _ hw247_1)).trans hw247_1), ((HB.out.cell (World.block_lt_of_cell? w _ hw247_2)).trans hw247_2)⟩ (fun hHeld => ?_); refine with_tabW laws_heldBlockS.tab7 laws_heldBlockS.bits7 (fun HT_ HW_ => ?_)
        generalize w18.drew = w19 at HB hx247_0 hx247_1 hx247_2 hHeld ⊢
        refine puZ 0 (some 22) #[true, false, false, false, false, false, false, false] rfl rfl HT_.out ?_
        refine puZ 1 (some 23) #[true, true, false, false, false, false, false, false] rfl rfl HT_.out ?_
        refine puZ 2 (some 24) #[true, true, true, false, false, false, false, false] rfl rfl HT_.out ?_
        refine puZ 3 (some 25) #[true, true, true, true, false, false, false, false] rfl rfl HT_.out ?_
        refine puZ 5 (some 27) #[true, true, true, true, false, true, false, false] rfl rfl HT_.out ?_
        refine take_ (i := 4) (N := some 26) (v := ?_) (a' := ?_) #[true, true, true, true, true, true, false, false] rfl rfl (take_ofW HT_.out HW_.out (by kernel_rfl)) (fun _ _ _ h => h) (Or.inl ⟨by rfl, ?_⟩) hHeld ?_ ?_
        rotate_left
        ·rintro w' ⟨s0, s1, s2⟩
         go_simp
         with_reducible rfl
        rotate_left
        ·simp only [Act.put, List.setIfInBounds_toArray, List.set_cons_zero, List.set_cons_succ, i64_w, i32_w]
         rfl
        refine one_ (i := 6) (N := some 28) #[true, true, true, true, true, true, true, false] rfl rfl (one_of HT_.out (by kernel_rfl)) (by decide) (fun K hK => ?_)
        refine goes_ Tryd.func21 (by kernel_rfl) rfl #[.int .i64 (wrap64 (x1_1 + 1))] (by rfl) rfl rfl gZ ?_
        with_reducible refine (laws_markText.calls k1 (wrap64 (x1_1 + 1)) t248 _ A7.out).mono ?_
        rintro e w20 ⟨rfl, hb⟩
        refine ⟨_, rfl, ?_⟩
        have n0_ := Aside0.mk (below_step bZ hb)
        clear HB
        have HB := n0_
        clear n0_
        (try clear hb)
        (try clear hb2)
        (try clear hk)
        (try clear hi)
        refine hK.out _ _ ⟨((HB.out.cell (World.block_lt_of_cell? w _ hw247_0)).trans hw247_0), ((HB.out.cell (World.block_lt_of_cell? w _ hw247_1)).trans hw247_1), ((HB.out.cell (World.block_lt_of_cell? w _ hw247_2)).trans hw247_2)⟩ (fun hHeld => ?_)
        clear hK K
        refine norm_ (a' := ?_) ?_ ?_
        rotate_left
        ·show Act.put _ (some 28) _ = _
         simp only [Act.put, List.setIfInBounds_toArray, List.set_cons_zero, List.set_cons_succ, i64_w, i32_w]
         rfl
        refine puZ 7 (some 29) #[true, true, true, true, true, true, true, true] rfl rfl HT_.out ?_
        refine done_ (done_of HT_.out (by kernel_rfl)) ?_
        try go_wp2
        have n0_ := Aside0.mk (below_drew1 HB.out)
        clear HB
        have HB := n0_
        clear n0_
        have p249 : 0 ≤ (x5_1 : Int) := oZ
        have q249 : x5_1 < (l0.length : Int) := oZ
        obtain ⟨ad249, e249, hx249_0, hx249_1, hx249_2⟩ := at_T43 HR0.out x5_1 p249 q249
        have hw249_2 := hx249_2
        have hw249_1 := hx249_1
        have hw249_0 := hx249_0
        obtain rfl : ad245 = ad249 := (by injection e249)
        replace hx249_0 := (HB.out.cell (World.block_lt_of_cell? w _ hx249_0)).trans hx249_0
        replace hx249_1 := (HB.out.cell (World.block_lt_of_cell? w _ hx249_1)).trans hx249_1
        replace hx249_2 := (HB.out.cell (World.block_lt_of_cell? w _ hx249_2)).trans hx249_2
        replace p249 := eq_true p249
        replace q249 := eq_true q249
        refine start_ (n := 8) (S := fun w' => w'.cell? (ad245.add ((x5_1).toNat * 3)) = some (.string ((rd_T43 l0 x5_1).f0)) ∧ w'.cell? ⟨(ad245.add ((x5_1).toNat * 3)).block, (ad245.add ((x5_1).toNat * 3)).off + 1, none⟩ = some (.string ((rd_T43 l0 x5_1).f1)) ∧ w'.cell? ⟨(ad245.add ((x5_1).toNat * 3)).block, (ad245.add ((x5_1).toNat * 3)).off + 2, none⟩ = some (.string ((rd_T43 l0 x5_1).f2))) (ds := []) #[false, false, false, false, false, false, false, false] (by kernel_rfl) rfl rfl ⟨((HB.out.cell (World.block_lt_of_cell? w _ hw249_0)).trans hw249_0), ((HB.out.cell (World.block_lt_of_cell? w _ hw249_1)).trans hw249_1), ((HB.out.cell (World.block_lt_of_cell? w _ hw249_2)).trans hw249_2)⟩ (fun hHeld => ?_); refine with_tabW laws_heldBlockS.tab10 laws_heldBlockS.bits10 (fun HT_ HW_ => ?_)
        generalize w20.drew = w21 at HB hx249_0 hx249_1 hx249_2 hHeld ⊢
        refine puZ 0 (some 32) #[true, false, false, false, false, false, false, false] rfl rfl HT_.out ?_
        refine puZ 1 (some 33) #[true, true, false, false, false, false, false, false] rfl rfl HT_.out ?_
        refine puZ 2 (some 34) #[true, true, true, false, false, false, false, false] rfl rfl HT_.out ?_
        refine puZ 3 (some 35) #[true, true, true, true, false, false, false, false] rfl rfl HT_.out ?_
        refine puZ 5 (some 37) #[true, true, true, true, false, true, false, false] rfl rfl HT_.out ?_
        refine take_ (i := 4) (N := some 36) (v := ?_) (a' := ?_) #[true, true, true, true, true, true, false, false] rfl rfl (take_ofW HT_.out HW_.out (by kernel_rfl)) (fun _ _ _ h => h) (Or.inl ⟨by rfl, ?_⟩) hHeld ?_ ?_
        rotate_left
        ·rintro w' ⟨s0, s1, s2⟩
         go_simp
         with_reducible rfl
        rotate_left
        ·simp only [Act.put, List.setIfInBounds_toArray, List.set_cons_zero, List.set_cons_succ, i64_w, i32_w]
         rfl
        refine one_ (i := 6) (N := some 38) #[true, true, true, true, true, true, true, false] rfl rfl (one_of HT_.out (by kernel_rfl)) (by decide) (fun K hK => ?_)
        refine goes_ Tryd.func21 (by kernel_rfl) rfl #[.int .i64 (wrap64 ((wrap64 (x1_1 + 1)) + 1))] (by rfl) rfl rfl gZ ?_
        with_reducible refine (laws_markText.calls k1 (wrap64 ((wrap64 (x1_1 + 1)) + 1)) t250 _ A9.out).mono ?_
        rintro e w22 ⟨rfl, hb⟩
        refine ⟨_, rfl, ?_⟩
        have n0_ := Aside0.mk (below_step bZ hb)
        clear HB
        have HB := n0_
        clear n0_
        (try clear hb)
        (try clear hb2)
        (try clear hk)
        (try clear hi)
        refine hK.out _ _ ⟨((HB.out.cell (World.block_lt_of_cell? w _ hw249_0)).trans hw249_0), ((HB.out.cell (World.block_lt_of_cell? w _ hw249_1)).trans hw249_1), ((HB.out.cell (World.block_lt_of_cell? w _ hw249_2)).trans hw249_2)⟩ (fun hHeld => ?_)
        clear hK K
        refine norm_ (a' := ?_) ?_ ?_
        rotate_left
        ·show Act.put _ (some 38) _ = _
         simp only [Act.put, List.setIfInBounds_toArray, List.set_cons_zero, List.set_cons_succ, i64_w, i32_w]
         rfl
        refine puZ 7 (some 39) #[true, true, true, true, true, true, true, true] rfl rfl HT_.out ?_
        refine done_ (done_of HT_.out (by kernel_rfl)) ?_
        try go_wp2
        go_ret
        exact ⟨eZ, bZ⟩
      ·rw [if_neg c8] at H
       have c8b0 : (((rd_T43 l0 x5_1).f1).toList == t248.toList) = false := beq_eq_false_iff_ne.mpr c8
       have c8b1 : (((rd_T43 l0 x5_1).f1).toList != t248.toList) = true := bne_iff_ne.mpr c8
       obtain rfl := Option.some.inj H
       try go_wp2
       have n0_ := Aside0.mk (below_drew1 HB.out)
       clear HB
       have HB := n0_
       clear n0_
       have p245 : 0 ≤ (x5_1 : Int) := oZ
       have q245 : x5_1 < (l0.length : Int) := oZ
       obtain ⟨ad245, e245, hx245_0, hx245_1, hx245_2⟩ := at_T43 HR0.out x5_1 p245 q245
       have hw245_2 := hx245_2
       have hw245_1 := hx245_1
       have hw245_0 := hx245_0
       cases e245
       replace hx245_0 := (HB.out.cell (World.block_lt_of_cell? w _ hx245_0)).trans hx245_0
       replace hx245_1 := (HB.out.cell (World.block_lt_of_cell? w _ hx245_1)).trans hx245_1
       replace hx245_2 := (HB.out.cell (World.block_lt_of_cell? w _ hx245_2)).trans hx245_2
       replace p245 := eq_true p245
       replace q245 := eq_true q245
       refine start_ (n := 8) (S := fun w' => w'.cell? (ad245.add ((x5_1).toNat * 3)) = some (.string ((rd_T43 l0 x5_1).f0)) ∧ w'.cell? ⟨(ad245.add ((x5_1).toNat * 3)).block, (ad245.add ((x5_1).toNat * 3)).off + 1, none⟩ = some (.string ((rd_T43 l0 x5_1).f1)) ∧ w'.cell? ⟨(ad245.add ((x5_1).toNat * 3)).block, (ad245.add ((x5_1).toNat * 3)).off + 2, none⟩ = some (.string ((rd_T43 l0 x5_1).f2))) (ds := []) #[false, false, false, false, false, false, false, false] (by kernel_rfl) rfl rfl ⟨((HB.out.cell (World.block_lt_of_cell? w _ hw245_0)).trans hw245_0), ((HB.out.cell (World.block_lt_of_cell? w _ hw245_1)).trans hw245_1), ((HB.out.cell (World.block_lt_of_cell? w _ hw245_2)).trans hw245_2)⟩ (fun hHeld => ?_); refine with_tabW laws_heldBlockS.tab4 laws_heldBlockS.bits4 (fun HT_ HW_ => ?_)
       generalize wr.drew = w23 at HB hx245_0 hx245_1 hx245_2 hHeld ⊢
       refine puZ 0 (some 12) #[true, false, false, false, false, false, false, false] rfl rfl HT_.out ?_
       refine puZ 1 (some 13) #[true, true, false, false, false, false, false, false] rfl rfl HT_.out ?_
       refine puZ 2 (some 14) #[true, true, true, false, false, false, false, false] rfl rfl HT_.out ?_
       refine puZ 3 (some 15) #[true, true, true, true, false, false, false, false] rfl rfl HT_.out ?_
       refine puZ 5 (some 17) #[true, true, true, true, false, true, false, false] rfl rfl HT_.out ?_
       refine take_ (i := 4) (N := some 16) (v := ?_) (a' := ?_) #[true, true, true, true, true, true, false, false] rfl rfl (take_ofW HT_.out HW_.out (by kernel_rfl)) (fun _ _ _ h => h) (Or.inl ⟨by rfl, ?_⟩) hHeld ?_ ?_
       rotate_left
       ·rintro w' ⟨s0, s1, s2⟩
        go_simp
        with_reducible rfl
       rotate_left
       ·simp only [Act.put, List.setIfInBounds_toArray, List.set_cons_zero, List.set_cons_succ, i64_w, i32_w]
        rfl
       refine one_ (i := 6) (N := some 18) #[true, true, true, true, true, true, true, false] rfl rfl (one_of HT_.out (by kernel_rfl)) (by decide) (fun K hK => ?_)
       refine goes_ Tryd.func21 (by kernel_rfl) rfl #[.int .i64 x1_1] (by rfl) rfl rfl gZ ?_
       with_reducible refine (laws_markText.calls k1 x1_1 t246 _ A5.out).mono ?_
       rintro e w24 ⟨rfl, hb⟩
       refine ⟨_, rfl, ?_⟩
       have n0_ := Aside0.mk (below_step bZ hb)
       clear HB
       have HB := n0_
       clear n0_
       (try clear hb)
       (try clear hb2)
       (try clear hk)
       (try clear hi)
       refine hK.out _ _ ⟨((HB.out.cell (World.block_lt_of_cell? w _ hw245_0)).trans hw245_0), ((HB.out.cell (World.block_lt_of_cell? w _ hw245_1)).trans hw245_1), ((HB.out.cell (World.block_lt_of_cell? w _ hw245_2)).trans hw245_2)⟩ (fun hHeld => ?_)
       clear hK K
       refine norm_ (a' := ?_) ?_ ?_
       rotate_left
       ·show Act.put _ (some 18) _ = _
        simp only [Act.put, List.setIfInBounds_toArray, List.set_cons_zero, List.set_cons_succ, i64_w, i32_w]
        rfl
       refine puZ 7 (some 19) #[true, true, true, true, true, true, true, true] rfl rfl HT_.out ?_
       refine done_ (done_of HT_.out (by kernel_rfl)) ?_
       try go_wp2
       have n0_ := Aside0.mk (below_drew1 HB.out)
       clear HB
       have HB := n0_
       clear n0_
       have p247 : 0 ≤ (x5_1 : Int) := oZ
       have q247 : x5_1 < (l0.length : Int) := oZ
       obtain ⟨ad247, e247, hx247_0, hx247_1, hx247_2⟩ := at_T43 HR0.out x5_1 p247 q247
       have hw247_2 := hx247_2
       have hw247_1 := hx247_1
       have hw247_0 := hx247_0
       obtain rfl : ad245 = ad247 := (by injection e247)
       replace hx247_0 := (HB.out.cell (World.block_lt_of_cell? w _ hx247_0)).trans hx247_0
       replace hx247_1 := (HB.out.cell (World.block_lt_of_cell? w _ hx247_1)).trans hx247_1
       replace hx247_2 := (HB.out.cell (World.block_lt_of_cell? w _ hx247_2)).trans hx247_2
       replace p247 := eq_true p247
       replace q247 := eq_true q247
       refine start_ (n := 8) (S := fun w' => w'.cell? (ad245.add ((x5_1).toNat * 3)) = some (.string ((rd_T43 l0 x5_1).f0)) ∧ w'.cell? ⟨(ad245.add ((x5_1).toNat * 3)).block, (ad245.add ((x5_1).toNat * 3)).off + 1, none⟩ = some (.string ((rd_T43 l0 x5_1).f1)) ∧ w'.cell? ⟨(ad245.add ((x5_1).toNat * 3)).block, (ad245.add ((x5_1).toNat * 3)).off + 2, none⟩ = some (.string ((rd_T43 l0 x5_1).f2))) (ds := []) #[false, false, false, false, false, false, false, false] (by kernel_rfl) rfl rfl ⟨((HB.out.cell (World.block_lt_of_cell? w _ hw247_0)).trans hw247_0), ((HB.out.cell (World.block_lt_of_cell? w _ hw247_1)).trans hw247_1), ((HB.out.cell (World.block_lt_of_cell? w _ hw247_2)).trans hw247_2)⟩ (fun hHeld => ?_); refine with_tabW laws_heldBlockS.tab7 laws_heldBlockS.bits7 (fun HT_ HW_ => ?_)
       generalize w24.drew = w25 at HB hx247_0 hx247_1 hx247_2 hHeld ⊢
       refine puZ 0 (some 22) #[true, false, false, false, false, false, false, false] rfl rfl HT_.out ?_
       refine puZ 1 (some 23) #[true, true, false, false, false, false, false, false] rfl rfl HT_.out ?_
       refine puZ 2 (some 24) #[true, true, true, false, false, false, false, false] rfl rfl HT_.out ?_
       refine puZ 3 (some 25) #[true, true, true, true, false, false, false, false] rfl rfl HT_.out ?_
       refine puZ 5 (some 27) #[true, true, true, true, false, true, false, false] rfl rfl HT_.out ?_
       refine take_ (i := 4) (N := some 26) (v := ?_) (a' := ?_) #[true, true, true, true, true, true, false, false] rfl rfl (take_ofW HT_.out HW_.out (by kernel_rfl)) (fun _ _ _ h => h) (Or.inl ⟨by rfl, ?_⟩) hHeld ?_ ?_
       rotate_left
       ·rintro w' ⟨s0, s1, s2⟩
        go_simp
        with_reducible rfl
       rotate_left
       ·simp only [Act.put, List.setIfInBounds_toArray, List.set_cons_zero, List.set_cons_succ, i64_w, i32_w]
        rfl
       refine one_ (i := 6) (N := some 28) #[true, true, true, true, true, true, true, false] rfl rfl (one_of HT_.out (by kernel_rfl)) (by decide) (fun K hK => ?_)
       refine goes_ Tryd.func21 (by kernel_rfl) rfl #[.int .i64 (wrap64 (x1_1 + 1))] (by rfl) rfl rfl gZ ?_
       with_reducible refine (laws_markText.calls k1 (wrap64 (x1_1 + 1)) t248 _ A7.out).mono ?_
       rintro e w26 ⟨rfl, hb⟩
       refine ⟨_, rfl, ?_⟩
       have n0_ := Aside0.mk (below_step bZ hb)
       clear HB
       have HB := n0_
       clear n0_
       (try clear hb)
       (try clear hb2)
       (try clear hk)
       (try clear hi)
       refine hK.out _ _ ⟨((HB.out.cell (World.block_lt_of_cell? w _ hw247_0)).trans hw247_0), ((HB.out.cell (World.block_lt_of_cell? w _ hw247_1)).trans hw247_1), ((HB.out.cell (World.block_lt_of_cell? w _ hw247_2)).trans hw247_2)⟩ (fun hHeld => ?_)
       clear hK K
       refine norm_ (a' := ?_) ?_ ?_
       rotate_left
       ·show Act.put _ (some 28) _ = _
        simp only [Act.put, List.setIfInBounds_toArray, List.set_cons_zero, List.set_cons_succ, i64_w, i32_w]
        rfl
       refine puZ 7 (some 29) #[true, true, true, true, true, true, true, true] rfl rfl HT_.out ?_
       refine done_ (done_of HT_.out (by kernel_rfl)) ?_
       try go_wp2
       go_ret
       exact ⟨eZ, bZ⟩
     ·rw [if_neg c6] at H
      have c6b0 : (((rd_T43 l0 x5_1).f0).toList == t246.toList) = false := beq_eq_false_iff_ne.mpr c6
      have c6b1 : (((rd_T43 l0 x5_1).f0).toList != t246.toList) = true := bne_iff_ne.mpr c6
      obtain rfl := Option.some.inj H
      try go_wp2
      have n0_ := Aside0.mk (below_drew1 HB.out)
      clear HB
      have HB := n0_
      clear n0_
      have p245 : 0 ≤ (x5_1 : Int) := oZ
      have q245 : x5_1 < (l0.length : Int) := oZ
      obtain ⟨ad245, e245, hx245_0, hx245_1, hx245_2⟩ := at_T43 HR0.out x5_1 p245 q245
      have hw245_2 := hx245_2
      have hw245_1 := hx245_1
      have hw245_0 := hx245_0
      cases e245
      replace hx245_0 := (HB.out.cell (World.block_lt_of_cell? w _ hx245_0)).trans hx245_0
      replace hx245_1 := (HB.out.cell (World.block_lt_of_cell? w _ hx245_1)).trans hx245_1
      replace hx245_2 := (HB.out.cell (World.block_lt_of_cell? w _ hx245_2)).trans hx245_2
      replace p245 := eq_true p245
      replace q245 := eq_true q245
      refine start_ (n := 8) (S := fun w' => w'.cell? (ad245.add ((x5_1).toNat * 3)) = some (.string ((rd_T43 l0 x5_1).f0)) ∧ w'.cell? ⟨(ad245.add ((x5_1).toNat * 3)).block, (ad245.add ((x5_1).toNat * 3)).off + 1, none⟩ = some (.string ((rd_T43 l0 x5_1).f1)) ∧ w'.cell? ⟨(ad245.add ((x5_1).toNat * 3)).block, (ad245.add ((x5_1).toNat * 3)).off + 2, none⟩ = some (.string ((rd_T43 l0 x5_1).f2))) (ds := []) #[false, false, false, false, false, false, false, false] (by kernel_rfl) rfl rfl ⟨((HB.out.cell (World.block_lt_of_cell? w _ hw245_0)).trans hw245_0), ((HB.out.cell (World.block_lt_of_cell? w _ hw245_1)).trans hw245_1), ((HB.out.cell (World.block_lt_of_cell? w _ hw245_2)).trans hw245_2)⟩ (fun hHeld => ?_); refine with_tabW laws_heldBlockS.tab4 laws_heldBlockS.bits4 (fun HT_ HW_ => ?_)
      generalize wr.drew = w27 at HB hx245_0 hx245_1 hx245_2 hHeld ⊢
      refine puZ 0 (some 12) #[true, false, false, false, false, false, false, false] rfl rfl HT_.out ?_
      refine puZ 1 (some 13) #[true, true, false, false, false, false, false, false] rfl rfl HT_.out ?_
      refine puZ 2 (some 14) #[true, true, true, false, false, false, false, false] rfl rfl HT_.out ?_
      refine puZ 3 (some 15) #[true, true, true, true, false, false, false, false] rfl rfl HT_.out ?_
      refine puZ 5 (some 17) #[true, true, true, true, false, true, false, false] rfl rfl HT_.out ?_
      refine take_ (i := 4) (N := some 16) (v := ?_) (a' := ?_) #[true, true, true, true, true, true, false, false] rfl rfl (take_ofW HT_.out HW_.out (by kernel_rfl)) (fun _ _ _ h => h) (Or.inl ⟨by rfl, ?_⟩) hHeld ?_ ?_
      rotate_left
      ·rintro w' ⟨s0, s1, s2⟩
       go_simp
       with_reducible rfl
      rotate_left
      ·simp only [Act.put, List.setIfInBounds_toArray, List.set_cons_zero, List.set_cons_succ, i64_w, i32_w]
       rfl
      refine one_ (i := 6) (N := some 18) #[true, true, true, true, true, true, true, false] rfl rfl (one_of HT_.out (by kernel_rfl)) (by decide) (fun K hK => ?_)
      refine goes_ Tryd.func21 (by kernel_rfl) rfl #[.int .i64 x1_1] (by rfl) rfl rfl gZ ?_
      with_reducible refine (laws_markText.calls k1 x1_1 t246 _ A5.out).mono ?_
      rintro e w28 ⟨rfl, hb⟩
      refine ⟨_, rfl, ?_⟩
      have n0_ := Aside0.mk (below_step bZ hb)
      clear HB
      have HB := n0_
      clear n0_
      (try clear hb)
      (try clear hb2)
      (try clear hk)
      (try clear hi)
      refine hK.out _ _ ⟨((HB.out.cell (World.block_lt_of_cell? w _ hw245_0)).trans hw245_0), ((HB.out.cell (World.block_lt_of_cell? w _ hw245_1)).trans hw245_1), ((HB.out.cell (World.block_lt_of_cell? w _ hw245_2)).trans hw245_2)⟩ (fun hHeld => ?_)
      clear hK K
      refine norm_ (a' := ?_) ?_ ?_
      rotate_left
      ·show Act.put _ (some 18) _ = _
       simp only [Act.put, List.setIfInBounds_toArray, List.set_cons_zero, List.set_cons_succ, i64_w, i32_w]
       rfl
      refine puZ 7 (some 19) #[true, true, true, true, true, true, true, true] rfl rfl HT_.out ?_
      refine done_ (done_of HT_.out (by kernel_rfl)) ?_
      try go_wp2
      go_ret
      exact ⟨eZ, bZ⟩
    ·rw [if_neg c4] at H
     exact absurd H (by simp)
   ·rw [if_neg c3] at H
    have c3b0 : decide (x5_1 < (l0.length : Int)) = false := decide_eq_false c3
    clear c3
    obtain rfl := Option.some.inj H
    go_wp2
    go_ret
    exact ⟨eZ, bZ⟩
end Go.Proofs.YtlhhigkmcidekaaDoor.XB
end

section
namespace Go.Proofs.YtlhhigkmcidekaaDoor.XB
open Go.RowKit Go.Proofs.YtlhhigkmcidekaaDoorW.PrintWords Go.Proofs.YtlhhigkmcidekaaDoorW.PrintLast Go.Proofs.YtlhhigkmcidekaaDoorW.PrintMore
attribute [local go_sem] run_eql_slice_nil binOp_string_gtr' binOp_string_leq' binOp_string_geq' max2_int min2_int max_two min_two max_three min_three max_four min_four   -- for this text's walks alone
set_option linter.unusedVariables false
set_option linter.unusedSimpArgs false
def laws_FnExactBlocksOfBuildings.f (k : Nat) (l0 : List (S37)) : Option Bool := (laws_szBuildingS.f k l0 1048576).bind fun t3 => (if t3 < 0 then some true else ((laws_toBuildingS.f k l0).bind fun t8 => ((spec_BlocksOfBuildings.f k t8).bind fun bt17 => ((laws_toBuildingS.f k l0).bind fun t28 => ((impl_BlocksOfBuildings.f k t28).bind fun bt37 => ((laws_eqBlockS.f k bt37.1 bt17.1).bind fun t48 => (if t48 = true then (if bt37.2 = bt17.2 then ((laws_toBuildingS.f k l0).bind fun t53 => ((laws_eqBuildingS.f k t28 t53).bind fun t63 => (if t63 = true then ((laws_markBuildingS.f k t28 1).bind fun bt67 => (if ¬ bt67.1 < 0 then ((laws_eqBlockS.f k bt37.1 bt17.1).bind fun t74 => (if t74 = true then (if bt37.2 = bt17.2 then ((laws_markBlockS.f k bt37.1 1).bind fun bt78 => ((laws_heldBlockS.f k bt78.2 1).bind fun t84 => (if ¬ t84 < 0 then (if t84 = bt78.1 then ((laws_toBuildingS.f k l0).bind fun t89 => ((impl_BlocksOfBuildings.f k t89).bind fun bt98 => ((laws_eqBlockS.f k bt98.1 bt17.1).bind fun t109 => (if t109 = true then (if bt98.2 = bt17.2 then ((laws_heldBlockS.f k bt78.2 1).bind fun t113 => (if ¬ t113 < 0 then (if t113 = bt78.1 then (some true) else none) else none)) else none) else none)))) else none) else none))) else none) else none)) else none)) else none))) else none) else none)))))))
set_option maxHeartbeats 4000000 in
set_option maxRecDepth 100000 in
theorem laws_FnExactBlocksOfBuildings.calls (k : Nat) (A0 : Option Addr) (c0 : Nat) (l0 : List (S37)) (r : Bool) (w : World) (hr0 : Kd.C k37 w A0 l0.length l0) (hc0 : l0.length ≤ c0) (hSH : ShT Tryd.prog w) (h : laws_FnExactBlocksOfBuildings.f k l0 = some r) :
  Calls Tryd.prog 3 #[.slice A0 l0.length c0] w fun e w' => e = .returned (.bool r) ∧ Below w.heap.size w w' := by
 have HR0 := Aside0.mk hr0
 have HC0 := Aside0.mk hc0
 clear hr0 hc0
 have HB := Aside0.mk (Below.refl w.heap.size w)
 have HSH := Aside0.mk hSH
 clear hSH
 unfold laws_FnExactBlocksOfBuildings.f at h
 replace h := Option.bind_eq_some_iff.mp h
 obtain ⟨t3, A1_, h⟩ := h
 try dsimp only at h
 have A1 := Aside0.mk A1_
 clear A1_
 by_cases c115 : t3 < 0
 ·rw [if_pos c115] at h
  have c115b : decide (t3 < 0) = true := decide_eq_true (by omega)
  clear c115
  obtain rfl := Option.some.inj h
  go_enter Tryd.func3, Tryd.ntmps3
  go_wp2_with fail
  refine (laws_szBuildingS.calls k _ _ l0 1048576 _ _ (Kd.C_below HR0.out HB.out) HC0.out A1.out).mono ?_
  rintro e w2 ⟨rfl, hb⟩
  have SZ4 := Aside0.mk hb.size
  replace HB := Aside0.mk (below_step HB.out hb)
  clear hb
  go_wp2
  go_ret
  exact ⟨eZ, bZ⟩
 rw [if_neg c115] at h
 have c115b : decide (t3 < 0) = false := decide_eq_false (by omega)
 clear c115
 replace h := Option.bind_eq_some_iff.mp h
 obtain ⟨t8, A6_, h⟩ := h
 try dsimp only at h
 have A6 := Aside0.mk A6_
 clear A6_
 replace h := Option.bind_eq_some_iff.mp h
 obtain ⟨⟨t17, t18⟩, A15_, h⟩ := h
 try dsimp only at h
 have A15 := Aside0.mk A15_
 clear A15_
 replace h := Option.bind_eq_some_iff.mp h
 obtain ⟨t28, A26_, h⟩ := h
 try dsimp only at h
 have A26 := Aside0.mk A26_
 clear A26_
 replace h := Option.bind_eq_some_iff.mp h
 obtain ⟨⟨t37, t38⟩, A35_, h⟩ := h
 try dsimp only at h
 have A35 := Aside0.mk A35_
 clear A35_
 replace h := Option.bind_eq_some_iff.mp h
 obtain ⟨t48, A46_, h⟩ := h
 try dsimp only at h
 have A46 := Aside0.mk A46_
 clear A46_
 by_cases c116 : t48 = true
 rotate_left
 ·rw [if_neg c116] at h; exact absurd h (by simp)
 rw [if_pos c116] at h
 subst c116
 by_cases c117 : t38 = t18
 rotate_left
 ·rw [if_neg c117] at h; exact absurd h (by simp)
 rw [if_pos c117] at h
 have c117b : (t38 != t18) = false := by rw [c117]; simp
 clear c117
 replace h := Option.bind_eq_some_iff.mp h
 obtain ⟨t53, A51_, h⟩ := h
 try dsimp only at h
 have A51 := Aside0.mk A51_
 clear A51_
 replace h := Option.bind_eq_some_iff.mp h
 obtain ⟨t63, A61_, h⟩ := h
 try dsimp only at h
 have A61 := Aside0.mk A61_
 clear A61_
 by_cases c118 : t63 = true
 rotate_left
 ·rw [if_neg c118] at h; exact absurd h (by simp)
 rw [if_pos c118] at h
 subst c118
 replace h := Option.bind_eq_some_iff.mp h
 obtain ⟨⟨t67, t68⟩, A65_, h⟩ := h
 try dsimp only at h
 have A65 := Aside0.mk A65_
 clear A65_
 by_cases c119 : ¬ t67 < 0
 rotate_left
 ·rw [if_neg c119] at h; exact absurd h (by simp)
 rw [if_pos c119] at h
 have c119b : decide (t67 < 0) = false := decide_eq_false c119
 clear c119
 replace h := Option.bind_eq_some_iff.mp h
 obtain ⟨t74, A72_, h⟩ := h
 try dsimp only at h
 have A72 := Aside0.mk A72_
 clear A72_
 by_cases c120 : t74 = true
 rotate_left
 ·rw [if_neg c120] at h; exact absurd h (by simp)
 rw [if_pos c120] at h
 subst c120
 by_cases c121 : t38 = t18
 rotate_left
 ·rw [if_neg c121] at h; exact absurd h (by simp)
 rw [if_pos c121] at h
 have c121b : (t38 != t18) = false := by rw [c121]; simp
 clear c121
 replace h := Option.bind_eq_some_iff.mp h
 obtain ⟨⟨t78, t79⟩, A76_, h⟩ := h
 try dsimp only at h
 have A76 := Aside0.mk A76_
 clear A76_
 replace h := Option.bind_eq_some_iff.mp h
 obtain ⟨t84, A82_, h⟩ := h
 try dsimp only at h
 have A82 := Aside0.mk A82_
 clear A82_
 by_cases c122 : ¬ t84 < 0
 rotate_left
 ·rw [if_neg c122] at h; exact absurd h (by simp)
 rw [if_pos c122] at h
 have c122b : decide (t84 < 0) = false := decide_eq_false c122
 clear c122
 by_cases c123 : t84 = t78
 rotate_left
 ·rw [if_neg c123] at h; exact absurd h (by simp)
 rw [if_pos c123] at h
 have c123b : (t84 != t78) = false := by rw [c123]; simp
 clear c123
 replace h := Option.bind_eq_some_iff.mp h
 obtain ⟨t89, A87_, h⟩ := h
 try dsimp only at h
 have A87 := Aside0.mk A87_
 clear A87_
 replace h := Option.bind_eq_some_iff.mp h
 obtain ⟨⟨t98, t99⟩, A96_, h⟩ := h
 try dsimp only at h
 have A96 := Aside0.mk A96_
 clear A96_
 replace h := Option.bind_eq_some_iff.mp h
 obtain ⟨t109, A107_, h⟩ := h
 try dsimp only at h
 have A107 := Aside0.mk A107_
 clear A107_
 by_cases c124 : t109 = true
 rotate_left
 ·rw [if_neg c124] at h; exact absurd h (by simp)
 rw [if_pos c124] at h
 subst c124
 by_cases c125 : t99 = t18
 rotate_left
 ·rw [if_neg c125] at h; exact absurd h (by simp)
 rw [if_pos c125] at h
 have c125b : (t99 != t18) = false := by rw [c125]; simp
 clear c125
 replace h := Option.bind_eq_some_iff.mp h
 obtain ⟨t113, A111_, h⟩ := h
 try dsimp only at h
 have A111 := Aside0.mk A111_
 clear A111_
 by_cases c126 : ¬ t113 < 0
 rotate_left
 ·rw [if_neg c126] at h; exact absurd h (by simp)
 rw [if_pos c126] at h
 have c126b : decide (t113 < 0) = false := decide_eq_false c126
 clear c126
 by_cases c127 : t113 = t78
 rotate_left
 ·rw [if_neg c127] at h; exact absurd h (by simp)
 rw [if_pos c127] at h
 have c127b : (t113 != t78) = false := by rw [c127]; simp
 clear c127
 obtain rfl := Option.some.inj h
 go_enter Tryd.func3, Tryd.ntmps3
 go_wp2_with fail
 refine (laws_szBuildingS.calls k _ _ l0 1048576 _ _ (Kd.C_below HR0.out HB.out) HC0.out A1.out).mono ?_
 rintro e w2 ⟨rfl, hb⟩
 have SZ4 := Aside0.mk hb.size
 replace HB := Aside0.mk (below_step HB.out hb)
 clear hb
 go_wp2_with fail
 refine (laws_toBuildingS.calls k _ _ l0 _ _ (Kd.C_below HR0.out HB.out) HC0.out A6.out).mono ?_
 rintro e w7 ⟨v9, rfl, ho10, hb⟩
 have SZ11 := Aside0.mk hb.size
 obtain ⟨Ao13, co14, rfl⟩ := Kd.S_slice ho10
 have F12 := Aside0.mk (Kd.S_lower (Kd.S_mono (ok' := fun k_ => w2.heap.size ≤ k_ ∧ k_ < w7.heap.size) (Kd.S_bound ho10) (fun k_ hk_ => ⟨hk_.2.1, hk_.2.2.1⟩)) HB.out.size)
 clear ho10
 replace HB := Aside0.mk (below_step HB.out hb)
 clear hb
 go_wp2_with fail
 refine (spec_BlocksOfBuildings.calls k _ _ t8 _ _ _ (Kd.S_reads' F12.out).2.2 (by rw [← (Kd.S_reads' F12.out).1]; exact (Kd.S_reads' F12.out).2.1) A15.out).mono ?_
 rintro e w16 ⟨v19, rfl, ho20, hb⟩
 have SZ21 := Aside0.mk hb.size
 replace F12 := Aside0.mk (Kd.S_below F12.out hb)
 obtain ⟨Ao23, co24, rfl⟩ := Kd.R_slice ho20
 have F22 := Aside0.mk (Kd.R_lower (Kd.R_mono (ok' := fun k_ => w7.heap.size ≤ k_ ∧ k_ < w16.heap.size) (Kd.R_bound ho20) (fun k_ hk_ => ⟨hk_.2.1, hk_.2.2.1⟩)) HB.out.size)
 clear ho20
 replace HB := Aside0.mk (below_step HB.out hb)
 clear hb
 go_wp2_with fail
 refine (laws_toBuildingS.calls k _ _ l0 _ _ (Kd.C_below HR0.out HB.out) HC0.out A26.out).mono ?_
 rintro e w27 ⟨v29, rfl, ho30, hb⟩
 have SZ31 := Aside0.mk hb.size
 replace F12 := Aside0.mk (Kd.S_below F12.out hb)
 replace F22 := Aside0.mk (Kd.R_below F22.out hb)
 obtain ⟨Ao33, co34, rfl⟩ := Kd.S_slice ho30
 have F32 := Aside0.mk (Kd.S_lower (Kd.S_mono (ok' := fun k_ => w16.heap.size ≤ k_ ∧ k_ < w27.heap.size) (Kd.S_bound ho30) (fun k_ hk_ => ⟨hk_.2.1, hk_.2.2.1⟩)) HB.out.size)
 clear ho30
 replace HB := Aside0.mk (below_step HB.out hb)
 clear hb
 go_wp2_with fail
 refine (impl_BlocksOfBuildings.calls k _ _ t28 _ _ _ (Kd.S_reads' F32.out).2.2 (by rw [← (Kd.S_reads' F32.out).1]; exact (Kd.S_reads' F32.out).2.1) (HSH.out.below HB.out) A35.out).mono ?_
 rintro e w36 ⟨v39, rfl, ho40, hb⟩
 have SZ41 := Aside0.mk hb.size
 replace F12 := Aside0.mk (Kd.S_below F12.out hb)
 replace F22 := Aside0.mk (Kd.R_below F22.out hb)
 replace F32 := Aside0.mk (Kd.S_below F32.out hb)
 obtain ⟨Ao43, co44, rfl⟩ := Kd.R_slice ho40
 have F42 := Aside0.mk (Kd.R_lower (Kd.R_mono (ok' := fun k_ => w27.heap.size ≤ k_ ∧ k_ < w36.heap.size) (Kd.R_bound ho40) (fun k_ hk_ => ⟨hk_.2.1, hk_.2.2.1⟩)) HB.out.size)
 clear ho40
 replace HB := Aside0.mk (below_step HB.out hb)
 clear hb
 go_wp2_with fail
 refine (laws_eqBlockS.calls k _ _ t37 _ _ t17 _ _ (Kd.R_reads' F42.out).2.2 (by rw [← (Kd.R_reads' F42.out).1]; exact (Kd.R_reads' F42.out).2.1) (Kd.R_reads' F22.out).2.2 (by rw [← (Kd.R_reads' F22.out).1]; exact (Kd.R_reads' F22.out).2.1) A46.out).mono ?_
 rintro e w47 ⟨rfl, hb⟩
 have SZ49 := Aside0.mk hb.size
 replace F12 := Aside0.mk (Kd.S_below F12.out hb)
 replace F22 := Aside0.mk (Kd.R_below F22.out hb)
 replace F32 := Aside0.mk (Kd.S_below F32.out hb)
 replace F42 := Aside0.mk (Kd.R_below F42.out hb)
 replace HB := Aside0.mk (below_step HB.out hb)
 clear hb
 go_wp2_with fail
 refine (laws_toBuildingS.calls k _ _ l0 _ _ (Kd.C_below HR0.out HB.out) HC0.out A51.out).mono ?_
 rintro e w52 ⟨v54, rfl, ho55, hb⟩
 have SZ56 := Aside0.mk hb.size
 replace F12 := Aside0.mk (Kd.S_below F12.out hb)
 replace F22 := Aside0.mk (Kd.R_below F22.out hb)
 replace F32 := Aside0.mk (Kd.S_below F32.out hb)
 replace F42 := Aside0.mk (Kd.R_below F42.out hb)
 obtain ⟨Ao58, co59, rfl⟩ := Kd.S_slice ho55
 have F57 := Aside0.mk (Kd.S_lower (Kd.S_mono (ok' := fun k_ => w47.heap.size ≤ k_ ∧ k_ < w52.heap.size) (Kd.S_bound ho55) (fun k_ hk_ => ⟨hk_.2.1, hk_.2.2.1⟩)) HB.out.size)
 clear ho55
 replace HB := Aside0.mk (below_step HB.out hb)
 clear hb
 go_wp2_with fail
 refine (laws_eqBuildingS.calls k _ _ t28 _ _ t53 _ _ (Kd.S_reads' F32.out).2.2 (by rw [← (Kd.S_reads' F32.out).1]; exact (Kd.S_reads' F32.out).2.1) (Kd.S_reads' F57.out).2.2 (by rw [← (Kd.S_reads' F57.out).1]; exact (Kd.S_reads' F57.out).2.1) A61.out).mono ?_
 rintro e w62 ⟨rfl, hb⟩
 have SZ64 := Aside0.mk hb.size
 replace F12 := Aside0.mk (Kd.S_below F12.out hb)
 replace F22 := Aside0.mk (Kd.R_below F22.out hb)
 replace F32 := Aside0.mk (Kd.S_below F32.out hb)
 replace F42 := Aside0.mk (Kd.R_below F42.out hb)
 replace F57 := Aside0.mk (Kd.S_below F57.out hb)
 replace HB := Aside0.mk (below_step HB.out hb)
 clear hb
 go_wp2_with fail
 refine (laws_markBuildingS.calls k (fun k_ => w16.heap.size ≤ k_ ∧ k_ < w27.heap.size) _ t28 1 _ _ w _ HB.out F32.out A65.out).mono ?_
 rintro e w66 ⟨rfl, ho69, hb, hk⟩
 have SZ70 := Aside0.mk hk.1
 replace F12 := Aside0.mk (Kd.S_step F12.out (fun k_ ho_ hlt_ => hk.2 k_ hlt_ (by have := SZ4.out; have := SZ11.out; have := SZ21.out; have := SZ31.out; have := SZ41.out; have := SZ49.out; have := SZ56.out; have := SZ64.out; have := SZ70.out; omega)))
 replace F22 := Aside0.mk (Kd.R_step F22.out (fun k_ ho_ hlt_ => hk.2 k_ hlt_ (by have := SZ4.out; have := SZ11.out; have := SZ21.out; have := SZ31.out; have := SZ41.out; have := SZ49.out; have := SZ56.out; have := SZ64.out; have := SZ70.out; omega)))
 replace F42 := Aside0.mk (Kd.R_step F42.out (fun k_ ho_ hlt_ => hk.2 k_ hlt_ (by have := SZ4.out; have := SZ11.out; have := SZ21.out; have := SZ31.out; have := SZ41.out; have := SZ49.out; have := SZ56.out; have := SZ64.out; have := SZ70.out; omega)))
 replace F57 := Aside0.mk (Kd.S_step F57.out (fun k_ ho_ hlt_ => hk.2 k_ hlt_ (by have := SZ4.out; have := SZ11.out; have := SZ21.out; have := SZ31.out; have := SZ41.out; have := SZ49.out; have := SZ56.out; have := SZ64.out; have := SZ70.out; omega)))
 replace F32 := Aside0.mk ho69
 replace HB := Aside0.mk hb
 clear hb hk ho69
 go_wp2_with fail
 refine (laws_eqBlockS.calls k _ _ t37 _ _ t17 _ _ (Kd.R_reads' F42.out).2.2 (by rw [← (Kd.R_reads' F42.out).1]; exact (Kd.R_reads' F42.out).2.1) (Kd.R_reads' F22.out).2.2 (by rw [← (Kd.R_reads' F22.out).1]; exact (Kd.R_reads' F22.out).2.1) A72.out).mono ?_
 rintro e w73 ⟨rfl, hb⟩
 have SZ75 := Aside0.mk hb.size
 replace F12 := Aside0.mk (Kd.S_below F12.out hb)
 replace F22 := Aside0.mk (Kd.R_below F22.out hb)
 replace F32 := Aside0.mk (Kd.S_below F32.out hb)
 replace F42 := Aside0.mk (Kd.R_below F42.out hb)
 replace F57 := Aside0.mk (Kd.S_below F57.out hb)
 replace HB := Aside0.mk (below_step HB.out hb)
 clear hb
 go_wp2_with fail
 refine (laws_markBlockS.calls k (fun k_ => w27.heap.size ≤ k_ ∧ k_ < w36.heap.size) _ t37 1 _ _ w _ HB.out F42.out A76.out).mono ?_
 rintro e w77 ⟨rfl, ho80, hb, hk⟩
 have SZ81 := Aside0.mk hk.1
 replace F12 := Aside0.mk (Kd.S_step F12.out (fun k_ ho_ hlt_ => hk.2 k_ hlt_ (by have := SZ4.out; have := SZ11.out; have := SZ21.out; have := SZ31.out; have := SZ41.out; have := SZ49.out; have := SZ56.out; have := SZ64.out; have := SZ70.out; have := SZ75.out; have := SZ81.out; omega)))
 replace F22 := Aside0.mk (Kd.R_step F22.out (fun k_ ho_ hlt_ => hk.2 k_ hlt_ (by have := SZ4.out; have := SZ11.out; have := SZ21.out; have := SZ31.out; have := SZ41.out; have := SZ49.out; have := SZ56.out; have := SZ64.out; have := SZ70.out; have := SZ75.out; have := SZ81.out; omega)))
 replace F32 := Aside0.mk (Kd.S_step F32.out (fun k_ ho_ hlt_ => hk.2 k_ hlt_ (by have := SZ4.out; have := SZ11.out; have := SZ21.out; have := SZ31.out; have := SZ41.out; have := SZ49.out; have := SZ56.out; have := SZ64.out; have := SZ70.out; have := SZ75.out; have := SZ81.out; omega)))
 replace F57 := Aside0.mk (Kd.S_step F57.out (fun k_ ho_ hlt_ => hk.2 k_ hlt_ (by have := SZ4.out; have := SZ11.out; have := SZ21.out; have := SZ31.out; have := SZ41.out; have := SZ49.out; have := SZ56.out; have := SZ64.out; have := SZ70.out; have := SZ75.out; have := SZ81.out; omega)))
 replace F42 := Aside0.mk (Kd.R_mono (Kd.R_tight rfl ho80) (fun k_ hk_ => F42.out.1 k_ hk_.symm))
 replace HB := Aside0.mk hb
 clear hb hk ho80
 go_wp2_with fail
 refine calls_of_args (args' := #[.slice Ao43 t79.length co44, .int .i64 (1)]) (by rw [show t37.length = t79.length from (Kd.R_reads' F42.out).1]) ?_
 refine (laws_heldBlockS.calls k _ _ t79 1 _ _ (Kd.R_reads' F42.out).2.2 (by rw [← (Kd.R_reads' F42.out).1]; exact (Kd.R_reads' F42.out).2.1) A82.out).mono ?_
 rintro e w83 ⟨rfl, hb⟩
 have SZ85 := Aside0.mk hb.size
 replace F12 := Aside0.mk (Kd.S_below F12.out hb)
 replace F22 := Aside0.mk (Kd.R_below F22.out hb)
 replace F32 := Aside0.mk (Kd.S_below F32.out hb)
 replace F42 := Aside0.mk (Kd.R_below F42.out hb)
 replace F57 := Aside0.mk (Kd.S_below F57.out hb)
 replace HB := Aside0.mk (below_step HB.out hb)
 clear hb
 go_wp2_with fail
 refine (laws_toBuildingS.calls k _ _ l0 _ _ (Kd.C_below HR0.out HB.out) HC0.out A87.out).mono ?_
 rintro e w88 ⟨v90, rfl, ho91, hb⟩
 have SZ92 := Aside0.mk hb.size
 replace F12 := Aside0.mk (Kd.S_below F12.out hb)
 replace F22 := Aside0.mk (Kd.R_below F22.out hb)
 replace F32 := Aside0.mk (Kd.S_below F32.out hb)
 replace F42 := Aside0.mk (Kd.R_below F42.out hb)
 replace F57 := Aside0.mk (Kd.S_below F57.out hb)
 obtain ⟨Ao94, co95, rfl⟩ := Kd.S_slice ho91
 have F93 := Aside0.mk (Kd.S_lower (Kd.S_mono (ok' := fun k_ => w83.heap.size ≤ k_ ∧ k_ < w88.heap.size) (Kd.S_bound ho91) (fun k_ hk_ => ⟨hk_.2.1, hk_.2.2.1⟩)) HB.out.size)
 clear ho91
 replace HB := Aside0.mk (below_step HB.out hb)
 clear hb
 go_wp2_with fail
 refine (impl_BlocksOfBuildings.calls k _ _ t89 _ _ _ (Kd.S_reads' F93.out).2.2 (by rw [← (Kd.S_reads' F93.out).1]; exact (Kd.S_reads' F93.out).2.1) (HSH.out.below HB.out) A96.out).mono ?_
 rintro e w97 ⟨v100, rfl, ho101, hb⟩
 have SZ102 := Aside0.mk hb.size
 replace F12 := Aside0.mk (Kd.S_below F12.out hb)
 replace F22 := Aside0.mk (Kd.R_below F22.out hb)
 replace F32 := Aside0.mk (Kd.S_below F32.out hb)
 replace F42 := Aside0.mk (Kd.R_below F42.out hb)
 replace F57 := Aside0.mk (Kd.S_below F57.out hb)
 replace F93 := Aside0.mk (Kd.S_below F93.out hb)
 obtain ⟨Ao104, co105, rfl⟩ := Kd.R_slice ho101
 have F103 := Aside0.mk (Kd.R_lower (Kd.R_mono (ok' := fun k_ => w88.heap.size ≤ k_ ∧ k_ < w97.heap.size) (Kd.R_bound ho101) (fun k_ hk_ => ⟨hk_.2.1, hk_.2.2.1⟩)) HB.out.size)
 clear ho101
 replace HB := Aside0.mk (below_step HB.out hb)
 clear hb
 go_wp2_with fail
 refine (laws_eqBlockS.calls k _ _ t98 _ _ t17 _ _ (Kd.R_reads' F103.out).2.2 (by rw [← (Kd.R_reads' F103.out).1]; exact (Kd.R_reads' F103.out).2.1) (Kd.R_reads' F22.out).2.2 (by rw [← (Kd.R_reads' F22.out).1]; exact (Kd.R_reads' F22.out).2.1) A107.out).mono ?_
 rintro e w108 ⟨rfl, hb⟩
 have SZ110 := Aside0.mk hb.size
 replace F12 := Aside0.mk (Kd.S_below F12.out hb)
 replace F22 := Aside0.mk (Kd.R_below F22.out hb)
 replace F32 := Aside0.mk (Kd.S_below F32.out hb)
 replace F42 := Aside0.mk (Kd.R_below F42.out hb)
 replace F57 := Aside0.mk (Kd.S_below F57.out hb)
 replace F93 := Aside0.mk (Kd.S_below F93.out hb)
 replace F103 := Aside0.mk (Kd.R_below F103.out hb)
 replace HB := Aside0.mk (below_step HB.out hb)
 clear hb
 go_wp2_with fail
 refine calls_of_args (args' := #[.slice Ao43 t79.length co44, .int .i64 (1)]) (by rw [show t37.length = t79.length from (Kd.R_reads' F42.out).1]) ?_
 refine (laws_heldBlockS.calls k _ _ t79 1 _ _ (Kd.R_reads' F42.out).2.2 (by rw [← (Kd.R_reads' F42.out).1]; exact (Kd.R_reads' F42.out).2.1) A111.out).mono ?_
 rintro e w112 ⟨rfl, hb⟩
 have SZ114 := Aside0.mk hb.size
 replace F12 := Aside0.mk (Kd.S_below F12.out hb)
 replace F22 := Aside0.mk (Kd.R_below F22.out hb)
 replace F32 := Aside0.mk (Kd.S_below F32.out hb)
 replace F42 := Aside0.mk (Kd.R_below F42.out hb)
 replace F57 := Aside0.mk (Kd.S_below F57.out hb)
 replace F93 := Aside0.mk (Kd.S_below F93.out hb)
 replace F103 := Aside0.mk (Kd.R_below F103.out hb)
 replace HB := Aside0.mk (below_step HB.out hb)
 clear hb
 go_wp2
 go_ret
 exact ⟨eZ, bZ⟩
end Go.Proofs.YtlhhigkmcidekaaDoor.XB
end

section
namespace Go.Proofs.YtlhhigkmcidekaaDoor.Open
open Go.ChangeShapes Go.WideShapes Go.RowKit Go.Proofs.YtlhhigkmcidekaaDoorW.PrintWords
set_option linter.unusedVariables false
def Opens (P : Program) (t : TypeId) {α : Type} (d : Kd α) (Q : α → Prop) : Prop :=
  P.cellsOf t = d.sz ∧ ∀ (H : Type) (enc : TypeId × Value → H) (w : World) (base : Nat) (spare : Nat → Bool) (held : Bool) (fuel : Nat) (cs : List Value) (x : DataW H × List MemPlace),
    DataW.trod enc P w base spare held fuel t cs = some x → ∃ a : α, d.K w a cs ∧ Q a
theorem Opens.int {P : Program} {t : TypeId} {k : IntKind} (hu : P.underlying t = some (.int k)) (hc : P.cellsOf t = 1) : Opens P t (Kd.int k) (fun n => (Lit.int k n).wf = true) := by
  refine ⟨hc, fun H enc w base spare held fuel cs x h => ?_⟩
  obtain ⟨n, rfl, _, hw⟩ := DataW.trod_int hu h
  exact ⟨n, rfl, hw⟩
theorem Opens.bool {P : Program} {t : TypeId} (hu : P.underlying t = some .bool) (hc : P.cellsOf t = 1) : Opens P t Kd.bool (fun _ => True) := by
  refine ⟨hc, fun H enc w base spare held fuel cs x h => ?_⟩
  obtain ⟨b, rfl, _⟩ := DataW.trod_bool hu h
  exact ⟨b, rfl, trivial⟩
theorem Opens.string {P : Program} {t : TypeId} (hu : P.underlying t = some .string) (hc : P.cellsOf t = 1) : Opens P t Kd.string (fun s => s.size ≤ maxLen) := by
  refine ⟨hc, fun H enc w base spare held fuel cs x h => ?_⟩
  obtain ⟨s, rfl, _, hs⟩ := DataW.trod_string hu h
  exact ⟨s, rfl, hs⟩
theorem choose_list {α : Type} {n : Nat} {p : Nat → α → Prop} (h : ∀ i, i < n → ∃ x, p i x) : ∃ l : List α, l.length = n ∧ ∀ i x, l[i]? = some x → p i x := by
  induction n with
  | zero => exact ⟨[], rfl, fun i x hx => by simp at hx⟩
  | succ n ih =>
    obtain ⟨l, hl, hp⟩ := ih (fun i hi => h i (by omega))
    obtain ⟨x, hx⟩ := h n (by omega)
    refine ⟨l ++ [x], by simp [hl], fun i y hy => ?_⟩
    rcases Nat.lt_or_ge i l.length with hi | hi
    · rw [List.getElem?_append_left hi] at hy
      exact hp i y hy
    · have : i = l.length := by
        have := (List.getElem?_eq_some_iff.1 hy).1
        simp at this
        omega
      subst this
      simp at hy
      subst hy
      rw [hl]
      exact hx
theorem cells?_get {w : World} {base : Nat} {a : Addr} {n : Nat} {cs : List Value} (h : w.cells? base a n = some cs) (i : Nat) (u : Value) (hu : cs[i]? = some u) : w.cell? (a.add i) = some u := by
  unfold World.cells? at h
  split at h
  · have hlen : cs.length = n := by simpa using mapM_some_length h
    have hi : i < n := by
      have := (List.getElem?_eq_some_iff.1 hu).1
      omega
    have := mapM_some_get h i i (by simp [hi])
    rw [hu] at this
    exact this
  · cases h
theorem Opens.slice {P : Program} {t e : TypeId} {α : Type} {d : Kd α} {Q : α → Prop} (hu : P.underlying t = some (.slice e)) (hc : P.cellsOf t = 1) (hd : Opens P e d Q) :
    Opens P t (Kd.slice e d) (fun xs => xs.length ≤ maxLen ∧ ∀ x ∈ xs, Q x) := by
  refine ⟨hc, fun H enc w base spare held fuel cs x h => ?_⟩
  rcases Go.Deep.open_slice hu h with ⟨rfl, _⟩ | ⟨a, len, cap, m, n, D, Pl, rfl, _, hl, hm, hmm, _, hx⟩
  · exact ⟨[], ⟨none, 0, rfl, Nat.le_refl _, rfl, by simp, fun h => absurd h (by simp)⟩, by simp, fun x hx => by simp at hx⟩
  · have hlm : len ≤ m := by rw [hmm]; split <;> omega
    obtain ⟨l, hl1, hp⟩ := choose_list (n := len) (p := fun i (x : α) => ∃ cs', w.cells? base (a.add (i * d.sz)) d.sz = some cs' ∧ d.K w x cs' ∧ Q x) (fun i hi => by
      obtain ⟨cs', h1, h2⟩ := hx i (by omega)
      rw [hd.1] at h1
      obtain ⟨y, hy, hq⟩ := hd.2 H enc w base spare held n cs' _ h2
      exact ⟨y, cs', h1, hy, hq⟩)
    have hmax : (maxLen : Nat) = 9223372036854775807 := by unfold maxLen; omega
    refine ⟨l, ⟨some a, cap, by rw [hl1], by omega, rfl, by omega, fun _ => ⟨a, rfl, fun j p hj => ?_⟩⟩, by omega, fun x hx => ?_⟩
    · obtain ⟨cs', h1, h2, _⟩ := hp j p hj
      refine ⟨cs', d.K_len h2, h2, fun i u hi => ?_⟩
      have := cells?_get h1 i u hi
      rwa [Go.Deep.add_add] at this
    · obtain ⟨i, hi, rfl⟩ := List.mem_iff_getElem.1 hx
      obtain ⟨cs', _, _, h3⟩ := hp i _ (List.getElem?_eq_getElem hi)
      exact h3
def OpensF (P : Program) (fs : List Field) (off : Nat) {α : Type} (d : Kd α) (Q : α → Prop) : Prop :=
  ∀ (H : Type) (enc : TypeId × Value → H) (w : World) (base : Nat) (spare : Nat → Bool) (held : Bool) (n : Nat) (cs : List Value), off + d.sz = cs.length →
    (∀ f ∈ fs, ∃ y, DataW.trod enc P w base spare held n f.type ((cs.drop f.offset).take (P.cellsOf f.type)) = some y) → ∃ a : α, d.K w a (cs.drop off) ∧ Q a
theorem OpensF.one {P : Program} {f : Field} {off : Nat} {α : Type} {d : Kd α} {Q : α → Prop} (ho : f.offset = off) (h : Opens P f.type d Q) : OpensF P [f] off d Q := by
  intro H enc w base spare held n cs hl hf
  obtain ⟨y, hy⟩ := hf f List.mem_cons_self
  rw [ho, h.1, List.take_of_length_le (by rw [List.length_drop]; omega)] at hy
  exact h.2 H enc w base spare held n _ y hy
theorem OpensF.cons {P : Program} {f : Field} {fs : List Field} {off : Nat} {α β : Type} {d1 : Kd α} {d2 : Kd β} {Q1 : α → Prop} {Q2 : β → Prop} (ho : f.offset = off) (h : Opens P f.type d1 Q1) (hs : OpensF P fs (off + d1.sz) d2 Q2) :
    OpensF P (f :: fs) off (Kd.pair d1 d2) (fun x => Q1 x.1 ∧ Q2 x.2) := by
  intro H enc w base spare held n cs hl hf
  have hl' : off + (d1.sz + d2.sz) = cs.length := hl
  obtain ⟨y, hy⟩ := hf f List.mem_cons_self
  rw [ho, h.1] at hy
  obtain ⟨a, ha, qa⟩ := h.2 H enc w base spare held n _ y hy
  obtain ⟨b, hb, qb⟩ := hs H enc w base spare held n cs (by omega) (fun g hg => hf g (List.mem_cons_of_mem _ hg))
  refine ⟨(a, b), ⟨_, _, ?_, ha, hb⟩, qa, qb⟩
  rw [← List.drop_drop, List.take_append_drop]
theorem Opens.struct {P : Program} {t : TypeId} {fs : Array Field} {α β : Type} {d : Kd α} {Q : α → Prop} (f : β → α) (g : α → β) (hfg : ∀ x, f (g x) = x) (hu : P.underlying t = some (.struct fs)) (hc : P.cellsOf t = d.sz) (h : OpensF P fs.toList 0 d Q) :
    Opens P t (Kd.iso d f) (fun x => Q (f x)) := by
  refine ⟨hc, fun H enc w base spare held fuel cs x hx => ?_⟩
  obtain ⟨xs, n, rfl, _, hl, hxs, hf⟩ := DataW.trod_struct hu hx
  obtain ⟨a, ha, qa⟩ := h H enc w base spare held n cs (by omega) (fun f hf0 => by
    obtain ⟨i, hi, rfl⟩ := List.mem_iff_getElem.1 hf0
    have hi' : i < fs.size := by simpa using hi
    have := hf i fs[i] (Array.getElem?_eq_getElem hi')
    rw [List.getElem?_eq_getElem (by omega)] at this
    exact ⟨_, by simpa using this⟩)
  refine ⟨g a, ?_, ?_⟩
  · show d.K w (f (g a)) cs
    rw [hfg]
    simpa using ha
  · show Q (f (g a))
    rw [hfg]
    exact qa
theorem open_sl {H : Type} {enc : TypeId × Value → H} {P : Program} {W : World} {base B : Nat} {spare : Nat → Bool} {held : Bool} {t e : TypeId} {v : Value} {dd : DataW H} {ps : List MemPlace} {α : Type} {d : Kd α} {Q : α → Prop}
    (hu : P.underlying t = some (.slice e)) (hc : P.cellsOf t = 1) (hd : Opens P e d Q) (hv : Value.okWide P W .any B t v) (h : DataW.Trod enc P W base spare held t v dd ps) :
    ∃ (A : Option Addr) (c : Nat) (l : List α), v = .slice A l.length c ∧ l.length ≤ c ∧ Kd.C d W A l.length l ∧ l.length ≤ maxLen ∧ ∀ x ∈ l, Q x := by
  obtain ⟨a0, len, cap, rfl⟩ := okWide_slice hu hv
  obtain ⟨fuel, hf⟩ := h
  obtain ⟨l, ⟨A, c, he, hl, hC⟩, hm, hq⟩ := (Opens.slice hu hc hd).2 H enc W base spare held fuel _ _ hf
  refine ⟨A, c, l, ?_, hl, hC, hm, hq⟩
  simpa [Value.cells] using he
end Go.Proofs.YtlhhigkmcidekaaDoor.Open
end

section
namespace Go.Proofs.YtlhhigkmcidekaaDoor.XB
open Go.RowKit Go.Proofs.YtlhhigkmcidekaaDoorW.PrintWords Go.Proofs.YtlhhigkmcidekaaDoor.Open
set_option linter.unusedVariables false
def Q37 (x : S37) : Prop := (x.f0.size ≤ maxLen) ∧ ((Lit.int .i64 x.f1).wf = true) ∧ ((Lit.int .i64 x.f2).wf = true) ∧ ((Lit.int .i64 x.f3).wf = true) ∧ ((Lit.int .i64 x.f4).wf = true) ∧ ((x.f5.length ≤ maxLen ∧ ∀ y4 ∈ x.f5, (Lit.int .i64 y4).wf = true))
theorem opens37 : Opens Tryd.prog 37 k37 Q37 := Opens.struct (fun x : S37 => (x.f0, x.f1, x.f2, x.f3, x.f4, x.f5)) (fun p => (⟨p.1, p.2.1, p.2.2.1, p.2.2.2.1, p.2.2.2.2.1, p.2.2.2.2.2⟩ : S37)) (fun _ => rfl) Tryd.underlying37 (by kernel_rfl) (OpensF.cons rfl (Opens.string Tryd.underlying9 (by kernel_rfl)) (OpensF.cons rfl (Opens.int Tryd.underlying2 (by kernel_rfl)) (OpensF.cons rfl (Opens.int Tryd.underlying2 (by kernel_rfl)) (OpensF.cons rfl (Opens.int Tryd.underlying2 (by kernel_rfl)) (OpensF.cons rfl (Opens.int Tryd.underlying2 (by kernel_rfl)) (OpensF.one rfl (Opens.slice Tryd.underlying35 (by kernel_rfl) (Opens.int Tryd.underlying2 (by kernel_rfl)))))))))
end Go.Proofs.YtlhhigkmcidekaaDoor.XB
end

section
namespace Go.Proofs.YtlhhigkmcidekaaDoor.XB
open Go.RowKit Go.Proofs.YtlhhigkmcidekaaDoorW.PrintWords
def laws_FnExactBlocksOfBuildings.Pure : Prop := ∀ (a0 : List (S37)), ((a0.length ≤ maxLen ∧ ∀ y2 ∈ a0, Q37 y2)) → ∃ k, laws_FnExactBlocksOfBuildings.f k a0 = some true
end Go.Proofs.YtlhhigkmcidekaaDoor.XB
end

section
namespace Go.Proofs.YtlhhigkmcidekaaDoor.EvK
open Go.RowKit Go.Proofs.YtlhhigkmcidekaaDoorW.PrintWords
set_option linter.unusedVariables false
theorem w64 {n : Int} (h : -9223372036854775808 ≤ n) (h' : n ≤ 9223372036854775807) : wrap64 n = n := by unfold wrap64; omega
theorem Ev.some {α : Type} {a r : α} (h : a = r) : Ev (fun _ => Option.some a) r := h ▸ Ev.now a
theorem Ev.bind_some {α β : Type} {g : Nat → Option α} {f : Nat → α → Option β} {a : α} {r : β} (h : Ev g a) (k : Ev (fun n => f n a) r) : Ev (fun n => (g n).bind (f n)) r := Ev.bind h k
theorem getD_at {α : Type} (l : List α) (d : α) (i : Nat) (h : i < l.length) : l.getD (i : Int).toNat d = l[i] := by
  simp [List.getD_eq_getElem?_getD, List.getElem?_eq_getElem h]
theorem rd_at (l : List Int) (i : Nat) (h : i < l.length) : rd l (i : Int) = l[i] := getD_at l 0 i h
theorem map_done {α β : Type} (f : α → β) (l : List α) (z : β) (i : Nat) (h : i < l.length) :
    ((l.take i).map f ++ List.replicate (l.length - i) z).set i (f l[i]) = (l.take (i + 1)).map f ++ List.replicate (l.length - (i + 1)) z := by
  have e : l.length - i = (l.length - (i + 1)) + 1 := by omega
  rw [List.set_append_right _ _ (by simp; omega), e, List.replicate_succ]
  have e2 : i - ((l.take i).map f).length = 0 := by simp; omega
  rw [e2, List.set_cons_zero, List.take_succ_eq_append_getElem h, List.map_append]
  simp
theorem done_len {α β : Type} (f : α → β) (l : List α) (z : β) (i : Nat) (h : i ≤ l.length) : ((l.take i).map f ++ List.replicate (l.length - i) z).length = l.length := by simp; omega
def EvP {α : Type} (g : Nat → Option α) (P : α → Prop) : Prop := ∃ r, Ev g r ∧ P r
theorem EvP.now {α : Type} {r : α} {P : α → Prop} (h : P r) : EvP (fun _ => Option.some r) P := ⟨r, Ev.now r, h⟩
theorem EvP.of {α : Type} {g : Nat → Option α} {r : α} {P : α → Prop} (h : Ev g r) (hp : P r) : EvP g P := ⟨r, h, hp⟩
theorem EvP.mono {α : Type} {g : Nat → Option α} {P Q : α → Prop} (h : EvP g P) (hp : ∀ r, P r → Q r) : EvP g Q := by
  obtain ⟨r, h1, h2⟩ := h
  exact ⟨r, h1, hp _ h2⟩
theorem EvP.eq {α : Type} {g : Nat → Option α} {r : α} (h : EvP g (· = r)) : Ev g r := by
  obtain ⟨r', h, rfl⟩ := h
  exact h
theorem EvP.step {α : Type} {g f : Nat → Option α} {P : α → Prop} (h : ∀ k, g (k + 1) = f k) (k : EvP f P) : EvP g P := by
  obtain ⟨r, h1, h2⟩ := k
  exact ⟨r, Ev.step h h1, h2⟩
theorem EvP.bind {α β : Type} {g : Nat → Option α} {f : Nat → α → Option β} {a : α} {P : β → Prop} (h : Ev g a) (k : EvP (fun n => f n a) P) : EvP (fun n => (g n).bind (f n)) P := by
  obtain ⟨r, h1, h2⟩ := k
  exact ⟨r, Ev.bind h h1, h2⟩
theorem EvP.bindP {α β : Type} {g : Nat → Option α} {f : Nat → α → Option β} {Q : α → Prop} {P : β → Prop} (h : EvP g Q) (k : ∀ a, Q a → EvP (fun n => f n a) P) : EvP (fun n => (g n).bind (f n)) P := by
  obtain ⟨a, ha, hq⟩ := h
  exact EvP.bind ha (k a hq)
theorem EvP.rounds {α : Type} {g : Nat → Option α} {r : α} (h : EvP g (· = r)) : ∃ k, g k = Option.some r := Ev.rounds (EvP.eq h)
theorem for_evp {σ ρ : Type} {L : Nat → σ → Int → Option ρ} {Post : ρ → Prop} (n : Nat) (inv : Nat → σ → Prop)
    (step : ∀ (i : Nat) (s : σ), i < n → inv i s → (∀ s', inv (i + 1) s' → EvP (fun k => L k s' ((i : Int) + 1)) Post) → EvP (fun k => L k s i) Post)
    (fin : ∀ s, inv n s → EvP (fun k => L k s n) Post) (s : σ) (h0 : inv 0 s) : EvP (fun k => L k s 0) Post := by
  have key : ∀ (d i : Nat) (s : σ), i + d = n → inv i s → EvP (fun k => L k s i) Post := by
    intro d
    induction d with
    | zero =>
      intro i s hi hs
      obtain rfl : i = n := by omega
      exact fin s hs
    | succ d ih =>
      intro i s hi hs
      refine step i s (by omega) hs (fun s' hs' => ?_)
      simpa using ih (i + 1) s' (by omega) hs'
  simpa using key n 0 s (by omega) h0
theorem take_all {α : Type} {p : α → Prop} {l : List α} {i : Nat} (h : i < l.length) (hs : ∀ x ∈ l.take i, p x) (hx : p l[i]) : ∀ x ∈ l.take (i + 1), p x := by
  rw [List.take_succ_eq_append_getElem h]
  intro x hm
  rcases List.mem_append.1 hm with hm | hm
  · exact hs x hm
  · rw [List.mem_singleton.1 hm]
    exact hx
theorem set_done {α : Type} (E : Nat → α) (l : List α) (i : Nat) (h : i < l.length) : ((List.range i).map E ++ l.drop i).set i (E i) = (List.range (i + 1)).map E ++ l.drop (i + 1) := by
  rw [List.set_append_right _ _ (by simp), List.range_succ, List.map_append, List.append_assoc]
  congr 1
  rw [List.length_map, List.length_range, Nat.sub_self, List.drop_eq_getElem_cons h]
  rfl
theorem getD_set_self {α : Type} (l : List α) (i : Nat) (v d : α) (h : i < l.length) : (l.set i v).getD i d = v := by
  simp [List.getD_eq_getElem?_getD, h]
theorem all_ev {α : Type} {L : Nat → Int → Option Bool} (l : List α) (p : α → Bool) (b : Bool)
    (step : ∀ (i : Nat) (h : i < l.length), p l[i] = true → ∀ P, EvP (fun k => L k ((i : Int) + 1)) P → EvP (fun k => L k i) P)
    (stop : ∀ (i : Nat) (h : i < l.length), p l[i] = false → Ev (fun k => L k i) false)
    (fin : Ev (fun k => L k l.length) b) : Ev (fun k => L k 0) (l.all p && b) := by
  apply EvP.eq
  refine for_evp (L := fun k (_ : Unit) i => L k i) l.length (fun i _ => ∀ x ∈ l.take i, p x = true) ?_ ?_ () (by simp)
  · intro i _ hi hs K
    cases hp : p l[i] with
    | true => exact step i hi hp _ (K () (take_all hi hs hp))
    | false =>
      have e : l.all p = false := by
        rw [List.all_eq_false]
        exact ⟨l[i], List.getElem_mem hi, by simp [hp]⟩
      rw [e]
      exact EvP.of (stop i hi hp) rfl
  · intro _ hs
    have e : l.all p = true := by
      rw [List.all_eq_true]
      simpa using hs
    rw [e]
    exact EvP.of fin rfl
theorem bytes_at_ (s : ByteArray) (i : Nat) (h : i < s.data.toList.length) : bt s (i : Int) = ((s.data.toList[i]).toNat : Int) := by
  have h' : i < s.size := by simpa using h
  unfold bt
  rw [dif_pos (by simpa using h')]
  simp
  rfl
theorem size_len (s : ByteArray) : (s.size : Int) = (s.data.toList.length : Int) := by simp
theorem size_len' (s : ByteArray) : s.size = s.data.toList.length := by simp
end Go.Proofs.YtlhhigkmcidekaaDoor.EvK
end

section
namespace Go.Proofs.YtlhhigkmcidekaaDoor.PBasics
open Go.RowKit Go.Proofs.YtlhhigkmcidekaaDoorW.PrintWords Go.Proofs.YtlhhigkmcidekaaDoor.XB Go.Proofs.YtlhhigkmcidekaaDoor.EvK
set_option linter.unusedVariables false
set_option linter.unusedSimpArgs false
def smallB (c : UInt8) : Bool := decide (97 ≤ (c.toNat : Int)) && decide ((c.toNat : Int) ≤ 122)
def digB (c : UInt8) : Bool := decide (48 ≤ (c.toNat : Int)) && decide ((c.toNat : Int) ≤ 57)
def nameB (c : UInt8) : Bool := smallB c || digB c
def nameOk (s : ByteArray) : Bool := match s.data.toList with
  | [] => false
  | c :: l => decide ((s.size : Int) ≤ 10) && smallB c && (c :: l).all nameB
def inR (n a b : Int) : Bool := decide (a ≤ n) && decide (n ≤ b)
theorem within_eq (n a b : Int) : impl_within.f n a b = some (inR n a b) := by
  unfold impl_within.f inR
  by_cases h : n ≥ a
  · rw [if_pos h, decide_eq_true (show a ≤ n from h), Bool.true_and]
  · rw [if_neg h, decide_eq_false (show ¬ a ≤ n from h), Bool.false_and]
theorem in_eq (n a b : Int) : spec_l00In.f n a b = some (inR n a b) := by
  unfold spec_l00In.f inR
  by_cases h : n ≥ a
  · rw [if_pos h, decide_eq_true (show a ≤ n from h), Bool.true_and]
  · rw [if_neg h, decide_eq_false (show ¬ a ≤ n from h), Bool.false_and]
theorem small_eq (c : UInt8) : spec_l01Small.f (c.toNat : Int) = some (smallB c) := by
  unfold spec_l01Small.f smallB
  by_cases h : (c.toNat : Int) ≥ 97
  · rw [if_pos h, decide_eq_true (show (97 : Int) ≤ c.toNat from h), Bool.true_and]
  · rw [if_neg h, decide_eq_false (show ¬ (97 : Int) ≤ c.toNat from h), Bool.false_and]
theorem dig_eq (c : UInt8) : spec_l01Digit.f (c.toNat : Int) = some (digB c) := by
  unfold spec_l01Digit.f digB
  by_cases h : (c.toNat : Int) ≥ 48
  · rw [if_pos h, decide_eq_true (show (48 : Int) ≤ c.toNat from h), Bool.true_and]
  · rw [if_neg h, decide_eq_false (show ¬ (48 : Int) ≤ c.toNat from h), Bool.false_and]
theorem onlyName_ev (s : ByteArray) (h : s.size ≤ 1048576) : Ev (fun k => impl_onlyNameBytes.f k s) (s.data.toList.all nameB) := by
  unfold impl_onlyNameBytes.f
  rw [size_len'] at h
  have := all_ev (L := fun k i => impl_onlyNameBytes.l0 k s (s.size : Int) i) s.data.toList nameB true ?_ ?_ ?_
  · simpa using this
  · intro i hi hp P K
    refine EvP.step (fun k => impl_onlyNameBytes.l0.eq_2 _ _ _ k) ?_
    simp only [size_len] at K
    simp only [size_len, if_pos (show (i : Int) < (s.data.toList.length : Int) by omega), if_pos (show (0 : Int) ≤ (i : Int) by omega), bytes_at_ s i hi, w64 (show -9223372036854775808 ≤ (i : Int) + 1 by omega) (by omega)]
    simp only [nameB, smallB, digB, Bool.or_eq_true, Bool.and_eq_true, decide_eq_true_eq] at hp
    by_cases h1 : ((s.data.toList[i]).toNat : Int) < 97
    · simp only [if_pos h1, if_neg (show ¬ ((s.data.toList[i]).toNat : Int) < 48 by omega), if_neg (show ¬ ((s.data.toList[i]).toNat : Int) > 57 by omega)]
      exact K
    · simp only [if_neg h1, if_neg (show ¬ ((s.data.toList[i]).toNat : Int) > 122 by omega)]
      exact K
  · intro i hi hp
    refine Ev.step (fun k => impl_onlyNameBytes.l0.eq_2 _ _ _ k) ?_
    simp only [size_len, if_pos (show (i : Int) < (s.data.toList.length : Int) by omega), if_pos (show (0 : Int) ≤ (i : Int) by omega), bytes_at_ s i hi, w64 (show -9223372036854775808 ≤ (i : Int) + 1 by omega) (by omega)]
    simp only [nameB, smallB, digB, Bool.or_eq_false_iff, Bool.and_eq_false_iff, decide_eq_false_iff_not] at hp
    by_cases h1 : ((s.data.toList[i]).toNat : Int) < 97
    · by_cases h2 : ((s.data.toList[i]).toNat : Int) < 48
      · simp only [if_pos h1, if_pos h2]; exact Ev.now _
      · simp only [if_pos h1, if_neg h2, if_pos (show ((s.data.toList[i]).toNat : Int) > 57 by omega)]; exact Ev.now _
    · simp only [if_neg h1, if_pos (show ((s.data.toList[i]).toNat : Int) > 122 by omega), if_neg (show ¬ ((s.data.toList[i]).toNat : Int) < 48 by omega), if_pos (show ((s.data.toList[i]).toNat : Int) > 57 by omega)]
      exact Ev.now _
  · refine Ev.step (fun k => impl_onlyNameBytes.l0.eq_2 _ _ _ k) ?_
    simp only [size_len, if_neg (show ¬ (s.data.toList.length : Int) < (s.data.toList.length : Int) by omega)]
    exact Ev.now _
theorem head_at (s : ByteArray) (c : UInt8) (l : List UInt8) (hl : s.data.toList = c :: l) : bt s 0 = (c.toNat : Int) := by
  have h : 0 < s.data.toList.length := by rw [hl]; simp
  have := bytes_at_ s 0 h
  rw [show ((0 : Nat) : Int) = 0 from rfl] at this
  rw [this]
  simp only [hl, List.getElem_cons_zero]
theorem isName_ev (s : ByteArray) (h : s.size ≤ 1048576) : Ev (fun k => impl_IsName.f k s) (nameOk s) := by
  unfold impl_IsName.f nameOk
  cases hl : s.data.toList with
  | nil =>
    have hz : s.size = 0 := by rw [size_len', hl]; rfl
    simp only [hz, Int.natCast_zero, if_pos (show (0 : Int) < 1 by omega)]
    exact Ev.now _
  | cons c l =>
    have hz : s.size = l.length + 1 := by rw [size_len', hl]; rfl
    have ho := onlyName_ev s h
    rw [hl] at ho
    simp only [if_neg (show ¬ (s.size : Int) < 1 by omega), if_pos (show (0 : Int) < (s.size : Int) by omega), head_at s c l hl]
    by_cases h1 : (s.size : Int) > 10
    · simp only [if_pos h1, decide_eq_false (show ¬ (s.size : Int) ≤ 10 by omega), Bool.false_and]
      exact Ev.now _
    · simp only [if_neg h1, decide_eq_true (show (s.size : Int) ≤ 10 by omega), Bool.true_and]
      by_cases h2 : (c.toNat : Int) < 97
      · simp only [if_pos h2, smallB, decide_eq_false (show ¬ (97 : Int) ≤ c.toNat by omega), Bool.false_and]
        exact Ev.now _
      · by_cases h3 : (c.toNat : Int) > 122
        · simp only [if_neg h2, if_pos h3, smallB, decide_eq_false (show ¬ (c.toNat : Int) ≤ 122 by omega), Bool.false_and, Bool.and_false]
          exact Ev.now _
        · simp only [if_neg h2, if_neg h3, smallB, decide_eq_true (show (97 : Int) ≤ c.toNat by omega), decide_eq_true (show (c.toNat : Int) ≤ 122 by omega), Bool.true_and]
          exact Ev.bind ho (Ev.now _)
theorem toList_eq (s : ByteArray) : s.toList = s.data.toList := by
  have := Lib.toList_data s
  first | exact this | exact this.symm
theorem specName_ev (s : ByteArray) (h : s.size ≤ 1048576) : Ev (fun k => spec_l01Name.f k s) (nameOk s) := by
  unfold spec_l01Name.f nameOk
  have hj : Ev (fun k => spec_l01Name.j0 k s true) false := by
    refine Ev.step (fun k => spec_l01Name.j0.eq_2 _ _ k) ?_
    simp only [if_true]
    exact Ev.now _
  cases hl : s.data.toList with
  | nil =>
    simp only [toList_eq, hl, if_true]
    exact hj
  | cons c l =>
    have hz : s.size = l.length + 1 := by rw [size_len', hl]; rfl
    simp only [toList_eq, hl, reduceCtorEq, if_false, if_pos (show (0 : Int) < (s.size : Int) by omega), head_at s c l hl, small_eq, Option.bind_some]
    by_cases h1 : (s.size : Int) > 10
    · simp only [if_pos h1, decide_eq_false (show ¬ (s.size : Int) ≤ 10 by omega), Bool.false_and]
      exact hj
    simp only [if_neg h1, decide_eq_true (show (s.size : Int) ≤ 10 by omega), Bool.true_and]
    cases hs : smallB c with
    | false =>
      simp only [Bool.not_false, Bool.false_and]
      exact hj
    | true =>
      simp only [Bool.not_true, Bool.true_and]
      refine Ev.step (fun k => spec_l01Name.j0.eq_2 _ _ k) ?_
      simp only [Bool.false_eq_true, if_false]
      rw [← hl]
      rw [size_len'] at h
      have := all_ev (L := fun k i => spec_l01Name.l0 k s i) s.data.toList nameB true ?_ ?_ ?_
      · simpa using this
      · intro i hi hp P K
        refine EvP.step (fun k => spec_l01Name.l0.eq_2 _ _ k) ?_
        simp only [size_len, if_pos (show (i : Int) < (s.data.toList.length : Int) by omega), if_pos (show (0 : Int) ≤ (i : Int) by omega), bytes_at_ s i hi, w64 (show -9223372036854775808 ≤ (i : Int) + 1 by omega) (by omega), small_eq, dig_eq, Option.bind_some]
        cases h2 : smallB s.data.toList[i] with
        | true => simp only [if_true]; exact K
        | false =>
          simp only [nameB, h2, Bool.false_or] at hp
          simp only [hp, Bool.false_eq_true, if_false, if_true]
          exact K
      · intro i hi hp
        refine Ev.step (fun k => spec_l01Name.l0.eq_2 _ _ k) ?_
        simp only [nameB, Bool.or_eq_false_iff] at hp
        simp only [size_len, if_pos (show (i : Int) < (s.data.toList.length : Int) by omega), if_pos (show (0 : Int) ≤ (i : Int) by omega), bytes_at_ s i hi, w64 (show -9223372036854775808 ≤ (i : Int) + 1 by omega) (by omega), small_eq, dig_eq, Option.bind_some, hp.1, hp.2, Bool.false_eq_true, if_false]
        exact Ev.now _
      · refine Ev.step (fun k => spec_l01Name.l0.eq_2 _ _ k) ?_
        simp only [size_len, if_neg (show ¬ (s.data.toList.length : Int) < (s.data.toList.length : Int) by omega)]
        exact Ev.now _
end Go.Proofs.YtlhhigkmcidekaaDoor.PBasics
end

section
namespace Go.Proofs.YtlhhigkmcidekaaDoor.EvK
open Go.RowKit Go.Proofs.YtlhhigkmcidekaaDoorW.PrintWords
set_option linter.unusedVariables false
theorem all_to {α ρ : Type} {L : Nat → Int → Option ρ} (l : List α) (p : α → Bool) (yes no : ρ)
    (step : ∀ (i : Nat) (h : i < l.length), p l[i] = true → ∀ P, EvP (fun k => L k ((i : Int) + 1)) P → EvP (fun k => L k i) P)
    (stop : ∀ (i : Nat) (h : i < l.length), p l[i] = false → Ev (fun k => L k i) no)
    (fin : l.all p = true → Ev (fun k => L k l.length) yes) : Ev (fun k => L k 0) (if l.all p = true then yes else no) := by
  apply EvP.eq
  refine for_evp (L := fun k (_ : Unit) i => L k i) l.length (fun i _ => ∀ x ∈ l.take i, p x = true) ?_ ?_ () (by simp)
  · intro i _ hi hs K
    cases hp : p l[i] with
    | true => exact step i hi hp _ (K () (take_all hi hs hp))
    | false =>
      have e : l.all p = false := by
        rw [List.all_eq_false]
        exact ⟨l[i], List.getElem_mem hi, by simp [hp]⟩
      rw [e]
      exact EvP.of (stop i hi hp) rfl
  · intro _ hs
    have e : l.all p = true := by
      rw [List.all_eq_true]
      simpa using hs
    rw [e]
    exact EvP.of (fin e) rfl
theorem all_n {ρ : Type} {L : Nat → Int → Option ρ} (n : Nat) (p : Nat → Bool) (yes no : ρ)
    (step : ∀ (i : Nat), i < n → p i = true → ∀ P, EvP (fun k => L k ((i : Int) + 1)) P → EvP (fun k => L k i) P)
    (stop : ∀ (i : Nat), i < n → p i = false → Ev (fun k => L k i) no)
    (fin : Ev (fun k => L k n) yes) : Ev (fun k => L k 0) (if (List.range n).all p = true then yes else no) := by
  have := all_to (L := L) (List.range n) p yes no ?_ ?_ ?_
  · exact this
  · intro i hi hp P K
    simp only [List.length_range, List.getElem_range] at hi hp
    exact step i hi hp P K
  · intro i hi hp
    simp only [List.length_range, List.getElem_range] at hi hp
    exact stop i hi hp
  · intro _
    simpa using fin
end Go.Proofs.YtlhhigkmcidekaaDoor.EvK
end

section
namespace Go.Proofs.YtlhhigkmcidekaaDoor.PCrc
open Go.RowKit Go.Proofs.YtlhhigkmcidekaaDoorW.PrintWords Go.Proofs.YtlhhigkmcidekaaDoor.XB Go.Proofs.YtlhhigkmcidekaaDoor.EvK
set_option linter.unusedVariables false
set_option linter.unusedSimpArgs false
def D (u : Nat) : List Int := (Lib.decDigits u).map fun b => (b.toNat : Int)
theorem D_small (u : Nat) (h : u < 10) : D u = [48 + (u : Int)] := by
  unfold D
  rw [Lib.decDigits_one h]
  simp
  omega
theorem D_big (u : Nat) (h : ¬ u < 10) : D u = D (u / 10) ++ [48 + ((u % 10 : Nat) : Int)] := by
  unfold D
  rw [Lib.decDigits, dif_neg h]
  simp
  omega
theorem D_text (u : Nat) : strOfNums (D u) = (⟨(Lib.decDigits u).toArray⟩ : ByteArray) := by
  unfold D
  simp [strOfNums]
  refine (List.map_congr_left (g := id) (fun b _ => ?_)).trans (List.map_id _)
  simp
theorem back_ev (x : List Int) (hx : x.length ≤ 1000) : ∀ (d : Nat) (y : List Int), d ≤ x.length → y.length + d ≤ 1000 → Ev (fun k => spec_l01Dec.l1 k x y ((d : Int) - 1)) (strOfNums (y ++ (x.take d).reverse)) := by
  intro d
  induction d with
  | zero =>
    intro y _ _
    refine Ev.step (fun k => spec_l01Dec.l1.eq_2 _ _ _ k) ?_
    simp only [if_neg (show ¬ ((0 : Nat) : Int) - 1 ≥ 0 by omega)]
    exact Ev.some (by simp)
  | succ d ih =>
    intro y hd hy
    have h1 := ih (y ++ [rd x (d : Int)]) (by omega) (by rw [List.length_append]; simp only [List.length_cons, List.length_nil]; omega)
    refine Ev.step (fun k => spec_l01Dec.l1.eq_2 _ _ _ k) ?_
    simp only [show ((d + 1 : Nat) : Int) - 1 = (d : Int) by omega, if_pos (show (d : Int) ≥ 0 by omega), if_pos (show (0 : Int) ≤ (d : Int) by omega), if_pos (show (d : Int) < (x.length : Int) by omega), if_pos (show y.length < 140737488355328 by omega), w64 (show -9223372036854775808 ≤ (d : Int) - 1 by omega) (by omega)]
    have e : y ++ (x.take (d + 1)).reverse = y ++ [rd x (d : Int)] ++ (x.take d).reverse := by
      rw [List.take_succ_eq_append_getElem (by omega), rd_at x d (by omega)]
      simp
    rw [e]
    exact h1
theorem go_ev (n : Int) (hn : ¬ n < 0) : ∀ (f u : Nat) (x : List Int), u < 10 ^ f → f ≤ 19 → 0 < u → x.length + f ≤ 40 → Ev (fun k => spec_l01Dec.l0 k n x (u : Int)) (strOfNums ((x ++ (D u).reverse).reverse)) := by
  have fin : ∀ x : List Int, x.length ≤ 60 → Ev (fun k => spec_l01Dec.l0 k n x 0) (strOfNums x.reverse) := by
    intro x hx
    have h := back_ev x (by omega) x.length [] (by omega) (by simp; omega)
    refine Ev.step (fun k => spec_l01Dec.l0.eq_2 _ _ _ k) ?_
    simp only [if_true, if_neg hn]
    refine Ev.step (fun k => spec_l01Dec.j1.eq_2 _ k) ?_
    simp only [w64 (show -9223372036854775808 ≤ (x.length : Int) - 1 by omega) (by omega)]
    simpa using h
  intro f
  induction f with
  | zero => intro u x hu _ h0 _; omega
  | succ f ih =>
    intro u x hu hf h0 hx
    have hp : (10 : Nat) ^ (f + 1) ≤ 10 ^ 19 := Nat.pow_le_pow_right (by decide) hf
    have hp2 : (10 : Nat) ^ (f + 1) = 10 ^ f * 10 := Nat.pow_succ 10 f
    obtain ⟨a, ha⟩ : ∃ a : Int, a = ((u % 10 : Nat) : Int) := ⟨_, rfl⟩
    obtain ⟨b, hb⟩ : ∃ b : Int, b = ((u / 10 : Nat) : Int) := ⟨_, rfl⟩
    have t1 : Int.tmod (u : Int) 10 = a := by rw [Int.tmod_eq_emod_of_nonneg (by omega)]; omega
    have t2 : Int.tdiv (u : Int) 10 = b := by rw [Int.tdiv_eq_ediv_of_nonneg (by omega)]; omega
    have w1 : wrap64 (48 + a) % 256 = 48 + a := by rw [w64 (by omega) (by omega)]; omega
    have w2 : wrap64 b = b := w64 (by omega) (by omega)
    have c1 : ¬ (u : Int) = 0 := by omega
    have c2 : ¬ a < 0 := by omega
    have c3 : x.length < 140737488355328 := by omega
    have E : ∀ k, spec_l01Dec.l0 (k + 1) n x (u : Int) = spec_l01Dec.l0 k n (x ++ [48 + a]) b := by
      intro k
      rw [spec_l01Dec.l0.eq_2, if_neg c1, t1, if_neg c2, if_pos c3, w1, t2, w2]
    refine Ev.step E ?_
    clear E t1 t2 w1 w2
    by_cases h10 : u < 10
    · have e0 : b = 0 := by omega
      have e1 : (u : Int) = a := by omega
      have h := fin (x ++ [48 + a]) (by rw [List.length_append]; simp only [List.length_cons, List.length_nil]; omega)
      rw [e0, D_small u h10, e1, List.reverse_singleton]
      exact h
    · have h := ih (u / 10) (x ++ [48 + a]) (by omega) (by omega) (by omega) (by rw [List.length_append]; simp only [List.length_cons, List.length_nil]; omega)
      have e : x ++ (D u).reverse = x ++ [48 + a] ++ (D (u / 10)).reverse := by rw [D_big u h10, ← ha]; simp
      rw [e, hb]
      exact h
theorem dec_ev (u : Nat) (hu : u ≤ 9223372036854775807) : Ev (fun k => spec_l01Dec.f k (u : Int)) (⟨(Lib.itoa (u : Int)).toArray⟩ : ByteArray) := by
  have ei : Lib.itoa (u : Int) = Lib.decDigits u := by unfold Lib.itoa; rw [if_neg (by omega)]; rfl
  rw [ei]
  unfold spec_l01Dec.f
  by_cases h0 : u = 0
  · subst h0
    simp only [Int.natCast_zero, if_true]
    refine Ev.some ?_
    rw [Lib.decDigits_one (by omega)]
    rfl
  · simp only [if_neg (show ¬ (u : Int) = 0 by omega)]
    have h := go_ev (u : Int) (by omega) 19 u [] (by omega) (by omega) (by omega) (by simp)
    rw [← D_text]
    simpa using h
theorem itoa_size (u f : Nat) (h : u < 10 ^ f) (hf : 0 < f) : (⟨(Lib.itoa (u : Int)).toArray⟩ : ByteArray).size ≤ f := by
  have ei : Lib.itoa (u : Int) = Lib.decDigits u := by unfold Lib.itoa; rw [if_neg (by omega)]; rfl
  have hs : (⟨(Lib.itoa (u : Int)).toArray⟩ : ByteArray).size = (Lib.decDigits u).length := by rw [ei]; simp [ByteArray.size]
  rw [hs, Lib.decDigits_length]
  apply Nat.le_of_not_lt
  intro hc
  have key : ∀ (f u : Nat), u < 10 ^ f → 0 < f → Lib.nDigits u ≤ f := by
    intro f
    induction f with
    | zero => intro u _ h; omega
    | succ f ih =>
      intro u h _
      by_cases h10 : u < 10
      · rw [Lib.nDigits_small h10]; omega
      · rw [Lib.nDigits_big h10]
        rw [Nat.pow_succ] at h
        by_cases hf0 : f = 0
        · subst hf0; omega
        · have := ih (u / 10) (by omega) (by omega); omega
  have := key f u h hf
  omega
end Go.Proofs.YtlhhigkmcidekaaDoor.PCrc
end

section
namespace Go.Proofs.YtlhhigkmcidekaaDoor.PDecNeg
open Go.RowKit Go.Proofs.YtlhhigkmcidekaaDoorW.PrintWords Go.Proofs.YtlhhigkmcidekaaDoor.XB Go.Proofs.YtlhhigkmcidekaaDoor.EvK Go.Proofs.YtlhhigkmcidekaaDoor.PCrc
set_option linter.unusedVariables false
set_option linter.unusedSimpArgs false
theorem goN_ev (n : Int) (hn : n < 0) : ∀ (f u : Nat) (x : List Int), u < 10 ^ f → f ≤ 18 → 0 < u → x.length + f ≤ 40 → Ev (fun k => spec_l01Dec.l0 k n x (-(u : Int))) (strOfNums ((x ++ (D u).reverse ++ [45]).reverse)) := by
  have fin : ∀ x : List Int, x.length ≤ 60 → Ev (fun k => spec_l01Dec.l0 k n x 0) (strOfNums (x ++ [45]).reverse) := by
    intro x hx
    have h := back_ev (x ++ [45]) (by simp; omega) (x ++ [45]).length [] (by omega) (by simp; omega)
    refine Ev.step (fun k => spec_l01Dec.l0.eq_2 _ _ _ k) ?_
    simp only [if_true, if_pos hn, if_pos (show x.length < 140737488355328 by omega)]
    refine Ev.step (fun k => spec_l01Dec.j1.eq_2 _ k) ?_
    have hl : (x ++ [(45 : Int)]).length = x.length + 1 := by simp
    simp only [w64 (show -9223372036854775808 ≤ ((x ++ [(45 : Int)]).length : Int) - 1 by omega) (by omega)]
    rw [List.take_of_length_le (Nat.le_refl _), List.nil_append] at h
    exact h
  intro f
  induction f with
  | zero => intro u x hu _ h0 _; omega
  | succ f ih =>
    intro u x hu hf h0 hx
    have hp : (10 : Nat) ^ (f + 1) ≤ 10 ^ 18 := Nat.pow_le_pow_right (by decide) hf
    have hp2 : (10 : Nat) ^ (f + 1) = 10 ^ f * 10 := Nat.pow_succ 10 f
    obtain ⟨a, ha⟩ : ∃ a : Int, a = ((u % 10 : Nat) : Int) := ⟨_, rfl⟩
    obtain ⟨b, hb⟩ : ∃ b : Int, b = ((u / 10 : Nat) : Int) := ⟨_, rfl⟩
    have t1 : Int.tmod (-(u : Int)) 10 = -a := by rw [Int.neg_tmod, Int.tmod_eq_emod_of_nonneg (by omega)]; omega
    have t2 : Int.tdiv (-(u : Int)) 10 = -b := by rw [Int.neg_tdiv, Int.tdiv_eq_ediv_of_nonneg (by omega)]; omega
    have w0 : wrap64 (-(-a)) = a := by rw [w64 (by omega) (by omega)]; omega
    have w1 : wrap64 (48 + a) % 256 = 48 + a := by rw [w64 (by omega) (by omega)]; omega
    have w2 : wrap64 (-b) = -b := w64 (by omega) (by omega)
    have c1 : ¬ -(u : Int) = 0 := by omega
    have c3 : x.length < 140737488355328 := by omega
    have E : ∀ k, spec_l01Dec.l0 (k + 1) n x (-(u : Int)) = spec_l01Dec.l0 k n (x ++ [48 + a]) (-b) := by
      intro k
      rw [spec_l01Dec.l0.eq_2, if_neg c1, t1]
      by_cases hz : a = 0
      · have w3 : wrap64 (48 + -a) % 256 = 48 + a := by rw [w64 (by omega) (by omega)]; omega
        rw [if_neg (show ¬ -a < 0 by omega), if_pos c3, w3, t2, w2]
      · rw [if_pos (show -a < 0 by omega), if_pos c3, w0, w1, t2, w2]
    refine Ev.step E ?_
    clear E t1 t2 w0 w1 w2
    by_cases h10 : u < 10
    · have e0 : -b = 0 := by omega
      have e1 : (u : Int) = a := by omega
      have h := fin (x ++ [48 + a]) (by rw [List.length_append]; simp only [List.length_cons, List.length_nil]; omega)
      rw [e0, D_small u h10, e1, List.reverse_singleton]
      exact h
    · have h := ih (u / 10) (x ++ [48 + a]) (by omega) (by omega) (by omega) (by rw [List.length_append]; simp only [List.length_cons, List.length_nil]; omega)
      have e : x ++ (D u).reverse = x ++ [48 + a] ++ (D (u / 10)).reverse := by rw [D_big u h10, ← ha]; simp
      rw [e, hb]
      exact h
theorem neg_text (u : Nat) : strOfNums (45 :: D u) = (⟨(45 :: Lib.decDigits u).toArray⟩ : ByteArray) := by
  have h := D_text u
  unfold strOfNums at h ⊢
  simp at h ⊢
  exact h
theorem decI_ev (v : Int) (h1 : -100000000000000000 ≤ v) (h2 : v ≤ 100000000000000000) : Ev (fun k => spec_l01Dec.f k v) (⟨(Lib.itoa v).toArray⟩ : ByteArray) := by
  by_cases hv : 0 ≤ v
  · obtain ⟨u, rfl⟩ : ∃ u : Nat, v = (u : Int) := ⟨v.toNat, by omega⟩
    exact dec_ev u (by omega)
  · obtain ⟨u, hu, rfl⟩ : ∃ u : Nat, 1 ≤ u ∧ v = -(u : Int) := ⟨(-v).toNat, by omega, by omega⟩
    rw [Lib.itoa_neg u hu]
    unfold spec_l01Dec.f
    simp only [if_neg (show ¬ -(u : Int) = 0 by omega)]
    have h := goN_ev (-(u : Int)) (by omega) 18 u [] (by omega) (by omega) (by omega) (by simp)
    rw [← neg_text]
    simpa using h
theorem decI_eq (v : Int) (h1 : -100000000000000000 ≤ v) (h2 : v ≤ 100000000000000000) : impl_Decimal.f v = some (⟨(Lib.itoa v).toArray⟩ : ByteArray) := by
  unfold impl_Decimal.f strconv_FormatInt.f
  rw [if_pos ⟨rfl, by omega, by omega⟩]
  rfl
end Go.Proofs.YtlhhigkmcidekaaDoor.PDecNeg
end

section
namespace Go.Proofs.YtlhhigkmcidekaaDoor.SB
open Go.RowKit Go.Proofs.YtlhhigkmcidekaaDoorW.PrintWords Go.Proofs.YtlhhigkmcidekaaDoor.XB Go.Proofs.YtlhhigkmcidekaaDoor.EvK
set_option linter.unusedVariables false
set_option linter.unusedSimpArgs false
theorem szInt64S_val (l : List Int) (left : Int) (h0 : 0 ≤ left) (h1 : left ≤ 1048576) (hq : l.length ≤ maxLen) : ∃ t, laws_szInt64S.f l left = some t ∧ t ≤ left ∧ (0 ≤ t → l.length ≤ 1048576) := by
  unfold maxLen at hq
  unfold laws_szInt64S.f
  repeat' split
  all_goals refine ⟨_, rfl, ?_, ?_⟩
  all_goals (simp only [wrap64] at *; omega)
end Go.Proofs.YtlhhigkmcidekaaDoor.SB
end

section
namespace Go.Proofs.YtlhhigkmcidekaaDoor.SB
open Go.RowKit Go.Proofs.YtlhhigkmcidekaaDoorW.PrintWords Go.Proofs.YtlhhigkmcidekaaDoor.XB Go.Proofs.YtlhhigkmcidekaaDoor.EvK
set_option linter.unusedVariables false
set_option linter.unusedSimpArgs false
def toInt64S_el (x : Int) : Int := x
theorem toInt64S_ev (l : List Int) (hl : l.length ≤ 1048576) : Ev (fun k => laws_toInt64S.f k l) (l.map toInt64S_el) := by
  apply EvP.eq
  unfold laws_toInt64S.f
  simp only [if_pos (show (0 : Int) ≤ (l.length : Int) by omega), Int.toNat_natCast, if_pos (show l.length ≤ 35184372088832 by omega)]
  refine for_evp (L := fun k (s : List Int) i => laws_toInt64S.l0 k l s i) l.length (fun i s => s = (l.take i).map toInt64S_el ++ List.replicate (l.length - i) 0) ?_ ?_ (List.replicate l.length 0) (by simp)
  · rintro i s hi rfl K
    have e : rd l (i : Int) = l[i] := getD_at l 0 i hi
    have hlen := done_len toInt64S_el l 0 i (by omega)
    refine EvP.step (fun k => laws_toInt64S.l0.eq_2 _ _ _ k) ?_
    simp only [if_pos (show (i : Int) < (l.length : Int) by omega), if_pos (show (0 : Int) ≤ (i : Int) by omega), e, hlen, w64 (show -9223372036854775808 ≤ (i : Int) + 1 by omega) (by omega), Int.toNat_natCast]
    refine K _ ?_
    show List.set _ i (toInt64S_el l[i]) = _
    exact map_done toInt64S_el l _ i hi
  · rintro s rfl
    refine EvP.step (fun k => laws_toInt64S.l0.eq_2 _ _ _ k) ?_
    simp only [if_neg (show ¬ (l.length : Int) < (l.length : Int) by omega)]
    exact EvP.now (by simp)
end Go.Proofs.YtlhhigkmcidekaaDoor.SB
end

section
namespace Go.Proofs.YtlhhigkmcidekaaDoor.SB
open Go.RowKit Go.Proofs.YtlhhigkmcidekaaDoorW.PrintWords Go.Proofs.YtlhhigkmcidekaaDoor.XB Go.Proofs.YtlhhigkmcidekaaDoor.EvK
set_option linter.unusedVariables false
set_option linter.unusedSimpArgs false
theorem eqInt64S_ev (l : List Int) (hl : l.length ≤ 1048576) : Ev (fun k => laws_eqInt64S.f k l l) true := by
  apply EvP.eq
  unfold laws_eqInt64S.f
  simp only [if_true]
  refine for_evp (L := fun k (s : Unit) i => laws_eqInt64S.l0 k l l i) l.length (fun i s => True) ?_ ?_ () trivial
  · rintro i s hi - K
    refine EvP.step (fun k => laws_eqInt64S.l0.eq_2 _ _ _ k) ?_
    simp only [if_pos (show (i : Int) < (l.length : Int) by omega), if_pos (show (0 : Int) ≤ (i : Int) by omega), if_true, w64 (show -9223372036854775808 ≤ (i : Int) + 1 by omega) (by omega)]
    exact K () trivial
  · rintro s -
    refine EvP.step (fun k => laws_eqInt64S.l0.eq_2 _ _ _ k) ?_
    simp only [if_neg (show ¬ (l.length : Int) < (l.length : Int) by omega)]
    exact EvP.now rfl
end Go.Proofs.YtlhhigkmcidekaaDoor.SB
end

section
namespace Go.Proofs.YtlhhigkmcidekaaDoor.SB
open Go.RowKit Go.Proofs.YtlhhigkmcidekaaDoorW.PrintWords Go.Proofs.YtlhhigkmcidekaaDoor.XB Go.Proofs.YtlhhigkmcidekaaDoor.EvK
set_option linter.unusedVariables false
set_option linter.unusedSimpArgs false
theorem markInt64S_ev (l : List Int) (c : Int) (h0 : 0 ≤ c) (h1 : c + (l.length : Int) ≤ 4611686018427387904) :
    ∃ y : List Int, Ev (fun k => laws_markInt64S.f k l c) (c + (l.length : Int), y) ∧ y.length = l.length := by
  let E : Nat → Int := fun j => c + (j : Int)
  have hset : ∀ (i : Nat) (h : i < l.length), ((List.range i).map E ++ l.drop i).set i (E i) = (List.range (i + 1)).map E ++ l.drop (i + 1) := fun i h => set_done E l i h
  have hlen : ∀ (i : Nat), i ≤ l.length → ((List.range i).map E ++ l.drop i).length = l.length := by intro i h; simp; omega
  refine ⟨(List.range l.length).map E, EvP.eq ?_, by simp⟩
  · unfold laws_markInt64S.f
    refine for_evp (L := fun k (s : List Int × Int) i => laws_markInt64S.l0 k s.1 s.2 i) l.length (fun i s => s = ((List.range i).map E ++ l.drop i, c + (i : Int))) ?_ ?_ (l, c) (by simp)
    · rintro i s hi rfl K
      refine EvP.step (fun k => laws_markInt64S.l0.eq_2 _ _ _ k) ?_
      simp only [hlen i (by omega), if_pos (show (i : Int) < (l.length : Int) by omega), if_pos (show (0 : Int) ≤ (i : Int) by omega), Option.bind_some, w64 (show -9223372036854775808 ≤ (i : Int) + 1 by omega) (by omega), w64 (show -9223372036854775808 ≤ c + (i : Int) + 1 by omega) (by omega), Int.toNat_natCast]
      refine K (_, _) ?_
      rw [← hset i hi, Prod.mk.injEq]
      refine ⟨?_, by push_cast; omega⟩
      have g1 := hlen i (by omega)
      generalize (List.range i).map E ++ l.drop i = L at g1
      have g2 : i < L.length := by omega
      first | rfl | (simp [E, getD_set_self, g2])
    · rintro s rfl
      refine EvP.step (fun k => laws_markInt64S.l0.eq_2 _ _ _ k) ?_
      simp only [hlen l.length (Nat.le_refl _), if_neg (show ¬ (l.length : Int) < (l.length : Int) by omega)]
      exact EvP.now (by simp)
end Go.Proofs.YtlhhigkmcidekaaDoor.SB
end
