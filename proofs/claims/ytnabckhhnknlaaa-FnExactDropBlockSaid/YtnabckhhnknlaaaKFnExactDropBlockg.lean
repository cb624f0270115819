/- The law FnExactDropBlock: part 6 of its texts, joined (wip/pack.py). -/
import Derived.Test.YtnabckhhnknlaaaKFnExactDropBlocka
import Derived.Test.YtnabckhhnknlaaaKFnExactDropBlockb
import Derived.Test.YtnabckhhnknlaaaKFnExactDropBlockc
import Derived.Test.YtnabckhhnknlaaaKFnExactDropBlockd
import Derived.Test.YtnabckhhnknlaaaKFnExactDropBlocke
import Derived.Test.YtnabckhhnknlaaaKFnExactDropBlockf
import Derived.Deep.Slices
import Derived.SizedLaws
import Derived.ChangeArms
import Derived.WideShapes
import Derived.KernelRfl
import Derived.Lib.Strings
import Derived.Lib.IndexLaws
import Derived.Lib.IndexBytes
import Derived.Lib.IndexMore

section
namespace Go.Proofs.Ytnabckhhnknlaaa.XD
open Go.RowKit Go.Proofs.YtnabckhhnknlaaaW.PrintWords Go.Proofs.YtnabckhhnknlaaaW.PrintLast Go.Proofs.YtnabckhhnknlaaaW.PrintMore
attribute [local go_sem] run_eql_slice_nil binOp_string_gtr' binOp_string_leq' binOp_string_geq' max2_int min2_int max_two min_two max_three min_three max_four min_four   -- for this text's walks alone
set_option linter.unusedVariables false
set_option linter.unusedSimpArgs false
mutual
def laws_FnExactDropBlock.j0 : Nat → List (S42) → ByteArray → ByteArray → List (S45) → Int → List (S45) → List (S45) → Int → Bool → Option (Bool)
  | 0, _, _, _, _, _, _, _, _, _ => none
  | k + 1, x0, x1, x2, x8, x9, x10, x11, x12, x54 => if x54 = true then (some false) else ((laws_toBlockS.f k x0).bind fun t223 => ((laws_eqBlockS.f k x10 t223).bind fun t226 => (if t226 = true then ((laws_markBlockS.f k x10 1).bind fun bt227 => (if bt227.1 < 0 then (laws_FnExactDropBlock.j1 k x0 x1 x2 x8 x9 x11 true) else ((laws_eqBlockS.f k x11 x8).bind fun t229 => (if t229 = true then (laws_FnExactDropBlock.j1 k x0 x1 x2 x8 x9 x11 (x12 != x9)) else (laws_FnExactDropBlock.j1 k x0 x1 x2 x8 x9 x11 true))))) else (some false))))
def laws_FnExactDropBlock.j1 : Nat → List (S42) → ByteArray → ByteArray → List (S45) → Int → List (S45) → Bool → Option (Bool)
  | 0, _, _, _, _, _, _, _ => none
  | k + 1, x0, x1, x2, x8, x9, x11, x75 => if x75 = true then (some false) else ((laws_markBlockS.f k x11 1).bind fun bt230 => ((laws_heldBlockS.f k bt230.2 1).bind fun t232 => (if t232 < 0 then (some false) else (if t232 = bt230.1 then ((laws_toBlockS.f k x0).bind fun t233 => ((impl_DropBlock.f k t233 x1 x2).bind fun bt236 => ((laws_eqBlockS.f k bt236.1 x8).bind fun t240 => (if t240 = true then (laws_FnExactDropBlock.j2 k bt230.2 bt230.1 (bt236.2 != x9)) else (laws_FnExactDropBlock.j2 k bt230.2 bt230.1 true))))) else (some false)))))
def laws_FnExactDropBlock.j2 : Nat → List (S45) → Int → Bool → Option (Bool)
  | 0, _, _, _ => none
  | k + 1, x11, x14, x103 => if x103 = true then (some false) else ((laws_heldBlockS.f k x11 1).bind fun t241 => (if t241 < 0 then (some false) else (if t241 = x14 then (some true) else (some false))))
end
def laws_FnExactDropBlock.f (k : Nat) (l0 : List (S42)) (a1 : ByteArray) (a2 : ByteArray) : Option (Bool) := if (a1.size : Int) > 1048576 then (some true) else (if (a2.size : Int) > 1048576 then (some true) else ((laws_szBlockS.f k l0 1048576).bind fun t207 => (if t207 < 0 then (some true) else ((laws_toBlockS.f k l0).bind fun t208 => ((spec_DropBlock.f k t208 a1 a2).bind fun bt211 => ((laws_toBlockS.f k l0).bind fun t215 => ((impl_DropBlock.f k t215 a1 a2).bind fun bt218 => ((laws_eqBlockS.f k bt218.1 bt211.1).bind fun t222 => (if t222 = true then (laws_FnExactDropBlock.j0 k l0 a1 a2 bt211.1 bt211.2 t215 bt218.1 bt218.2 (bt218.2 != bt211.2)) else (laws_FnExactDropBlock.j0 k l0 a1 a2 bt211.1 bt211.2 t215 bt218.1 bt218.2 true))))))))))
set_option maxHeartbeats 8000000 in
set_option maxRecDepth 100000 in
theorem laws_FnExactDropBlock.calls (k : Nat) (A0 : Option Addr) (c0 : Nat) (l0 : List (S42)) (a1 : ByteArray) (a2 : ByteArray) (r : Bool) (w : World) (hr0 : Kd.C k42 w A0 l0.length l0) (hc0 : l0.length ≤ c0) (hSH : World.ShapedOpen Try.prog w) (h : laws_FnExactDropBlock.f k l0 a1 a2 = some r) :
    Calls Try.prog 6 #[.slice A0 l0.length c0, .string a1, .string a2] w fun e w' => e = .returned (.bool r) ∧ Below w.heap.size w w' := by
  have HR0 := Aside0.mk hr0
  have HC0 := Aside0.mk hc0
  clear hr0 hc0
  have HB := Aside0.mk (Below.refl w.heap.size w)
  have HSH := Aside0.mk hSH
  clear hSH
  have H : (if (a1.size : Int) > 1048576 then (some true) else (if (a2.size : Int) > 1048576 then (some true) else ((laws_szBlockS.f k l0 1048576).bind fun t207 => (if t207 < 0 then (some true) else ((laws_toBlockS.f k l0).bind fun t208 => ((spec_DropBlock.f k t208 a1 a2).bind fun bt211 => ((laws_toBlockS.f k l0).bind fun t215 => ((impl_DropBlock.f k t215 a1 a2).bind fun bt218 => ((laws_eqBlockS.f k bt218.1 bt211.1).bind fun t222 => (if t222 = true then (laws_FnExactDropBlock.j0 k l0 a1 a2 bt211.1 bt211.2 t215 bt218.1 bt218.2 (bt218.2 != bt211.2)) else (laws_FnExactDropBlock.j0 k l0 a1 a2 bt211.1 bt211.2 t215 bt218.1 bt218.2 true))))))))))) = some r := h
  clear h
  by_cases c4 : (a1.size : Int) > 1048576
  · rw [if_pos c4] at H
    have c4b0 : decide (1048576 < (a1.size : Int)) = true := decide_eq_true c4
    have c4b1 : decide (1048576 < a1.size) = true := decide_eq_true (by omega)
    clear c4
    obtain rfl := Option.some.inj H
    go_enter Try.func6, Try.ntmps6
    go_wp2
    go_ret
    exact ⟨by first | rfl | (simp [errW_none, errW_some] <;> rfl) | (simp [*, errW_none, errW_some] <;> rfl), by repeat (first | (with_reducible first | exact HB.out | apply below_alloc | apply pw_below_drewN | apply below_drew1) | exact HB.out)⟩
  · rw [if_neg c4] at H
    have c4b0 : decide (1048576 < (a1.size : Int)) = false := decide_eq_false c4
    have c4b1 : decide (1048576 < a1.size) = false := decide_eq_false (by omega)
    clear c4
    by_cases c5 : (a2.size : Int) > 1048576
    · rw [if_pos c5] at H
      have c5b0 : decide (1048576 < (a2.size : Int)) = true := decide_eq_true c5
      have c5b1 : decide (1048576 < a2.size) = true := decide_eq_true (by omega)
      clear c5
      obtain rfl := Option.some.inj H
      go_enter Try.func6, Try.ntmps6
      go_wp2
      go_ret
      exact ⟨by first | rfl | (simp [errW_none, errW_some] <;> rfl) | (simp [*, errW_none, errW_some] <;> rfl), by repeat (first | (with_reducible first | exact HB.out | apply below_alloc | apply pw_below_drewN | apply below_drew1) | exact HB.out)⟩
    · rw [if_neg c5] at H
      have c5b0 : decide (1048576 < (a2.size : Int)) = false := decide_eq_false c5
      have c5b1 : decide (1048576 < a2.size) = false := decide_eq_false (by omega)
      clear c5
      replace H := Option.bind_eq_some_iff.mp H
      obtain ⟨t207, A60, H⟩ := H
      replace H : (if t207 < 0 then (some true) else ((laws_toBlockS.f k l0).bind fun t208 => ((spec_DropBlock.f k t208 a1 a2).bind fun bt211 => ((laws_toBlockS.f k l0).bind fun t215 => ((impl_DropBlock.f k t215 a1 a2).bind fun bt218 => ((laws_eqBlockS.f k bt218.1 bt211.1).bind fun t222 => (if t222 = true then (laws_FnExactDropBlock.j0 k l0 a1 a2 bt211.1 bt211.2 t215 bt218.1 bt218.2 (bt218.2 != bt211.2)) else (laws_FnExactDropBlock.j0 k l0 a1 a2 bt211.1 bt211.2 t215 bt218.1 bt218.2 true)))))))) = some r := H
      have A6 := Aside0.mk A60
      clear A60
      by_cases c7 : t207 < 0
      · rw [if_pos c7] at H
        have c7b0 : decide (t207 < 0) = true := decide_eq_true c7
        clear c7
        obtain rfl := Option.some.inj H
        go_enter Try.func6, Try.ntmps6
        go_wp2_with (first | ((with_reducible refine gate_callee (f := 10) rfl ?_); refine goesL_ (some 26) rfl rfl Try.func10 (by kernel_rfl) rfl #[.slice A0 l0.length c0, .int .i64 1048576] rfl (by (try simp only [List.map_toArray, List.map_cons, List.map_nil]); first | done | rfl | (simp only [List.length_drop, List.length_take]; rfl)) ?_; (with_reducible refine (laws_szBlockS.calls k _ _ l0 1048576 t207 _ ?side1 ?side2 A6.out).mono ?_); (case side1 => repeat (first | exact HR0.out | (with_reducible refine Kd.C_alloc ?_ _) | (with_reducible refine Kd.C_drewN ?_ _) | (with_reducible refine Kd.C_drew ?_))); (case side2 => exact HC0.out); rintro e w8 ⟨rfl, hb⟩; refine ⟨_, rfl, ?_⟩; have n0_ := Aside0.mk (below_step (by repeat (first | (with_reducible first | exact HB.out | apply below_alloc | apply pw_below_drewN | apply below_drew1) | exact HB.out)) hb); clear HB; have HB := n0_; clear n0_; (try clear hb); (try clear hb2); (try clear hk); (try clear hi)))
        go_ret
        exact ⟨by first | rfl | (simp [errW_none, errW_some] <;> rfl) | (simp [*, errW_none, errW_some] <;> rfl), by repeat (first | (with_reducible first | exact HB.out | apply below_alloc | apply pw_below_drewN | apply below_drew1) | exact HB.out)⟩
      · rw [if_neg c7] at H
        have c7b0 : decide (t207 < 0) = false := decide_eq_false c7
        clear c7
        replace H := Option.bind_eq_some_iff.mp H
        obtain ⟨t208, A90, H⟩ := H
        replace H : ((spec_DropBlock.f k t208 a1 a2).bind fun bt211 => ((laws_toBlockS.f k l0).bind fun t215 => ((impl_DropBlock.f k t215 a1 a2).bind fun bt218 => ((laws_eqBlockS.f k bt218.1 bt211.1).bind fun t222 => (if t222 = true then (laws_FnExactDropBlock.j0 k l0 a1 a2 bt211.1 bt211.2 t215 bt218.1 bt218.2 (bt218.2 != bt211.2)) else (laws_FnExactDropBlock.j0 k l0 a1 a2 bt211.1 bt211.2 t215 bt218.1 bt218.2 true)))))) = some r := H
        have A9 := Aside0.mk A90
        clear A90
        replace H := Option.bind_eq_some_iff.mp H
        obtain ⟨⟨t211, t212⟩, A100, H⟩ := H
        replace H : ((laws_toBlockS.f k l0).bind fun t215 => ((impl_DropBlock.f k t215 a1 a2).bind fun bt218 => ((laws_eqBlockS.f k bt218.1 t211).bind fun t222 => (if t222 = true then (laws_FnExactDropBlock.j0 k l0 a1 a2 t211 t212 t215 bt218.1 bt218.2 (bt218.2 != t212)) else (laws_FnExactDropBlock.j0 k l0 a1 a2 t211 t212 t215 bt218.1 bt218.2 true))))) = some r := H
        have A10 := Aside0.mk A100
        clear A100
        replace H := Option.bind_eq_some_iff.mp H
        obtain ⟨t215, A110, H⟩ := H
        replace H : ((impl_DropBlock.f k t215 a1 a2).bind fun bt218 => ((laws_eqBlockS.f k bt218.1 t211).bind fun t222 => (if t222 = true then (laws_FnExactDropBlock.j0 k l0 a1 a2 t211 t212 t215 bt218.1 bt218.2 (bt218.2 != t212)) else (laws_FnExactDropBlock.j0 k l0 a1 a2 t211 t212 t215 bt218.1 bt218.2 true)))) = some r := H
        have A11 := Aside0.mk A110
        clear A110
        replace H := Option.bind_eq_some_iff.mp H
        obtain ⟨⟨t218, t219⟩, A120, H⟩ := H
        replace H : ((laws_eqBlockS.f k t218 t211).bind fun t222 => (if t222 = true then (laws_FnExactDropBlock.j0 k l0 a1 a2 t211 t212 t215 t218 t219 (t219 != t212)) else (laws_FnExactDropBlock.j0 k l0 a1 a2 t211 t212 t215 t218 t219 true))) = some r := H
        have A12 := Aside0.mk A120
        clear A120
        have HC13 := Aside0.mk H
        clear H
        go_enter Try.func6, Try.ntmps6
        go_upto_region 12 with (first | ((with_reducible refine gate_callee (f := 10) rfl ?_); refine goesL_ (some 26) rfl rfl Try.func10 (by kernel_rfl) rfl #[.slice A0 l0.length c0, .int .i64 1048576] rfl (by (try simp only [List.map_toArray, List.map_cons, List.map_nil]); first | done | rfl | (simp only [List.length_drop, List.length_take]; rfl)) ?_; (with_reducible refine (laws_szBlockS.calls k _ _ l0 1048576 t207 _ ?side1 ?side2 A6.out).mono ?_); (case side1 => repeat (first | exact HR0.out | (with_reducible refine Kd.C_alloc ?_ _) | (with_reducible refine Kd.C_drewN ?_ _) | (with_reducible refine Kd.C_drew ?_))); (case side2 => exact HC0.out); rintro e w14 ⟨rfl, hb⟩; refine ⟨_, rfl, ?_⟩; have n0_ := Aside0.mk (below_step (by repeat (first | (with_reducible first | exact HB.out | apply below_alloc | apply pw_below_drewN | apply below_drew1) | exact HB.out)) hb); clear HB; have HB := n0_; clear n0_; (try clear hb); (try clear hb2); (try clear hk); (try clear hi)) | ((with_reducible refine gate_callee (f := 12) rfl ?_); refine goesL_ (some 31) rfl rfl Try.func12 (by kernel_rfl) rfl #[.slice A0 l0.length c0] rfl (by (try simp only [List.map_toArray, List.map_cons, List.map_nil]); first | done | rfl | (simp only [List.length_drop, List.length_take]; rfl)) ?_; (with_reducible refine (laws_toBlockS.calls k _ _ l0 t208 _ ?side1 ?side2 A9.out).mono ?_); (case side1 => repeat (first | exact (Kd.C_below HR0.out HB.out) | (with_reducible refine Kd.C_alloc ?_ _) | (with_reducible refine Kd.C_drewN ?_ _) | (with_reducible refine Kd.C_drew ?_))); (case side2 => exact HC0.out); rintro e w15 ⟨v209, rfl, ho0, hb⟩; refine ⟨_, rfl, ?_⟩; have n0_ := Aside0.mk (Kd.R_lower ho0 (below_size (by repeat (first | (with_reducible first | exact HB.out | apply below_alloc | apply pw_below_drewN | apply below_drew1) | exact HB.out)))); have n1_ := Aside0.mk (below_step (by repeat (first | (with_reducible first | exact HB.out | apply below_alloc | apply pw_below_drewN | apply below_drew1) | exact HB.out)) hb); clear HB; have HO210 := n0_; have HB := n1_; clear n0_ n1_; (try clear hb); (try clear hb2); (try clear hk); (try clear hi); (try clear ho0); obtain ⟨Ao16, co16, eo16⟩ := Kd.R_slice HO210.out; subst eo16) | ((with_reducible refine gate_callee (f := 23) rfl ?_); refine goesL_ (some 34) rfl rfl Try.func23 (by kernel_rfl) rfl #[.slice Ao16 t208.length co16, .string a1, .string a2] rfl (by (try simp only [List.map_toArray, List.map_cons, List.map_nil]); first | done | rfl | (simp only [List.length_drop, List.length_take]; rfl)) ?_; (with_reducible refine (spec_DropBlock.calls k _ _ t208 a1 a2 t211 t212 _ ?side1 ?side2 A10.out).mono ?_); (case side1 => repeat (first | exact (Kd.R_reads' HO210.out).2.2 | (with_reducible refine Kd.C_alloc ?_ _) | (with_reducible refine Kd.C_drewN ?_ _) | (with_reducible refine Kd.C_drew ?_))); (case side2 => exact (Kd.R_reads' HO210.out).2.1); rintro e w17 ⟨v213, rfl, ho0, hb⟩; refine ⟨_, rfl, ?_⟩; have n0_ := Aside0.mk (Kd.R_elder' (by (with_reducible repeat (first | apply Kd.R_alloc | apply Kd.R_drewN | apply Kd.R_drew)); exact HO210.out) (Kd.R_base ho0) hb); have n1_ := Aside0.mk (Kd.R_lower (Kd.R_new' ho0 (Kd.R_lt (by (with_reducible repeat (first | apply Kd.R_alloc | apply Kd.R_drewN | apply Kd.R_drew)); exact HO210.out))) (below_size (by repeat (first | (with_reducible first | exact HB.out | apply below_alloc | apply pw_below_drewN | apply below_drew1) | exact HB.out)))); have n2_ := Aside0.mk (below_step (by repeat (first | (with_reducible first | exact HB.out | apply below_alloc | apply pw_below_drewN | apply below_drew1) | exact HB.out)) hb); clear HO210; clear HB; have HO210 := n0_; have HO214 := n1_; have HB := n2_; clear n0_ n1_ n2_; (try clear hb); (try clear hb2); (try clear hk); (try clear hi); (try clear ho0)) | ((with_reducible refine gate_callee (f := 12) rfl ?_); refine goesL_ (some 38) rfl rfl Try.func12 (by kernel_rfl) rfl #[.slice A0 l0.length c0] rfl (by (try simp only [List.map_toArray, List.map_cons, List.map_nil]); first | done | rfl | (simp only [List.length_drop, List.length_take]; rfl)) ?_; (with_reducible refine (laws_toBlockS.calls k _ _ l0 t215 _ ?side1 ?side2 A11.out).mono ?_); (case side1 => repeat (first | exact (Kd.C_below HR0.out HB.out) | (with_reducible refine Kd.C_alloc ?_ _) | (with_reducible refine Kd.C_drewN ?_ _) | (with_reducible refine Kd.C_drew ?_))); (case side2 => exact HC0.out); rintro e w18 ⟨v216, rfl, ho0, hb⟩; refine ⟨_, rfl, ?_⟩; have n0_ := Aside0.mk (Kd.R_elder' (by (with_reducible repeat (first | apply Kd.R_alloc | apply Kd.R_drewN | apply Kd.R_drew)); exact HO210.out) (Kd.R_base ho0) hb); have n1_ := Aside0.mk (Kd.R_elder' (by (with_reducible repeat (first | apply Kd.R_alloc | apply Kd.R_drewN | apply Kd.R_drew)); exact HO214.out) (Kd.R_base ho0) hb); have n2_ := Aside0.mk (Kd.R_lower (Kd.R_new' (Kd.R_new' ho0 (Kd.R_lt (by (with_reducible repeat (first | apply Kd.R_alloc | apply Kd.R_drewN | apply Kd.R_drew)); exact HO210.out))) (Kd.R_lt (by (with_reducible repeat (first | apply Kd.R_alloc | apply Kd.R_drewN | apply Kd.R_drew)); exact HO214.out))) (below_size (by repeat (first | (with_reducible first | exact HB.out | apply below_alloc | apply pw_below_drewN | apply below_drew1) | exact HB.out)))); have n3_ := Aside0.mk (below_step (by repeat (first | (with_reducible first | exact HB.out | apply below_alloc | apply pw_below_drewN | apply below_drew1) | exact HB.out)) hb); clear HO210; clear HO214; clear HB; have HO210 := n0_; have HO214 := n1_; have HO217 := n2_; have HB := n3_; clear n0_ n1_ n2_ n3_; (try clear hb); (try clear hb2); (try clear hk); (try clear hi); (try clear ho0); obtain ⟨Ao19, co19, eo19⟩ := Kd.R_slice HO217.out; subst eo19) | ((with_reducible refine gate_callee (f := 24) rfl ?_); refine goesL_ (some 43) rfl rfl Try.func24 (by kernel_rfl) rfl #[.slice Ao19 t215.length co19, .string a1, .string a2] rfl (by (try simp only [List.map_toArray, List.map_cons, List.map_nil]); first | done | rfl | (simp only [List.length_drop, List.length_take]; rfl)) ?_; (with_reducible refine (impl_DropBlock.calls k _ _ t215 a1 a2 t218 t219 _ ?side1 ?side2 ?side3 A12.out).mono ?_); (case side1 => repeat (first | exact (Kd.R_reads' HO217.out).2.2 | (with_reducible refine Kd.C_alloc ?_ _) | (with_reducible refine Kd.C_drewN ?_ _) | (with_reducible refine Kd.C_drew ?_))); (case side2 => exact (Kd.R_reads' HO217.out).2.1); (case side3 => exact HSH.out.keptBut ((show Below w.heap.size w _ from by repeat (first | (with_reducible first | exact HB.out | apply below_alloc | apply pw_below_drewN | apply below_drew1) | exact HB.out)).frame (fun _ => False)) (fun _ h_ => h_.elim)); rintro e w20 ⟨v220, rfl, ho0, hb⟩; refine ⟨_, rfl, ?_⟩; have n0_ := Aside0.mk (Kd.R_elder' (by (with_reducible repeat (first | apply Kd.R_alloc | apply Kd.R_drewN | apply Kd.R_drew)); exact HO210.out) (Kd.R_base ho0) hb); have n1_ := Aside0.mk (Kd.R_elder' (by (with_reducible repeat (first | apply Kd.R_alloc | apply Kd.R_drewN | apply Kd.R_drew)); exact HO214.out) (Kd.R_base ho0) hb); have n2_ := Aside0.mk (Kd.R_elder' (by (with_reducible repeat (first | apply Kd.R_alloc | apply Kd.R_drewN | apply Kd.R_drew)); exact HO217.out) (Kd.R_base ho0) hb); have n3_ := Aside0.mk (Kd.R_lower (Kd.R_new' (Kd.R_new' (Kd.R_new' ho0 (Kd.R_lt (by (with_reducible repeat (first | apply Kd.R_alloc | apply Kd.R_drewN | apply Kd.R_drew)); exact HO210.out))) (Kd.R_lt (by (with_reducible repeat (first | apply Kd.R_alloc | apply Kd.R_drewN | apply Kd.R_drew)); exact HO214.out))) (Kd.R_lt (by (with_reducible repeat (first | apply Kd.R_alloc | apply Kd.R_drewN | apply Kd.R_drew)); exact HO217.out))) (below_size (by repeat (first | (with_reducible first | exact HB.out | apply below_alloc | apply pw_below_drewN | apply below_drew1) | exact HB.out)))); have n4_ := Aside0.mk (below_step (by repeat (first | (with_reducible first | exact HB.out | apply below_alloc | apply pw_below_drewN | apply below_drew1) | exact HB.out)) hb); clear HO210; clear HO214; clear HO217; clear HB; have HO210 := n0_; have HO214 := n1_; have HO217 := n2_; have HO221 := n3_; have HB := n4_; clear n0_ n1_ n2_ n3_ n4_; (try clear hb); (try clear hb2); (try clear hk); (try clear hi); (try clear ho0)))
        (try simp only [Act.put, List.setIfInBounds_toArray, List.set_cons_zero, List.set_cons_succ])
        go_cut [54] (fun v54 wc => ∃ (kq : Nat) (x54_12 : Bool), v54 = .bool x54_12 ∧ Aside0 (laws_FnExactDropBlock.j0 kq l0 a1 a2 t211 t212 t215 t218 t219 x54_12 = some r) ∧ Aside0 (kq ≤ k) ∧ Aside0 (Kd.R k45 45 wc w.heap.size (fun k_ => some k_ ≠ ((.slice Ao19 t215.length co19) : Value).ownBlock ∧ some k_ ≠ (v220 : Value).ownBlock) v213 t211) ∧ Aside0 (Kd.R k45 45 wc w.heap.size (fun k_ => some k_ ≠ (v213 : Value).ownBlock ∧ some k_ ≠ (v220 : Value).ownBlock) (.slice Ao19 t215.length co19) t215) ∧ Aside0 (Kd.R k45 45 wc w.heap.size (fun k_ => some k_ ≠ (v213 : Value).ownBlock ∧ some k_ ≠ ((.slice Ao19 t215.length co19) : Value).ownBlock) v220 t218) ∧ Aside0 (Below w.heap.size w wc))
        case first =>
          have H := HC13.out
          clear HC13
          replace H := Option.bind_eq_some_iff.mp H
          obtain ⟨t222, A210, H⟩ := H
          replace H : (if t222 = true then (laws_FnExactDropBlock.j0 k l0 a1 a2 t211 t212 t215 t218 t219 (t219 != t212)) else (laws_FnExactDropBlock.j0 k l0 a1 a2 t211 t212 t215 t218 t219 true)) = some r := H
          have A21 := Aside0.mk A210
          clear A210
          by_cases c22 : t222 = true
          · subst c22
            have H1 : (laws_FnExactDropBlock.j0 k l0 a1 a2 t211 t212 t215 t218 t219 (t219 != t212)) = some r := by rw [if_pos rfl] at H; exact H
            clear H
            have H := H1
            clear H1
            have H' := Aside0.mk H
            clear H
            obtain ⟨Ao23, co23, eo23⟩ := Kd.R_slice HO221.out
            subst eo23
            obtain ⟨Ao24, co24, eo24⟩ := Kd.R_slice HO214.out
            subst eo24
            go_wp2_with (first | ((with_reducible refine gate_callee (f := 14) rfl ?_); refine goesL_ (some 48) rfl rfl Try.func14 (by kernel_rfl) rfl #[.slice Ao23 t218.length co23, .slice Ao24 t211.length co24] rfl (by (try simp only [List.map_toArray, List.map_cons, List.map_nil]); first | done | rfl | (simp only [List.length_drop, List.length_take]; rfl)) ?_; (with_reducible refine (laws_eqBlockS.calls k _ _ t218 _ _ t211 true _ ?side1 ?side2 ?side3 ?side4 A21.out).mono ?_); (case side1 => repeat (first | exact (Kd.R_reads' HO221.out).2.2 | (with_reducible refine Kd.C_alloc ?_ _) | (with_reducible refine Kd.C_drewN ?_ _) | (with_reducible refine Kd.C_drew ?_))); (case side2 => exact (Kd.R_reads' HO221.out).2.1); (case side3 => repeat (first | exact (Kd.R_reads' HO214.out).2.2 | (with_reducible refine Kd.C_alloc ?_ _) | (with_reducible refine Kd.C_drewN ?_ _) | (with_reducible refine Kd.C_drew ?_))); (case side4 => exact (Kd.R_reads' HO214.out).2.1); rintro e w25 ⟨rfl, hb⟩; refine ⟨_, rfl, ?_⟩; have n0_ := Aside0.mk (Kd.R_below (by (with_reducible repeat (first | apply Kd.R_alloc | apply Kd.R_drewN | apply Kd.R_drew)); exact HO210.out) hb); have n1_ := Aside0.mk (Kd.R_below (by (with_reducible repeat (first | apply Kd.R_alloc | apply Kd.R_drewN | apply Kd.R_drew)); exact HO214.out) hb); have n2_ := Aside0.mk (Kd.R_below (by (with_reducible repeat (first | apply Kd.R_alloc | apply Kd.R_drewN | apply Kd.R_drew)); exact HO217.out) hb); have n3_ := Aside0.mk (Kd.R_below (by (with_reducible repeat (first | apply Kd.R_alloc | apply Kd.R_drewN | apply Kd.R_drew)); exact HO221.out) hb); have n4_ := Aside0.mk (below_step (by repeat (first | (with_reducible first | exact HB.out | apply below_alloc | apply pw_below_drewN | apply below_drew1) | exact HB.out)) hb); clear HO210; clear HO214; clear HO217; clear HO221; clear HB; have HO210 := n0_; have HO214 := n1_; have HO217 := n2_; have HO221 := n3_; have HB := n4_; clear n0_ n1_ n2_ n3_ n4_; (try clear hb); (try clear hb2); (try clear hk); (try clear hi)))
            go_meet
            case rel => exact ⟨_, ((t219 != t212)), (by first | rfl | (simp; done) | (simp [*]; done)), H', ⟨by first | omega | exact Nat.le_refl _⟩, ⟨by (with_reducible repeat (first | apply Kd.R_alloc | apply Kd.R_drewN | apply Kd.R_drew)); exact Kd.R_mono HO214.out (fun _ hk => ⟨hk.1.2, hk.2⟩)⟩, ⟨by (with_reducible repeat (first | apply Kd.R_alloc | apply Kd.R_drewN | apply Kd.R_drew)); exact Kd.R_mono HO217.out (fun _ hk => ⟨hk.1.2, hk.2⟩)⟩, ⟨by (with_reducible repeat (first | apply Kd.R_alloc | apply Kd.R_drewN | apply Kd.R_drew)); exact Kd.R_mono HO221.out (fun _ hk => ⟨hk.1.2, hk.2⟩)⟩, ⟨by repeat (first | (with_reducible first | exact HB.out | apply below_alloc | apply pw_below_drewN | apply below_drew1) | exact HB.out)⟩⟩
          · replace c22 := Bool.eq_false_iff.mpr c22
            subst c22
            have H1 : (laws_FnExactDropBlock.j0 k l0 a1 a2 t211 t212 t215 t218 t219 true) = some r := by rw [if_neg (show ¬ (false = true) by decide)] at H; exact H
            clear H
            have H := H1
            clear H1
            have H' := Aside0.mk H
            clear H
            obtain ⟨Ao26, co26, eo26⟩ := Kd.R_slice HO221.out
            subst eo26
            obtain ⟨Ao27, co27, eo27⟩ := Kd.R_slice HO214.out
            subst eo27
            go_wp2_with (first | ((with_reducible refine gate_callee (f := 14) rfl ?_); refine goesL_ (some 48) rfl rfl Try.func14 (by kernel_rfl) rfl #[.slice Ao26 t218.length co26, .slice Ao27 t211.length co27] rfl (by (try simp only [List.map_toArray, List.map_cons, List.map_nil]); first | done | rfl | (simp only [List.length_drop, List.length_take]; rfl)) ?_; (with_reducible refine (laws_eqBlockS.calls k _ _ t218 _ _ t211 false _ ?side1 ?side2 ?side3 ?side4 A21.out).mono ?_); (case side1 => repeat (first | exact (Kd.R_reads' HO221.out).2.2 | (with_reducible refine Kd.C_alloc ?_ _) | (with_reducible refine Kd.C_drewN ?_ _) | (with_reducible refine Kd.C_drew ?_))); (case side2 => exact (Kd.R_reads' HO221.out).2.1); (case side3 => repeat (first | exact (Kd.R_reads' HO214.out).2.2 | (with_reducible refine Kd.C_alloc ?_ _) | (with_reducible refine Kd.C_drewN ?_ _) | (with_reducible refine Kd.C_drew ?_))); (case side4 => exact (Kd.R_reads' HO214.out).2.1); rintro e w28 ⟨rfl, hb⟩; refine ⟨_, rfl, ?_⟩; have n0_ := Aside0.mk (Kd.R_below (by (with_reducible repeat (first | apply Kd.R_alloc | apply Kd.R_drewN | apply Kd.R_drew)); exact HO210.out) hb); have n1_ := Aside0.mk (Kd.R_below (by (with_reducible repeat (first | apply Kd.R_alloc | apply Kd.R_drewN | apply Kd.R_drew)); exact HO214.out) hb); have n2_ := Aside0.mk (Kd.R_below (by (with_reducible repeat (first | apply Kd.R_alloc | apply Kd.R_drewN | apply Kd.R_drew)); exact HO217.out) hb); have n3_ := Aside0.mk (Kd.R_below (by (with_reducible repeat (first | apply Kd.R_alloc | apply Kd.R_drewN | apply Kd.R_drew)); exact HO221.out) hb); have n4_ := Aside0.mk (below_step (by repeat (first | (with_reducible first | exact HB.out | apply below_alloc | apply pw_below_drewN | apply below_drew1) | exact HB.out)) hb); clear HO210; clear HO214; clear HO217; clear HO221; clear HB; have HO210 := n0_; have HO214 := n1_; have HO217 := n2_; have HO221 := n3_; have HB := n4_; clear n0_ n1_ n2_ n3_ n4_; (try clear hb); (try clear hb2); (try clear hk); (try clear hi)))
            go_meet
            case rel => exact ⟨_, (true), (by first | rfl | (simp; done) | (simp [*]; done)), H', ⟨by first | omega | exact Nat.le_refl _⟩, ⟨by (with_reducible repeat (first | apply Kd.R_alloc | apply Kd.R_drewN | apply Kd.R_drew)); exact Kd.R_mono HO214.out (fun _ hk => ⟨hk.1.2, hk.2⟩)⟩, ⟨by (with_reducible repeat (first | apply Kd.R_alloc | apply Kd.R_drewN | apply Kd.R_drew)); exact Kd.R_mono HO217.out (fun _ hk => ⟨hk.1.2, hk.2⟩)⟩, ⟨by (with_reducible repeat (first | apply Kd.R_alloc | apply Kd.R_drewN | apply Kd.R_drew)); exact Kd.R_mono HO221.out (fun _ hk => ⟨hk.1.2, hk.2⟩)⟩, ⟨by repeat (first | (with_reducible first | exact HB.out | apply below_alloc | apply pw_below_drewN | apply below_drew1) | exact HB.out)⟩⟩
        case rest =>
          clear HC13
          try clear c1
          try clear c2
          try clear p2
          try clear c4
          try clear c4b0
          try clear c4b1
          try clear c5
          try clear c5b0
          try clear c5b1
          try clear c6
          try clear c7
          try clear c7b0
          try clear c10
          try clear c12
          try clear c14
          try clear c22
          try clear c23
          try clear c24
          obtain ⟨kq, x54_12, rfl, HA, HJ12, HO_8, HO_10, HO_11, HB⟩ := hcut
          cases kq with
          | zero => exact absurd HA.out (by simp [laws_FnExactDropBlock.j0])
          | succ kj12 =>
            have H := HA.out
            clear HA
            simp only [laws_FnExactDropBlock.j0] at H
            by_cases c29 : x54_12 = true
            · subst c29
              have H1 : (some false) = some r := by rw [if_pos rfl] at H; exact H
              clear H
              have H := H1
              clear H1
              obtain rfl := Option.some.inj H
              go_wp2
              go_ret
              exact ⟨by first | rfl | (simp [errW_none, errW_some] <;> rfl) | (simp [*, errW_none, errW_some] <;> rfl), by repeat (first | (with_reducible first | exact HB.out | apply below_alloc | apply pw_below_drewN | apply below_drew1) | exact HB.out)⟩
            · replace c29 := Bool.eq_false_iff.mpr c29
              subst c29
              have H1 : ((laws_toBlockS.f kj12 l0).bind fun t223 => ((laws_eqBlockS.f kj12 t215 t223).bind fun t226 => (if t226 = true then ((laws_markBlockS.f kj12 t215 1).bind fun bt227 => (if bt227.1 < 0 then (laws_FnExactDropBlock.j1 kj12 l0 a1 a2 t211 t212 t218 true) else ((laws_eqBlockS.f kj12 t218 t211).bind fun t229 => (if t229 = true then (laws_FnExactDropBlock.j1 kj12 l0 a1 a2 t211 t212 t218 (t219 != t212)) else (laws_FnExactDropBlock.j1 kj12 l0 a1 a2 t211 t212 t218 true))))) else (some false)))) = some r := by rw [if_neg (show ¬ (false = true) by decide)] at H; exact H
              clear H
              have H := H1
              clear H1
              replace H := Option.bind_eq_some_iff.mp H
              obtain ⟨t223, A300, H⟩ := H
              replace H : ((laws_eqBlockS.f kj12 t215 t223).bind fun t226 => (if t226 = true then ((laws_markBlockS.f kj12 t215 1).bind fun bt227 => (if bt227.1 < 0 then (laws_FnExactDropBlock.j1 kj12 l0 a1 a2 t211 t212 t218 true) else ((laws_eqBlockS.f kj12 t218 t211).bind fun t229 => (if t229 = true then (laws_FnExactDropBlock.j1 kj12 l0 a1 a2 t211 t212 t218 (t219 != t212)) else (laws_FnExactDropBlock.j1 kj12 l0 a1 a2 t211 t212 t218 true))))) else (some false))) = some r := H
              have A30 := Aside0.mk A300
              clear A300
              replace H := Option.bind_eq_some_iff.mp H
              obtain ⟨t226, A310, H⟩ := H
              replace H : (if t226 = true then ((laws_markBlockS.f kj12 t215 1).bind fun bt227 => (if bt227.1 < 0 then (laws_FnExactDropBlock.j1 kj12 l0 a1 a2 t211 t212 t218 true) else ((laws_eqBlockS.f kj12 t218 t211).bind fun t229 => (if t229 = true then (laws_FnExactDropBlock.j1 kj12 l0 a1 a2 t211 t212 t218 (t219 != t212)) else (laws_FnExactDropBlock.j1 kj12 l0 a1 a2 t211 t212 t218 true))))) else (some false)) = some r := H
              have A31 := Aside0.mk A310
              clear A310
              by_cases c32 : t226 = true
              · subst c32
                have H1 : ((laws_markBlockS.f kj12 t215 1).bind fun bt227 => (if bt227.1 < 0 then (laws_FnExactDropBlock.j1 kj12 l0 a1 a2 t211 t212 t218 true) else ((laws_eqBlockS.f kj12 t218 t211).bind fun t229 => (if t229 = true then (laws_FnExactDropBlock.j1 kj12 l0 a1 a2 t211 t212 t218 (t219 != t212)) else (laws_FnExactDropBlock.j1 kj12 l0 a1 a2 t211 t212 t218 true))))) = some r := by rw [if_pos rfl] at H; exact H
                clear H
                have H := H1
                clear H1
                replace H := Option.bind_eq_some_iff.mp H
                obtain ⟨⟨t227, t228⟩, A330, H⟩ := H
                replace H : (if t227 < 0 then (laws_FnExactDropBlock.j1 kj12 l0 a1 a2 t211 t212 t218 true) else ((laws_eqBlockS.f kj12 t218 t211).bind fun t229 => (if t229 = true then (laws_FnExactDropBlock.j1 kj12 l0 a1 a2 t211 t212 t218 (t219 != t212)) else (laws_FnExactDropBlock.j1 kj12 l0 a1 a2 t211 t212 t218 true)))) = some r := H
                have A33 := Aside0.mk A330
                clear A330
                have HC34 := Aside0.mk H
                clear H
                go_upto_region 18 with (first | ((with_reducible refine gate_callee (f := 12) rfl ?_); refine goesL_ (some 57) rfl rfl Try.func12 (by kernel_rfl) rfl #[.slice A0 l0.length c0] rfl (by (try simp only [List.map_toArray, List.map_cons, List.map_nil]); first | done | rfl | (simp only [List.length_drop, List.length_take]; rfl)) ?_; (with_reducible refine (laws_toBlockS.calls kj12 _ _ l0 t223 _ ?side1 ?side2 A30.out).mono ?_); (case side1 => repeat (first | exact (Kd.C_below HR0.out HB.out) | (with_reducible refine Kd.C_alloc ?_ _) | (with_reducible refine Kd.C_drewN ?_ _) | (with_reducible refine Kd.C_drew ?_))); (case side2 => exact HC0.out); rintro e w35 ⟨v224, rfl, ho0, hb⟩; refine ⟨_, rfl, ?_⟩; have n0_ := Aside0.mk (Kd.R_elder' (by (with_reducible repeat (first | apply Kd.R_alloc | apply Kd.R_drewN | apply Kd.R_drew)); exact HO_8.out) (Kd.R_base ho0) hb); have n1_ := Aside0.mk (Kd.R_elder' (by (with_reducible repeat (first | apply Kd.R_alloc | apply Kd.R_drewN | apply Kd.R_drew)); exact HO_10.out) (Kd.R_base ho0) hb); have n2_ := Aside0.mk (Kd.R_elder' (by (with_reducible repeat (first | apply Kd.R_alloc | apply Kd.R_drewN | apply Kd.R_drew)); exact HO_11.out) (Kd.R_base ho0) hb); have n3_ := Aside0.mk (Kd.R_lower (Kd.R_new' (Kd.R_new' (Kd.R_new' ho0 (Kd.R_lt (by (with_reducible repeat (first | apply Kd.R_alloc | apply Kd.R_drewN | apply Kd.R_drew)); exact HO_8.out))) (Kd.R_lt (by (with_reducible repeat (first | apply Kd.R_alloc | apply Kd.R_drewN | apply Kd.R_drew)); exact HO_10.out))) (Kd.R_lt (by (with_reducible repeat (first | apply Kd.R_alloc | apply Kd.R_drewN | apply Kd.R_drew)); exact HO_11.out))) (below_size (by repeat (first | (with_reducible first | exact HB.out | apply below_alloc | apply pw_below_drewN | apply below_drew1) | exact HB.out)))); have n4_ := Aside0.mk (below_step (by repeat (first | (with_reducible first | exact HB.out | apply below_alloc | apply pw_below_drewN | apply below_drew1) | exact HB.out)) hb); clear HO_8; clear HO_10; clear HO_11; clear HB; have HO_8 := n0_; have HO_10 := n1_; have HO_11 := n2_; have HO225 := n3_; have HB := n4_; clear n0_ n1_ n2_ n3_ n4_; (try clear hb); (try clear hb2); (try clear hk); (try clear hi); (try clear ho0); obtain ⟨Ao36, co36, eo36⟩ := Kd.R_slice HO225.out; subst eo36) | ((with_reducible refine gate_callee (f := 14) rfl ?_); refine goesL_ (some 58) rfl rfl Try.func14 (by kernel_rfl) rfl #[.slice Ao19 t215.length co19, .slice Ao36 t223.length co36] rfl (by (try simp only [List.map_toArray, List.map_cons, List.map_nil]); first | done | rfl | (simp only [List.length_drop, List.length_take]; rfl)) ?_; (with_reducible refine (laws_eqBlockS.calls kj12 _ _ t215 _ _ t223 true _ ?side1 ?side2 ?side3 ?side4 A31.out).mono ?_); (case side1 => repeat (first | exact (Kd.R_reads' HO_10.out).2.2 | (with_reducible refine Kd.C_alloc ?_ _) | (with_reducible refine Kd.C_drewN ?_ _) | (with_reducible refine Kd.C_drew ?_))); (case side2 => exact (Kd.R_reads' HO_10.out).2.1); (case side3 => repeat (first | exact (Kd.R_reads' HO225.out).2.2 | (with_reducible refine Kd.C_alloc ?_ _) | (with_reducible refine Kd.C_drewN ?_ _) | (with_reducible refine Kd.C_drew ?_))); (case side4 => exact (Kd.R_reads' HO225.out).2.1); rintro e w37 ⟨rfl, hb⟩; refine ⟨_, rfl, ?_⟩; have n0_ := Aside0.mk (Kd.R_below (by (with_reducible repeat (first | apply Kd.R_alloc | apply Kd.R_drewN | apply Kd.R_drew)); exact HO_8.out) hb); have n1_ := Aside0.mk (Kd.R_below (by (with_reducible repeat (first | apply Kd.R_alloc | apply Kd.R_drewN | apply Kd.R_drew)); exact HO_10.out) hb); have n2_ := Aside0.mk (Kd.R_below (by (with_reducible repeat (first | apply Kd.R_alloc | apply Kd.R_drewN | apply Kd.R_drew)); exact HO_11.out) hb); have n3_ := Aside0.mk (Kd.R_below (by (with_reducible repeat (first | apply Kd.R_alloc | apply Kd.R_drewN | apply Kd.R_drew)); exact HO225.out) hb); have n4_ := Aside0.mk (below_step (by repeat (first | (with_reducible first | exact HB.out | apply below_alloc | apply pw_below_drewN | apply below_drew1) | exact HB.out)) hb); clear HO_8; clear HO_10; clear HO_11; clear HO225; clear HB; have HO_8 := n0_; have HO_10 := n1_; have HO_11 := n2_; have HO225 := n3_; have HB := n4_; clear n0_ n1_ n2_ n3_ n4_; (try clear hb); (try clear hb2); (try clear hk); (try clear hi)) | ((with_reducible refine gate_callee (f := 20) rfl ?_); refine goesL_ (some 62) rfl rfl Try.func20 (by kernel_rfl) rfl #[.slice Ao19 t215.length co19, .int .i64 1] rfl (by (try simp only [List.map_toArray, List.map_cons, List.map_nil]); first | done | rfl | (simp only [List.length_drop, List.length_take]; rfl)) ?_; (with_reducible refine (laws_markBlockS.calls kj12 (fun k_ => some k_ = (.slice Ao19 t215.length co19 : Value).ownBlock) (.slice Ao19 t215.length co19) t215 1 t227 t228 w _ ?side1 ?side2 A33.out).mono ?_); (case side1 => repeat (first | (with_reducible first | exact HB.out | apply below_alloc | apply pw_below_drewN | apply below_drew1) | exact HB.out)); (case side2 => exact Kd.R_tight rfl HO_10.out); rintro e w38 ⟨rfl, hy0, hb, hkp⟩; refine ⟨_, rfl, ?_⟩; have n0_ := Aside0.mk (Kd.R_mono (ok' := fun k_ => some k_ ≠ (.slice Ao19 t215.length co19 : Value).ownBlock ∧ some k_ ≠ (v220 : Value).ownBlock ∧ some k_ ≠ (.slice Ao36 t223.length co36 : Value).ownBlock) (Kd.R_keptB (HO_8.out) hkp (fun k_ hk_ hs_ => (hk_.1.1) hs_)) (fun k_ hk_ => ⟨hk_.1.1.1, hk_.1.1.2, hk_.1.2⟩)); have n1_ := Aside0.mk (Kd.R_reok rfl hy0 (fun k_ e_ => HO_10.out.1 k_ e_)); have n2_ := Aside0.mk (Kd.R_mono (ok' := fun k_ => some k_ ≠ (v213 : Value).ownBlock ∧ some k_ ≠ (.slice Ao19 t215.length co19 : Value).ownBlock ∧ some k_ ≠ (.slice Ao36 t223.length co36 : Value).ownBlock) (Kd.R_keptB (HO_11.out) hkp (fun k_ hk_ hs_ => (hk_.1.2) hs_)) (fun k_ hk_ => ⟨hk_.1.1.1, hk_.1.1.2, hk_.1.2⟩)); have n3_ := Aside0.mk (Kd.R_mono (ok' := fun k_ => some k_ ≠ (v213 : Value).ownBlock ∧ some k_ ≠ (.slice Ao19 t215.length co19 : Value).ownBlock ∧ some k_ ≠ (v220 : Value).ownBlock) (Kd.R_keptB (HO225.out) hkp (fun k_ hk_ hs_ => (hk_.1.2) hs_)) (fun k_ hk_ => ⟨hk_.1.1.1.2, hk_.1.1.2, hk_.1.2⟩)); have n4_ := Aside0.mk (hb); clear HO_8; clear HO_10; clear HO_11; clear HO225; clear HB; have HO_8 := n0_; have HO_10 := n1_; have HO_11 := n2_; have HO225 := n3_; have HB := n4_; clear n0_ n1_ n2_ n3_ n4_; (try clear hb); (try clear hkp); (try clear hy0)))
                (try simp only [Act.put, List.setIfInBounds_toArray, List.set_cons_zero, List.set_cons_succ])
                go_cut [75] (fun v75 wc => ∃ (kq : Nat) (x75_33 : Bool), v75 = .bool x75_33 ∧ Aside0 (laws_FnExactDropBlock.j1 kq l0 a1 a2 t211 t212 t218 x75_33 = some r) ∧ Aside0 (kq ≤ kj12) ∧ Aside0 (Kd.R k45 45 wc w.heap.size (fun k_ => some k_ ≠ (v220 : Value).ownBlock) v213 t211) ∧ Aside0 (Kd.R k45 45 wc w.heap.size (fun k_ => some k_ ≠ (v213 : Value).ownBlock) v220 t218) ∧ Aside0 (Below w.heap.size w wc))
                case first =>
                  have H := HC34.out
                  clear HC34
                  by_cases c39 : t227 < 0
                  · rw [if_pos c39] at H
                    have c39b0 : decide (t227 < 0) = true := decide_eq_true c39
                    clear c39
                    (first | rw [c39b0] | (simp only [i64_w, i32_w]; rw [c39b0]) | skip)
                    have H' := Aside0.mk H
                    clear H
                    go_wp2
                    go_meet
                    case rel => exact ⟨_, (true), (by first | rfl | (simp; done) | (simp [*]; done)), H', ⟨by have := HJ12.out; first | omega | exact Nat.le_refl _⟩, ⟨by (with_reducible repeat (first | apply Kd.R_alloc | apply Kd.R_drewN | apply Kd.R_drew)); exact Kd.R_mono HO_8.out (fun _ hk => hk.2.1)⟩, ⟨by (with_reducible repeat (first | apply Kd.R_alloc | apply Kd.R_drewN | apply Kd.R_drew)); exact Kd.R_mono HO_11.out (fun _ hk => hk.1)⟩, ⟨by repeat (first | (with_reducible first | exact HB.out | apply below_alloc | apply pw_below_drewN | apply below_drew1) | exact HB.out)⟩⟩
                  · rw [if_neg c39] at H
                    have c39b0 : decide (t227 < 0) = false := decide_eq_false c39
                    clear c39
                    (first | rw [c39b0] | (simp only [i64_w, i32_w]; rw [c39b0]) | skip)
                    replace H := Option.bind_eq_some_iff.mp H
                    obtain ⟨t229, A400, H⟩ := H
                    replace H : (if t229 = true then (laws_FnExactDropBlock.j1 kj12 l0 a1 a2 t211 t212 t218 (t219 != t212)) else (laws_FnExactDropBlock.j1 kj12 l0 a1 a2 t211 t212 t218 true)) = some r := H
                    have A40 := Aside0.mk A400
                    clear A400
                    by_cases c41 : t229 = true
                    · subst c41
                      have H1 : (laws_FnExactDropBlock.j1 kj12 l0 a1 a2 t211 t212 t218 (t219 != t212)) = some r := by rw [if_pos rfl] at H; exact H
                      clear H
                      have H := H1
                      clear H1
                      have H' := Aside0.mk H
                      clear H
                      obtain ⟨Ao42, co42, eo42⟩ := Kd.R_slice HO_11.out
                      subst eo42
                      obtain ⟨Ao43, co43, eo43⟩ := Kd.R_slice HO_8.out
                      subst eo43
                      go_wp2_with (first | (go_at_call 14; (with_reducible refine (laws_eqBlockS.calls kj12 _ _ t218 _ _ t211 true _ ?side1 ?side2 ?side3 ?side4 A40.out).mono ?_); (case side1 => repeat (first | exact (Kd.R_reads' HO_11.out).2.2 | (with_reducible refine Kd.C_alloc ?_ _) | (with_reducible refine Kd.C_drewN ?_ _) | (with_reducible refine Kd.C_drew ?_))); (case side2 => exact (Kd.R_reads' HO_11.out).2.1); (case side3 => repeat (first | exact (Kd.R_reads' HO_8.out).2.2 | (with_reducible refine Kd.C_alloc ?_ _) | (with_reducible refine Kd.C_drewN ?_ _) | (with_reducible refine Kd.C_drew ?_))); (case side4 => exact (Kd.R_reads' HO_8.out).2.1); rintro e w44 ⟨rfl, hb⟩; have n0_ := Aside0.mk (Kd.R_below (by (with_reducible repeat (first | apply Kd.R_alloc | apply Kd.R_drewN | apply Kd.R_drew)); exact HO_8.out) hb); have n1_ := Aside0.mk (Kd.R_below (by (with_reducible repeat (first | apply Kd.R_alloc | apply Kd.R_drewN | apply Kd.R_drew)); exact HO_10.out) hb); have n2_ := Aside0.mk (Kd.R_below (by (with_reducible repeat (first | apply Kd.R_alloc | apply Kd.R_drewN | apply Kd.R_drew)); exact HO_11.out) hb); have n3_ := Aside0.mk (Kd.R_below (by (with_reducible repeat (first | apply Kd.R_alloc | apply Kd.R_drewN | apply Kd.R_drew)); exact HO225.out) hb); have n4_ := Aside0.mk (below_step (by repeat (first | (with_reducible first | exact HB.out | apply below_alloc | apply pw_below_drewN | apply below_drew1) | exact HB.out)) hb); clear HO_8; clear HO_10; clear HO_11; clear HO225; clear HB; have HO_8 := n0_; have HO_10 := n1_; have HO_11 := n2_; have HO225 := n3_; have HB := n4_; clear n0_ n1_ n2_ n3_ n4_; (try clear hb); (try clear hb2); (try clear hk); (try clear hi)))
                      go_meet
                      case rel => exact ⟨_, ((t219 != t212)), (by first | rfl | (simp; done) | (simp [*]; done)), H', ⟨by have := HJ12.out; first | omega | exact Nat.le_refl _⟩, ⟨by (with_reducible repeat (first | apply Kd.R_alloc | apply Kd.R_drewN | apply Kd.R_drew)); exact Kd.R_mono HO_8.out (fun _ hk => hk.2.1)⟩, ⟨by (with_reducible repeat (first | apply Kd.R_alloc | apply Kd.R_drewN | apply Kd.R_drew)); exact Kd.R_mono HO_11.out (fun _ hk => hk.1)⟩, ⟨by repeat (first | (with_reducible first | exact HB.out | apply below_alloc | apply pw_below_drewN | apply below_drew1) | exact HB.out)⟩⟩
                    · replace c41 := Bool.eq_false_iff.mpr c41
                      subst c41
                      have H1 : (laws_FnExactDropBlock.j1 kj12 l0 a1 a2 t211 t212 t218 true) = some r := by rw [if_neg (show ¬ (false = true) by decide)] at H; exact H
                      clear H
                      have H := H1
                      clear H1
                      have H' := Aside0.mk H
                      clear H
                      obtain ⟨Ao45, co45, eo45⟩ := Kd.R_slice HO_11.out
                      subst eo45
                      obtain ⟨Ao46, co46, eo46⟩ := Kd.R_slice HO_8.out
                      subst eo46
                      go_wp2_with (first | (go_at_call 14; (with_reducible refine (laws_eqBlockS.calls kj12 _ _ t218 _ _ t211 false _ ?side1 ?side2 ?side3 ?side4 A40.out).mono ?_); (case side1 => repeat (first | exact (Kd.R_reads' HO_11.out).2.2 | (with_reducible refine Kd.C_alloc ?_ _) | (with_reducible refine Kd.C_drewN ?_ _) | (with_reducible refine Kd.C_drew ?_))); (case side2 => exact (Kd.R_reads' HO_11.out).2.1); (case side3 => repeat (first | exact (Kd.R_reads' HO_8.out).2.2 | (with_reducible refine Kd.C_alloc ?_ _) | (with_reducible refine Kd.C_drewN ?_ _) | (with_reducible refine Kd.C_drew ?_))); (case side4 => exact (Kd.R_reads' HO_8.out).2.1); rintro e w47 ⟨rfl, hb⟩; have n0_ := Aside0.mk (Kd.R_below (by (with_reducible repeat (first | apply Kd.R_alloc | apply Kd.R_drewN | apply Kd.R_drew)); exact HO_8.out) hb); have n1_ := Aside0.mk (Kd.R_below (by (with_reducible repeat (first | apply Kd.R_alloc | apply Kd.R_drewN | apply Kd.R_drew)); exact HO_10.out) hb); have n2_ := Aside0.mk (Kd.R_below (by (with_reducible repeat (first | apply Kd.R_alloc | apply Kd.R_drewN | apply Kd.R_drew)); exact HO_11.out) hb); have n3_ := Aside0.mk (Kd.R_below (by (with_reducible repeat (first | apply Kd.R_alloc | apply Kd.R_drewN | apply Kd.R_drew)); exact HO225.out) hb); have n4_ := Aside0.mk (below_step (by repeat (first | (with_reducible first | exact HB.out | apply below_alloc | apply pw_below_drewN | apply below_drew1) | exact HB.out)) hb); clear HO_8; clear HO_10; clear HO_11; clear HO225; clear HB; have HO_8 := n0_; have HO_10 := n1_; have HO_11 := n2_; have HO225 := n3_; have HB := n4_; clear n0_ n1_ n2_ n3_ n4_; (try clear hb); (try clear hb2); (try clear hk); (try clear hi)))
                      go_meet
                      case rel => exact ⟨_, (true), (by first | rfl | (simp; done) | (simp [*]; done)), H', ⟨by have := HJ12.out; first | omega | exact Nat.le_refl _⟩, ⟨by (with_reducible repeat (first | apply Kd.R_alloc | apply Kd.R_drewN | apply Kd.R_drew)); exact Kd.R_mono HO_8.out (fun _ hk => hk.2.1)⟩, ⟨by (with_reducible repeat (first | apply Kd.R_alloc | apply Kd.R_drewN | apply Kd.R_drew)); exact Kd.R_mono HO_11.out (fun _ hk => hk.1)⟩, ⟨by repeat (first | (with_reducible first | exact HB.out | apply below_alloc | apply pw_below_drewN | apply below_drew1) | exact HB.out)⟩⟩
                case rest =>
                  clear HC34
                  try clear c1
                  try clear c2
                  try clear p2
                  try clear c3
                  try clear c4
                  try clear c4b0
                  try clear c4b1
                  try clear c5
                  try clear c5b0
                  try clear c5b1
                  try clear c6
                  try clear c7
                  try clear c7b0
                  try clear c10
                  try clear c12
                  try clear c14
                  try clear c20
                  try clear c22
                  try clear c23
                  try clear c24
                  try clear c29
                  try clear c32
                  try clear c39
                  try clear c39b0
                  try clear c41
                  try clear p2
                  obtain ⟨kq, x75_33, rfl, HA, HJ33, HO_8, HO_11, HB⟩ := hcut
                  cases kq with
                  | zero => exact absurd HA.out (by simp [laws_FnExactDropBlock.j1])
                  | succ kj33 =>
                    have H := HA.out
                    clear HA
                    simp only [laws_FnExactDropBlock.j1] at H
                    by_cases c48 : x75_33 = true
                    · subst c48
                      have H1 : (some false) = some r := by rw [if_pos rfl] at H; exact H
                      clear H
                      have H := H1
                      clear H1
                      obtain rfl := Option.some.inj H
                      go_wp2
                      go_ret
                      exact ⟨by first | rfl | (simp [errW_none, errW_some] <;> rfl) | (simp [*, errW_none, errW_some] <;> rfl), by repeat (first | (with_reducible first | exact HB.out | apply below_alloc | apply pw_below_drewN | apply below_drew1) | exact HB.out)⟩
                    · replace c48 := Bool.eq_false_iff.mpr c48
                      subst c48
                      have H1 : ((laws_markBlockS.f kj33 t218 1).bind fun bt230 => ((laws_heldBlockS.f kj33 bt230.2 1).bind fun t232 => (if t232 < 0 then (some false) else (if t232 = bt230.1 then ((laws_toBlockS.f kj33 l0).bind fun t233 => ((impl_DropBlock.f kj33 t233 a1 a2).bind fun bt236 => ((laws_eqBlockS.f kj33 bt236.1 t211).bind fun t240 => (if t240 = true then (laws_FnExactDropBlock.j2 kj33 bt230.2 bt230.1 (bt236.2 != t212)) else (laws_FnExactDropBlock.j2 kj33 bt230.2 bt230.1 true))))) else (some false))))) = some r := by rw [if_neg (show ¬ (false = true) by decide)] at H; exact H
                      clear H
                      have H := H1
                      clear H1
                      replace H := Option.bind_eq_some_iff.mp H
                      obtain ⟨⟨t230, t231⟩, A490, H⟩ := H
                      replace H : ((laws_heldBlockS.f kj33 t231 1).bind fun t232 => (if t232 < 0 then (some false) else (if t232 = t230 then ((laws_toBlockS.f kj33 l0).bind fun t233 => ((impl_DropBlock.f kj33 t233 a1 a2).bind fun bt236 => ((laws_eqBlockS.f kj33 bt236.1 t211).bind fun t240 => (if t240 = true then (laws_FnExactDropBlock.j2 kj33 t231 t230 (bt236.2 != t212)) else (laws_FnExactDropBlock.j2 kj33 t231 t230 true))))) else (some false)))) = some r := H
                      have A49 := Aside0.mk A490
                      clear A490
                      replace H := Option.bind_eq_some_iff.mp H
                      obtain ⟨t232, A500, H⟩ := H
                      replace H : (if t232 < 0 then (some false) else (if t232 = t230 then ((laws_toBlockS.f kj33 l0).bind fun t233 => ((impl_DropBlock.f kj33 t233 a1 a2).bind fun bt236 => ((laws_eqBlockS.f kj33 bt236.1 t211).bind fun t240 => (if t240 = true then (laws_FnExactDropBlock.j2 kj33 t231 t230 (bt236.2 != t212)) else (laws_FnExactDropBlock.j2 kj33 t231 t230 true))))) else (some false))) = some r := H
                      have A50 := Aside0.mk A500
                      clear A500
                      by_cases c51 : t232 < 0
                      · rw [if_pos c51] at H
                        have c51b0 : decide (t232 < 0) = true := decide_eq_true c51
                        clear c51
                        obtain rfl := Option.some.inj H
                        obtain ⟨Ao52, co52, eo52⟩ := Kd.R_slice HO_11.out
                        subst eo52
                        go_wp2_with (first | ((with_reducible refine gate_callee (f := 20) rfl ?_); refine goesL_ (some 78) rfl rfl Try.func20 (by kernel_rfl) rfl #[.slice Ao52 t218.length co52, .int .i64 1] rfl (by (try simp only [List.map_toArray, List.map_cons, List.map_nil]); first | done | rfl | (simp only [List.length_drop, List.length_take]; rfl)) ?_; (with_reducible refine (laws_markBlockS.calls kj33 (fun k_ => some k_ = (.slice Ao52 t218.length co52 : Value).ownBlock) (.slice Ao52 t218.length co52) t218 1 t230 t231 w _ ?side1 ?side2 A49.out).mono ?_); (case side1 => repeat (first | (with_reducible first | exact HB.out | apply below_alloc | apply pw_below_drewN | apply below_drew1) | exact HB.out)); (case side2 => exact Kd.R_tight rfl HO_11.out); rintro e w53 ⟨rfl, hy0, hb, hkp⟩; refine ⟨_, rfl, ?_⟩; have n0_ := Aside0.mk (Kd.R_mono (ok' := fun k_ => some k_ ≠ (.slice Ao52 t218.length co52 : Value).ownBlock) (Kd.R_keptB (HO_8.out) hkp (fun k_ hk_ hs_ => (hk_) hs_)) (fun k_ hk_ => hk_.1)); have n1_ := Aside0.mk (Kd.R_reok rfl hy0 (fun k_ e_ => HO_11.out.1 k_ e_)); have n2_ := Aside0.mk (hb); clear HO_8; clear HO_11; clear HB; have HO_8 := n0_; have HO_11 := n1_; have HB := n2_; clear n0_ n1_ n2_; (try clear hb); (try clear hkp); (try clear hy0)) | ((with_reducible refine gate_callee (f := 25) rfl ?_); refine goesL_ (some 81) rfl rfl Try.func25 (by kernel_rfl) rfl #[.slice Ao52 t231.length co52, .int .i64 1] rfl (by (try simp only [List.map_toArray, List.map_cons, List.map_nil]); first | done | (rw [show t231.length = t218.length from (Kd.R_reads' HO_11.out).1.symm] <;> rfl) | rfl | (simp only [List.length_drop, List.length_take]; rfl)) ?_; (with_reducible refine (laws_heldBlockS.calls kj33 _ _ t231 1 t232 _ ?side1 ?side2 A50.out).mono ?_); (case side1 => repeat (first | exact (Kd.R_reads' HO_11.out).2.2 | (with_reducible refine Kd.C_alloc ?_ _) | (with_reducible refine Kd.C_drewN ?_ _) | (with_reducible refine Kd.C_drew ?_))); (case side2 => rw [show t231.length = t218.length from (Kd.R_reads' HO_11.out).1.symm]; exact (Kd.R_reads' HO_11.out).2.1); rintro e w54 ⟨rfl, hb⟩; refine ⟨_, rfl, ?_⟩; have n0_ := Aside0.mk (Kd.R_below (by (with_reducible repeat (first | apply Kd.R_alloc | apply Kd.R_drewN | apply Kd.R_drew)); exact HO_8.out) hb); have n1_ := Aside0.mk (Kd.R_below (by (with_reducible repeat (first | apply Kd.R_alloc | apply Kd.R_drewN | apply Kd.R_drew)); exact HO_11.out) hb); have n2_ := Aside0.mk (below_step (by repeat (first | (with_reducible first | exact HB.out | apply below_alloc | apply pw_below_drewN | apply below_drew1) | exact HB.out)) hb); clear HO_8; clear HO_11; clear HB; have HO_8 := n0_; have HO_11 := n1_; have HB := n2_; clear n0_ n1_ n2_; (try clear hb); (try clear hb2); (try clear hk); (try clear hi)))
                        go_ret
                        exact ⟨by first | rfl | (simp [errW_none, errW_some] <;> rfl) | (simp [*, errW_none, errW_some] <;> rfl), by repeat (first | (with_reducible first | exact HB.out | apply below_alloc | apply pw_below_drewN | apply below_drew1) | exact HB.out)⟩
                      · rw [if_neg c51] at H
                        have c51b0 : decide (t232 < 0) = false := decide_eq_false c51
                        clear c51
                        by_cases c55 : t232 = t230
                        · rw [if_pos c55] at H
                          have c55b0 : (t232 == t230) = true := beq_iff_eq.mpr c55
                          have c55b1 : (t232 != t230) = false := bne_eq_false_iff_eq.mpr c55
                          clear c55
                          replace H := Option.bind_eq_some_iff.mp H
                          obtain ⟨t233, A560, H⟩ := H
                          replace H : ((impl_DropBlock.f kj33 t233 a1 a2).bind fun bt236 => ((laws_eqBlockS.f kj33 bt236.1 t211).bind fun t240 => (if t240 = true then (laws_FnExactDropBlock.j2 kj33 t231 t230 (bt236.2 != t212)) else (laws_FnExactDropBlock.j2 kj33 t231 t230 true)))) = some r := H
                          have A56 := Aside0.mk A560
                          clear A560
                          replace H := Option.bind_eq_some_iff.mp H
                          obtain ⟨⟨t236, t237⟩, A570, H⟩ := H
                          replace H : ((laws_eqBlockS.f kj33 t236 t211).bind fun t240 => (if t240 = true then (laws_FnExactDropBlock.j2 kj33 t231 t230 (t237 != t212)) else (laws_FnExactDropBlock.j2 kj33 t231 t230 true))) = some r := H
                          have A57 := Aside0.mk A570
                          clear A570
                          have HC58 := Aside0.mk H
                          clear H
                          obtain ⟨Ao59, co59, eo59⟩ := Kd.R_slice HO_11.out
                          subst eo59
                          go_upto_region 29 with (first | ((with_reducible refine gate_callee (f := 20) rfl ?_); refine goesL_ (some 78) rfl rfl Try.func20 (by kernel_rfl) rfl #[.slice Ao59 t218.length co59, .int .i64 1] rfl (by (try simp only [List.map_toArray, List.map_cons, List.map_nil]); first | done | rfl | (simp only [List.length_drop, List.length_take]; rfl)) ?_; (with_reducible refine (laws_markBlockS.calls kj33 (fun k_ => some k_ = (.slice Ao59 t218.length co59 : Value).ownBlock) (.slice Ao59 t218.length co59) t218 1 t230 t231 w _ ?side1 ?side2 A49.out).mono ?_); (case side1 => repeat (first | (with_reducible first | exact HB.out | apply below_alloc | apply pw_below_drewN | apply below_drew1) | exact HB.out)); (case side2 => exact Kd.R_tight rfl HO_11.out); rintro e w60 ⟨rfl, hy0, hb, hkp⟩; refine ⟨_, rfl, ?_⟩; have n0_ := Aside0.mk (Kd.R_mono (ok' := fun k_ => some k_ ≠ (.slice Ao59 t218.length co59 : Value).ownBlock) (Kd.R_keptB (HO_8.out) hkp (fun k_ hk_ hs_ => (hk_) hs_)) (fun k_ hk_ => hk_.1)); have n1_ := Aside0.mk (Kd.R_reok rfl hy0 (fun k_ e_ => HO_11.out.1 k_ e_)); have n2_ := Aside0.mk (hb); clear HO_8; clear HO_11; clear HB; have HO_8 := n0_; have HO_11 := n1_; have HB := n2_; clear n0_ n1_ n2_; (try clear hb); (try clear hkp); (try clear hy0)) | ((with_reducible refine gate_callee (f := 25) rfl ?_); refine goesL_ (some 81) rfl rfl Try.func25 (by kernel_rfl) rfl #[.slice Ao59 t231.length co59, .int .i64 1] rfl (by (try simp only [List.map_toArray, List.map_cons, List.map_nil]); first | done | (rw [show t231.length = t218.length from (Kd.R_reads' HO_11.out).1.symm] <;> rfl) | rfl | (simp only [List.length_drop, List.length_take]; rfl)) ?_; (with_reducible refine (laws_heldBlockS.calls kj33 _ _ t231 1 t232 _ ?side1 ?side2 A50.out).mono ?_); (case side1 => repeat (first | exact (Kd.R_reads' HO_11.out).2.2 | (with_reducible refine Kd.C_alloc ?_ _) | (with_reducible refine Kd.C_drewN ?_ _) | (with_reducible refine Kd.C_drew ?_))); (case side2 => rw [show t231.length = t218.length from (Kd.R_reads' HO_11.out).1.symm]; exact (Kd.R_reads' HO_11.out).2.1); rintro e w61 ⟨rfl, hb⟩; refine ⟨_, rfl, ?_⟩; have n0_ := Aside0.mk (Kd.R_below (by (with_reducible repeat (first | apply Kd.R_alloc | apply Kd.R_drewN | apply Kd.R_drew)); exact HO_8.out) hb); have n1_ := Aside0.mk (Kd.R_below (by (with_reducible repeat (first | apply Kd.R_alloc | apply Kd.R_drewN | apply Kd.R_drew)); exact HO_11.out) hb); have n2_ := Aside0.mk (below_step (by repeat (first | (with_reducible first | exact HB.out | apply below_alloc | apply pw_below_drewN | apply below_drew1) | exact HB.out)) hb); clear HO_8; clear HO_11; clear HB; have HO_8 := n0_; have HO_11 := n1_; have HB := n2_; clear n0_ n1_ n2_; (try clear hb); (try clear hb2); (try clear hk); (try clear hi)) | ((with_reducible refine gate_callee (f := 12) rfl ?_); refine goesL_ (some 89) rfl rfl Try.func12 (by kernel_rfl) rfl #[.slice A0 l0.length c0] rfl (by (try simp only [List.map_toArray, List.map_cons, List.map_nil]); first | done | rfl | (simp only [List.length_drop, List.length_take]; rfl)) ?_; (with_reducible refine (laws_toBlockS.calls kj33 _ _ l0 t233 _ ?side1 ?side2 A56.out).mono ?_); (case side1 => repeat (first | exact (Kd.C_below HR0.out HB.out) | (with_reducible refine Kd.C_alloc ?_ _) | (with_reducible refine Kd.C_drewN ?_ _) | (with_reducible refine Kd.C_drew ?_))); (case side2 => exact HC0.out); rintro e w62 ⟨v234, rfl, ho0, hb⟩; refine ⟨_, rfl, ?_⟩; have n0_ := Aside0.mk (Kd.R_elder' (by (with_reducible repeat (first | apply Kd.R_alloc | apply Kd.R_drewN | apply Kd.R_drew)); exact HO_8.out) (Kd.R_base ho0) hb); have n1_ := Aside0.mk (Kd.R_elder' (by (with_reducible repeat (first | apply Kd.R_alloc | apply Kd.R_drewN | apply Kd.R_drew)); exact HO_11.out) (Kd.R_base ho0) hb); have n2_ := Aside0.mk (Kd.R_lower (Kd.R_new' (Kd.R_new' ho0 (Kd.R_lt (by (with_reducible repeat (first | apply Kd.R_alloc | apply Kd.R_drewN | apply Kd.R_drew)); exact HO_8.out))) (Kd.R_lt (by (with_reducible repeat (first | apply Kd.R_alloc | apply Kd.R_drewN | apply Kd.R_drew)); exact HO_11.out))) (below_size (by repeat (first | (with_reducible first | exact HB.out | apply below_alloc | apply pw_below_drewN | apply below_drew1) | exact HB.out)))); have n3_ := Aside0.mk (below_step (by repeat (first | (with_reducible first | exact HB.out | apply below_alloc | apply pw_below_drewN | apply below_drew1) | exact HB.out)) hb); clear HO_8; clear HO_11; clear HB; have HO_8 := n0_; have HO_11 := n1_; have HO235 := n2_; have HB := n3_; clear n0_ n1_ n2_ n3_; (try clear hb); (try clear hb2); (try clear hk); (try clear hi); (try clear ho0); obtain ⟨Ao63, co63, eo63⟩ := Kd.R_slice HO235.out; subst eo63) | ((with_reducible refine gate_callee (f := 24) rfl ?_); refine goesL_ (some 92) rfl rfl Try.func24 (by kernel_rfl) rfl #[.slice Ao63 t233.length co63, .string a1, .string a2] rfl (by (try simp only [List.map_toArray, List.map_cons, List.map_nil]); first | done | rfl | (simp only [List.length_drop, List.length_take]; rfl)) ?_; (with_reducible refine (impl_DropBlock.calls kj33 _ _ t233 a1 a2 t236 t237 _ ?side1 ?side2 ?side3 A57.out).mono ?_); (case side1 => repeat (first | exact (Kd.R_reads' HO235.out).2.2 | (with_reducible refine Kd.C_alloc ?_ _) | (with_reducible refine Kd.C_drewN ?_ _) | (with_reducible refine Kd.C_drew ?_))); (case side2 => exact (Kd.R_reads' HO235.out).2.1); (case side3 => exact HSH.out.keptBut ((show Below w.heap.size w _ from by repeat (first | (with_reducible first | exact HB.out | apply below_alloc | apply pw_below_drewN | apply below_drew1) | exact HB.out)).frame (fun _ => False)) (fun _ h_ => h_.elim)); rintro e w64 ⟨v238, rfl, ho0, hb⟩; refine ⟨_, rfl, ?_⟩; have n0_ := Aside0.mk (Kd.R_elder' (by (with_reducible repeat (first | apply Kd.R_alloc | apply Kd.R_drewN | apply Kd.R_drew)); exact HO_8.out) (Kd.R_base ho0) hb); have n1_ := Aside0.mk (Kd.R_elder' (by (with_reducible repeat (first | apply Kd.R_alloc | apply Kd.R_drewN | apply Kd.R_drew)); exact HO_11.out) (Kd.R_base ho0) hb); have n2_ := Aside0.mk (Kd.R_elder' (by (with_reducible repeat (first | apply Kd.R_alloc | apply Kd.R_drewN | apply Kd.R_drew)); exact HO235.out) (Kd.R_base ho0) hb); have n3_ := Aside0.mk (Kd.R_lower (Kd.R_new' (Kd.R_new' (Kd.R_new' ho0 (Kd.R_lt (by (with_reducible repeat (first | apply Kd.R_alloc | apply Kd.R_drewN | apply Kd.R_drew)); exact HO_8.out))) (Kd.R_lt (by (with_reducible repeat (first | apply Kd.R_alloc | apply Kd.R_drewN | apply Kd.R_drew)); exact HO_11.out))) (Kd.R_lt (by (with_reducible repeat (first | apply Kd.R_alloc | apply Kd.R_drewN | apply Kd.R_drew)); exact HO235.out))) (below_size (by repeat (first | (with_reducible first | exact HB.out | apply below_alloc | apply pw_below_drewN | apply below_drew1) | exact HB.out)))); have n4_ := Aside0.mk (below_step (by repeat (first | (with_reducible first | exact HB.out | apply below_alloc | apply pw_below_drewN | apply below_drew1) | exact HB.out)) hb); clear HO_8; clear HO_11; clear HO235; clear HB; have HO_8 := n0_; have HO_11 := n1_; have HO235 := n2_; have HO239 := n3_; have HB := n4_; clear n0_ n1_ n2_ n3_ n4_; (try clear hb); (try clear hb2); (try clear hk); (try clear hi); (try clear ho0)))
                          (try simp only [Act.put, List.setIfInBounds_toArray, List.set_cons_zero, List.set_cons_succ])
                          go_cut [103] (fun v103 wc => ∃ (kq : Nat) (x103_57 : Bool), v103 = .bool x103_57 ∧ Aside0 (laws_FnExactDropBlock.j2 kq t231 t230 x103_57 = some r) ∧ Aside0 (kq ≤ kj33) ∧ Aside0 (Kd.R k45 45 wc w.heap.size (fun _ => True) (.slice Ao59 t218.length co59) t231) ∧ Aside0 (Below w.heap.size w wc))
                          case first =>
                            have H := HC58.out
                            clear HC58
                            replace H := Option.bind_eq_some_iff.mp H
                            obtain ⟨t240, A650, H⟩ := H
                            replace H : (if t240 = true then (laws_FnExactDropBlock.j2 kj33 t231 t230 (t237 != t212)) else (laws_FnExactDropBlock.j2 kj33 t231 t230 true)) = some r := H
                            have A65 := Aside0.mk A650
                            clear A650
                            by_cases c66 : t240 = true
                            · subst c66
                              have H1 : (laws_FnExactDropBlock.j2 kj33 t231 t230 (t237 != t212)) = some r := by rw [if_pos rfl] at H; exact H
                              clear H
                              have H := H1
                              clear H1
                              have H' := Aside0.mk H
                              clear H
                              obtain ⟨Ao67, co67, eo67⟩ := Kd.R_slice HO239.out
                              subst eo67
                              obtain ⟨Ao68, co68, eo68⟩ := Kd.R_slice HO_8.out
                              subst eo68
                              go_wp2_with (first | ((with_reducible refine gate_callee (f := 14) rfl ?_); refine goesL_ (some 97) rfl rfl Try.func14 (by kernel_rfl) rfl #[.slice Ao67 t236.length co67, .slice Ao68 t211.length co68] rfl (by (try simp only [List.map_toArray, List.map_cons, List.map_nil]); first | done | rfl | (simp only [List.length_drop, List.length_take]; rfl)) ?_; (with_reducible refine (laws_eqBlockS.calls kj33 _ _ t236 _ _ t211 true _ ?side1 ?side2 ?side3 ?side4 A65.out).mono ?_); (case side1 => repeat (first | exact (Kd.R_reads' HO239.out).2.2 | (with_reducible refine Kd.C_alloc ?_ _) | (with_reducible refine Kd.C_drewN ?_ _) | (with_reducible refine Kd.C_drew ?_))); (case side2 => exact (Kd.R_reads' HO239.out).2.1); (case side3 => repeat (first | exact (Kd.R_reads' HO_8.out).2.2 | (with_reducible refine Kd.C_alloc ?_ _) | (with_reducible refine Kd.C_drewN ?_ _) | (with_reducible refine Kd.C_drew ?_))); (case side4 => exact (Kd.R_reads' HO_8.out).2.1); rintro e w69 ⟨rfl, hb⟩; refine ⟨_, rfl, ?_⟩; have n0_ := Aside0.mk (Kd.R_below (by (with_reducible repeat (first | apply Kd.R_alloc | apply Kd.R_drewN | apply Kd.R_drew)); exact HO_8.out) hb); have n1_ := Aside0.mk (Kd.R_below (by (with_reducible repeat (first | apply Kd.R_alloc | apply Kd.R_drewN | apply Kd.R_drew)); exact HO_11.out) hb); have n2_ := Aside0.mk (Kd.R_below (by (with_reducible repeat (first | apply Kd.R_alloc | apply Kd.R_drewN | apply Kd.R_drew)); exact HO235.out) hb); have n3_ := Aside0.mk (Kd.R_below (by (with_reducible repeat (first | apply Kd.R_alloc | apply Kd.R_drewN | apply Kd.R_drew)); exact HO239.out) hb); have n4_ := Aside0.mk (below_step (by repeat (first | (with_reducible first | exact HB.out | apply below_alloc | apply pw_below_drewN | apply below_drew1) | exact HB.out)) hb); clear HO_8; clear HO_11; clear HO235; clear HO239; clear HB; have HO_8 := n0_; have HO_11 := n1_; have HO235 := n2_; have HO239 := n3_; have HB := n4_; clear n0_ n1_ n2_ n3_ n4_; (try clear hb); (try clear hb2); (try clear hk); (try clear hi)))
                              go_meet
                              case rel => exact ⟨_, ((t237 != t212)), (by first | rfl | (simp; done) | (simp [*]; done)), H', ⟨by have := HJ12.out; have := HJ33.out; first | omega | exact Nat.le_refl _⟩, ⟨by (with_reducible repeat (first | apply Kd.R_alloc | apply Kd.R_drewN | apply Kd.R_drew)); exact Kd.R_mono HO_11.out (fun _ hk => trivial)⟩, ⟨by repeat (first | (with_reducible first | exact HB.out | apply below_alloc | apply pw_below_drewN | apply below_drew1) | exact HB.out)⟩⟩
                            · replace c66 := Bool.eq_false_iff.mpr c66
                              subst c66
                              have H1 : (laws_FnExactDropBlock.j2 kj33 t231 t230 true) = some r := by rw [if_neg (show ¬ (false = true) by decide)] at H; exact H
                              clear H
                              have H := H1
                              clear H1
                              have H' := Aside0.mk H
                              clear H
                              obtain ⟨Ao70, co70, eo70⟩ := Kd.R_slice HO239.out
                              subst eo70
                              obtain ⟨Ao71, co71, eo71⟩ := Kd.R_slice HO_8.out
                              subst eo71
                              go_wp2_with (first | ((with_reducible refine gate_callee (f := 14) rfl ?_); refine goesL_ (some 97) rfl rfl Try.func14 (by kernel_rfl) rfl #[.slice Ao70 t236.length co70, .slice Ao71 t211.length co71] rfl (by (try simp only [List.map_toArray, List.map_cons, List.map_nil]); first | done | rfl | (simp only [List.length_drop, List.length_take]; rfl)) ?_; (with_reducible refine (laws_eqBlockS.calls kj33 _ _ t236 _ _ t211 false _ ?side1 ?side2 ?side3 ?side4 A65.out).mono ?_); (case side1 => repeat (first | exact (Kd.R_reads' HO239.out).2.2 | (with_reducible refine Kd.C_alloc ?_ _) | (with_reducible refine Kd.C_drewN ?_ _) | (with_reducible refine Kd.C_drew ?_))); (case side2 => exact (Kd.R_reads' HO239.out).2.1); (case side3 => repeat (first | exact (Kd.R_reads' HO_8.out).2.2 | (with_reducible refine Kd.C_alloc ?_ _) | (with_reducible refine Kd.C_drewN ?_ _) | (with_reducible refine Kd.C_drew ?_))); (case side4 => exact (Kd.R_reads' HO_8.out).2.1); rintro e w72 ⟨rfl, hb⟩; refine ⟨_, rfl, ?_⟩; have n0_ := Aside0.mk (Kd.R_below (by (with_reducible repeat (first | apply Kd.R_alloc | apply Kd.R_drewN | apply Kd.R_drew)); exact HO_8.out) hb); have n1_ := Aside0.mk (Kd.R_below (by (with_reducible repeat (first | apply Kd.R_alloc | apply Kd.R_drewN | apply Kd.R_drew)); exact HO_11.out) hb); have n2_ := Aside0.mk (Kd.R_below (by (with_reducible repeat (first | apply Kd.R_alloc | apply Kd.R_drewN | apply Kd.R_drew)); exact HO235.out) hb); have n3_ := Aside0.mk (Kd.R_below (by (with_reducible repeat (first | apply Kd.R_alloc | apply Kd.R_drewN | apply Kd.R_drew)); exact HO239.out) hb); have n4_ := Aside0.mk (below_step (by repeat (first | (with_reducible first | exact HB.out | apply below_alloc | apply pw_below_drewN | apply below_drew1) | exact HB.out)) hb); clear HO_8; clear HO_11; clear HO235; clear HO239; clear HB; have HO_8 := n0_; have HO_11 := n1_; have HO235 := n2_; have HO239 := n3_; have HB := n4_; clear n0_ n1_ n2_ n3_ n4_; (try clear hb); (try clear hb2); (try clear hk); (try clear hi)))
                              go_meet
                              case rel => exact ⟨_, (true), (by first | rfl | (simp; done) | (simp [*]; done)), H', ⟨by have := HJ12.out; have := HJ33.out; first | omega | exact Nat.le_refl _⟩, ⟨by (with_reducible repeat (first | apply Kd.R_alloc | apply Kd.R_drewN | apply Kd.R_drew)); exact Kd.R_mono HO_11.out (fun _ hk => trivial)⟩, ⟨by repeat (first | (with_reducible first | exact HB.out | apply below_alloc | apply pw_below_drewN | apply below_drew1) | exact HB.out)⟩⟩
                          case rest =>
                            clear HC58
                            try clear c1
                            try clear c2
                            try clear p2
                            try clear c3
                            try clear c4
                            try clear c4b0
                            try clear c4b1
                            try clear c5
                            try clear c5b0
                            try clear c5b1
                            try clear c6
                            try clear c7
                            try clear c7b0
                            try clear c10
                            try clear c12
                            try clear c14
                            try clear c20
                            try clear c22
                            try clear c23
                            try clear c24
                            try clear c25
                            try clear c29
                            try clear c32
                            try clear c39
                            try clear c39b0
                            try clear c41
                            try clear c48
                            try clear c51
                            try clear c51b0
                            try clear c55
                            try clear c55b0
                            try clear c55b1
                            try clear c66
                            try clear p2
                            obtain ⟨kq, x103_57, rfl, HA, HJ57, HO_11, HB⟩ := hcut
                            have hl11_57 := (Kd.R_reads' HO_11.out).1
                            rw [hl11_57] at HO_11
                            (try simp only [hl11_57])
                            cases kq with
                            | zero => exact absurd HA.out (by simp [laws_FnExactDropBlock.j2])
                            | succ kj57 =>
                              have H := HA.out
                              clear HA
                              simp only [laws_FnExactDropBlock.j2] at H
                              by_cases c73 : x103_57 = true
                              · subst c73
                                have H1 : (some false) = some r := by rw [if_pos rfl] at H; exact H
                                clear H
                                have H := H1
                                clear H1
                                obtain rfl := Option.some.inj H
                                go_wp2
                                go_ret
                                exact ⟨by first | rfl | (simp [errW_none, errW_some] <;> rfl) | (simp [*, errW_none, errW_some] <;> rfl), by repeat (first | (with_reducible first | exact HB.out | apply below_alloc | apply pw_below_drewN | apply below_drew1) | exact HB.out)⟩
                              · replace c73 := Bool.eq_false_iff.mpr c73
                                subst c73
                                have H1 : ((laws_heldBlockS.f kj57 t231 1).bind fun t241 => (if t241 < 0 then (some false) else (if t241 = t230 then (some true) else (some false)))) = some r := by rw [if_neg (show ¬ (false = true) by decide)] at H; exact H
                                clear H
                                have H := H1
                                clear H1
                                replace H := Option.bind_eq_some_iff.mp H
                                obtain ⟨t241, A740, H⟩ := H
                                replace H : (if t241 < 0 then (some false) else (if t241 = t230 then (some true) else (some false))) = some r := H
                                have A74 := Aside0.mk A740
                                clear A740
                                by_cases c75 : t241 < 0
                                · rw [if_pos c75] at H
                                  have c75b0 : decide (t241 < 0) = true := decide_eq_true c75
                                  clear c75
                                  obtain rfl := Option.some.inj H
                                  go_wp2_with (first | ((with_reducible refine gate_callee (f := 25) rfl ?_); refine goesL_ (some 106) rfl rfl Try.func25 (by kernel_rfl) rfl #[.slice Ao59 t231.length co59, .int .i64 1] rfl (by (try simp only [List.map_toArray, List.map_cons, List.map_nil]); first | done | rfl | (simp only [List.length_drop, List.length_take]; rfl)) ?_; (with_reducible refine (laws_heldBlockS.calls kj57 _ _ t231 1 t241 _ ?side1 ?side2 A74.out).mono ?_); (case side1 => repeat (first | exact (Kd.R_reads' HO_11.out).2.2 | (with_reducible refine Kd.C_alloc ?_ _) | (with_reducible refine Kd.C_drewN ?_ _) | (with_reducible refine Kd.C_drew ?_))); (case side2 => exact (Kd.R_reads' HO_11.out).2.1); rintro e w76 ⟨rfl, hb⟩; refine ⟨_, rfl, ?_⟩; have n0_ := Aside0.mk (Kd.R_below (by (with_reducible repeat (first | apply Kd.R_alloc | apply Kd.R_drewN | apply Kd.R_drew)); exact HO_11.out) hb); have n1_ := Aside0.mk (below_step (by repeat (first | (with_reducible first | exact HB.out | apply below_alloc | apply pw_below_drewN | apply below_drew1) | exact HB.out)) hb); clear HO_11; clear HB; have HO_11 := n0_; have HB := n1_; clear n0_ n1_; (try clear hb); (try clear hb2); (try clear hk); (try clear hi)))
                                  go_ret
                                  exact ⟨by first | rfl | (simp [errW_none, errW_some] <;> rfl) | (simp [*, errW_none, errW_some] <;> rfl), by repeat (first | (with_reducible first | exact HB.out | apply below_alloc | apply pw_below_drewN | apply below_drew1) | exact HB.out)⟩
                                · rw [if_neg c75] at H
                                  have c75b0 : decide (t241 < 0) = false := decide_eq_false c75
                                  clear c75
                                  by_cases c77 : t241 = t230
                                  · rw [if_pos c77] at H
                                    have c77b0 : (t241 == t230) = true := beq_iff_eq.mpr c77
                                    have c77b1 : (t241 != t230) = false := bne_eq_false_iff_eq.mpr c77
                                    clear c77
                                    obtain rfl := Option.some.inj H
                                    go_wp2_with (first | ((with_reducible refine gate_callee (f := 25) rfl ?_); refine goesL_ (some 106) rfl rfl Try.func25 (by kernel_rfl) rfl #[.slice Ao59 t231.length co59, .int .i64 1] rfl (by (try simp only [List.map_toArray, List.map_cons, List.map_nil]); first | done | rfl | (simp only [List.length_drop, List.length_take]; rfl)) ?_; (with_reducible refine (laws_heldBlockS.calls kj57 _ _ t231 1 t241 _ ?side1 ?side2 A74.out).mono ?_); (case side1 => repeat (first | exact (Kd.R_reads' HO_11.out).2.2 | (with_reducible refine Kd.C_alloc ?_ _) | (with_reducible refine Kd.C_drewN ?_ _) | (with_reducible refine Kd.C_drew ?_))); (case side2 => exact (Kd.R_reads' HO_11.out).2.1); rintro e w78 ⟨rfl, hb⟩; refine ⟨_, rfl, ?_⟩; have n0_ := Aside0.mk (Kd.R_below (by (with_reducible repeat (first | apply Kd.R_alloc | apply Kd.R_drewN | apply Kd.R_drew)); exact HO_11.out) hb); have n1_ := Aside0.mk (below_step (by repeat (first | (with_reducible first | exact HB.out | apply below_alloc | apply pw_below_drewN | apply below_drew1) | exact HB.out)) hb); clear HO_11; clear HB; have HO_11 := n0_; have HB := n1_; clear n0_ n1_; (try clear hb); (try clear hb2); (try clear hk); (try clear hi)))
                                    go_ret
                                    exact ⟨by first | rfl | (simp [errW_none, errW_some] <;> rfl) | (simp [*, errW_none, errW_some] <;> rfl), by repeat (first | (with_reducible first | exact HB.out | apply below_alloc | apply pw_below_drewN | apply below_drew1) | exact HB.out)⟩
                                  · rw [if_neg c77] at H
                                    have c77b0 : (t241 == t230) = false := beq_eq_false_iff_ne.mpr c77
                                    have c77b1 : (t241 != t230) = true := bne_iff_ne.mpr c77
                                    obtain rfl := Option.some.inj H
                                    go_wp2_with (first | ((with_reducible refine gate_callee (f := 25) rfl ?_); refine goesL_ (some 106) rfl rfl Try.func25 (by kernel_rfl) rfl #[.slice Ao59 t231.length co59, .int .i64 1] rfl (by (try simp only [List.map_toArray, List.map_cons, List.map_nil]); first | done | rfl | (simp only [List.length_drop, List.length_take]; rfl)) ?_; (with_reducible refine (laws_heldBlockS.calls kj57 _ _ t231 1 t241 _ ?side1 ?side2 A74.out).mono ?_); (case side1 => repeat (first | exact (Kd.R_reads' HO_11.out).2.2 | (with_reducible refine Kd.C_alloc ?_ _) | (with_reducible refine Kd.C_drewN ?_ _) | (with_reducible refine Kd.C_drew ?_))); (case side2 => exact (Kd.R_reads' HO_11.out).2.1); rintro e w79 ⟨rfl, hb⟩; refine ⟨_, rfl, ?_⟩; have n0_ := Aside0.mk (Kd.R_below (by (with_reducible repeat (first | apply Kd.R_alloc | apply Kd.R_drewN | apply Kd.R_drew)); exact HO_11.out) hb); have n1_ := Aside0.mk (below_step (by repeat (first | (with_reducible first | exact HB.out | apply below_alloc | apply pw_below_drewN | apply below_drew1) | exact HB.out)) hb); clear HO_11; clear HB; have HO_11 := n0_; have HB := n1_; clear n0_ n1_; (try clear hb); (try clear hb2); (try clear hk); (try clear hi)))
                                    go_ret
                                    exact ⟨by first | rfl | (simp [errW_none, errW_some] <;> rfl) | (simp [*, errW_none, errW_some] <;> rfl), by repeat (first | (with_reducible first | exact HB.out | apply below_alloc | apply pw_below_drewN | apply below_drew1) | exact HB.out)⟩
                        · rw [if_neg c55] at H
                          have c55b0 : (t232 == t230) = false := beq_eq_false_iff_ne.mpr c55
                          have c55b1 : (t232 != t230) = true := bne_iff_ne.mpr c55
                          obtain rfl := Option.some.inj H
                          obtain ⟨Ao80, co80, eo80⟩ := Kd.R_slice HO_11.out
                          subst eo80
                          go_wp2_with (first | ((with_reducible refine gate_callee (f := 20) rfl ?_); refine goesL_ (some 78) rfl rfl Try.func20 (by kernel_rfl) rfl #[.slice Ao80 t218.length co80, .int .i64 1] rfl (by (try simp only [List.map_toArray, List.map_cons, List.map_nil]); first | done | rfl | (simp only [List.length_drop, List.length_take]; rfl)) ?_; (with_reducible refine (laws_markBlockS.calls kj33 (fun k_ => some k_ = (.slice Ao80 t218.length co80 : Value).ownBlock) (.slice Ao80 t218.length co80) t218 1 t230 t231 w _ ?side1 ?side2 A49.out).mono ?_); (case side1 => repeat (first | (with_reducible first | exact HB.out | apply below_alloc | apply pw_below_drewN | apply below_drew1) | exact HB.out)); (case side2 => exact Kd.R_tight rfl HO_11.out); rintro e w81 ⟨rfl, hy0, hb, hkp⟩; refine ⟨_, rfl, ?_⟩; have n0_ := Aside0.mk (Kd.R_mono (ok' := fun k_ => some k_ ≠ (.slice Ao80 t218.length co80 : Value).ownBlock) (Kd.R_keptB (HO_8.out) hkp (fun k_ hk_ hs_ => (hk_) hs_)) (fun k_ hk_ => hk_.1)); have n1_ := Aside0.mk (Kd.R_reok rfl hy0 (fun k_ e_ => HO_11.out.1 k_ e_)); have n2_ := Aside0.mk (hb); clear HO_8; clear HO_11; clear HB; have HO_8 := n0_; have HO_11 := n1_; have HB := n2_; clear n0_ n1_ n2_; (try clear hb); (try clear hkp); (try clear hy0)) | ((with_reducible refine gate_callee (f := 25) rfl ?_); refine goesL_ (some 81) rfl rfl Try.func25 (by kernel_rfl) rfl #[.slice Ao80 t231.length co80, .int .i64 1] rfl (by (try simp only [List.map_toArray, List.map_cons, List.map_nil]); first | done | (rw [show t231.length = t218.length from (Kd.R_reads' HO_11.out).1.symm] <;> rfl) | rfl | (simp only [List.length_drop, List.length_take]; rfl)) ?_; (with_reducible refine (laws_heldBlockS.calls kj33 _ _ t231 1 t232 _ ?side1 ?side2 A50.out).mono ?_); (case side1 => repeat (first | exact (Kd.R_reads' HO_11.out).2.2 | (with_reducible refine Kd.C_alloc ?_ _) | (with_reducible refine Kd.C_drewN ?_ _) | (with_reducible refine Kd.C_drew ?_))); (case side2 => rw [show t231.length = t218.length from (Kd.R_reads' HO_11.out).1.symm]; exact (Kd.R_reads' HO_11.out).2.1); rintro e w82 ⟨rfl, hb⟩; refine ⟨_, rfl, ?_⟩; have n0_ := Aside0.mk (Kd.R_below (by (with_reducible repeat (first | apply Kd.R_alloc | apply Kd.R_drewN | apply Kd.R_drew)); exact HO_8.out) hb); have n1_ := Aside0.mk (Kd.R_below (by (with_reducible repeat (first | apply Kd.R_alloc | apply Kd.R_drewN | apply Kd.R_drew)); exact HO_11.out) hb); have n2_ := Aside0.mk (below_step (by repeat (first | (with_reducible first | exact HB.out | apply below_alloc | apply pw_below_drewN | apply below_drew1) | exact HB.out)) hb); clear HO_8; clear HO_11; clear HB; have HO_8 := n0_; have HO_11 := n1_; have HB := n2_; clear n0_ n1_ n2_; (try clear hb); (try clear hb2); (try clear hk); (try clear hi)))
                          go_ret
                          exact ⟨by first | rfl | (simp [errW_none, errW_some] <;> rfl) | (simp [*, errW_none, errW_some] <;> rfl), by repeat (first | (with_reducible first | exact HB.out | apply below_alloc | apply pw_below_drewN | apply below_drew1) | exact HB.out)⟩
              · replace c32 := Bool.eq_false_iff.mpr c32
                subst c32
                have H1 : (some false) = some r := by rw [if_neg (show ¬ (false = true) by decide)] at H; exact H
                clear H
                have H := H1
                clear H1
                obtain rfl := Option.some.inj H
                go_wp2_with (first | ((with_reducible refine gate_callee (f := 12) rfl ?_); refine goesL_ (some 57) rfl rfl Try.func12 (by kernel_rfl) rfl #[.slice A0 l0.length c0] rfl (by (try simp only [List.map_toArray, List.map_cons, List.map_nil]); first | done | rfl | (simp only [List.length_drop, List.length_take]; rfl)) ?_; (with_reducible refine (laws_toBlockS.calls kj12 _ _ l0 t223 _ ?side1 ?side2 A30.out).mono ?_); (case side1 => repeat (first | exact (Kd.C_below HR0.out HB.out) | (with_reducible refine Kd.C_alloc ?_ _) | (with_reducible refine Kd.C_drewN ?_ _) | (with_reducible refine Kd.C_drew ?_))); (case side2 => exact HC0.out); rintro e w83 ⟨v224, rfl, ho0, hb⟩; refine ⟨_, rfl, ?_⟩; have n0_ := Aside0.mk (Kd.R_elder' (by (with_reducible repeat (first | apply Kd.R_alloc | apply Kd.R_drewN | apply Kd.R_drew)); exact HO_8.out) (Kd.R_base ho0) hb); have n1_ := Aside0.mk (Kd.R_elder' (by (with_reducible repeat (first | apply Kd.R_alloc | apply Kd.R_drewN | apply Kd.R_drew)); exact HO_10.out) (Kd.R_base ho0) hb); have n2_ := Aside0.mk (Kd.R_elder' (by (with_reducible repeat (first | apply Kd.R_alloc | apply Kd.R_drewN | apply Kd.R_drew)); exact HO_11.out) (Kd.R_base ho0) hb); have n3_ := Aside0.mk (Kd.R_lower (Kd.R_new' (Kd.R_new' (Kd.R_new' ho0 (Kd.R_lt (by (with_reducible repeat (first | apply Kd.R_alloc | apply Kd.R_drewN | apply Kd.R_drew)); exact HO_8.out))) (Kd.R_lt (by (with_reducible repeat (first | apply Kd.R_alloc | apply Kd.R_drewN | apply Kd.R_drew)); exact HO_10.out))) (Kd.R_lt (by (with_reducible repeat (first | apply Kd.R_alloc | apply Kd.R_drewN | apply Kd.R_drew)); exact HO_11.out))) (below_size (by repeat (first | (with_reducible first | exact HB.out | apply below_alloc | apply pw_below_drewN | apply below_drew1) | exact HB.out)))); have n4_ := Aside0.mk (below_step (by repeat (first | (with_reducible first | exact HB.out | apply below_alloc | apply pw_below_drewN | apply below_drew1) | exact HB.out)) hb); clear HO_8; clear HO_10; clear HO_11; clear HB; have HO_8 := n0_; have HO_10 := n1_; have HO_11 := n2_; have HO225 := n3_; have HB := n4_; clear n0_ n1_ n2_ n3_ n4_; (try clear hb); (try clear hb2); (try clear hk); (try clear hi); (try clear ho0); obtain ⟨Ao84, co84, eo84⟩ := Kd.R_slice HO225.out; subst eo84) | ((with_reducible refine gate_callee (f := 14) rfl ?_); refine goesL_ (some 58) rfl rfl Try.func14 (by kernel_rfl) rfl #[.slice Ao19 t215.length co19, .slice Ao84 t223.length co84] rfl (by (try simp only [List.map_toArray, List.map_cons, List.map_nil]); first | done | rfl | (simp only [List.length_drop, List.length_take]; rfl)) ?_; (with_reducible refine (laws_eqBlockS.calls kj12 _ _ t215 _ _ t223 false _ ?side1 ?side2 ?side3 ?side4 A31.out).mono ?_); (case side1 => repeat (first | exact (Kd.R_reads' HO_10.out).2.2 | (with_reducible refine Kd.C_alloc ?_ _) | (with_reducible refine Kd.C_drewN ?_ _) | (with_reducible refine Kd.C_drew ?_))); (case side2 => exact (Kd.R_reads' HO_10.out).2.1); (case side3 => repeat (first | exact (Kd.R_reads' HO225.out).2.2 | (with_reducible refine Kd.C_alloc ?_ _) | (with_reducible refine Kd.C_drewN ?_ _) | (with_reducible refine Kd.C_drew ?_))); (case side4 => exact (Kd.R_reads' HO225.out).2.1); rintro e w85 ⟨rfl, hb⟩; refine ⟨_, rfl, ?_⟩; have n0_ := Aside0.mk (Kd.R_below (by (with_reducible repeat (first | apply Kd.R_alloc | apply Kd.R_drewN | apply Kd.R_drew)); exact HO_8.out) hb); have n1_ := Aside0.mk (Kd.R_below (by (with_reducible repeat (first | apply Kd.R_alloc | apply Kd.R_drewN | apply Kd.R_drew)); exact HO_10.out) hb); have n2_ := Aside0.mk (Kd.R_below (by (with_reducible repeat (first | apply Kd.R_alloc | apply Kd.R_drewN | apply Kd.R_drew)); exact HO_11.out) hb); have n3_ := Aside0.mk (Kd.R_below (by (with_reducible repeat (first | apply Kd.R_alloc | apply Kd.R_drewN | apply Kd.R_drew)); exact HO225.out) hb); have n4_ := Aside0.mk (below_step (by repeat (first | (with_reducible first | exact HB.out | apply below_alloc | apply pw_below_drewN | apply below_drew1) | exact HB.out)) hb); clear HO_8; clear HO_10; clear HO_11; clear HO225; clear HB; have HO_8 := n0_; have HO_10 := n1_; have HO_11 := n2_; have HO225 := n3_; have HB := n4_; clear n0_ n1_ n2_ n3_ n4_; (try clear hb); (try clear hb2); (try clear hk); (try clear hi)))
                go_ret
                exact ⟨by first | rfl | (simp [errW_none, errW_some] <;> rfl) | (simp [*, errW_none, errW_some] <;> rfl), by repeat (first | (with_reducible first | exact HB.out | apply below_alloc | apply pw_below_drewN | apply below_drew1) | exact HB.out)⟩
end Go.Proofs.Ytnabckhhnknlaaa.XD
end

section
namespace Go.Proofs.Ytnabckhhnknlaaa.Open
open Go.ChangeShapes Go.WideShapes Go.RowKit Go.Proofs.YtnabckhhnknlaaaW.PrintWords
set_option linter.unusedVariables false
def Opens (P : Program) (t : TypeId) {α : Type} (d : Kd α) (Q : α → Prop) : Prop :=
  P.cellsOf t = d.sz ∧ ∀ (H : Type) (enc : TypeId × Value → H) (w : World) (base : Nat) (spare : Nat → Bool) (held : Bool) (fuel : Nat) (cs : List Value) (x : DataW H × List MemPlace),
    DataW.trod enc P w base spare held fuel t cs = some x → ∃ a : α, d.K w a cs ∧ Q a
theorem Opens.int {P : Program} {t : TypeId} {k : IntKind} (hu : P.underlying t = some (.int k)) (hc : P.cellsOf t = 1) : Opens P t (Kd.int k) (fun n => (Lit.int k n).wf = true) := by
  refine ⟨hc, fun H enc w base spare held fuel cs x h => ?_⟩
  obtain ⟨n, rfl, _, hw⟩ := DataW.trod_int hu h
  exact ⟨n, rfl, hw⟩
theorem Opens.bool {P : Program} {t : TypeId} (hu : P.underlying t = some .bool) (hc : P.cellsOf t = 1) : Opens P t Kd.bool (fun _ => True) := by
  refine ⟨hc, fun H enc w base spare held fuel cs x h => ?_⟩
  obtain ⟨b, rfl, _⟩ := DataW.trod_bool hu h
  exact ⟨b, rfl, trivial⟩
theorem Opens.string {P : Program} {t : TypeId} (hu : P.underlying t = some .string) (hc : P.cellsOf t = 1) : Opens P t Kd.string (fun s => s.size ≤ maxLen) := by
  refine ⟨hc, fun H enc w base spare held fuel cs x h => ?_⟩
  obtain ⟨s, rfl, _, hs⟩ := DataW.trod_string hu h
  exact ⟨s, rfl, hs⟩
theorem choose_list {α : Type} {n : Nat} {p : Nat → α → Prop} (h : ∀ i, i < n → ∃ x, p i x) : ∃ l : List α, l.length = n ∧ ∀ i x, l[i]? = some x → p i x := by
  induction n with
  | zero => exact ⟨[], rfl, fun i x hx => by simp at hx⟩
  | succ n ih =>
    obtain ⟨l, hl, hp⟩ := ih (fun i hi => h i (by omega))
    obtain ⟨x, hx⟩ := h n (by omega)
    refine ⟨l ++ [x], by simp [hl], fun i y hy => ?_⟩
    rcases Nat.lt_or_ge i l.length with hi | hi
    · rw [List.getElem?_append_left hi] at hy
      exact hp i y hy
    · have : i = l.length := by
        have := (List.getElem?_eq_some_iff.1 hy).1
        simp at this
        omega
      subst this
      simp at hy
      subst hy
      rw [hl]
      exact hx
theorem cells?_get {w : World} {base : Nat} {a : Addr} {n : Nat} {cs : List Value} (h : w.cells? base a n = some cs) (i : Nat) (u : Value) (hu : cs[i]? = some u) : w.cell? (a.add i) = some u := by
  unfold World.cells? at h
  split at h
  · have hlen : cs.length = n := by simpa using mapM_some_length h
    have hi : i < n := by
      have := (List.getElem?_eq_some_iff.1 hu).1
      omega
    have := mapM_some_get h i i (by simp [hi])
    rw [hu] at this
    exact this
  · cases h
theorem Opens.slice {P : Program} {t e : TypeId} {α : Type} {d : Kd α} {Q : α → Prop} (hu : P.underlying t = some (.slice e)) (hc : P.cellsOf t = 1) (hd : Opens P e d Q) :
    Opens P t (Kd.slice e d) (fun xs => xs.length ≤ maxLen ∧ ∀ x ∈ xs, Q x) := by
  refine ⟨hc, fun H enc w base spare held fuel cs x h => ?_⟩
  rcases Go.Deep.open_slice hu h with ⟨rfl, _⟩ | ⟨a, len, cap, m, n, D, Pl, rfl, _, hl, hm, hmm, _, hx⟩
  · exact ⟨[], ⟨none, 0, rfl, Nat.le_refl _, rfl, by simp, fun h => absurd h (by simp)⟩, by simp, fun x hx => by simp at hx⟩
  · have hlm : len ≤ m := by rw [hmm]; split <;> omega
    obtain ⟨l, hl1, hp⟩ := choose_list (n := len) (p := fun i (x : α) => ∃ cs', w.cells? base (a.add (i * d.sz)) d.sz = some cs' ∧ d.K w x cs' ∧ Q x) (fun i hi => by
      obtain ⟨cs', h1, h2⟩ := hx i (by omega)
      rw [hd.1] at h1
      obtain ⟨y, hy, hq⟩ := hd.2 H enc w base spare held n cs' _ h2
      exact ⟨y, cs', h1, hy, hq⟩)
    have hmax : (maxLen : Nat) = 9223372036854775807 := by unfold maxLen; omega
    refine ⟨l, ⟨some a, cap, by rw [hl1], by omega, rfl, by omega, fun _ => ⟨a, rfl, fun j p hj => ?_⟩⟩, by omega, fun x hx => ?_⟩
    · obtain ⟨cs', h1, h2, _⟩ := hp j p hj
      refine ⟨cs', d.K_len h2, h2, fun i u hi => ?_⟩
      have := cells?_get h1 i u hi
      rwa [Go.Deep.add_add] at this
    · obtain ⟨i, hi, rfl⟩ := List.mem_iff_getElem.1 hx
      obtain ⟨cs', _, _, h3⟩ := hp i _ (List.getElem?_eq_getElem hi)
      exact h3
def OpensF (P : Program) (fs : List Field) (off : Nat) {α : Type} (d : Kd α) (Q : α → Prop) : Prop :=
  ∀ (H : Type) (enc : TypeId × Value → H) (w : World) (base : Nat) (spare : Nat → Bool) (held : Bool) (n : Nat) (cs : List Value), off + d.sz = cs.length →
    (∀ f ∈ fs, ∃ y, DataW.trod enc P w base spare held n f.type ((cs.drop f.offset).take (P.cellsOf f.type)) = some y) → ∃ a : α, d.K w a (cs.drop off) ∧ Q a
theorem OpensF.one {P : Program} {f : Field} {off : Nat} {α : Type} {d : Kd α} {Q : α → Prop} (ho : f.offset = off) (h : Opens P f.type d Q) : OpensF P [f] off d Q := by
  intro H enc w base spare held n cs hl hf
  obtain ⟨y, hy⟩ := hf f List.mem_cons_self
  rw [ho, h.1, List.take_of_length_le (by rw [List.length_drop]; omega)] at hy
  exact h.2 H enc w base spare held n _ y hy
theorem OpensF.cons {P : Program} {f : Field} {fs : List Field} {off : Nat} {α β : Type} {d1 : Kd α} {d2 : Kd β} {Q1 : α → Prop} {Q2 : β → Prop} (ho : f.offset = off) (h : Opens P f.type d1 Q1) (hs : OpensF P fs (off + d1.sz) d2 Q2) :
    OpensF P (f :: fs) off (Kd.pair d1 d2) (fun x => Q1 x.1 ∧ Q2 x.2) := by
  intro H enc w base spare held n cs hl hf
  have hl' : off + (d1.sz + d2.sz) = cs.length := hl
  obtain ⟨y, hy⟩ := hf f List.mem_cons_self
  rw [ho, h.1] at hy
  obtain ⟨a, ha, qa⟩ := h.2 H enc w base spare held n _ y hy
  obtain ⟨b, hb, qb⟩ := hs H enc w base spare held n cs (by omega) (fun g hg => hf g (List.mem_cons_of_mem _ hg))
  refine ⟨(a, b), ⟨_, _, ?_, ha, hb⟩, qa, qb⟩
  rw [← List.drop_drop, List.take_append_drop]
theorem Opens.struct {P : Program} {t : TypeId} {fs : Array Field} {α β : Type} {d : Kd α} {Q : α → Prop} (f : β → α) (g : α → β) (hfg : ∀ x, f (g x) = x) (hu : P.underlying t = some (.struct fs)) (hc : P.cellsOf t = d.sz) (h : OpensF P fs.toList 0 d Q) :
    Opens P t (Kd.iso d f) (fun x => Q (f x)) := by
  refine ⟨hc, fun H enc w base spare held fuel cs x hx => ?_⟩
  obtain ⟨xs, n, rfl, _, hl, hxs, hf⟩ := DataW.trod_struct hu hx
  obtain ⟨a, ha, qa⟩ := h H enc w base spare held n cs (by omega) (fun f hf0 => by
    obtain ⟨i, hi, rfl⟩ := List.mem_iff_getElem.1 hf0
    have hi' : i < fs.size := by simpa using hi
    have := hf i fs[i] (Array.getElem?_eq_getElem hi')
    rw [List.getElem?_eq_getElem (by omega)] at this
    exact ⟨_, by simpa using this⟩)
  refine ⟨g a, ?_, ?_⟩
  · show d.K w (f (g a)) cs
    rw [hfg]
    simpa using ha
  · show Q (f (g a))
    rw [hfg]
    exact qa
theorem open_sl {H : Type} {enc : TypeId × Value → H} {P : Program} {W : World} {base B : Nat} {spare : Nat → Bool} {held : Bool} {t e : TypeId} {v : Value} {dd : DataW H} {ps : List MemPlace} {α : Type} {d : Kd α} {Q : α → Prop}
    (hu : P.underlying t = some (.slice e)) (hc : P.cellsOf t = 1) (hd : Opens P e d Q) (hv : Value.okWide P W .any B t v) (h : DataW.Trod enc P W base spare held t v dd ps) :
    ∃ (A : Option Addr) (c : Nat) (l : List α), v = .slice A l.length c ∧ l.length ≤ c ∧ Kd.C d W A l.length l ∧ l.length ≤ maxLen ∧ ∀ x ∈ l, Q x := by
  obtain ⟨a0, len, cap, rfl⟩ := okWide_slice hu hv
  obtain ⟨fuel, hf⟩ := h
  obtain ⟨l, ⟨A, c, he, hl, hC⟩, hm, hq⟩ := (Opens.slice hu hc hd).2 H enc W base spare held fuel _ _ hf
  refine ⟨A, c, l, ?_, hl, hC, hm, hq⟩
  simpa [Value.cells] using he
end Go.Proofs.Ytnabckhhnknlaaa.Open
end

section
namespace Go.Proofs.Ytnabckhhnknlaaa.XD
open Go.RowKit Go.Proofs.YtnabckhhnknlaaaW.PrintWords Go.Proofs.Ytnabckhhnknlaaa.Open
set_option linter.unusedVariables false
def Q42 (x : S42) : Prop := (x.f0.size ≤ maxLen) ∧ (x.f1.size ≤ maxLen) ∧ (x.f2.size ≤ maxLen)
theorem opens42 : Opens Try.prog 42 k42 Q42 := Opens.struct (fun x : S42 => (x.f0, x.f1, x.f2)) (fun p => (⟨p.1, p.2.1, p.2.2⟩ : S42)) (fun _ => rfl) Try.underlying42 (by kernel_rfl) (OpensF.cons rfl (Opens.string Try.underlying9 (by kernel_rfl)) (OpensF.cons rfl (Opens.string Try.underlying9 (by kernel_rfl)) (OpensF.one rfl (Opens.string Try.underlying9 (by kernel_rfl)))))
end Go.Proofs.Ytnabckhhnknlaaa.XD
end

section
namespace Go.Proofs.Ytnabckhhnknlaaa.XD
open Go.RowKit Go.Proofs.YtnabckhhnknlaaaW.PrintWords
def laws_FnExactDropBlock.Pure : Prop := ∀ (a0 : List (S42)), ∀ (a1 : ByteArray), ∀ (a2 : ByteArray), ((a0.length ≤ maxLen ∧ ∀ y2 ∈ a0, Q42 y2)) → (a1.size ≤ 140737488351232) → (a2.size ≤ 140737488351232) → ∃ k, laws_FnExactDropBlock.f k a0 a1 a2 = some true
end Go.Proofs.Ytnabckhhnknlaaa.XD
end

section
namespace Go.Proofs.Ytnabckhhnknlaaa.EvK
open Go.RowKit Go.Proofs.YtnabckhhnknlaaaW.PrintWords
set_option linter.unusedVariables false
theorem w64 {n : Int} (h : -9223372036854775808 ≤ n) (h' : n ≤ 9223372036854775807) : wrap64 n = n := by unfold wrap64; omega
theorem Ev.some {α : Type} {a r : α} (h : a = r) : Ev (fun _ => Option.some a) r := h ▸ Ev.now a
theorem Ev.bind_some {α β : Type} {g : Nat → Option α} {f : Nat → α → Option β} {a : α} {r : β} (h : Ev g a) (k : Ev (fun n => f n a) r) : Ev (fun n => (g n).bind (f n)) r := Ev.bind h k
theorem getD_at {α : Type} (l : List α) (d : α) (i : Nat) (h : i < l.length) : l.getD (i : Int).toNat d = l[i] := by
  simp [List.getD_eq_getElem?_getD, List.getElem?_eq_getElem h]
theorem map_done {α β : Type} (f : α → β) (l : List α) (z : β) (i : Nat) (h : i < l.length) :
    ((l.take i).map f ++ List.replicate (l.length - i) z).set i (f l[i]) = (l.take (i + 1)).map f ++ List.replicate (l.length - (i + 1)) z := by
  have e : l.length - i = (l.length - (i + 1)) + 1 := by omega
  rw [List.set_append_right _ _ (by simp; omega), e, List.replicate_succ]
  have e2 : i - ((l.take i).map f).length = 0 := by simp; omega
  rw [e2, List.set_cons_zero, List.take_succ_eq_append_getElem h, List.map_append]
  simp
theorem done_len {α β : Type} (f : α → β) (l : List α) (z : β) (i : Nat) (h : i ≤ l.length) : ((l.take i).map f ++ List.replicate (l.length - i) z).length = l.length := by simp; omega
def EvP {α : Type} (g : Nat → Option α) (P : α → Prop) : Prop := ∃ r, Ev g r ∧ P r
theorem EvP.now {α : Type} {r : α} {P : α → Prop} (h : P r) : EvP (fun _ => Option.some r) P := ⟨r, Ev.now r, h⟩
theorem EvP.of {α : Type} {g : Nat → Option α} {r : α} {P : α → Prop} (h : Ev g r) (hp : P r) : EvP g P := ⟨r, h, hp⟩
theorem EvP.mono {α : Type} {g : Nat → Option α} {P Q : α → Prop} (h : EvP g P) (hp : ∀ r, P r → Q r) : EvP g Q := by
  obtain ⟨r, h1, h2⟩ := h
  exact ⟨r, h1, hp _ h2⟩
theorem EvP.eq {α : Type} {g : Nat → Option α} {r : α} (h : EvP g (· = r)) : Ev g r := by
  obtain ⟨r', h, rfl⟩ := h
  exact h
theorem EvP.step {α : Type} {g f : Nat → Option α} {P : α → Prop} (h : ∀ k, g (k + 1) = f k) (k : EvP f P) : EvP g P := by
  obtain ⟨r, h1, h2⟩ := k
  exact ⟨r, Ev.step h h1, h2⟩
theorem EvP.bind {α β : Type} {g : Nat → Option α} {f : Nat → α → Option β} {a : α} {P : β → Prop} (h : Ev g a) (k : EvP (fun n => f n a) P) : EvP (fun n => (g n).bind (f n)) P := by
  obtain ⟨r, h1, h2⟩ := k
  exact ⟨r, Ev.bind h h1, h2⟩
theorem EvP.bindP {α β : Type} {g : Nat → Option α} {f : Nat → α → Option β} {Q : α → Prop} {P : β → Prop} (h : EvP g Q) (k : ∀ a, Q a → EvP (fun n => f n a) P) : EvP (fun n => (g n).bind (f n)) P := by
  obtain ⟨a, ha, hq⟩ := h
  exact EvP.bind ha (k a hq)
theorem EvP.rounds {α : Type} {g : Nat → Option α} {r : α} (h : EvP g (· = r)) : ∃ k, g k = Option.some r := Ev.rounds (EvP.eq h)
theorem for_evp {σ ρ : Type} {L : Nat → σ → Int → Option ρ} {Post : ρ → Prop} (n : Nat) (inv : Nat → σ → Prop)
    (step : ∀ (i : Nat) (s : σ), i < n → inv i s → (∀ s', inv (i + 1) s' → EvP (fun k => L k s' ((i : Int) + 1)) Post) → EvP (fun k => L k s i) Post)
    (fin : ∀ s, inv n s → EvP (fun k => L k s n) Post) (s : σ) (h0 : inv 0 s) : EvP (fun k => L k s 0) Post := by
  have key : ∀ (d i : Nat) (s : σ), i + d = n → inv i s → EvP (fun k => L k s i) Post := by
    intro d
    induction d with
    | zero =>
      intro i s hi hs
      obtain rfl : i = n := by omega
      exact fin s hs
    | succ d ih =>
      intro i s hi hs
      refine step i s (by omega) hs (fun s' hs' => ?_)
      simpa using ih (i + 1) s' (by omega) hs'
  simpa using key n 0 s (by omega) h0
theorem take_all {α : Type} {p : α → Prop} {l : List α} {i : Nat} (h : i < l.length) (hs : ∀ x ∈ l.take i, p x) (hx : p l[i]) : ∀ x ∈ l.take (i + 1), p x := by
  rw [List.take_succ_eq_append_getElem h]
  intro x hm
  rcases List.mem_append.1 hm with hm | hm
  · exact hs x hm
  · rw [List.mem_singleton.1 hm]
    exact hx
theorem set_done {α : Type} (E : Nat → α) (l : List α) (i : Nat) (h : i < l.length) : ((List.range i).map E ++ l.drop i).set i (E i) = (List.range (i + 1)).map E ++ l.drop (i + 1) := by
  rw [List.set_append_right _ _ (by simp), List.range_succ, List.map_append, List.append_assoc]
  congr 1
  rw [List.length_map, List.length_range, Nat.sub_self, List.drop_eq_getElem_cons h]
  rfl
theorem getD_set_self {α : Type} (l : List α) (i : Nat) (v d : α) (h : i < l.length) : (l.set i v).getD i d = v := by
  simp [List.getD_eq_getElem?_getD, h]
theorem all_ev {α : Type} {L : Nat → Int → Option Bool} (l : List α) (p : α → Bool) (b : Bool)
    (step : ∀ (i : Nat) (h : i < l.length), p l[i] = true → ∀ P, EvP (fun k => L k ((i : Int) + 1)) P → EvP (fun k => L k i) P)
    (stop : ∀ (i : Nat) (h : i < l.length), p l[i] = false → Ev (fun k => L k i) false)
    (fin : Ev (fun k => L k l.length) b) : Ev (fun k => L k 0) (l.all p && b) := by
  apply EvP.eq
  refine for_evp (L := fun k (_ : Unit) i => L k i) l.length (fun i _ => ∀ x ∈ l.take i, p x = true) ?_ ?_ () (by simp)
  · intro i _ hi hs K
    cases hp : p l[i] with
    | true => exact step i hi hp _ (K () (take_all hi hs hp))
    | false =>
      have e : l.all p = false := by
        rw [List.all_eq_false]
        exact ⟨l[i], List.getElem_mem hi, by simp [hp]⟩
      rw [e]
      exact EvP.of (stop i hi hp) rfl
  · intro _ hs
    have e : l.all p = true := by
      rw [List.all_eq_true]
      simpa using hs
    rw [e]
    exact EvP.of fin rfl
theorem bytes_at_ (s : ByteArray) (i : Nat) (h : i < s.data.toList.length) : bt s (i : Int) = ((s.data.toList[i]).toNat : Int) := by
  have h' : i < s.size := by simpa using h
  unfold bt
  rw [dif_pos (by simpa using h')]
  simp
  rfl
theorem size_len (s : ByteArray) : (s.size : Int) = (s.data.toList.length : Int) := by simp
theorem size_len' (s : ByteArray) : s.size = s.data.toList.length := by simp
end Go.Proofs.Ytnabckhhnknlaaa.EvK
end

section
namespace Go.Proofs.Ytnabckhhnknlaaa.PBasics
open Go.RowKit Go.Proofs.YtnabckhhnknlaaaW.PrintWords Go.Proofs.Ytnabckhhnknlaaa.XD Go.Proofs.Ytnabckhhnknlaaa.EvK
set_option linter.unusedVariables false
set_option linter.unusedSimpArgs false
def smallB (c : UInt8) : Bool := decide (97 ≤ (c.toNat : Int)) && decide ((c.toNat : Int) ≤ 122)
def digB (c : UInt8) : Bool := decide (48 ≤ (c.toNat : Int)) && decide ((c.toNat : Int) ≤ 57)
def nameB (c : UInt8) : Bool := smallB c || digB c
def nameOk (s : ByteArray) : Bool := match s.data.toList with
  | [] => false
  | c :: l => decide ((s.size : Int) ≤ 10) && smallB c && (c :: l).all nameB
theorem small_eq (c : UInt8) : spec_l01Small.f (c.toNat : Int) = some (smallB c) := by
  unfold spec_l01Small.f smallB
  by_cases h : (c.toNat : Int) ≥ 97
  · rw [if_pos h, decide_eq_true (show (97 : Int) ≤ c.toNat from h), Bool.true_and]
  · rw [if_neg h, decide_eq_false (show ¬ (97 : Int) ≤ c.toNat from h), Bool.false_and]
theorem dig_eq (c : UInt8) : spec_l01Digit.f (c.toNat : Int) = some (digB c) := by
  unfold spec_l01Digit.f digB
  by_cases h : (c.toNat : Int) ≥ 48
  · rw [if_pos h, decide_eq_true (show (48 : Int) ≤ c.toNat from h), Bool.true_and]
  · rw [if_neg h, decide_eq_false (show ¬ (48 : Int) ≤ c.toNat from h), Bool.false_and]
theorem onlyName_ev (s : ByteArray) (h : s.size ≤ 1048576) : Ev (fun k => impl_onlyNameBytes.f k s) (s.data.toList.all nameB) := by
  unfold impl_onlyNameBytes.f
  rw [size_len'] at h
  have := all_ev (L := fun k i => impl_onlyNameBytes.l0 k s (s.size : Int) i) s.data.toList nameB true ?_ ?_ ?_
  · simpa using this
  · intro i hi hp P K
    refine EvP.step (fun k => impl_onlyNameBytes.l0.eq_2 _ _ _ k) ?_
    simp only [size_len] at K
    simp only [size_len, if_pos (show (i : Int) < (s.data.toList.length : Int) by omega), if_pos (show (0 : Int) ≤ (i : Int) by omega), bytes_at_ s i hi, w64 (show -9223372036854775808 ≤ (i : Int) + 1 by omega) (by omega)]
    simp only [nameB, smallB, digB, Bool.or_eq_true, Bool.and_eq_true, decide_eq_true_eq] at hp
    by_cases h1 : ((s.data.toList[i]).toNat : Int) < 97
    · simp only [if_pos h1, if_neg (show ¬ ((s.data.toList[i]).toNat : Int) < 48 by omega), if_neg (show ¬ ((s.data.toList[i]).toNat : Int) > 57 by omega)]
      exact K
    · simp only [if_neg h1, if_neg (show ¬ ((s.data.toList[i]).toNat : Int) > 122 by omega)]
      exact K
  · intro i hi hp
    refine Ev.step (fun k => impl_onlyNameBytes.l0.eq_2 _ _ _ k) ?_
    simp only [size_len, if_pos (show (i : Int) < (s.data.toList.length : Int) by omega), if_pos (show (0 : Int) ≤ (i : Int) by omega), bytes_at_ s i hi, w64 (show -9223372036854775808 ≤ (i : Int) + 1 by omega) (by omega)]
    simp only [nameB, smallB, digB, Bool.or_eq_false_iff, Bool.and_eq_false_iff, decide_eq_false_iff_not] at hp
    by_cases h1 : ((s.data.toList[i]).toNat : Int) < 97
    · by_cases h2 : ((s.data.toList[i]).toNat : Int) < 48
      · simp only [if_pos h1, if_pos h2]; exact Ev.now _
      · simp only [if_pos h1, if_neg h2, if_pos (show ((s.data.toList[i]).toNat : Int) > 57 by omega)]; exact Ev.now _
    · simp only [if_neg h1, if_pos (show ((s.data.toList[i]).toNat : Int) > 122 by omega), if_neg (show ¬ ((s.data.toList[i]).toNat : Int) < 48 by omega), if_pos (show ((s.data.toList[i]).toNat : Int) > 57 by omega)]
      exact Ev.now _
  · refine Ev.step (fun k => impl_onlyNameBytes.l0.eq_2 _ _ _ k) ?_
    simp only [size_len, if_neg (show ¬ (s.data.toList.length : Int) < (s.data.toList.length : Int) by omega)]
    exact Ev.now _
theorem head_at (s : ByteArray) (c : UInt8) (l : List UInt8) (hl : s.data.toList = c :: l) : bt s 0 = (c.toNat : Int) := by
  have h : 0 < s.data.toList.length := by rw [hl]; simp
  have := bytes_at_ s 0 h
  rw [show ((0 : Nat) : Int) = 0 from rfl] at this
  rw [this]
  simp only [hl, List.getElem_cons_zero]
theorem isName_ev (s : ByteArray) (h : s.size ≤ 1048576) : Ev (fun k => impl_IsName.f k s) (nameOk s) := by
  unfold impl_IsName.f nameOk
  cases hl : s.data.toList with
  | nil =>
    have hz : s.size = 0 := by rw [size_len', hl]; rfl
    simp only [hz, Int.natCast_zero, if_pos (show (0 : Int) < 1 by omega)]
    exact Ev.now _
  | cons c l =>
    have hz : s.size = l.length + 1 := by rw [size_len', hl]; rfl
    have ho := onlyName_ev s h
    rw [hl] at ho
    simp only [if_neg (show ¬ (s.size : Int) < 1 by omega), if_pos (show (0 : Int) < (s.size : Int) by omega), head_at s c l hl]
    by_cases h1 : (s.size : Int) > 10
    · simp only [if_pos h1, decide_eq_false (show ¬ (s.size : Int) ≤ 10 by omega), Bool.false_and]
      exact Ev.now _
    · simp only [if_neg h1, decide_eq_true (show (s.size : Int) ≤ 10 by omega), Bool.true_and]
      by_cases h2 : (c.toNat : Int) < 97
      · simp only [if_pos h2, smallB, decide_eq_false (show ¬ (97 : Int) ≤ c.toNat by omega), Bool.false_and]
        exact Ev.now _
      · by_cases h3 : (c.toNat : Int) > 122
        · simp only [if_neg h2, if_pos h3, smallB, decide_eq_false (show ¬ (c.toNat : Int) ≤ 122 by omega), Bool.false_and, Bool.and_false]
          exact Ev.now _
        · simp only [if_neg h2, if_neg h3, smallB, decide_eq_true (show (97 : Int) ≤ c.toNat by omega), decide_eq_true (show (c.toNat : Int) ≤ 122 by omega), Bool.true_and]
          exact Ev.bind ho (Ev.now _)
theorem toList_eq (s : ByteArray) : s.toList = s.data.toList := by
  have := Lib.toList_data s
  first | exact this | exact this.symm
theorem specName_ev (s : ByteArray) (h : s.size ≤ 1048576) : Ev (fun k => spec_l01Name.f k s) (nameOk s) := by
  unfold spec_l01Name.f nameOk
  have hj : Ev (fun k => spec_l01Name.j0 k s true) false := by
    refine Ev.step (fun k => spec_l01Name.j0.eq_2 _ _ k) ?_
    simp only [if_true]
    exact Ev.now _
  cases hl : s.data.toList with
  | nil =>
    simp only [toList_eq, hl, if_true]
    exact hj
  | cons c l =>
    have hz : s.size = l.length + 1 := by rw [size_len', hl]; rfl
    simp only [toList_eq, hl, reduceCtorEq, if_false, if_pos (show (0 : Int) < (s.size : Int) by omega), head_at s c l hl, small_eq, Option.bind_some]
    by_cases h1 : (s.size : Int) > 10
    · simp only [if_pos h1, decide_eq_false (show ¬ (s.size : Int) ≤ 10 by omega), Bool.false_and]
      exact hj
    simp only [if_neg h1, decide_eq_true (show (s.size : Int) ≤ 10 by omega), Bool.true_and]
    cases hs : smallB c with
    | false =>
      simp only [Bool.not_false, Bool.false_and]
      exact hj
    | true =>
      simp only [Bool.not_true, Bool.true_and]
      refine Ev.step (fun k => spec_l01Name.j0.eq_2 _ _ k) ?_
      simp only [Bool.false_eq_true, if_false]
      rw [← hl]
      rw [size_len'] at h
      have := all_ev (L := fun k i => spec_l01Name.l0 k s i) s.data.toList nameB true ?_ ?_ ?_
      · simpa using this
      · intro i hi hp P K
        refine EvP.step (fun k => spec_l01Name.l0.eq_2 _ _ k) ?_
        simp only [size_len, if_pos (show (i : Int) < (s.data.toList.length : Int) by omega), if_pos (show (0 : Int) ≤ (i : Int) by omega), bytes_at_ s i hi, w64 (show -9223372036854775808 ≤ (i : Int) + 1 by omega) (by omega), small_eq, dig_eq, Option.bind_some]
        cases h2 : smallB s.data.toList[i] with
        | true => simp only [if_true]; exact K
        | false =>
          simp only [nameB, h2, Bool.false_or] at hp
          simp only [hp, Bool.false_eq_true, if_false, if_true]
          exact K
      · intro i hi hp
        refine Ev.step (fun k => spec_l01Name.l0.eq_2 _ _ k) ?_
        simp only [nameB, Bool.or_eq_false_iff] at hp
        simp only [size_len, if_pos (show (i : Int) < (s.data.toList.length : Int) by omega), if_pos (show (0 : Int) ≤ (i : Int) by omega), bytes_at_ s i hi, w64 (show -9223372036854775808 ≤ (i : Int) + 1 by omega) (by omega), small_eq, dig_eq, Option.bind_some, hp.1, hp.2, Bool.false_eq_true, if_false]
        exact Ev.now _
      · refine Ev.step (fun k => spec_l01Name.l0.eq_2 _ _ k) ?_
        simp only [size_len, if_neg (show ¬ (s.data.toList.length : Int) < (s.data.toList.length : Int) by omega)]
        exact Ev.now _
end Go.Proofs.Ytnabckhhnknlaaa.PBasics
end

section
namespace Go.Proofs.Ytnabckhhnknlaaa.EvK
open Go.RowKit Go.Proofs.YtnabckhhnknlaaaW.PrintWords
set_option linter.unusedVariables false
theorem all_to {α ρ : Type} {L : Nat → Int → Option ρ} (l : List α) (p : α → Bool) (yes no : ρ)
    (step : ∀ (i : Nat) (h : i < l.length), p l[i] = true → ∀ P, EvP (fun k => L k ((i : Int) + 1)) P → EvP (fun k => L k i) P)
    (stop : ∀ (i : Nat) (h : i < l.length), p l[i] = false → Ev (fun k => L k i) no)
    (fin : l.all p = true → Ev (fun k => L k l.length) yes) : Ev (fun k => L k 0) (if l.all p = true then yes else no) := by
  apply EvP.eq
  refine for_evp (L := fun k (_ : Unit) i => L k i) l.length (fun i _ => ∀ x ∈ l.take i, p x = true) ?_ ?_ () (by simp)
  · intro i _ hi hs K
    cases hp : p l[i] with
    | true => exact step i hi hp _ (K () (take_all hi hs hp))
    | false =>
      have e : l.all p = false := by
        rw [List.all_eq_false]
        exact ⟨l[i], List.getElem_mem hi, by simp [hp]⟩
      rw [e]
      exact EvP.of (stop i hi hp) rfl
  · intro _ hs
    have e : l.all p = true := by
      rw [List.all_eq_true]
      simpa using hs
    rw [e]
    exact EvP.of (fin e) rfl
theorem all_n {ρ : Type} {L : Nat → Int → Option ρ} (n : Nat) (p : Nat → Bool) (yes no : ρ)
    (step : ∀ (i : Nat), i < n → p i = true → ∀ P, EvP (fun k => L k ((i : Int) + 1)) P → EvP (fun k => L k i) P)
    (stop : ∀ (i : Nat), i < n → p i = false → Ev (fun k => L k i) no)
    (fin : Ev (fun k => L k n) yes) : Ev (fun k => L k 0) (if (List.range n).all p = true then yes else no) := by
  have := all_to (L := L) (List.range n) p yes no ?_ ?_ ?_
  · exact this
  · intro i hi hp P K
    simp only [List.length_range, List.getElem_range] at hi hp
    exact step i hi hp P K
  · intro i hi hp
    simp only [List.length_range, List.getElem_range] at hi hp
    exact stop i hi hp
  · intro _
    simpa using fin
theorem contains_byte (l : List UInt8) (c : UInt8) : Lib.contains l [c] = !(l.all (fun x => !(x == c))) := by
  unfold Lib.contains
  rw [Lib.index_one]
  by_cases h : 0 ≤ Lib.indexByte l c
  · obtain ⟨h1, _⟩ := Lib.indexByte_some (l := l) (c := c) (o := (Lib.indexByte l c).toNat) (by omega)
    have e : l.all (fun x => !(x == c)) = false := by
      rw [List.all_eq_false]
      exact ⟨c, List.mem_of_getElem? h1, by simp⟩
    rw [decide_eq_true h, e]; rfl
  · have hm : Lib.indexByte l c = -1 := by have := Lib.indexByte_ge l c; omega
    have hn := Lib.indexByte_none hm
    have e : l.all (fun x => !(x == c)) = true := by
      rw [List.all_eq_true]
      intro x hx
      obtain ⟨k, hk⟩ := List.getElem?_of_mem hx
      have := hn k
      rw [hk] at this
      simpa using this
    rw [decide_eq_false h, e]; rfl
end Go.Proofs.Ytnabckhhnknlaaa.EvK
end

section
namespace Go.Proofs.Ytnabckhhnknlaaa.PBlocks
open Go.RowKit Go.Proofs.YtnabckhhnknlaaaW.PrintWords Go.Proofs.Ytnabckhhnknlaaa.XD Go.Proofs.Ytnabckhhnknlaaa.EvK Go.Proofs.Ytnabckhhnknlaaa.PBasics
set_option linter.unusedVariables false
set_option linter.unusedSimpArgs false
def noNl (t : ByteArray) : Bool := t.data.toList.all (fun x => !(x == 10))
def blockOk (a b t : ByteArray) : Bool := nameOk a && (nameOk b && (decide ((t.size : Int) ≤ 400) && noNl t))
theorem validBlock_ev (a b t : ByteArray) (ha : a.size ≤ 1048576) (hb : b.size ≤ 1048576) (ht : t.size ≤ 1048576) : Ev (fun k => impl_ValidBlock.f k a b t) (blockOk a b t) := by
  unfold impl_ValidBlock.f blockOk strings_Contains.f
  rw [if_pos (show t.size < 4294967281 by omega)]
  refine Ev.bind (isName_ev a ha) ?_
  cases nameOk a with
  | false => exact Ev.now _
  | true =>
    simp only [if_true, Bool.true_and]
    refine Ev.bind (isName_ev b hb) ?_
    cases nameOk b with
    | false => exact Ev.now _
    | true =>
      simp only [if_true, Bool.true_and]
      by_cases h : (t.size : Int) ≤ 400
      · simp only [if_pos h, Option.bind_some, decide_eq_true h, Bool.true_and, contains_byte t.data.toList 10, Bool.not_not]
        exact Ev.now _
      · simp only [if_neg h, decide_eq_false h, Bool.false_and]
        exact Ev.now _
theorem oneBlock_ev (a b t : ByteArray) (ha : a.size ≤ 1048576) (hb : b.size ≤ 1048576) (ht : t.size ≤ 1048576) : Ev (fun k => spec_l29One.f k a b t) (blockOk a b t) := by
  unfold spec_l29One.f
  rw [size_len'] at ht
  have e : blockOk a b t = if (t.data.toList.all fun x => !(x == 10)) = true then (nameOk a && (nameOk b && decide ((t.size : Int) ≤ 400))) else false := by
    unfold blockOk noNl
    cases (t.data.toList.all fun x => !(x == 10)) <;> simp
  rw [e]
  refine all_to (L := fun k i => spec_l29One.l0 k i a b t) t.data.toList _ _ _ ?_ ?_ ?_
  · intro i hi hp P K
    refine EvP.step (fun k => spec_l29One.l0.eq_2 _ _ _ _ k) ?_
    have hn : ¬ ((t.data.toList[i].toNat : Int) = 10) := by
      intro h
      have : t.data.toList[i] = 10 := UInt8.toNat_inj.1 (by rw [show ((10 : UInt8).toNat) = 10 from rfl]; omega)
      rw [this] at hp
      exact absurd hp (by decide)
    simp only [size_len, if_pos (show (i : Int) < (t.data.toList.length : Int) by omega), if_pos (show (0 : Int) ≤ (i : Int) by omega), bytes_at_ t i hi, if_neg hn, w64 (show -9223372036854775808 ≤ (i : Int) + 1 by omega) (by omega)]
    simpa only [size_len] using K
  · intro i hi hp
    refine Ev.step (fun k => spec_l29One.l0.eq_2 _ _ _ _ k) ?_
    have hn : ((t.data.toList[i].toNat : Int) = 10) := by
      have : t.data.toList[i] = 10 := by simpa using hp
      rw [this]; rfl
    simp only [size_len, if_pos (show (i : Int) < (t.data.toList.length : Int) by omega), if_pos (show (0 : Int) ≤ (i : Int) by omega), bytes_at_ t i hi, if_pos hn]
    exact Ev.now _
  · intro _
    refine Ev.step (fun k => spec_l29One.l0.eq_2 _ _ _ _ k) ?_
    simp only [size_len, if_neg (show ¬ (t.data.toList.length : Int) < (t.data.toList.length : Int) by omega)]
    refine Ev.bind (specName_ev a ha) ?_
    cases nameOk a with
    | false => exact Ev.now _
    | true =>
      simp only [if_true, Bool.true_and]
      refine Ev.bind (specName_ev b hb) ?_
      cases nameOk b with
      | false => exact Ev.now _
      | true =>
        simp only [if_true, Bool.true_and]
        exact Ev.now _
end Go.Proofs.Ytnabckhhnknlaaa.PBlocks
end

section
namespace Go.Proofs.Ytnabckhhnknlaaa.PBlockL
open Go.RowKit Go.Proofs.YtnabckhhnknlaaaW.PrintWords Go.Proofs.Ytnabckhhnknlaaa.XD Go.Proofs.Ytnabckhhnknlaaa.EvK Go.Proofs.Ytnabckhhnknlaaa.PBasics Go.Proofs.Ytnabckhhnknlaaa.PBlocks
set_option linter.unusedVariables false
set_option linter.unusedSimpArgs false
def lessS (a b : ByteArray) : Bool := Op.bytesLess a.data.toList b.data.toList
def before (a b : S45) : Bool := lessS a.f0 b.f0 || (decide (a.f0.data.toList = b.f0.data.toList) && lessS a.f1 b.f1)
def cmpS (a b : ByteArray) : Int := if lessS a b = true then -1 else if lessS b a = true then 1 else 0
def cmpB (a b : S45) : Int := if cmpS a.f0 b.f0 = 0 then cmpS a.f1 b.f1 else cmpS a.f0 b.f0
theorem less_ge' (a b : ByteArray) : (lessS a b || decide (a.data.toList = b.data.toList)) = !(lessS b a) := by
  have h := less_ge a.data.toList b.data.toList
  unfold lessS
  rw [← h]
  congr 1
  rw [Bool.eq_iff_iff]
  simp
theorem less_ge2 (a b : ByteArray) : (lessS b a || decide (a.data.toList = b.data.toList)) = !(lessS a b) := by
  rw [← less_ge' b a]
  congr 1
  rw [Bool.eq_iff_iff, decide_eq_true_eq, decide_eq_true_eq]
  exact eq_comm
theorem cmpB_ge (a b : S45) : 0 ≤ cmpB a b ↔ before a b = false := by
  have h := less_ge' a.f0 b.f0
  unfold cmpB before cmpS
  cases h1 : lessS a.f0 b.f0 <;> cases h2 : lessS b.f0 a.f0 <;> cases h3 : lessS a.f1 b.f1 <;> cases h4 : lessS b.f1 a.f1 <;> simp_all
theorem cmpB_zero (a b : S45) : cmpB a b = 0 ↔ a.f0.data.toList = b.f0.data.toList ∧ a.f1.data.toList = b.f1.data.toList := by
  have h := less_ge' a.f0 b.f0
  have g := less_ge' a.f1 b.f1
  have h' := less_ge2 a.f0 b.f0
  have g' := less_ge2 a.f1 b.f1
  unfold cmpB cmpS
  cases h1 : lessS a.f0 b.f0 <;> cases h2 : lessS b.f0 a.f0 <;> cases h3 : lessS a.f1 b.f1 <;> cases h4 : lessS b.f1 a.f1 <;> simp_all
theorem compare_eq (a b : ByteArray) : cmp_Compare_string.f a b = some (cmpS a b) := by
  unfold cmp_Compare_string.f cmp_isNaN_string.f cmpS lessS
  simp only [bne_self_eq_false, Option.bind_some, Bool.false_eq_true, if_false, toList_eq]
  by_cases h1 : Op.bytesLess a.data.toList b.data.toList = true
  · simp only [if_pos h1]
  · simp only [if_neg h1]
    by_cases h2 : Op.bytesLess b.data.toList a.data.toList = true
    · simp only [if_pos h2]
    · simp only [if_neg h2]
theorem or_ev (a b : Int) : Ev (fun k => cmp_Or_int.f k [a, b]) (if a = 0 then b else a) := by
  unfold cmp_Or_int.f
  have w1 : wrap64 (0 + 1) = 1 := by rw [w64 (by omega) (by omega)]; rfl
  have w2 : wrap64 (1 + 1) = 2 := by rw [w64 (by omega) (by omega)]; rfl
  have r0 : rd [a, b] 0 = a := rfl
  have r1 : rd [a, b] 1 = b := rfl
  have hl : (([a, b] : List Int).length : Int) = 2 := rfl
  refine Ev.step (fun k => cmp_Or_int.l0.eq_2 _ _ _ _ k) ?_
  simp only [hl, w1, r0, if_pos (show (0 : Int) < 2 by omega), if_pos (show (0 : Int) ≤ 0 by omega)]
  by_cases ha : a = 0
  · simp only [if_pos ha]
    refine Ev.step (fun k => cmp_Or_int.l0.eq_2 _ _ _ _ k) ?_
    simp only [hl, w2, r1, if_pos (show (1 : Int) < 2 by omega), if_pos (show (0 : Int) ≤ 1 by omega)]
    by_cases hb : b = 0
    · simp only [if_pos hb]
      refine Ev.step (fun k => cmp_Or_int.l0.eq_2 _ _ _ _ k) ?_
      simp only [hl, if_neg (show ¬ (2 : Int) < 2 by omega), hb]
      exact Ev.now _
    · simp only [if_neg hb]; exact Ev.now _
  · simp only [if_neg ha]; exact Ev.now _
theorem compareB_ev (a b : S45) : Ev (fun k => impl_compareBlocks.f k a.f0 a.f1 a.f2 b.f0 b.f1 b.f2) (cmpB a b) := by
  unfold impl_compareBlocks.f
  simp only [compare_eq, Option.bind_some]
  exact Ev.bind (or_ev _ _) (Ev.now _)
theorem before_eq (a b : S45) : spec_l29Before.f a.f0 a.f1 a.f2 b.f0 b.f1 b.f2 = some (before a b) := by
  unfold spec_l29Before.f before
  simp only [toList_eq]
  show (if lessS a.f0 b.f0 = true then some true else if a.f0.data.toList = b.f0.data.toList then some (lessS a.f1 b.f1) else some false) = _
  cases lessS a.f0 b.f0
  · by_cases h : a.f0.data.toList = b.f0.data.toList <;> simp [h]
  · simp
def okAt (l : List S45) (i : Nat) : Bool := let b := l.getD i z45; blockOk b.f0 b.f1 b.f2 && (decide (i = 0) || before (l.getD (i - 1) z45) b)
def listOk (l : List S45) : Bool := (List.range l.length).all (okAt l) && decide ((l.length : Int) ≤ 32)
def Small (l : List S45) : Prop := l.length ≤ 1048576 ∧ ∀ x ∈ l, x.f0.size ≤ 1048576 ∧ x.f1.size ≤ 1048576 ∧ x.f2.size ≤ 1048576
theorem rd_nat (l : List S45) (i : Nat) : rd_T45 l (i : Int) = l.getD i z45 := rfl
theorem getD_mem {l : List S45} {i : Nat} (h : i < l.length) : l.getD i z45 ∈ l := by
  rw [List.getD_eq_getElem?_getD, List.getElem?_eq_getElem h]
  exact List.getElem_mem h
theorem specOk_ev (l : List S45) (hs : Small l) : Ev (fun k => spec_l29Ok.f k l) (listOk l) := by
  have hl := hs.1
  unfold spec_l29Ok.f listOk
  have e : ((List.range l.length).all (okAt l) && decide ((l.length : Int) ≤ 32)) = if (List.range l.length).all (okAt l) = true then decide ((l.length : Int) ≤ 32) else false := by
    cases (List.range l.length).all (okAt l) <;> simp
  rw [e]
  refine all_n (L := fun k i => spec_l29Ok.l0 k l i) l.length (okAt l) _ _ ?_ ?_ ?_
  · intro i hi hp P K
    obtain ⟨z0, z1, z2⟩ := hs.2 _ (getD_mem hi)
    refine EvP.step (fun k => spec_l29Ok.l0.eq_2 _ _ k) ?_
    simp only [if_pos (show (i : Int) < (l.length : Int) by omega), if_pos (show (0 : Int) ≤ (i : Int) by omega), rd_nat, w64 (show -9223372036854775808 ≤ (i : Int) + 1 by omega) (by omega), w64 (show -9223372036854775808 ≤ (i : Int) - 1 by omega) (by omega)]
    simp only [okAt, Bool.and_eq_true, Bool.or_eq_true, decide_eq_true_eq] at hp
    refine EvP.bind (oneBlock_ev _ _ _ z0 z1 z2) ?_
    simp only [hp.1, if_true]
    by_cases h0 : i = 0
    · simp only [if_neg (show ¬ (i : Int) > 0 by omega)]
      exact K
    · have hb : before (l.getD (i - 1) z45) (l.getD i z45) = true := by rcases hp.2 with h | h; exact absurd h h0; exact h
      have ei : ((i : Int) - 1) = ((i - 1 : Nat) : Int) := by omega
      simp only [if_pos (show (i : Int) > 0 by omega), ei, rd_nat, if_pos (show (0 : Int) ≤ ((i - 1 : Nat) : Int) by omega), if_pos (show ((i - 1 : Nat) : Int) < (l.length : Int) by omega), before_eq, hb, Option.bind_some, if_true]
      exact K
  · intro i hi hp
    obtain ⟨z0, z1, z2⟩ := hs.2 _ (getD_mem hi)
    refine Ev.step (fun k => spec_l29Ok.l0.eq_2 _ _ k) ?_
    simp only [if_pos (show (i : Int) < (l.length : Int) by omega), if_pos (show (0 : Int) ≤ (i : Int) by omega), rd_nat, w64 (show -9223372036854775808 ≤ (i : Int) + 1 by omega) (by omega), w64 (show -9223372036854775808 ≤ (i : Int) - 1 by omega) (by omega)]
    refine Ev.bind (oneBlock_ev _ _ _ z0 z1 z2) ?_
    simp only [okAt, Bool.and_eq_false_iff, Bool.or_eq_false_iff, decide_eq_false_iff_not] at hp
    cases hk : blockOk (l.getD i z45).f0 (l.getD i z45).f1 (l.getD i z45).f2 with
    | false => simp only [Bool.false_eq_true, if_false]; exact Ev.now _
    | true =>
      obtain ⟨h0, hb⟩ : i ≠ 0 ∧ before (l.getD (i - 1) z45) (l.getD i z45) = false := by rcases hp with h | h; rw [hk] at h; exact absurd h (by decide); exact h
      have ei : ((i : Int) - 1) = ((i - 1 : Nat) : Int) := by omega
      simp only [if_pos (show (i : Int) > 0 by omega), ei, rd_nat, if_pos (show (0 : Int) ≤ ((i - 1 : Nat) : Int) by omega), if_pos (show ((i - 1 : Nat) : Int) < (l.length : Int) by omega), before_eq, hb, Option.bind_some, if_true, Bool.false_eq_true, if_false]
      exact Ev.now _
  · refine Ev.step (fun k => spec_l29Ok.l0.eq_2 _ _ k) ?_
    simp only [if_neg (show ¬ (l.length : Int) < (l.length : Int) by omega)]
    exact Ev.now _
theorem implOk_ev (l : List S45) (hs : Small l) : Ev (fun k => impl_ValidBlocks.f k l) (listOk l) := by
  have hl := hs.1
  unfold impl_ValidBlocks.f listOk
  by_cases h32 : (l.length : Int) > 32
  · simp only [if_pos h32, decide_eq_false (show ¬ (l.length : Int) ≤ 32 by omega), Bool.and_false]
    exact Ev.now _
  simp only [if_neg h32, decide_eq_true (show (l.length : Int) ≤ 32 by omega), Bool.and_true]
  have e : (List.range l.length).all (okAt l) = if (List.range l.length).all (okAt l) = true then true else false := by
    cases (List.range l.length).all (okAt l) <;> simp
  rw [e]
  refine all_n (L := fun k i => impl_ValidBlocks.l0 k l l (l.length : Int) i) l.length (okAt l) _ _ ?_ ?_ ?_
  · intro i hi hp P K
    obtain ⟨z0, z1, z2⟩ := hs.2 _ (getD_mem hi)
    refine EvP.step (fun k => impl_ValidBlocks.l0.eq_2 _ _ _ _ k) ?_
    simp only [if_pos (show (i : Int) < (l.length : Int) by omega), if_pos (show (0 : Int) ≤ (i : Int) by omega), rd_nat, w64 (show -9223372036854775808 ≤ (i : Int) + 1 by omega) (by omega), w64 (show -9223372036854775808 ≤ (i : Int) - 1 by omega) (by omega)]
    simp only [okAt, Bool.and_eq_true, Bool.or_eq_true, decide_eq_true_eq] at hp
    refine EvP.bind (validBlock_ev _ _ _ z0 z1 z2) ?_
    simp only [hp.1, if_true]
    by_cases h0 : i = 0
    · simp only [if_neg (show ¬ (i : Int) > 0 by omega)]
      exact K
    · have hb : before (l.getD (i - 1) z45) (l.getD i z45) = true := by rcases hp.2 with h | h; exact absurd h h0; exact h
      have ei : ((i : Int) - 1) = ((i - 1 : Nat) : Int) := by omega
      simp only [if_pos (show (i : Int) > 0 by omega), ei, rd_nat, if_pos (show (0 : Int) ≤ ((i - 1 : Nat) : Int) by omega), if_pos (show ((i - 1 : Nat) : Int) < (l.length : Int) by omega)]
      refine EvP.bind (compareB_ev _ _) ?_
      have hc := cmpB_ge (l.getD (i - 1) z45) (l.getD i z45)
      rw [hb] at hc
      simp only [if_neg (show ¬ (cmpB (l.getD (i - 1) z45) (l.getD i z45) ≥ 0) from fun h => absurd (hc.1 h) (by decide))]
      exact K
  · intro i hi hp
    obtain ⟨z0, z1, z2⟩ := hs.2 _ (getD_mem hi)
    refine Ev.step (fun k => impl_ValidBlocks.l0.eq_2 _ _ _ _ k) ?_
    simp only [if_pos (show (i : Int) < (l.length : Int) by omega), if_pos (show (0 : Int) ≤ (i : Int) by omega), rd_nat, w64 (show -9223372036854775808 ≤ (i : Int) + 1 by omega) (by omega), w64 (show -9223372036854775808 ≤ (i : Int) - 1 by omega) (by omega)]
    refine Ev.bind (validBlock_ev _ _ _ z0 z1 z2) ?_
    simp only [okAt, Bool.and_eq_false_iff, Bool.or_eq_false_iff, decide_eq_false_iff_not] at hp
    cases hk : blockOk (l.getD i z45).f0 (l.getD i z45).f1 (l.getD i z45).f2 with
    | false => simp only [Bool.false_eq_true, if_false]; exact Ev.now _
    | true =>
      obtain ⟨h0, hb⟩ : i ≠ 0 ∧ before (l.getD (i - 1) z45) (l.getD i z45) = false := by rcases hp with h | h; rw [hk] at h; exact absurd h (by decide); exact h
      have ei : ((i : Int) - 1) = ((i - 1 : Nat) : Int) := by omega
      simp only [if_true, if_pos (show (i : Int) > 0 by omega), ei, rd_nat, if_pos (show (0 : Int) ≤ ((i - 1 : Nat) : Int) by omega), if_pos (show ((i - 1 : Nat) : Int) < (l.length : Int) by omega)]
      refine Ev.bind (compareB_ev _ _) ?_
      have hc := cmpB_ge (l.getD (i - 1) z45) (l.getD i z45)
      simp only [if_pos (show cmpB (l.getD (i - 1) z45) (l.getD i z45) ≥ 0 from hc.2 hb)]
      exact Ev.now _
  · refine Ev.step (fun k => impl_ValidBlocks.l0.eq_2 _ _ _ _ k) ?_
    simp only [if_neg (show ¬ (l.length : Int) < (l.length : Int) by omega)]
    exact Ev.now _
end Go.Proofs.Ytnabckhhnknlaaa.PBlockL
end

section
namespace Go.Proofs.Ytnabckhhnknlaaa.PSearch
open Go.RowKit Go.Proofs.YtnabckhhnknlaaaW.PrintWords Go.Proofs.Ytnabckhhnknlaaa.XD Go.Proofs.Ytnabckhhnknlaaa.EvK Go.Proofs.Ytnabckhhnknlaaa.PBasics Go.Proofs.Ytnabckhhnknlaaa.PBlocks Go.Proofs.Ytnabckhhnknlaaa.PBlockL
set_option linter.unusedVariables false
set_option linter.unusedSimpArgs false
theorem less_trans : ∀ (x y z : List UInt8), Op.bytesLess x y = true → Op.bytesLess y z = true → Op.bytesLess x z = true
  | _, y, [], _, h => by cases y <;> simp [Op.bytesLess] at h
  | _, [], _ :: _, h, _ => by simp [Op.bytesLess] at h
  | [], b :: y, c :: z, _, _ => rfl
  | a :: x, b :: y, c :: z, h1, h2 => by
    simp only [Op.bytesLess, Bool.or_eq_true, Bool.and_eq_true, decide_eq_true_eq, beq_iff_eq] at h1 h2 ⊢
    rcases h1 with h1 | ⟨rfl, h1⟩ <;> rcases h2 with h2 | ⟨rfl, h2⟩
    · exact Or.inl (UInt8.lt_trans h1 h2)
    · exact Or.inl h1
    · exact Or.inl h2
    · exact Or.inr ⟨rfl, less_trans x y z h1 h2⟩
theorem before_trans {a b c : S45} (h1 : before a b = true) (h2 : before b c = true) : before a c = true := by
  simp only [before, lessS, Bool.or_eq_true, Bool.and_eq_true, decide_eq_true_eq] at h1 h2 ⊢
  rcases h1 with h1 | ⟨e1, h1⟩ <;> rcases h2 with h2 | ⟨e2, h2⟩
  · exact Or.inl (less_trans _ _ _ h1 h2)
  · rw [← e2]; exact Or.inl h1
  · rw [e1]; exact Or.inl h2
  · exact Or.inr ⟨e1.trans e2, less_trans _ _ _ h1 h2⟩
theorem before_congr {a b c : S45} (e0 : b.f0.data.toList = c.f0.data.toList) (e1 : b.f1.data.toList = c.f1.data.toList) : before a b = before a c := by
  simp only [before, lessS, e0, e1]
def Sorted (l : List S45) : Prop := ∀ q p, q < p → p < l.length → before (l.getD q z45) (l.getD p z45) = true
theorem sorted_of {l : List S45} (h : listOk l = true) : Sorted l := by
  unfold listOk at h
  rw [Bool.and_eq_true, List.all_eq_true] at h
  have adj : ∀ p, p + 1 < l.length → before (l.getD p z45) (l.getD (p + 1) z45) = true := by
    intro p hp
    have := h.1 (p + 1) (List.mem_range.2 hp)
    simp only [okAt, Bool.and_eq_true, Bool.or_eq_true, decide_eq_true_eq] at this
    rcases this.2 with h | h
    · omega
    · simpa using h
  intro q p hqp hp
  induction p with
  | zero => omega
  | succ p ih =>
    by_cases hq : q = p
    · subst hq; exact adj q hp
    · exact before_trans (ih (by omega) (by omega)) (adj p hp)
theorem mid_eq {n : Int} (h0 : 0 ≤ n) (h1 : n ≤ 4611686018427387904) : wrap64 ((IntKind.u64.wrap (wrap64 n)) / 2) = n / 2 := by
  rw [w64 (show -9223372036854775808 ≤ n by omega) (by omega)]
  have e : IntKind.u64.wrap n = n := by
    simp only [IntKind.wrap, IntKind.bits, IntKind.signed]
    first | omega | (simp; omega)
  rw [e, w64 (by omega) (by omega)]
def At (l : List S45) (t : S45) (i : Nat) : Prop := i ≤ l.length ∧ (∀ p, p < i → before (l.getD p z45) t = true) ∧ (∀ p, i ≤ p → p < l.length → before (l.getD p z45) t = false)
def hit (l : List S45) (t : S45) (i : Nat) : Bool := decide (i < l.length) && (cmpB (l.getD i z45) t == 0)
theorem search_loop (l : List S45) (t : S45) (hl : l.length ≤ 1048576) (hs : Sorted l) : ∀ (d i j : Nat), j - i ≤ d → i ≤ j → j ≤ l.length → (∀ p, p < i → before (l.getD p z45) t = true) → (∀ p, j ≤ p → p < l.length → before (l.getD p z45) t = false) →
    EvP (fun k => slices_BinarySearchFunc_BlockS.l0 k l (l.length : Int) (i : Int) (j : Int) t.f0 t.f1 t.f2) (fun x => ∃ i, At l t i ∧ x = ((i : Int), hit l t i)) := by
  intro d
  induction d with
  | zero =>
    intro i j hd hij hj h1 h2
    obtain rfl : i = j := by omega
    refine EvP.step (fun k => slices_BinarySearchFunc_BlockS.l0.eq_2 _ _ _ _ _ _ _ k) ?_
    simp only [if_neg (show ¬ (i : Int) < (i : Int) by omega)]
    by_cases hn : i < l.length
    · simp only [if_pos (show (i : Int) < (l.length : Int) by omega), if_pos (show (0 : Int) ≤ (i : Int) by omega), rd_nat]
      refine EvP.bind (compareB_ev _ _) ?_
      exact EvP.now ⟨i, ⟨hj, h1, h2⟩, by rw [hit, decide_eq_true hn, Bool.true_and]⟩
    · simp only [if_neg (show ¬ (i : Int) < (l.length : Int) by omega)]
      exact EvP.now ⟨i, ⟨hj, h1, h2⟩, by rw [hit, decide_eq_false hn, Bool.false_and]⟩
  | succ d ih =>
    intro i j hd hij hj h1 h2
    by_cases he : i = j
    · exact ih i j (by omega) hij hj h1 h2
    have em : wrap64 ((IntKind.u64.wrap (wrap64 ((i : Int) + (j : Int)))) / 2) = (((i + j) / 2 : Nat) : Int) := by
      rw [mid_eq (by omega) (by omega)]; omega
    refine EvP.step (fun k => slices_BinarySearchFunc_BlockS.l0.eq_2 _ _ _ _ _ _ _ k) ?_
    simp only [if_pos (show (i : Int) < (j : Int) by omega), em, if_pos (show (0 : Int) ≤ (((i + j) / 2 : Nat) : Int) by omega), if_pos (show (((i + j) / 2 : Nat) : Int) < (l.length : Int) by omega), rd_nat, w64 (show -9223372036854775808 ≤ (((i + j) / 2 : Nat) : Int) + 1 by omega) (by omega)]
    refine EvP.bind (compareB_ev _ _) ?_
    have hc := cmpB_ge (l.getD ((i + j) / 2) z45) t
    cases hb : before (l.getD ((i + j) / 2) z45) t with
    | true =>
      simp only [if_pos (show cmpB (l.getD ((i + j) / 2) z45) t < 0 by rw [hb] at hc; exact Int.not_le.1 (fun h => absurd (hc.1 h) (by decide)))]
      have := ih ((i + j) / 2 + 1) j (by omega) (by omega) hj (fun p hp => ?_) h2
      · simpa using this
      · by_cases hq : p = (i + j) / 2
        · rw [hq]; exact hb
        · exact before_trans (hs p ((i + j) / 2) (by omega) (by omega)) hb
    | false =>
      simp only [if_neg (show ¬ cmpB (l.getD ((i + j) / 2) z45) t < 0 from Int.not_lt.2 (hc.2 hb))]
      refine ih i ((i + j) / 2) (by omega) (by omega) (by omega) h1 (fun p hp hp2 => ?_)
      by_cases hq : p = (i + j) / 2
      · rw [hq]; exact hb
      · cases hpb : before (l.getD p z45) t with
        | false => rfl
        | true =>
          have := before_trans (hs ((i + j) / 2) p (by omega) hp2) hpb
          rw [hb] at this
          exact absurd this (by decide)
theorem search_ev (l : List S45) (t : S45) (hl : l.length ≤ 1048576) (hs : Sorted l) : ∃ i, At l t i ∧ Ev (fun k => slices_BinarySearchFunc_BlockS.f k l t.f0 t.f1 t.f2) ((i : Int), hit l t i) := by
  obtain ⟨r, hr, i, ha, rfl⟩ := search_loop l t hl hs l.length 0 l.length (by omega) (by omega) (by omega) (fun p hp => by omega) (fun p hp hp2 => by omega)
  exact ⟨i, ha, hr⟩
theorem find_ev (l : List S45) (t : S45) (hl : l.length ≤ 1048576) (hs : Sorted l) (i : Nat) (ha : At l t i) : Ev (fun k => spec_l29Find.f k l t.f0 t.f1) (if hit l t i = true then (i : Int) else -1) := by
  obtain ⟨hi, h1, h2⟩ := ha
  unfold spec_l29Find.f
  have ne_lt : ∀ q, q < i → ¬ ((l.getD q z45).f0.data.toList = t.f0.data.toList ∧ (l.getD q z45).f1.data.toList = t.f1.data.toList) := by
    intro q hq hh
    have hz := (cmpB_zero (l.getD q z45) t).2 hh
    have := (cmpB_ge (l.getD q z45) t).1 (by omega)
    rw [h1 q hq] at this
    exact absurd this (by decide)
  have step : ∀ (q : Nat), q < l.length → ¬ ((l.getD q z45).f0.data.toList = t.f0.data.toList ∧ (l.getD q z45).f1.data.toList = t.f1.data.toList) → ∀ P, EvP (fun k => spec_l29Find.l0 k l t.f0 t.f1 ((q : Int) + 1)) P → EvP (fun k => spec_l29Find.l0 k l t.f0 t.f1 (q : Int)) P := by
    intro q hq hne P K
    refine EvP.step (fun k => spec_l29Find.l0.eq_2 _ _ _ _ k) ?_
    simp only [if_pos (show (q : Int) < (l.length : Int) by omega), if_pos (show (0 : Int) ≤ (q : Int) by omega), rd_nat, toList_eq, w64 (show -9223372036854775808 ≤ (q : Int) + 1 by omega) (by omega)]
    by_cases h0 : (l.getD q z45).f0.data.toList = t.f0.data.toList
    · simp only [if_pos h0, if_neg (show ¬ (l.getD q z45).f1.data.toList = t.f1.data.toList from fun h => hne ⟨h0, h⟩)]
      exact K
    · simp only [if_neg h0]
      exact K
  cases hh : hit l t i with
  | true =>
    simp only [hit, Bool.and_eq_true, decide_eq_true_eq, beq_iff_eq] at hh
    have hz := (cmpB_zero (l.getD i z45) t).1 hh.2
    rw [if_pos rfl]
    apply EvP.eq
    refine for_evp (L := fun k (_ : Unit) q => spec_l29Find.l0 k l t.f0 t.f1 q) i (fun _ _ => True) ?_ ?_ () trivial
    · intro q _ hq _ K
      exact step q (by omega) (ne_lt q hq) _ (K () trivial)
    · intro _ _
      refine EvP.step (fun k => spec_l29Find.l0.eq_2 _ _ _ _ k) ?_
      simp only [if_pos (show (i : Int) < (l.length : Int) by omega), if_pos (show (0 : Int) ≤ (i : Int) by omega), rd_nat, toList_eq, if_pos hz.1, if_pos hz.2]
      exact EvP.now rfl
  | false =>
    rw [if_neg (by decide)]
    apply EvP.eq
    refine for_evp (L := fun k (_ : Unit) q => spec_l29Find.l0 k l t.f0 t.f1 q) l.length (fun _ _ => True) ?_ ?_ () trivial
    · intro q _ hq _ K
      refine step q hq ?_ _ (K () trivial)
      by_cases hqi : q < i
      · exact ne_lt q hqi
      · intro he
        have hz := (cmpB_zero (l.getD q z45) t).2 he
        by_cases hq2 : q = i
        · subst hq2
          simp only [hit, decide_eq_true hq, Bool.true_and, beq_eq_false_iff_ne] at hh
          exact hh hz
        · have := hs i q (by omega) hq
          rw [before_congr he.1 he.2, h2 i (by omega) (by omega)] at this
          exact absurd this (by decide)
    · intro _ _
      refine EvP.step (fun k => spec_l29Find.l0.eq_2 _ _ _ _ k) ?_
      simp only [if_neg (show ¬ (l.length : Int) < (l.length : Int) by omega)]
      exact EvP.now rfl
end Go.Proofs.Ytnabckhhnknlaaa.PSearch
end

section
namespace Go.Proofs.Ytnabckhhnknlaaa.SD
open Go.RowKit Go.Proofs.YtnabckhhnknlaaaW.PrintWords Go.Proofs.Ytnabckhhnknlaaa.XD Go.Proofs.Ytnabckhhnknlaaa.EvK
set_option linter.unusedVariables false
set_option linter.unusedSimpArgs false
theorem szBlock_val (x : S42) (left : Int) (h0 : 0 ≤ left) (h1 : left ≤ 1048576) (hq : Q42 x) : ∃ t, laws_szBlock.f x.f0 x.f1 x.f2 left = some t ∧ t ≤ left ∧ (0 ≤ t → (x.f0.size ≤ 1048576) ∧ (x.f1.size ≤ 1048576) ∧ (x.f2.size ≤ 1048576)) := by
  unfold Q42 maxLen at hq
  unfold laws_szBlock.f
  repeat' split
  all_goals refine ⟨_, rfl, ?_, ?_⟩
  all_goals (simp only [wrap64] at *; omega)
end Go.Proofs.Ytnabckhhnknlaaa.SD
end
