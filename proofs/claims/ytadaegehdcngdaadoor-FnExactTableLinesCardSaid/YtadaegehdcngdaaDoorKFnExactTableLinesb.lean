/- The law FnExactTableLines: part 1 of its texts, joined (wip/pack.py). -/
import Derived.Test.YtadaegehdcngdaaDoorKFnExactTableLinesa

section
namespace Go.Proofs.YtadaegehdcngdaaDoor.XU
open Go.RowKit Go.Proofs.YtadaegehdcngdaaDoorW.PrintWords Go.Proofs.YtadaegehdcngdaaDoorW.PrintLast Go.Proofs.YtadaegehdcngdaaDoorW.PrintMore
attribute [local go_sem] run_eql_slice_nil binOp_string_gtr' binOp_string_leq' binOp_string_geq' max2_int min2_int max_two min_two max_three min_three max_four min_four   -- for this text's walks alone
set_option linter.unusedVariables false
set_option linter.unusedSimpArgs false
def laws_szStringSS.l0 : Nat → List (List ByteArray) → Int → Int → Option (Int)
 | 0, _, _, _ => none
 | k + 1, x0, x1, x5 => if x5 < (x0.length : Int) then (if 0 ≤ x5 then ((laws_szStringS.f k (rd_L1 x0 x5) x1).bind fun t103 => (if t103 < 0 then (some (-1)) else (laws_szStringSS.l0 k x0 t103 (wrap64 (x5 + 1))))) else (none)) else (some x1)
def laws_szStringSS.f (k : Nat) (l0 : List (List ByteArray)) (a1 : Int) : Option (Int) := if (wrap64 (a1 - (l0.length : Int))) < 0 then (some (-1)) else (laws_szStringSS.l0 k l0 (wrap64 (a1 - (l0.length : Int))) 0)
set_option maxHeartbeats 8000000 in
set_option maxRecDepth 100000 in
theorem laws_szStringSS.calls (k : Nat) (A0 : Option Addr) (c0 : Nat) (l0 : List (List ByteArray)) (a1 : Int) (r : Int) (w : World) (hr0 : Kd.C (Kd.slice 9 Kd.string) w A0 l0.length l0) (hc0 : l0.length ≤ c0) (h : laws_szStringSS.f k l0 a1 = some r) :
  Calls Tryd.prog 4 #[.slice A0 l0.length c0, .int .i64 a1] w fun e w' => e = .returned (.int .i64 r) ∧ Drawn0 w w' := by
 have HR0 := Aside0.mk hr0
 have HC0 := Aside0.mk hc0
 clear hr0 hc0
 have H : (if (wrap64 (a1 - (l0.length : Int))) < 0 then (some (-1)) else (laws_szStringSS.l0 k l0 (wrap64 (a1 - (l0.length : Int))) 0)) = some r := h
 clear h
 by_cases c3 : (wrap64 (a1 - (l0.length : Int))) < 0
 ·rw [if_pos c3] at H
  have c3b0 : decide ((wrap64 (a1 - (l0.length : Int))) < 0) = true := decide_eq_true c3
  clear c3
  obtain rfl := Option.some.inj H
  go_enter Tryd.func4, Tryd.ntmps4
  go_wp2
  go_ret
  exact ⟨sZ, dZ⟩
 ·rw [if_neg c3] at H
  have c3b0 : decide ((wrap64 (a1 - (l0.length : Int))) < 0) = false := decide_eq_false c3
  clear c3
  have H' := Aside0.mk H
  clear H
  go_enter Tryd.func4, Tryd.ntmps4
  go_wp2
  go_loopg [1, 5] k (fun kq v1 v5 w' => ∃ (x1_1 : Int) (x5_1 : Int), v1 = .int .i64 x1_1 ∧ v5 = .int .i64 x5_1 ∧ Aside0 (laws_szStringSS.l0 kq l0 x1_1 x5_1 = some r) ∧ Aside0 (kq ≤ k) ∧ Drawn0 w w')
  case atStart => exact ⟨(wrap64 (a1 - (l0.length : Int))), (0), sZ, sZ, H', ⟨Nat.le_refl _⟩, dZ⟩
  case round =>
   clear H'; (try clear p2); (try clear c3); (try clear c3b0)
   obtain ⟨x1_1, x5_1, rfl, rfl, HA, HK1, ⟨m1, rfl⟩⟩ := hrel
   cases gk with
   | zero => exact absurd HA.out (by simp [laws_szStringSS.l0])
   | succ k1 =>
    have H := HA.out
    clear HA
    simp only [laws_szStringSS.l0] at H
    by_cases c4 : x5_1 < (l0.length : Int)
    ·rw [if_pos c4] at H
     have c4b0 : decide (x5_1 < (l0.length : Int)) = true := decide_eq_true c4
     clear c4
     by_cases c5 : 0 ≤ x5_1
     ·rw [if_pos c5] at H
      have c5b0 : decide (0 ≤ x5_1) = true := decide_eq_true c5
      clear c5
      replace H := Option.bind_eq_some_iff.mp H
      obtain ⟨t103, A60, H⟩ := H
      replace H : (if t103 < 0 then (some (-1)) else (laws_szStringSS.l0 k1 l0 t103 (wrap64 (x5_1 + 1)))) = some r := H
      have A6 := Aside0.mk A60
      clear A60
      by_cases c7 : t103 < 0
      ·rw [if_pos c7] at H
       have c7b0 : decide (t103 < 0) = true := decide_eq_true c7
       clear c7
       obtain rfl := Option.some.inj H
       have p102 : 0 ≤ (x5_1 : Int) := oZ
       have q102 : x5_1 < (l0.length : Int) := oZ
       obtain ⟨ad102, A102_0, c102_0, e102, hx102_0, hl102_0, hi102_0⟩ := at_L1 HR0.out x5_1 p102 q102
       cases e102
       have HR102_0 := Aside0.mk hi102_0
       have HC102_0 := Aside0.mk hl102_0
       clear hi102_0 hl102_0
       replace p102 := eq_true p102
       replace q102 := eq_true q102
       go_wp2_with (first | ((with_reducible refine gate_callee (f := 13) rfl ?_); refine goesL_ (some 23) rfl rfl Tryd.func13 (by kernel_rfl) rfl #[.slice A102_0 (rd_L1 l0 x5_1).length c102_0, .int .i64 x1_1] rfl gZ ?_; (with_reducible refine (laws_szStringS.calls k1 _ _ (rd_L1 l0 x5_1) x1_1 t103 _ ?side1 ?side2 A6.out).mono ?_); (case side1 => repeat (first | exact HR102_0.out | (with_reducible refine Kd.C_alloc ?_ _) | (with_reducible refine Kd.C_drewN ?_ _) | (with_reducible refine Kd.C_drew ?_))); (case side2 => exact HC102_0.out); rintro e w' ⟨rfl, ⟨nd, rfl⟩⟩; refine ⟨_, rfl, ?_⟩))
       go_ret
       exact ⟨sZ, dZ⟩
      ·rw [if_neg c7] at H
       have c7b0 : decide (t103 < 0) = false := decide_eq_false c7
       clear c7
       have H' := Aside0.mk H
       clear H
       have p102 : 0 ≤ (x5_1 : Int) := oZ
       have q102 : x5_1 < (l0.length : Int) := oZ
       obtain ⟨ad102, A102_0, c102_0, e102, hx102_0, hl102_0, hi102_0⟩ := at_L1 HR0.out x5_1 p102 q102
       cases e102
       have HR102_0 := Aside0.mk hi102_0
       have HC102_0 := Aside0.mk hl102_0
       clear hi102_0 hl102_0
       replace p102 := eq_true p102
       replace q102 := eq_true q102
       go_wp2_with (first | ((with_reducible refine gate_callee (f := 13) rfl ?_); refine goesL_ (some 23) rfl rfl Tryd.func13 (by kernel_rfl) rfl #[.slice A102_0 (rd_L1 l0 x5_1).length c102_0, .int .i64 x1_1] rfl gZ ?_; (with_reducible refine (laws_szStringS.calls k1 _ _ (rd_L1 l0 x5_1) x1_1 t103 _ ?side1 ?side2 A6.out).mono ?_); (case side1 => repeat (first | exact HR102_0.out | (with_reducible refine Kd.C_alloc ?_ _) | (with_reducible refine Kd.C_drewN ?_ _) | (with_reducible refine Kd.C_drew ?_))); (case side2 => exact HC102_0.out); rintro e w' ⟨rfl, ⟨nd, rfl⟩⟩; refine ⟨_, rfl, ?_⟩))
       go_roundg k1
       case measure => have := HK1.out; omega
       case rel => exact ⟨(t103), (wrap64 (x5_1 + 1)), sZ, sZ, H', ⟨by have := HK1.out; omega⟩, dZ⟩
     ·rw [if_neg c5] at H
      exact absurd H (by simp)
    ·rw [if_neg c4] at H
     have c4b0 : decide (x5_1 < (l0.length : Int)) = false := decide_eq_false c4
     clear c4
     obtain rfl := Option.some.inj H
     go_wp2
     go_ret
     exact ⟨sZ, dZ⟩
end Go.Proofs.YtadaegehdcngdaaDoor.XU
end

section
namespace Go.Proofs.YtadaegehdcngdaaDoor.XU
open Go.RowKit Go.Proofs.YtadaegehdcngdaaDoorW.PrintWords Go.Proofs.YtadaegehdcngdaaDoorW.PrintLast Go.Proofs.YtadaegehdcngdaaDoorW.PrintMore
attribute [local go_sem] run_eql_slice_nil binOp_string_gtr' binOp_string_leq' binOp_string_geq' max2_int min2_int max_two min_two max_three min_three max_four min_four   -- for this text's walks alone
set_option linter.unusedVariables false
set_option linter.unusedSimpArgs false
mutual
def spec_l30Rows.l0 : Nat → List (List ByteArray) → Int → Option (Bool)
 | 0, _, _ => none
 | k + 1, x0, x3 => if x3 < (x0.length : Int) then (if 0 ≤ x3 then (if ((rd_L1 x0 x3).length : Int) > 12 then (some false) else (spec_l30Rows.l1 k x0 x3 0)) else (none)) else (some true)
def spec_l30Rows.l1 : Nat → List (List ByteArray) → Int → Int → Option (Bool)
 | 0, _, _, _ => none
 | k + 1, x0, x3, x4 => if 0 ≤ x3 then (if x3 < (x0.length : Int) then (if x4 < ((rd_L1 x0 x3).length : Int) then (spec_l30Rows.l2 k x0 x3 x4 0) else (spec_l30Rows.l0 k x0 (wrap64 (x3 + 1)))) else (none)) else (none)
def spec_l30Rows.l2 : Nat → List (List ByteArray) → Int → Int → Int → Option (Bool)
 | 0, _, _, _, _ => none
 | k + 1, x0, x3, x4, x5 => if 0 ≤ x3 then (if x3 < (x0.length : Int) then (if 0 ≤ x4 then (if x4 < ((rd_L1 x0 x3).length : Int) then (if x5 < ((rdOf ByteArray.empty (rd_L1 x0 x3) x4).size : Int) then (if 0 ≤ x5 then (if (bt (rdOf ByteArray.empty (rd_L1 x0 x3) x4) x5) < 33 then (some false) else (if (bt (rdOf ByteArray.empty (rd_L1 x0 x3) x4) x5) > 126 then (some false) else (spec_l30Rows.l2 k x0 x3 x4 (wrap64 (x5 + 1))))) else (none)) else (spec_l30Rows.l1 k x0 x3 (wrap64 (x4 + 1)))) else (none)) else (none)) else (none)) else (none)
end
def spec_l30Rows.f (k : Nat) (l0 : List (List ByteArray)) : Option (Bool) := spec_l30Rows.l0 k l0 0
set_option maxHeartbeats 8000000 in
set_option maxRecDepth 100000 in
theorem spec_l30Rows.calls (k : Nat) (A0 : Option Addr) (c0 : Nat) (l0 : List (List ByteArray)) (r : Bool) (w : World) (hr0 : Kd.C (Kd.slice 9 Kd.string) w A0 l0.length l0) (hc0 : l0.length ≤ c0) (h : spec_l30Rows.f k l0 = some r) :
  Calls Tryd.prog 14 #[.slice A0 l0.length c0] w fun e w' => e = .returned (.bool r) ∧ Drawn0 w w' := by
 have HR0 := Aside0.mk hr0
 have HC0 := Aside0.mk hc0
 clear hr0 hc0
 have H : (spec_l30Rows.l0 k l0 0) = some r := h
 clear h
 have H' := Aside0.mk H
 clear H
 go_enter Tryd.func14, Tryd.ntmps14
 go_wp2
 go_loopg [3] k (fun kq v3 w' => ∃ (x3_1 : Int), v3 = .int .i64 x3_1 ∧ Aside0 (spec_l30Rows.l0 kq l0 x3_1 = some r) ∧ Aside0 (kq ≤ k) ∧ Drawn0 w w')
 case atStart => exact ⟨(0), sZ, H', ⟨Nat.le_refl _⟩, dZ⟩
 case round =>
  clear H'; (try clear c1)
  obtain ⟨x3_1, rfl, HA, HK1, ⟨m1, rfl⟩⟩ := hrel
  cases gk with
  | zero => exact absurd HA.out (by simp [spec_l30Rows.l0])
  | succ k1 =>
   have H := HA.out
   clear HA
   simp only [spec_l30Rows.l0] at H
   by_cases c2 : x3_1 < (l0.length : Int)
   ·rw [if_pos c2] at H
    have c2b0 : decide (x3_1 < (l0.length : Int)) = true := decide_eq_true c2
    clear c2
    by_cases c3 : 0 ≤ x3_1
    ·rw [if_pos c3] at H
     have c3b0 : decide (0 ≤ x3_1) = true := decide_eq_true c3
     clear c3
     by_cases c4 : ((rd_L1 l0 x3_1).length : Int) > 12
     ·rw [if_pos c4] at H
      have c4b0 : decide (12 < ((rd_L1 l0 x3_1).length : Int)) = true := decide_eq_true c4
      have c4b1 : decide (12 < (rd_L1 l0 x3_1).length) = true := decide_eq_true (by omega)
      clear c4
      obtain rfl := Option.some.inj H
      have p104 : 0 ≤ (x3_1 : Int) := oZ
      have q104 : x3_1 < (l0.length : Int) := oZ
      obtain ⟨ad104, A104_0, c104_0, e104, hx104_0, hl104_0, hi104_0⟩ := at_L1 HR0.out x3_1 p104 q104
      cases e104
      have HR104_0 := Aside0.mk hi104_0
      have HC104_0 := Aside0.mk hl104_0
      clear hi104_0 hl104_0
      replace p104 := eq_true p104
      replace q104 := eq_true q104
      go_wp2
      go_ret
      exact ⟨sZ, dZ⟩
     ·rw [if_neg c4] at H
      have c4b0 : decide (12 < ((rd_L1 l0 x3_1).length : Int)) = false := decide_eq_false c4
      have c4b1 : decide (12 < (rd_L1 l0 x3_1).length) = false := decide_eq_false (by omega)
      clear c4
      have H' := Aside0.mk H
      clear H
      have p104 : 0 ≤ (x3_1 : Int) := oZ
      have q104 : x3_1 < (l0.length : Int) := oZ
      obtain ⟨ad104, A104_0, c104_0, e104, hx104_0, hl104_0, hi104_0⟩ := at_L1 HR0.out x3_1 p104 q104
      cases e104
      have HR104_0 := Aside0.mk hi104_0
      have HC104_0 := Aside0.mk hl104_0
      clear hi104_0 hl104_0
      replace p104 := eq_true p104
      replace q104 := eq_true q104
      go_wp2
      go_loopg [4] k1 (fun kq v4 w' => ∃ (x4_2 : Int), v4 = .int .i64 x4_2 ∧ Aside0 (spec_l30Rows.l1 kq l0 x3_1 x4_2 = some r) ∧ Aside0 (kq ≤ k1) ∧ Drawn0 w w')
      case atStart => exact ⟨(0), sZ, H', ⟨Nat.le_refl _⟩, dZ⟩
      case round =>
       clear H'; (try clear c1); (try clear p1); (try clear q1); (try clear hx1); (try clear c2); (try clear c2b0); (try clear p2); (try clear c3); (try clear c3b0); (try clear c4); (try clear c4b0); (try clear c4b1); (try clear hx104_0); (try clear p104); (try clear q104)
       obtain ⟨x4_2, rfl, HA, HK2, ⟨m2, rfl⟩⟩ := hrel
       cases gk with
       | zero => exact absurd HA.out (by simp [spec_l30Rows.l1])
       | succ k2 =>
        have H := HA.out
        clear HA
        simp only [spec_l30Rows.l1] at H
        by_cases c5 : 0 ≤ x3_1
        ·rw [if_pos c5] at H
         have c5b0 : decide (0 ≤ x3_1) = true := decide_eq_true c5
         clear c5
         by_cases c6 : x3_1 < (l0.length : Int)
         ·rw [if_pos c6] at H
          have c6b0 : decide (x3_1 < (l0.length : Int)) = true := decide_eq_true c6
          clear c6
          by_cases c7 : x4_2 < ((rd_L1 l0 x3_1).length : Int)
          ·rw [if_pos c7] at H
           have c7b0 : decide (x4_2 < ((rd_L1 l0 x3_1).length : Int)) = true := decide_eq_true c7
           clear c7
           have H' := Aside0.mk H
           clear H
           have p105 : 0 ≤ (x3_1 : Int) := oZ
           have q105 : x3_1 < (l0.length : Int) := oZ
           obtain ⟨ad105, A105_0, c105_0, e105, hx105_0, hl105_0, hi105_0⟩ := at_L1 HR0.out x3_1 p105 q105
           obtain rfl : ad104 = ad105 := (by injection e105)
           have HR105_0 := Aside0.mk hi105_0
           have HC105_0 := Aside0.mk hl105_0
           clear hi105_0 hl105_0
           replace p105 := eq_true p105
           replace q105 := eq_true q105
           go_wp2
           go_loopg [5] k2 (fun kq v5 w' => ∃ (x5_3 : Int), v5 = .int .i64 x5_3 ∧ Aside0 (spec_l30Rows.l2 kq l0 x3_1 x4_2 x5_3 = some r) ∧ Aside0 (kq ≤ k2) ∧ Drawn0 w w')
           case atStart => exact ⟨(0), sZ, H', ⟨Nat.le_refl _⟩, dZ⟩
           case round =>
            clear H'; (try clear c1); (try clear p1); (try clear q1); (try clear hx1); (try clear c2); (try clear c2b0); (try clear p2); (try clear c3); (try clear c3b0); (try clear c4); (try clear c4b0); (try clear c4b1); (try clear c5); (try clear c5b0); (try clear c6); (try clear c6b0); (try clear c7); (try clear c7b0); (try clear hx104_0); (try clear hx105_0); (try clear p1); (try clear p104); (try clear p105); (try clear p2); (try clear q1); (try clear q104); (try clear q105)
            obtain ⟨x5_3, rfl, HA, HK3, ⟨m3, rfl⟩⟩ := hrel
            cases gk with
            | zero => exact absurd HA.out (by simp [spec_l30Rows.l2])
            | succ k3 =>
             have H := HA.out
             clear HA
             simp only [spec_l30Rows.l2] at H
             by_cases c8 : 0 ≤ x3_1
             ·rw [if_pos c8] at H
              have c8b0 : decide (0 ≤ x3_1) = true := decide_eq_true c8
              clear c8
              by_cases c9 : x3_1 < (l0.length : Int)
              ·rw [if_pos c9] at H
               have c9b0 : decide (x3_1 < (l0.length : Int)) = true := decide_eq_true c9
               clear c9
               by_cases c10 : 0 ≤ x4_2
               ·rw [if_pos c10] at H
                have c10b0 : decide (0 ≤ x4_2) = true := decide_eq_true c10
                clear c10
                by_cases c11 : x4_2 < ((rd_L1 l0 x3_1).length : Int)
                ·rw [if_pos c11] at H
                 have c11b0 : decide (x4_2 < ((rd_L1 l0 x3_1).length : Int)) = true := decide_eq_true c11
                 clear c11
                 by_cases c12 : x5_3 < ((rdOf ByteArray.empty (rd_L1 l0 x3_1) x4_2).size : Int)
                 ·rw [if_pos c12] at H
                  have c12b0 : decide (x5_3 < ((rdOf ByteArray.empty (rd_L1 l0 x3_1) x4_2).size : Int)) = true := decide_eq_true c12
                  clear c12
                  by_cases c13 : 0 ≤ x5_3
                  ·rw [if_pos c13] at H
                   have c13b0 : decide (0 ≤ x5_3) = true := decide_eq_true c13
                   clear c13
                   by_cases c15 : (bt (rdOf ByteArray.empty (rd_L1 l0 x3_1) x4_2) x5_3) < 33
                   ·rw [if_pos c15] at H
                    have c15b0 : decide ((bt (rdOf ByteArray.empty (rd_L1 l0 x3_1) x4_2) x5_3) < 33) = true := decide_eq_true c15
                    clear c15
                    obtain rfl := Option.some.inj H
                    have p106 : 0 ≤ (x3_1 : Int) := oZ
                    have q106 : x3_1 < (l0.length : Int) := oZ
                    obtain ⟨ad106, A106_0, c106_0, e106, hx106_0, hl106_0, hi106_0⟩ := at_L1 HR0.out x3_1 p106 q106
                    obtain rfl : ad104 = ad106 := (by injection e106)
                    have HR106_0 := Aside0.mk hi106_0
                    have HC106_0 := Aside0.mk hl106_0
                    clear hi106_0 hl106_0
                    replace p106 := eq_true p106
                    replace q106 := eq_true q106
                    have p107 : 0 ≤ (x4_2 : Int) := oZ
                    have q107 : x4_2 < ((rd_L1 l0 x3_1).length : Int) := oZ
                    obtain ⟨ad107, e107, hx107_0⟩ := Kd.at_string HR106_0.out x4_2 p107 q107
                    cases e107
                    replace p107 := eq_true p107
                    replace q107 := eq_true q107
                    have p108 : 0 ≤ (x3_1 : Int) := oZ
                    have q108 : x3_1 < (l0.length : Int) := oZ
                    obtain ⟨ad108, A108_0, c108_0, e108, hx108_0, hl108_0, hi108_0⟩ := at_L1 HR0.out x3_1 p108 q108
                    obtain rfl : ad104 = ad108 := (by injection e108)
                    have HR108_0 := Aside0.mk hi108_0
                    have HC108_0 := Aside0.mk hl108_0
                    clear hi108_0 hl108_0
                    replace p108 := eq_true p108
                    replace q108 := eq_true q108
                    have ea_ := Option.some.inj (hx106_0.symm.trans hx108_0)
                    injection ea_ with ea_ en_ ec_
                    subst ea_
                    subst ec_
                    clear en_
                    have p109 : 0 ≤ (x4_2 : Int) := oZ
                    have q109 : x4_2 < ((rd_L1 l0 x3_1).length : Int) := oZ
                    obtain ⟨ad109, e109, hx109_0⟩ := Kd.at_string HR108_0.out x4_2 p109 q109
                    cases e109
                    replace p109 := eq_true p109
                    replace q109 := eq_true q109
                    have p14 : 0 ≤ (x5_3 : Int) := oZ
                    have q14 : x5_3 < ((rdOf ByteArray.empty (rd_L1 l0 x3_1) x4_2).size : Int) := oZ
                    have hx14 := bt_at (rdOf ByteArray.empty (rd_L1 l0 x3_1) x4_2) x5_3
                    replace p14 := eq_true p14
                    replace q14 := eq_true q14
                    go_wp2
                    go_ret
                    exact ⟨sZ, dZ⟩
                   ·rw [if_neg c15] at H
                    have c15b0 : decide ((bt (rdOf ByteArray.empty (rd_L1 l0 x3_1) x4_2) x5_3) < 33) = false := decide_eq_false c15
                    clear c15
                    by_cases c17 : (bt (rdOf ByteArray.empty (rd_L1 l0 x3_1) x4_2) x5_3) > 126
                    ·rw [if_pos c17] at H
                     have c17b0 : decide (126 < (bt (rdOf ByteArray.empty (rd_L1 l0 x3_1) x4_2) x5_3)) = true := decide_eq_true c17
                     clear c17
                     obtain rfl := Option.some.inj H
                     have p106 : 0 ≤ (x3_1 : Int) := oZ
                     have q106 : x3_1 < (l0.length : Int) := oZ
                     obtain ⟨ad106, A106_0, c106_0, e106, hx106_0, hl106_0, hi106_0⟩ := at_L1 HR0.out x3_1 p106 q106
                     obtain rfl : ad104 = ad106 := (by injection e106)
                     have HR106_0 := Aside0.mk hi106_0
                     have HC106_0 := Aside0.mk hl106_0
                     clear hi106_0 hl106_0
                     replace p106 := eq_true p106
                     replace q106 := eq_true q106
                     have p107 : 0 ≤ (x4_2 : Int) := oZ
                     have q107 : x4_2 < ((rd_L1 l0 x3_1).length : Int) := oZ
                     obtain ⟨ad107, e107, hx107_0⟩ := Kd.at_string HR106_0.out x4_2 p107 q107
                     cases e107
                     replace p107 := eq_true p107
                     replace q107 := eq_true q107
                     have p108 : 0 ≤ (x3_1 : Int) := oZ
                     have q108 : x3_1 < (l0.length : Int) := oZ
                     obtain ⟨ad108, A108_0, c108_0, e108, hx108_0, hl108_0, hi108_0⟩ := at_L1 HR0.out x3_1 p108 q108
                     obtain rfl : ad104 = ad108 := (by injection e108)
                     have HR108_0 := Aside0.mk hi108_0
                     have HC108_0 := Aside0.mk hl108_0
                     clear hi108_0 hl108_0
                     replace p108 := eq_true p108
                     replace q108 := eq_true q108
                     have ea_ := Option.some.inj (hx106_0.symm.trans hx108_0)
                     injection ea_ with ea_ en_ ec_
                     subst ea_
                     subst ec_
                     clear en_
                     have p109 : 0 ≤ (x4_2 : Int) := oZ
                     have q109 : x4_2 < ((rd_L1 l0 x3_1).length : Int) := oZ
                     obtain ⟨ad109, e109, hx109_0⟩ := Kd.at_string HR108_0.out x4_2 p109 q109
                     cases e109
                     replace p109 := eq_true p109
                     replace q109 := eq_true q109
                     have p14 : 0 ≤ (x5_3 : Int) := oZ
                     have q14 : x5_3 < ((rdOf ByteArray.empty (rd_L1 l0 x3_1) x4_2).size : Int) := oZ
                     have hx14 := bt_at (rdOf ByteArray.empty (rd_L1 l0 x3_1) x4_2) x5_3
                     replace p14 := eq_true p14
                     replace q14 := eq_true q14
                     have p110 : 0 ≤ (x3_1 : Int) := oZ
                     have q110 : x3_1 < (l0.length : Int) := oZ
                     obtain ⟨ad110, A110_0, c110_0, e110, hx110_0, hl110_0, hi110_0⟩ := at_L1 HR0.out x3_1 p110 q110
                     obtain rfl : ad104 = ad110 := (by injection e110)
                     have HR110_0 := Aside0.mk hi110_0
                     have HC110_0 := Aside0.mk hl110_0
                     clear hi110_0 hl110_0
                     replace p110 := eq_true p110
                     replace q110 := eq_true q110
                     have ea_ := Option.some.inj (hx106_0.symm.trans hx110_0)
                     injection ea_ with ea_ en_ ec_
                     subst ea_
                     subst ec_
                     clear en_
                     have p111 : 0 ≤ (x4_2 : Int) := oZ
                     have q111 : x4_2 < ((rd_L1 l0 x3_1).length : Int) := oZ
                     obtain ⟨ad111, e111, hx111_0⟩ := Kd.at_string HR110_0.out x4_2 p111 q111
                     cases e111
                     replace p111 := eq_true p111
                     replace q111 := eq_true q111
                     have p16 : 0 ≤ (x5_3 : Int) := oZ
                     have q16 : x5_3 < ((rdOf ByteArray.empty (rd_L1 l0 x3_1) x4_2).size : Int) := oZ
                     have hx16 := bt_at (rdOf ByteArray.empty (rd_L1 l0 x3_1) x4_2) x5_3
                     replace p16 := eq_true p16
                     replace q16 := eq_true q16
                     go_wp2
                     go_ret
                     exact ⟨sZ, dZ⟩
                    ·rw [if_neg c17] at H
                     have c17b0 : decide (126 < (bt (rdOf ByteArray.empty (rd_L1 l0 x3_1) x4_2) x5_3)) = false := decide_eq_false c17
                     clear c17
                     have H' := Aside0.mk H
                     clear H
                     have p106 : 0 ≤ (x3_1 : Int) := oZ
                     have q106 : x3_1 < (l0.length : Int) := oZ
                     obtain ⟨ad106, A106_0, c106_0, e106, hx106_0, hl106_0, hi106_0⟩ := at_L1 HR0.out x3_1 p106 q106
                     obtain rfl : ad104 = ad106 := (by injection e106)
                     have HR106_0 := Aside0.mk hi106_0
                     have HC106_0 := Aside0.mk hl106_0
                     clear hi106_0 hl106_0
                     replace p106 := eq_true p106
                     replace q106 := eq_true q106
                     have p107 : 0 ≤ (x4_2 : Int) := oZ
                     have q107 : x4_2 < ((rd_L1 l0 x3_1).length : Int) := oZ
                     obtain ⟨ad107, e107, hx107_0⟩ := Kd.at_string HR106_0.out x4_2 p107 q107
                     cases e107
                     replace p107 := eq_true p107
                     replace q107 := eq_true q107
                     have p108 : 0 ≤ (x3_1 : Int) := oZ
                     have q108 : x3_1 < (l0.length : Int) := oZ
                     obtain ⟨ad108, A108_0, c108_0, e108, hx108_0, hl108_0, hi108_0⟩ := at_L1 HR0.out x3_1 p108 q108
                     obtain rfl : ad104 = ad108 := (by injection e108)
                     have HR108_0 := Aside0.mk hi108_0
                     have HC108_0 := Aside0.mk hl108_0
                     clear hi108_0 hl108_0
                     replace p108 := eq_true p108
                     replace q108 := eq_true q108
                     have ea_ := Option.some.inj (hx106_0.symm.trans hx108_0)
                     injection ea_ with ea_ en_ ec_
                     subst ea_
                     subst ec_
                     clear en_
                     have p109 : 0 ≤ (x4_2 : Int) := oZ
                     have q109 : x4_2 < ((rd_L1 l0 x3_1).length : Int) := oZ
                     obtain ⟨ad109, e109, hx109_0⟩ := Kd.at_string HR108_0.out x4_2 p109 q109
                     cases e109
                     replace p109 := eq_true p109
                     replace q109 := eq_true q109
                     have p14 : 0 ≤ (x5_3 : Int) := oZ
                     have q14 : x5_3 < ((rdOf ByteArray.empty (rd_L1 l0 x3_1) x4_2).size : Int) := oZ
                     have hx14 := bt_at (rdOf ByteArray.empty (rd_L1 l0 x3_1) x4_2) x5_3
                     replace p14 := eq_true p14
                     replace q14 := eq_true q14
                     have p110 : 0 ≤ (x3_1 : Int) := oZ
                     have q110 : x3_1 < (l0.length : Int) := oZ
                     obtain ⟨ad110, A110_0, c110_0, e110, hx110_0, hl110_0, hi110_0⟩ := at_L1 HR0.out x3_1 p110 q110
                     obtain rfl : ad104 = ad110 := (by injection e110)
                     have HR110_0 := Aside0.mk hi110_0
                     have HC110_0 := Aside0.mk hl110_0
                     clear hi110_0 hl110_0
                     replace p110 := eq_true p110
                     replace q110 := eq_true q110
                     have ea_ := Option.some.inj (hx106_0.symm.trans hx110_0)
                     injection ea_ with ea_ en_ ec_
                     subst ea_
                     subst ec_
                     clear en_
                     have p111 : 0 ≤ (x4_2 : Int) := oZ
                     have q111 : x4_2 < ((rd_L1 l0 x3_1).length : Int) := oZ
                     obtain ⟨ad111, e111, hx111_0⟩ := Kd.at_string HR110_0.out x4_2 p111 q111
                     cases e111
                     replace p111 := eq_true p111
                     replace q111 := eq_true q111
                     have p16 : 0 ≤ (x5_3 : Int) := oZ
                     have q16 : x5_3 < ((rdOf ByteArray.empty (rd_L1 l0 x3_1) x4_2).size : Int) := oZ
                     have hx16 := bt_at (rdOf ByteArray.empty (rd_L1 l0 x3_1) x4_2) x5_3
                     replace p16 := eq_true p16
                     replace q16 := eq_true q16
                     go_wp2
                     go_roundg k3
                     case measure => have := HK1.out; have := HK2.out; have := HK3.out; omega
                     case rel => exact ⟨(wrap64 (x5_3 + 1)), sZ, H', ⟨by have := HK1.out; have := HK2.out; have := HK3.out; omega⟩, dZ⟩
                  ·rw [if_neg c13] at H
                   exact absurd H (by simp)
                 ·rw [if_neg c12] at H
                  have c12b0 : decide (x5_3 < ((rdOf ByteArray.empty (rd_L1 l0 x3_1) x4_2).size : Int)) = false := decide_eq_false c12
                  clear c12
                  have H' := Aside0.mk H
                  clear H
                  have p106 : 0 ≤ (x3_1 : Int) := oZ
                  have q106 : x3_1 < (l0.length : Int) := oZ
                  obtain ⟨ad106, A106_0, c106_0, e106, hx106_0, hl106_0, hi106_0⟩ := at_L1 HR0.out x3_1 p106 q106
                  obtain rfl : ad104 = ad106 := (by injection e106)
                  have HR106_0 := Aside0.mk hi106_0
                  have HC106_0 := Aside0.mk hl106_0
                  clear hi106_0 hl106_0
                  replace p106 := eq_true p106
                  replace q106 := eq_true q106
                  have p107 : 0 ≤ (x4_2 : Int) := oZ
                  have q107 : x4_2 < ((rd_L1 l0 x3_1).length : Int) := oZ
                  obtain ⟨ad107, e107, hx107_0⟩ := Kd.at_string HR106_0.out x4_2 p107 q107
                  cases e107
                  replace p107 := eq_true p107
                  replace q107 := eq_true q107
                  go_wp2
                  go_roundg k3
                  case measure => have := HK1.out; have := HK2.out; have := HK3.out; omega
                  case rel => exact ⟨(wrap64 (x4_2 + 1)), sZ, H', ⟨by have := HK1.out; have := HK2.out; have := HK3.out; omega⟩, dZ⟩
                ·rw [if_neg c11] at H
                 exact absurd H (by simp)
               ·rw [if_neg c10] at H
                exact absurd H (by simp)
              ·rw [if_neg c9] at H
               exact absurd H (by simp)
             ·rw [if_neg c8] at H
              exact absurd H (by simp)
          ·rw [if_neg c7] at H
           have c7b0 : decide (x4_2 < ((rd_L1 l0 x3_1).length : Int)) = false := decide_eq_false c7
           clear c7
           have H' := Aside0.mk H
           clear H
           have p105 : 0 ≤ (x3_1 : Int) := oZ
           have q105 : x3_1 < (l0.length : Int) := oZ
           obtain ⟨ad105, A105_0, c105_0, e105, hx105_0, hl105_0, hi105_0⟩ := at_L1 HR0.out x3_1 p105 q105
           obtain rfl : ad104 = ad105 := (by injection e105)
           have HR105_0 := Aside0.mk hi105_0
           have HC105_0 := Aside0.mk hl105_0
           clear hi105_0 hl105_0
           replace p105 := eq_true p105
           replace q105 := eq_true q105
           go_wp2
           go_roundg k2
           case measure => have := HK1.out; have := HK2.out; omega
           case rel => exact ⟨(wrap64 (x3_1 + 1)), sZ, H', ⟨by have := HK1.out; have := HK2.out; omega⟩, dZ⟩
         ·rw [if_neg c6] at H
          exact absurd H (by simp)
        ·rw [if_neg c5] at H
         exact absurd H (by simp)
    ·rw [if_neg c3] at H
     exact absurd H (by simp)
   ·rw [if_neg c2] at H
    have c2b0 : decide (x3_1 < (l0.length : Int)) = false := decide_eq_false c2
    clear c2
    obtain rfl := Option.some.inj H
    go_wp2
    go_ret
    exact ⟨sZ, dZ⟩
end Go.Proofs.YtadaegehdcngdaaDoor.XU
end

section
namespace Go.Proofs.YtadaegehdcngdaaDoor.XU
open Go.RowKit Go.Proofs.YtadaegehdcngdaaDoorW.PrintWords Go.Proofs.YtadaegehdcngdaaDoorW.PrintLast Go.Proofs.YtadaegehdcngdaaDoorW.PrintMore
attribute [local go_sem] run_eql_slice_nil binOp_string_gtr' binOp_string_leq' binOp_string_geq' max2_int min2_int max_two min_two max_three min_three max_four min_four   -- for this text's walks alone
set_option linter.unusedVariables false
set_option linter.unusedSimpArgs false
def spec_l30Line.l0 : Nat → ByteArray → Int → Option (Bool)
 | 0, _, _ => none
 | k + 1, x0, x3 => if x3 < (x0.size : Int) then (if 0 ≤ x3 then (if (bt x0 x3) < 32 then (some false) else (if (bt x0 x3) > 126 then (some false) else (spec_l30Line.l0 k x0 (wrap64 (x3 + 1))))) else (none)) else (some (decide ((x0.size : Int) ≤ 100)))
def spec_l30Line.f (k : Nat) (a0 : ByteArray) : Option (Bool) := spec_l30Line.l0 k a0 0
set_option maxHeartbeats 8000000 in
set_option maxRecDepth 100000 in
theorem spec_l30Line.calls (k : Nat) (a0 : ByteArray) (r : Bool) (w : World) (h : spec_l30Line.f k a0 = some r) :
  Calls Tryd.prog 36 #[.string a0] w fun e w' => e = .returned (.bool r) ∧ Drawn0 w w' := by
 have H : (spec_l30Line.l0 k a0 0) = some r := h
 clear h
 have H' := Aside0.mk H
 clear H
 go_enter Tryd.func36, Tryd.ntmps36
 go_wp2
 go_loopg [3] k (fun kq v3 w' => ∃ (x3_1 : Int), v3 = .int .i64 x3_1 ∧ Aside0 (spec_l30Line.l0 kq a0 x3_1 = some r) ∧ Aside0 (kq ≤ k) ∧ Drawn0 w w')
 case atStart => exact ⟨(0), sZ, H', ⟨Nat.le_refl _⟩, dZ⟩
 case round =>
  clear H'
  obtain ⟨x3_1, rfl, HA, HK1, ⟨m1, rfl⟩⟩ := hrel
  cases gk with
  | zero => exact absurd HA.out (by simp [spec_l30Line.l0])
  | succ k1 =>
   have H := HA.out
   clear HA
   simp only [spec_l30Line.l0] at H
   by_cases c2 : x3_1 < (a0.size : Int)
   ·rw [if_pos c2] at H
    have c2b0 : decide (x3_1 < (a0.size : Int)) = true := decide_eq_true c2
    clear c2
    by_cases c3 : 0 ≤ x3_1
    ·rw [if_pos c3] at H
     have c3b0 : decide (0 ≤ x3_1) = true := decide_eq_true c3
     clear c3
     by_cases c5 : (bt a0 x3_1) < 32
     ·rw [if_pos c5] at H
      have c5b0 : decide ((bt a0 x3_1) < 32) = true := decide_eq_true c5
      clear c5
      obtain rfl := Option.some.inj H
      have p4 : 0 ≤ (x3_1 : Int) := oZ
      have q4 : x3_1 < (a0.size : Int) := oZ
      have hx4 := bt_at a0 x3_1
      replace p4 := eq_true p4
      replace q4 := eq_true q4
      go_wp2
      go_ret
      exact ⟨sZ, dZ⟩
     ·rw [if_neg c5] at H
      have c5b0 : decide ((bt a0 x3_1) < 32) = false := decide_eq_false c5
      clear c5
      by_cases c7 : (bt a0 x3_1) > 126
      ·rw [if_pos c7] at H
       have c7b0 : decide (126 < (bt a0 x3_1)) = true := decide_eq_true c7
       clear c7
       obtain rfl := Option.some.inj H
       have p4 : 0 ≤ (x3_1 : Int) := oZ
       have q4 : x3_1 < (a0.size : Int) := oZ
       have hx4 := bt_at a0 x3_1
       replace p4 := eq_true p4
       replace q4 := eq_true q4
       have p6 : 0 ≤ (x3_1 : Int) := oZ
       have q6 : x3_1 < (a0.size : Int) := oZ
       have hx6 := bt_at a0 x3_1
       replace p6 := eq_true p6
       replace q6 := eq_true q6
       go_wp2
       go_ret
       exact ⟨sZ, dZ⟩
      ·rw [if_neg c7] at H
       have c7b0 : decide (126 < (bt a0 x3_1)) = false := decide_eq_false c7
       clear c7
       have H' := Aside0.mk H
       clear H
       have p4 : 0 ≤ (x3_1 : Int) := oZ
       have q4 : x3_1 < (a0.size : Int) := oZ
       have hx4 := bt_at a0 x3_1
       replace p4 := eq_true p4
       replace q4 := eq_true q4
       have p6 : 0 ≤ (x3_1 : Int) := oZ
       have q6 : x3_1 < (a0.size : Int) := oZ
       have hx6 := bt_at a0 x3_1
       replace p6 := eq_true p6
       replace q6 := eq_true q6
       go_wp2
       go_roundg k1
       case measure => have := HK1.out; omega
       case rel => exact ⟨(wrap64 (x3_1 + 1)), sZ, H', ⟨by have := HK1.out; omega⟩, dZ⟩
    ·rw [if_neg c3] at H
     exact absurd H (by simp)
   ·rw [if_neg c2] at H
    have c2b0 : decide (x3_1 < (a0.size : Int)) = false := decide_eq_false c2
    clear c2
    obtain rfl := Option.some.inj H
    go_wp2
    go_ret
    exact ⟨sZ, dZ⟩
def spec_l30Ok.l0 : Nat → List ByteArray → Int → Option (Bool)
 | 0, _, _ => none
 | k + 1, x0, x3 => if x3 < (x0.length : Int) then (if 0 ≤ x3 then ((spec_l30Line.f k (rdOf ByteArray.empty x0 x3)).bind fun t113 => (if t113 = true then (spec_l30Ok.l0 k x0 (wrap64 (x3 + 1))) else (some false))) else (none)) else (some (decide ((x0.length : Int) ≤ 200)))
def spec_l30Ok.f (k : Nat) (l0 : List ByteArray) : Option (Bool) := spec_l30Ok.l0 k l0 0
set_option maxHeartbeats 8000000 in
set_option maxRecDepth 100000 in
theorem spec_l30Ok.calls (k : Nat) (A0 : Option Addr) (c0 : Nat) (l0 : List ByteArray) (r : Bool) (w : World) (hr0 : Kd.C Kd.string w A0 l0.length l0) (hc0 : l0.length ≤ c0) (h : spec_l30Ok.f k l0 = some r) :
  Calls Tryd.prog 25 #[.slice A0 l0.length c0] w fun e w' => e = .returned (.bool r) ∧ Drawn0 w w' := by
 have HR0 := Aside0.mk hr0
 have HC0 := Aside0.mk hc0
 clear hr0 hc0
 have H : (spec_l30Ok.l0 k l0 0) = some r := h
 clear h
 have H' := Aside0.mk H
 clear H
 go_enter Tryd.func25, Tryd.ntmps25
 go_wp2
 go_loopg [3] k (fun kq v3 w' => ∃ (x3_1 : Int), v3 = .int .i64 x3_1 ∧ Aside0 (spec_l30Ok.l0 kq l0 x3_1 = some r) ∧ Aside0 (kq ≤ k) ∧ Drawn0 w w')
 case atStart => exact ⟨(0), sZ, H', ⟨Nat.le_refl _⟩, dZ⟩
 case round =>
  clear H'
  obtain ⟨x3_1, rfl, HA, HK1, ⟨m1, rfl⟩⟩ := hrel
  cases gk with
  | zero => exact absurd HA.out (by simp [spec_l30Ok.l0])
  | succ k1 =>
   have H := HA.out
   clear HA
   simp only [spec_l30Ok.l0] at H
   by_cases c2 : x3_1 < (l0.length : Int)
   ·rw [if_pos c2] at H
    have c2b0 : decide (x3_1 < (l0.length : Int)) = true := decide_eq_true c2
    clear c2
    by_cases c3 : 0 ≤ x3_1
    ·rw [if_pos c3] at H
     have c3b0 : decide (0 ≤ x3_1) = true := decide_eq_true c3
     clear c3
     replace H := Option.bind_eq_some_iff.mp H
     obtain ⟨t113, A40, H⟩ := H
     replace H : (if t113 = true then (spec_l30Ok.l0 k1 l0 (wrap64 (x3_1 + 1))) else (some false)) = some r := H
     have A4 := Aside0.mk A40
     clear A40
     by_cases c5 : t113 = true
     ·subst c5
      have H1 : (spec_l30Ok.l0 k1 l0 (wrap64 (x3_1 + 1))) = some r := by rw [if_pos rfl] at H; exact H
      clear H
      have H := H1
      clear H1
      have H' := Aside0.mk H
      clear H
      have p112 : 0 ≤ (x3_1 : Int) := oZ
      have q112 : x3_1 < (l0.length : Int) := oZ
      obtain ⟨ad112, e112, hx112_0⟩ := Kd.at_string HR0.out x3_1 p112 q112
      cases e112
      replace p112 := eq_true p112
      replace q112 := eq_true q112
      go_wp2_with (first | ((with_reducible refine gate_callee (f := 36) rfl ?_); refine goesL_ (some 14) rfl rfl Tryd.func36 (by kernel_rfl) rfl #[.string (rdOf ByteArray.empty l0 x3_1)] rfl gZ ?_; (with_reducible refine (spec_l30Line.calls k1 (rdOf ByteArray.empty l0 x3_1) true _ A4.out).mono ?_); rintro e w' ⟨rfl, ⟨nd, rfl⟩⟩; refine ⟨_, rfl, ?_⟩))
      go_roundg k1
      case measure => have := HK1.out; omega
      case rel => exact ⟨(wrap64 (x3_1 + 1)), sZ, H', ⟨by have := HK1.out; omega⟩, dZ⟩
     ·replace c5 := Bool.eq_false_iff.mpr c5
      subst c5
      have H1 : (some false) = some r := by rw [if_neg (show ¬ (false = true) by decide)] at H; exact H
      clear H
      have H := H1
      clear H1
      obtain rfl := Option.some.inj H
      have p112 : 0 ≤ (x3_1 : Int) := oZ
      have q112 : x3_1 < (l0.length : Int) := oZ
      obtain ⟨ad112, e112, hx112_0⟩ := Kd.at_string HR0.out x3_1 p112 q112
      cases e112
      replace p112 := eq_true p112
      replace q112 := eq_true q112
      go_wp2_with (first | ((with_reducible refine gate_callee (f := 36) rfl ?_); refine goesL_ (some 14) rfl rfl Tryd.func36 (by kernel_rfl) rfl #[.string (rdOf ByteArray.empty l0 x3_1)] rfl gZ ?_; (with_reducible refine (spec_l30Line.calls k1 (rdOf ByteArray.empty l0 x3_1) false _ A4.out).mono ?_); rintro e w' ⟨rfl, ⟨nd, rfl⟩⟩; refine ⟨_, rfl, ?_⟩))
      go_ret
      exact ⟨sZ, dZ⟩
    ·rw [if_neg c3] at H
     exact absurd H (by simp)
   ·rw [if_neg c2] at H
    have c2b0 : decide (x3_1 < (l0.length : Int)) = false := decide_eq_false c2
    clear c2
    obtain rfl := Option.some.inj H
    go_wp2
    go_ret
    exact ⟨sZ, dZ⟩
end Go.Proofs.YtadaegehdcngdaaDoor.XU
end

section
namespace Go.Proofs.YtadaegehdcngdaaDoor.XU
open Go.RowKit Go.Proofs.YtadaegehdcngdaaDoorW.PrintWords Go.Proofs.YtadaegehdcngdaaDoorW.PrintLast Go.Proofs.YtadaegehdcngdaaDoorW.PrintMore
attribute [local go_sem] run_eql_slice_nil binOp_string_gtr' binOp_string_leq' binOp_string_geq' max2_int min2_int max_two min_two max_three min_three max_four min_four   -- for this text's walks alone
set_option linter.unusedVariables false
set_option linter.unusedSimpArgs false
def spec_l30Done.f (k : Nat) (l0 : List ByteArray) : Option (List ByteArray × Int) := (spec_l30Ok.f k l0).bind fun t114 => (if t114 = true then (some (l0, 0)) else (some (([] : List ByteArray), 5)))
set_option maxHeartbeats 8000000 in
set_option maxRecDepth 100000 in
theorem spec_l30Done.calls (k : Nat) (P0_ : Nat → Prop) (u9000_ : Value) (l0 : List ByteArray) (r1 : List ByteArray) (r2 : Int) (w0 w : World) (hB : Below w0.heap.size w0 w) (ho0 : Kd.R Kd.string 9 w w0.heap.size P0_ u9000_ l0) (h : spec_l30Done.f k l0 = some (r1, r2)) :
  Calls Tryd.prog 15 #[u9000_] w fun e w' => ∃ v0_ : Value, e = .returned (.tuple #[v0_, .int .i64 r2]) ∧ Kd.R Kd.string 9 w' w0.heap.size (fun k_ => (P0_ k_ ∨ w.heap.size ≤ k_)) v0_ r1 ∧ Below w0.heap.size w0 w' ∧ Kept w w' (fun k_ => P0_ k_) := by
 have HO0 := Aside0.mk (show Kd.R Kd.string 9 w w0.heap.size (fun k_ => (P0_ k_ ∨ w.heap.size ≤ k_)) u9000_ l0 from Kd.R_mono ho0 (fun k_ hk => (.inl hk)))
 have HK := Aside0.mk (Kept.refl w (fun k_ => P0_ k_))
 have HW0 := Aside0.mk hB.size
 have HB := Aside0.mk hB
 clear hB
 have H : ((spec_l30Ok.f k l0).bind fun t114 => (if t114 = true then (some (l0, 0)) else (some (([] : List ByteArray), 5)))) = some (r1, r2) := h
 clear h
 replace H := Option.bind_eq_some_iff.mp H
 obtain ⟨t114, A20, H⟩ := H
 replace H : (if t114 = true then (some (l0, 0)) else (some (([] : List ByteArray), 5))) = some (r1, r2) := H
 have A2 := Aside0.mk A20
 clear A20
 by_cases c3 : t114 = true
 ·subst c3
  have H1 : (some (l0, 0)) = some (r1, r2) := by rw [if_pos rfl] at H; exact H
  clear H
  have H := H1
  clear H1
  simp only [Option.some.injEq, Prod.mk.injEq] at H
  obtain ⟨rfl, rfl⟩ := H
  obtain ⟨Ao4, co4, eo4⟩ := Kd.R_slice HO0.out
  subst eo4
  go_enter Tryd.func15, Tryd.ntmps15
  go_wp2_with (first | ((with_reducible refine gate_callee (f := 25) rfl ?_); refine goesL_ (some 5) rfl rfl Tryd.func25 (by kernel_rfl) rfl #[.slice Ao4 l0.length co4] rfl gZ ?_; (with_reducible refine (spec_l30Ok.calls k _ _ l0 true _ ?side1 ?side2 A2.out).mono ?_); (case side1 => exact Kd.cZ HO0.out); (case side2 => exact (Kd.R_reads' HO0.out).2.1); rintro e w' ⟨rfl, ⟨nd, rfl⟩⟩; refine ⟨_, rfl, ?_⟩))
  go_ret2
  exact ⟨_, eZ, Kd.rZ HO0.out, bZ, by repeat (first | (with_reducible first | exact HK.out | apply Kept.alloc | apply Kept.drewN | apply Kept.drew) | exact HK.out)⟩
 ·replace c3 := Bool.eq_false_iff.mpr c3
  subst c3
  have H1 : (some (([] : List ByteArray), 5)) = some (r1, r2) := by rw [if_neg (show ¬ (false = true) by decide)] at H; exact H
  clear H
  have H := H1
  clear H1
  simp only [Option.some.injEq, Prod.mk.injEq] at H
  obtain ⟨rfl, rfl⟩ := H
  obtain ⟨Ao5, co5, eo5⟩ := Kd.R_slice HO0.out
  subst eo5
  go_enter Tryd.func15, Tryd.ntmps15
  go_wp2_with (first | ((with_reducible refine gate_callee (f := 25) rfl ?_); refine goesL_ (some 5) rfl rfl Tryd.func25 (by kernel_rfl) rfl #[.slice Ao5 l0.length co5] rfl gZ ?_; (with_reducible refine (spec_l30Ok.calls k _ _ l0 false _ ?side1 ?side2 A2.out).mono ?_); (case side1 => exact Kd.cZ HO0.out); (case side2 => exact (Kd.R_reads' HO0.out).2.1); rintro e w' ⟨rfl, ⟨nd, rfl⟩⟩; refine ⟨_, rfl, ?_⟩))
  go_ret2
  exact ⟨_, eZ, by first | exact Kd.R_nil _ _ _ _ _ | exact Kd.N_nil _ _ _ _ _ | exact Kd.V_nil _ _ _ _ _ | exact Kd.Q_nil _ _ _ _ _ | exact Kd.S_nil _ _ _ _ _, bZ, by repeat (first | (with_reducible first | exact HK.out | apply Kept.alloc | apply Kept.drewN | apply Kept.drew) | exact HK.out)⟩
end Go.Proofs.YtadaegehdcngdaaDoor.XU
end

section
namespace Go.Proofs.YtadaegehdcngdaaDoor.XU
open Go.RowKit Go.Proofs.YtadaegehdcngdaaDoorW.PrintWords Go.Proofs.YtadaegehdcngdaaDoorW.PrintLast Go.Proofs.YtadaegehdcngdaaDoorW.PrintMore
attribute [local go_sem] run_eql_slice_nil binOp_string_gtr' binOp_string_leq' binOp_string_geq' max2_int min2_int max_two min_two max_three min_three max_four min_four   -- for this text's walks alone
set_option linter.unusedVariables false
set_option linter.unusedSimpArgs false
mutual
def spec_l30Table.l0 : Nat → List (List ByteArray) → List Int → Int → Option (List ByteArray)
 | 0, _, _, _ => none
 | k + 1, x0, x3, x4 => if x4 < (x0.length : Int) then (spec_l30Table.l1 k x0 x3 x4 0) else (spec_l30Table.l2 k x0 x3 (([] : List ByteArray)) 0)
def spec_l30Table.l1 : Nat → List (List ByteArray) → List Int → Int → Int → Option (List ByteArray)
 | 0, _, _, _, _ => none
 | k + 1, x0, x3, x4, x5 => if 0 ≤ x4 then (if x4 < (x0.length : Int) then (if x5 < ((rd_L1 x0 x4).length : Int) then (if 0 ≤ x5 then (if x5 < (x3.length : Int) then (if ((rdOf ByteArray.empty (rd_L1 x0 x4) x5).size : Int) > (rd x3 x5) then (spec_l30Table.l1 k x0 (x3.set (x5 : Int).toNat ((rdOf ByteArray.empty (rd_L1 x0 x4) x5).size : Int)) x4 (wrap64 (x5 + 1))) else (spec_l30Table.l1 k x0 x3 x4 (wrap64 (x5 + 1)))) else (none)) else (none)) else (spec_l30Table.l0 k x0 x3 (wrap64 (x4 + 1)))) else (none)) else (none)
def spec_l30Table.l2 : Nat → List (List ByteArray) → List Int → List ByteArray → Int → Option (List ByteArray)
 | 0, _, _, _, _ => none
 | k + 1, x0, x3, x6, x7 => if x7 < (x0.length : Int) then (spec_l30Table.l3 k x0 x3 x6 x7 (⟨#[]⟩ : ByteArray) 0) else (some x6)
def spec_l30Table.l3 : Nat → List (List ByteArray) → List Int → List ByteArray → Int → ByteArray → Int → Option (List ByteArray)
 | 0, _, _, _, _, _, _ => none
 | k + 1, x0, x3, x6, x7, x8, x9 => if 0 ≤ x7 then (if x7 < (x0.length : Int) then (if x9 < ((rd_L1 x0 x7).length : Int) then (if x9 > 0 then (if x8.size + 2 ≤ 9223372036854775807 then (spec_l30Table.j4 k x0 x3 x6 x7 (x8 ++ (⟨#[32, 32]⟩ : ByteArray)) x9) else (none)) else (spec_l30Table.j4 k x0 x3 x6 x7 x8 x9)) else (spec_l30Table.l5 k x0 x3 x6 x7 x8)) else (none)) else (none)
def spec_l30Table.j4 : Nat → List (List ByteArray) → List Int → List ByteArray → Int → ByteArray → Int → Option (List ByteArray)
 | 0, _, _, _, _, _, _ => none
 | k + 1, x0, x3, x6, x7, x8, x9 => if 0 ≤ x7 then (if x7 < (x0.length : Int) then (if 0 ≤ x9 then (if x9 < ((rd_L1 x0 x7).length : Int) then (if x8.size + (rdOf ByteArray.empty (rd_L1 x0 x7) x9).size ≤ 9223372036854775807 then (spec_l30Table.l4 k x0 x3 x6 x7 (x8 ++ (rdOf ByteArray.empty (rd_L1 x0 x7) x9)) x9 ((rdOf ByteArray.empty (rd_L1 x0 x7) x9).size : Int)) else (none)) else (none)) else (none)) else (none)) else (none)
def spec_l30Table.l4 : Nat → List (List ByteArray) → List Int → List ByteArray → Int → ByteArray → Int → Int → Option (List ByteArray)
 | 0, _, _, _, _, _, _, _ => none
 | k + 1, x0, x3, x6, x7, x8, x9, x10 => if 0 ≤ x9 then (if x9 < (x3.length : Int) then (if x10 < (rd x3 x9) then (if x8.size + 1 ≤ 9223372036854775807 then (spec_l30Table.l4 k x0 x3 x6 x7 (x8 ++ (⟨#[32]⟩ : ByteArray)) x9 (wrap64 (x10 + 1))) else (none)) else (spec_l30Table.l3 k x0 x3 x6 x7 x8 (wrap64 (x9 + 1)))) else (none)) else (none)
def spec_l30Table.l5 : Nat → List (List ByteArray) → List Int → List ByteArray → Int → ByteArray → Option (List ByteArray)
 | 0, _, _, _, _, _ => none
 | k + 1, x0, x3, x6, x7, x8 => if (x8.size : Int) > 0 then (if 0 ≤ (wrap64 ((x8.size : Int) - 1)) then (if (wrap64 ((x8.size : Int) - 1)) < (x8.size : Int) then (if (bt x8 (wrap64 ((x8.size : Int) - 1))) = 32 then (if (wrap64 ((x8.size : Int) - 1)) ≤ (x8.size : Int) then (spec_l30Table.l5 k x0 x3 x6 x7 (x8.extract 0 ((wrap64 ((x8.size : Int) - 1)) : Int).toNat)) else (none)) else (if x6.length < 8796093022208 then (spec_l30Table.l2 k x0 x3 (x6 ++ [x8]) (wrap64 (x7 + 1))) else (none))) else (none)) else (none)) else (if x6.length < 8796093022208 then (spec_l30Table.l2 k x0 x3 (x6 ++ [x8]) (wrap64 (x7 + 1))) else (none))
end
def spec_l30Table.f (k : Nat) (l0 : List (List ByteArray)) : Option (List ByteArray) := spec_l30Table.l0 k l0 (List.replicate 12 0) 0
set_option maxHeartbeats 8000000 in
set_option maxRecDepth 100000 in
theorem spec_l30Table.calls (k : Nat) (A0 : Option Addr) (c0 : Nat) (l0 : List (List ByteArray)) (r : List ByteArray) (w : World) (hr0 : Kd.C (Kd.slice 9 Kd.string) w A0 l0.length l0) (hc0 : l0.length ≤ c0) (h : spec_l30Table.f k l0 = some r) :
  Calls Tryd.prog 16 #[.slice A0 l0.length c0] w fun e w' => ∃ v0_ : Value, e = .returned (v0_) ∧ Kd.R Kd.string 9 w' w.heap.size (fun _ => True) v0_ r ∧ Below w.heap.size w w' := by
 have HR0 := Aside0.mk hr0
 have HC0 := Aside0.mk hc0
 clear hr0 hc0
 have HB := Aside0.mk (Below.refl w.heap.size w)
 have H : (spec_l30Table.l0 k l0 (List.replicate 12 0) 0) = some r := h
 clear h
 obtain ⟨y115, hy115⟩ : ∃ y_ : List Int, y_ = (List.replicate 12 0) := ⟨_, rfl⟩
 replace H : (spec_l30Table.l0 k l0 y115 0) = some r := by first | (rw [hy115]; with_reducible exact H) | (have H2_ := (Option.bind_some _ _).symm.trans H; rw [hy115]; with_reducible exact H2_) | (have H2_ := (Option.bind_some _ _).symm.trans H; with_reducible exact H2_) | with_reducible exact H | (rw [hy115]; exact H) | exact H
 have Ny115 := Aside0.mk hy115
 clear hy115
 have H' := Aside0.mk H
 clear H
 go_enter Tryd.func16, Tryd.ntmps16
 go_wp2_with (first | ((with_reducible refine gate_dst (N := 11) rfl ?_); (try (refine gate_guard (by rfl) ?_; dsimp only)); refine Kd.R_make (Kd.int .i64) _ 3 rfl (N := 11) rfl 35 _ _ rfl 12 rfl rfl Tryd.underlying35 (.int .i64 0) 8 info3 rfl (by decide) (by omega) 0 (ok := fun _ => True) (okp := fun _ => True) rfl (fun _ hk => hk) trivial (by omega) (by omega) (Below.refl _ _) (Nat.le_refl _) ?_; intro v116 w2 ho3 hb hg_ hnew_; clear hg_ hnew_; (first | rw [← Ny115.out] at ho3 | (simp only [Int.reduceToNat] at ho3; rw [← Ny115.out] at ho3)); have n0_ := Aside0.mk (Kd.R_lower ho3 bsZ); have n1_ := Aside0.mk (below_step bZ hb); clear HB; have HO117 := n0_; have HB := n1_; clear n0_ n1_; clear hb ho3))
 repeat (go_quiet (first | ((with_reducible refine gate_dst (N := 11) rfl ?_); (try (refine gate_guard (by rfl) ?_; dsimp only)); refine Kd.R_make (Kd.int .i64) _ 3 rfl (N := 11) rfl 35 _ _ rfl 12 rfl rfl Tryd.underlying35 (.int .i64 0) 8 info3 rfl (by decide) (by omega) 0 (ok := fun _ => True) (okp := fun _ => True) rfl (fun _ hk => hk) trivial (by omega) (by omega) (Below.refl _ _) (Nat.le_refl _) ?_; intro v116 w2 ho3 hb hg_ hnew_; clear hg_ hnew_; (first | rw [← Ny115.out] at ho3 | (simp only [Int.reduceToNat] at ho3; rw [← Ny115.out] at ho3)); have n0_ := Aside0.mk (Kd.R_lower ho3 bsZ); have n1_ := Aside0.mk (below_step bZ hb); clear HB; have HO117 := n0_; have HB := n1_; clear n0_ n1_; clear hb ho3)); try go_wp2_with (first | ((with_reducible refine gate_dst (N := 11) rfl ?_); (try (refine gate_guard (by rfl) ?_; dsimp only)); refine Kd.R_make (Kd.int .i64) _ 3 rfl (N := 11) rfl 35 _ _ rfl 12 rfl rfl Tryd.underlying35 (.int .i64 0) 8 info3 rfl (by decide) (by omega) 0 (ok := fun _ => True) (okp := fun _ => True) rfl (fun _ hk => hk) trivial (by omega) (by omega) (Below.refl _ _) (Nat.le_refl _) ?_; intro v116 w2 ho3 hb hg_ hnew_; clear hg_ hnew_; (first | rw [← Ny115.out] at ho3 | (simp only [Int.reduceToNat] at ho3; rw [← Ny115.out] at ho3)); have n0_ := Aside0.mk (Kd.R_lower ho3 bsZ); have n1_ := Aside0.mk (below_step bZ hb); clear HB; have HO117 := n0_; have HB := n1_; clear n0_ n1_; clear hb ho3)))
 go_loopg [4] k (fun kq v4 w' => ∃ (x3_1 : List Int) (x4_1 : Int), v4 = .int .i64 x4_1 ∧ Aside0 (spec_l30Table.l0 kq l0 x3_1 x4_1 = some r) ∧ Aside0 (kq ≤ k) ∧ Aside0 (Kd.R (Kd.int .i64) 3 w' w.heap.size (fun _ => True) v116 x3_1) ∧ Aside0 (Below w.heap.size w w'))
 case atStart => exact ⟨(y115), (0), sZ, H', ⟨Nat.le_refl _⟩, ⟨Kd.rZ HO117.out⟩, ⟨bZ⟩⟩
 case round =>
  clear H'; (try clear c1); (try clear p2)
  obtain ⟨x3_1, x4_1, rfl, HA, HK1, HO_3, HB⟩ := hrel
  cases gk with
  | zero => exact absurd HA.out (by simp [spec_l30Table.l0])
  | succ k1 =>
   have H := HA.out
   clear HA
   simp only [spec_l30Table.l0] at H
   by_cases c4 : x4_1 < (l0.length : Int)
   ·rw [if_pos c4] at H
    have c4b0 : decide (x4_1 < (l0.length : Int)) = true := decide_eq_true c4
    clear c4
    have H' := Aside0.mk H
    clear H
    go_wp2
    repeat (go_quiet (fail); try go_wp2)
    go_loopg [5] k1 (fun kq v5 w' => ∃ (x3_2 : List Int) (x5_2 : Int), v5 = .int .i64 x5_2 ∧ Aside0 (spec_l30Table.l1 kq l0 x3_2 x4_1 x5_2 = some r) ∧ Aside0 (kq ≤ k1) ∧ Aside0 (Kd.R (Kd.int .i64) 3 w' w.heap.size (fun _ => True) v116 x3_2) ∧ Aside0 (Below w.heap.size w w'))
    case atStart => exact ⟨(x3_1), (0), sZ, H', ⟨Nat.le_refl _⟩, ⟨Kd.rZ HO_3.out⟩, ⟨bZ⟩⟩
    case round =>
     clear H'; (try clear c1); (try clear p2); (try clear c4); (try clear c4b0); (try clear p2)
     obtain ⟨x3_2, x5_2, rfl, HA, HK2, HO_3, HB⟩ := hrel
     cases gk with
     | zero => exact absurd HA.out (by simp [spec_l30Table.l1])
     | succ k2 =>
      have H := HA.out
      clear HA
      simp only [spec_l30Table.l1] at H
      by_cases c5 : 0 ≤ x4_1
      ·rw [if_pos c5] at H
       have c5b0 : decide (0 ≤ x4_1) = true := decide_eq_true c5
       clear c5
       by_cases c6 : x4_1 < (l0.length : Int)
       ·rw [if_pos c6] at H
        have c6b0 : decide (x4_1 < (l0.length : Int)) = true := decide_eq_true c6
        clear c6
        by_cases c7 : x5_2 < ((rd_L1 l0 x4_1).length : Int)
        ·rw [if_pos c7] at H
         have c7b0 : decide (x5_2 < ((rd_L1 l0 x4_1).length : Int)) = true := decide_eq_true c7
         clear c7
         by_cases c8 : 0 ≤ x5_2
         ·rw [if_pos c8] at H
          have c8b0 : decide (0 ≤ x5_2) = true := decide_eq_true c8
          clear c8
          by_cases c9 : x5_2 < (x3_2.length : Int)
          ·rw [if_pos c9] at H
           have c9b0 : decide (x5_2 < (x3_2.length : Int)) = true := decide_eq_true c9
           clear c9
           by_cases c10 : ((rdOf ByteArray.empty (rd_L1 l0 x4_1) x5_2).size : Int) > (rd x3_2 x5_2)
           ·rw [if_pos c10] at H
            have c10b0 : decide ((rd x3_2 x5_2) < ((rdOf ByteArray.empty (rd_L1 l0 x4_1) x5_2).size : Int)) = true := decide_eq_true c10
            clear c10
            obtain ⟨y124, hy124⟩ : ∃ y_ : List Int, y_ = (x3_2.set (x5_2 : Int).toNat ((rdOf ByteArray.empty (rd_L1 l0 x4_1) x5_2).size : Int)) := ⟨_, rfl⟩
            replace H : (spec_l30Table.l1 k2 l0 y124 x4_1 (wrap64 (x5_2 + 1))) = some r := by first | (rw [hy124]; with_reducible exact H) | (have H2_ := (Option.bind_some _ _).symm.trans H; rw [hy124]; with_reducible exact H2_) | (have H2_ := (Option.bind_some _ _).symm.trans H; with_reducible exact H2_) | with_reducible exact H | (rw [hy124]; exact H) | exact H
            have Ny124 := Aside0.mk hy124
            clear hy124
            have H' := Aside0.mk H
            clear H
            have p118 : 0 ≤ (x4_1 : Int) := oZ
            have q118 : x4_1 < (l0.length : Int) := oZ
            obtain ⟨ad118, A118_0, c118_0, e118, hx118_0, hl118_0, hi118_0⟩ := at_L1 HR0.out x4_1 p118 q118
            cases e118
            replace hx118_0 := (HB.out.cell (World.block_lt_of_cell? w _ hx118_0)).trans hx118_0
            have HR118_0 := Aside0.mk hi118_0
            have HC118_0 := Aside0.mk hl118_0
            clear hi118_0 hl118_0
            replace p118 := eq_true p118
            replace q118 := eq_true q118
            have p119 : 0 ≤ (x4_1 : Int) := oZ
            have q119 : x4_1 < (l0.length : Int) := oZ
            obtain ⟨ad119, A119_0, c119_0, e119, hx119_0, hl119_0, hi119_0⟩ := at_L1 HR0.out x4_1 p119 q119
            obtain rfl : ad118 = ad119 := (by injection e119)
            replace hx119_0 := (HB.out.cell (World.block_lt_of_cell? w _ hx119_0)).trans hx119_0
            have HR119_0 := Aside0.mk hi119_0
            have HC119_0 := Aside0.mk hl119_0
            clear hi119_0 hl119_0
            replace p119 := eq_true p119
            replace q119 := eq_true q119
            have ea_ := Option.some.inj (hx118_0.symm.trans hx119_0)
            injection ea_ with ea_ en_ ec_
            subst ea_
            subst ec_
            clear en_
            have p120 : 0 ≤ (x5_2 : Int) := oZ
            have q120 : x5_2 < ((rd_L1 l0 x4_1).length : Int) := oZ
            obtain ⟨ad120, e120, hx120_0⟩ := Kd.at_string HR119_0.out x5_2 p120 q120
            cases e120
            replace hx120_0 := (HB.out.cell (World.block_lt_of_cell? w _ hx120_0)).trans hx120_0
            replace p120 := eq_true p120
            replace q120 := eq_true q120
            obtain ⟨Ao12, co12, eo12⟩ := Kd.R_slice HO_3.out
            subst eo12
            have p121 : 0 ≤ (x5_2 : Int) := oZ
            have q121 : x5_2 < (x3_2.length : Int) := oZ
            obtain ⟨ad121, e121, hx121_0⟩ := Kd.at_int (Kd.R_reads' HO_3.out).2.2 x5_2 p121 q121
            cases e121
            replace p121 := eq_true p121
            replace q121 := eq_true q121
            have p122 : 0 ≤ (x4_1 : Int) := oZ
            have q122 : x4_1 < (l0.length : Int) := oZ
            obtain ⟨ad122, A122_0, c122_0, e122, hx122_0, hl122_0, hi122_0⟩ := at_L1 HR0.out x4_1 p122 q122
            obtain rfl : ad118 = ad122 := (by injection e122)
            replace hx122_0 := (HB.out.cell (World.block_lt_of_cell? w _ hx122_0)).trans hx122_0
            have HR122_0 := Aside0.mk hi122_0
            have HC122_0 := Aside0.mk hl122_0
            clear hi122_0 hl122_0
            replace p122 := eq_true p122
            replace q122 := eq_true q122
            have ea_ := Option.some.inj (hx118_0.symm.trans hx122_0)
            injection ea_ with ea_ en_ ec_
            subst ea_
            subst ec_
            clear en_
            have p123 : 0 ≤ (x5_2 : Int) := oZ
            have q123 : x5_2 < ((rd_L1 l0 x4_1).length : Int) := oZ
            obtain ⟨ad123, e123, hx123_0⟩ := Kd.at_string HR122_0.out x5_2 p123 q123
            cases e123
            replace hx123_0 := (HB.out.cell (World.block_lt_of_cell? w _ hx123_0)).trans hx123_0
            replace p123 := eq_true p123
            replace q123 := eq_true q123
            have p11 : 0 ≤ (x5_2 : Int) := oZ
            have q11 : (x5_2 : Int) < ((x3_2.length : Int) : Int) := oZ
            obtain ⟨go11, co11, eo11, gb11, gl11, cl11, HG11⟩ := Kd.R_form HO_3.out (by omega)
            (first | cases eo11 | (injection eo11 with ea_ en_ ec_; (first | subst ea_ | (injection ea_ with ea_; subst ea_)); subst ec_; clear en_))
            have GB11 := Aside0.mk gb11
            have GG11 := Aside0.mk HG11
            clear gb11 gl11 HG11
            (first | simp only [add_plain] at hx121_0 | skip)
            obtain ⟨hx11_0, hf11_0⟩ := Kd.R_celln 0 HO_3.out (x5_2 : Int) p11 q11
            replace p11 := eq_true p11
            replace q11 := eq_true q11
            have HP13 := Kd.R_putg HO_3.out (x5_2 : Int) ((rdOf ByteArray.empty (rd_L1 l0 x4_1) x5_2).size : Int)
            go_wp2_with (first | ((with_reducible refine gate_store (t := 3) (p := 50) rfl ?_); (try (rw [drewN_self wr]; generalize hq_ : World.drewN wr _ = wr; have n0_ := Aside0.mk (Kd.R_at hq_ HO_3.out); have n1_ := Aside0.mk (below_at hq_ HB.out); clear hq_ HO_3 HB; have HO_3 := n0_; have HB := n1_; clear n0_ n1_; (try (have HP13 := Kd.R_putg HO_3.out (x5_2 : Int) ((rdOf ByteArray.empty (rd_L1 l0 x4_1) x5_2).size : Int))); (try (obtain ⟨hx11_0, hf11_0⟩ := Kd.R_celln 0 HO_3.out (x5_2 : Int) (of_eq_true p11) (of_eq_true q11))))); refine store_event (t := 3) (p := 50) (v := ?vo_w14) (w1 := (wr.setCell ⟨go11, (x5_2 : Int).toNat, none⟩ (.int .i64 ((rdOf ByteArray.empty (rd_L1 l0 x4_1) x5_2).size : Int)))) ?hg ?ho ?hn ?hr ?_; (case ho => rfl); (case hg => rfl); (case hn => rfl); (case hr => first | (go_simp; done) | (go_simp; rfl)); intro w14 hw; have hg : wr.grownBy w14 (some go11) := (by rw [hw]; exact HP13.2); have hp_ : Kd.R (Kd.int .i64) 3 w14 w.heap.size (fun _ => True) (.slice (some ⟨go11, 0, none⟩) x3_2.length co12) y124 := (by rw [hw, Ny124.out]; exact HP13.1); clear HP13; have n0_ := Aside0.mk (hp_); have n1_ := Aside0.mk ((by rw [hw]; exact below_set (HB.out) GB11.out : Below w.heap.size w w14)); clear HO_3; clear HB; have HO_3 := n0_; have HB := n1_; clear n0_ n1_; clear hg hw hp_))
            repeat (go_quiet (first | ((with_reducible refine gate_store (t := 3) (p := 50) rfl ?_); (try (rw [drewN_self wr]; generalize hq_ : World.drewN wr _ = wr; have n0_ := Aside0.mk (Kd.R_at hq_ HO_3.out); have n1_ := Aside0.mk (below_at hq_ HB.out); clear hq_ HO_3 HB; have HO_3 := n0_; have HB := n1_; clear n0_ n1_; (try (have HP13 := Kd.R_putg HO_3.out (x5_2 : Int) ((rdOf ByteArray.empty (rd_L1 l0 x4_1) x5_2).size : Int))); (try (obtain ⟨hx11_0, hf11_0⟩ := Kd.R_celln 0 HO_3.out (x5_2 : Int) (of_eq_true p11) (of_eq_true q11))))); refine store_event (t := 3) (p := 50) (v := ?vo_w14) (w1 := (wr.setCell ⟨go11, (x5_2 : Int).toNat, none⟩ (.int .i64 ((rdOf ByteArray.empty (rd_L1 l0 x4_1) x5_2).size : Int)))) ?hg ?ho ?hn ?hr ?_; (case ho => rfl); (case hg => rfl); (case hn => rfl); (case hr => first | (go_simp; done) | (go_simp; rfl)); intro w14 hw; have hg : wr.grownBy w14 (some go11) := (by rw [hw]; exact HP13.2); have hp_ : Kd.R (Kd.int .i64) 3 w14 w.heap.size (fun _ => True) (.slice (some ⟨go11, 0, none⟩) x3_2.length co12) y124 := (by rw [hw, Ny124.out]; exact HP13.1); clear HP13; have n0_ := Aside0.mk (hp_); have n1_ := Aside0.mk ((by rw [hw]; exact below_set (HB.out) GB11.out : Below w.heap.size w w14)); clear HO_3; clear HB; have HO_3 := n0_; have HB := n1_; clear n0_ n1_; clear hg hw hp_)); try go_wp2_with (first | ((with_reducible refine gate_store (t := 3) (p := 50) rfl ?_); (try (rw [drewN_self wr]; generalize hq_ : World.drewN wr _ = wr; have n0_ := Aside0.mk (Kd.R_at hq_ HO_3.out); have n1_ := Aside0.mk (below_at hq_ HB.out); clear hq_ HO_3 HB; have HO_3 := n0_; have HB := n1_; clear n0_ n1_; (try (have HP13 := Kd.R_putg HO_3.out (x5_2 : Int) ((rdOf ByteArray.empty (rd_L1 l0 x4_1) x5_2).size : Int))); (try (obtain ⟨hx11_0, hf11_0⟩ := Kd.R_celln 0 HO_3.out (x5_2 : Int) (of_eq_true p11) (of_eq_true q11))))); refine store_event (t := 3) (p := 50) (v := ?vo_w14) (w1 := (wr.setCell ⟨go11, (x5_2 : Int).toNat, none⟩ (.int .i64 ((rdOf ByteArray.empty (rd_L1 l0 x4_1) x5_2).size : Int)))) ?hg ?ho ?hn ?hr ?_; (case ho => rfl); (case hg => rfl); (case hn => rfl); (case hr => first | (go_simp; done) | (go_simp; rfl)); intro w14 hw; have hg : wr.grownBy w14 (some go11) := (by rw [hw]; exact HP13.2); have hp_ : Kd.R (Kd.int .i64) 3 w14 w.heap.size (fun _ => True) (.slice (some ⟨go11, 0, none⟩) x3_2.length co12) y124 := (by rw [hw, Ny124.out]; exact HP13.1); clear HP13; have n0_ := Aside0.mk (hp_); have n1_ := Aside0.mk ((by rw [hw]; exact below_set (HB.out) GB11.out : Below w.heap.size w w14)); clear HO_3; clear HB; have HO_3 := n0_; have HB := n1_; clear n0_ n1_; clear hg hw hp_)))
            go_roundg k2
            case measure => have := HK1.out; have := HK2.out; omega
            case rel => exact ⟨(y124), (wrap64 (x5_2 + 1)), sZ, H', ⟨by have := HK1.out; have := HK2.out; omega⟩, ⟨Kd.rZ HO_3.out⟩, ⟨bZ⟩⟩
           ·rw [if_neg c10] at H
            have c10b0 : decide ((rd x3_2 x5_2) < ((rdOf ByteArray.empty (rd_L1 l0 x4_1) x5_2).size : Int)) = false := decide_eq_false c10
            clear c10
            have H' := Aside0.mk H
            clear H
            have p118 : 0 ≤ (x4_1 : Int) := oZ
            have q118 : x4_1 < (l0.length : Int) := oZ
            obtain ⟨ad118, A118_0, c118_0, e118, hx118_0, hl118_0, hi118_0⟩ := at_L1 HR0.out x4_1 p118 q118
            cases e118
            replace hx118_0 := (HB.out.cell (World.block_lt_of_cell? w _ hx118_0)).trans hx118_0
            have HR118_0 := Aside0.mk hi118_0
            have HC118_0 := Aside0.mk hl118_0
            clear hi118_0 hl118_0
            replace p118 := eq_true p118
            replace q118 := eq_true q118
            have p119 : 0 ≤ (x4_1 : Int) := oZ
            have q119 : x4_1 < (l0.length : Int) := oZ
            obtain ⟨ad119, A119_0, c119_0, e119, hx119_0, hl119_0, hi119_0⟩ := at_L1 HR0.out x4_1 p119 q119
            obtain rfl : ad118 = ad119 := (by injection e119)
            replace hx119_0 := (HB.out.cell (World.block_lt_of_cell? w _ hx119_0)).trans hx119_0
            have HR119_0 := Aside0.mk hi119_0
            have HC119_0 := Aside0.mk hl119_0
            clear hi119_0 hl119_0
            replace p119 := eq_true p119
            replace q119 := eq_true q119
            have ea_ := Option.some.inj (hx118_0.symm.trans hx119_0)
            injection ea_ with ea_ en_ ec_
            subst ea_
            subst ec_
            clear en_
            have p120 : 0 ≤ (x5_2 : Int) := oZ
            have q120 : x5_2 < ((rd_L1 l0 x4_1).length : Int) := oZ
            obtain ⟨ad120, e120, hx120_0⟩ := Kd.at_string HR119_0.out x5_2 p120 q120
            cases e120
            replace hx120_0 := (HB.out.cell (World.block_lt_of_cell? w _ hx120_0)).trans hx120_0
            replace p120 := eq_true p120
            replace q120 := eq_true q120
            obtain ⟨Ao15, co15, eo15⟩ := Kd.R_slice HO_3.out
            subst eo15
            have p121 : 0 ≤ (x5_2 : Int) := oZ
            have q121 : x5_2 < (x3_2.length : Int) := oZ
            obtain ⟨ad121, e121, hx121_0⟩ := Kd.at_int (Kd.R_reads' HO_3.out).2.2 x5_2 p121 q121
            cases e121
            replace p121 := eq_true p121
            replace q121 := eq_true q121
            go_wp2
            repeat (go_quiet (fail); try go_wp2)
            go_roundg k2
            case measure => have := HK1.out; have := HK2.out; omega
            case rel => exact ⟨(x3_2), (wrap64 (x5_2 + 1)), sZ, H', ⟨by have := HK1.out; have := HK2.out; omega⟩, ⟨Kd.rZ HO_3.out⟩, ⟨bZ⟩⟩
          ·rw [if_neg c9] at H
           exact absurd H (by simp)
         ·rw [if_neg c8] at H
          exact absurd H (by simp)
        ·rw [if_neg c7] at H
         have c7b0 : decide (x5_2 < ((rd_L1 l0 x4_1).length : Int)) = false := decide_eq_false c7
         clear c7
         have H' := Aside0.mk H
         clear H
         have p118 : 0 ≤ (x4_1 : Int) := oZ
         have q118 : x4_1 < (l0.length : Int) := oZ
         obtain ⟨ad118, A118_0, c118_0, e118, hx118_0, hl118_0, hi118_0⟩ := at_L1 HR0.out x4_1 p118 q118
         cases e118
         replace hx118_0 := (HB.out.cell (World.block_lt_of_cell? w _ hx118_0)).trans hx118_0
         have HR118_0 := Aside0.mk hi118_0
         have HC118_0 := Aside0.mk hl118_0
         clear hi118_0 hl118_0
         replace p118 := eq_true p118
         replace q118 := eq_true q118
         go_wp2
         repeat (go_quiet (fail); try go_wp2)
         go_roundg k2
         case measure => have := HK1.out; have := HK2.out; omega
         case rel => exact ⟨(x3_2), (wrap64 (x4_1 + 1)), sZ, H', ⟨by have := HK1.out; have := HK2.out; omega⟩, ⟨Kd.rZ HO_3.out⟩, ⟨bZ⟩⟩
       ·rw [if_neg c6] at H
        exact absurd H (by simp)
      ·rw [if_neg c5] at H
       exact absurd H (by simp)
   ·rw [if_neg c4] at H
    have c4b0 : decide (x4_1 < (l0.length : Int)) = false := decide_eq_false c4
    clear c4
    obtain ⟨y125, hy125⟩ : ∃ y_ : List ByteArray, y_ = (([] : List ByteArray)) := ⟨_, rfl⟩
    replace H : (spec_l30Table.l2 k1 l0 x3_1 y125 0) = some r := by first | (rw [hy125]; with_reducible exact H) | (have H2_ := (Option.bind_some _ _).symm.trans H; rw [hy125]; with_reducible exact H2_) | (have H2_ := (Option.bind_some _ _).symm.trans H; with_reducible exact H2_) | with_reducible exact H | (rw [hy125]; exact H) | exact H
    have Ny125 := Aside0.mk hy125
    clear hy125
    have H' := Aside0.mk H
    clear H
    go_wp2_with (first | ((with_reducible refine gate_dst (N := 51) rfl ?_); (try (refine gate_guard (by rfl) ?_; dsimp only)); refine Kd.R_lit Kd.string _ 9 ?hg (N := 51) ?hd (xs := ([] : List ByteArray)) (inner := []) (ok := fun _ => True) (okp := fun _ => True) ?hr ?hp (fun _ hk => hk) trivial (Below.refl _ _) (Nat.le_refl _) (by simp) ?_; (case hd => rfl); (case hg => rfl); (case hr => first | (go_simp; done) | (go_simp; rfl)); (case hp => exact (Reps.none _ _)); intro v126 w16 ho17 hb hg_ hnew_; clear hg_ hnew_; (first | rw [← Ny125.out] at ho17 | (simp only [Int.reduceToNat] at ho17; rw [← Ny125.out] at ho17)); have n0_ := Aside0.mk (Kd.R_below (Kd.rZ HO_3.out) hb); have n1_ := Aside0.mk (Kd.R_lower ho17 bsZ); have n2_ := Aside0.mk (below_step bZ hb); clear HO_3; clear HB; have HO_3 := n0_; have HO127 := n1_; have HB := n2_; clear n0_ n1_ n2_; clear hb ho17))
    repeat (go_quiet (first | ((with_reducible refine gate_dst (N := 51) rfl ?_); (try (refine gate_guard (by rfl) ?_; dsimp only)); refine Kd.R_lit Kd.string _ 9 ?hg (N := 51) ?hd (xs := ([] : List ByteArray)) (inner := []) (ok := fun _ => True) (okp := fun _ => True) ?hr ?hp (fun _ hk => hk) trivial (Below.refl _ _) (Nat.le_refl _) (by simp) ?_; (case hd => rfl); (case hg => rfl); (case hr => first | (go_simp; done) | (go_simp; rfl)); (case hp => exact (Reps.none _ _)); intro v126 w16 ho17 hb hg_ hnew_; clear hg_ hnew_; (first | rw [← Ny125.out] at ho17 | (simp only [Int.reduceToNat] at ho17; rw [← Ny125.out] at ho17)); have n0_ := Aside0.mk (Kd.R_below (Kd.rZ HO_3.out) hb); have n1_ := Aside0.mk (Kd.R_lower ho17 bsZ); have n2_ := Aside0.mk (below_step bZ hb); clear HO_3; clear HB; have HO_3 := n0_; have HO127 := n1_; have HB := n2_; clear n0_ n1_ n2_; clear hb ho17)); try go_wp2_with (first | ((with_reducible refine gate_dst (N := 51) rfl ?_); (try (refine gate_guard (by rfl) ?_; dsimp only)); refine Kd.R_lit Kd.string _ 9 ?hg (N := 51) ?hd (xs := ([] : List ByteArray)) (inner := []) (ok := fun _ => True) (okp := fun _ => True) ?hr ?hp (fun _ hk => hk) trivial (Below.refl _ _) (Nat.le_refl _) (by simp) ?_; (case hd => rfl); (case hg => rfl); (case hr => first | (go_simp; done) | (go_simp; rfl)); (case hp => exact (Reps.none _ _)); intro v126 w16 ho17 hb hg_ hnew_; clear hg_ hnew_; (first | rw [← Ny125.out] at ho17 | (simp only [Int.reduceToNat] at ho17; rw [← Ny125.out] at ho17)); have n0_ := Aside0.mk (Kd.R_below (Kd.rZ HO_3.out) hb); have n1_ := Aside0.mk (Kd.R_lower ho17 bsZ); have n2_ := Aside0.mk (below_step bZ hb); clear HO_3; clear HB; have HO_3 := n0_; have HO127 := n1_; have HB := n2_; clear n0_ n1_ n2_; clear hb ho17)))
    go_loopg [6, 7] k1 (fun kq v6 v7 w' => ∃ (x6_2 : List ByteArray) (x7_2 : Int), v7 = .int .i64 x7_2 ∧ Aside0 (spec_l30Table.l2 kq l0 x3_1 x6_2 x7_2 = some r) ∧ Aside0 (kq ≤ k1) ∧ Aside0 (Kd.R (Kd.int .i64) 3 w' w.heap.size (fun _ => True) v116 x3_1) ∧ Aside0 (Kd.R Kd.string 9 w' w.heap.size (fun _ => True) v6 x6_2) ∧ Aside0 (Below w.heap.size w w'))
    case atStart => exact ⟨(y125), (0), sZ, H', ⟨Nat.le_refl _⟩, ⟨Kd.rZ HO_3.out⟩, ⟨Kd.rZ HO127.out⟩, ⟨bZ⟩⟩
    case round =>
     clear H'; (try clear c1); (try clear p1); (try clear q1); (try clear hx1); (try clear hf1); (try clear p2); (try clear c4); (try clear c4b0); (try clear c5); (try clear c5b0); (try clear c6); (try clear c6b0); (try clear p6); (try clear c7); (try clear c7b0); (try clear c8); (try clear c8b0); (try clear c9); (try clear c9b0); (try clear c10); (try clear c10b0); (try clear c11); (try clear p11); (try clear q11); (try clear hx11); (try clear hf11); (try clear c12); (try clear p12); (try clear q12); (try clear hx12); (try clear c16); (try clear hx118_0); (try clear hx119_0); (try clear hx11_0); (try clear hx120_0); (try clear hx121_0); (try clear hx122_0); (try clear hx123_0); (try clear p11); (try clear p118); (try clear p119); (try clear p120); (try clear p121); (try clear p122); (try clear p123); (try clear p2); (try clear q11); (try clear q118); (try clear q119); (try clear q120); (try clear q121); (try clear q122); (try clear q123)
     obtain ⟨x6_2, x7_2, rfl, HA, HK2, HO_3, HO_6, HB⟩ := hrel
     cases gk with
     | zero => exact absurd HA.out (by simp [spec_l30Table.l2])
     | succ k2 =>
      have H := HA.out
      clear HA
      simp only [spec_l30Table.l2] at H
      by_cases c18 : x7_2 < (l0.length : Int)
      ·rw [if_pos c18] at H
       have c18b0 : decide (x7_2 < (l0.length : Int)) = true := decide_eq_true c18
       clear c18
       have H' := Aside0.mk H
       clear H
       go_wp2
       repeat (go_quiet (fail); try go_wp2)
       go_loopg [8, 9] k2 (fun kq v8 v9 w' => ∃ (x8_3 : ByteArray) (x9_3 : Int), v8 = .string x8_3 ∧ v9 = .int .i64 x9_3 ∧ Aside0 (spec_l30Table.l3 kq l0 x3_1 x6_2 x7_2 x8_3 x9_3 = some r) ∧ Aside0 (kq ≤ k2) ∧ Aside0 (Kd.R (Kd.int .i64) 3 w' w.heap.size (fun _ => True) v116 x3_1) ∧ Aside0 (Kd.R Kd.string 9 w' w.heap.size (fun _ => True) u6 x6_2) ∧ Aside0 (Below w.heap.size w w'))
       case atStart => exact ⟨((⟨#[]⟩ : ByteArray)), (0), sZ, sZ, H', ⟨Nat.le_refl _⟩, ⟨Kd.rZ HO_3.out⟩, ⟨Kd.rZ HO_6.out⟩, ⟨bZ⟩⟩
       case round =>
        clear H'; (try clear c1); (try clear p1); (try clear q1); (try clear hx1); (try clear hf1); (try clear p2); (try clear c4); (try clear c4b0); (try clear c5); (try clear c5b0); (try clear c6); (try clear c6b0); (try clear p6); (try clear c7); (try clear c7b0); (try clear c8); (try clear c8b0); (try clear c9); (try clear c9b0); (try clear c10); (try clear c10b0); (try clear c11); (try clear p11); (try clear q11); (try clear hx11); (try clear hf11); (try clear c12); (try clear p12); (try clear q12); (try clear hx12); (try clear c16); (try clear c18); (try clear c18b0); (try clear hx118_0); (try clear hx119_0); (try clear hx11_0); (try clear hx120_0); (try clear hx121_0); (try clear hx122_0); (try clear hx123_0); (try clear p1); (try clear p11); (try clear p118); (try clear p119); (try clear p12); (try clear p120); (try clear p121); (try clear p122); (try clear p123); (try clear p2); (try clear p6); (try clear q1); (try clear q11); (try clear q118); (try clear q119); (try clear q12); (try clear q120); (try clear q121); (try clear q122); (try clear q123)
        obtain ⟨x8_3, x9_3, rfl, rfl, HA, HK3, HO_3, HO_6, HB⟩ := hrel
        cases gk with
        | zero => exact absurd HA.out (by simp [spec_l30Table.l3])
        | succ k3 =>
         have H := HA.out
         clear HA
         simp only [spec_l30Table.l3] at H
         by_cases c19 : 0 ≤ x7_2
         ·rw [if_pos c19] at H
          have c19b0 : decide (0 ≤ x7_2) = true := decide_eq_true c19
          clear c19
          by_cases c20 : x7_2 < (l0.length : Int)
          ·rw [if_pos c20] at H
           have c20b0 : decide (x7_2 < (l0.length : Int)) = true := decide_eq_true c20
           clear c20
           by_cases c21 : x9_3 < ((rd_L1 l0 x7_2).length : Int)
           ·rw [if_pos c21] at H
            have c21b0 : decide (x9_3 < ((rd_L1 l0 x7_2).length : Int)) = true := decide_eq_true c21
            clear c21
            have HC22 := Aside0.mk H
            clear H
            have p128 : 0 ≤ (x7_2 : Int) := oZ
            have q128 : x7_2 < (l0.length : Int) := oZ
            obtain ⟨ad128, A128_0, c128_0, e128, hx128_0, hl128_0, hi128_0⟩ := at_L1 HR0.out x7_2 p128 q128
            cases e128
            replace hx128_0 := (HB.out.cell (World.block_lt_of_cell? w _ hx128_0)).trans hx128_0
            have HR128_0 := Aside0.mk hi128_0
            have HC128_0 := Aside0.mk hl128_0
            clear hi128_0 hl128_0
            replace p128 := eq_true p128
            replace q128 := eq_true q128
            go_upto_if 68 with (fail)
            repeat (go_quiet (fail); go_upto_if 68 with (fail))
            go_cut [8] (fun v8 wc => ∃ (kq : Nat) (x8_21 : ByteArray), v8 = .string x8_21 ∧ Aside0 (spec_l30Table.j4 kq l0 x3_1 x6_2 x7_2 x8_21 x9_3 = some r) ∧ Aside0 (kq ≤ k3) ∧ Aside0 (Kd.R (Kd.int .i64) 3 wc w.heap.size (fun _ => True) v116 x3_1) ∧ Aside0 (Kd.R Kd.string 9 wc w.heap.size (fun _ => True) u6 x6_2) ∧ Aside0 (Below w.heap.size w wc))
            case first =>
             have H := HC22.out
             clear HC22
             by_cases c23 : x9_3 > 0
             ·rw [if_pos c23] at H
              have c23b0 : decide (0 < x9_3) = true := decide_eq_true c23
              clear c23
              (first | rw [c23b0] | (simp only [i64_w, i32_w]; rw [c23b0]) | skip)
              by_cases c24 : x8_3.size + 2 ≤ 9223372036854775807
              ·rw [if_pos c24] at H
               have c24b0 := eq_true c24
               have c24b1 : decide (x8_3.size + 2 ≤ 9223372036854775807) = true := decide_eq_true c24
               try have c24b2 : (9223372036854775807 < x8_3.size + 2) = False := eq_false (Nat.not_lt.2 c24)
               have H' := Aside0.mk H
               clear H
               go_wp2
               repeat (go_quiet (fail); try go_wp2)
               go_meet
               case rel => exact ⟨_, (x8_3 ++ (⟨#[32, 32]⟩ : ByteArray)), sZ, H', ⟨by have := HK1.out; have := HK2.out; have := HK3.out; first | omega | exact Nat.le_refl _⟩, ⟨Kd.rZ HO_3.out⟩, ⟨Kd.rZ HO_6.out⟩, ⟨bZ⟩⟩
              ·rw [if_neg c24] at H
               exact absurd H (by simp)
             ·rw [if_neg c23] at H
              have c23b0 : decide (0 < x9_3) = false := decide_eq_false c23
              clear c23
              (first | rw [c23b0] | (simp only [i64_w, i32_w]; rw [c23b0]) | skip)
              have H' := Aside0.mk H
              clear H
              go_wp2
              repeat (go_quiet (fail); try go_wp2)
              go_meet
              case rel => exact ⟨_, (x8_3), sZ, H', ⟨by have := HK1.out; have := HK2.out; have := HK3.out; first | omega | exact Nat.le_refl _⟩, ⟨Kd.rZ HO_3.out⟩, ⟨Kd.rZ HO_6.out⟩, ⟨bZ⟩⟩
            case rest =>
             clear HC22; (try clear c1); (try clear p1); (try clear q1); (try clear hx1); (try clear hf1); (try clear c2); (try clear p2); (try clear c4); (try clear c4b0); (try clear c5); (try clear c5b0); (try clear c6); (try clear c6b0); (try clear p6); (try clear c7); (try clear c7b0); (try clear c8); (try clear c8b0); (try clear c9); (try clear c9b0); (try clear c10); (try clear c10b0); (try clear c11); (try clear p11); (try clear q11); (try clear hx11); (try clear hf11); (try clear c12); (try clear p12); (try clear q12); (try clear hx12); (try clear c16); (try clear c18); (try clear c18b0); (try clear c19); (try clear c19b0); (try clear c20); (try clear c20b0); (try clear c21); (try clear c21b0); (try clear c23); (try clear c23b0); (try clear c24); (try clear c24b0); (try clear c24b1); (try clear c24b2); (try clear hx118_0); (try clear hx119_0); (try clear hx11_0); (try clear hx120_0); (try clear hx121_0); (try clear hx122_0); (try clear hx123_0); (try clear hx128_0); (try clear p1); (try clear p11); (try clear p118); (try clear p119); (try clear p12); (try clear p120); (try clear p121); (try clear p122); (try clear p123); (try clear p128); (try clear p2); (try clear p6); (try clear q1); (try clear q11); (try clear q118); (try clear q119); (try clear q12); (try clear q120); (try clear q121); (try clear q122); (try clear q123); (try clear q128)
             obtain ⟨kq, x8_21, rfl, HA, HJ21, HO_3, HO_6, HB⟩ := hcut
             cases kq with
             | zero => exact absurd HA.out (by simp [spec_l30Table.j4])
             | succ kj21 =>
              have H := HA.out
              clear HA
              simp only [spec_l30Table.j4] at H
              by_cases c25 : 0 ≤ x7_2
              ·rw [if_pos c25] at H
               have c25b0 : decide (0 ≤ x7_2) = true := decide_eq_true c25
               clear c25
               by_cases c26 : x7_2 < (l0.length : Int)
               ·rw [if_pos c26] at H
                have c26b0 : decide (x7_2 < (l0.length : Int)) = true := decide_eq_true c26
                clear c26
                by_cases c27 : 0 ≤ x9_3
                ·rw [if_pos c27] at H
                 have c27b0 : decide (0 ≤ x9_3) = true := decide_eq_true c27
                 clear c27
                 by_cases c28 : x9_3 < ((rd_L1 l0 x7_2).length : Int)
                 ·rw [if_pos c28] at H
                  have c28b0 : decide (x9_3 < ((rd_L1 l0 x7_2).length : Int)) = true := decide_eq_true c28
                  clear c28
                  by_cases c29 : x8_21.size + (rdOf ByteArray.empty (rd_L1 l0 x7_2) x9_3).size ≤ 9223372036854775807
                  ·rw [if_pos c29] at H
                   have c29b0 := eq_true c29
                   have c29b1 : decide (x8_21.size + (rdOf ByteArray.empty (rd_L1 l0 x7_2) x9_3).size ≤ 9223372036854775807) = true := decide_eq_true c29
                   try have c29b2 : (9223372036854775807 < x8_21.size + (rdOf ByteArray.empty (rd_L1 l0 x7_2) x9_3).size) = False := eq_false (Nat.not_lt.2 c29)
                   have H' := Aside0.mk H
                   clear H
                   have p129 : 0 ≤ (x7_2 : Int) := oZ
                   have q129 : x7_2 < (l0.length : Int) := oZ
                   obtain ⟨ad129, A129_0, c129_0, e129, hx129_0, hl129_0, hi129_0⟩ := at_L1 HR0.out x7_2 p129 q129
                   obtain rfl : ad128 = ad129 := (by injection e129)
                   replace hx129_0 := (HB.out.cell (World.block_lt_of_cell? w _ hx129_0)).trans hx129_0
                   have HR129_0 := Aside0.mk hi129_0
                   have HC129_0 := Aside0.mk hl129_0
                   clear hi129_0 hl129_0
                   replace p129 := eq_true p129
                   replace q129 := eq_true q129
                   have p130 : 0 ≤ (x9_3 : Int) := oZ
                   have q130 : x9_3 < ((rd_L1 l0 x7_2).length : Int) := oZ
                   obtain ⟨ad130, e130, hx130_0⟩ := Kd.at_string HR129_0.out x9_3 p130 q130
                   cases e130
                   replace hx130_0 := (HB.out.cell (World.block_lt_of_cell? w _ hx130_0)).trans hx130_0
                   replace p130 := eq_true p130
                   replace q130 := eq_true q130
                   have p131 : 0 ≤ (x7_2 : Int) := oZ
                   have q131 : x7_2 < (l0.length : Int) := oZ
                   obtain ⟨ad131, A131_0, c131_0, e131, hx131_0, hl131_0, hi131_0⟩ := at_L1 HR0.out x7_2 p131 q131
                   obtain rfl : ad128 = ad131 := (by injection e131)
                   replace hx131_0 := (HB.out.cell (World.block_lt_of_cell? w _ hx131_0)).trans hx131_0
                   have HR131_0 := Aside0.mk hi131_0
                   have HC131_0 := Aside0.mk hl131_0
                   clear hi131_0 hl131_0
                   replace p131 := eq_true p131
                   replace q131 := eq_true q131
                   have ea_ := Option.some.inj (hx129_0.symm.trans hx131_0)
                   injection ea_ with ea_ en_ ec_
                   subst ea_
                   subst ec_
                   clear en_
                   have p132 : 0 ≤ (x9_3 : Int) := oZ
                   have q132 : x9_3 < ((rd_L1 l0 x7_2).length : Int) := oZ
                   obtain ⟨ad132, e132, hx132_0⟩ := Kd.at_string HR131_0.out x9_3 p132 q132
                   cases e132
                   replace hx132_0 := (HB.out.cell (World.block_lt_of_cell? w _ hx132_0)).trans hx132_0
                   replace p132 := eq_true p132
                   replace q132 := eq_true q132
                   go_wp2
                   repeat (go_quiet (fail); try go_wp2)
                   go_loopg [8, 10] kj21 (fun kq v8 v10 w' => ∃ (x8_5 : ByteArray) (x10_5 : Int), v8 = .string x8_5 ∧ v10 = .int .i64 x10_5 ∧ Aside0 (spec_l30Table.l4 kq l0 x3_1 x6_2 x7_2 x8_5 x9_3 x10_5 = some r) ∧ Aside0 (kq ≤ kj21) ∧ Aside0 (Kd.R (Kd.int .i64) 3 w' w.heap.size (fun _ => True) v116 x3_1) ∧ Aside0 (Kd.R Kd.string 9 w' w.heap.size (fun _ => True) u6 x6_2) ∧ Aside0 (Below w.heap.size w w'))
                   case atStart => exact ⟨(x8_21 ++ (rdOf ByteArray.empty (rd_L1 l0 x7_2) x9_3)), (((rdOf ByteArray.empty (rd_L1 l0 x7_2) x9_3).size : Int)), sZ, sZ, H', ⟨Nat.le_refl _⟩, ⟨Kd.rZ HO_3.out⟩, ⟨Kd.rZ HO_6.out⟩, ⟨bZ⟩⟩
                   case round =>
                    clear H'; (try clear c1); (try clear p1); (try clear q1); (try clear hx1); (try clear hf1); (try clear c2); (try clear p2); (try clear c4); (try clear c4b0); (try clear c5); (try clear c5b0); (try clear c6); (try clear c6b0); (try clear p6); (try clear c7); (try clear c7b0); (try clear c8); (try clear c8b0); (try clear c9); (try clear c9b0); (try clear c10); (try clear c10b0); (try clear c11); (try clear p11); (try clear q11); (try clear hx11); (try clear hf11); (try clear c12); (try clear p12); (try clear q12); (try clear hx12); (try clear c13); (try clear p13); (try clear q13); (try clear hx13); (try clear c16); (try clear c18); (try clear c18b0); (try clear c19); (try clear c19b0); (try clear c20); (try clear c20b0); (try clear c21); (try clear c21b0); (try clear c23); (try clear c23b0); (try clear c24); (try clear c24b0); (try clear c24b1); (try clear c24b2); (try clear c25); (try clear c25b0); (try clear c26); (try clear c26b0); (try clear c27); (try clear c27b0); (try clear c28); (try clear c28b0); (try clear c29); (try clear c29b0); (try clear c29b1); (try clear c29b2); (try clear hx118_0); (try clear hx119_0); (try clear hx11_0); (try clear hx120_0); (try clear hx121_0); (try clear hx122_0); (try clear hx123_0); (try clear hx128_0); (try clear hx129_0); (try clear hx130_0); (try clear hx131_0); (try clear hx132_0); (try clear p1); (try clear p11); (try clear p118); (try clear p119); (try clear p12); (try clear p120); (try clear p121); (try clear p122); (try clear p123); (try clear p128); (try clear p129); (try clear p130); (try clear p131); (try clear p132); (try clear p2); (try clear p6); (try clear q1); (try clear q11); (try clear q118); (try clear q119); (try clear q12); (try clear q120); (try clear q121); (try clear q122); (try clear q123); (try clear q128); (try clear q129); (try clear q130); (try clear q131); (try clear q132)
                    obtain ⟨x8_5, x10_5, rfl, rfl, HA, HK5, HO_3, HO_6, HB⟩ := hrel
                    cases gk with
                    | zero => exact absurd HA.out (by simp [spec_l30Table.l4])
                    | succ k5 =>
                     have H := HA.out
                     clear HA
                     simp only [spec_l30Table.l4] at H
                     by_cases c30 : 0 ≤ x9_3
                     ·rw [if_pos c30] at H
                      have c30b0 : decide (0 ≤ x9_3) = true := decide_eq_true c30
                      clear c30
                      by_cases c31 : x9_3 < (x3_1.length : Int)
                      ·rw [if_pos c31] at H
                       have c31b0 : decide (x9_3 < (x3_1.length : Int)) = true := decide_eq_true c31
                       clear c31
                       by_cases c32 : x10_5 < (rd x3_1 x9_3)
                       ·rw [if_pos c32] at H
                        have c32b0 : decide (x10_5 < (rd x3_1 x9_3)) = true := decide_eq_true c32
                        clear c32
                        by_cases c33 : x8_5.size + 1 ≤ 9223372036854775807
                        ·rw [if_pos c33] at H
                         have c33b0 := eq_true c33
                         have c33b1 : decide (x8_5.size + 1 ≤ 9223372036854775807) = true := decide_eq_true c33
                         try have c33b2 : (9223372036854775807 < x8_5.size + 1) = False := eq_false (Nat.not_lt.2 c33)
                         have H' := Aside0.mk H
                         clear H
                         obtain ⟨Ao34, co34, eo34⟩ := Kd.R_slice HO_3.out
                         subst eo34
                         have p133 : 0 ≤ (x9_3 : Int) := oZ
                         have q133 : x9_3 < (x3_1.length : Int) := oZ
                         obtain ⟨ad133, e133, hx133_0⟩ := Kd.at_int (Kd.R_reads' HO_3.out).2.2 x9_3 p133 q133
                         cases e133
                         replace p133 := eq_true p133
                         replace q133 := eq_true q133
                         go_wp2
                         repeat (go_quiet (fail); try go_wp2)
                         go_roundg k5
                         case measure => have := HK1.out; have := HK2.out; have := HK3.out; have := HJ21.out; have := HK5.out; omega
                         case rel => exact ⟨(x8_5 ++ (⟨#[32]⟩ : ByteArray)), (wrap64 (x10_5 + 1)), sZ, sZ, H', ⟨by have := HK1.out; have := HK2.out; have := HK3.out; have := HJ21.out; have := HK5.out; omega⟩, ⟨Kd.rZ HO_3.out⟩, ⟨Kd.rZ HO_6.out⟩, ⟨bZ⟩⟩
                        ·rw [if_neg c33] at H
                         exact absurd H (by simp)
                       ·rw [if_neg c32] at H
                        have c32b0 : decide (x10_5 < (rd x3_1 x9_3)) = false := decide_eq_false c32
                        clear c32
                        have H' := Aside0.mk H
                        clear H
                        obtain ⟨Ao35, co35, eo35⟩ := Kd.R_slice HO_3.out
                        subst eo35
                        have p133 : 0 ≤ (x9_3 : Int) := oZ
                        have q133 : x9_3 < (x3_1.length : Int) := oZ
                        obtain ⟨ad133, e133, hx133_0⟩ := Kd.at_int (Kd.R_reads' HO_3.out).2.2 x9_3 p133 q133
                        cases e133
                        replace p133 := eq_true p133
                        replace q133 := eq_true q133
                        go_wp2
                        repeat (go_quiet (fail); try go_wp2)
                        go_roundg k5
                        case measure => have := HK1.out; have := HK2.out; have := HK3.out; have := HJ21.out; have := HK5.out; omega
                        case rel => exact ⟨(x8_5), (wrap64 (x9_3 + 1)), sZ, sZ, H', ⟨by have := HK1.out; have := HK2.out; have := HK3.out; have := HJ21.out; have := HK5.out; omega⟩, ⟨Kd.rZ HO_3.out⟩, ⟨Kd.rZ HO_6.out⟩, ⟨bZ⟩⟩
                      ·rw [if_neg c31] at H
                       exact absurd H (by simp)
                     ·rw [if_neg c30] at H
                      exact absurd H (by simp)
                  ·rw [if_neg c29] at H
                   exact absurd H (by simp)
                 ·rw [if_neg c28] at H
                  exact absurd H (by simp)
                ·rw [if_neg c27] at H
                 exact absurd H (by simp)
               ·rw [if_neg c26] at H
                exact absurd H (by simp)
              ·rw [if_neg c25] at H
               exact absurd H (by simp)
           ·rw [if_neg c21] at H
            have c21b0 : decide (x9_3 < ((rd_L1 l0 x7_2).length : Int)) = false := decide_eq_false c21
            clear c21
            have H' := Aside0.mk H
            clear H
            have p128 : 0 ≤ (x7_2 : Int) := oZ
            have q128 : x7_2 < (l0.length : Int) := oZ
            obtain ⟨ad128, A128_0, c128_0, e128, hx128_0, hl128_0, hi128_0⟩ := at_L1 HR0.out x7_2 p128 q128
            cases e128
            replace hx128_0 := (HB.out.cell (World.block_lt_of_cell? w _ hx128_0)).trans hx128_0
            have HR128_0 := Aside0.mk hi128_0
            have HC128_0 := Aside0.mk hl128_0
            clear hi128_0 hl128_0
            replace p128 := eq_true p128
            replace q128 := eq_true q128
            go_wp2
            repeat (go_quiet (fail); try go_wp2)
            go_loopg [8] k3 (fun kq v8 w' => ∃ (x8_4 : ByteArray), v8 = .string x8_4 ∧ Aside0 (spec_l30Table.l5 kq l0 x3_1 x6_2 x7_2 x8_4 = some r) ∧ Aside0 (kq ≤ k3) ∧ Aside0 (Kd.R (Kd.int .i64) 3 w' w.heap.size (fun _ => True) v116 x3_1) ∧ Aside0 (Kd.R Kd.string 9 w' w.heap.size (fun _ => True) u6 x6_2) ∧ Aside0 (Below w.heap.size w w'))
            case atStart => exact ⟨(x8_3), sZ, H', ⟨Nat.le_refl _⟩, ⟨Kd.rZ HO_3.out⟩, ⟨Kd.rZ HO_6.out⟩, ⟨bZ⟩⟩
            case round =>
             clear H'; (try clear c1); (try clear p1); (try clear q1); (try clear hx1); (try clear hf1); (try clear c2); (try clear p2); (try clear c3); (try clear c4); (try clear c4b0); (try clear c5); (try clear c5b0); (try clear c6); (try clear c6b0); (try clear p6); (try clear c7); (try clear c7b0); (try clear c8); (try clear c8b0); (try clear c9); (try clear c9b0); (try clear c10); (try clear c10b0); (try clear c11); (try clear p11); (try clear q11); (try clear hx11); (try clear hf11); (try clear c12); (try clear p12); (try clear q12); (try clear hx12); (try clear c13); (try clear p13); (try clear q13); (try clear hx13); (try clear c16); (try clear c18); (try clear c18b0); (try clear c19); (try clear c19b0); (try clear c20); (try clear c20b0); (try clear c21); (try clear c21b0); (try clear c23); (try clear c23b0); (try clear c24); (try clear c24b0); (try clear c24b1); (try clear c24b2); (try clear c25); (try clear c25b0); (try clear c26); (try clear c26b0); (try clear c27); (try clear c27b0); (try clear c28); (try clear c28b0); (try clear c29); (try clear c29b0); (try clear c29b1); (try clear c29b2); (try clear c30); (try clear c30b0); (try clear c31); (try clear c31b0); (try clear c32); (try clear c32b0); (try clear c33); (try clear c33b0); (try clear c33b1); (try clear c33b2); (try clear hx118_0); (try clear hx119_0); (try clear hx11_0); (try clear hx120_0); (try clear hx121_0); (try clear hx122_0); (try clear hx123_0); (try clear hx128_0); (try clear hx129_0); (try clear hx130_0); (try clear hx131_0); (try clear hx132_0); (try clear hx133_0); (try clear p1); (try clear p11); (try clear p118); (try clear p119); (try clear p12); (try clear p120); (try clear p121); (try clear p122); (try clear p123); (try clear p128); (try clear p129); (try clear p13); (try clear p130); (try clear p131); (try clear p132); (try clear p133); (try clear p2); (try clear p6); (try clear q1); (try clear q11); (try clear q118); (try clear q119); (try clear q12); (try clear q120); (try clear q121); (try clear q122); (try clear q123); (try clear q128); (try clear q129); (try clear q13); (try clear q130); (try clear q131); (try clear q132); (try clear q133)
             obtain ⟨x8_4, rfl, HA, HK4, HO_3, HO_6, HB⟩ := hrel
             cases gk with
             | zero => exact absurd HA.out (by simp [spec_l30Table.l5])
             | succ k4 =>
              have H := HA.out
              clear HA
              simp only [spec_l30Table.l5] at H
              by_cases c36 : (x8_4.size : Int) > 0
              ·rw [if_pos c36] at H
               have c36b0 : decide (0 < (x8_4.size : Int)) = true := decide_eq_true c36
               have c36b1 : decide (0 < x8_4.size) = true := decide_eq_true (by omega)
               clear c36
               obtain ⟨ji37, hji37⟩ : ∃ j_ : Int, (wrap64 ((x8_4.size : Int) - 1)) = j_ := ⟨_, rfl⟩
               replace H : (if 0 ≤ (ji37) then (if (ji37) < (x8_4.size : Int) then (if (bt x8_4 (ji37)) = 32 then (if (ji37) ≤ (x8_4.size : Int) then (spec_l30Table.l5 k4 l0 x3_1 x6_2 x7_2 (x8_4.extract 0 ((ji37) : Int).toNat)) else (none)) else (if x6_2.length < 8796093022208 then (spec_l30Table.l2 k4 l0 x3_1 (x6_2 ++ [x8_4]) (wrap64 (x7_2 + 1))) else (none))) else (none)) else (none)) = some r := by first | (rw [hji37] at H; exact H) | (simp only [hji37] at H ⊢; exact H)
               have hji37w : (IntKind.i64.wrap ((x8_4.size : Int) - 1)) = ji37 := (i64_w _).trans hji37
               by_cases c38 : 0 ≤ (ji37)
               ·rw [if_pos c38] at H
                have c38b0 : decide (0 ≤ (ji37)) = true := decide_eq_true c38
                clear c38
                by_cases c39 : (ji37) < (x8_4.size : Int)
                ·rw [if_pos c39] at H
                 have c39b0 : decide ((ji37) < (x8_4.size : Int)) = true := decide_eq_true c39
                 clear c39
                 by_cases c41 : (bt x8_4 (ji37)) = 32
                 ·rw [if_pos c41] at H
                  have c41b0 : ((bt x8_4 (ji37)) == 32) = true := beq_iff_eq.mpr c41
                  have c41b1 : ((bt x8_4 (ji37)) != 32) = false := bne_eq_false_iff_eq.mpr c41
                  clear c41
                  have c42b0 := eq_true (oZ : 0 ≤ (ji37))
                  by_cases c43 : (ji37) ≤ (x8_4.size : Int)
                  ·rw [if_pos c43] at H
                   have c43b0 := eq_true c43
                   have c43b1 : decide ((ji37) ≤ (x8_4.size : Int)) = true := decide_eq_true c43
                   clear c43
                   have H' := Aside0.mk H
                   clear H
                   have p40 : 0 ≤ ((ji37) : Int) := oZ
                   have q40 : (ji37) < (x8_4.size : Int) := oZ
                   have hx40 := bt_at x8_4 (ji37)
                   replace p40 := eq_true p40
                   replace q40 := eq_true q40
                   go_wp2
                   repeat (go_quiet (fail); try go_wp2)
                   go_roundg k4
                   case measure => have := HK1.out; have := HK2.out; have := HK3.out; have := HK4.out; omega
                   case rel => exact ⟨(x8_4.extract 0 ((ji37) : Int).toNat), (by first | rfl | (simp; done) | (simp only [← hji37] <;> (first | rfl | simp)) | (simp [*]; done)), H', ⟨by have := HK1.out; have := HK2.out; have := HK3.out; have := HK4.out; omega⟩, ⟨Kd.rZ HO_3.out⟩, ⟨Kd.rZ HO_6.out⟩, ⟨bZ⟩⟩
                  ·rw [if_neg c43] at H
                   exact absurd H (by simp)
                 ·rw [if_neg c41] at H
                  have c41b0 : ((bt x8_4 (ji37)) == 32) = false := beq_eq_false_iff_ne.mpr c41
                  have c41b1 : ((bt x8_4 (ji37)) != 32) = true := bne_iff_ne.mpr c41
                  by_cases c44 : x6_2.length < 8796093022208
                  ·rw [if_pos c44] at H
                   have LMc44 := Aside0.mk c44
                   clear c44
                   obtain ⟨y134, hy134⟩ : ∃ y_ : List ByteArray, y_ = (x6_2 ++ [x8_4]) := ⟨_, rfl⟩
                   replace H : (spec_l30Table.l2 k4 l0 x3_1 y134 (wrap64 (x7_2 + 1))) = some r := by first | (rw [hy134]; with_reducible exact H) | (have H2_ := (Option.bind_some _ _).symm.trans H; rw [hy134]; with_reducible exact H2_) | (have H2_ := (Option.bind_some _ _).symm.trans H; with_reducible exact H2_) | with_reducible exact H | (rw [hy134]; exact H) | exact H
                   have Ny134 := Aside0.mk hy134
                   clear hy134
                   have H' := Aside0.mk H
                   clear H
                   have p40 : 0 ≤ ((ji37) : Int) := oZ
                   have q40 : (ji37) < (x8_4.size : Int) := oZ
                   have hx40 := bt_at x8_4 (ji37)
                   replace p40 := eq_true p40
                   replace q40 := eq_true q40
                   go_wp2_with (first | ((with_reducible refine gate_builtin (b := .append) (xs := #[.tmp 114, .tmp 116]) rfl ?_); (try (refine gate_guard (by rfl) ?_; dsimp only)); at_builtin; refine Kd.R_append Kd.string (w0 := w) w.heap.size rfl (.tmp 114) (.tmp 116) 24 9 (.string ⟨#[]⟩) 16 rfl Tryd.underlying24 info9 rfl (by decide) (by omega) u6 x6_2 x8_4 [.string x8_4] (fun _ => True) (fun _ => False) rfl rfl ?aP (fun _ hk => hk.elim) ?aF ?aO ?aB ?aS ?aL ?_; (case aP => exact rfl); (case aB => exact bZ); (case aF => exact (fun _ _ => trivial)); (case aO => exact (Kd.rZ HO_6.out)); (case aS => exact bsZ); (case aL => have := LMc44.out; omega); intro v135 w45 ho hb hg hat; rw [← Ny134.out] at ho; have n0_ := Aside0.mk (Kd.R_over' (Kd.rZ HO_3.out) (Kd.R_typed (Kd.rZ HO_6.out)) (by decide) hg); have n1_ := Aside0.mk (hb); have n2_ := Aside0.mk (ho); clear HO_3; clear HB; clear HO_6; have HO_3 := n0_; have HB := n1_; have HO136 := n2_; clear n0_ n1_ n2_; clear ho hb hg hat))
                   repeat (go_quiet (first | ((with_reducible refine gate_builtin (b := .append) (xs := #[.tmp 114, .tmp 116]) rfl ?_); (try (refine gate_guard (by rfl) ?_; dsimp only)); at_builtin; refine Kd.R_append Kd.string (w0 := w) w.heap.size rfl (.tmp 114) (.tmp 116) 24 9 (.string ⟨#[]⟩) 16 rfl Tryd.underlying24 info9 rfl (by decide) (by omega) u6 x6_2 x8_4 [.string x8_4] (fun _ => True) (fun _ => False) rfl rfl ?aP (fun _ hk => hk.elim) ?aF ?aO ?aB ?aS ?aL ?_; (case aP => exact rfl); (case aB => exact bZ); (case aF => exact (fun _ _ => trivial)); (case aO => exact (Kd.rZ HO_6.out)); (case aS => exact bsZ); (case aL => have := LMc44.out; omega); intro v135 w45 ho hb hg hat; rw [← Ny134.out] at ho; have n0_ := Aside0.mk (Kd.R_over' (Kd.rZ HO_3.out) (Kd.R_typed (Kd.rZ HO_6.out)) (by decide) hg); have n1_ := Aside0.mk (hb); have n2_ := Aside0.mk (ho); clear HO_3; clear HB; clear HO_6; have HO_3 := n0_; have HB := n1_; have HO136 := n2_; clear n0_ n1_ n2_; clear ho hb hg hat)); try go_wp2_with (first | ((with_reducible refine gate_builtin (b := .append) (xs := #[.tmp 114, .tmp 116]) rfl ?_); (try (refine gate_guard (by rfl) ?_; dsimp only)); at_builtin; refine Kd.R_append Kd.string (w0 := w) w.heap.size rfl (.tmp 114) (.tmp 116) 24 9 (.string ⟨#[]⟩) 16 rfl Tryd.underlying24 info9 rfl (by decide) (by omega) u6 x6_2 x8_4 [.string x8_4] (fun _ => True) (fun _ => False) rfl rfl ?aP (fun _ hk => hk.elim) ?aF ?aO ?aB ?aS ?aL ?_; (case aP => exact rfl); (case aB => exact bZ); (case aF => exact (fun _ _ => trivial)); (case aO => exact (Kd.rZ HO_6.out)); (case aS => exact bsZ); (case aL => have := LMc44.out; omega); intro v135 w45 ho hb hg hat; rw [← Ny134.out] at ho; have n0_ := Aside0.mk (Kd.R_over' (Kd.rZ HO_3.out) (Kd.R_typed (Kd.rZ HO_6.out)) (by decide) hg); have n1_ := Aside0.mk (hb); have n2_ := Aside0.mk (ho); clear HO_3; clear HB; clear HO_6; have HO_3 := n0_; have HB := n1_; have HO136 := n2_; clear n0_ n1_ n2_; clear ho hb hg hat)))
                   go_roundg k4
                   case measure => have := HK1.out; have := HK2.out; have := HK3.out; have := HK4.out; omega
                   case rel => exact ⟨(y134), (wrap64 (x7_2 + 1)), sZ, H', ⟨by have := HK1.out; have := HK2.out; have := HK3.out; have := HK4.out; omega⟩, ⟨Kd.rZ HO_3.out⟩, ⟨Kd.rZ HO136.out⟩, ⟨bZ⟩⟩
                  ·rw [if_neg c44] at H
                   exact absurd H (by simp)
                ·rw [if_neg c39] at H
                 exact absurd H (by simp)
               ·rw [if_neg c38] at H
                exact absurd H (by simp)
              ·rw [if_neg c36] at H
               have c36b0 : decide (0 < (x8_4.size : Int)) = false := decide_eq_false c36
               have c36b1 : decide (0 < x8_4.size) = false := decide_eq_false (by omega)
               clear c36
               by_cases c46 : x6_2.length < 8796093022208
               ·rw [if_pos c46] at H
                have LMc46 := Aside0.mk c46
                clear c46
                obtain ⟨y137, hy137⟩ : ∃ y_ : List ByteArray, y_ = (x6_2 ++ [x8_4]) := ⟨_, rfl⟩
                replace H : (spec_l30Table.l2 k4 l0 x3_1 y137 (wrap64 (x7_2 + 1))) = some r := by first | (rw [hy137]; with_reducible exact H) | (have H2_ := (Option.bind_some _ _).symm.trans H; rw [hy137]; with_reducible exact H2_) | (have H2_ := (Option.bind_some _ _).symm.trans H; with_reducible exact H2_) | with_reducible exact H | (rw [hy137]; exact H) | exact H
                have Ny137 := Aside0.mk hy137
                clear hy137
                have H' := Aside0.mk H
                clear H
                go_wp2_with (first | ((with_reducible refine gate_builtin (b := .append) (xs := #[.tmp 114, .tmp 116]) rfl ?_); (try (refine gate_guard (by rfl) ?_; dsimp only)); at_builtin; refine Kd.R_append Kd.string (w0 := w) w.heap.size rfl (.tmp 114) (.tmp 116) 24 9 (.string ⟨#[]⟩) 16 rfl Tryd.underlying24 info9 rfl (by decide) (by omega) u6 x6_2 x8_4 [.string x8_4] (fun _ => True) (fun _ => False) rfl rfl ?aP (fun _ hk => hk.elim) ?aF ?aO ?aB ?aS ?aL ?_; (case aP => exact rfl); (case aB => exact bZ); (case aF => exact (fun _ _ => trivial)); (case aO => exact (Kd.rZ HO_6.out)); (case aS => exact bsZ); (case aL => have := LMc46.out; omega); intro v138 w47 ho hb hg hat; rw [← Ny137.out] at ho; have n0_ := Aside0.mk (Kd.R_over' (Kd.rZ HO_3.out) (Kd.R_typed (Kd.rZ HO_6.out)) (by decide) hg); have n1_ := Aside0.mk (hb); have n2_ := Aside0.mk (ho); clear HO_3; clear HB; clear HO_6; have HO_3 := n0_; have HB := n1_; have HO139 := n2_; clear n0_ n1_ n2_; clear ho hb hg hat))
                repeat (go_quiet (first | ((with_reducible refine gate_builtin (b := .append) (xs := #[.tmp 114, .tmp 116]) rfl ?_); (try (refine gate_guard (by rfl) ?_; dsimp only)); at_builtin; refine Kd.R_append Kd.string (w0 := w) w.heap.size rfl (.tmp 114) (.tmp 116) 24 9 (.string ⟨#[]⟩) 16 rfl Tryd.underlying24 info9 rfl (by decide) (by omega) u6 x6_2 x8_4 [.string x8_4] (fun _ => True) (fun _ => False) rfl rfl ?aP (fun _ hk => hk.elim) ?aF ?aO ?aB ?aS ?aL ?_; (case aP => exact rfl); (case aB => exact bZ); (case aF => exact (fun _ _ => trivial)); (case aO => exact (Kd.rZ HO_6.out)); (case aS => exact bsZ); (case aL => have := LMc46.out; omega); intro v138 w47 ho hb hg hat; rw [← Ny137.out] at ho; have n0_ := Aside0.mk (Kd.R_over' (Kd.rZ HO_3.out) (Kd.R_typed (Kd.rZ HO_6.out)) (by decide) hg); have n1_ := Aside0.mk (hb); have n2_ := Aside0.mk (ho); clear HO_3; clear HB; clear HO_6; have HO_3 := n0_; have HB := n1_; have HO139 := n2_; clear n0_ n1_ n2_; clear ho hb hg hat)); try go_wp2_with (first | ((with_reducible refine gate_builtin (b := .append) (xs := #[.tmp 114, .tmp 116]) rfl ?_); (try (refine gate_guard (by rfl) ?_; dsimp only)); at_builtin; refine Kd.R_append Kd.string (w0 := w) w.heap.size rfl (.tmp 114) (.tmp 116) 24 9 (.string ⟨#[]⟩) 16 rfl Tryd.underlying24 info9 rfl (by decide) (by omega) u6 x6_2 x8_4 [.string x8_4] (fun _ => True) (fun _ => False) rfl rfl ?aP (fun _ hk => hk.elim) ?aF ?aO ?aB ?aS ?aL ?_; (case aP => exact rfl); (case aB => exact bZ); (case aF => exact (fun _ _ => trivial)); (case aO => exact (Kd.rZ HO_6.out)); (case aS => exact bsZ); (case aL => have := LMc46.out; omega); intro v138 w47 ho hb hg hat; rw [← Ny137.out] at ho; have n0_ := Aside0.mk (Kd.R_over' (Kd.rZ HO_3.out) (Kd.R_typed (Kd.rZ HO_6.out)) (by decide) hg); have n1_ := Aside0.mk (hb); have n2_ := Aside0.mk (ho); clear HO_3; clear HB; clear HO_6; have HO_3 := n0_; have HB := n1_; have HO139 := n2_; clear n0_ n1_ n2_; clear ho hb hg hat)))
                go_roundg k4
                case measure => have := HK1.out; have := HK2.out; have := HK3.out; have := HK4.out; omega
                case rel => exact ⟨(y137), (wrap64 (x7_2 + 1)), sZ, H', ⟨by have := HK1.out; have := HK2.out; have := HK3.out; have := HK4.out; omega⟩, ⟨Kd.rZ HO_3.out⟩, ⟨Kd.rZ HO139.out⟩, ⟨bZ⟩⟩
               ·rw [if_neg c46] at H
                exact absurd H (by simp)
          ·rw [if_neg c20] at H
           exact absurd H (by simp)
         ·rw [if_neg c19] at H
          exact absurd H (by simp)
      ·rw [if_neg c18] at H
       have c18b0 : decide (x7_2 < (l0.length : Int)) = false := decide_eq_false c18
       clear c18
       obtain rfl := Option.some.inj H
       go_wp2
       repeat (go_quiet (fail); try go_wp2)
       go_ret
       exact ⟨_, eZ, Kd.rZ HO_6.out, bZ⟩
end Go.Proofs.YtadaegehdcngdaaDoor.XU
end

section
namespace Go.Proofs.YtadaegehdcngdaaDoor.XU
open Go.RowKit Go.Proofs.YtadaegehdcngdaaDoorW.PrintWords Go.Proofs.YtadaegehdcngdaaDoorW.PrintLast Go.Proofs.YtadaegehdcngdaaDoorW.PrintMore
attribute [local go_sem] run_eql_slice_nil binOp_string_gtr' binOp_string_leq' binOp_string_geq' max2_int min2_int max_two min_two max_three min_three max_four min_four   -- for this text's walks alone
set_option linter.unusedVariables false
set_option linter.unusedSimpArgs false
def spec_TableLines.f (k : Nat) (l0 : List (List ByteArray)) : Option (List ByteArray × Int) := (spec_l30Rows.f k l0).bind fun t140 => (if t140 = true then ((spec_l30Table.f k l0).bind fun t141 => ((spec_l30Done.f k t141).bind fun bt144 => (some (bt144.1, bt144.2)))) else (some (([] : List ByteArray), 2)))
set_option maxHeartbeats 8000000 in
set_option maxRecDepth 100000 in
theorem spec_TableLines.calls (k : Nat) (A0 : Option Addr) (c0 : Nat) (l0 : List (List ByteArray)) (r1 : List ByteArray) (r2 : Int) (w : World) (hr0 : Kd.C (Kd.slice 9 Kd.string) w A0 l0.length l0) (hc0 : l0.length ≤ c0) (h : spec_TableLines.f k l0 = some (r1, r2)) :
  Calls Tryd.prog 5 #[.slice A0 l0.length c0] w fun e w' => ∃ v0_ : Value, e = .returned (.tuple #[v0_, .int .i64 r2]) ∧ Kd.R Kd.string 9 w' w.heap.size (fun _ => True) v0_ r1 ∧ Below w.heap.size w w' := by
 have HR0 := Aside0.mk hr0
 have HC0 := Aside0.mk hc0
 clear hr0 hc0
 have HB := Aside0.mk (Below.refl w.heap.size w)
 have H : ((spec_l30Rows.f k l0).bind fun t140 => (if t140 = true then ((spec_l30Table.f k l0).bind fun t141 => ((spec_l30Done.f k t141).bind fun bt144 => (some (bt144.1, bt144.2)))) else (some (([] : List ByteArray), 2)))) = some (r1, r2) := h
 clear h
 replace H := Option.bind_eq_some_iff.mp H
 obtain ⟨t140, A20, H⟩ := H
 replace H : (if t140 = true then ((spec_l30Table.f k l0).bind fun t141 => ((spec_l30Done.f k t141).bind fun bt144 => (some (bt144.1, bt144.2)))) else (some (([] : List ByteArray), 2))) = some (r1, r2) := H
 have A2 := Aside0.mk A20
 clear A20
 by_cases c3 : t140 = true
 ·subst c3
  have H1 : ((spec_l30Table.f k l0).bind fun t141 => ((spec_l30Done.f k t141).bind fun bt144 => (some (bt144.1, bt144.2)))) = some (r1, r2) := by rw [if_pos rfl] at H; exact H
  clear H
  have H := H1
  clear H1
  replace H := Option.bind_eq_some_iff.mp H
  obtain ⟨t141, A40, H⟩ := H
  replace H : ((spec_l30Done.f k t141).bind fun bt144 => (some (bt144.1, bt144.2))) = some (r1, r2) := H
  have A4 := Aside0.mk A40
  clear A40
  replace H := Option.bind_eq_some_iff.mp H
  obtain ⟨⟨t144, t147⟩, A50, H⟩ := H
  replace H : (some (t144, t147)) = some (r1, r2) := H
  have A5 := Aside0.mk A50
  clear A50
  simp only [Option.some.injEq, Prod.mk.injEq] at H
  obtain ⟨rfl, rfl⟩ := H
  go_enter Tryd.func5, Tryd.ntmps5
  go_wp2_with (first | ((with_reducible refine gate_callee (f := 14) rfl ?_); refine goesL_ (some 5) rfl rfl Tryd.func14 (by kernel_rfl) rfl #[.slice A0 l0.length c0] rfl gZ ?_; (with_reducible refine (spec_l30Rows.calls k _ _ l0 true _ ?side1 ?side2 A2.out).mono ?_); (case side1 => repeat (first | exact HR0.out | (with_reducible refine Kd.C_alloc ?_ _) | (with_reducible refine Kd.C_drewN ?_ _) | (with_reducible refine Kd.C_drew ?_))); (case side2 => exact HC0.out); rintro e w' ⟨rfl, ⟨nd, rfl⟩⟩; refine ⟨_, rfl, ?_⟩) | ((with_reducible refine gate_callee (f := 16) rfl ?_); refine goesL_ (some 8) rfl rfl Tryd.func16 (by kernel_rfl) rfl #[.slice A0 l0.length c0] rfl gZ ?_; (with_reducible refine (spec_l30Table.calls k _ _ l0 t141 _ ?side1 ?side2 A4.out).mono ?_); (case side1 => repeat (first | exact HR0.out | (with_reducible refine Kd.C_alloc ?_ _) | (with_reducible refine Kd.C_drewN ?_ _) | (with_reducible refine Kd.C_drew ?_))); (case side2 => exact HC0.out); rintro e w6 ⟨v142, rfl, ho0, hb⟩; refine ⟨_, rfl, ?_⟩; have n0_ := Aside0.mk (Kd.R_lower ho0 bsZ); have n1_ := Aside0.mk (below_step bZ hb); clear HB; have HO143 := n0_; have HB := n1_; clear n0_ n1_; (try clear hb); (try clear hb2); (try clear hk); (try clear hi); (try clear ho0); obtain ⟨Ao7, co7, eo7⟩ := Kd.R_slice HO143.out; subst eo7) | ((with_reducible refine gate_callee (f := 15) rfl ?_); refine goesL_ (some 9) rfl rfl Tryd.func15 (by kernel_rfl) rfl #[.slice Ao7 t141.length co7] rfl gZ ?_; (with_reducible refine (spec_l30Done.calls k (fun k_ => some k_ = (.slice Ao7 t141.length co7 : Value).ownBlock) (.slice Ao7 t141.length co7) t141 t144 t147 w _ ?side1 ?side2 A5.out).mono ?_); (case side1 => repeat (first | (with_reducible first | exact HB.out | apply below_alloc | apply pw_below_drewN | apply below_drew1) | exact HB.out)); (case side2 => exact Kd.R_tight rfl HO143.out); rintro e w8 ⟨v145, rfl, ho0, hb, hkp⟩; refine ⟨_, rfl, ?_⟩; have n0_ := Aside0.mk (Kd.R_mono (ok' := fun k_ => True) ho0 (fun k_ hk_ => trivial)); have n1_ := Aside0.mk (hb); clear HB; clear HO143; have HO146 := n0_; have HB := n1_; clear n0_ n1_; (try clear hb); (try clear hkp); (try clear ho0)))
  go_ret2
  exact ⟨_, eZ, Kd.rZ HO146.out, bZ⟩
 ·replace c3 := Bool.eq_false_iff.mpr c3
  subst c3
  have H1 : (some (([] : List ByteArray), 2)) = some (r1, r2) := by rw [if_neg (show ¬ (false = true) by decide)] at H; exact H
  clear H
  have H := H1
  clear H1
  simp only [Option.some.injEq, Prod.mk.injEq] at H
  obtain ⟨rfl, rfl⟩ := H
  go_enter Tryd.func5, Tryd.ntmps5
  go_wp2_with (first | ((with_reducible refine gate_callee (f := 14) rfl ?_); refine goesL_ (some 5) rfl rfl Tryd.func14 (by kernel_rfl) rfl #[.slice A0 l0.length c0] rfl gZ ?_; (with_reducible refine (spec_l30Rows.calls k _ _ l0 false _ ?side1 ?side2 A2.out).mono ?_); (case side1 => repeat (first | exact HR0.out | (with_reducible refine Kd.C_alloc ?_ _) | (with_reducible refine Kd.C_drewN ?_ _) | (with_reducible refine Kd.C_drew ?_))); (case side2 => exact HC0.out); rintro e w' ⟨rfl, ⟨nd, rfl⟩⟩; refine ⟨_, rfl, ?_⟩))
  go_ret2
  exact ⟨_, eZ, by first | exact Kd.R_nil _ _ _ _ _ | exact Kd.N_nil _ _ _ _ _ | exact Kd.V_nil _ _ _ _ _ | exact Kd.Q_nil _ _ _ _ _ | exact Kd.S_nil _ _ _ _ _, bZ⟩
def laws_toStringS.l0 : Nat → List ByteArray → List ByteArray → Int → Option (List ByteArray)
 | 0, _, _, _ => none
 | k + 1, x0, x3, x4 => if x4 < (x0.length : Int) then (if 0 ≤ x4 then (if x4 < (x3.length : Int) then (laws_toStringS.l0 k x0 (x3.set (x4 : Int).toNat (rdOf ByteArray.empty x0 x4)) (wrap64 (x4 + 1))) else (none)) else (none)) else (some x3)
def laws_toStringS.f (k : Nat) (l0 : List ByteArray) : Option (List ByteArray) := if 0 ≤ (l0.length : Int) then (if ((l0.length : Int) : Int).toNat ≤ 17592186044416 then (laws_toStringS.l0 k l0 (List.replicate ((l0.length : Int) : Int).toNat (⟨#[]⟩ : ByteArray)) 0) else (none)) else (none)
set_option maxHeartbeats 8000000 in
set_option maxRecDepth 100000 in
theorem laws_toStringS.calls (k : Nat) (A0 : Option Addr) (c0 : Nat) (l0 : List ByteArray) (r : List ByteArray) (w : World) (hr0 : Kd.C Kd.string w A0 l0.length l0) (hc0 : l0.length ≤ c0) (h : laws_toStringS.f k l0 = some r) :
  Calls Tryd.prog 17 #[.slice A0 l0.length c0] w fun e w' => ∃ v0_ : Value, e = .returned (v0_) ∧ Kd.R Kd.string 9 w' w.heap.size (fun _ => True) v0_ r ∧ Below w.heap.size w w' := by
 have HR0 := Aside0.mk hr0
 have HC0 := Aside0.mk hc0
 clear hr0 hc0
 have HB := Aside0.mk (Below.refl w.heap.size w)
 have H : (if 0 ≤ (l0.length : Int) then (if ((l0.length : Int) : Int).toNat ≤ 17592186044416 then (laws_toStringS.l0 k l0 (List.replicate ((l0.length : Int) : Int).toNat (⟨#[]⟩ : ByteArray)) 0) else (none)) else (none)) = some r := h
 clear h
 by_cases c2 : 0 ≤ (l0.length : Int)
 ·rw [if_pos c2] at H
  have c2b0 := eq_true c2
  have c2b1 : decide (0 ≤ (l0.length : Int)) = true := decide_eq_true c2
  clear c2
  by_cases c3 : ((l0.length : Int) : Int).toNat ≤ 17592186044416
  ·rw [if_pos c3] at H
   have c3b0 := eq_true c3
   have c3b1 : decide (((l0.length : Int) : Int).toNat ≤ 17592186044416) = true := decide_eq_true c3
   clear c3
   obtain ⟨y148, hy148⟩ : ∃ y_ : List ByteArray, y_ = (List.replicate ((l0.length : Int) : Int).toNat (⟨#[]⟩ : ByteArray)) := ⟨_, rfl⟩
   replace H : (laws_toStringS.l0 k l0 y148 0) = some r := by first | (rw [hy148]; with_reducible exact H) | (have H2_ := (Option.bind_some _ _).symm.trans H; rw [hy148]; with_reducible exact H2_) | (have H2_ := (Option.bind_some _ _).symm.trans H; with_reducible exact H2_) | with_reducible exact H | (rw [hy148]; exact H) | exact H
   have Ny148 := Aside0.mk hy148
   clear hy148
   have H' := Aside0.mk H
   clear H
   go_enter Tryd.func17, Tryd.ntmps17
   go_wp2_with (first | ((with_reducible refine gate_dst (N := 7) rfl ?_); refine Kd.R_make Kd.string _ 9 rfl (N := 7) rfl 24 _ _ rfl (l0.length : Int) rfl rfl Tryd.underlying24 (.string ⟨#[]⟩) 16 info9 rfl (by decide) (by omega) (⟨#[]⟩ : ByteArray) (ok := fun _ => True) (okp := fun _ => True) rfl (fun _ hk => hk) trivial oZ (Nat.le_trans (Nat.mul_le_mul_right _ (oZ : (l0.length : Int).toNat ≤ 17592186044416)) (by omega)) (Below.refl _ _) (Nat.le_refl _) ?_; intro v149 w4 ho5 hb hg_ hnew_; clear hg_ hnew_; (first | rw [← Ny148.out] at ho5 | (simp only [Int.reduceToNat] at ho5; rw [← Ny148.out] at ho5)); have n0_ := Aside0.mk (Kd.R_lower ho5 bsZ); have n1_ := Aside0.mk (below_step bZ hb); clear HB; have HO150 := n0_; have HB := n1_; clear n0_ n1_; clear hb ho5))
   go_loopg [4] k (fun kq v4 w' => ∃ (x3_1 : List ByteArray) (x4_1 : Int), v4 = .int .i64 x4_1 ∧ Aside0 (laws_toStringS.l0 kq l0 x3_1 x4_1 = some r) ∧ Aside0 (kq ≤ k) ∧ Aside0 (Kd.R Kd.string 9 w' w.heap.size (fun _ => True) v149 x3_1) ∧ Aside0 (Below w.heap.size w w'))
   case atStart => exact ⟨(y148), (0), sZ, H', ⟨Nat.le_refl _⟩, ⟨Kd.rZ HO150.out⟩, ⟨bZ⟩⟩
   case round =>
    clear H'; (try clear c1); (try clear c2); (try clear c2b0); (try clear c2b1); (try clear p2); (try clear c3); (try clear c3b0); (try clear c3b1)
    obtain ⟨x3_1, x4_1, rfl, HA, HK1, HO_3, HB⟩ := hrel
    cases gk with
    | zero => exact absurd HA.out (by simp [laws_toStringS.l0])
    | succ k1 =>
     have H := HA.out
     clear HA
     simp only [laws_toStringS.l0] at H
     by_cases c6 : x4_1 < (l0.length : Int)
     ·rw [if_pos c6] at H
      have c6b0 : decide (x4_1 < (l0.length : Int)) = true := decide_eq_true c6
      clear c6
      by_cases c7 : 0 ≤ x4_1
      ·rw [if_pos c7] at H
       have c7b0 : decide (0 ≤ x4_1) = true := decide_eq_true c7
       clear c7
       by_cases c8 : x4_1 < (x3_1.length : Int)
       ·rw [if_pos c8] at H
        have c8b0 : decide (x4_1 < (x3_1.length : Int)) = true := decide_eq_true c8
        clear c8
        obtain ⟨y152, hy152⟩ : ∃ y_ : List ByteArray, y_ = (x3_1.set (x4_1 : Int).toNat (rdOf ByteArray.empty l0 x4_1)) := ⟨_, rfl⟩
        replace H : (laws_toStringS.l0 k1 l0 y152 (wrap64 (x4_1 + 1))) = some r := by first | (rw [hy152]; with_reducible exact H) | (have H2_ := (Option.bind_some _ _).symm.trans H; rw [hy152]; with_reducible exact H2_) | (have H2_ := (Option.bind_some _ _).symm.trans H; with_reducible exact H2_) | with_reducible exact H | (rw [hy152]; exact H) | exact H
        have Ny152 := Aside0.mk hy152
        clear hy152
        have H' := Aside0.mk H
        clear H
        have p151 : 0 ≤ (x4_1 : Int) := oZ
        have q151 : x4_1 < (l0.length : Int) := oZ
        obtain ⟨ad151, e151, hx151_0⟩ := Kd.at_string HR0.out x4_1 p151 q151
        cases e151
        replace hx151_0 := (HB.out.cell (World.block_lt_of_cell? w _ hx151_0)).trans hx151_0
        replace p151 := eq_true p151
        replace q151 := eq_true q151
        have p9 : 0 ≤ (x4_1 : Int) := oZ
        have q9 : (x4_1 : Int) < ((x3_1.length : Int) : Int) := oZ
        obtain ⟨go9, co9, eo9, gb9, gl9, cl9, HG9⟩ := Kd.R_form HO_3.out (by omega)
        (first | cases eo9 | (injection eo9 with ea_ en_ ec_; (first | subst ea_ | (injection ea_ with ea_; subst ea_)); subst ec_; clear en_))
        have GB9 := Aside0.mk gb9
        have GG9 := Aside0.mk HG9
        clear gb9 gl9 HG9
        obtain ⟨hx9_0, hf9_0⟩ := Kd.R_celln (⟨#[]⟩ : ByteArray) HO_3.out (x4_1 : Int) p9 q9
        replace p9 := eq_true p9
        replace q9 := eq_true q9
        have HP10 := Kd.R_putg HO_3.out (x4_1 : Int) (rdOf ByteArray.empty l0 x4_1)
        go_wp2_with (first | ((with_reducible refine gate_store (t := 9) (p := 20) rfl ?_); refine store_event (t := 9) (p := 20) (v := ?vo_w11) (w1 := (wr.setCell ⟨go9, (x4_1 : Int).toNat, none⟩ (.string (rdOf ByteArray.empty l0 x4_1)))) ?hg ?ho ?hn ?hr ?_; (case ho => rfl); (case hg => rfl); (case hn => rfl); (case hr => first | (go_simp; done) | (go_simp; rfl)); intro w11 hw; have hg : wr.grownBy w11 (some go9) := (by rw [hw]; exact HP10.2); have hp_ : Kd.R Kd.string 9 w11 w.heap.size (fun _ => True) (.slice (some ⟨go9, 0, none⟩) x3_1.length co9) y152 := (by rw [hw, Ny152.out]; exact HP10.1); clear HP10; have n0_ := Aside0.mk (hp_); have n1_ := Aside0.mk ((by rw [hw]; exact below_set (HB.out) GB9.out : Below w.heap.size w w11)); clear HO_3; clear HB; have HO_3 := n0_; have HB := n1_; clear n0_ n1_; clear hg hw hp_))
        go_roundg k1
        case measure => have := HK1.out; omega
        case rel => exact ⟨(y152), (wrap64 (x4_1 + 1)), sZ, H', ⟨by have := HK1.out; omega⟩, ⟨Kd.rZ HO_3.out⟩, ⟨bZ⟩⟩
       ·rw [if_neg c8] at H
        exact absurd H (by simp)
      ·rw [if_neg c7] at H
       exact absurd H (by simp)
     ·rw [if_neg c6] at H
      have c6b0 : decide (x4_1 < (l0.length : Int)) = false := decide_eq_false c6
      clear c6
      obtain rfl := Option.some.inj H
      go_wp2
      go_ret
      exact ⟨_, eZ, Kd.rZ HO_3.out, bZ⟩
  ·rw [if_neg c3] at H
   exact absurd H (by simp)
 ·rw [if_neg c2] at H
  exact absurd H (by simp)
end Go.Proofs.YtadaegehdcngdaaDoor.XU
end

section
namespace Go.Proofs.YtadaegehdcngdaaDoor.XU
open Go.RowKit Go.Proofs.YtadaegehdcngdaaDoorW.PrintWords Go.Proofs.YtadaegehdcngdaaDoorW.PrintLast Go.Proofs.YtadaegehdcngdaaDoorW.PrintMore
attribute [local go_sem] run_eql_slice_nil binOp_string_gtr' binOp_string_leq' binOp_string_geq' max2_int min2_int max_two min_two max_three min_three max_four min_four   -- for this text's walks alone
set_option linter.unusedVariables false
set_option linter.unusedSimpArgs false
def laws_toStringSS.l0 : Nat → List (List ByteArray) → List (List ByteArray) → Int → Option ((List (List ByteArray)))
 | 0, _, _, _ => none
 | k + 1, x0, x3, x4 => if x4 < (x0.length : Int) then (if 0 ≤ x4 then ((laws_toStringS.f k (rd_L1 x0 x4)).bind fun t157 => (if x4 < (x3.length : Int) then (laws_toStringSS.l0 k x0 (x3.set (x4 : Int).toNat t157) (wrap64 (x4 + 1))) else (none))) else (none)) else (some x3)
def laws_toStringSS.f (k : Nat) (l0 : List (List ByteArray)) : Option ((List (List ByteArray))) := if 0 ≤ (l0.length : Int) then (if ((l0.length : Int) : Int).toNat ≤ 11728124029610 then (laws_toStringSS.l0 k l0 (List.replicate ((l0.length : Int) : Int).toNat []) 0) else (none)) else (none)
set_option maxHeartbeats 8000000 in
set_option maxRecDepth 100000 in
theorem laws_toStringSS.calls (k : Nat) (A0 : Option Addr) (c0 : Nat) (l0 : List (List ByteArray)) (r : List (List ByteArray)) (w : World) (hr0 : Kd.C (Kd.slice 9 Kd.string) w A0 l0.length l0) (hc0 : l0.length ≤ c0) (h : laws_toStringSS.f k l0 = some r) :
  Calls Tryd.prog 6 #[.slice A0 l0.length c0] w fun e w' => ∃ v0_ : Value, e = .returned (v0_) ∧ Kd.S (Kd.slice 9 Kd.string) 24 w' w.heap.size (fun _ => True) v0_ r ∧ Below w.heap.size w w' := by
 have HR0 := Aside0.mk hr0
 have HC0 := Aside0.mk hc0
 clear hr0 hc0
 have HB := Aside0.mk (Below.refl w.heap.size w)
 have H : (if 0 ≤ (l0.length : Int) then (if ((l0.length : Int) : Int).toNat ≤ 11728124029610 then (laws_toStringSS.l0 k l0 (List.replicate ((l0.length : Int) : Int).toNat []) 0) else (none)) else (none)) = some r := h
 clear h
 by_cases c2 : 0 ≤ (l0.length : Int)
 ·rw [if_pos c2] at H
  have c2b0 := eq_true c2
  have c2b1 : decide (0 ≤ (l0.length : Int)) = true := decide_eq_true c2
  clear c2
  by_cases c3 : ((l0.length : Int) : Int).toNat ≤ 11728124029610
  ·rw [if_pos c3] at H
   have c3b0 := eq_true c3
   have c3b1 : decide (((l0.length : Int) : Int).toNat ≤ 11728124029610) = true := decide_eq_true c3
   clear c3
   obtain ⟨y153, hy153⟩ : ∃ y_ : List (List ByteArray), y_ = (List.replicate ((l0.length : Int) : Int).toNat []) := ⟨_, rfl⟩
   replace H : (laws_toStringSS.l0 k l0 y153 0) = some r := by first | (rw [hy153]; with_reducible exact H) | (have H2_ := (Option.bind_some _ _).symm.trans H; rw [hy153]; with_reducible exact H2_) | (have H2_ := (Option.bind_some _ _).symm.trans H; with_reducible exact H2_) | with_reducible exact H | (rw [hy153]; exact H) | exact H
   have Ny153 := Aside0.mk hy153
   clear hy153
   have H' := Aside0.mk H
   clear H
   go_enter Tryd.func6, Tryd.ntmps6
   go_wp2_with (first | ((with_reducible refine gate_dst (N := 7) rfl ?_); refine Kd.S_make (Kd.slice 9 Kd.string) _ 24 rfl (N := 7) rfl 22 _ _ rfl (l0.length : Int) rfl rfl Tryd.underlying22 (.slice none 0 0) 24 info24 rfl (by decide) (by omega) [] (ok := fun _ => True) (okp := fun _ => True) ⟨_, rfl, Kd.R_nil _ _ _ _ _⟩ (fun _ hk => hk) trivial oZ (Nat.le_trans (Nat.mul_le_mul_right _ (oZ : (l0.length : Int).toNat ≤ 11728124029610)) (by omega)) (Below.refl _ _) (Nat.le_refl _) ?_; intro v154 w4 ho5 hb hg_ hnew_; clear hg_ hnew_; (first | rw [← Ny153.out] at ho5 | (simp only [Int.reduceToNat] at ho5; rw [← Ny153.out] at ho5)); have n0_ := Aside0.mk (Kd.S_lower ho5 bsZ); have n1_ := Aside0.mk (below_step bZ hb); clear HB; have HO155 := n0_; have HB := n1_; clear n0_ n1_; clear hb ho5))
   go_loopg [4] k (fun kq v4 w' => ∃ (x3_1 : List (List ByteArray)) (x4_1 : Int), v4 = .int .i64 x4_1 ∧ Aside0 (laws_toStringSS.l0 kq l0 x3_1 x4_1 = some r) ∧ Aside0 (kq ≤ k) ∧ Aside0 (Kd.S (Kd.slice 9 Kd.string) 24 w' w.heap.size (fun _ => True) v154 x3_1) ∧ Aside0 (Below w.heap.size w w'))
   case atStart => exact ⟨(y153), (0), sZ, H', ⟨Nat.le_refl _⟩, ⟨by (with_reducible repeat (first | apply Kd.S_alloc | apply Kd.S_drewN | apply Kd.S_drew)); exact HO155.out⟩, ⟨bZ⟩⟩
   case round =>
    clear H'; (try clear c2); (try clear c2b0); (try clear c2b1); (try clear p2); (try clear c3); (try clear c3b0); (try clear c3b1)
    obtain ⟨x3_1, x4_1, rfl, HA, HK1, HO_3, HB⟩ := hrel
    cases gk with
    | zero => exact absurd HA.out (by simp [laws_toStringSS.l0])
    | succ k1 =>
     have H := HA.out
     clear HA
     simp only [laws_toStringSS.l0] at H
     by_cases c6 : x4_1 < (l0.length : Int)
     ·rw [if_pos c6] at H
      have c6b0 : decide (x4_1 < (l0.length : Int)) = true := decide_eq_true c6
      clear c6
      by_cases c7 : 0 ≤ x4_1
      ·rw [if_pos c7] at H
       have c7b0 : decide (0 ≤ x4_1) = true := decide_eq_true c7
       clear c7
       replace H := Option.bind_eq_some_iff.mp H
       obtain ⟨t157, A80, H⟩ := H
       replace H : (if x4_1 < (x3_1.length : Int) then (laws_toStringSS.l0 k1 l0 (x3_1.set (x4_1 : Int).toNat t157) (wrap64 (x4_1 + 1))) else (none)) = some r := H
       have A8 := Aside0.mk A80
       clear A80
       by_cases c9 : x4_1 < (x3_1.length : Int)
       ·rw [if_pos c9] at H
        have c9b0 : decide (x4_1 < (x3_1.length : Int)) = true := decide_eq_true c9
        clear c9
        obtain ⟨y160, hy160⟩ : ∃ y_ : List (List ByteArray), y_ = (x3_1.set (x4_1 : Int).toNat t157) := ⟨_, rfl⟩
        replace H : (laws_toStringSS.l0 k1 l0 y160 (wrap64 (x4_1 + 1))) = some r := by first | (rw [hy160]; with_reducible exact H) | (have H2_ := (Option.bind_some _ _).symm.trans H; rw [hy160]; with_reducible exact H2_) | (have H2_ := (Option.bind_some _ _).symm.trans H; with_reducible exact H2_) | with_reducible exact H | (rw [hy160]; exact H) | exact H
        have Ny160 := Aside0.mk hy160
        clear hy160
        have H' := Aside0.mk H
        clear H
        have p156 : 0 ≤ (x4_1 : Int) := oZ
        have q156 : x4_1 < (l0.length : Int) := oZ
        obtain ⟨ad156, A156_0, c156_0, e156, hx156_0, hl156_0, hi156_0⟩ := at_L1 HR0.out x4_1 p156 q156
        cases e156
        replace hx156_0 := (HB.out.cell (World.block_lt_of_cell? w _ hx156_0)).trans hx156_0
        have HR156_0 := Aside0.mk hi156_0
        have HC156_0 := Aside0.mk hl156_0
        clear hi156_0 hl156_0
        replace p156 := eq_true p156
        replace q156 := eq_true q156
        go_wp2_with (first | ((with_reducible refine gate_callee (f := 17) rfl ?_); refine goesL_ (some 20) rfl rfl Tryd.func17 (by kernel_rfl) rfl #[.slice A156_0 (rd_L1 l0 x4_1).length c156_0] rfl gZ ?_; (with_reducible refine (laws_toStringS.calls k1 _ _ (rd_L1 l0 x4_1) t157 _ ?side1 ?side2 A8.out).mono ?_); (case side1 => repeat (first | exact (Kd.C_below HR156_0.out HB.out) | (with_reducible refine Kd.C_alloc ?_ _) | (with_reducible refine Kd.C_drewN ?_ _) | (with_reducible refine Kd.C_drew ?_))); (case side2 => exact HC156_0.out); rintro e w11 ⟨v158, rfl, ho0, hb⟩; obtain ⟨Av158, cv158, rfl⟩ := Kd.R_slice ho0; refine ⟨_, rfl, ?_⟩; have n0_ := Aside0.mk (Kd.S_elder' (by (with_reducible repeat (first | apply Kd.S_alloc | apply Kd.S_drewN | apply Kd.S_drew)); exact HO_3.out) (Kd.R_base ho0) hb); have n1_ := Aside0.mk (Kd.R_lower ho0 bsZ); have n2_ := Aside0.mk (below_step bZ hb); clear HO_3; clear HB; have HO_3 := n0_; have HO159 := n1_; have HB := n2_; clear n0_ n1_ n2_; (try clear hb); (try clear hb2); (try clear hk); (try clear hi); (try clear ho0); have p10 : 0 ≤ (x4_1 : Int) := oZ; have q10 : (x4_1 : Int) < ((x3_1.length : Int) : Int) := oZ; obtain ⟨go10, co10, eo10, gb10, gl10, cl10, HG10⟩ := Kd.S_form HO_3.out (by omega); (first | cases eo10 | (injection eo10 with ea_ en_ ec_; (first | subst ea_ | (injection ea_ with ea_; subst ea_)); subst ec_; clear en_)); have GB10 := Aside0.mk gb10; have GG10 := Aside0.mk HG10; clear gb10 gl10 HG10; obtain ⟨_, ce10, hcl10, hM10, hcc10, hfr10, _, _⟩ := Kd.S_elem HO_3.out [] (x4_1 : Int) p10 q10; obtain ⟨ve10_0, rfl, ge10_0⟩ := hM10; have hx10_0 := hcc10 0 _ rfl; have hf10_0 := hfr10 0; (try simp only [show ((Kd.slice 9 Kd.string)).sz = 1 from rfl, Nat.mul_one, Nat.add_zero] at hx10_0); (try simp only [show ((Kd.slice 9 Kd.string)).sz = 1 from rfl, Nat.mul_one, Nat.add_zero] at hf10_0); clear hcl10 hcc10 hfr10; (try clear hM10); replace p10 := eq_true p10; replace q10 := eq_true q10; have n_ := Aside0.mk (Kd.S_mono (ok' := (fun k_ => some k_ ≠ ((Value.slice Av158 t157.length cv158) : Value).ownBlock)) HO_3.out (fun k_ hk => hk.2)); clear HO_3; have HO_3 := n_; clear n_; have HX12 := Aside0.mk (show Kd.S (Kd.slice 9 Kd.string) 24 w11 w.heap.size (fun k_ => ((fun _ => True)) k_ ∧ ¬ ((fun k_ => some k_ = ((Value.slice Av158 t157.length cv158) : Value).ownBlock)) k_) (.slice (some ⟨go10, 0, none⟩) x3_1.length co10) x3_1 from (by (with_reducible repeat (first | apply Kd.S_alloc | apply Kd.S_drewN | apply Kd.S_drew)); exact Kd.S_mono HO_3.out (fun k_ hk => ⟨trivial, fun e_ => hk e_⟩))); obtain ⟨oki12, ce12, hcl12, hM12, hcc12, hfr12, hoki12, hH12⟩ := Kd.S_elem HX12.out [] (x4_1 : Int) oZ (by have h_ : (x4_1 : Int) < ((x3_1.length : Int) : Int) := oZ; first | exact h_ | (have e_ := (Kd.S_reads' HO_3.out).1; omega) | simpa using h_); obtain ⟨ve12_0, rfl, ge12_0⟩ := hM12; have HP12 := Kd.S_seg hH12 oZ (by have h_ : (x4_1 : Int) < ((x3_1.length : Int) : Int) := oZ; first | exact h_ | (have e_ := (Kd.S_reads' HO_3.out).1; omega) | simpa using h_) (seg := [(Value.slice Av158 t157.length cv158)]) (j := 0) (show 1 ≤ 1 from by decide) (x' := t157) (Kd.M_row (Kd.R_mono (Kd.R_tight rfl (Kd.R_mono (ok' := fun k_ => ((fun _ => True)) k_ ∧ k_ ≠ go10) (Kd.R_apart' (HO159.out) (Kd.S_typed HO_3.out) (by decide)) (fun k_ hk => ⟨trivial, fun e_ => (hk.2) (by rw [e_]; rfl)⟩))) (fun _ h_ => Or.inr (h_)))) (fun _ hk => hk) (fun k_ hk_ => ((Kd.R_mono (ok' := fun k_ => ((fun _ => True)) k_ ∧ k_ ≠ go10) (Kd.R_apart' (HO159.out) (Kd.S_typed HO_3.out) (by decide)) (fun k_ hk => ⟨trivial, fun e_ => (hk.2) (by rw [e_]; rfl)⟩))).1 k_ hk_.symm); have hx12_0 := hcc12 0 _ rfl; (try simp only [show ((Kd.slice 9 Kd.string)).sz = 1 from rfl, Nat.mul_one, Nat.add_zero] at hx12_0); have hf12_0 := hfr12 0; (try simp only [show ((Kd.slice 9 Kd.string)).sz = 1 from rfl, Nat.mul_one, Nat.add_zero] at hf12_0); clear hcl12 hcc12 hfr12 hoki12 hH12; (try clear hM12); (try simp only [show ((Kd.slice 9 Kd.string)).sz = 1 from rfl, Nat.mul_one, Nat.add_zero] at HP12)) | ((with_reducible refine gate_store (t := 24) (p := 21) rfl ?_); refine store_event (t := 24) (p := 21) (v := ?vo_w13) (w1 := (w11.setCell ⟨go10, (x4_1 : Int).toNat, none⟩ ((Value.slice Av158 t157.length cv158)))) ?hg ?ho ?hn ?hr ?_; (case ho => rfl); (case hg => rfl); (case hn => rfl); (case hr => first | (go_simp; done) | (go_simp; rfl)); intro w13 hw; have hg : w11.grownBy w13 (some go10) := (by rw [hw]; exact HP12.2); have hp_ : Kd.S (Kd.slice 9 Kd.string) 24 w13 w.heap.size (fun _ => True) (.slice (some ⟨go10, 0, none⟩) x3_1.length co10) y160 := (by rw [hw, Ny160.out]; exact HP12.1); clear HP12; have n0_ := Aside0.mk (hp_); have n1_ := Aside0.mk ((by rw [hw]; exact below_set (HB.out) GB10.out : Below w.heap.size w w13)); clear HO_3; clear HB; clear HO159; have HO_3 := n0_; have HB := n1_; clear n0_ n1_; clear hg hw hp_))
        go_roundg k1
        case measure => have := HK1.out; omega
        case rel => exact ⟨(y160), (wrap64 (x4_1 + 1)), sZ, H', ⟨by have := HK1.out; omega⟩, ⟨by (with_reducible repeat (first | apply Kd.S_alloc | apply Kd.S_drewN | apply Kd.S_drew)); exact HO_3.out⟩, ⟨bZ⟩⟩
       ·rw [if_neg c9] at H
        exact absurd H (by simp)
      ·rw [if_neg c7] at H
       exact absurd H (by simp)
     ·rw [if_neg c6] at H
      have c6b0 : decide (x4_1 < (l0.length : Int)) = false := decide_eq_false c6
      clear c6
      obtain rfl := Option.some.inj H
      go_wp2
      go_ret
      exact ⟨_, eZ, by (with_reducible repeat (first | apply Kd.S_alloc | apply Kd.S_drewN | apply Kd.S_drew)); exact HO_3.out, bZ⟩
  ·rw [if_neg c3] at H
   exact absurd H (by simp)
 ·rw [if_neg c2] at H
  exact absurd H (by simp)
end Go.Proofs.YtadaegehdcngdaaDoor.XU
end
