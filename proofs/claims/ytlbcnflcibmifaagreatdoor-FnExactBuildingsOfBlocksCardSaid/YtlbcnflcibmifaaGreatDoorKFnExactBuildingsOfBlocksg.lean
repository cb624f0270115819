/- The law FnExactBuildingsOfBlocks: part 6 of its texts, joined (wip/pack.py). -/
import Derived.Test.YtlbcnflcibmifaaGreatDoorKFnExactBuildingsOfBlocksa
import Derived.Test.YtlbcnflcibmifaaGreatDoorKFnExactBuildingsOfBlocksb
import Derived.Test.YtlbcnflcibmifaaGreatDoorKFnExactBuildingsOfBlocksc
import Derived.Test.YtlbcnflcibmifaaGreatDoorKFnExactBuildingsOfBlocksd
import Derived.Test.YtlbcnflcibmifaaGreatDoorKFnExactBuildingsOfBlockse
import Derived.Test.YtlbcnflcibmifaaGreatDoorKFnExactBuildingsOfBlocksf

section
namespace Go.Proofs.YtlbcnflcibmifaaGreatDoor.XT
open Go.RowKit Go.Proofs.YtlbcnflcibmifaaGreatDoorW.PrintWords Go.Proofs.YtlbcnflcibmifaaGreatDoorW.PrintLast Go.Proofs.YtlbcnflcibmifaaGreatDoorW.PrintMore
attribute [local go_sem] run_eql_slice_nil binOp_string_gtr' binOp_string_leq' binOp_string_geq' max2_int min2_int max_two min_two max_three min_three max_four min_four   -- for this text's walks alone
set_option linter.unusedVariables false
set_option linter.unusedSimpArgs false
def impl_ReadBuilding.f (k : Nat) (a0 : ByteArray) : Option (ByteArray × Int × Int × Int × Int × List Int × Bool) := (strings_Split.f a0 (⟨#[32]⟩ : ByteArray)).bind fun t270 => (if (t270.length : Int) = 3 then (if 1 < (t270.length : Int) then ((impl_readNumbers.f k (rdOf ByteArray.empty t270 1) 4).bind fun bt274 => (if 2 < (t270.length : Int) then ((impl_ReadList.f k (rdOf ByteArray.empty t270 2)).bind fun bt279 => (if 0 < (t270.length : Int) then (if 0 < (bt274.1.length : Int) then (if 1 < (bt274.1.length : Int) then (if 2 < (bt274.1.length : Int) then (if 3 < (bt274.1.length : Int) then (if bt274.2 = true then (if bt279.2 = true then ((impl_BuildingText.f k (rdOf ByteArray.empty t270 0) (rd bt274.1 0) (rd bt274.1 1) (rd bt274.1 2) (rd bt274.1 3) bt279.1).bind fun t289 => (if t289.toList = a0.toList then (some (rdOf ByteArray.empty t270 0, rd bt274.1 0, rd bt274.1 1, rd bt274.1 2, rd bt274.1 3, bt279.1, true)) else (some ((⟨#[]⟩ : ByteArray), 0, 0, 0, 0, ([] : List Int), false)))) else (some ((⟨#[]⟩ : ByteArray), 0, 0, 0, 0, ([] : List Int), false))) else (some ((⟨#[]⟩ : ByteArray), 0, 0, 0, 0, ([] : List Int), false))) else (none)) else (none)) else (none)) else (none)) else (none))) else (none))) else (none)) else (some ((⟨#[]⟩ : ByteArray), 0, 0, 0, 0, ([] : List Int), false)))
def impl_ReadBuilding.T6 : Bool × List (List Nat × List Nat) := (true, [([], []), ([0], [0]), ([1], [1]), ([], []), ([3], [3]), ([4], [4]), ([], []), ([6], [6]), ([7], [7]), ([], []), ([9], [9]), ([10], [10]), ([], []), ([12], [12]), ([13], [13]), ([], []), ([2, 5, 8, 11, 14, 15], [2, 5, 8, 11, 14, 15]), ([], []), ([17, 16, 0, 1, 2, 3, 4, 5, 6, 7, 8, 9, 10, 11, 12, 13, 14, 15, 16, 17], [16, 17])])
def impl_ReadBuilding.B6 : List Nat := [0, 1, 3, 0, 8, 24, 0, 64, 192, 0, 512, 1536, 0, 4096, 12288, 0, 65535, 0, 262143]
theorem impl_ReadBuilding.tab6 : rtab .any (opsOf Tryz.f18 6) = impl_ReadBuilding.T6 := by kernel_rfl
theorem impl_ReadBuilding.bits6 : waitsOk impl_ReadBuilding.T6.2 impl_ReadBuilding.B6 = true := by kernel_rfl
set_option maxHeartbeats 8000000 in
set_option maxRecDepth 100000 in
theorem impl_ReadBuilding.calls (k : Nat) (a0 : ByteArray) (r1 : ByteArray) (r2 : Int) (r3 : Int) (r4 : Int) (r5 : Int) (r6 : List Int) (r7 : Bool) (w : World) (hSH : ShT Tryz.prog w) (h : impl_ReadBuilding.f k a0 = some (r1, r2, r3, r4, r5, r6, r7)) :
  Calls Tryz.prog 18 #[.string a0] w fun e w' => ∃ v5_ : Value, e = .returned (.tuple #[.agg #[.string r1, .int .i64 r2, .int .i64 r3, .int .i64 r4, .int .i64 r5, v5_], .bool r7]) ∧ Kd.R (Kd.int .i64) 2 w' w.heap.size (fun _ => True) v5_ r6 ∧ Below w.heap.size w w' := by
 have hu41 := Tryz.underlying41
 have HB := Aside0.mk (Below.refl w.heap.size w)
 have HSH := Aside0.mk hSH
 clear hSH
 have H : ((strings_Split.f a0 (⟨#[32]⟩ : ByteArray)).bind fun t270 => (if (t270.length : Int) = 3 then (if 1 < (t270.length : Int) then ((impl_readNumbers.f k (rdOf ByteArray.empty t270 1) 4).bind fun bt274 => (if 2 < (t270.length : Int) then ((impl_ReadList.f k (rdOf ByteArray.empty t270 2)).bind fun bt279 => (if 0 < (t270.length : Int) then (if 0 < (bt274.1.length : Int) then (if 1 < (bt274.1.length : Int) then (if 2 < (bt274.1.length : Int) then (if 3 < (bt274.1.length : Int) then (if bt274.2 = true then (if bt279.2 = true then ((impl_BuildingText.f k (rdOf ByteArray.empty t270 0) (rd bt274.1 0) (rd bt274.1 1) (rd bt274.1 2) (rd bt274.1 3) bt279.1).bind fun t289 => (if t289.toList = a0.toList then (some (rdOf ByteArray.empty t270 0, rd bt274.1 0, rd bt274.1 1, rd bt274.1 2, rd bt274.1 3, bt279.1, true)) else (some ((⟨#[]⟩ : ByteArray), 0, 0, 0, 0, ([] : List Int), false)))) else (some ((⟨#[]⟩ : ByteArray), 0, 0, 0, 0, ([] : List Int), false))) else (some ((⟨#[]⟩ : ByteArray), 0, 0, 0, 0, ([] : List Int), false))) else (none)) else (none)) else (none)) else (none)) else (none))) else (none))) else (none)) else (some ((⟨#[]⟩ : ByteArray), 0, 0, 0, 0, ([] : List Int), false)))) = some (r1, r2, r3, r4, r5, r6, r7) := h
 clear h
 replace H := Option.bind_eq_some_iff.mp H
 obtain ⟨t270, A20, H⟩ := H
 replace H : (if (t270.length : Int) = 3 then (if 1 < (t270.length : Int) then ((impl_readNumbers.f k (rdOf ByteArray.empty t270 1) 4).bind fun bt274 => (if 2 < (t270.length : Int) then ((impl_ReadList.f k (rdOf ByteArray.empty t270 2)).bind fun bt279 => (if 0 < (t270.length : Int) then (if 0 < (bt274.1.length : Int) then (if 1 < (bt274.1.length : Int) then (if 2 < (bt274.1.length : Int) then (if 3 < (bt274.1.length : Int) then (if bt274.2 = true then (if bt279.2 = true then ((impl_BuildingText.f k (rdOf ByteArray.empty t270 0) (rd bt274.1 0) (rd bt274.1 1) (rd bt274.1 2) (rd bt274.1 3) bt279.1).bind fun t289 => (if t289.toList = a0.toList then (some (rdOf ByteArray.empty t270 0, rd bt274.1 0, rd bt274.1 1, rd bt274.1 2, rd bt274.1 3, bt279.1, true)) else (some ((⟨#[]⟩ : ByteArray), 0, 0, 0, 0, ([] : List Int), false)))) else (some ((⟨#[]⟩ : ByteArray), 0, 0, 0, 0, ([] : List Int), false))) else (some ((⟨#[]⟩ : ByteArray), 0, 0, 0, 0, ([] : List Int), false))) else (none)) else (none)) else (none)) else (none)) else (none))) else (none))) else (none)) else (some ((⟨#[]⟩ : ByteArray), 0, 0, 0, 0, ([] : List Int), false))) = some (r1, r2, r3, r4, r5, r6, r7) := H
 have A2 := Aside0.mk A20
 clear A20
 by_cases c3 : (t270.length : Int) = 3
 ·rw [if_pos c3] at H
  have c3b0 : ((t270.length : Int) == 3) = true := beq_iff_eq.mpr c3
  have c3b1 : ((t270.length : Int) != 3) = false := bne_eq_false_iff_eq.mpr c3
  clear c3
  by_cases c4 : 1 < (t270.length : Int)
  ·rw [if_pos c4] at H
   have c4b0 : decide (1 < (t270.length : Int)) = true := decide_eq_true c4
   have c4b1 : decide (1 < t270.length) = true := decide_eq_true (by omega)
   clear c4
   replace H := Option.bind_eq_some_iff.mp H
   obtain ⟨⟨t274, t275⟩, A50, H⟩ := H
   replace H : (if 2 < (t270.length : Int) then ((impl_ReadList.f k (rdOf ByteArray.empty t270 2)).bind fun bt279 => (if 0 < (t270.length : Int) then (if 0 < (t274.length : Int) then (if 1 < (t274.length : Int) then (if 2 < (t274.length : Int) then (if 3 < (t274.length : Int) then (if t275 = true then (if bt279.2 = true then ((impl_BuildingText.f k (rdOf ByteArray.empty t270 0) (rd t274 0) (rd t274 1) (rd t274 2) (rd t274 3) bt279.1).bind fun t289 => (if t289.toList = a0.toList then (some (rdOf ByteArray.empty t270 0, rd t274 0, rd t274 1, rd t274 2, rd t274 3, bt279.1, true)) else (some ((⟨#[]⟩ : ByteArray), 0, 0, 0, 0, ([] : List Int), false)))) else (some ((⟨#[]⟩ : ByteArray), 0, 0, 0, 0, ([] : List Int), false))) else (some ((⟨#[]⟩ : ByteArray), 0, 0, 0, 0, ([] : List Int), false))) else (none)) else (none)) else (none)) else (none)) else (none))) else (none)) = some (r1, r2, r3, r4, r5, r6, r7) := H
   have A5 := Aside0.mk A50
   clear A50
   by_cases c6 : 2 < (t270.length : Int)
   ·rw [if_pos c6] at H
    have c6b0 : decide (2 < (t270.length : Int)) = true := decide_eq_true c6
    have c6b1 : decide (2 < t270.length) = true := decide_eq_true (by omega)
    clear c6
    replace H := Option.bind_eq_some_iff.mp H
    obtain ⟨⟨t279, t280⟩, A70, H⟩ := H
    replace H : (if 0 < (t270.length : Int) then (if 0 < (t274.length : Int) then (if 1 < (t274.length : Int) then (if 2 < (t274.length : Int) then (if 3 < (t274.length : Int) then (if t275 = true then (if t280 = true then ((impl_BuildingText.f k (rdOf ByteArray.empty t270 0) (rd t274 0) (rd t274 1) (rd t274 2) (rd t274 3) t279).bind fun t289 => (if t289.toList = a0.toList then (some (rdOf ByteArray.empty t270 0, rd t274 0, rd t274 1, rd t274 2, rd t274 3, t279, true)) else (some ((⟨#[]⟩ : ByteArray), 0, 0, 0, 0, ([] : List Int), false)))) else (some ((⟨#[]⟩ : ByteArray), 0, 0, 0, 0, ([] : List Int), false))) else (some ((⟨#[]⟩ : ByteArray), 0, 0, 0, 0, ([] : List Int), false))) else (none)) else (none)) else (none)) else (none)) else (none)) = some (r1, r2, r3, r4, r5, r6, r7) := H
    have A7 := Aside0.mk A70
    clear A70
    by_cases c8 : 0 < (t270.length : Int)
    ·rw [if_pos c8] at H
     have c8b0 : decide (0 < (t270.length : Int)) = true := decide_eq_true c8
     have c8b1 : decide (0 < t270.length) = true := decide_eq_true (by omega)
     clear c8
     by_cases c9 : 0 < (t274.length : Int)
     ·rw [if_pos c9] at H
      have c9b0 : decide (0 < (t274.length : Int)) = true := decide_eq_true c9
      have c9b1 : decide (0 < t274.length) = true := decide_eq_true (by omega)
      clear c9
      by_cases c10 : 1 < (t274.length : Int)
      ·rw [if_pos c10] at H
       have c10b0 : decide (1 < (t274.length : Int)) = true := decide_eq_true c10
       have c10b1 : decide (1 < t274.length) = true := decide_eq_true (by omega)
       clear c10
       by_cases c11 : 2 < (t274.length : Int)
       ·rw [if_pos c11] at H
        have c11b0 : decide (2 < (t274.length : Int)) = true := decide_eq_true c11
        have c11b1 : decide (2 < t274.length) = true := decide_eq_true (by omega)
        clear c11
        by_cases c12 : 3 < (t274.length : Int)
        ·rw [if_pos c12] at H
         have c12b0 : decide (3 < (t274.length : Int)) = true := decide_eq_true c12
         have c12b1 : decide (3 < t274.length) = true := decide_eq_true (by omega)
         clear c12
         by_cases c13 : t275 = true
         ·subst c13
          have H1 : (if t280 = true then ((impl_BuildingText.f k (rdOf ByteArray.empty t270 0) (rd t274 0) (rd t274 1) (rd t274 2) (rd t274 3) t279).bind fun t289 => (if t289.toList = a0.toList then (some (rdOf ByteArray.empty t270 0, rd t274 0, rd t274 1, rd t274 2, rd t274 3, t279, true)) else (some ((⟨#[]⟩ : ByteArray), 0, 0, 0, 0, ([] : List Int), false)))) else (some ((⟨#[]⟩ : ByteArray), 0, 0, 0, 0, ([] : List Int), false))) = some (r1, r2, r3, r4, r5, r6, r7) := by rw [if_pos rfl] at H; exact H
          clear H
          have H := H1
          clear H1
          by_cases c14 : t280 = true
          ·subst c14
           have H1 : ((impl_BuildingText.f k (rdOf ByteArray.empty t270 0) (rd t274 0) (rd t274 1) (rd t274 2) (rd t274 3) t279).bind fun t289 => (if t289.toList = a0.toList then (some (rdOf ByteArray.empty t270 0, rd t274 0, rd t274 1, rd t274 2, rd t274 3, t279, true)) else (some ((⟨#[]⟩ : ByteArray), 0, 0, 0, 0, ([] : List Int), false)))) = some (r1, r2, r3, r4, r5, r6, r7) := by rw [if_pos rfl] at H; exact H
           clear H
           have H := H1
           clear H1
           replace H := Option.bind_eq_some_iff.mp H
           obtain ⟨t289, A150, H⟩ := H
           replace H : (if t289.toList = a0.toList then (some (rdOf ByteArray.empty t270 0, rd t274 0, rd t274 1, rd t274 2, rd t274 3, t279, true)) else (some ((⟨#[]⟩ : ByteArray), 0, 0, 0, 0, ([] : List Int), false))) = some (r1, r2, r3, r4, r5, r6, r7) := H
           have A15 := Aside0.mk A150
           clear A150
           by_cases c16 : t289.toList = a0.toList
           ·rw [if_pos c16] at H
            have c16b0 : (t289.toList == a0.toList) = true := beq_iff_eq.mpr c16
            have c16b1 : (t289.toList != a0.toList) = false := bne_eq_false_iff_eq.mpr c16
            clear c16
            simp only [Option.some.injEq, Prod.mk.injEq] at H
            obtain ⟨rfl, rfl, rfl, rfl, rfl, rfl, rfl⟩ := H
            go_enter Tryz.func18, Tryz.ntmps18
            try go_wp2_with (first | ((with_reducible refine gate_dst (N := 2) rfl ?_); refine boxZ 2 #[.string (⟨#[]⟩ : ByteArray), .int .i64 0, .int .i64 0, .int .i64 0, .int .i64 0, .slice none 0 0] 41 rfl rfl ?_; intro gb269 hg w17 hbox hb; have n0_ := Aside0.mk (below_step bZ hb); have n1_ := Aside0.mk (hbox); have n2_ := Aside0.mk ((by rw [hg]; exact bsZ : w.heap.size ≤ gb269)); have n3_ := Aside0.mk ((by rw [hg]; exact bsZ : w.heap.size ≤ gb269)); clear HB; have HB := n0_; have BK269 := n1_; have GW269 := n2_; have GE269 := n3_; clear n0_ n1_ n2_ n3_; clear hb hbox hg) | ((with_reducible refine gate_callee (f := 31) rfl ?_); refine goesL_ (some 11) rfl rfl Tryz.func31 (by kernel_rfl) rfl #[.string a0, .string (⟨#[32]⟩ : ByteArray)] rfl gZ ?_; (with_reducible refine (strings_Split.calls a0 (⟨#[32]⟩ : ByteArray) t270 _ ?side1 A2.out).mono ?_); (case side1 => exact HSH.out.below (show Below w.heap.size w _ from bZ)); rintro e w18 ⟨v271, rfl, ho0, hb⟩; refine ⟨_, rfl, ?_⟩; have n0_ := Aside0.mk (Kd.R_lower ho0 bsZ); have n1_ := Aside0.mk (blk_below (g := gb269) (o := .cells #[.string (⟨#[]⟩ : ByteArray), .int .i64 0, .int .i64 0, .int .i64 0, .int .i64 0, .slice none 0 0] 41 (0, 0)) (kZ BK269.out) hb); have n2_ := Aside0.mk (below_step bZ hb); clear BK269; clear HB; have HO272 := n0_; have BK269 := n1_; have HB := n2_; clear n0_ n1_ n2_; (try clear hb); (try clear hb2); (try clear hk); (try clear hi); (try clear ho0); obtain ⟨Ao19, co19, eo19⟩ := Kd.R_slice HO272.out; subst eo19; have p273 : 0 ≤ (1 : Int) := (by omega); have q273 : 1 < (t270.length : Int) := oZ; obtain ⟨ad273, e273, hx273_0⟩ := Kd.at_string (Kd.R_reads' HO272.out).2.2 1 p273 q273; cases e273; (try simp only [show (1 : Int).toNat = 1 from rfl, Nat.reduceMul, Nat.reduceEqDiff, Go.Addr.add, ↓reduceIte] at hx273_0); have qi273 : (1 < t270.length) = True := eq_true (by omega); (try rw [show ((1 : Int)).toNat = 1 from rfl] at hx273_0); replace p273 := eq_true p273; replace q273 := eq_true q273) | ((with_reducible refine gate_callee (f := 32) rfl ?_); refine goesL_ (some 20) rfl rfl Tryz.func32 (by kernel_rfl) rfl #[.string (rdOf ByteArray.empty t270 1), .int .i64 4] rfl gZ ?_; (with_reducible refine (impl_readNumbers.calls k (rdOf ByteArray.empty t270 1) 4 t274 true _ ?side1 A5.out).mono ?_); (case side1 => exact HSH.out.below (show Below w.heap.size w _ from bZ)); rintro e w20 ⟨v276, rfl, ho0, hb⟩; refine ⟨_, rfl, ?_⟩; have n0_ := Aside0.mk (Kd.R_below (Kd.rZ HO272.out) hb); have n1_ := Aside0.mk (Kd.R_lower ho0 bsZ); have n2_ := Aside0.mk (blk_below (g := gb269) (o := .cells #[.string (⟨#[]⟩ : ByteArray), .int .i64 0, .int .i64 0, .int .i64 0, .int .i64 0, .slice none 0 0] 41 (0, 0)) (kZ BK269.out) hb); have n3_ := Aside0.mk (below_step bZ hb); clear HO272; clear BK269; clear HB; have HO272 := n0_; have HO277 := n1_; have BK269 := n2_; have HB := n3_; clear n0_ n1_ n2_ n3_; (try clear hb); (try clear hb2); (try clear hk); (try clear hi); (try clear ho0); have p278 : 0 ≤ (2 : Int) := (by omega); have q278 : 2 < (t270.length : Int) := oZ; obtain ⟨ad278, e278, hx278_0⟩ := Kd.at_string (Kd.R_reads' HO272.out).2.2 2 p278 q278; obtain rfl : ad273 = ad278 := (by injection e278); (try simp only [show (2 : Int).toNat = 2 from rfl, Nat.reduceMul, Nat.reduceEqDiff, Go.Addr.add, ↓reduceIte] at hx278_0); have qi278 : (2 < t270.length) = True := eq_true (by omega); (try rw [show ((2 : Int)).toNat = 2 from rfl] at hx278_0); replace p278 := eq_true p278; replace q278 := eq_true q278) | ((with_reducible refine gate_callee (f := 33) rfl ?_); refine goesL_ (some 27) rfl rfl Tryz.func33 (by kernel_rfl) rfl #[.string (rdOf ByteArray.empty t270 2)] rfl gZ ?_; (with_reducible refine (impl_ReadList.calls k (rdOf ByteArray.empty t270 2) t279 true _ ?side1 A7.out).mono ?_); (case side1 => exact HSH.out.below (show Below w.heap.size w _ from bZ)); rintro e w21 ⟨v281, rfl, ho0, hb⟩; refine ⟨_, rfl, ?_⟩; have n0_ := Aside0.mk (Kd.R_below (Kd.rZ HO272.out) hb); have n1_ := Aside0.mk (Kd.R_elder' (Kd.rZ HO277.out) (Kd.R_base ho0) hb); have n2_ := Aside0.mk (Kd.R_lower (Kd.R_new' ho0 (Kd.R_lt (Kd.rZ HO277.out))) bsZ); have n3_ := Aside0.mk (blk_below (g := gb269) (o := .cells #[.string (⟨#[]⟩ : ByteArray), .int .i64 0, .int .i64 0, .int .i64 0, .int .i64 0, .slice none 0 0] 41 (0, 0)) (kZ BK269.out) hb); have n4_ := Aside0.mk (below_step bZ hb); clear HO272; clear HO277; clear BK269; clear HB; have HO272 := n0_; have HO277 := n1_; have HO282 := n2_; have BK269 := n3_; have HB := n4_; clear n0_ n1_ n2_ n3_ n4_; (try clear hb); (try clear hb2); (try clear hk); (try clear hi); (try clear ho0)))
            have n0_ := Aside0.mk (Kd.R_drew HO272.out)
            have n1_ := Aside0.mk (Kd.R_drew HO277.out)
            have n2_ := Aside0.mk (Kd.R_drew HO282.out)
            have n3_ := Aside0.mk (blk_drew BK269.out)
            have n4_ := Aside0.mk (below_drew1 HB.out)
            clear HO272; clear HO277; clear HO282; clear BK269; clear HB
            have HO272 := n0_
            have HO277 := n1_
            have HO282 := n2_
            have BK269 := n3_
            have HB := n4_
            clear n0_ n1_ n2_ n3_ n4_
            have p283 : 0 ≤ (0 : Int) := (by omega)
            have q283 : 0 < (t270.length : Int) := oZ
            obtain ⟨ad283, e283, hx283_0⟩ := Kd.at_string (Kd.R_reads' HO272.out).2.2 0 p283 q283
            obtain rfl : ad273 = ad283 := (by injection e283)
            have qi283 : (0 < t270.length) = True := eq_true (by omega)
            (try rw [show ((0 : Int)).toNat = 0 from rfl] at hx283_0)
            (try rw [Addr.add_zero'] at hx283_0)
            replace p283 := eq_true p283
            replace q283 := eq_true q283
            obtain ⟨Ao23, co23, eo23⟩ := Kd.R_slice HO277.out
            (first | subst eo23 | (injection eo23 with f1_ f2_ f3_; have f4_ := f1_.symm; have f5_ := f3_.symm; clear f1_ f2_ f3_; subst f4_; subst f5_))
            have p284 : 0 ≤ (0 : Int) := (by omega)
            have q284 : 0 < (t274.length : Int) := oZ
            obtain ⟨ad284, e284, hx284_0⟩ := Kd.at_int (Kd.R_reads' HO277.out).2.2 0 p284 q284
            cases e284
            have qi284 : (0 < t274.length) = True := eq_true (by omega)
            (try rw [show ((0 : Int)).toNat = 0 from rfl] at hx284_0)
            (try rw [Addr.add_zero'] at hx284_0)
            replace p284 := eq_true p284
            replace q284 := eq_true q284
            have p285 : 0 ≤ (1 : Int) := (by omega)
            have q285 : 1 < (t274.length : Int) := oZ
            obtain ⟨ad285, e285, hx285_0⟩ := Kd.at_int (Kd.R_reads' HO277.out).2.2 1 p285 q285
            obtain rfl : ad284 = ad285 := (by injection e285)
            (try simp only [show (1 : Int).toNat = 1 from rfl, Nat.reduceMul, Nat.reduceEqDiff, Go.Addr.add, ↓reduceIte] at hx285_0)
            have qi285 : (1 < t274.length) = True := eq_true (by omega)
            (try rw [show ((1 : Int)).toNat = 1 from rfl] at hx285_0)
            replace p285 := eq_true p285
            replace q285 := eq_true q285
            have p286 : 0 ≤ (2 : Int) := (by omega)
            have q286 : 2 < (t274.length : Int) := oZ
            obtain ⟨ad286, e286, hx286_0⟩ := Kd.at_int (Kd.R_reads' HO277.out).2.2 2 p286 q286
            obtain rfl : ad284 = ad286 := (by injection e286)
            (try simp only [show (2 : Int).toNat = 2 from rfl, Nat.reduceMul, Nat.reduceEqDiff, Go.Addr.add, ↓reduceIte] at hx286_0)
            have qi286 : (2 < t274.length) = True := eq_true (by omega)
            (try rw [show ((2 : Int)).toNat = 2 from rfl] at hx286_0)
            replace p286 := eq_true p286
            replace q286 := eq_true q286
            have p287 : 0 ≤ (3 : Int) := (by omega)
            have q287 : 3 < (t274.length : Int) := oZ
            obtain ⟨ad287, e287, hx287_0⟩ := Kd.at_int (Kd.R_reads' HO277.out).2.2 3 p287 q287
            obtain rfl : ad284 = ad287 := (by injection e287)
            (try simp only [show (3 : Int).toNat = 3 from rfl, Nat.reduceMul, Nat.reduceEqDiff, Go.Addr.add, ↓reduceIte] at hx287_0)
            have qi287 : (3 < t274.length) = True := eq_true (by omega)
            (try rw [show ((3 : Int)).toNat = 3 from rfl] at hx287_0)
            replace p287 := eq_true p287
            replace q287 := eq_true q287
            obtain ⟨Ao24, co24, eo24⟩ := Kd.R_slice HO282.out
            (first | subst eo24 | (injection eo24 with f1_ f2_ f3_; have f4_ := f1_.symm; have f5_ := f3_.symm; clear f1_ f2_ f3_; subst f4_; subst f5_))
            refine start_ (n := 19) (S := fun w' => w'.cell? ad273 = some (.string (rdOf ByteArray.empty t270 0)) ∧ w'.cell? ad284 = some (.int .i64 (rd t274 0)) ∧ w'.cell? ⟨ad284.block, ad284.off + 1, none⟩ = some (.int .i64 (rd t274 1)) ∧ w'.cell? ⟨ad284.block, ad284.off + 2, none⟩ = some (.int .i64 (rd t274 2)) ∧ w'.cell? ⟨ad284.block, ad284.off + 3, none⟩ = some (.int .i64 (rd t274 3))) (ds := []) #[false, false, false, false, false, false, false, false, false, false, false, false, false, false, false, false, false, false, false] (by kernel_rfl) rfl rfl ⟨hx283_0, hx284_0, hx285_0, hx286_0, hx287_0⟩ (fun hHeld => ?_); refine with_tabW impl_ReadBuilding.tab6 impl_ReadBuilding.bits6 (fun HT_ HW_ => ?_)
            generalize w21.drew = w22 at HO272 HO277 HO282 BK269 HB hx283_0 hx284_0 hx285_0 hx286_0 hx287_0 hHeld ⊢
            refine puZ 0 (some 30) #[true, false, false, false, false, false, false, false, false, false, false, false, false, false, false, false, false, false, false] rfl rfl HT_.out ?_
            refine puZ 1 (some 31) #[true, true, false, false, false, false, false, false, false, false, false, false, false, false, false, false, false, false, false] rfl rfl HT_.out ?_
            refine puZ 3 (some 33) #[true, true, false, true, false, false, false, false, false, false, false, false, false, false, false, false, false, false, false] rfl rfl HT_.out ?_
            refine puZ 4 (some 34) #[true, true, false, true, true, false, false, false, false, false, false, false, false, false, false, false, false, false, false] rfl rfl HT_.out ?_
            refine puZ 6 (some 36) #[true, true, false, true, true, false, true, false, false, false, false, false, false, false, false, false, false, false, false] rfl rfl HT_.out ?_
            refine puZ 7 (some 37) #[true, true, false, true, true, false, true, true, false, false, false, false, false, false, false, false, false, false, false] rfl rfl HT_.out ?_
            refine puZ 9 (some 39) #[true, true, false, true, true, false, true, true, false, true, false, false, false, false, false, false, false, false, false] rfl rfl HT_.out ?_
            refine puZ 10 (some 40) #[true, true, false, true, true, false, true, true, false, true, true, false, false, false, false, false, false, false, false] rfl rfl HT_.out ?_
            refine puZ 12 (some 42) #[true, true, false, true, true, false, true, true, false, true, true, false, true, false, false, false, false, false, false] rfl rfl HT_.out ?_
            refine puZ 13 (some 43) #[true, true, false, true, true, false, true, true, false, true, true, false, true, true, false, false, false, false, false] rfl rfl HT_.out ?_
            refine puZ 15 (some 45) #[true, true, false, true, true, false, true, true, false, true, true, false, true, true, false, true, false, false, false] rfl rfl HT_.out ?_
            refine take_ (i := 2) (N := some 32) (v := ?_) (a' := ?_) #[true, true, true, true, true, false, true, true, false, true, true, false, true, true, false, true, false, false, false] rfl rfl (take_ofW HT_.out HW_.out (by kernel_rfl)) (fun _ _ _ h => h) (Or.inl ⟨by rfl, ?_⟩) hHeld ?_ ?_
            rotate_left
            ·rintro w' ⟨s0, s1, s2, s3, s4⟩
             go_simp
             with_reducible rfl
            rotate_left
            ·simp only [Act.put, List.setIfInBounds_toArray, List.set_cons_zero, List.set_cons_succ, i64_w, i32_w]
             rfl
            refine take_ (i := 5) (N := some 35) (v := ?_) (a' := ?_) #[true, true, true, true, true, true, true, true, false, true, true, false, true, true, false, true, false, false, false] rfl rfl (take_ofW HT_.out HW_.out (by kernel_rfl)) (fun _ _ _ h => h) (Or.inl ⟨by rfl, ?_⟩) hHeld ?_ ?_
            rotate_left
            ·rintro w' ⟨s0, s1, s2, s3, s4⟩
             go_simp
             with_reducible rfl
            rotate_left
            ·simp only [Act.put, List.setIfInBounds_toArray, List.set_cons_zero, List.set_cons_succ, i64_w, i32_w]
             rfl
            refine take_ (i := 8) (N := some 38) (v := ?_) (a' := ?_) #[true, true, true, true, true, true, true, true, true, true, true, false, true, true, false, true, false, false, false] rfl rfl (take_ofW HT_.out HW_.out (by kernel_rfl)) (fun _ _ _ h => h) (Or.inl ⟨by rfl, ?_⟩) hHeld ?_ ?_
            rotate_left
            ·rintro w' ⟨s0, s1, s2, s3, s4⟩
             go_simp
             with_reducible rfl
            rotate_left
            ·simp only [Act.put, List.setIfInBounds_toArray, List.set_cons_zero, List.set_cons_succ, i64_w, i32_w]
             rfl
            refine take_ (i := 11) (N := some 41) (v := ?_) (a' := ?_) #[true, true, true, true, true, true, true, true, true, true, true, true, true, true, false, true, false, false, false] rfl rfl (take_ofW HT_.out HW_.out (by kernel_rfl)) (fun _ _ _ h => h) (Or.inl ⟨by rfl, ?_⟩) hHeld ?_ ?_
            rotate_left
            ·rintro w' ⟨s0, s1, s2, s3, s4⟩
             go_simp
             with_reducible rfl
            rotate_left
            ·simp only [Act.put, List.setIfInBounds_toArray, List.set_cons_zero, List.set_cons_succ, i64_w, i32_w]
             rfl
            refine take_ (i := 14) (N := some 44) (v := ?_) (a' := ?_) #[true, true, true, true, true, true, true, true, true, true, true, true, true, true, true, true, false, false, false] rfl rfl (take_ofW HT_.out HW_.out (by kernel_rfl)) (fun _ _ _ h => h) (Or.inl ⟨by rfl, ?_⟩) hHeld ?_ ?_
            rotate_left
            ·rintro w' ⟨s0, s1, s2, s3, s4⟩
             go_simp
             with_reducible rfl
            rotate_left
            ·simp only [Act.put, List.setIfInBounds_toArray, List.set_cons_zero, List.set_cons_succ, i64_w, i32_w]
             rfl
            refine puZ 16 (some 46) #[true, true, true, true, true, true, true, true, true, true, true, true, true, true, true, true, true, false, false] rfl rfl HT_.out ?_
            refine one_ (i := 17) (N := some 9) #[true, true, true, true, true, true, true, true, true, true, true, true, true, true, true, true, true, true, false] rfl rfl (one_of HT_.out (by kernel_rfl)) (by decide) (fun K hK => ?_)
            refine box_step ?hg (N := 9) ?hd (cs := #[.string (⟨#[]⟩ : ByteArray), .int .i64 0, .int .i64 0, .int .i64 0, .int .i64 0, .slice none 0 0]) (t := 41) ?hr ?_; (case hd => rfl); (case hg => rfl); (case hr => first | (go_simp; done) | (go_simp; rfl))
            intro gb288 hg w25 hbox hb
            have HS0_ := (hb.cell (World.block_lt_of_cell? _ _ (hHeld.1))).trans (hHeld.1)
            have HS1_ := (hb.cell (World.block_lt_of_cell? _ _ (hHeld.2.1))).trans (hHeld.2.1)
            have HS2_ := (hb.cell (World.block_lt_of_cell? _ _ (hHeld.2.2.1))).trans (hHeld.2.2.1)
            have HS3_ := (hb.cell (World.block_lt_of_cell? _ _ (hHeld.2.2.2.1))).trans (hHeld.2.2.2.1)
            have HS4_ := (hb.cell (World.block_lt_of_cell? _ _ (hHeld.2.2.2.2))).trans (hHeld.2.2.2.2)
            have n0_ := Aside0.mk (Kd.R_below (Kd.rZ HO272.out) hb)
            have n1_ := Aside0.mk (Kd.R_below (Kd.rZ HO277.out) hb)
            have n2_ := Aside0.mk (Kd.R_below (Kd.rZ HO282.out) hb)
            have n3_ := Aside0.mk (blk_below (g := gb269) (o := .cells #[.string (⟨#[]⟩ : ByteArray), .int .i64 0, .int .i64 0, .int .i64 0, .int .i64 0, .slice none 0 0] 41 (0, 0)) (kZ BK269.out) hb)
            have n4_ := Aside0.mk (below_step bZ hb)
            have n5_ := Aside0.mk (hbox)
            have n6_ := Aside0.mk ((by rw [hg]; exact bsZ : w.heap.size ≤ gb288))
            have n7_ := Aside0.mk ((by rw [hg]; exact bsZ : w.heap.size ≤ gb288))
            have n8_ := Aside0.mk ((by rw [hg]; exact Nat.ne_of_lt (blk_lt (g := gb269) (o := .cells #[.string (⟨#[]⟩ : ByteArray), .int .i64 0, .int .i64 0, .int .i64 0, .int .i64 0, .slice none 0 0] 41 (0, 0)) (kZ BK269.out)) : gb269 ≠ gb288))
            have n9_ := Aside0.mk ((by rw [hg]; exact Nat.ne_of_gt (blk_lt (g := gb269) (o := .cells #[.string (⟨#[]⟩ : ByteArray), .int .i64 0, .int .i64 0, .int .i64 0, .int .i64 0, .slice none 0 0] 41 (0, 0)) (kZ BK269.out)) : gb288 ≠ gb269))
            clear HO272; clear HO277; clear HO282; clear BK269; clear HB
            have HO272 := n0_
            have HO277 := n1_
            have HO282 := n2_
            have BK269 := n3_
            have HB := n4_
            have BK288 := n5_
            have GW288 := n6_
            have GE288 := n7_
            have NB269_288 := n8_
            have NB288_269 := n9_
            clear n0_ n1_ n2_ n3_ n4_ n5_ n6_ n7_ n8_ n9_
            clear hb hbox hg
            refine hK.out _ _ ⟨HS0_, HS1_, HS2_, HS3_, HS4_⟩ (fun hHeld => ?_)
            clear hK K
            refine norm_ (a' := ?_) ?_ ?_
            rotate_left
            ·show Act.put _ (some 9) _ = _
             simp only [Act.put, List.setIfInBounds_toArray, List.set_cons_zero, List.set_cons_succ, i64_w, i32_w]
             rfl
            refine one_ (i := 18) (N := none) #[true, true, true, true, true, true, true, true, true, true, true, true, true, true, true, true, true, true, true] rfl rfl (one_of HT_.out (by kernel_rfl)) (by decide) (fun K hK => ?_)
            have hs26 := bc0 BK288.out
            have hfs26 := blk_frozen BK288.out 0
            have hns26_0 := NB269_288.out
            have hms26_0 := NB288_269.out
            have hs27 := bc1 BK288.out
            have hfs27 := blk_frozen BK288.out 1
            have hns27_0 := NB269_288.out
            have hms27_0 := NB288_269.out
            have hs28 := bc2 BK288.out
            have hfs28 := blk_frozen BK288.out 2
            have hns28_0 := NB269_288.out
            have hms28_0 := NB288_269.out
            have hs29 := bc3 BK288.out
            have hfs29 := blk_frozen BK288.out 3
            have hns29_0 := NB269_288.out
            have hms29_0 := NB288_269.out
            have hs30 := bc4 BK288.out
            have hfs30 := blk_frozen BK288.out 4
            have hns30_0 := NB269_288.out
            have hms30_0 := NB288_269.out
            have hs31 := bc5 BK288.out
            have hfs31 := blk_frozen BK288.out 5
            have hns31_0 := NB269_288.out
            have hms31_0 := NB288_269.out
            refine skip_ (w1 := ?_) (by rfl) rfl ?_ ?_
            rotate_left
            ·go_simp
             rfl
            refine hK.out _ _ ⟨(far6 (by first | exact Kd.own_blk (Kd.R_ne HO272.out BK288.out (by decide)) | (dsimp only; exact Kd.own_blk (Kd.R_ne HO272.out BK288.out (by decide))) | (rw [add_block]; exact Kd.own_blk (Kd.R_ne HO272.out BK288.out (by decide)))) (hHeld.1)), (far6 (by first | exact Kd.own_blk (Kd.R_ne HO277.out BK288.out (by decide)) | (dsimp only; exact Kd.own_blk (Kd.R_ne HO277.out BK288.out (by decide))) | (rw [add_block]; exact Kd.own_blk (Kd.R_ne HO277.out BK288.out (by decide)))) (hHeld.2.1)), (far6 (by first | exact Kd.own_blk (Kd.R_ne HO277.out BK288.out (by decide)) | (dsimp only; exact Kd.own_blk (Kd.R_ne HO277.out BK288.out (by decide))) | (rw [add_block]; exact Kd.own_blk (Kd.R_ne HO277.out BK288.out (by decide)))) (hHeld.2.2.1)), (far6 (by first | exact Kd.own_blk (Kd.R_ne HO277.out BK288.out (by decide)) | (dsimp only; exact Kd.own_blk (Kd.R_ne HO277.out BK288.out (by decide))) | (rw [add_block]; exact Kd.own_blk (Kd.R_ne HO277.out BK288.out (by decide)))) (hHeld.2.2.2.1)), (far6 (by first | exact Kd.own_blk (Kd.R_ne HO277.out BK288.out (by decide)) | (dsimp only; exact Kd.own_blk (Kd.R_ne HO277.out BK288.out (by decide))) | (rw [add_block]; exact Kd.own_blk (Kd.R_ne HO277.out BK288.out (by decide)))) (hHeld.2.2.2.2))⟩ (fun hHeld => ?_)
            clear hK K
            refine done_ (done_of HT_.out (by kernel_rfl)) ?_
            have hnb32 := NB288_269.out
            have hnc32 := NB269_288.out
            have hcz33_0 := bc0 BK288.out
            have hcz33_1 := bc1 BK288.out
            have hcz33_2 := bc2 BK288.out
            have hcz33_3 := bc3 BK288.out
            have hcz33_4 := bc4 BK288.out
            have hcz33_5 := bc5 BK288.out
            have hfz33_0 := blk_frozen BK288.out 0
            have hfz33_1 := blk_frozen BK288.out 1
            have hfz33_2 := blk_frozen BK288.out 2
            have hfz33_3 := blk_frozen BK288.out 3
            have hfz33_4 := blk_frozen BK288.out 4
            have hfz33_5 := blk_frozen BK288.out 5
            try go_wp2_with (first | (go_at_call 34; (with_reducible refine (impl_BuildingText.calls k (rdOf ByteArray.empty t270 0) (rd t274 0) (rd t274 1) (rd t274 2) (rd t274 3) _ _ t279 t289 _ ?side1 ?side2 ?side3 A15.out).mono ?_); (case side1 => refine (Kd.R_reads' (e := 2) (base := w.heap.size) (ok := fun k_ => (True ∧ some k_ ≠ (.slice (some ad284) t274.length co23 : Value).ownBlock)) (n := t279.length) (c := co24) ?_).2.2; exact (Kd.rZ ((Kd.R_mono (Kd.R_far (p := ⟨gb288, 5, none⟩) (Kd.R_far (p := ⟨gb288, 4, none⟩) (Kd.R_far (p := ⟨gb288, 3, none⟩) (Kd.R_far (p := ⟨gb288, 2, none⟩) (Kd.R_far (p := ⟨gb288, 1, none⟩) (Kd.R_far (p := ⟨gb288, 0, none⟩) (Kd.R_types HO282.out BK288.out (by decide)) (fun _ hk => hk.2) (.string (rdOf ByteArray.empty t270 0))) (fun _ hk => hk.2) (.int .i64 (rd t274 0))) (fun _ hk => hk.2) (.int .i64 (rd t274 1))) (fun _ hk => hk.2) (.int .i64 (rd t274 2))) (fun _ hk => hk.2) (.int .i64 (rd t274 3))) (fun _ hk => hk.2) (.slice Ao24 t279.length co24)) (fun _ h_ => h_.1))))); (case side2 => exact (Kd.R_reads' HO282.out).2.1); (case side3 => exact HSH.out.below (show Below w.heap.size w _ from bZ)); rintro e w34 ⟨rfl, hb⟩; have n0_ := Aside0.mk (Kd.R_below (Kd.rZ ((Kd.R_mono (Kd.R_far (p := ⟨gb288, 5, none⟩) (Kd.R_far (p := ⟨gb288, 4, none⟩) (Kd.R_far (p := ⟨gb288, 3, none⟩) (Kd.R_far (p := ⟨gb288, 2, none⟩) (Kd.R_far (p := ⟨gb288, 1, none⟩) (Kd.R_far (p := ⟨gb288, 0, none⟩) (Kd.R_types HO272.out BK288.out (by decide)) (fun _ hk => hk.2) (.string (rdOf ByteArray.empty t270 0))) (fun _ hk => hk.2) (.int .i64 (rd t274 0))) (fun _ hk => hk.2) (.int .i64 (rd t274 1))) (fun _ hk => hk.2) (.int .i64 (rd t274 2))) (fun _ hk => hk.2) (.int .i64 (rd t274 3))) (fun _ hk => hk.2) (.slice Ao24 t279.length co24)) (fun _ h_ => h_.1)))) hb); have n1_ := Aside0.mk (Kd.R_below (Kd.rZ ((Kd.R_mono (Kd.R_far (p := ⟨gb288, 5, none⟩) (Kd.R_far (p := ⟨gb288, 4, none⟩) (Kd.R_far (p := ⟨gb288, 3, none⟩) (Kd.R_far (p := ⟨gb288, 2, none⟩) (Kd.R_far (p := ⟨gb288, 1, none⟩) (Kd.R_far (p := ⟨gb288, 0, none⟩) (Kd.R_types HO277.out BK288.out (by decide)) (fun _ hk => hk.2) (.string (rdOf ByteArray.empty t270 0))) (fun _ hk => hk.2) (.int .i64 (rd t274 0))) (fun _ hk => hk.2) (.int .i64 (rd t274 1))) (fun _ hk => hk.2) (.int .i64 (rd t274 2))) (fun _ hk => hk.2) (.int .i64 (rd t274 3))) (fun _ hk => hk.2) (.slice Ao24 t279.length co24)) (fun _ h_ => h_.1)))) hb); have n2_ := Aside0.mk (Kd.R_below (Kd.rZ ((Kd.R_mono (Kd.R_far (p := ⟨gb288, 5, none⟩) (Kd.R_far (p := ⟨gb288, 4, none⟩) (Kd.R_far (p := ⟨gb288, 3, none⟩) (Kd.R_far (p := ⟨gb288, 2, none⟩) (Kd.R_far (p := ⟨gb288, 1, none⟩) (Kd.R_far (p := ⟨gb288, 0, none⟩) (Kd.R_types HO282.out BK288.out (by decide)) (fun _ hk => hk.2) (.string (rdOf ByteArray.empty t270 0))) (fun _ hk => hk.2) (.int .i64 (rd t274 0))) (fun _ hk => hk.2) (.int .i64 (rd t274 1))) (fun _ hk => hk.2) (.int .i64 (rd t274 2))) (fun _ hk => hk.2) (.int .i64 (rd t274 3))) (fun _ hk => hk.2) (.slice Ao24 t279.length co24)) (fun _ h_ => h_.1)))) hb); have n3_ := Aside0.mk (blk_below (g := gb269) (o := .cells #[.string (⟨#[]⟩ : ByteArray), .int .i64 0, .int .i64 0, .int .i64 0, .int .i64 0, .slice none 0 0] 41 (0, 0)) (by (with_reducible repeat (first | refine blk_drewN ?_ _ | refine blk_drew ?_ | refine blk_alloc ?_ _)); refine blk_far ?_ NB269_288.out _; (with_reducible repeat (first | refine blk_drewN ?_ _ | refine blk_drew ?_ | refine blk_alloc ?_ _)); refine blk_far ?_ NB269_288.out _; (with_reducible repeat (first | refine blk_drewN ?_ _ | refine blk_drew ?_ | refine blk_alloc ?_ _)); refine blk_far ?_ NB269_288.out _; (with_reducible repeat (first | refine blk_drewN ?_ _ | refine blk_drew ?_ | refine blk_alloc ?_ _)); refine blk_far ?_ NB269_288.out _; (with_reducible repeat (first | refine blk_drewN ?_ _ | refine blk_drew ?_ | refine blk_alloc ?_ _)); refine blk_far ?_ NB269_288.out _; (with_reducible repeat (first | refine blk_drewN ?_ _ | refine blk_drew ?_ | refine blk_alloc ?_ _)); refine blk_far ?_ NB269_288.out _; (with_reducible repeat (first | refine blk_drewN ?_ _ | refine blk_drew ?_ | refine blk_alloc ?_ _)); exact BK269.out) hb); have n4_ := Aside0.mk (blk_below (g := gb288) (o := .cells #[.string (rdOf ByteArray.empty t270 0), .int .i64 (rd t274 0), .int .i64 (rd t274 1), .int .i64 (rd t274 2), .int .i64 (rd t274 3), .slice Ao24 t279.length co24] 41 (0, 0)) (by (with_reducible repeat (first | refine blk_drewN ?_ _ | refine blk_drew ?_ | refine blk_alloc ?_ _)); refine blk_put (cs := #[.string (rdOf ByteArray.empty t270 0), .int .i64 (rd t274 0), .int .i64 (rd t274 1), .int .i64 (rd t274 2), .int .i64 (rd t274 3), .slice none 0 0]) ?_ 5 _ rfl; (with_reducible repeat (first | refine blk_drewN ?_ _ | refine blk_drew ?_ | refine blk_alloc ?_ _)); refine blk_put (cs := #[.string (rdOf ByteArray.empty t270 0), .int .i64 (rd t274 0), .int .i64 (rd t274 1), .int .i64 (rd t274 2), .int .i64 0, .slice none 0 0]) ?_ 4 _ rfl; (with_reducible repeat (first | refine blk_drewN ?_ _ | refine blk_drew ?_ | refine blk_alloc ?_ _)); refine blk_put (cs := #[.string (rdOf ByteArray.empty t270 0), .int .i64 (rd t274 0), .int .i64 (rd t274 1), .int .i64 0, .int .i64 0, .slice none 0 0]) ?_ 3 _ rfl; (with_reducible repeat (first | refine blk_drewN ?_ _ | refine blk_drew ?_ | refine blk_alloc ?_ _)); refine blk_put (cs := #[.string (rdOf ByteArray.empty t270 0), .int .i64 (rd t274 0), .int .i64 0, .int .i64 0, .int .i64 0, .slice none 0 0]) ?_ 2 _ rfl; (with_reducible repeat (first | refine blk_drewN ?_ _ | refine blk_drew ?_ | refine blk_alloc ?_ _)); refine blk_put (cs := #[.string (rdOf ByteArray.empty t270 0), .int .i64 0, .int .i64 0, .int .i64 0, .int .i64 0, .slice none 0 0]) ?_ 1 _ rfl; (with_reducible repeat (first | refine blk_drewN ?_ _ | refine blk_drew ?_ | refine blk_alloc ?_ _)); refine blk_put (cs := #[.string (⟨#[]⟩ : ByteArray), .int .i64 0, .int .i64 0, .int .i64 0, .int .i64 0, .slice none 0 0]) ?_ 0 _ rfl; (with_reducible repeat (first | refine blk_drewN ?_ _ | refine blk_drew ?_ | refine blk_alloc ?_ _)); exact BK288.out) hb); have n5_ := Aside0.mk (below_step bZ hb); clear HO272; clear HO277; clear HO282; clear BK269; clear BK288; clear HB; have HO272 := n0_; have HO277 := n1_; have HO282 := n2_; have BK269 := n3_; have BK288 := n4_; have HB := n5_; clear n0_ n1_ n2_ n3_ n4_ n5_; (try clear hb); (try clear hb2); (try clear hk); (try clear hi); have hcz35_0 := bc0 BK288.out; have hcz35_1 := bc1 BK288.out; have hcz35_2 := bc2 BK288.out; have hcz35_3 := bc3 BK288.out; have hcz35_4 := bc4 BK288.out; have hcz35_5 := bc5 BK288.out; have hfz35_0 := blk_frozen BK288.out 0; have hfz35_1 := blk_frozen BK288.out 1; have hfz35_2 := blk_frozen BK288.out 2; have hfz35_3 := blk_frozen BK288.out 3; have hfz35_4 := blk_frozen BK288.out 4; have hfz35_5 := blk_frozen BK288.out 5; have hcz36_0 := bc0 BK269.out; have hcz36_1 := bc1 BK269.out; have hcz36_2 := bc2 BK269.out; have hcz36_3 := bc3 BK269.out; have hcz36_4 := bc4 BK269.out; have hcz36_5 := bc5 BK269.out; have hfz36_0 := blk_frozen BK269.out 0; have hfz36_1 := blk_frozen BK269.out 1; have hfz36_2 := blk_frozen BK269.out 2; have hfz36_3 := blk_frozen BK269.out 3; have hfz36_4 := blk_frozen BK269.out 4; have hfz36_5 := blk_frozen BK269.out 5))
            refine bodyPost_ret (results_ct rfl _ _ gb269 41 #[.string (rdOf ByteArray.empty t270 0), .int .i64 (rd t274 0), .int .i64 (rd t274 1), .int .i64 (rd t274 2), .int .i64 (rd t274 3), .slice Ao24 t279.length co24] (0, 0) _ rfl (by (with_reducible repeat (first | refine blk_drewN ?_ _ | refine blk_drew ?_ | refine blk_alloc ?_ _)); refine blk_put (cs := #[.string (rdOf ByteArray.empty t270 0), .int .i64 (rd t274 0), .int .i64 (rd t274 1), .int .i64 (rd t274 2), .int .i64 (rd t274 3), .slice none 0 0]) ?_ 5 _ rfl; (with_reducible repeat (first | refine blk_drewN ?_ _ | refine blk_drew ?_ | refine blk_alloc ?_ _)); refine blk_put (cs := #[.string (rdOf ByteArray.empty t270 0), .int .i64 (rd t274 0), .int .i64 (rd t274 1), .int .i64 (rd t274 2), .int .i64 0, .slice none 0 0]) ?_ 4 _ rfl; (with_reducible repeat (first | refine blk_drewN ?_ _ | refine blk_drew ?_ | refine blk_alloc ?_ _)); refine blk_put (cs := #[.string (rdOf ByteArray.empty t270 0), .int .i64 (rd t274 0), .int .i64 (rd t274 1), .int .i64 0, .int .i64 0, .slice none 0 0]) ?_ 3 _ rfl; (with_reducible repeat (first | refine blk_drewN ?_ _ | refine blk_drew ?_ | refine blk_alloc ?_ _)); refine blk_put (cs := #[.string (rdOf ByteArray.empty t270 0), .int .i64 (rd t274 0), .int .i64 0, .int .i64 0, .int .i64 0, .slice none 0 0]) ?_ 2 _ rfl; (with_reducible repeat (first | refine blk_drewN ?_ _ | refine blk_drew ?_ | refine blk_alloc ?_ _)); refine blk_put (cs := #[.string (rdOf ByteArray.empty t270 0), .int .i64 0, .int .i64 0, .int .i64 0, .int .i64 0, .slice none 0 0]) ?_ 1 _ rfl; (with_reducible repeat (first | refine blk_drewN ?_ _ | refine blk_drew ?_ | refine blk_alloc ?_ _)); refine blk_put (cs := #[.string (⟨#[]⟩ : ByteArray), .int .i64 0, .int .i64 0, .int .i64 0, .int .i64 0, .slice none 0 0]) ?_ 0 _ rfl; (with_reducible repeat (first | refine blk_drewN ?_ _ | refine blk_drew ?_ | refine blk_alloc ?_ _)); exact BK269.out) Tryz.underlying41 rfl (by kernel_rfl)) rfl ?_
            exact ⟨_, eZ, Kd.rZ (Kd.R_mono (Kd.R_far (p := ⟨gb269, 5, none⟩) (Kd.R_far (p := ⟨gb269, 4, none⟩) (Kd.R_far (p := ⟨gb269, 3, none⟩) (Kd.R_far (p := ⟨gb269, 2, none⟩) (Kd.R_far (p := ⟨gb269, 1, none⟩) (Kd.R_far (p := ⟨gb269, 0, none⟩) (Kd.R_types HO282.out BK269.out (by decide)) (fun _ hk => hk.2) (.string (rdOf ByteArray.empty t270 0))) (fun _ hk => hk.2) (.int .i64 (rd t274 0))) (fun _ hk => hk.2) (.int .i64 (rd t274 1))) (fun _ hk => hk.2) (.int .i64 (rd t274 2))) (fun _ hk => hk.2) (.int .i64 (rd t274 3))) (fun _ hk => hk.2) (.slice Ao24 t279.length co24)) (fun _ hk => trivial)), bZ⟩
           ·rw [if_neg c16] at H
            have c16b0 : (t289.toList == a0.toList) = false := beq_eq_false_iff_ne.mpr c16
            have c16b1 : (t289.toList != a0.toList) = true := bne_iff_ne.mpr c16
            simp only [Option.some.injEq, Prod.mk.injEq] at H
            obtain ⟨rfl, rfl, rfl, rfl, rfl, rfl, rfl⟩ := H
            go_enter Tryz.func18, Tryz.ntmps18
            try go_wp2_with (first | ((with_reducible refine gate_dst (N := 2) rfl ?_); refine boxZ 2 #[.string (⟨#[]⟩ : ByteArray), .int .i64 0, .int .i64 0, .int .i64 0, .int .i64 0, .slice none 0 0] 41 rfl rfl ?_; intro gb269 hg w37 hbox hb; have n0_ := Aside0.mk (below_step bZ hb); have n1_ := Aside0.mk (hbox); have n2_ := Aside0.mk ((by rw [hg]; exact bsZ : w.heap.size ≤ gb269)); have n3_ := Aside0.mk ((by rw [hg]; exact bsZ : w.heap.size ≤ gb269)); clear HB; have HB := n0_; have BK269 := n1_; have GW269 := n2_; have GE269 := n3_; clear n0_ n1_ n2_ n3_; clear hb hbox hg) | ((with_reducible refine gate_callee (f := 31) rfl ?_); refine goesL_ (some 11) rfl rfl Tryz.func31 (by kernel_rfl) rfl #[.string a0, .string (⟨#[32]⟩ : ByteArray)] rfl gZ ?_; (with_reducible refine (strings_Split.calls a0 (⟨#[32]⟩ : ByteArray) t270 _ ?side1 A2.out).mono ?_); (case side1 => exact HSH.out.below (show Below w.heap.size w _ from bZ)); rintro e w38 ⟨v271, rfl, ho0, hb⟩; refine ⟨_, rfl, ?_⟩; have n0_ := Aside0.mk (Kd.R_lower ho0 bsZ); have n1_ := Aside0.mk (blk_below (g := gb269) (o := .cells #[.string (⟨#[]⟩ : ByteArray), .int .i64 0, .int .i64 0, .int .i64 0, .int .i64 0, .slice none 0 0] 41 (0, 0)) (kZ BK269.out) hb); have n2_ := Aside0.mk (below_step bZ hb); clear BK269; clear HB; have HO272 := n0_; have BK269 := n1_; have HB := n2_; clear n0_ n1_ n2_; (try clear hb); (try clear hb2); (try clear hk); (try clear hi); (try clear ho0); obtain ⟨Ao39, co39, eo39⟩ := Kd.R_slice HO272.out; subst eo39; have p273 : 0 ≤ (1 : Int) := (by omega); have q273 : 1 < (t270.length : Int) := oZ; obtain ⟨ad273, e273, hx273_0⟩ := Kd.at_string (Kd.R_reads' HO272.out).2.2 1 p273 q273; cases e273; (try simp only [show (1 : Int).toNat = 1 from rfl, Nat.reduceMul, Nat.reduceEqDiff, Go.Addr.add, ↓reduceIte] at hx273_0); have qi273 : (1 < t270.length) = True := eq_true (by omega); (try rw [show ((1 : Int)).toNat = 1 from rfl] at hx273_0); replace p273 := eq_true p273; replace q273 := eq_true q273) | ((with_reducible refine gate_callee (f := 32) rfl ?_); refine goesL_ (some 20) rfl rfl Tryz.func32 (by kernel_rfl) rfl #[.string (rdOf ByteArray.empty t270 1), .int .i64 4] rfl gZ ?_; (with_reducible refine (impl_readNumbers.calls k (rdOf ByteArray.empty t270 1) 4 t274 true _ ?side1 A5.out).mono ?_); (case side1 => exact HSH.out.below (show Below w.heap.size w _ from bZ)); rintro e w40 ⟨v276, rfl, ho0, hb⟩; refine ⟨_, rfl, ?_⟩; have n0_ := Aside0.mk (Kd.R_below (Kd.rZ HO272.out) hb); have n1_ := Aside0.mk (Kd.R_lower ho0 bsZ); have n2_ := Aside0.mk (blk_below (g := gb269) (o := .cells #[.string (⟨#[]⟩ : ByteArray), .int .i64 0, .int .i64 0, .int .i64 0, .int .i64 0, .slice none 0 0] 41 (0, 0)) (kZ BK269.out) hb); have n3_ := Aside0.mk (below_step bZ hb); clear HO272; clear BK269; clear HB; have HO272 := n0_; have HO277 := n1_; have BK269 := n2_; have HB := n3_; clear n0_ n1_ n2_ n3_; (try clear hb); (try clear hb2); (try clear hk); (try clear hi); (try clear ho0); have p278 : 0 ≤ (2 : Int) := (by omega); have q278 : 2 < (t270.length : Int) := oZ; obtain ⟨ad278, e278, hx278_0⟩ := Kd.at_string (Kd.R_reads' HO272.out).2.2 2 p278 q278; obtain rfl : ad273 = ad278 := (by injection e278); (try simp only [show (2 : Int).toNat = 2 from rfl, Nat.reduceMul, Nat.reduceEqDiff, Go.Addr.add, ↓reduceIte] at hx278_0); have qi278 : (2 < t270.length) = True := eq_true (by omega); (try rw [show ((2 : Int)).toNat = 2 from rfl] at hx278_0); replace p278 := eq_true p278; replace q278 := eq_true q278) | ((with_reducible refine gate_callee (f := 33) rfl ?_); refine goesL_ (some 27) rfl rfl Tryz.func33 (by kernel_rfl) rfl #[.string (rdOf ByteArray.empty t270 2)] rfl gZ ?_; (with_reducible refine (impl_ReadList.calls k (rdOf ByteArray.empty t270 2) t279 true _ ?side1 A7.out).mono ?_); (case side1 => exact HSH.out.below (show Below w.heap.size w _ from bZ)); rintro e w41 ⟨v281, rfl, ho0, hb⟩; refine ⟨_, rfl, ?_⟩; have n0_ := Aside0.mk (Kd.R_below (Kd.rZ HO272.out) hb); have n1_ := Aside0.mk (Kd.R_elder' (Kd.rZ HO277.out) (Kd.R_base ho0) hb); have n2_ := Aside0.mk (Kd.R_lower (Kd.R_new' ho0 (Kd.R_lt (Kd.rZ HO277.out))) bsZ); have n3_ := Aside0.mk (blk_below (g := gb269) (o := .cells #[.string (⟨#[]⟩ : ByteArray), .int .i64 0, .int .i64 0, .int .i64 0, .int .i64 0, .slice none 0 0] 41 (0, 0)) (kZ BK269.out) hb); have n4_ := Aside0.mk (below_step bZ hb); clear HO272; clear HO277; clear BK269; clear HB; have HO272 := n0_; have HO277 := n1_; have HO282 := n2_; have BK269 := n3_; have HB := n4_; clear n0_ n1_ n2_ n3_ n4_; (try clear hb); (try clear hb2); (try clear hk); (try clear hi); (try clear ho0)))
            have n0_ := Aside0.mk (Kd.R_drew HO272.out)
            have n1_ := Aside0.mk (Kd.R_drew HO277.out)
            have n2_ := Aside0.mk (Kd.R_drew HO282.out)
            have n3_ := Aside0.mk (blk_drew BK269.out)
            have n4_ := Aside0.mk (below_drew1 HB.out)
            clear HO272; clear HO277; clear HO282; clear BK269; clear HB
            have HO272 := n0_
            have HO277 := n1_
            have HO282 := n2_
            have BK269 := n3_
            have HB := n4_
            clear n0_ n1_ n2_ n3_ n4_
            have p283 : 0 ≤ (0 : Int) := (by omega)
            have q283 : 0 < (t270.length : Int) := oZ
            obtain ⟨ad283, e283, hx283_0⟩ := Kd.at_string (Kd.R_reads' HO272.out).2.2 0 p283 q283
            obtain rfl : ad273 = ad283 := (by injection e283)
            have qi283 : (0 < t270.length) = True := eq_true (by omega)
            (try rw [show ((0 : Int)).toNat = 0 from rfl] at hx283_0)
            (try rw [Addr.add_zero'] at hx283_0)
            replace p283 := eq_true p283
            replace q283 := eq_true q283
            obtain ⟨Ao43, co43, eo43⟩ := Kd.R_slice HO277.out
            (first | subst eo43 | (injection eo43 with f1_ f2_ f3_; have f4_ := f1_.symm; have f5_ := f3_.symm; clear f1_ f2_ f3_; subst f4_; subst f5_))
            have p284 : 0 ≤ (0 : Int) := (by omega)
            have q284 : 0 < (t274.length : Int) := oZ
            obtain ⟨ad284, e284, hx284_0⟩ := Kd.at_int (Kd.R_reads' HO277.out).2.2 0 p284 q284
            cases e284
            have qi284 : (0 < t274.length) = True := eq_true (by omega)
            (try rw [show ((0 : Int)).toNat = 0 from rfl] at hx284_0)
            (try rw [Addr.add_zero'] at hx284_0)
            replace p284 := eq_true p284
            replace q284 := eq_true q284
            have p285 : 0 ≤ (1 : Int) := (by omega)
            have q285 : 1 < (t274.length : Int) := oZ
            obtain ⟨ad285, e285, hx285_0⟩ := Kd.at_int (Kd.R_reads' HO277.out).2.2 1 p285 q285
            obtain rfl : ad284 = ad285 := (by injection e285)
            (try simp only [show (1 : Int).toNat = 1 from rfl, Nat.reduceMul, Nat.reduceEqDiff, Go.Addr.add, ↓reduceIte] at hx285_0)
            have qi285 : (1 < t274.length) = True := eq_true (by omega)
            (try rw [show ((1 : Int)).toNat = 1 from rfl] at hx285_0)
            replace p285 := eq_true p285
            replace q285 := eq_true q285
            have p286 : 0 ≤ (2 : Int) := (by omega)
            have q286 : 2 < (t274.length : Int) := oZ
            obtain ⟨ad286, e286, hx286_0⟩ := Kd.at_int (Kd.R_reads' HO277.out).2.2 2 p286 q286
            obtain rfl : ad284 = ad286 := (by injection e286)
            (try simp only [show (2 : Int).toNat = 2 from rfl, Nat.reduceMul, Nat.reduceEqDiff, Go.Addr.add, ↓reduceIte] at hx286_0)
            have qi286 : (2 < t274.length) = True := eq_true (by omega)
            (try rw [show ((2 : Int)).toNat = 2 from rfl] at hx286_0)
            replace p286 := eq_true p286
            replace q286 := eq_true q286
            have p287 : 0 ≤ (3 : Int) := (by omega)
            have q287 : 3 < (t274.length : Int) := oZ
            obtain ⟨ad287, e287, hx287_0⟩ := Kd.at_int (Kd.R_reads' HO277.out).2.2 3 p287 q287
            obtain rfl : ad284 = ad287 := (by injection e287)
            (try simp only [show (3 : Int).toNat = 3 from rfl, Nat.reduceMul, Nat.reduceEqDiff, Go.Addr.add, ↓reduceIte] at hx287_0)
            have qi287 : (3 < t274.length) = True := eq_true (by omega)
            (try rw [show ((3 : Int)).toNat = 3 from rfl] at hx287_0)
            replace p287 := eq_true p287
            replace q287 := eq_true q287
            obtain ⟨Ao44, co44, eo44⟩ := Kd.R_slice HO282.out
            (first | subst eo44 | (injection eo44 with f1_ f2_ f3_; have f4_ := f1_.symm; have f5_ := f3_.symm; clear f1_ f2_ f3_; subst f4_; subst f5_))
            refine start_ (n := 19) (S := fun w' => w'.cell? ad273 = some (.string (rdOf ByteArray.empty t270 0)) ∧ w'.cell? ad284 = some (.int .i64 (rd t274 0)) ∧ w'.cell? ⟨ad284.block, ad284.off + 1, none⟩ = some (.int .i64 (rd t274 1)) ∧ w'.cell? ⟨ad284.block, ad284.off + 2, none⟩ = some (.int .i64 (rd t274 2)) ∧ w'.cell? ⟨ad284.block, ad284.off + 3, none⟩ = some (.int .i64 (rd t274 3))) (ds := []) #[false, false, false, false, false, false, false, false, false, false, false, false, false, false, false, false, false, false, false] (by kernel_rfl) rfl rfl ⟨hx283_0, hx284_0, hx285_0, hx286_0, hx287_0⟩ (fun hHeld => ?_); refine with_tabW impl_ReadBuilding.tab6 impl_ReadBuilding.bits6 (fun HT_ HW_ => ?_)
            generalize w41.drew = w42 at HO272 HO277 HO282 BK269 HB hx283_0 hx284_0 hx285_0 hx286_0 hx287_0 hHeld ⊢
            refine puZ 0 (some 30) #[true, false, false, false, false, false, false, false, false, false, false, false, false, false, false, false, false, false, false] rfl rfl HT_.out ?_
            refine puZ 1 (some 31) #[true, true, false, false, false, false, false, false, false, false, false, false, false, false, false, false, false, false, false] rfl rfl HT_.out ?_
            refine puZ 3 (some 33) #[true, true, false, true, false, false, false, false, false, false, false, false, false, false, false, false, false, false, false] rfl rfl HT_.out ?_
            refine puZ 4 (some 34) #[true, true, false, true, true, false, false, false, false, false, false, false, false, false, false, false, false, false, false] rfl rfl HT_.out ?_
            refine puZ 6 (some 36) #[true, true, false, true, true, false, true, false, false, false, false, false, false, false, false, false, false, false, false] rfl rfl HT_.out ?_
            refine puZ 7 (some 37) #[true, true, false, true, true, false, true, true, false, false, false, false, false, false, false, false, false, false, false] rfl rfl HT_.out ?_
            refine puZ 9 (some 39) #[true, true, false, true, true, false, true, true, false, true, false, false, false, false, false, false, false, false, false] rfl rfl HT_.out ?_
            refine puZ 10 (some 40) #[true, true, false, true, true, false, true, true, false, true, true, false, false, false, false, false, false, false, false] rfl rfl HT_.out ?_
            refine puZ 12 (some 42) #[true, true, false, true, true, false, true, true, false, true, true, false, true, false, false, false, false, false, false] rfl rfl HT_.out ?_
            refine puZ 13 (some 43) #[true, true, false, true, true, false, true, true, false, true, true, false, true, true, false, false, false, false, false] rfl rfl HT_.out ?_
            refine puZ 15 (some 45) #[true, true, false, true, true, false, true, true, false, true, true, false, true, true, false, true, false, false, false] rfl rfl HT_.out ?_
            refine take_ (i := 2) (N := some 32) (v := ?_) (a' := ?_) #[true, true, true, true, true, false, true, true, false, true, true, false, true, true, false, true, false, false, false] rfl rfl (take_ofW HT_.out HW_.out (by kernel_rfl)) (fun _ _ _ h => h) (Or.inl ⟨by rfl, ?_⟩) hHeld ?_ ?_
            rotate_left
            ·rintro w' ⟨s0, s1, s2, s3, s4⟩
             go_simp
             with_reducible rfl
            rotate_left
            ·simp only [Act.put, List.setIfInBounds_toArray, List.set_cons_zero, List.set_cons_succ, i64_w, i32_w]
             rfl
            refine take_ (i := 5) (N := some 35) (v := ?_) (a' := ?_) #[true, true, true, true, true, true, true, true, false, true, true, false, true, true, false, true, false, false, false] rfl rfl (take_ofW HT_.out HW_.out (by kernel_rfl)) (fun _ _ _ h => h) (Or.inl ⟨by rfl, ?_⟩) hHeld ?_ ?_
            rotate_left
            ·rintro w' ⟨s0, s1, s2, s3, s4⟩
             go_simp
             with_reducible rfl
            rotate_left
            ·simp only [Act.put, List.setIfInBounds_toArray, List.set_cons_zero, List.set_cons_succ, i64_w, i32_w]
             rfl
            refine take_ (i := 8) (N := some 38) (v := ?_) (a' := ?_) #[true, true, true, true, true, true, true, true, true, true, true, false, true, true, false, true, false, false, false] rfl rfl (take_ofW HT_.out HW_.out (by kernel_rfl)) (fun _ _ _ h => h) (Or.inl ⟨by rfl, ?_⟩) hHeld ?_ ?_
            rotate_left
            ·rintro w' ⟨s0, s1, s2, s3, s4⟩
             go_simp
             with_reducible rfl
            rotate_left
            ·simp only [Act.put, List.setIfInBounds_toArray, List.set_cons_zero, List.set_cons_succ, i64_w, i32_w]
             rfl
            refine take_ (i := 11) (N := some 41) (v := ?_) (a' := ?_) #[true, true, true, true, true, true, true, true, true, true, true, true, true, true, false, true, false, false, false] rfl rfl (take_ofW HT_.out HW_.out (by kernel_rfl)) (fun _ _ _ h => h) (Or.inl ⟨by rfl, ?_⟩) hHeld ?_ ?_
            rotate_left
            ·rintro w' ⟨s0, s1, s2, s3, s4⟩
             go_simp
             with_reducible rfl
            rotate_left
            ·simp only [Act.put, List.setIfInBounds_toArray, List.set_cons_zero, List.set_cons_succ, i64_w, i32_w]
             rfl
            refine take_ (i := 14) (N := some 44) (v := ?_) (a' := ?_) #[true, true, true, true, true, true, true, true, true, true, true, true, true, true, true, true, false, false, false] rfl rfl (take_ofW HT_.out HW_.out (by kernel_rfl)) (fun _ _ _ h => h) (Or.inl ⟨by rfl, ?_⟩) hHeld ?_ ?_
            rotate_left
            ·rintro w' ⟨s0, s1, s2, s3, s4⟩
             go_simp
             with_reducible rfl
            rotate_left
            ·simp only [Act.put, List.setIfInBounds_toArray, List.set_cons_zero, List.set_cons_succ, i64_w, i32_w]
             rfl
            refine puZ 16 (some 46) #[true, true, true, true, true, true, true, true, true, true, true, true, true, true, true, true, true, false, false] rfl rfl HT_.out ?_
            refine one_ (i := 17) (N := some 9) #[true, true, true, true, true, true, true, true, true, true, true, true, true, true, true, true, true, true, false] rfl rfl (one_of HT_.out (by kernel_rfl)) (by decide) (fun K hK => ?_)
            refine box_step ?hg (N := 9) ?hd (cs := #[.string (⟨#[]⟩ : ByteArray), .int .i64 0, .int .i64 0, .int .i64 0, .int .i64 0, .slice none 0 0]) (t := 41) ?hr ?_; (case hd => rfl); (case hg => rfl); (case hr => first | (go_simp; done) | (go_simp; rfl))
            intro gb288 hg w45 hbox hb
            have HS0_ := (hb.cell (World.block_lt_of_cell? _ _ (hHeld.1))).trans (hHeld.1)
            have HS1_ := (hb.cell (World.block_lt_of_cell? _ _ (hHeld.2.1))).trans (hHeld.2.1)
            have HS2_ := (hb.cell (World.block_lt_of_cell? _ _ (hHeld.2.2.1))).trans (hHeld.2.2.1)
            have HS3_ := (hb.cell (World.block_lt_of_cell? _ _ (hHeld.2.2.2.1))).trans (hHeld.2.2.2.1)
            have HS4_ := (hb.cell (World.block_lt_of_cell? _ _ (hHeld.2.2.2.2))).trans (hHeld.2.2.2.2)
            have n0_ := Aside0.mk (Kd.R_below (Kd.rZ HO272.out) hb)
            have n1_ := Aside0.mk (Kd.R_below (Kd.rZ HO277.out) hb)
            have n2_ := Aside0.mk (Kd.R_below (Kd.rZ HO282.out) hb)
            have n3_ := Aside0.mk (blk_below (g := gb269) (o := .cells #[.string (⟨#[]⟩ : ByteArray), .int .i64 0, .int .i64 0, .int .i64 0, .int .i64 0, .slice none 0 0] 41 (0, 0)) (kZ BK269.out) hb)
            have n4_ := Aside0.mk (below_step bZ hb)
            have n5_ := Aside0.mk (hbox)
            have n6_ := Aside0.mk ((by rw [hg]; exact bsZ : w.heap.size ≤ gb288))
            have n7_ := Aside0.mk ((by rw [hg]; exact bsZ : w.heap.size ≤ gb288))
            have n8_ := Aside0.mk ((by rw [hg]; exact Nat.ne_of_lt (blk_lt (g := gb269) (o := .cells #[.string (⟨#[]⟩ : ByteArray), .int .i64 0, .int .i64 0, .int .i64 0, .int .i64 0, .slice none 0 0] 41 (0, 0)) (kZ BK269.out)) : gb269 ≠ gb288))
            have n9_ := Aside0.mk ((by rw [hg]; exact Nat.ne_of_gt (blk_lt (g := gb269) (o := .cells #[.string (⟨#[]⟩ : ByteArray), .int .i64 0, .int .i64 0, .int .i64 0, .int .i64 0, .slice none 0 0] 41 (0, 0)) (kZ BK269.out)) : gb288 ≠ gb269))
            clear HO272; clear HO277; clear HO282; clear BK269; clear HB
            have HO272 := n0_
            have HO277 := n1_
            have HO282 := n2_
            have BK269 := n3_
            have HB := n4_
            have BK288 := n5_
            have GW288 := n6_
            have GE288 := n7_
            have NB269_288 := n8_
            have NB288_269 := n9_
            clear n0_ n1_ n2_ n3_ n4_ n5_ n6_ n7_ n8_ n9_
            clear hb hbox hg
            refine hK.out _ _ ⟨HS0_, HS1_, HS2_, HS3_, HS4_⟩ (fun hHeld => ?_)
            clear hK K
            refine norm_ (a' := ?_) ?_ ?_
            rotate_left
            ·show Act.put _ (some 9) _ = _
             simp only [Act.put, List.setIfInBounds_toArray, List.set_cons_zero, List.set_cons_succ, i64_w, i32_w]
             rfl
            refine one_ (i := 18) (N := none) #[true, true, true, true, true, true, true, true, true, true, true, true, true, true, true, true, true, true, true] rfl rfl (one_of HT_.out (by kernel_rfl)) (by decide) (fun K hK => ?_)
            have hs46 := bc0 BK288.out
            have hfs46 := blk_frozen BK288.out 0
            have hns46_0 := NB269_288.out
            have hms46_0 := NB288_269.out
            have hs47 := bc1 BK288.out
            have hfs47 := blk_frozen BK288.out 1
            have hns47_0 := NB269_288.out
            have hms47_0 := NB288_269.out
            have hs48 := bc2 BK288.out
            have hfs48 := blk_frozen BK288.out 2
            have hns48_0 := NB269_288.out
            have hms48_0 := NB288_269.out
            have hs49 := bc3 BK288.out
            have hfs49 := blk_frozen BK288.out 3
            have hns49_0 := NB269_288.out
            have hms49_0 := NB288_269.out
            have hs50 := bc4 BK288.out
            have hfs50 := blk_frozen BK288.out 4
            have hns50_0 := NB269_288.out
            have hms50_0 := NB288_269.out
            have hs51 := bc5 BK288.out
            have hfs51 := blk_frozen BK288.out 5
            have hns51_0 := NB269_288.out
            have hms51_0 := NB288_269.out
            refine skip_ (w1 := ?_) (by rfl) rfl ?_ ?_
            rotate_left
            ·go_simp
             rfl
            refine hK.out _ _ ⟨(far6 (by first | exact Kd.own_blk (Kd.R_ne HO272.out BK288.out (by decide)) | (dsimp only; exact Kd.own_blk (Kd.R_ne HO272.out BK288.out (by decide))) | (rw [add_block]; exact Kd.own_blk (Kd.R_ne HO272.out BK288.out (by decide)))) (hHeld.1)), (far6 (by first | exact Kd.own_blk (Kd.R_ne HO277.out BK288.out (by decide)) | (dsimp only; exact Kd.own_blk (Kd.R_ne HO277.out BK288.out (by decide))) | (rw [add_block]; exact Kd.own_blk (Kd.R_ne HO277.out BK288.out (by decide)))) (hHeld.2.1)), (far6 (by first | exact Kd.own_blk (Kd.R_ne HO277.out BK288.out (by decide)) | (dsimp only; exact Kd.own_blk (Kd.R_ne HO277.out BK288.out (by decide))) | (rw [add_block]; exact Kd.own_blk (Kd.R_ne HO277.out BK288.out (by decide)))) (hHeld.2.2.1)), (far6 (by first | exact Kd.own_blk (Kd.R_ne HO277.out BK288.out (by decide)) | (dsimp only; exact Kd.own_blk (Kd.R_ne HO277.out BK288.out (by decide))) | (rw [add_block]; exact Kd.own_blk (Kd.R_ne HO277.out BK288.out (by decide)))) (hHeld.2.2.2.1)), (far6 (by first | exact Kd.own_blk (Kd.R_ne HO277.out BK288.out (by decide)) | (dsimp only; exact Kd.own_blk (Kd.R_ne HO277.out BK288.out (by decide))) | (rw [add_block]; exact Kd.own_blk (Kd.R_ne HO277.out BK288.out (by decide)))) (hHeld.2.2.2.2))⟩ (fun hHeld => ?_)
            clear hK K
            refine done_ (done_of HT_.out (by kernel_rfl)) ?_
            have hnb52 := NB288_269.out
            have hnc52 := NB269_288.out
            have hcz53_0 := bc0 BK288.out
            have hcz53_1 := bc1 BK288.out
            have hcz53_2 := bc2 BK288.out
            have hcz53_3 := bc3 BK288.out
            have hcz53_4 := bc4 BK288.out
            have hcz53_5 := bc5 BK288.out
            have hfz53_0 := blk_frozen BK288.out 0
            have hfz53_1 := blk_frozen BK288.out 1
            have hfz53_2 := blk_frozen BK288.out 2
            have hfz53_3 := blk_frozen BK288.out 3
            have hfz53_4 := blk_frozen BK288.out 4
            have hfz53_5 := blk_frozen BK288.out 5
            try go_wp2_with (first | (go_at_call 34; (with_reducible refine (impl_BuildingText.calls k (rdOf ByteArray.empty t270 0) (rd t274 0) (rd t274 1) (rd t274 2) (rd t274 3) _ _ t279 t289 _ ?side1 ?side2 ?side3 A15.out).mono ?_); (case side1 => refine (Kd.R_reads' (e := 2) (base := w.heap.size) (ok := fun k_ => (True ∧ some k_ ≠ (.slice (some ad284) t274.length co43 : Value).ownBlock)) (n := t279.length) (c := co44) ?_).2.2; exact (Kd.rZ ((Kd.R_mono (Kd.R_far (p := ⟨gb288, 5, none⟩) (Kd.R_far (p := ⟨gb288, 4, none⟩) (Kd.R_far (p := ⟨gb288, 3, none⟩) (Kd.R_far (p := ⟨gb288, 2, none⟩) (Kd.R_far (p := ⟨gb288, 1, none⟩) (Kd.R_far (p := ⟨gb288, 0, none⟩) (Kd.R_types HO282.out BK288.out (by decide)) (fun _ hk => hk.2) (.string (rdOf ByteArray.empty t270 0))) (fun _ hk => hk.2) (.int .i64 (rd t274 0))) (fun _ hk => hk.2) (.int .i64 (rd t274 1))) (fun _ hk => hk.2) (.int .i64 (rd t274 2))) (fun _ hk => hk.2) (.int .i64 (rd t274 3))) (fun _ hk => hk.2) (.slice Ao44 t279.length co44)) (fun _ h_ => h_.1))))); (case side2 => exact (Kd.R_reads' HO282.out).2.1); (case side3 => exact HSH.out.below (show Below w.heap.size w _ from bZ)); rintro e w54 ⟨rfl, hb⟩; have n0_ := Aside0.mk (Kd.R_below (Kd.rZ ((Kd.R_mono (Kd.R_far (p := ⟨gb288, 5, none⟩) (Kd.R_far (p := ⟨gb288, 4, none⟩) (Kd.R_far (p := ⟨gb288, 3, none⟩) (Kd.R_far (p := ⟨gb288, 2, none⟩) (Kd.R_far (p := ⟨gb288, 1, none⟩) (Kd.R_far (p := ⟨gb288, 0, none⟩) (Kd.R_types HO272.out BK288.out (by decide)) (fun _ hk => hk.2) (.string (rdOf ByteArray.empty t270 0))) (fun _ hk => hk.2) (.int .i64 (rd t274 0))) (fun _ hk => hk.2) (.int .i64 (rd t274 1))) (fun _ hk => hk.2) (.int .i64 (rd t274 2))) (fun _ hk => hk.2) (.int .i64 (rd t274 3))) (fun _ hk => hk.2) (.slice Ao44 t279.length co44)) (fun _ h_ => h_.1)))) hb); have n1_ := Aside0.mk (Kd.R_below (Kd.rZ ((Kd.R_mono (Kd.R_far (p := ⟨gb288, 5, none⟩) (Kd.R_far (p := ⟨gb288, 4, none⟩) (Kd.R_far (p := ⟨gb288, 3, none⟩) (Kd.R_far (p := ⟨gb288, 2, none⟩) (Kd.R_far (p := ⟨gb288, 1, none⟩) (Kd.R_far (p := ⟨gb288, 0, none⟩) (Kd.R_types HO277.out BK288.out (by decide)) (fun _ hk => hk.2) (.string (rdOf ByteArray.empty t270 0))) (fun _ hk => hk.2) (.int .i64 (rd t274 0))) (fun _ hk => hk.2) (.int .i64 (rd t274 1))) (fun _ hk => hk.2) (.int .i64 (rd t274 2))) (fun _ hk => hk.2) (.int .i64 (rd t274 3))) (fun _ hk => hk.2) (.slice Ao44 t279.length co44)) (fun _ h_ => h_.1)))) hb); have n2_ := Aside0.mk (Kd.R_below (Kd.rZ ((Kd.R_mono (Kd.R_far (p := ⟨gb288, 5, none⟩) (Kd.R_far (p := ⟨gb288, 4, none⟩) (Kd.R_far (p := ⟨gb288, 3, none⟩) (Kd.R_far (p := ⟨gb288, 2, none⟩) (Kd.R_far (p := ⟨gb288, 1, none⟩) (Kd.R_far (p := ⟨gb288, 0, none⟩) (Kd.R_types HO282.out BK288.out (by decide)) (fun _ hk => hk.2) (.string (rdOf ByteArray.empty t270 0))) (fun _ hk => hk.2) (.int .i64 (rd t274 0))) (fun _ hk => hk.2) (.int .i64 (rd t274 1))) (fun _ hk => hk.2) (.int .i64 (rd t274 2))) (fun _ hk => hk.2) (.int .i64 (rd t274 3))) (fun _ hk => hk.2) (.slice Ao44 t279.length co44)) (fun _ h_ => h_.1)))) hb); have n3_ := Aside0.mk (blk_below (g := gb269) (o := .cells #[.string (⟨#[]⟩ : ByteArray), .int .i64 0, .int .i64 0, .int .i64 0, .int .i64 0, .slice none 0 0] 41 (0, 0)) (by (with_reducible repeat (first | refine blk_drewN ?_ _ | refine blk_drew ?_ | refine blk_alloc ?_ _)); refine blk_far ?_ NB269_288.out _; (with_reducible repeat (first | refine blk_drewN ?_ _ | refine blk_drew ?_ | refine blk_alloc ?_ _)); refine blk_far ?_ NB269_288.out _; (with_reducible repeat (first | refine blk_drewN ?_ _ | refine blk_drew ?_ | refine blk_alloc ?_ _)); refine blk_far ?_ NB269_288.out _; (with_reducible repeat (first | refine blk_drewN ?_ _ | refine blk_drew ?_ | refine blk_alloc ?_ _)); refine blk_far ?_ NB269_288.out _; (with_reducible repeat (first | refine blk_drewN ?_ _ | refine blk_drew ?_ | refine blk_alloc ?_ _)); refine blk_far ?_ NB269_288.out _; (with_reducible repeat (first | refine blk_drewN ?_ _ | refine blk_drew ?_ | refine blk_alloc ?_ _)); refine blk_far ?_ NB269_288.out _; (with_reducible repeat (first | refine blk_drewN ?_ _ | refine blk_drew ?_ | refine blk_alloc ?_ _)); exact BK269.out) hb); have n4_ := Aside0.mk (blk_below (g := gb288) (o := .cells #[.string (rdOf ByteArray.empty t270 0), .int .i64 (rd t274 0), .int .i64 (rd t274 1), .int .i64 (rd t274 2), .int .i64 (rd t274 3), .slice Ao44 t279.length co44] 41 (0, 0)) (by (with_reducible repeat (first | refine blk_drewN ?_ _ | refine blk_drew ?_ | refine blk_alloc ?_ _)); refine blk_put (cs := #[.string (rdOf ByteArray.empty t270 0), .int .i64 (rd t274 0), .int .i64 (rd t274 1), .int .i64 (rd t274 2), .int .i64 (rd t274 3), .slice none 0 0]) ?_ 5 _ rfl; (with_reducible repeat (first | refine blk_drewN ?_ _ | refine blk_drew ?_ | refine blk_alloc ?_ _)); refine blk_put (cs := #[.string (rdOf ByteArray.empty t270 0), .int .i64 (rd t274 0), .int .i64 (rd t274 1), .int .i64 (rd t274 2), .int .i64 0, .slice none 0 0]) ?_ 4 _ rfl; (with_reducible repeat (first | refine blk_drewN ?_ _ | refine blk_drew ?_ | refine blk_alloc ?_ _)); refine blk_put (cs := #[.string (rdOf ByteArray.empty t270 0), .int .i64 (rd t274 0), .int .i64 (rd t274 1), .int .i64 0, .int .i64 0, .slice none 0 0]) ?_ 3 _ rfl; (with_reducible repeat (first | refine blk_drewN ?_ _ | refine blk_drew ?_ | refine blk_alloc ?_ _)); refine blk_put (cs := #[.string (rdOf ByteArray.empty t270 0), .int .i64 (rd t274 0), .int .i64 0, .int .i64 0, .int .i64 0, .slice none 0 0]) ?_ 2 _ rfl; (with_reducible repeat (first | refine blk_drewN ?_ _ | refine blk_drew ?_ | refine blk_alloc ?_ _)); refine blk_put (cs := #[.string (rdOf ByteArray.empty t270 0), .int .i64 0, .int .i64 0, .int .i64 0, .int .i64 0, .slice none 0 0]) ?_ 1 _ rfl; (with_reducible repeat (first | refine blk_drewN ?_ _ | refine blk_drew ?_ | refine blk_alloc ?_ _)); refine blk_put (cs := #[.string (⟨#[]⟩ : ByteArray), .int .i64 0, .int .i64 0, .int .i64 0, .int .i64 0, .slice none 0 0]) ?_ 0 _ rfl; (with_reducible repeat (first | refine blk_drewN ?_ _ | refine blk_drew ?_ | refine blk_alloc ?_ _)); exact BK288.out) hb); have n5_ := Aside0.mk (below_step bZ hb); clear HO272; clear HO277; clear HO282; clear BK269; clear BK288; clear HB; have HO272 := n0_; have HO277 := n1_; have HO282 := n2_; have BK269 := n3_; have BK288 := n4_; have HB := n5_; clear n0_ n1_ n2_ n3_ n4_ n5_; (try clear hb); (try clear hb2); (try clear hk); (try clear hi); have hcz55_0 := bc0 BK269.out; have hcz55_1 := bc1 BK269.out; have hcz55_2 := bc2 BK269.out; have hcz55_3 := bc3 BK269.out; have hcz55_4 := bc4 BK269.out; have hcz55_5 := bc5 BK269.out; have hfz55_0 := blk_frozen BK269.out 0; have hfz55_1 := blk_frozen BK269.out 1; have hfz55_2 := blk_frozen BK269.out 2; have hfz55_3 := blk_frozen BK269.out 3; have hfz55_4 := blk_frozen BK269.out 4; have hfz55_5 := blk_frozen BK269.out 5))
            refine bodyPost_ret (results_ct rfl _ _ gb269 41 #[.string (⟨#[]⟩ : ByteArray), .int .i64 0, .int .i64 0, .int .i64 0, .int .i64 0, .slice none 0 0] (0, 0) _ rfl (by (with_reducible repeat (first | refine blk_drewN ?_ _ | refine blk_drew ?_ | refine blk_alloc ?_ _)); refine blk_put (cs := #[.string (⟨#[]⟩ : ByteArray), .int .i64 0, .int .i64 0, .int .i64 0, .int .i64 0, .slice none 0 0]) ?_ 5 _ rfl; (with_reducible repeat (first | refine blk_drewN ?_ _ | refine blk_drew ?_ | refine blk_alloc ?_ _)); refine blk_put (cs := #[.string (⟨#[]⟩ : ByteArray), .int .i64 0, .int .i64 0, .int .i64 0, .int .i64 0, .slice none 0 0]) ?_ 4 _ rfl; (with_reducible repeat (first | refine blk_drewN ?_ _ | refine blk_drew ?_ | refine blk_alloc ?_ _)); refine blk_put (cs := #[.string (⟨#[]⟩ : ByteArray), .int .i64 0, .int .i64 0, .int .i64 0, .int .i64 0, .slice none 0 0]) ?_ 3 _ rfl; (with_reducible repeat (first | refine blk_drewN ?_ _ | refine blk_drew ?_ | refine blk_alloc ?_ _)); refine blk_put (cs := #[.string (⟨#[]⟩ : ByteArray), .int .i64 0, .int .i64 0, .int .i64 0, .int .i64 0, .slice none 0 0]) ?_ 2 _ rfl; (with_reducible repeat (first | refine blk_drewN ?_ _ | refine blk_drew ?_ | refine blk_alloc ?_ _)); refine blk_put (cs := #[.string (⟨#[]⟩ : ByteArray), .int .i64 0, .int .i64 0, .int .i64 0, .int .i64 0, .slice none 0 0]) ?_ 1 _ rfl; (with_reducible repeat (first | refine blk_drewN ?_ _ | refine blk_drew ?_ | refine blk_alloc ?_ _)); refine blk_put (cs := #[.string (⟨#[]⟩ : ByteArray), .int .i64 0, .int .i64 0, .int .i64 0, .int .i64 0, .slice none 0 0]) ?_ 0 _ rfl; (with_reducible repeat (first | refine blk_drewN ?_ _ | refine blk_drew ?_ | refine blk_alloc ?_ _)); exact BK269.out) Tryz.underlying41 rfl (by kernel_rfl)) rfl ?_
            exact ⟨_, eZ, by first | exact Kd.R_nil _ _ _ _ _ | exact Kd.N_nil _ _ _ _ _ | exact Kd.V_nil _ _ _ _ _ | exact Kd.Q_nil _ _ _ _ _ | exact Kd.S_nil _ _ _ _ _, bZ⟩
          ·replace c14 := Bool.eq_false_iff.mpr c14
           subst c14
           have H1 : (some ((⟨#[]⟩ : ByteArray), 0, 0, 0, 0, ([] : List Int), false)) = some (r1, r2, r3, r4, r5, r6, r7) := by rw [if_neg (show ¬ (false = true) by decide)] at H; exact H
           clear H
           have H := H1
           clear H1
           simp only [Option.some.injEq, Prod.mk.injEq] at H
           obtain ⟨rfl, rfl, rfl, rfl, rfl, rfl, rfl⟩ := H
           go_enter Tryz.func18, Tryz.ntmps18
           try go_wp2_with (first | ((with_reducible refine gate_dst (N := 2) rfl ?_); refine boxZ 2 #[.string (⟨#[]⟩ : ByteArray), .int .i64 0, .int .i64 0, .int .i64 0, .int .i64 0, .slice none 0 0] 41 rfl rfl ?_; intro gb269 hg w56 hbox hb; have n0_ := Aside0.mk (below_step bZ hb); have n1_ := Aside0.mk (hbox); have n2_ := Aside0.mk ((by rw [hg]; exact bsZ : w.heap.size ≤ gb269)); have n3_ := Aside0.mk ((by rw [hg]; exact bsZ : w.heap.size ≤ gb269)); clear HB; have HB := n0_; have BK269 := n1_; have GW269 := n2_; have GE269 := n3_; clear n0_ n1_ n2_ n3_; clear hb hbox hg) | ((with_reducible refine gate_callee (f := 31) rfl ?_); refine goesL_ (some 11) rfl rfl Tryz.func31 (by kernel_rfl) rfl #[.string a0, .string (⟨#[32]⟩ : ByteArray)] rfl gZ ?_; (with_reducible refine (strings_Split.calls a0 (⟨#[32]⟩ : ByteArray) t270 _ ?side1 A2.out).mono ?_); (case side1 => exact HSH.out.below (show Below w.heap.size w _ from bZ)); rintro e w57 ⟨v271, rfl, ho0, hb⟩; refine ⟨_, rfl, ?_⟩; have n0_ := Aside0.mk (Kd.R_lower ho0 bsZ); have n1_ := Aside0.mk (blk_below (g := gb269) (o := .cells #[.string (⟨#[]⟩ : ByteArray), .int .i64 0, .int .i64 0, .int .i64 0, .int .i64 0, .slice none 0 0] 41 (0, 0)) (kZ BK269.out) hb); have n2_ := Aside0.mk (below_step bZ hb); clear BK269; clear HB; have HO272 := n0_; have BK269 := n1_; have HB := n2_; clear n0_ n1_ n2_; (try clear hb); (try clear hb2); (try clear hk); (try clear hi); (try clear ho0); obtain ⟨Ao58, co58, eo58⟩ := Kd.R_slice HO272.out; subst eo58; have p273 : 0 ≤ (1 : Int) := (by omega); have q273 : 1 < (t270.length : Int) := oZ; obtain ⟨ad273, e273, hx273_0⟩ := Kd.at_string (Kd.R_reads' HO272.out).2.2 1 p273 q273; cases e273; (try simp only [show (1 : Int).toNat = 1 from rfl, Nat.reduceMul, Nat.reduceEqDiff, Go.Addr.add, ↓reduceIte] at hx273_0); have qi273 : (1 < t270.length) = True := eq_true (by omega); (try rw [show ((1 : Int)).toNat = 1 from rfl] at hx273_0); replace p273 := eq_true p273; replace q273 := eq_true q273) | ((with_reducible refine gate_callee (f := 32) rfl ?_); refine goesL_ (some 20) rfl rfl Tryz.func32 (by kernel_rfl) rfl #[.string (rdOf ByteArray.empty t270 1), .int .i64 4] rfl gZ ?_; (with_reducible refine (impl_readNumbers.calls k (rdOf ByteArray.empty t270 1) 4 t274 true _ ?side1 A5.out).mono ?_); (case side1 => exact HSH.out.below (show Below w.heap.size w _ from bZ)); rintro e w59 ⟨v276, rfl, ho0, hb⟩; refine ⟨_, rfl, ?_⟩; have n0_ := Aside0.mk (Kd.R_below (Kd.rZ HO272.out) hb); have n1_ := Aside0.mk (Kd.R_lower ho0 bsZ); have n2_ := Aside0.mk (blk_below (g := gb269) (o := .cells #[.string (⟨#[]⟩ : ByteArray), .int .i64 0, .int .i64 0, .int .i64 0, .int .i64 0, .slice none 0 0] 41 (0, 0)) (kZ BK269.out) hb); have n3_ := Aside0.mk (below_step bZ hb); clear HO272; clear BK269; clear HB; have HO272 := n0_; have HO277 := n1_; have BK269 := n2_; have HB := n3_; clear n0_ n1_ n2_ n3_; (try clear hb); (try clear hb2); (try clear hk); (try clear hi); (try clear ho0); have p278 : 0 ≤ (2 : Int) := (by omega); have q278 : 2 < (t270.length : Int) := oZ; obtain ⟨ad278, e278, hx278_0⟩ := Kd.at_string (Kd.R_reads' HO272.out).2.2 2 p278 q278; obtain rfl : ad273 = ad278 := (by injection e278); (try simp only [show (2 : Int).toNat = 2 from rfl, Nat.reduceMul, Nat.reduceEqDiff, Go.Addr.add, ↓reduceIte] at hx278_0); have qi278 : (2 < t270.length) = True := eq_true (by omega); (try rw [show ((2 : Int)).toNat = 2 from rfl] at hx278_0); replace p278 := eq_true p278; replace q278 := eq_true q278) | ((with_reducible refine gate_callee (f := 33) rfl ?_); refine goesL_ (some 27) rfl rfl Tryz.func33 (by kernel_rfl) rfl #[.string (rdOf ByteArray.empty t270 2)] rfl gZ ?_; (with_reducible refine (impl_ReadList.calls k (rdOf ByteArray.empty t270 2) t279 false _ ?side1 A7.out).mono ?_); (case side1 => exact HSH.out.below (show Below w.heap.size w _ from bZ)); rintro e w60 ⟨v281, rfl, ho0, hb⟩; refine ⟨_, rfl, ?_⟩; have n0_ := Aside0.mk (Kd.R_below (Kd.rZ HO272.out) hb); have n1_ := Aside0.mk (Kd.R_elder' (Kd.rZ HO277.out) (Kd.R_base ho0) hb); have n2_ := Aside0.mk (Kd.R_lower (Kd.R_new' ho0 (Kd.R_lt (Kd.rZ HO277.out))) bsZ); have n3_ := Aside0.mk (blk_below (g := gb269) (o := .cells #[.string (⟨#[]⟩ : ByteArray), .int .i64 0, .int .i64 0, .int .i64 0, .int .i64 0, .slice none 0 0] 41 (0, 0)) (kZ BK269.out) hb); have n4_ := Aside0.mk (below_step bZ hb); clear HO272; clear HO277; clear BK269; clear HB; have HO272 := n0_; have HO277 := n1_; have HO282 := n2_; have BK269 := n3_; have HB := n4_; clear n0_ n1_ n2_ n3_ n4_; (try clear hb); (try clear hb2); (try clear hk); (try clear hi); (try clear ho0)))
           have n0_ := Aside0.mk (Kd.R_drew HO272.out)
           have n1_ := Aside0.mk (Kd.R_drew HO277.out)
           have n2_ := Aside0.mk (Kd.R_drew HO282.out)
           have n3_ := Aside0.mk (blk_drew BK269.out)
           have n4_ := Aside0.mk (below_drew1 HB.out)
           clear HO272; clear HO277; clear HO282; clear BK269; clear HB
           have HO272 := n0_
           have HO277 := n1_
           have HO282 := n2_
           have BK269 := n3_
           have HB := n4_
           clear n0_ n1_ n2_ n3_ n4_
           have p283 : 0 ≤ (0 : Int) := (by omega)
           have q283 : 0 < (t270.length : Int) := oZ
           obtain ⟨ad283, e283, hx283_0⟩ := Kd.at_string (Kd.R_reads' HO272.out).2.2 0 p283 q283
           obtain rfl : ad273 = ad283 := (by injection e283)
           have qi283 : (0 < t270.length) = True := eq_true (by omega)
           (try rw [show ((0 : Int)).toNat = 0 from rfl] at hx283_0)
           (try rw [Addr.add_zero'] at hx283_0)
           replace p283 := eq_true p283
           replace q283 := eq_true q283
           obtain ⟨Ao62, co62, eo62⟩ := Kd.R_slice HO277.out
           (first | subst eo62 | (injection eo62 with f1_ f2_ f3_; have f4_ := f1_.symm; have f5_ := f3_.symm; clear f1_ f2_ f3_; subst f4_; subst f5_))
           have p284 : 0 ≤ (0 : Int) := (by omega)
           have q284 : 0 < (t274.length : Int) := oZ
           obtain ⟨ad284, e284, hx284_0⟩ := Kd.at_int (Kd.R_reads' HO277.out).2.2 0 p284 q284
           cases e284
           have qi284 : (0 < t274.length) = True := eq_true (by omega)
           (try rw [show ((0 : Int)).toNat = 0 from rfl] at hx284_0)
           (try rw [Addr.add_zero'] at hx284_0)
           replace p284 := eq_true p284
           replace q284 := eq_true q284
           have p285 : 0 ≤ (1 : Int) := (by omega)
           have q285 : 1 < (t274.length : Int) := oZ
           obtain ⟨ad285, e285, hx285_0⟩ := Kd.at_int (Kd.R_reads' HO277.out).2.2 1 p285 q285
           obtain rfl : ad284 = ad285 := (by injection e285)
           (try simp only [show (1 : Int).toNat = 1 from rfl, Nat.reduceMul, Nat.reduceEqDiff, Go.Addr.add, ↓reduceIte] at hx285_0)
           have qi285 : (1 < t274.length) = True := eq_true (by omega)
           (try rw [show ((1 : Int)).toNat = 1 from rfl] at hx285_0)
           replace p285 := eq_true p285
           replace q285 := eq_true q285
           have p286 : 0 ≤ (2 : Int) := (by omega)
           have q286 : 2 < (t274.length : Int) := oZ
           obtain ⟨ad286, e286, hx286_0⟩ := Kd.at_int (Kd.R_reads' HO277.out).2.2 2 p286 q286
           obtain rfl : ad284 = ad286 := (by injection e286)
           (try simp only [show (2 : Int).toNat = 2 from rfl, Nat.reduceMul, Nat.reduceEqDiff, Go.Addr.add, ↓reduceIte] at hx286_0)
           have qi286 : (2 < t274.length) = True := eq_true (by omega)
           (try rw [show ((2 : Int)).toNat = 2 from rfl] at hx286_0)
           replace p286 := eq_true p286
           replace q286 := eq_true q286
           have p287 : 0 ≤ (3 : Int) := (by omega)
           have q287 : 3 < (t274.length : Int) := oZ
           obtain ⟨ad287, e287, hx287_0⟩ := Kd.at_int (Kd.R_reads' HO277.out).2.2 3 p287 q287
           obtain rfl : ad284 = ad287 := (by injection e287)
           (try simp only [show (3 : Int).toNat = 3 from rfl, Nat.reduceMul, Nat.reduceEqDiff, Go.Addr.add, ↓reduceIte] at hx287_0)
           have qi287 : (3 < t274.length) = True := eq_true (by omega)
           (try rw [show ((3 : Int)).toNat = 3 from rfl] at hx287_0)
           replace p287 := eq_true p287
           replace q287 := eq_true q287
           obtain ⟨Ao63, co63, eo63⟩ := Kd.R_slice HO282.out
           (first | subst eo63 | (injection eo63 with f1_ f2_ f3_; have f4_ := f1_.symm; have f5_ := f3_.symm; clear f1_ f2_ f3_; subst f4_; subst f5_))
           refine start_ (n := 19) (S := fun w' => w'.cell? ad273 = some (.string (rdOf ByteArray.empty t270 0)) ∧ w'.cell? ad284 = some (.int .i64 (rd t274 0)) ∧ w'.cell? ⟨ad284.block, ad284.off + 1, none⟩ = some (.int .i64 (rd t274 1)) ∧ w'.cell? ⟨ad284.block, ad284.off + 2, none⟩ = some (.int .i64 (rd t274 2)) ∧ w'.cell? ⟨ad284.block, ad284.off + 3, none⟩ = some (.int .i64 (rd t274 3))) (ds := []) #[false, false, false, false, false, false, false, false, false, false, false, false, false, false, false, false, false, false, false] (by kernel_rfl) rfl rfl ⟨hx283_0, hx284_0, hx285_0, hx286_0, hx287_0⟩ (fun hHeld => ?_); refine with_tabW impl_ReadBuilding.tab6 impl_ReadBuilding.bits6 (fun HT_ HW_ => ?_)
           generalize w60.drew = w61 at HO272 HO277 HO282 BK269 HB hx283_0 hx284_0 hx285_0 hx286_0 hx287_0 hHeld ⊢
           refine puZ 0 (some 30) #[true, false, false, false, false, false, false, false, false, false, false, false, false, false, false, false, false, false, false] rfl rfl HT_.out ?_
           refine puZ 1 (some 31) #[true, true, false, false, false, false, false, false, false, false, false, false, false, false, false, false, false, false, false] rfl rfl HT_.out ?_
           refine puZ 3 (some 33) #[true, true, false, true, false, false, false, false, false, false, false, false, false, false, false, false, false, false, false] rfl rfl HT_.out ?_
           refine puZ 4 (some 34) #[true, true, false, true, true, false, false, false, false, false, false, false, false, false, false, false, false, false, false] rfl rfl HT_.out ?_
           refine puZ 6 (some 36) #[true, true, false, true, true, false, true, false, false, false, false, false, false, false, false, false, false, false, false] rfl rfl HT_.out ?_
           refine puZ 7 (some 37) #[true, true, false, true, true, false, true, true, false, false, false, false, false, false, false, false, false, false, false] rfl rfl HT_.out ?_
           refine puZ 9 (some 39) #[true, true, false, true, true, false, true, true, false, true, false, false, false, false, false, false, false, false, false] rfl rfl HT_.out ?_
           refine puZ 10 (some 40) #[true, true, false, true, true, false, true, true, false, true, true, false, false, false, false, false, false, false, false] rfl rfl HT_.out ?_
           refine puZ 12 (some 42) #[true, true, false, true, true, false, true, true, false, true, true, false, true, false, false, false, false, false, false] rfl rfl HT_.out ?_
           refine puZ 13 (some 43) #[true, true, false, true, true, false, true, true, false, true, true, false, true, true, false, false, false, false, false] rfl rfl HT_.out ?_
           refine puZ 15 (some 45) #[true, true, false, true, true, false, true, true, false, true, true, false, true, true, false, true, false, false, false] rfl rfl HT_.out ?_
           refine take_ (i := 2) (N := some 32) (v := ?_) (a' := ?_) #[true, true, true, true, true, false, true, true, false, true, true, false, true, true, false, true, false, false, false] rfl rfl (take_ofW HT_.out HW_.out (by kernel_rfl)) (fun _ _ _ h => h) (Or.inl ⟨by rfl, ?_⟩) hHeld ?_ ?_
           rotate_left
           ·rintro w' ⟨s0, s1, s2, s3, s4⟩
            go_simp
            with_reducible rfl
           rotate_left
           ·simp only [Act.put, List.setIfInBounds_toArray, List.set_cons_zero, List.set_cons_succ, i64_w, i32_w]
            rfl
           refine take_ (i := 5) (N := some 35) (v := ?_) (a' := ?_) #[true, true, true, true, true, true, true, true, false, true, true, false, true, true, false, true, false, false, false] rfl rfl (take_ofW HT_.out HW_.out (by kernel_rfl)) (fun _ _ _ h => h) (Or.inl ⟨by rfl, ?_⟩) hHeld ?_ ?_
           rotate_left
           ·rintro w' ⟨s0, s1, s2, s3, s4⟩
            go_simp
            with_reducible rfl
           rotate_left
           ·simp only [Act.put, List.setIfInBounds_toArray, List.set_cons_zero, List.set_cons_succ, i64_w, i32_w]
            rfl
           refine take_ (i := 8) (N := some 38) (v := ?_) (a' := ?_) #[true, true, true, true, true, true, true, true, true, true, true, false, true, true, false, true, false, false, false] rfl rfl (take_ofW HT_.out HW_.out (by kernel_rfl)) (fun _ _ _ h => h) (Or.inl ⟨by rfl, ?_⟩) hHeld ?_ ?_
           rotate_left
           ·rintro w' ⟨s0, s1, s2, s3, s4⟩
            go_simp
            with_reducible rfl
           rotate_left
           ·simp only [Act.put, List.setIfInBounds_toArray, List.set_cons_zero, List.set_cons_succ, i64_w, i32_w]
            rfl
           refine take_ (i := 11) (N := some 41) (v := ?_) (a' := ?_) #[true, true, true, true, true, true, true, true, true, true, true, true, true, true, false, true, false, false, false] rfl rfl (take_ofW HT_.out HW_.out (by kernel_rfl)) (fun _ _ _ h => h) (Or.inl ⟨by rfl, ?_⟩) hHeld ?_ ?_
           rotate_left
           ·rintro w' ⟨s0, s1, s2, s3, s4⟩
            go_simp
            with_reducible rfl
           rotate_left
           ·simp only [Act.put, List.setIfInBounds_toArray, List.set_cons_zero, List.set_cons_succ, i64_w, i32_w]
            rfl
           refine take_ (i := 14) (N := some 44) (v := ?_) (a' := ?_) #[true, true, true, true, true, true, true, true, true, true, true, true, true, true, true, true, false, false, false] rfl rfl (take_ofW HT_.out HW_.out (by kernel_rfl)) (fun _ _ _ h => h) (Or.inl ⟨by rfl, ?_⟩) hHeld ?_ ?_
           rotate_left
           ·rintro w' ⟨s0, s1, s2, s3, s4⟩
            go_simp
            with_reducible rfl
           rotate_left
           ·simp only [Act.put, List.setIfInBounds_toArray, List.set_cons_zero, List.set_cons_succ, i64_w, i32_w]
            rfl
           refine puZ 16 (some 46) #[true, true, true, true, true, true, true, true, true, true, true, true, true, true, true, true, true, false, false] rfl rfl HT_.out ?_
           refine one_ (i := 17) (N := some 9) #[true, true, true, true, true, true, true, true, true, true, true, true, true, true, true, true, true, true, false] rfl rfl (one_of HT_.out (by kernel_rfl)) (by decide) (fun K hK => ?_)
           refine box_step ?hg (N := 9) ?hd (cs := #[.string (⟨#[]⟩ : ByteArray), .int .i64 0, .int .i64 0, .int .i64 0, .int .i64 0, .slice none 0 0]) (t := 41) ?hr ?_; (case hd => rfl); (case hg => rfl); (case hr => first | (go_simp; done) | (go_simp; rfl))
           intro gb288 hg w64 hbox hb
           have HS0_ := (hb.cell (World.block_lt_of_cell? _ _ (hHeld.1))).trans (hHeld.1)
           have HS1_ := (hb.cell (World.block_lt_of_cell? _ _ (hHeld.2.1))).trans (hHeld.2.1)
           have HS2_ := (hb.cell (World.block_lt_of_cell? _ _ (hHeld.2.2.1))).trans (hHeld.2.2.1)
           have HS3_ := (hb.cell (World.block_lt_of_cell? _ _ (hHeld.2.2.2.1))).trans (hHeld.2.2.2.1)
           have HS4_ := (hb.cell (World.block_lt_of_cell? _ _ (hHeld.2.2.2.2))).trans (hHeld.2.2.2.2)
           have n0_ := Aside0.mk (Kd.R_below (Kd.rZ HO272.out) hb)
           have n1_ := Aside0.mk (Kd.R_below (Kd.rZ HO277.out) hb)
           have n2_ := Aside0.mk (Kd.R_below (Kd.rZ HO282.out) hb)
           have n3_ := Aside0.mk (blk_below (g := gb269) (o := .cells #[.string (⟨#[]⟩ : ByteArray), .int .i64 0, .int .i64 0, .int .i64 0, .int .i64 0, .slice none 0 0] 41 (0, 0)) (kZ BK269.out) hb)
           have n4_ := Aside0.mk (below_step bZ hb)
           have n5_ := Aside0.mk (hbox)
           have n6_ := Aside0.mk ((by rw [hg]; exact bsZ : w.heap.size ≤ gb288))
           have n7_ := Aside0.mk ((by rw [hg]; exact bsZ : w.heap.size ≤ gb288))
           have n8_ := Aside0.mk ((by rw [hg]; exact Nat.ne_of_lt (blk_lt (g := gb269) (o := .cells #[.string (⟨#[]⟩ : ByteArray), .int .i64 0, .int .i64 0, .int .i64 0, .int .i64 0, .slice none 0 0] 41 (0, 0)) (kZ BK269.out)) : gb269 ≠ gb288))
           have n9_ := Aside0.mk ((by rw [hg]; exact Nat.ne_of_gt (blk_lt (g := gb269) (o := .cells #[.string (⟨#[]⟩ : ByteArray), .int .i64 0, .int .i64 0, .int .i64 0, .int .i64 0, .slice none 0 0] 41 (0, 0)) (kZ BK269.out)) : gb288 ≠ gb269))
           clear HO272; clear HO277; clear HO282; clear BK269; clear HB
           have HO272 := n0_
           have HO277 := n1_
           have HO282 := n2_
           have BK269 := n3_
           have HB := n4_
           have BK288 := n5_
           have GW288 := n6_
           have GE288 := n7_
           have NB269_288 := n8_
           have NB288_269 := n9_
           clear n0_ n1_ n2_ n3_ n4_ n5_ n6_ n7_ n8_ n9_
           clear hb hbox hg
           refine hK.out _ _ ⟨HS0_, HS1_, HS2_, HS3_, HS4_⟩ (fun hHeld => ?_)
           clear hK K
           refine norm_ (a' := ?_) ?_ ?_
           rotate_left
           ·show Act.put _ (some 9) _ = _
            simp only [Act.put, List.setIfInBounds_toArray, List.set_cons_zero, List.set_cons_succ, i64_w, i32_w]
            rfl
           refine one_ (i := 18) (N := none) #[true, true, true, true, true, true, true, true, true, true, true, true, true, true, true, true, true, true, true] rfl rfl (one_of HT_.out (by kernel_rfl)) (by decide) (fun K hK => ?_)
           have hs65 := bc0 BK288.out
           have hfs65 := blk_frozen BK288.out 0
           have hns65_0 := NB269_288.out
           have hms65_0 := NB288_269.out
           have hs66 := bc1 BK288.out
           have hfs66 := blk_frozen BK288.out 1
           have hns66_0 := NB269_288.out
           have hms66_0 := NB288_269.out
           have hs67 := bc2 BK288.out
           have hfs67 := blk_frozen BK288.out 2
           have hns67_0 := NB269_288.out
           have hms67_0 := NB288_269.out
           have hs68 := bc3 BK288.out
           have hfs68 := blk_frozen BK288.out 3
           have hns68_0 := NB269_288.out
           have hms68_0 := NB288_269.out
           have hs69 := bc4 BK288.out
           have hfs69 := blk_frozen BK288.out 4
           have hns69_0 := NB269_288.out
           have hms69_0 := NB288_269.out
           have hs70 := bc5 BK288.out
           have hfs70 := blk_frozen BK288.out 5
           have hns70_0 := NB269_288.out
           have hms70_0 := NB288_269.out
           refine skip_ (w1 := ?_) (by rfl) rfl ?_ ?_
           rotate_left
           ·go_simp
            rfl
           refine hK.out _ _ ⟨(far6 (by first | exact Kd.own_blk (Kd.R_ne HO272.out BK288.out (by decide)) | (dsimp only; exact Kd.own_blk (Kd.R_ne HO272.out BK288.out (by decide))) | (rw [add_block]; exact Kd.own_blk (Kd.R_ne HO272.out BK288.out (by decide)))) (hHeld.1)), (far6 (by first | exact Kd.own_blk (Kd.R_ne HO277.out BK288.out (by decide)) | (dsimp only; exact Kd.own_blk (Kd.R_ne HO277.out BK288.out (by decide))) | (rw [add_block]; exact Kd.own_blk (Kd.R_ne HO277.out BK288.out (by decide)))) (hHeld.2.1)), (far6 (by first | exact Kd.own_blk (Kd.R_ne HO277.out BK288.out (by decide)) | (dsimp only; exact Kd.own_blk (Kd.R_ne HO277.out BK288.out (by decide))) | (rw [add_block]; exact Kd.own_blk (Kd.R_ne HO277.out BK288.out (by decide)))) (hHeld.2.2.1)), (far6 (by first | exact Kd.own_blk (Kd.R_ne HO277.out BK288.out (by decide)) | (dsimp only; exact Kd.own_blk (Kd.R_ne HO277.out BK288.out (by decide))) | (rw [add_block]; exact Kd.own_blk (Kd.R_ne HO277.out BK288.out (by decide)))) (hHeld.2.2.2.1)), (far6 (by first | exact Kd.own_blk (Kd.R_ne HO277.out BK288.out (by decide)) | (dsimp only; exact Kd.own_blk (Kd.R_ne HO277.out BK288.out (by decide))) | (rw [add_block]; exact Kd.own_blk (Kd.R_ne HO277.out BK288.out (by decide)))) (hHeld.2.2.2.2))⟩ (fun hHeld => ?_)
           clear hK K
           refine done_ (done_of HT_.out (by kernel_rfl)) ?_
           have hnb71 := NB269_288.out
           have hnc71 := NB288_269.out
           have hcz72_0 := bc0 BK269.out
           have hcz72_1 := bc1 BK269.out
           have hcz72_2 := bc2 BK269.out
           have hcz72_3 := bc3 BK269.out
           have hcz72_4 := bc4 BK269.out
           have hcz72_5 := bc5 BK269.out
           have hfz72_0 := blk_frozen BK269.out 0
           have hfz72_1 := blk_frozen BK269.out 1
           have hfz72_2 := blk_frozen BK269.out 2
           have hfz72_3 := blk_frozen BK269.out 3
           have hfz72_4 := blk_frozen BK269.out 4
           have hfz72_5 := blk_frozen BK269.out 5
           try go_wp2
           refine bodyPost_ret (results_ct rfl _ _ gb269 41 #[.string (⟨#[]⟩ : ByteArray), .int .i64 0, .int .i64 0, .int .i64 0, .int .i64 0, .slice none 0 0] (0, 0) _ rfl (by (with_reducible repeat (first | refine blk_drewN ?_ _ | refine blk_drew ?_ | refine blk_alloc ?_ _)); refine blk_put (cs := #[.string (⟨#[]⟩ : ByteArray), .int .i64 0, .int .i64 0, .int .i64 0, .int .i64 0, .slice none 0 0]) ?_ 5 _ rfl; (with_reducible repeat (first | refine blk_drewN ?_ _ | refine blk_drew ?_ | refine blk_alloc ?_ _)); refine blk_put (cs := #[.string (⟨#[]⟩ : ByteArray), .int .i64 0, .int .i64 0, .int .i64 0, .int .i64 0, .slice none 0 0]) ?_ 4 _ rfl; (with_reducible repeat (first | refine blk_drewN ?_ _ | refine blk_drew ?_ | refine blk_alloc ?_ _)); refine blk_put (cs := #[.string (⟨#[]⟩ : ByteArray), .int .i64 0, .int .i64 0, .int .i64 0, .int .i64 0, .slice none 0 0]) ?_ 3 _ rfl; (with_reducible repeat (first | refine blk_drewN ?_ _ | refine blk_drew ?_ | refine blk_alloc ?_ _)); refine blk_put (cs := #[.string (⟨#[]⟩ : ByteArray), .int .i64 0, .int .i64 0, .int .i64 0, .int .i64 0, .slice none 0 0]) ?_ 2 _ rfl; (with_reducible repeat (first | refine blk_drewN ?_ _ | refine blk_drew ?_ | refine blk_alloc ?_ _)); refine blk_put (cs := #[.string (⟨#[]⟩ : ByteArray), .int .i64 0, .int .i64 0, .int .i64 0, .int .i64 0, .slice none 0 0]) ?_ 1 _ rfl; (with_reducible repeat (first | refine blk_drewN ?_ _ | refine blk_drew ?_ | refine blk_alloc ?_ _)); refine blk_put (cs := #[.string (⟨#[]⟩ : ByteArray), .int .i64 0, .int .i64 0, .int .i64 0, .int .i64 0, .slice none 0 0]) ?_ 0 _ rfl; (with_reducible repeat (first | refine blk_drewN ?_ _ | refine blk_drew ?_ | refine blk_alloc ?_ _)); refine blk_far ?_ NB269_288.out _; (with_reducible repeat (first | refine blk_drewN ?_ _ | refine blk_drew ?_ | refine blk_alloc ?_ _)); refine blk_far ?_ NB269_288.out _; (with_reducible repeat (first | refine blk_drewN ?_ _ | refine blk_drew ?_ | refine blk_alloc ?_ _)); refine blk_far ?_ NB269_288.out _; (with_reducible repeat (first | refine blk_drewN ?_ _ | refine blk_drew ?_ | refine blk_alloc ?_ _)); refine blk_far ?_ NB269_288.out _; (with_reducible repeat (first | refine blk_drewN ?_ _ | refine blk_drew ?_ | refine blk_alloc ?_ _)); refine blk_far ?_ NB269_288.out _; (with_reducible repeat (first | refine blk_drewN ?_ _ | refine blk_drew ?_ | refine blk_alloc ?_ _)); refine blk_far ?_ NB269_288.out _; (with_reducible repeat (first | refine blk_drewN ?_ _ | refine blk_drew ?_ | refine blk_alloc ?_ _)); exact BK269.out) Tryz.underlying41 rfl (by kernel_rfl)) rfl ?_
           exact ⟨_, eZ, by first | exact Kd.R_nil _ _ _ _ _ | exact Kd.N_nil _ _ _ _ _ | exact Kd.V_nil _ _ _ _ _ | exact Kd.Q_nil _ _ _ _ _ | exact Kd.S_nil _ _ _ _ _, bZ⟩
         ·replace c13 := Bool.eq_false_iff.mpr c13
          subst c13
          have H1 : (some ((⟨#[]⟩ : ByteArray), 0, 0, 0, 0, ([] : List Int), false)) = some (r1, r2, r3, r4, r5, r6, r7) := by rw [if_neg (show ¬ (false = true) by decide)] at H; exact H
          clear H
          have H := H1
          clear H1
          simp only [Option.some.injEq, Prod.mk.injEq] at H
          obtain ⟨rfl, rfl, rfl, rfl, rfl, rfl, rfl⟩ := H
          go_enter Tryz.func18, Tryz.ntmps18
          try go_wp2_with (first | ((with_reducible refine gate_dst (N := 2) rfl ?_); refine boxZ 2 #[.string (⟨#[]⟩ : ByteArray), .int .i64 0, .int .i64 0, .int .i64 0, .int .i64 0, .slice none 0 0] 41 rfl rfl ?_; intro gb269 hg w73 hbox hb; have n0_ := Aside0.mk (below_step bZ hb); have n1_ := Aside0.mk (hbox); have n2_ := Aside0.mk ((by rw [hg]; exact bsZ : w.heap.size ≤ gb269)); have n3_ := Aside0.mk ((by rw [hg]; exact bsZ : w.heap.size ≤ gb269)); clear HB; have HB := n0_; have BK269 := n1_; have GW269 := n2_; have GE269 := n3_; clear n0_ n1_ n2_ n3_; clear hb hbox hg) | ((with_reducible refine gate_callee (f := 31) rfl ?_); refine goesL_ (some 11) rfl rfl Tryz.func31 (by kernel_rfl) rfl #[.string a0, .string (⟨#[32]⟩ : ByteArray)] rfl gZ ?_; (with_reducible refine (strings_Split.calls a0 (⟨#[32]⟩ : ByteArray) t270 _ ?side1 A2.out).mono ?_); (case side1 => exact HSH.out.below (show Below w.heap.size w _ from bZ)); rintro e w74 ⟨v271, rfl, ho0, hb⟩; refine ⟨_, rfl, ?_⟩; have n0_ := Aside0.mk (Kd.R_lower ho0 bsZ); have n1_ := Aside0.mk (blk_below (g := gb269) (o := .cells #[.string (⟨#[]⟩ : ByteArray), .int .i64 0, .int .i64 0, .int .i64 0, .int .i64 0, .slice none 0 0] 41 (0, 0)) (kZ BK269.out) hb); have n2_ := Aside0.mk (below_step bZ hb); clear BK269; clear HB; have HO272 := n0_; have BK269 := n1_; have HB := n2_; clear n0_ n1_ n2_; (try clear hb); (try clear hb2); (try clear hk); (try clear hi); (try clear ho0); obtain ⟨Ao75, co75, eo75⟩ := Kd.R_slice HO272.out; subst eo75; have p273 : 0 ≤ (1 : Int) := (by omega); have q273 : 1 < (t270.length : Int) := oZ; obtain ⟨ad273, e273, hx273_0⟩ := Kd.at_string (Kd.R_reads' HO272.out).2.2 1 p273 q273; cases e273; (try simp only [show (1 : Int).toNat = 1 from rfl, Nat.reduceMul, Nat.reduceEqDiff, Go.Addr.add, ↓reduceIte] at hx273_0); have qi273 : (1 < t270.length) = True := eq_true (by omega); (try rw [show ((1 : Int)).toNat = 1 from rfl] at hx273_0); replace p273 := eq_true p273; replace q273 := eq_true q273) | ((with_reducible refine gate_callee (f := 32) rfl ?_); refine goesL_ (some 20) rfl rfl Tryz.func32 (by kernel_rfl) rfl #[.string (rdOf ByteArray.empty t270 1), .int .i64 4] rfl gZ ?_; (with_reducible refine (impl_readNumbers.calls k (rdOf ByteArray.empty t270 1) 4 t274 false _ ?side1 A5.out).mono ?_); (case side1 => exact HSH.out.below (show Below w.heap.size w _ from bZ)); rintro e w76 ⟨v276, rfl, ho0, hb⟩; refine ⟨_, rfl, ?_⟩; have n0_ := Aside0.mk (Kd.R_below (Kd.rZ HO272.out) hb); have n1_ := Aside0.mk (Kd.R_lower ho0 bsZ); have n2_ := Aside0.mk (blk_below (g := gb269) (o := .cells #[.string (⟨#[]⟩ : ByteArray), .int .i64 0, .int .i64 0, .int .i64 0, .int .i64 0, .slice none 0 0] 41 (0, 0)) (kZ BK269.out) hb); have n3_ := Aside0.mk (below_step bZ hb); clear HO272; clear BK269; clear HB; have HO272 := n0_; have HO277 := n1_; have BK269 := n2_; have HB := n3_; clear n0_ n1_ n2_ n3_; (try clear hb); (try clear hb2); (try clear hk); (try clear hi); (try clear ho0); have p278 : 0 ≤ (2 : Int) := (by omega); have q278 : 2 < (t270.length : Int) := oZ; obtain ⟨ad278, e278, hx278_0⟩ := Kd.at_string (Kd.R_reads' HO272.out).2.2 2 p278 q278; obtain rfl : ad273 = ad278 := (by injection e278); (try simp only [show (2 : Int).toNat = 2 from rfl, Nat.reduceMul, Nat.reduceEqDiff, Go.Addr.add, ↓reduceIte] at hx278_0); have qi278 : (2 < t270.length) = True := eq_true (by omega); (try rw [show ((2 : Int)).toNat = 2 from rfl] at hx278_0); replace p278 := eq_true p278; replace q278 := eq_true q278) | ((with_reducible refine gate_callee (f := 33) rfl ?_); refine goesL_ (some 27) rfl rfl Tryz.func33 (by kernel_rfl) rfl #[.string (rdOf ByteArray.empty t270 2)] rfl gZ ?_; (with_reducible refine (impl_ReadList.calls k (rdOf ByteArray.empty t270 2) t279 t280 _ ?side1 A7.out).mono ?_); (case side1 => exact HSH.out.below (show Below w.heap.size w _ from bZ)); rintro e w77 ⟨v281, rfl, ho0, hb⟩; refine ⟨_, rfl, ?_⟩; have n0_ := Aside0.mk (Kd.R_below (Kd.rZ HO272.out) hb); have n1_ := Aside0.mk (Kd.R_elder' (Kd.rZ HO277.out) (Kd.R_base ho0) hb); have n2_ := Aside0.mk (Kd.R_lower (Kd.R_new' ho0 (Kd.R_lt (Kd.rZ HO277.out))) bsZ); have n3_ := Aside0.mk (blk_below (g := gb269) (o := .cells #[.string (⟨#[]⟩ : ByteArray), .int .i64 0, .int .i64 0, .int .i64 0, .int .i64 0, .slice none 0 0] 41 (0, 0)) (kZ BK269.out) hb); have n4_ := Aside0.mk (below_step bZ hb); clear HO272; clear HO277; clear BK269; clear HB; have HO272 := n0_; have HO277 := n1_; have HO282 := n2_; have BK269 := n3_; have HB := n4_; clear n0_ n1_ n2_ n3_ n4_; (try clear hb); (try clear hb2); (try clear hk); (try clear hi); (try clear ho0)))
          have n0_ := Aside0.mk (Kd.R_drew HO272.out)
          have n1_ := Aside0.mk (Kd.R_drew HO277.out)
          have n2_ := Aside0.mk (Kd.R_drew HO282.out)
          have n3_ := Aside0.mk (blk_drew BK269.out)
          have n4_ := Aside0.mk (below_drew1 HB.out)
          clear HO272; clear HO277; clear HO282; clear BK269; clear HB
          have HO272 := n0_
          have HO277 := n1_
          have HO282 := n2_
          have BK269 := n3_
          have HB := n4_
          clear n0_ n1_ n2_ n3_ n4_
          have p283 : 0 ≤ (0 : Int) := (by omega)
          have q283 : 0 < (t270.length : Int) := oZ
          obtain ⟨ad283, e283, hx283_0⟩ := Kd.at_string (Kd.R_reads' HO272.out).2.2 0 p283 q283
          obtain rfl : ad273 = ad283 := (by injection e283)
          have qi283 : (0 < t270.length) = True := eq_true (by omega)
          (try rw [show ((0 : Int)).toNat = 0 from rfl] at hx283_0)
          (try rw [Addr.add_zero'] at hx283_0)
          replace p283 := eq_true p283
          replace q283 := eq_true q283
          obtain ⟨Ao79, co79, eo79⟩ := Kd.R_slice HO277.out
          (first | subst eo79 | (injection eo79 with f1_ f2_ f3_; have f4_ := f1_.symm; have f5_ := f3_.symm; clear f1_ f2_ f3_; subst f4_; subst f5_))
          have p284 : 0 ≤ (0 : Int) := (by omega)
          have q284 : 0 < (t274.length : Int) := oZ
          obtain ⟨ad284, e284, hx284_0⟩ := Kd.at_int (Kd.R_reads' HO277.out).2.2 0 p284 q284
          cases e284
          have qi284 : (0 < t274.length) = True := eq_true (by omega)
          (try rw [show ((0 : Int)).toNat = 0 from rfl] at hx284_0)
          (try rw [Addr.add_zero'] at hx284_0)
          replace p284 := eq_true p284
          replace q284 := eq_true q284
          have p285 : 0 ≤ (1 : Int) := (by omega)
          have q285 : 1 < (t274.length : Int) := oZ
          obtain ⟨ad285, e285, hx285_0⟩ := Kd.at_int (Kd.R_reads' HO277.out).2.2 1 p285 q285
          obtain rfl : ad284 = ad285 := (by injection e285)
          (try simp only [show (1 : Int).toNat = 1 from rfl, Nat.reduceMul, Nat.reduceEqDiff, Go.Addr.add, ↓reduceIte] at hx285_0)
          have qi285 : (1 < t274.length) = True := eq_true (by omega)
          (try rw [show ((1 : Int)).toNat = 1 from rfl] at hx285_0)
          replace p285 := eq_true p285
          replace q285 := eq_true q285
          have p286 : 0 ≤ (2 : Int) := (by omega)
          have q286 : 2 < (t274.length : Int) := oZ
          obtain ⟨ad286, e286, hx286_0⟩ := Kd.at_int (Kd.R_reads' HO277.out).2.2 2 p286 q286
          obtain rfl : ad284 = ad286 := (by injection e286)
          (try simp only [show (2 : Int).toNat = 2 from rfl, Nat.reduceMul, Nat.reduceEqDiff, Go.Addr.add, ↓reduceIte] at hx286_0)
          have qi286 : (2 < t274.length) = True := eq_true (by omega)
          (try rw [show ((2 : Int)).toNat = 2 from rfl] at hx286_0)
          replace p286 := eq_true p286
          replace q286 := eq_true q286
          have p287 : 0 ≤ (3 : Int) := (by omega)
          have q287 : 3 < (t274.length : Int) := oZ
          obtain ⟨ad287, e287, hx287_0⟩ := Kd.at_int (Kd.R_reads' HO277.out).2.2 3 p287 q287
          obtain rfl : ad284 = ad287 := (by injection e287)
          (try simp only [show (3 : Int).toNat = 3 from rfl, Nat.reduceMul, Nat.reduceEqDiff, Go.Addr.add, ↓reduceIte] at hx287_0)
          have qi287 : (3 < t274.length) = True := eq_true (by omega)
          (try rw [show ((3 : Int)).toNat = 3 from rfl] at hx287_0)
          replace p287 := eq_true p287
          replace q287 := eq_true q287
          obtain ⟨Ao80, co80, eo80⟩ := Kd.R_slice HO282.out
          (first | subst eo80 | (injection eo80 with f1_ f2_ f3_; have f4_ := f1_.symm; have f5_ := f3_.symm; clear f1_ f2_ f3_; subst f4_; subst f5_))
          refine start_ (n := 19) (S := fun w' => w'.cell? ad273 = some (.string (rdOf ByteArray.empty t270 0)) ∧ w'.cell? ad284 = some (.int .i64 (rd t274 0)) ∧ w'.cell? ⟨ad284.block, ad284.off + 1, none⟩ = some (.int .i64 (rd t274 1)) ∧ w'.cell? ⟨ad284.block, ad284.off + 2, none⟩ = some (.int .i64 (rd t274 2)) ∧ w'.cell? ⟨ad284.block, ad284.off + 3, none⟩ = some (.int .i64 (rd t274 3))) (ds := []) #[false, false, false, false, false, false, false, false, false, false, false, false, false, false, false, false, false, false, false] (by kernel_rfl) rfl rfl ⟨hx283_0, hx284_0, hx285_0, hx286_0, hx287_0⟩ (fun hHeld => ?_); refine with_tabW impl_ReadBuilding.tab6 impl_ReadBuilding.bits6 (fun HT_ HW_ => ?_)
          generalize w77.drew = w78 at HO272 HO277 HO282 BK269 HB hx283_0 hx284_0 hx285_0 hx286_0 hx287_0 hHeld ⊢
          refine puZ 0 (some 30) #[true, false, false, false, false, false, false, false, false, false, false, false, false, false, false, false, false, false, false] rfl rfl HT_.out ?_
          refine puZ 1 (some 31) #[true, true, false, false, false, false, false, false, false, false, false, false, false, false, false, false, false, false, false] rfl rfl HT_.out ?_
          refine puZ 3 (some 33) #[true, true, false, true, false, false, false, false, false, false, false, false, false, false, false, false, false, false, false] rfl rfl HT_.out ?_
          refine puZ 4 (some 34) #[true, true, false, true, true, false, false, false, false, false, false, false, false, false, false, false, false, false, false] rfl rfl HT_.out ?_
          refine puZ 6 (some 36) #[true, true, false, true, true, false, true, false, false, false, false, false, false, false, false, false, false, false, false] rfl rfl HT_.out ?_
          refine puZ 7 (some 37) #[true, true, false, true, true, false, true, true, false, false, false, false, false, false, false, false, false, false, false] rfl rfl HT_.out ?_
          refine puZ 9 (some 39) #[true, true, false, true, true, false, true, true, false, true, false, false, false, false, false, false, false, false, false] rfl rfl HT_.out ?_
          refine puZ 10 (some 40) #[true, true, false, true, true, false, true, true, false, true, true, false, false, false, false, false, false, false, false] rfl rfl HT_.out ?_
          refine puZ 12 (some 42) #[true, true, false, true, true, false, true, true, false, true, true, false, true, false, false, false, false, false, false] rfl rfl HT_.out ?_
          refine puZ 13 (some 43) #[true, true, false, true, true, false, true, true, false, true, true, false, true, true, false, false, false, false, false] rfl rfl HT_.out ?_
          refine puZ 15 (some 45) #[true, true, false, true, true, false, true, true, false, true, true, false, true, true, false, true, false, false, false] rfl rfl HT_.out ?_
          refine take_ (i := 2) (N := some 32) (v := ?_) (a' := ?_) #[true, true, true, true, true, false, true, true, false, true, true, false, true, true, false, true, false, false, false] rfl rfl (take_ofW HT_.out HW_.out (by kernel_rfl)) (fun _ _ _ h => h) (Or.inl ⟨by rfl, ?_⟩) hHeld ?_ ?_
          rotate_left
          ·rintro w' ⟨s0, s1, s2, s3, s4⟩
           go_simp
           with_reducible rfl
          rotate_left
          ·simp only [Act.put, List.setIfInBounds_toArray, List.set_cons_zero, List.set_cons_succ, i64_w, i32_w]
           rfl
          refine take_ (i := 5) (N := some 35) (v := ?_) (a' := ?_) #[true, true, true, true, true, true, true, true, false, true, true, false, true, true, false, true, false, false, false] rfl rfl (take_ofW HT_.out HW_.out (by kernel_rfl)) (fun _ _ _ h => h) (Or.inl ⟨by rfl, ?_⟩) hHeld ?_ ?_
          rotate_left
          ·rintro w' ⟨s0, s1, s2, s3, s4⟩
           go_simp
           with_reducible rfl
          rotate_left
          ·simp only [Act.put, List.setIfInBounds_toArray, List.set_cons_zero, List.set_cons_succ, i64_w, i32_w]
           rfl
          refine take_ (i := 8) (N := some 38) (v := ?_) (a' := ?_) #[true, true, true, true, true, true, true, true, true, true, true, false, true, true, false, true, false, false, false] rfl rfl (take_ofW HT_.out HW_.out (by kernel_rfl)) (fun _ _ _ h => h) (Or.inl ⟨by rfl, ?_⟩) hHeld ?_ ?_
          rotate_left
          ·rintro w' ⟨s0, s1, s2, s3, s4⟩
           go_simp
           with_reducible rfl
          rotate_left
          ·simp only [Act.put, List.setIfInBounds_toArray, List.set_cons_zero, List.set_cons_succ, i64_w, i32_w]
           rfl
          refine take_ (i := 11) (N := some 41) (v := ?_) (a' := ?_) #[true, true, true, true, true, true, true, true, true, true, true, true, true, true, false, true, false, false, false] rfl rfl (take_ofW HT_.out HW_.out (by kernel_rfl)) (fun _ _ _ h => h) (Or.inl ⟨by rfl, ?_⟩) hHeld ?_ ?_
          rotate_left
          ·rintro w' ⟨s0, s1, s2, s3, s4⟩
           go_simp
           with_reducible rfl
          rotate_left
          ·simp only [Act.put, List.setIfInBounds_toArray, List.set_cons_zero, List.set_cons_succ, i64_w, i32_w]
           rfl
          refine take_ (i := 14) (N := some 44) (v := ?_) (a' := ?_) #[true, true, true, true, true, true, true, true, true, true, true, true, true, true, true, true, false, false, false] rfl rfl (take_ofW HT_.out HW_.out (by kernel_rfl)) (fun _ _ _ h => h) (Or.inl ⟨by rfl, ?_⟩) hHeld ?_ ?_
          rotate_left
          ·rintro w' ⟨s0, s1, s2, s3, s4⟩
           go_simp
           with_reducible rfl
          rotate_left
          ·simp only [Act.put, List.setIfInBounds_toArray, List.set_cons_zero, List.set_cons_succ, i64_w, i32_w]
           rfl
          refine puZ 16 (some 46) #[true, true, true, true, true, true, true, true, true, true, true, true, true, true, true, true, true, false, false] rfl rfl HT_.out ?_
          refine one_ (i := 17) (N := some 9) #[true, true, true, true, true, true, true, true, true, true, true, true, true, true, true, true, true, true, false] rfl rfl (one_of HT_.out (by kernel_rfl)) (by decide) (fun K hK => ?_)
          refine box_step ?hg (N := 9) ?hd (cs := #[.string (⟨#[]⟩ : ByteArray), .int .i64 0, .int .i64 0, .int .i64 0, .int .i64 0, .slice none 0 0]) (t := 41) ?hr ?_; (case hd => rfl); (case hg => rfl); (case hr => first | (go_simp; done) | (go_simp; rfl))
          intro gb288 hg w81 hbox hb
          have HS0_ := (hb.cell (World.block_lt_of_cell? _ _ (hHeld.1))).trans (hHeld.1)
          have HS1_ := (hb.cell (World.block_lt_of_cell? _ _ (hHeld.2.1))).trans (hHeld.2.1)
          have HS2_ := (hb.cell (World.block_lt_of_cell? _ _ (hHeld.2.2.1))).trans (hHeld.2.2.1)
          have HS3_ := (hb.cell (World.block_lt_of_cell? _ _ (hHeld.2.2.2.1))).trans (hHeld.2.2.2.1)
          have HS4_ := (hb.cell (World.block_lt_of_cell? _ _ (hHeld.2.2.2.2))).trans (hHeld.2.2.2.2)
          have n0_ := Aside0.mk (Kd.R_below (Kd.rZ HO272.out) hb)
          have n1_ := Aside0.mk (Kd.R_below (Kd.rZ HO277.out) hb)
          have n2_ := Aside0.mk (Kd.R_below (Kd.rZ HO282.out) hb)
          have n3_ := Aside0.mk (blk_below (g := gb269) (o := .cells #[.string (⟨#[]⟩ : ByteArray), .int .i64 0, .int .i64 0, .int .i64 0, .int .i64 0, .slice none 0 0] 41 (0, 0)) (kZ BK269.out) hb)
          have n4_ := Aside0.mk (below_step bZ hb)
          have n5_ := Aside0.mk (hbox)
          have n6_ := Aside0.mk ((by rw [hg]; exact bsZ : w.heap.size ≤ gb288))
          have n7_ := Aside0.mk ((by rw [hg]; exact bsZ : w.heap.size ≤ gb288))
          have n8_ := Aside0.mk ((by rw [hg]; exact Nat.ne_of_lt (blk_lt (g := gb269) (o := .cells #[.string (⟨#[]⟩ : ByteArray), .int .i64 0, .int .i64 0, .int .i64 0, .int .i64 0, .slice none 0 0] 41 (0, 0)) (kZ BK269.out)) : gb269 ≠ gb288))
          have n9_ := Aside0.mk ((by rw [hg]; exact Nat.ne_of_gt (blk_lt (g := gb269) (o := .cells #[.string (⟨#[]⟩ : ByteArray), .int .i64 0, .int .i64 0, .int .i64 0, .int .i64 0, .slice none 0 0] 41 (0, 0)) (kZ BK269.out)) : gb288 ≠ gb269))
          clear HO272; clear HO277; clear HO282; clear BK269; clear HB
          have HO272 := n0_
          have HO277 := n1_
          have HO282 := n2_
          have BK269 := n3_
          have HB := n4_
          have BK288 := n5_
          have GW288 := n6_
          have GE288 := n7_
          have NB269_288 := n8_
          have NB288_269 := n9_
          clear n0_ n1_ n2_ n3_ n4_ n5_ n6_ n7_ n8_ n9_
          clear hb hbox hg
          refine hK.out _ _ ⟨HS0_, HS1_, HS2_, HS3_, HS4_⟩ (fun hHeld => ?_)
          clear hK K
          refine norm_ (a' := ?_) ?_ ?_
          rotate_left
          ·show Act.put _ (some 9) _ = _
           simp only [Act.put, List.setIfInBounds_toArray, List.set_cons_zero, List.set_cons_succ, i64_w, i32_w]
           rfl
          refine one_ (i := 18) (N := none) #[true, true, true, true, true, true, true, true, true, true, true, true, true, true, true, true, true, true, true] rfl rfl (one_of HT_.out (by kernel_rfl)) (by decide) (fun K hK => ?_)
          have hs82 := bc0 BK288.out
          have hfs82 := blk_frozen BK288.out 0
          have hns82_0 := NB269_288.out
          have hms82_0 := NB288_269.out
          have hs83 := bc1 BK288.out
          have hfs83 := blk_frozen BK288.out 1
          have hns83_0 := NB269_288.out
          have hms83_0 := NB288_269.out
          have hs84 := bc2 BK288.out
          have hfs84 := blk_frozen BK288.out 2
          have hns84_0 := NB269_288.out
          have hms84_0 := NB288_269.out
          have hs85 := bc3 BK288.out
          have hfs85 := blk_frozen BK288.out 3
          have hns85_0 := NB269_288.out
          have hms85_0 := NB288_269.out
          have hs86 := bc4 BK288.out
          have hfs86 := blk_frozen BK288.out 4
          have hns86_0 := NB269_288.out
          have hms86_0 := NB288_269.out
          have hs87 := bc5 BK288.out
          have hfs87 := blk_frozen BK288.out 5
          have hns87_0 := NB269_288.out
          have hms87_0 := NB288_269.out
          refine skip_ (w1 := ?_) (by rfl) rfl ?_ ?_
          rotate_left
          ·go_simp
           rfl
          refine hK.out _ _ ⟨(far6 (by first | exact Kd.own_blk (Kd.R_ne HO272.out BK288.out (by decide)) | (dsimp only; exact Kd.own_blk (Kd.R_ne HO272.out BK288.out (by decide))) | (rw [add_block]; exact Kd.own_blk (Kd.R_ne HO272.out BK288.out (by decide)))) (hHeld.1)), (far6 (by first | exact Kd.own_blk (Kd.R_ne HO277.out BK288.out (by decide)) | (dsimp only; exact Kd.own_blk (Kd.R_ne HO277.out BK288.out (by decide))) | (rw [add_block]; exact Kd.own_blk (Kd.R_ne HO277.out BK288.out (by decide)))) (hHeld.2.1)), (far6 (by first | exact Kd.own_blk (Kd.R_ne HO277.out BK288.out (by decide)) | (dsimp only; exact Kd.own_blk (Kd.R_ne HO277.out BK288.out (by decide))) | (rw [add_block]; exact Kd.own_blk (Kd.R_ne HO277.out BK288.out (by decide)))) (hHeld.2.2.1)), (far6 (by first | exact Kd.own_blk (Kd.R_ne HO277.out BK288.out (by decide)) | (dsimp only; exact Kd.own_blk (Kd.R_ne HO277.out BK288.out (by decide))) | (rw [add_block]; exact Kd.own_blk (Kd.R_ne HO277.out BK288.out (by decide)))) (hHeld.2.2.2.1)), (far6 (by first | exact Kd.own_blk (Kd.R_ne HO277.out BK288.out (by decide)) | (dsimp only; exact Kd.own_blk (Kd.R_ne HO277.out BK288.out (by decide))) | (rw [add_block]; exact Kd.own_blk (Kd.R_ne HO277.out BK288.out (by decide)))) (hHeld.2.2.2.2))⟩ (fun hHeld => ?_)
          clear hK K
          refine done_ (done_of HT_.out (by kernel_rfl)) ?_
          have hnb88 := NB269_288.out
          have hnc88 := NB288_269.out
          have hcz89_0 := bc0 BK269.out
          have hcz89_1 := bc1 BK269.out
          have hcz89_2 := bc2 BK269.out
          have hcz89_3 := bc3 BK269.out
          have hcz89_4 := bc4 BK269.out
          have hcz89_5 := bc5 BK269.out
          have hfz89_0 := blk_frozen BK269.out 0
          have hfz89_1 := blk_frozen BK269.out 1
          have hfz89_2 := blk_frozen BK269.out 2
          have hfz89_3 := blk_frozen BK269.out 3
          have hfz89_4 := blk_frozen BK269.out 4
          have hfz89_5 := blk_frozen BK269.out 5
          try go_wp2
          refine bodyPost_ret (results_ct rfl _ _ gb269 41 #[.string (⟨#[]⟩ : ByteArray), .int .i64 0, .int .i64 0, .int .i64 0, .int .i64 0, .slice none 0 0] (0, 0) _ rfl (by (with_reducible repeat (first | refine blk_drewN ?_ _ | refine blk_drew ?_ | refine blk_alloc ?_ _)); refine blk_put (cs := #[.string (⟨#[]⟩ : ByteArray), .int .i64 0, .int .i64 0, .int .i64 0, .int .i64 0, .slice none 0 0]) ?_ 5 _ rfl; (with_reducible repeat (first | refine blk_drewN ?_ _ | refine blk_drew ?_ | refine blk_alloc ?_ _)); refine blk_put (cs := #[.string (⟨#[]⟩ : ByteArray), .int .i64 0, .int .i64 0, .int .i64 0, .int .i64 0, .slice none 0 0]) ?_ 4 _ rfl; (with_reducible repeat (first | refine blk_drewN ?_ _ | refine blk_drew ?_ | refine blk_alloc ?_ _)); refine blk_put (cs := #[.string (⟨#[]⟩ : ByteArray), .int .i64 0, .int .i64 0, .int .i64 0, .int .i64 0, .slice none 0 0]) ?_ 3 _ rfl; (with_reducible repeat (first | refine blk_drewN ?_ _ | refine blk_drew ?_ | refine blk_alloc ?_ _)); refine blk_put (cs := #[.string (⟨#[]⟩ : ByteArray), .int .i64 0, .int .i64 0, .int .i64 0, .int .i64 0, .slice none 0 0]) ?_ 2 _ rfl; (with_reducible repeat (first | refine blk_drewN ?_ _ | refine blk_drew ?_ | refine blk_alloc ?_ _)); refine blk_put (cs := #[.string (⟨#[]⟩ : ByteArray), .int .i64 0, .int .i64 0, .int .i64 0, .int .i64 0, .slice none 0 0]) ?_ 1 _ rfl; (with_reducible repeat (first | refine blk_drewN ?_ _ | refine blk_drew ?_ | refine blk_alloc ?_ _)); refine blk_put (cs := #[.string (⟨#[]⟩ : ByteArray), .int .i64 0, .int .i64 0, .int .i64 0, .int .i64 0, .slice none 0 0]) ?_ 0 _ rfl; (with_reducible repeat (first | refine blk_drewN ?_ _ | refine blk_drew ?_ | refine blk_alloc ?_ _)); refine blk_far ?_ NB269_288.out _; (with_reducible repeat (first | refine blk_drewN ?_ _ | refine blk_drew ?_ | refine blk_alloc ?_ _)); refine blk_far ?_ NB269_288.out _; (with_reducible repeat (first | refine blk_drewN ?_ _ | refine blk_drew ?_ | refine blk_alloc ?_ _)); refine blk_far ?_ NB269_288.out _; (with_reducible repeat (first | refine blk_drewN ?_ _ | refine blk_drew ?_ | refine blk_alloc ?_ _)); refine blk_far ?_ NB269_288.out _; (with_reducible repeat (first | refine blk_drewN ?_ _ | refine blk_drew ?_ | refine blk_alloc ?_ _)); refine blk_far ?_ NB269_288.out _; (with_reducible repeat (first | refine blk_drewN ?_ _ | refine blk_drew ?_ | refine blk_alloc ?_ _)); refine blk_far ?_ NB269_288.out _; (with_reducible repeat (first | refine blk_drewN ?_ _ | refine blk_drew ?_ | refine blk_alloc ?_ _)); exact BK269.out) Tryz.underlying41 rfl (by kernel_rfl)) rfl ?_
          exact ⟨_, eZ, by first | exact Kd.R_nil _ _ _ _ _ | exact Kd.N_nil _ _ _ _ _ | exact Kd.V_nil _ _ _ _ _ | exact Kd.Q_nil _ _ _ _ _ | exact Kd.S_nil _ _ _ _ _, bZ⟩
        ·rw [if_neg c12] at H
         exact absurd H (by simp)
       ·rw [if_neg c11] at H
        exact absurd H (by simp)
      ·rw [if_neg c10] at H
       exact absurd H (by simp)
     ·rw [if_neg c9] at H
      exact absurd H (by simp)
    ·rw [if_neg c8] at H
     exact absurd H (by simp)
   ·rw [if_neg c6] at H
    exact absurd H (by simp)
  ·rw [if_neg c4] at H
   exact absurd H (by simp)
 ·rw [if_neg c3] at H
  have c3b0 : ((t270.length : Int) == 3) = false := beq_eq_false_iff_ne.mpr c3
  have c3b1 : ((t270.length : Int) != 3) = true := bne_iff_ne.mpr c3
  simp only [Option.some.injEq, Prod.mk.injEq] at H
  obtain ⟨rfl, rfl, rfl, rfl, rfl, rfl, rfl⟩ := H
  go_enter Tryz.func18, Tryz.ntmps18
  go_wp2_with (first | ((with_reducible refine gate_dst (N := 2) rfl ?_); refine boxZ 2 #[.string (⟨#[]⟩ : ByteArray), .int .i64 0, .int .i64 0, .int .i64 0, .int .i64 0, .slice none 0 0] 41 rfl rfl ?_; intro gb269 hg w90 hbox hb; have n0_ := Aside0.mk (below_step bZ hb); have n1_ := Aside0.mk (hbox); have n2_ := Aside0.mk ((by rw [hg]; exact bsZ : w.heap.size ≤ gb269)); have n3_ := Aside0.mk ((by rw [hg]; exact bsZ : w.heap.size ≤ gb269)); clear HB; have HB := n0_; have BK269 := n1_; have GW269 := n2_; have GE269 := n3_; clear n0_ n1_ n2_ n3_; clear hb hbox hg) | ((with_reducible refine gate_callee (f := 31) rfl ?_); refine goesL_ (some 11) rfl rfl Tryz.func31 (by kernel_rfl) rfl #[.string a0, .string (⟨#[32]⟩ : ByteArray)] rfl gZ ?_; (with_reducible refine (strings_Split.calls a0 (⟨#[32]⟩ : ByteArray) t270 _ ?side1 A2.out).mono ?_); (case side1 => exact HSH.out.below (show Below w.heap.size w _ from bZ)); rintro e w91 ⟨v271, rfl, ho0, hb⟩; refine ⟨_, rfl, ?_⟩; have n0_ := Aside0.mk (Kd.R_lower ho0 bsZ); have n1_ := Aside0.mk (blk_below (g := gb269) (o := .cells #[.string (⟨#[]⟩ : ByteArray), .int .i64 0, .int .i64 0, .int .i64 0, .int .i64 0, .slice none 0 0] 41 (0, 0)) (kZ BK269.out) hb); have n2_ := Aside0.mk (below_step bZ hb); clear BK269; clear HB; have HO272 := n0_; have BK269 := n1_; have HB := n2_; clear n0_ n1_ n2_; (try clear hb); (try clear hb2); (try clear hk); (try clear hi); (try clear ho0); obtain ⟨Ao92, co92, eo92⟩ := Kd.R_slice HO272.out; subst eo92; have hcz93_0 := bc0 BK269.out; have hcz93_1 := bc1 BK269.out; have hcz93_2 := bc2 BK269.out; have hcz93_3 := bc3 BK269.out; have hcz93_4 := bc4 BK269.out; have hcz93_5 := bc5 BK269.out; have hfz93_0 := blk_frozen BK269.out 0; have hfz93_1 := blk_frozen BK269.out 1; have hfz93_2 := blk_frozen BK269.out 2; have hfz93_3 := blk_frozen BK269.out 3; have hfz93_4 := blk_frozen BK269.out 4; have hfz93_5 := blk_frozen BK269.out 5))
  refine bodyPost_ret (results_ct rfl _ _ gb269 41 #[.string (⟨#[]⟩ : ByteArray), .int .i64 0, .int .i64 0, .int .i64 0, .int .i64 0, .slice none 0 0] (0, 0) _ rfl (by (with_reducible repeat (first | refine blk_drewN ?_ _ | refine blk_drew ?_ | refine blk_alloc ?_ _)); refine blk_put (cs := #[.string (⟨#[]⟩ : ByteArray), .int .i64 0, .int .i64 0, .int .i64 0, .int .i64 0, .slice none 0 0]) ?_ 5 _ rfl; (with_reducible repeat (first | refine blk_drewN ?_ _ | refine blk_drew ?_ | refine blk_alloc ?_ _)); refine blk_put (cs := #[.string (⟨#[]⟩ : ByteArray), .int .i64 0, .int .i64 0, .int .i64 0, .int .i64 0, .slice none 0 0]) ?_ 4 _ rfl; (with_reducible repeat (first | refine blk_drewN ?_ _ | refine blk_drew ?_ | refine blk_alloc ?_ _)); refine blk_put (cs := #[.string (⟨#[]⟩ : ByteArray), .int .i64 0, .int .i64 0, .int .i64 0, .int .i64 0, .slice none 0 0]) ?_ 3 _ rfl; (with_reducible repeat (first | refine blk_drewN ?_ _ | refine blk_drew ?_ | refine blk_alloc ?_ _)); refine blk_put (cs := #[.string (⟨#[]⟩ : ByteArray), .int .i64 0, .int .i64 0, .int .i64 0, .int .i64 0, .slice none 0 0]) ?_ 2 _ rfl; (with_reducible repeat (first | refine blk_drewN ?_ _ | refine blk_drew ?_ | refine blk_alloc ?_ _)); refine blk_put (cs := #[.string (⟨#[]⟩ : ByteArray), .int .i64 0, .int .i64 0, .int .i64 0, .int .i64 0, .slice none 0 0]) ?_ 1 _ rfl; (with_reducible repeat (first | refine blk_drewN ?_ _ | refine blk_drew ?_ | refine blk_alloc ?_ _)); refine blk_put (cs := #[.string (⟨#[]⟩ : ByteArray), .int .i64 0, .int .i64 0, .int .i64 0, .int .i64 0, .slice none 0 0]) ?_ 0 _ rfl; (with_reducible repeat (first | refine blk_drewN ?_ _ | refine blk_drew ?_ | refine blk_alloc ?_ _)); exact BK269.out) Tryz.underlying41 rfl (by kernel_rfl)) rfl ?_
  exact ⟨_, eZ, by first | exact Kd.R_nil _ _ _ _ _ | exact Kd.N_nil _ _ _ _ _ | exact Kd.V_nil _ _ _ _ _ | exact Kd.Q_nil _ _ _ _ _ | exact Kd.S_nil _ _ _ _ _, bZ⟩
end Go.Proofs.YtlbcnflcibmifaaGreatDoor.XT
end
