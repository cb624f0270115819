/- The law FnBlocks: part 4 of its texts, joined (wip/pack.py). -/
import Derived.Test.YtnabckhhnknlaaaKFnBlocksa
import Derived.Test.YtnabckhhnknlaaaKFnBlocksb
import Derived.Test.YtnabckhhnknlaaaKFnBlocksc
import Derived.Test.YtnabckhhnknlaaaKFnBlocksd
import Derived.Deep.RegionLaw

section
namespace Go.Proofs.Ytnabckhhnknlaaa.XV
open Go.RowKit Go.Proofs.YtnabckhhnknlaaaW.PrintWords Go.Proofs.YtnabckhhnknlaaaW.PrintLast Go.Proofs.YtnabckhhnknlaaaW.PrintMore
attribute [local go_sem] run_eql_slice_nil binOp_string_gtr' binOp_string_leq' binOp_string_geq' max2_int min2_int max_two min_two max_three min_three max_four min_four   -- for this text's walks alone
set_option linter.unusedVariables false
set_option linter.unusedSimpArgs false
theorem impl_withBlock.one (b0 b1 b2 : ByteArray) : ∀ u ∈ [Value.string b0, .string b1, .string b2], u.oneCell' = true := by
  intro u hu
  simp only [List.mem_cons, List.not_mem_nil, or_false] at hu
  rcases hu with rfl | rfl | rfl <;> rfl
set_option maxHeartbeats 4000000 in
set_option maxRecDepth 100000 in
theorem impl_withBlock.ins_room (P0_ : Nat → Prop) (g c i vb : Nat) (l : List (S45)) (b : S45) (w0 w : World) (hB : Below w0.heap.size w0 w) (hR : Kd.R k45 45 w w0.heap.size P0_ (.slice (some ⟨g, 0, none⟩) l.length c) l)
    (hi : i < l.length) (hv : w.heap[vb]? = some (.cells #[.string b.f0, .string b.f1, .string b.f2] 45 (0, 0))) (hvb : vb ≠ g) (hroom : l.length + 1 ≤ c) :
    Calls Try.prog 56 #[.slice (some ⟨g, 0, none⟩) l.length c, .int .i64 i, .slice (some ⟨vb, 0, none⟩) 1 1] w fun e w' =>
      ∃ v0 : Value, e = .returned v0 ∧ Kd.R k45 45 w' w0.heap.size P0_ v0 (l.take i ++ [b] ++ l.drop i) ∧ Below w0.heap.size w0 w' := by
  obtain ⟨cur, hok, hgb, hh, _, hnc, hcm, hcs, hreps⟩ := Kd.R_unmk hR
  obtain ⟨i0, hi0, hz0, hsz0, hby0⟩ := info_parts info45
  have hcm' : c ≤ 9223372036854775807 := by unfold maxLen at hcm; omega
  have hinf : (Try.prog.info? 45).map (·.size) = some 3 := by rw [hi0]; simp [hsz0]
  have hcs3 : cur.size = c * 3 := hcs
  have hcl : cur.toList.length = c * 3 := by rw [Array.length_toList]; exact hcs
  have hinl : (cur.toList.take (l.length * 3)).length = l.length * 3 := by rw [List.length_take, hcl]; omega
  have hon : ∀ v ∈ cur.toList.take (l.length * 3), v.oneCell' = true := Kd.reps_one hreps (by decide) (fun p c hp => k45.K_one (k45.K_of_M hp))
  have hwsz := hB.size
  obtain ⟨n, hn⟩ : ∃ n, n = l.length := ⟨_, rfl⟩
  rw [← hn] at hreps hi hroom hnc hinl hon ⊢
  have s1 : ∀ W : World, (Instr.slice 25 (.slice (some ⟨g, 0, none⟩) n c) (some (.int .i64 (i : Int))) none none).run Try.prog W = .ok (.slice (some ⟨g, i * 3, none⟩) (n - i) (c - i)) W := fun W => run_cut_l W _ _ .i64 Try.underlying25 hi0 hsz0 g n c i (by omega) (by omega)
  have s2 : ∀ W : World, (Instr.slice 25 (.slice (some ⟨g, 0, none⟩) n c) none (some (.int .i64 ((n : Int) + 1))) none).run Try.prog W = .ok (.slice (some ⟨g, 0, none⟩) (n + 1) c) W := fun W => run_cut_h W _ _ .i64 Try.underlying25 hi0 g n c (n + 1) (by omega)
  have s3 : ∀ W : World, (Instr.slice 25 (.slice (some ⟨g, 0, none⟩) (n + 1) c) (some (.int .i64 ((i : Int) + 1))) none none).run Try.prog W = .ok (.slice (some ⟨g, (i + 1) * 3, none⟩) (n + 1 - (i + 1)) (c - (i + 1))) W := fun W => run_cut_l W _ _ .i64 Try.underlying25 hi0 hsz0 g (n + 1) c (i + 1) (by omega) (by omega)
  have s4 : ∀ W : World, (Instr.slice 25 (.slice (some ⟨g, 0, none⟩) (n + 1) c) (some (.int .i64 (i : Int))) none none).run Try.prog W = .ok (.slice (some ⟨g, i * 3, none⟩) (n + 1 - i) (c - i)) W := fun W => run_cut_l W _ _ .i64 Try.underlying25 hi0 hsz0 g (n + 1) c i (by omega) (by omega)
  have hov : ∀ lb cb, (callFunc 64 #[.slice (some ⟨vb, 0, none⟩) 1 1, .slice (some ⟨g, (i + 1) * 3, none⟩) lb cb]).run Try.prog w = .ok (.value (.bool false)) w := fun lb cb => by
    rw [run_callFunc_extern Try.func64 (by kernel_rfl) (by kernel_rfl) (by kernel_rfl) (e := Extern.SlicesOverlaps.overlaps #[25, 25] #[4]) (by kernel_rfl),
      Lib.run_overlaps_apart w 25 4 45 Try.underlying25 3 (fun W => by simp [sizeOf, typeInfo, hi0, hsz0]) ⟨vb, 0, none⟩ ⟨g, (i + 1) * 3, none⟩ 1 1 lb cb hvb 45 45 3 cur.size (by simp [World.shape?, hv]) (by simp [World.shape?, hh]) (by omega) (by simp [World.frozen?, hv]) (by simp [World.frozen?, hv])]
    rfl
  obtain ⟨X, hX⟩ : ∃ X, X = (cur.toList.take (n * 3)).drop (i * 3) := ⟨_, rfl⟩
  have hXl : X.length = (n - i) * 3 := by rw [hX, List.length_drop, hinl]; omega
  obtain ⟨L1, hL1⟩ : ∃ L1, L1 = cur.toList.take ((i + 1) * 3) ++ X ++ cur.toList.drop ((i + 1) * 3 + X.length) := ⟨_, rfl⟩
  have hL1l : L1.length = cur.size := by rw [hL1, put_len _ _ _ (by rw [hXl, hcl]; omega), hcl, hcs3]
  have hL2 := insert_cells cur.toList [Value.string b.f0, .string b.f1, .string b.f2] (i * 3) (n * 3) 3 (by omega) (by rw [hcl]; omega) rfl
  have hcp1 : ∀ (W : World), W.heap[g]? = some (.cells cur 45 (0, 0)) → ∀ ty dc sc, (Builtin.copy_ #[25, 25] ty #[.slice (some ⟨g, (i + 1) * 3, none⟩) (n - i) dc, .slice (some ⟨g, i * 3, none⟩) (n + 1 - i) sc]).run Try.prog W = .ok (goInt (n - i : Nat)) (W.setRow g L1.toArray) := fun W hW ty dc sc => by
    rw [hL1]
    exact run_copy_row_sz W _ _ ty 45 g ((i + 1) * 3) (n - i) dc ⟨g, i * 3, none⟩ (n + 1 - i) sc (n - i) 3 cur 45 X Try.underlying25 hinf hW (by simp only [Nat.min_def]; split <;> omega) hXl
      (blk_src hW X (fun j v hj => by
        rw [hX, List.getElem?_drop, List.getElem?_take] at hj
        split at hj
        · simpa using hj
        · cases hj)) (by rw [hXl]; omega) (fun v hv => hon v (by rw [hX] at hv; exact List.mem_of_mem_drop hv))
  have hcp2 : ∀ (W : World), W.heap[g]? = some (.cells L1.toArray 45 (0, 0)) → W.heap[vb]? = some (.cells #[.string b.f0, .string b.f1, .string b.f2] 45 (0, 0)) → ∀ ty dc, (Builtin.copy_ #[25, 25] ty #[.slice (some ⟨g, i * 3, none⟩) (n + 1 - i) dc, .slice (some ⟨vb, 0, none⟩) 1 1]).run Try.prog W = .ok (goInt (1 : Nat)) (W.setRow g (L1.take (i * 3) ++ [Value.string b.f0, .string b.f1, .string b.f2] ++ L1.drop (i * 3 + 3)).toArray) := fun W hW hWv ty dc =>
    run_copy_row_sz W _ _ ty 45 g (i * 3) (n + 1 - i) dc ⟨vb, 0, none⟩ 1 1 1 3 L1.toArray 45 [Value.string b.f0, .string b.f1, .string b.f2] Try.underlying25 hinf hW (by simp only [Nat.min_def]; split <;> omega) rfl
      (blk_src hWv _ (fun j v hj => by simpa using hj)) (by simp; omega) (impl_withBlock.one _ _ _)
  have HW1 := Aside0.mk hL1
  have HX := Aside0.mk hX
  have HXl := Aside0.mk hXl
  have HL1l := Aside0.mk hL1l
  have HL2 := Aside0.mk hL2
  have HB := Aside0.mk hB
  have HR := Aside0.mk hreps
  have HH := Aside0.mk hh
  have HV := Aside0.mk hv
  have HN := Aside0.mk hn
  have HC := Aside0.mk hcs3
  have HOK := Aside0.mk hok
  have HON := Aside0.mk hon
  have HSZ := Aside0.mk hwsz
  have hz2 : ¬ ((i : Int) = (n : Int)) := by omega
  have hz3 : ¬ ((c : Int) < (n : Int) + 1) := by omega
  clear hL1 hX hXl hL1l hL2 hB hreps hh hv hn hcs3 hcs hok hon hinl hcl hwsz hR hcm hinf hi0 hz0 hsz0 hby0
  go_enter Try.func56, Try.ntmps56
  go_wp2_with (simp only [hov])
  have hw1 : IntKind.i64.wrap ((i : Int) + 1) = (i : Int) + 1 := by rw [IntKind.wrap_i64]; omega
  have hb1 : (0 : Int) ≤ (i : Int) + 1 := by omega
  have hb2 : (i : Int) + 1 ≤ (n : Int) + 1 := by omega
  have hb3 : (i : Int) ≤ (n : Int) + 1 := by omega
  have htn : ((i : Int) + 1).toNat = i + 1 := by omega
  have hb4 : ¬ (c = i + 1) := by omega
  have hb5 : ¬ (c = i) := by omega
  have hin : i ≤ n := by omega
  go_region_law (go_loud (refine step_copy_ rfl _ _ 25 25 rfl (.slice (some ⟨g, (i + 1) * 3, none⟩) (n - i) (c - (i + 1))) (.slice (some ⟨g, i * 3, none⟩) (n + 1 - i) (c - i)) (by simp [Act.eval, Act.put]) (by simp [Act.eval, Act.put]) (hcp1 w.drew HH.out _ _ _) ?_))
  clear hw1 hb1 hb2 hb3 htn hb4 hb5 hin
  go_wp2_with ((with_reducible refine gate_builtin (b := .copy) (xs := #[.tmp 80, .tmp 81]) rfl ?_); go_loud (refine wpList_copy_ _ rfl _ _ 25 25 rfl _ _ rfl rfl (hcp2 (w.drew.setRow g L1.toArray) (setRow_heap w.drew g cur _ _ _ HH.out) ((setRow_other w.drew g vb _ hvb).trans HV.out) _ _) ?_))
  go_ret
  have e3 : (n + 1) * 3 = n * 3 + 3 := by omega
  have e4 : (i + 1) * 3 = i * 3 + 3 := by omega
  refine ⟨.slice (some ⟨g, 0, none⟩) (n + 1) c, rfl, ?_, ?_⟩
  · rw [setRow_setRow]
    refine Kd.R_mk k45 HOK.out hgb (setRow_heap w.drew g cur _ _ _ HH.out) (by have := HN.out; simp; omega) hroom (by unfold maxLen; omega) ?_ ?_
    · have h1 := put_len L1 [Value.string b.f0, .string b.f1, .string b.f2] (i * 3) (by simp; have := HL1l.out; have := HC.out; omega)
      simp only [List.append_assoc, List.cons_append, List.nil_append, List.length_cons, List.length_nil] at h1
      rw [List.size_toArray, h1, HL1l.out]
      exact HC.out
    · have h2 := HL2.out
      rw [← HX.out, ← e4, ← HW1.out] at h2
      show Reps _ 3 _ (List.take ((n + 1) * 3) _)
      rw [List.toList_toArray, e3]
      simp only [List.append_assoc, List.cons_append, List.nil_append, List.length_cons, List.length_nil] at h2 ⊢
      rw [h2]
      have h3 := reps_insert (HR.out.imp_ (R' := k45.M ((w.drew.setRow g (L1.take (i * 3) ++ Value.string b.f0 :: Value.string b.f1 :: Value.string b.f2 :: L1.drop (i * 3 + 3)).toArray)) w0.heap.size (fun k => P0_ k ∧ some k ≠ (Value.slice (some ⟨g, 0, none⟩) (n + 1) c).ownBlock)) (fun p c hp => by obtain rfl := k45_openM hp; exact k45_mkM _ _ _ _)) (k45_mkM _ _ _ b) rfl i (by have := HN.out; omega)
      rw [HX.out]
      simp only [List.append_assoc, List.cons_append, List.nil_append] at h3 ⊢
      exact h3
  · exact HB.out.grown (row := some g) ⟨rfl, rfl, rfl, by rw [setRow_size, setRow_size]; exact Nat.le_refl _, fun k hk hne => by
      have hne' : k ≠ g := fun e => hne (by rw [e])
      rw [setRow_other _ _ _ _ hne', setRow_other _ _ _ _ hne']; rfl⟩ HSZ.out (fun k hk => by injection hk with hk; omega)
set_option maxHeartbeats 4000000 in
set_option maxRecDepth 100000 in
theorem impl_withBlock.ins_grow (P0_ : Nat → Prop) (g c i vb : Nat) (l : List (S45)) (b : S45) (w0 w : World) (hB : Below w0.heap.size w0 w) (hR : Kd.R k45 45 w w0.heap.size P0_ (.slice (some ⟨g, 0, none⟩) l.length c) l) (hfresh : ∀ k, w.heap.size ≤ k → P0_ k)
    (hi : i < l.length) (hv : w.heap[vb]? = some (.cells #[.string b.f0, .string b.f1, .string b.f2] 45 (0, 0))) (hroom : ¬ (l.length + 1 ≤ c)) (hbig : (l.length + 1) * 48 ≤ 140737488355328) :
    Calls Try.prog 56 #[.slice (some ⟨g, 0, none⟩) l.length c, .int .i64 i, .slice (some ⟨vb, 0, none⟩) 1 1] w fun e w' =>
      ∃ v0 : Value, e = .returned v0 ∧ Kd.R k45 45 w' w0.heap.size P0_ v0 (l.take i ++ [b] ++ l.drop i) ∧ Below w0.heap.size w0 w' := by
  obtain ⟨cur, hok, hgb, hh, _, hnc, hcm, hcs, hreps⟩ := Kd.R_unmk hR
  obtain ⟨i0, hi0, hz0, hsz0, hby0⟩ := info_parts info45
  have hcm' : c ≤ 9223372036854775807 := by unfold maxLen at hcm; omega
  have hinf : (Try.prog.info? 45).map (·.size) = some 3 := by rw [hi0]; simp [hsz0]
  have hcs3 : cur.size = c * 3 := hcs
  have hcl : cur.toList.length = c * 3 := by rw [Array.length_toList]; exact hcs
  have hinl : (cur.toList.take (l.length * 3)).length = l.length * 3 := by rw [List.length_take, hcl]; omega
  have hon : ∀ v ∈ cur.toList.take (l.length * 3), v.oneCell' = true := Kd.reps_one hreps (by decide) (fun p c hp => k45.K_one (k45.K_of_M hp))
  have hwsz := hB.size
  have hgw : g < w.heap.size := (Array.getElem?_eq_some_iff.1 hh).1
  have hvw : vb < w.heap.size := (Array.getElem?_eq_some_iff.1 hv).1
  obtain ⟨n, hn⟩ : ∃ n, n = l.length := ⟨_, rfl⟩
  rw [← hn] at hreps hi hroom hnc hinl hon hbig ⊢
  obtain ⟨N, hN⟩ : ∃ N, N = w.heap.size := ⟨_, rfl⟩
  obtain rfl : c = n := by omega
  obtain ⟨G, hG⟩ : ∃ G, G = grownCap w (c + 1) c 45 := ⟨_, rfl⟩
  have hGn : c + 1 ≤ G := by rw [hG]; exact grownCap_ge w _ _ _
  have hGm : G ≤ maxLen := by rw [hG]; exact grownCap_le_maxLen w (c + 1) c 45 (by unfold maxLen; omega)
  have hGm' : G ≤ 9223372036854775807 := by unfold maxLen at hGm; omega
  have hol : ((cur.toList.take (c * 3)).take (i * 3)).length = i * 3 := by rw [List.length_take, hinl]; omega
  have hold : (Builtin.firstCells i0.size i (.slice (some ⟨g, 0, none⟩) i c)).run Try.prog w.drew = .ok ((cur.toList.take (c * 3)).take (i * 3)).toArray w.drew := by
    rw [hsz0]
    exact run_firstCells_some w.drew 3 i ⟨g, 0, none⟩ i c _ hol (blk_src (w := w.drew) hh _ (fun j v hj => by
      rw [List.getElem?_take] at hj
      split at hj
      · rw [List.getElem?_take] at hj
        split at hj
        · simpa using hj
        · cases hj
      · cases hj))
  have hkk : (c : Int) + 1 - (i : Int) = ((c + 1 - i : Nat) : Int) := by omega
  obtain ⟨ROW, hROW⟩ : ∃ ROW : Array Value, ROW = ((cur.toList.take (c * 3)).take (i * 3)).toArray ++ Builtin.zeroCells (Value.agg #[.string ⟨#[]⟩, .string ⟨#[]⟩, .string ⟨#[]⟩]).cells (c + 1 - i) ++ Builtin.zeroCells (Value.agg #[.string ⟨#[]⟩, .string ⟨#[]⟩, .string ⟨#[]⟩]).cells (G - (c + 1)) := ⟨_, rfl⟩
  have hrz : ∀ ty, (Builtin.append_ #[25, 3] ty #[.slice (some ⟨g, 0, none⟩) i c, .int .i64 ((c : Int) + 1 - (i : Int))]).run Try.prog w =
      .ok (.slice (some ⟨w.heap.size, 0, none⟩) (c + 1) G) (w.drew.alloc (.cells ROW 45)) := fun ty => by
    have h := Lib.run_append_grow_zeros w 25 3 ty 45 i0 _ .i64 .i64 Try.underlying25 Try.underlying3 hi0 hz0 (some ⟨g, 0, none⟩) i c _ hold (c + 1 - i) (by omega) (by omega) (by omega) (by omega) (by rw [hby0]; omega) (by rw [hby0, show i + (c + 1 - i) = c + 1 by omega]; exact growslice_fits (by omega) (by omega))
    rw [show i + (c + 1 - i) = c + 1 by omega, ← hG, ← hROW] at h
    rw [hkk]
    exact h
  have hRl : ROW.size = G * 3 := by
    rw [hROW, Array.size_append, Array.size_append, List.size_toArray, hol]
    simp [Builtin.zeroCells, Value.cells]
    omega
  have hRt : ROW.toList.take (i * 3) = (cur.toList.take (c * 3)).take (i * 3) := by
    rw [hROW, Array.toList_append, Array.toList_append, List.append_assoc, List.toList_toArray]
    exact List.take_left' hol
  clear hROW hG
  obtain ⟨X, hX⟩ : ∃ X, X = (cur.toList.take (c * 3)).drop (i * 3) := ⟨_, rfl⟩
  have hXl : X.length = (c - i) * 3 := by rw [hX, List.length_drop, hinl]; omega
  have hRtl : ROW.toList.length = G * 3 := by rw [Array.length_toList]; exact hRl
  obtain ⟨L1, hL1⟩ : ∃ L1, L1 = ROW.toList.take (i * 3) ++ [Value.string b.f0, .string b.f1, .string b.f2] ++ ROW.toList.drop (i * 3 + 3) := ⟨_, rfl⟩
  have hL1l : L1.length = G * 3 := by
    have h := put_len ROW.toList [Value.string b.f0, .string b.f1, .string b.f2] (i * 3) (by rw [hRtl]; simp; omega)
    rw [hL1]; exact h.trans hRtl
  obtain ⟨L2, hL2⟩ : ∃ L2, L2 = L1.take ((i + 1) * 3) ++ X ++ L1.drop ((i + 1) * 3 + X.length) := ⟨_, rfl⟩
  have hL2l : L2.length = G * 3 := by rw [hL2, put_len _ _ _ (by rw [hXl, hL1l]; omega), hL1l]
  have e3 : (c + 1) * 3 = c * 3 + 3 := by omega
  have e4 : (i + 1) * 3 = i * 3 + 3 := by omega
  have hL2t : L2.take ((c + 1) * 3) = (cur.toList.take (c * 3)).take (i * 3) ++ [Value.string b.f0, .string b.f1, .string b.f2] ++ (cur.toList.take (c * 3)).drop (i * 3) := by
    have h := insert_cells2 ROW.toList [Value.string b.f0, .string b.f1, .string b.f2] X (i * 3) (c * 3) 3 (by omega) (by rw [hXl]; omega) (by rw [hRtl]; omega) rfl
    rw [hL2, hL1, e3, e4, ← hX, ← hRt]
    exact h
  have s1 : ∀ W : World, (Instr.slice 25 (.slice (some ⟨g, 0, none⟩) c c) (some (.int .i64 (i : Int))) none none).run Try.prog W = .ok (.slice (some ⟨g, i * 3, none⟩) (c - i) (c - i)) W := fun W => run_cut_l W _ _ .i64 Try.underlying25 hi0 hsz0 g c c i (by omega) (by omega)
  have s2 : ∀ W : World, (Instr.slice 25 (.slice (some ⟨g, 0, none⟩) c c) none (some (.int .i64 (i : Int))) none).run Try.prog W = .ok (.slice (some ⟨g, 0, none⟩) i c) W := fun W => run_cut_h W _ _ .i64 Try.underlying25 hi0 g c c i (by omega)
  have s3 : ∀ W : World, (Instr.slice 25 (.slice (some ⟨N, 0, none⟩) (c + 1) G) (some (.int .i64 (i : Int))) none none).run Try.prog W = .ok (.slice (some ⟨N, i * 3, none⟩) (c + 1 - i) (G - i)) W := fun W => run_cut_l W _ _ .i64 Try.underlying25 hi0 hsz0 N (c + 1) G i (by omega) (by omega)
  have hcpA : ∀ (W : World), W.heap[N]? = some (.cells ROW 45 (0, 0)) → W.heap[vb]? = some (.cells #[.string b.f0, .string b.f1, .string b.f2] 45 (0, 0)) → ∀ ty dc, (Builtin.copy_ #[25, 25] ty #[.slice (some ⟨N, i * 3, none⟩) (c + 1 - i) dc, .slice (some ⟨vb, 0, none⟩) 1 1]).run Try.prog W = .ok (goInt (1 : Nat)) (W.setRow N L1.toArray) := fun W hW hWv ty dc => by
    rw [hL1]
    exact run_copy_row_sz W _ _ ty 45 N (i * 3) (c + 1 - i) dc ⟨vb, 0, none⟩ 1 1 1 3 ROW 45 [Value.string b.f0, .string b.f1, .string b.f2] Try.underlying25 hinf hW (by simp only [Nat.min_def]; split <;> omega) rfl
      (blk_src hWv _ (fun j v hj => by simpa using hj)) (by simp; omega) (impl_withBlock.one _ _ _)
  have hcpB : ∀ (W : World), W.heap[N]? = some (.cells L1.toArray 45 (0, 0)) → W.heap[g]? = some (.cells cur 45 (0, 0)) → ∀ ty dc sc, (Builtin.copy_ #[25, 25] ty #[.slice (some ⟨N, (i + 1) * 3, none⟩) (c - i) dc, .slice (some ⟨g, i * 3, none⟩) (c - i) sc]).run Try.prog W = .ok (goInt (c - i : Nat)) (W.setRow N L2.toArray) := fun W hW hWg ty dc sc => by
    rw [hL2]
    exact run_copy_row_sz W _ _ ty 45 N ((i + 1) * 3) (c - i) dc ⟨g, i * 3, none⟩ (c - i) sc (c - i) 3 L1.toArray 45 X Try.underlying25 hinf hW (by simp only [Nat.min_def]; split <;> omega) hXl
      (blk_src hWg X (fun j v hj => by
        rw [hX, List.getElem?_drop, List.getElem?_take] at hj
        split at hj
        · simpa using hj
        · cases hj)) (by rw [hXl, List.size_toArray, hL1l]; omega) (fun v hv => hon v (by rw [hX] at hv; exact List.mem_of_mem_drop hv))
  have hnew : (w.drew.alloc (.cells ROW 45)).heap[N]? = some (.cells ROW 45 (0, 0)) := by
    show (w.heap.push _)[N]? = _
    rw [hN, Array.getElem?_push, if_pos rfl]
  have hold1 : ∀ k, k < N → (w.drew.alloc (.cells ROW 45)).heap[k]? = w.heap[k]? := by
    intro k hk
    rw [hN] at hk
    show (w.heap.push _)[k]? = _
    rw [Array.getElem?_push, if_neg (by omega)]
  rw [← hN] at hgw hvw hrz
  have HV := Aside0.mk ((hold1 vb hvw).trans hv)
  have HG := Aside0.mk ((hold1 g hgw).trans hh)
  have HNW := Aside0.mk hnew
  have HA := Aside0.mk (show Below w0.heap.size w0 (w.drew.alloc (.cells ROW 45)) from below_alloc (below_drew1 hB) _)
  have HAS := Aside0.mk (show w.heap.size ≤ (w.drew.alloc (.cells ROW 45)).heap.size by show _ ≤ (w.heap.push _).size; rw [Array.size_push]; omega)
  have HL2l := Aside0.mk hL2l
  have HL2t := Aside0.mk hL2t
  have HR := Aside0.mk hreps
  have HB := Aside0.mk hB
  have HN := Aside0.mk hn
  have HF := Aside0.mk (hfresh N (by omega))
  have HNN := Aside0.mk hN
  have HSZ := Aside0.mk hwsz
  have hz2 : ¬ ((i : Int) = (c : Int)) := by omega
  have hz3 : ((c : Int) < (c : Int) + 1) := by omega
  have hvN : vb ≠ N := by omega
  have hgN : g ≠ N := by omega
  clear hL1 hX hXl hL1l hL2 hL2l hL2t hB hreps hh hv hn hcs3 hcs hok hon hinl hcl hwsz hR hcm hinf hi0 hz0 hsz0 hby0 hnew hold1 hfresh hRl hRt hRtl hN hol hold hkk hGm hroom hbig e3 e4
  generalize w.drew.alloc (.cells ROW 45) = WA at *
  go_enter Try.func56, Try.ntmps56
  go_wp2_with (first
    | ((with_reducible refine gate_builtin (b := .append) (xs := #[.tmp 34, .tmp 39]) rfl ?_); go_loud (refine Lib.wpList_append_run _ rfl _ _ _ _ rfl _ _ rfl rfl _ _ (hrz _) ?_))
    | ((with_reducible refine gate_builtin (b := .copy) (xs := #[.tmp 43, .tmp 44]) rfl ?_); go_loud (refine wpList_copy_ _ rfl _ _ 25 25 rfl _ _ rfl rfl (hcpA _ HNW.out HV.out _ _) ?_)))
  have hw1 : IntKind.i64.wrap ((i : Int) + 1) = (i : Int) + 1 := by rw [IntKind.wrap_i64]; omega
  have hb1 : (0 : Int) ≤ (i : Int) + 1 := by omega
  have hb2 : (i : Int) + 1 ≤ (c : Int) + 1 := by omega
  have hb3 : (i : Int) ≤ (c : Int) := by omega
  have htn : ((i : Int) + 1).toNat = i + 1 := by omega
  have hb4 : ¬ (G = i + 1) := by omega
  have hb5 : ¬ (c = i) := by omega
  have hin : i ≤ c := by omega
  go_region_law (go_loud (refine step_copy_ rfl _ _ 25 25 rfl (.slice (some ⟨N, (i + 1) * 3, none⟩) (c - i) (G - (i + 1))) (.slice (some ⟨g, i * 3, none⟩) (c - i) (c - i)) (by simp [Act.eval, Act.put]) (by simp [Act.eval, Act.put]) (hcpB (WA.setRow N L1.toArray).drew (setRow_heap WA N ROW _ _ _ HNW.out) ((setRow_other WA N g _ hgN).trans HG.out) _ _ _) ?_))
  go_wp2
  go_ret
  have e3 : (c + 1) * 3 = c * 3 + 3 := by omega
  refine ⟨.slice (some ⟨N, 0, none⟩) (c + 1) G, rfl, ?_, ?_⟩
  · refine Kd.R_mk k45 HF.out (by have := HSZ.out; have := HNN.out; omega) (setRow_heap _ N L1.toArray L2.toArray _ _ (setRow_heap WA N ROW _ _ _ HNW.out)) (by have := HN.out; simp; omega) hGn (by unfold maxLen; omega) (by rw [List.size_toArray, HL2l.out]; rfl) ?_
    show Reps _ 3 _ (List.take ((c + 1) * 3) _)
    rw [List.toList_toArray, HL2t.out]
    have h3 := reps_insert (HR.out.imp_ (R' := k45.M ((WA.setRow N L1.toArray).drew.setRow N L2.toArray) w0.heap.size (fun k => P0_ k ∧ some k ≠ (Value.slice (some ⟨N, 0, none⟩) (c + 1) G).ownBlock)) (fun p c hp => by obtain rfl := k45_openM hp; exact k45_mkM _ _ _ _)) (k45_mkM _ _ _ b) rfl i (by have := HN.out; omega)
    exact h3
  · have hA := HA.out
    refine hA.grown (row := some N) ⟨rfl, rfl, rfl, by rw [setRow_size]; exact Nat.le_of_eq (setRow_size _ _ _).symm, fun k hk hne => ?_⟩ (Nat.le_trans HSZ.out ?_) (fun k hk => by injection hk with hk; have := HSZ.out; have := HNN.out; omega)
    · have hne' : k ≠ N := fun e => hne (by rw [e])
      rw [setRow_other _ _ _ _ hne']
      exact setRow_other _ _ _ _ hne'
    · exact HAS.out
set_option maxHeartbeats 4000000 in
set_option maxRecDepth 100000 in
theorem impl_withBlock.ins_end (P0_ : Nat → Prop) (A : Option Addr) (c vb : Nat) (l : List (S45)) (b : S45) (w0 w : World) (hB : Below w0.heap.size w0 w) (hR : Kd.R k45 45 w w0.heap.size P0_ (.slice A l.length c) l) (hfresh : ∀ k, w.heap.size ≤ k → P0_ k)
    (hv : w.heap[vb]? = some (.cells #[.string b.f0, .string b.f1, .string b.f2] 45 (0, 0))) (hbig : (l.length + 1) * 48 ≤ 140737488355328) :
    Calls Try.prog 56 #[.slice A l.length c, .int .i64 (l.length : Int), .slice (some ⟨vb, 0, none⟩) 1 1] w fun e w' =>
      ∃ v0 : Value, e = .returned v0 ∧ Kd.R k45 45 w' w0.heap.size P0_ v0 (l ++ [b]) ∧ Below w0.heap.size w0 w' := by
  have hsrc : ReadsRow (fun (x : S45) cs => cs = [Value.string x.f0, .string x.f1, .string x.f2]) 3 w (some ⟨vb, 0, none⟩) 1 [b] := by
    refine ⟨rfl, by omega, fun _ => ⟨_, rfl, fun j p hj => ?_⟩⟩
    have hj0 : j = 0 := by
      have := (List.getElem?_eq_some_iff.1 hj).1
      simpa using this
    subst hj0
    obtain rfl : b = p := by simpa using hj
    refine ⟨_, rfl, rfl, fun q u hq => ?_⟩
    rw [Nat.zero_mul, Nat.zero_add]
    exact blk_src hv [Value.string b.f0, .string b.f1, .string b.f2] (fun j v h => by simpa using h) q u hq
  have hKM : ∀ (x : S45) cs, cs = [Value.string x.f0, .string x.f1, .string x.f2] → k45.M w w0.heap.size (fun _ => False) x cs := fun x cs h => by subst h; exact k45_mkM _ _ _ _
  obtain ⟨_, hnc, hC⟩ := Kd.R_reads' hR
  have hmax := hC.2.1
  have HS := Aside0.mk hsrc
  have HKM := Aside0.mk hKM
  have HR := Aside0.mk hR
  have HB := Aside0.mk hB
  have HF := Aside0.mk hfresh
  have HBIG := Aside0.mk hbig
  clear hsrc hKM hR hB hfresh hv hbig hC
  obtain ⟨n, hn⟩ : ∃ n, n = l.length := ⟨_, rfl⟩
  have HN := Aside0.mk hn
  rw [← hn] at HR HBIG hnc hmax ⊢
  clear hn
  go_enter Try.func56, Try.ntmps56
  go_wp2_with ((with_reducible refine gate_builtin (b := .append) (xs := #[.tmp 23, .tmp 24]) rfl ?_); go_loud (refine Kd.R_append_rows k45 (w0 := w0) w0.heap.size rfl (.tmp 23) (.tmp 24) 25 45 (.agg #[(.string ⟨#[]⟩), (.string ⟨#[]⟩), (.string ⟨#[]⟩)]) 48 rfl Try.underlying25 info45 rfl (by decide) (by omega) (.slice A n c) l [b] (some ⟨vb, 0, none⟩) 1 1 P0_ (fun _ => False) rfl rfl HR.out HS.out HKM.out (fun _ h => h.elim) HF.out HB.out HB.out.size (by rw [← HN.out]; exact HBIG.out) ?_); intro v1 w1 ho hb hg hat; have HO1 := Aside0.mk ho; have HB1 := Aside0.mk hb; clear ho hb hg hat)
  all_goals go_ret
  all_goals exact ⟨_, rfl, HO1.out, HB1.out⟩
def impl_withBlock.f (k : Nat) (l0 : List (S45)) (a1_0 : ByteArray) (a1_1 : ByteArray) (a1_2 : ByteArray) : Option (List (S45)) := (slices_BinarySearchFunc_BlockS.f k l0 a1_0 a1_1 a1_2).bind fun b => if 0 ≤ b.1 ∧ b.1 ≤ (l0.length : Int) ∧ l0.length < 2932031007400 then (if b.2 = true then (if b.1 < (l0.length : Int) then some (l0.set b.1.toNat ⟨a1_0, a1_1, a1_2⟩) else none) else some (l0.take b.1.toNat ++ [⟨a1_0, a1_1, a1_2⟩] ++ l0.drop b.1.toNat)) else none
theorem impl_withBlock.ins_any (P0_ : Nat → Prop) (A : Option Addr) (c i vb : Nat) (l : List (S45)) (b : S45) (w0 w : World) (hB : Below w0.heap.size w0 w) (hR : Kd.R k45 45 w w0.heap.size P0_ (.slice A l.length c) l) (hfresh : ∀ k, w.heap.size ≤ k → P0_ k)
    (hi : i ≤ l.length) (hv : w.heap[vb]? = some (.cells #[.string b.f0, .string b.f1, .string b.f2] 45 (0, 0))) (hvb : ∀ g, (Value.slice A l.length c).ownBlock = some g → vb ≠ g) (hbig : (l.length + 1) * 48 ≤ 140737488355328) :
    Calls Try.prog 56 #[.slice A l.length c, .int .i64 (i : Int), .slice (some ⟨vb, 0, none⟩) 1 1] w fun e w' =>
      ∃ v0 : Value, e = .returned v0 ∧ Kd.R k45 45 w' w0.heap.size P0_ v0 (l.take i ++ [b] ++ l.drop i) ∧ Below w0.heap.size w0 w' := by
  by_cases he : i = l.length
  · subst he
    rw [List.take_length, List.drop_length, List.append_nil]
    exact impl_withBlock.ins_end P0_ A c vb l b w0 w hB hR hfresh hv hbig
  · obtain ⟨g, c', hs, _⟩ := Kd.R_form hR (by omega)
    injection hs with h1 h2 h3
    subst h1; subst h3
    by_cases hroom : l.length + 1 ≤ c
    · exact impl_withBlock.ins_room P0_ g c i vb l b w0 w hB hR (by omega) hv (hvb g (by simp [Value.ownBlock])) hroom
    · exact impl_withBlock.ins_grow P0_ g c i vb l b w0 w hB hR hfresh (by omega) hv hroom hbig
set_option maxHeartbeats 4000000 in
set_option maxRecDepth 100000 in
theorem impl_withBlock.calls (k : Nat) (A0 : Option Addr) (c0 : Nat) (l0 : List (S45)) (a1_0 : ByteArray) (a1_1 : ByteArray) (a1_2 : ByteArray) (r : List (S45)) (w : World) (hr0 : Kd.C k45 w A0 l0.length l0) (hc0 : l0.length ≤ c0) (h : impl_withBlock.f k l0 a1_0 a1_1 a1_2 = some r) :
    Calls Try.prog 46 #[.slice A0 l0.length c0, .agg #[.string a1_0, .string a1_1, .string a1_2]] w fun e w' => ∃ v0_ : Value, e = .returned (v0_) ∧ Kd.R k45 45 w' w.heap.size (fun _ => True) v0_ r ∧ Below w.heap.size w w' := by
  unfold impl_withBlock.f at h
  replace h := Option.bind_eq_some_iff.mp h
  obtain ⟨⟨t1, t2⟩, hs0, h⟩ := h
  simp only at h
  by_cases hc : 0 ≤ t1 ∧ t1 ≤ (l0.length : Int) ∧ l0.length < 2932031007400
  rotate_left
  · rw [if_neg hc] at h
    cases h
  rw [if_pos hc] at h
  obtain ⟨h0, h1, hbig⟩ := hc
  obtain ⟨i, rfl⟩ : ∃ i : Nat, t1 = (i : Int) := ⟨t1.toNat, by omega⟩
  rw [Int.toNat_natCast] at h
  have hcl0 : slices_Clone_BlockS.f l0 = some l0 := by
    unfold slices_Clone_BlockS.f
    simp only [Option.bind_some, List.nil_append, List.length_nil, Nat.zero_add]
    rw [if_pos (by omega)]
  have HR0 := Aside0.mk hr0
  have HC0 := Aside0.mk hc0
  have HS := Aside0.mk hs0
  have HCL := Aside0.mk hcl0
  have HL := Aside0.mk hbig
  have hB0 := below_alloc (Below.refl w.heap.size w) (.cells #[.string a1_0, .string a1_1, .string a1_2] 45)
  have hbox : (w.alloc (.cells #[.string a1_0, .string a1_1, .string a1_2] 45)).heap[w.heap.size]? = some (.cells #[.string a1_0, .string a1_1, .string a1_2] 45 (0, 0)) := by
    show (w.heap.push _)[w.heap.size]? = _
    rw [Array.getElem?_push, if_pos rfl]
  have HBX := Aside0.mk hbox
  have HB := Aside0.mk hB0
  clear hr0 hc0 hs0 hcl0 hB0 hbox hbig h0
  cases t2 with
  | true =>
    simp only [if_true] at h
    have hlt : i < l0.length := by
      by_cases hlt : (i : Int) < (l0.length : Int)
      · omega
      · rw [if_neg hlt] at h; cases h
    rw [if_pos (by omega)] at h
    obtain rfl := Option.some.inj h
    clear h h1
    go_enter Try.func46, Try.ntmps46
    go_wp2_with (first
      | ((with_reducible refine gate_callee (f := 40) rfl ?_); go_loud (refine goesL_ (some 11) rfl rfl Try.func40 (by kernel_rfl) rfl #[.slice A0 l0.length c0, .agg #[.string a1_0, .string a1_1, .string a1_2], .func (.func 37) #[] #[]] rfl (by (try simp only [List.map_toArray, List.map_cons, List.map_nil]); first | done | rfl) ?_); (with_reducible refine (slices_BinarySearchFunc_BlockS.calls k _ _ l0 a1_0 a1_1 a1_2 (i : Int) true _ ?side1 HC0.out HS.out).mono ?_); (case side1 => exact Kd.C_below HR0.out HB.out); rintro e w1 ⟨rfl, hb⟩; refine ⟨_, rfl, ?_⟩; have HBX1 := Aside0.mk (blk_below HBX.out hb); have HB1 := Aside0.mk (below_step HB.out hb); clear HBX HB; have HBX := HBX1; have HB := HB1; clear HBX1 HB1 hb)
      | ((with_reducible refine gate_callee (f := 43) rfl ?_); go_loud (refine goesL_ (some 15) rfl rfl Try.func43 (by kernel_rfl) rfl #[.slice A0 l0.length c0] rfl (by (try simp only [List.map_toArray, List.map_cons, List.map_nil]); first | done | rfl) ?_); (with_reducible refine (slices_Clone_BlockS.calls _ _ l0 l0 _ ?side1 HC0.out HCL.out).mono ?_); (case side1 => exact Kd.C_below HR0.out HB.out); rintro e w2 ⟨v2, rfl, ho, hb⟩; refine ⟨_, rfl, ?_⟩; have HO := Aside0.mk (Kd.R_bound ho); have HBX1 := Aside0.mk (blk_below HBX.out hb); have HB1S := Aside0.mk HB.out.size; have HB1 := Aside0.mk (below_step HB.out hb); have HO2 := Aside0.mk (Kd.R_lower (Kd.R_mono ho (ok' := fun _ => True) (fun _ _ => trivial)) HB.out.size); clear HBX HB HO; have HO := HO2; have HBX := HBX1; have HB := HB1; clear HBX1 HB1 HO2 hb ho; obtain ⟨g, c, rfl, hgb, hgl, hgc⟩ := Kd.R_form HO.out (by omega); obtain ⟨cf, hcl, hcM, hcc, hfr⟩ := Kd.R_elem HO.out z45 (i : Int) (by omega) (by omega); have hz_0 := (blk_cell HBX.out 0).trans rfl; have hz_1 := (blk_cell HBX.out 1).trans rfl; have hz_2 := (blk_cell HBX.out 2).trans rfl)
      | ((with_reducible refine gate_store (t := 45) (p := 20) (v := .tmp 19) rfl ?_); go_loud ((refine Kd.R_store k45 (w0 := w) w.heap.size rfl rfl 45 (.tmp 20) (.tmp 19) rfl 45 (g := g) (n := l0.length) (cap := c) (o' := i * 3) (i : Int) 0 l0 ⟨a1_0, a1_1, a1_2⟩ (.agg #[.string a1_0, .string a1_1, .string a1_2]) [.string a1_0, .string a1_1, .string a1_2] cf (fun _ => True) (fun _ => False) ?haddr ?hoff ?hx rfl (by kernel_rfl) (impl_withBlock.one _ _ _) HO.out (by omega) (by omega) hcl hcc (Nat.le_refl 3) ?hM (fun _ h => h.elim) HB.out ?_); (case haddr => rfl); (case hx => rfl); (case hoff => show i * 3 = (i : Int).toNat * 3 + 0; rw [Int.toNat_natCast, Nat.add_zero]); (case hM => rw [List.take_zero, List.drop_eq_nil_of_le (by rw [hcl]; exact Nat.le_refl 3), List.append_nil, List.nil_append]; exact k45_mkM _ _ _ ⟨a1_0, a1_1, a1_2⟩); intro w4 ho4 hb4 hg4; have HO4 := Aside0.mk ho4; have HB4 := Aside0.mk hb4; clear ho4 hb4 hg4)))
    go_ret
    rw [Int.toNat_natCast] at HO4
    exact ⟨_, rfl, HO4.out, HB4.out⟩
  | false =>
    simp only [Bool.false_eq_true, if_false] at h
    obtain rfl := Option.some.inj h
    clear h
    go_enter Try.func46, Try.ntmps46
    go_wp2_with (first
      | ((with_reducible refine gate_callee (f := 40) rfl ?_); go_loud (refine goesL_ (some 11) rfl rfl Try.func40 (by kernel_rfl) rfl #[.slice A0 l0.length c0, .agg #[.string a1_0, .string a1_1, .string a1_2], .func (.func 37) #[] #[]] rfl (by (try simp only [List.map_toArray, List.map_cons, List.map_nil]); first | done | rfl) ?_); (with_reducible refine (slices_BinarySearchFunc_BlockS.calls k _ _ l0 a1_0 a1_1 a1_2 (i : Int) false _ ?side1 HC0.out HS.out).mono ?_); (case side1 => exact Kd.C_below HR0.out HB.out); rintro e w1 ⟨rfl, hb⟩; refine ⟨_, rfl, ?_⟩; have HBX1 := Aside0.mk (blk_below HBX.out hb); have HB1 := Aside0.mk (below_step HB.out hb); clear HBX HB; have HBX := HBX1; have HB := HB1; clear HBX1 HB1 hb)
      | ((with_reducible refine gate_callee (f := 43) rfl ?_); go_loud (refine goesL_ (some 15) rfl rfl Try.func43 (by kernel_rfl) rfl #[.slice A0 l0.length c0] rfl (by (try simp only [List.map_toArray, List.map_cons, List.map_nil]); first | done | rfl) ?_); (with_reducible refine (slices_Clone_BlockS.calls _ _ l0 l0 _ ?side1 HC0.out HCL.out).mono ?_); (case side1 => exact Kd.C_below HR0.out HB.out); rintro e w2 ⟨v2, rfl, ho, hb⟩; refine ⟨_, rfl, ?_⟩; have HO := Aside0.mk (Kd.R_bound ho); have HBX1 := Aside0.mk (blk_below HBX.out hb); have HB1S := Aside0.mk HB.out.size; have HB1 := Aside0.mk (below_step HB.out hb); clear HBX HB; have HBX := HBX1; have HB := HB1; clear HBX1 HB1 hb ho; have hz_0 := (blk_cell HBX.out 0).trans rfl; have hz_1 := (blk_cell HBX.out 1).trans rfl; have hz_2 := (blk_cell HBX.out 2).trans rfl)
      | (go_at_call 56; obtain ⟨A2, c2, rfl⟩ := Kd.R_slice HO.out; (with_reducible refine (impl_withBlock.ins_any (fun _ => True) A2 c2 i _ l0 ⟨a1_0, a1_1, a1_2⟩ w _ ?side1 ?side2 (fun _ _ => trivial) (by omega) ?side3 ?side4 (by have := HL.out; omega)).mono ?_); (case side1 => exact below_alloc HB.out _); (case side2 => exact Kd.R_alloc (Kd.R_lower (Kd.R_mono HO.out (fun _ _ => trivial)) HB1S.out) _); (case side3 => exact blk_new _ _); (case side4 => exact fun g hg e => by have := Kd.R_lt HO.out g hg; omega); rintro e w3 ⟨v3, rfl, ho3, hb3⟩; have HO3 := Aside0.mk ho3; have HB3 := Aside0.mk hb3; clear ho3 hb3))
    go_ret
    exact ⟨_, rfl, HO3.out, HB3.out⟩
end Go.Proofs.Ytnabckhhnknlaaa.XV
end

section
namespace Go.Proofs.Ytnabckhhnknlaaa.XV
open Go.RowKit Go.Proofs.YtnabckhhnknlaaaW.PrintWords Go.Proofs.YtnabckhhnknlaaaW.PrintLast Go.Proofs.YtnabckhhnknlaaaW.PrintMore
attribute [local go_sem] run_eql_slice_nil binOp_string_gtr' binOp_string_leq' binOp_string_geq' max2_int min2_int max_two min_two max_three min_three max_four min_four   -- for this text's walks alone
set_option linter.unusedVariables false
set_option linter.unusedSimpArgs false
def impl_PutBlock.j0 : Nat → List (S45) → Bool → ByteArray → ByteArray → ByteArray → Option ((List (S45)) × Int)
  | 0, _, _, _, _, _ => none
  | k + 1, x0, x14, x164000, x164001, x164002 => if x14 = true then (some (([] : List (S45)), 1)) else ((impl_withBlock.f k x0 x164000 x164001 x164002).bind fun t166 => (if (t166.length : Int) > 32 then (some (([] : List (S45)), 5)) else (some (t166, 0))))
def impl_PutBlock.f (k : Nat) (l0 : List (S45)) (a1_0 : ByteArray) (a1_1 : ByteArray) (a1_2 : ByteArray) : Option ((List (S45)) × Int) := (impl_ValidBlocks.f k l0).bind fun t164 => (if t164 = true then ((impl_ValidBlock.f k a1_0 a1_1 a1_2).bind fun t165 => (impl_PutBlock.j0 k l0 (!t165) a1_0 a1_1 a1_2)) else (impl_PutBlock.j0 k l0 true a1_0 a1_1 a1_2))
set_option maxHeartbeats 8000000 in
set_option maxRecDepth 100000 in
theorem impl_PutBlock.calls (k : Nat) (A0 : Option Addr) (c0 : Nat) (l0 : List (S45)) (a1_0 : ByteArray) (a1_1 : ByteArray) (a1_2 : ByteArray) (r1 : List (S45)) (r2 : Int) (w : World) (hr0 : Kd.C k45 w A0 l0.length l0) (hc0 : l0.length ≤ c0) (hSH : World.ShapedOpen Try.prog w) (h : impl_PutBlock.f k l0 a1_0 a1_1 a1_2 = some (r1, r2)) :
    Calls Try.prog 29 #[.slice A0 l0.length c0, .agg #[.string a1_0, .string a1_1, .string a1_2]] w fun e w' => ∃ v0_ : Value, e = .returned (.tuple #[v0_, .int .i64 r2]) ∧ Kd.R k45 45 w' w.heap.size (fun _ => True) v0_ r1 ∧ Below w.heap.size w w' := by
  have hu45 := Try.underlying45
  have HR0 := Aside0.mk hr0
  have HC0 := Aside0.mk hc0
  clear hr0 hc0
  have HB := Aside0.mk (Below.refl w.heap.size w)
  have HSH := Aside0.mk hSH
  clear hSH
  have H : ((impl_ValidBlocks.f k l0).bind fun t164 => (if t164 = true then ((impl_ValidBlock.f k a1_0 a1_1 a1_2).bind fun t165 => (impl_PutBlock.j0 k l0 (!t165) a1_0 a1_1 a1_2)) else (impl_PutBlock.j0 k l0 true a1_0 a1_1 a1_2))) = some (r1, r2) := h
  clear h
  have HC3 := Aside0.mk H
  clear H
  go_enter Try.func29, Try.ntmps29
  go_upto_region 1 with (first | ((with_reducible refine gate_dst (N := 3) rfl ?_); refine box_event ?hg (N := 3) ?hd (cs := #[.string a1_0, .string a1_1, .string a1_2]) (t := 45) ?hr ?_; (case hd => rfl); (case hg => rfl); (case hr => first | (go_simp; done) | (go_simp; rfl)); intro gb163 hg w4 hbox hb; have n0_ := Aside0.mk (below_step (by repeat (first | (with_reducible first | exact HB.out | apply below_alloc | apply pw_below_drewN | apply below_drew1) | exact HB.out)) hb); have n1_ := Aside0.mk (hbox); have n2_ := Aside0.mk ((by rw [hg]; exact (below_size (by repeat (first | (with_reducible first | exact HB.out | apply below_alloc | apply pw_below_drewN | apply below_drew1) | exact HB.out))) : w.heap.size ≤ gb163)); have n3_ := Aside0.mk ((by rw [hg]; exact (below_size (by repeat (first | (with_reducible first | exact HB.out | apply below_alloc | apply pw_below_drewN | apply below_drew1) | exact HB.out))) : w.heap.size ≤ gb163)); clear HB; have HB := n0_; have BK163 := n1_; have GW163 := n2_; have GE163 := n3_; clear n0_ n1_ n2_ n3_; clear hb hbox hg))
  (try simp only [Act.put, List.setIfInBounds_toArray, List.set_cons_zero, List.set_cons_succ])
  go_cut [14] (fun v14 wc => ∃ (kq : Nat) (x14_2 : Bool), v14 = .bool x14_2 ∧ Aside0 (impl_PutBlock.j0 kq l0 x14_2 a1_0 a1_1 a1_2 = some (r1, r2)) ∧ Aside0 (kq ≤ k) ∧ Aside0 (wc.heap[gb163]? = some (.cells #[.string a1_0, .string a1_1, .string a1_2] 45 (0, 0))) ∧ Aside0 (Below w.heap.size w wc))
  case first =>
    have H := HC3.out
    clear HC3
    replace H := Option.bind_eq_some_iff.mp H
    obtain ⟨t164, A50, H⟩ := H
    replace H : (if t164 = true then ((impl_ValidBlock.f k a1_0 a1_1 a1_2).bind fun t165 => (impl_PutBlock.j0 k l0 (!t165) a1_0 a1_1 a1_2)) else (impl_PutBlock.j0 k l0 true a1_0 a1_1 a1_2)) = some (r1, r2) := H
    have A5 := Aside0.mk A50
    clear A50
    by_cases c6 : t164 = true
    · subst c6
      have H1 : ((impl_ValidBlock.f k a1_0 a1_1 a1_2).bind fun t165 => (impl_PutBlock.j0 k l0 (!t165) a1_0 a1_1 a1_2)) = some (r1, r2) := by rw [if_pos rfl] at H; exact H
      clear H
      have H := H1
      clear H1
      replace H := Option.bind_eq_some_iff.mp H
      obtain ⟨t165, A70, H⟩ := H
      replace H : (impl_PutBlock.j0 k l0 (!t165) a1_0 a1_1 a1_2) = some (r1, r2) := H
      have A7 := Aside0.mk A70
      clear A70
      have H' := Aside0.mk H
      clear H
      go_wp2_with (first | ((with_reducible refine gate_callee (f := 13) rfl ?_); refine goesL_ (some 8) rfl rfl Try.func13 (by kernel_rfl) rfl #[.slice A0 l0.length c0] rfl (by (try simp only [List.map_toArray, List.map_cons, List.map_nil]); first | done | rfl | (simp only [List.length_drop, List.length_take]; rfl)) ?_; (with_reducible refine (impl_ValidBlocks.calls k _ _ l0 true _ ?side1 ?side2 ?side3 A5.out).mono ?_); (case side1 => repeat (first | exact (Kd.C_below HR0.out HB.out) | (with_reducible refine Kd.C_alloc ?_ _) | (with_reducible refine Kd.C_drewN ?_ _) | (with_reducible refine Kd.C_drew ?_))); (case side2 => exact HC0.out); (case side3 => exact HSH.out.keptBut ((show Below w.heap.size w _ from by repeat (first | (with_reducible first | exact HB.out | apply below_alloc | apply pw_below_drewN | apply below_drew1 | refine below_set ?_ GE163.out) | exact HB.out)).frame (fun _ => False)) (fun _ h_ => h_.elim)); rintro e w8 ⟨rfl, hb⟩; refine ⟨_, rfl, ?_⟩; have n0_ := Aside0.mk (blk_below (g := gb163) (o := .cells #[.string a1_0, .string a1_1, .string a1_2] 45 (0, 0)) (by (with_reducible repeat (first | refine blk_drewN ?_ _ | refine blk_drew ?_ | refine blk_alloc ?_ _)); exact BK163.out) hb); have n1_ := Aside0.mk (below_step (by repeat (first | (with_reducible first | exact HB.out | apply below_alloc | apply pw_below_drewN | apply below_drew1 | refine below_set ?_ GE163.out) | exact HB.out)) hb); clear BK163; clear HB; have BK163 := n0_; have HB := n1_; clear n0_ n1_; (try clear hb); (try clear hb2); (try clear hk); (try clear hi); have hcz9_0 : w8.cell? ⟨gb163, 0, none⟩ = some (.string a1_0) := (blk_cell BK163.out 0).trans rfl; have hcz9_1 : w8.cell? ⟨gb163, 1, none⟩ = some (.string a1_1) := (blk_cell BK163.out 1).trans rfl; have hcz9_2 : w8.cell? ⟨gb163, 2, none⟩ = some (.string a1_2) := (blk_cell BK163.out 2).trans rfl; have hfz9_0 := blk_frozen BK163.out 0; have hfz9_1 := blk_frozen BK163.out 1; have hfz9_2 := blk_frozen BK163.out 2) | (go_at_call 36; (with_reducible refine (impl_ValidBlock.calls k a1_0 a1_1 a1_2 t165 _ ?side1 A7.out).mono ?_); (case side1 => exact HSH.out.keptBut ((show Below w.heap.size w _ from by repeat (first | (with_reducible first | exact HB.out | apply below_alloc | apply pw_below_drewN | apply below_drew1 | refine below_set ?_ GE163.out) | exact HB.out)).frame (fun _ => False)) (fun _ h_ => h_.elim)); rintro e w10 ⟨rfl, hb⟩; have n0_ := Aside0.mk (blk_below (g := gb163) (o := .cells #[.string a1_0, .string a1_1, .string a1_2] 45 (0, 0)) (by (with_reducible repeat (first | refine blk_drewN ?_ _ | refine blk_drew ?_ | refine blk_alloc ?_ _)); exact BK163.out) hb); have n1_ := Aside0.mk (below_step (by repeat (first | (with_reducible first | exact HB.out | apply below_alloc | apply pw_below_drewN | apply below_drew1 | refine below_set ?_ GE163.out) | exact HB.out)) hb); clear BK163; clear HB; have BK163 := n0_; have HB := n1_; clear n0_ n1_; (try clear hb); (try clear hb2); (try clear hk); (try clear hi)))
      go_meet
      case rel => exact ⟨_, (!t165), (by first | rfl | (simp; done) | (simp [*]; done)), H', ⟨by first | omega | exact Nat.le_refl _⟩, ⟨by (with_reducible repeat (first | refine blk_drewN ?_ _ | refine blk_drew ?_ | refine blk_alloc ?_ _)); exact BK163.out⟩, ⟨by repeat (first | (with_reducible first | exact HB.out | apply below_alloc | apply pw_below_drewN | apply below_drew1 | refine below_set ?_ GE163.out) | exact HB.out)⟩⟩
    · replace c6 := Bool.eq_false_iff.mpr c6
      subst c6
      have H1 : (impl_PutBlock.j0 k l0 true a1_0 a1_1 a1_2) = some (r1, r2) := by rw [if_neg (show ¬ (false = true) by decide)] at H; exact H
      clear H
      have H := H1
      clear H1
      have H' := Aside0.mk H
      clear H
      go_wp2_with (first | ((with_reducible refine gate_callee (f := 13) rfl ?_); refine goesL_ (some 8) rfl rfl Try.func13 (by kernel_rfl) rfl #[.slice A0 l0.length c0] rfl (by (try simp only [List.map_toArray, List.map_cons, List.map_nil]); first | done | rfl | (simp only [List.length_drop, List.length_take]; rfl)) ?_; (with_reducible refine (impl_ValidBlocks.calls k _ _ l0 false _ ?side1 ?side2 ?side3 A5.out).mono ?_); (case side1 => repeat (first | exact (Kd.C_below HR0.out HB.out) | (with_reducible refine Kd.C_alloc ?_ _) | (with_reducible refine Kd.C_drewN ?_ _) | (with_reducible refine Kd.C_drew ?_))); (case side2 => exact HC0.out); (case side3 => exact HSH.out.keptBut ((show Below w.heap.size w _ from by repeat (first | (with_reducible first | exact HB.out | apply below_alloc | apply pw_below_drewN | apply below_drew1 | refine below_set ?_ GE163.out) | exact HB.out)).frame (fun _ => False)) (fun _ h_ => h_.elim)); rintro e w11 ⟨rfl, hb⟩; refine ⟨_, rfl, ?_⟩; have n0_ := Aside0.mk (blk_below (g := gb163) (o := .cells #[.string a1_0, .string a1_1, .string a1_2] 45 (0, 0)) (by (with_reducible repeat (first | refine blk_drewN ?_ _ | refine blk_drew ?_ | refine blk_alloc ?_ _)); exact BK163.out) hb); have n1_ := Aside0.mk (below_step (by repeat (first | (with_reducible first | exact HB.out | apply below_alloc | apply pw_below_drewN | apply below_drew1 | refine below_set ?_ GE163.out) | exact HB.out)) hb); clear BK163; clear HB; have BK163 := n0_; have HB := n1_; clear n0_ n1_; (try clear hb); (try clear hb2); (try clear hk); (try clear hi)))
      go_meet
      case rel => exact ⟨_, (true), (by first | rfl | (simp; done) | (simp [*]; done)), H', ⟨by first | omega | exact Nat.le_refl _⟩, ⟨by (with_reducible repeat (first | refine blk_drewN ?_ _ | refine blk_drew ?_ | refine blk_alloc ?_ _)); exact BK163.out⟩, ⟨by repeat (first | (with_reducible first | exact HB.out | apply below_alloc | apply pw_below_drewN | apply below_drew1 | refine below_set ?_ GE163.out) | exact HB.out)⟩⟩
  case rest =>
    clear HC3
    try clear c1
    try clear c2
    try clear p2
    try clear c6
    try clear hcz9_0
    try clear hcz9_1
    try clear hcz9_2
    try clear hfz9_0
    try clear hfz9_1
    try clear hfz9_2
    obtain ⟨kq, x14_2, rfl, HA, HJ2, BK163, HB⟩ := hcut
    cases kq with
    | zero => exact absurd HA.out (by simp [impl_PutBlock.j0])
    | succ kj2 =>
      have H := HA.out
      clear HA
      simp only [impl_PutBlock.j0] at H
      by_cases c12 : x14_2 = true
      · subst c12
        have H1 : (some (([] : List (S45)), 1)) = some (r1, r2) := by rw [if_pos rfl] at H; exact H
        clear H
        have H := H1
        clear H1
        simp only [Option.some.injEq, Prod.mk.injEq] at H
        obtain ⟨rfl, rfl⟩ := H
        go_wp2
        go_ret2
        exact ⟨_, by first | rfl | (simp [errW_none, errW_some] <;> rfl) | (simp [*, errW_none, errW_some] <;> rfl), by first | exact Kd.R_nil _ _ _ _ _ | exact Kd.N_nil _ _ _ _ _ | exact Kd.V_nil _ _ _ _ _ | exact Kd.Q_nil _ _ _ _ _ | exact Kd.S_nil _ _ _ _ _, by repeat (first | (with_reducible first | exact HB.out | apply below_alloc | apply pw_below_drewN | apply below_drew1 | refine below_set ?_ GE163.out) | exact HB.out)⟩
      · replace c12 := Bool.eq_false_iff.mpr c12
        subst c12
        have H1 : ((impl_withBlock.f kj2 l0 a1_0 a1_1 a1_2).bind fun t166 => (if (t166.length : Int) > 32 then (some (([] : List (S45)), 5)) else (some (t166, 0)))) = some (r1, r2) := by rw [if_neg (show ¬ (false = true) by decide)] at H; exact H
        clear H
        have H := H1
        clear H1
        replace H := Option.bind_eq_some_iff.mp H
        obtain ⟨t166, A130, H⟩ := H
        replace H : (if (t166.length : Int) > 32 then (some (([] : List (S45)), 5)) else (some (t166, 0))) = some (r1, r2) := H
        have A13 := Aside0.mk A130
        clear A130
        by_cases c14 : (t166.length : Int) > 32
        · rw [if_pos c14] at H
          have c14b0 : decide (32 < (t166.length : Int)) = true := decide_eq_true c14
          have c14b1 : decide (32 < t166.length) = true := decide_eq_true (by omega)
          clear c14
          simp only [Option.some.injEq, Prod.mk.injEq] at H
          obtain ⟨rfl, rfl⟩ := H
          have hcz15_0 : wc.cell? ⟨gb163, 0, none⟩ = some (.string a1_0) := (blk_cell BK163.out 0).trans rfl
          have hcz15_1 : wc.cell? ⟨gb163, 1, none⟩ = some (.string a1_1) := (blk_cell BK163.out 1).trans rfl
          have hcz15_2 : wc.cell? ⟨gb163, 2, none⟩ = some (.string a1_2) := (blk_cell BK163.out 2).trans rfl
          have hfz15_0 := blk_frozen BK163.out 0
          have hfz15_1 := blk_frozen BK163.out 1
          have hfz15_2 := blk_frozen BK163.out 2
          go_wp2_with (first | ((with_reducible refine gate_callee (f := 46) rfl ?_); refine goesL_ (some 17) rfl rfl Try.func46 (by kernel_rfl) rfl #[.slice A0 l0.length c0, .agg #[.string a1_0, .string a1_1, .string a1_2]] rfl (by (try simp only [List.map_toArray, List.map_cons, List.map_nil]); first | done | rfl | (simp only [List.length_drop, List.length_take]; rfl)) ?_; (with_reducible refine (impl_withBlock.calls kj2 _ _ l0 a1_0 a1_1 a1_2 t166 _ ?side1 ?side2 A13.out).mono ?_); (case side1 => repeat (first | exact (Kd.C_below HR0.out HB.out) | (with_reducible refine Kd.C_alloc ?_ _) | (with_reducible refine Kd.C_drewN ?_ _) | (with_reducible refine Kd.C_drew ?_))); (case side2 => exact HC0.out); rintro e w16 ⟨v167, rfl, ho0, hb⟩; refine ⟨_, rfl, ?_⟩; have n0_ := Aside0.mk (Kd.R_lower (Kd.R_newB ho0 (g := gb163) (o := .cells #[.string a1_0, .string a1_1, .string a1_2] 45 (0, 0)) (by (with_reducible repeat (first | refine blk_drewN ?_ _ | refine blk_drew ?_ | refine blk_alloc ?_ _)); exact BK163.out)) (below_size (by repeat (first | (with_reducible first | exact HB.out | apply below_alloc | apply pw_below_drewN | apply below_drew1 | refine below_set ?_ GE163.out) | exact HB.out)))); have n1_ := Aside0.mk (blk_below (g := gb163) (o := .cells #[.string a1_0, .string a1_1, .string a1_2] 45 (0, 0)) (by (with_reducible repeat (first | refine blk_drewN ?_ _ | refine blk_drew ?_ | refine blk_alloc ?_ _)); exact BK163.out) hb); have n2_ := Aside0.mk (below_step (by repeat (first | (with_reducible first | exact HB.out | apply below_alloc | apply pw_below_drewN | apply below_drew1 | refine below_set ?_ GE163.out) | exact HB.out)) hb); clear BK163; clear HB; have HO168 := n0_; have BK163 := n1_; have HB := n2_; clear n0_ n1_ n2_; (try clear hb); (try clear hb2); (try clear hk); (try clear hi); (try clear ho0); obtain ⟨Ao17, co17, eo17⟩ := Kd.R_slice HO168.out; subst eo17))
          go_ret2
          exact ⟨_, by first | rfl | (simp [errW_none, errW_some] <;> rfl) | (simp [*, errW_none, errW_some] <;> rfl), by first | exact Kd.R_nil _ _ _ _ _ | exact Kd.N_nil _ _ _ _ _ | exact Kd.V_nil _ _ _ _ _ | exact Kd.Q_nil _ _ _ _ _ | exact Kd.S_nil _ _ _ _ _, by repeat (first | (with_reducible first | exact HB.out | apply below_alloc | apply pw_below_drewN | apply below_drew1 | refine below_set ?_ GE163.out) | exact HB.out)⟩
        · rw [if_neg c14] at H
          have c14b0 : decide (32 < (t166.length : Int)) = false := decide_eq_false c14
          have c14b1 : decide (32 < t166.length) = false := decide_eq_false (by omega)
          clear c14
          simp only [Option.some.injEq, Prod.mk.injEq] at H
          obtain ⟨rfl, rfl⟩ := H
          have hcz18_0 : wc.cell? ⟨gb163, 0, none⟩ = some (.string a1_0) := (blk_cell BK163.out 0).trans rfl
          have hcz18_1 : wc.cell? ⟨gb163, 1, none⟩ = some (.string a1_1) := (blk_cell BK163.out 1).trans rfl
          have hcz18_2 : wc.cell? ⟨gb163, 2, none⟩ = some (.string a1_2) := (blk_cell BK163.out 2).trans rfl
          have hfz18_0 := blk_frozen BK163.out 0
          have hfz18_1 := blk_frozen BK163.out 1
          have hfz18_2 := blk_frozen BK163.out 2
          go_wp2_with (first | ((with_reducible refine gate_callee (f := 46) rfl ?_); refine goesL_ (some 17) rfl rfl Try.func46 (by kernel_rfl) rfl #[.slice A0 l0.length c0, .agg #[.string a1_0, .string a1_1, .string a1_2]] rfl (by (try simp only [List.map_toArray, List.map_cons, List.map_nil]); first | done | rfl | (simp only [List.length_drop, List.length_take]; rfl)) ?_; (with_reducible refine (impl_withBlock.calls kj2 _ _ l0 a1_0 a1_1 a1_2 t166 _ ?side1 ?side2 A13.out).mono ?_); (case side1 => repeat (first | exact (Kd.C_below HR0.out HB.out) | (with_reducible refine Kd.C_alloc ?_ _) | (with_reducible refine Kd.C_drewN ?_ _) | (with_reducible refine Kd.C_drew ?_))); (case side2 => exact HC0.out); rintro e w19 ⟨v167, rfl, ho0, hb⟩; refine ⟨_, rfl, ?_⟩; have n0_ := Aside0.mk (Kd.R_lower (Kd.R_newB ho0 (g := gb163) (o := .cells #[.string a1_0, .string a1_1, .string a1_2] 45 (0, 0)) (by (with_reducible repeat (first | refine blk_drewN ?_ _ | refine blk_drew ?_ | refine blk_alloc ?_ _)); exact BK163.out)) (below_size (by repeat (first | (with_reducible first | exact HB.out | apply below_alloc | apply pw_below_drewN | apply below_drew1 | refine below_set ?_ GE163.out) | exact HB.out)))); have n1_ := Aside0.mk (blk_below (g := gb163) (o := .cells #[.string a1_0, .string a1_1, .string a1_2] 45 (0, 0)) (by (with_reducible repeat (first | refine blk_drewN ?_ _ | refine blk_drew ?_ | refine blk_alloc ?_ _)); exact BK163.out) hb); have n2_ := Aside0.mk (below_step (by repeat (first | (with_reducible first | exact HB.out | apply below_alloc | apply pw_below_drewN | apply below_drew1 | refine below_set ?_ GE163.out) | exact HB.out)) hb); clear BK163; clear HB; have HO168 := n0_; have BK163 := n1_; have HB := n2_; clear n0_ n1_ n2_; (try clear hb); (try clear hb2); (try clear hk); (try clear hi); (try clear ho0); obtain ⟨Ao20, co20, eo20⟩ := Kd.R_slice HO168.out; subst eo20))
          go_ret2
          exact ⟨_, by first | rfl | (simp [errW_none, errW_some] <;> rfl) | (simp [*, errW_none, errW_some] <;> rfl), by (with_reducible repeat (first | apply Kd.R_alloc | apply Kd.R_drewN | apply Kd.R_drew)); exact Kd.R_mono HO168.out (fun _ hk => trivial), by repeat (first | (with_reducible first | exact HB.out | apply below_alloc | apply pw_below_drewN | apply below_drew1 | refine below_set ?_ GE163.out) | exact HB.out)⟩
end Go.Proofs.Ytnabckhhnknlaaa.XV
end

section
namespace Go.Proofs.Ytnabckhhnknlaaa.XV
open Go.RowKit Go.Proofs.YtnabckhhnknlaaaW.PrintWords Go.Proofs.YtnabckhhnknlaaaW.PrintLast Go.Proofs.YtnabckhhnknlaaaW.PrintMore
attribute [local go_sem] run_eql_slice_nil binOp_string_gtr' binOp_string_leq' binOp_string_geq' max2_int min2_int max_two min_two max_three min_three max_four min_four   -- for this text's walks alone
set_option linter.unusedVariables false
set_option linter.unusedSimpArgs false
mutual
def impl_MergeBlocks.j0 : Nat → List (S45) → List (S45) → Bool → Option ((List (S45)) × Int)
  | 0, _, _, _ => none
  | k + 1, x0, x1, x16 => if x16 = true then (some (([] : List (S45)), 1)) else ((slices_Clone_BlockS.f x0).bind fun t171 => (impl_MergeBlocks.l0 k t171 x1 (x1.length : Int) 0))
def impl_MergeBlocks.l0 : Nat → List (S45) → List (S45) → Int → Int → Option ((List (S45)) × Int)
  | 0, _, _, _, _ => none
  | k + 1, x6, x19, x20, x21 => if x21 < x20 then (if 0 ≤ x21 then (if x21 < (x19.length : Int) then ((impl_withBlock.f k x6 ((rd_T45 x19 x21).f0) ((rd_T45 x19 x21).f1) ((rd_T45 x19 x21).f2)).bind fun t176 => (impl_MergeBlocks.l0 k t176 x19 x20 (wrap64 (x21 + 1)))) else (none)) else (none)) else (if (x6.length : Int) > 32 then (some (([] : List (S45)), 5)) else (some (x6, 0)))
end
def impl_MergeBlocks.f (k : Nat) (l0 : List (S45)) (l1 : List (S45)) : Option ((List (S45)) × Int) := (impl_ValidBlocks.f k l0).bind fun t169 => (if t169 = true then ((impl_ValidBlocks.f k l1).bind fun t170 => (impl_MergeBlocks.j0 k l0 l1 (!t170))) else (impl_MergeBlocks.j0 k l0 l1 true))
set_option maxHeartbeats 8000000 in
set_option maxRecDepth 100000 in
theorem impl_MergeBlocks.calls (k : Nat) (A0 : Option Addr) (c0 : Nat) (l0 : List (S45)) (A1 : Option Addr) (c1 : Nat) (l1 : List (S45)) (r1 : List (S45)) (r2 : Int) (w : World) (hr0 : Kd.C k45 w A0 l0.length l0) (hc0 : l0.length ≤ c0) (hr1 : Kd.C k45 w A1 l1.length l1) (hc1 : l1.length ≤ c1) (hSH : World.ShapedOpen Try.prog w) (h : impl_MergeBlocks.f k l0 l1 = some (r1, r2)) :
    Calls Try.prog 31 #[.slice A0 l0.length c0, .slice A1 l1.length c1] w fun e w' => ∃ v0_ : Value, e = .returned (.tuple #[v0_, .int .i64 r2]) ∧ Kd.R k45 45 w' w.heap.size (fun _ => True) v0_ r1 ∧ Below w.heap.size w w' := by
  have hu45 := Try.underlying45
  have HR0 := Aside0.mk hr0
  have HC0 := Aside0.mk hc0
  clear hr0 hc0
  have HR1 := Aside0.mk hr1
  have HC1 := Aside0.mk hc1
  clear hr1 hc1
  have HB := Aside0.mk (Below.refl w.heap.size w)
  have HSH := Aside0.mk hSH
  clear hSH
  have H : ((impl_ValidBlocks.f k l0).bind fun t169 => (if t169 = true then ((impl_ValidBlocks.f k l1).bind fun t170 => (impl_MergeBlocks.j0 k l0 l1 (!t170))) else (impl_MergeBlocks.j0 k l0 l1 true))) = some (r1, r2) := h
  clear h
  have HC3 := Aside0.mk H
  clear H
  go_enter Try.func31, Try.ntmps31
  go_upto_region 1 with (fail)
  go_cut [16] (fun v16 wc => ∃ (kq : Nat) (x16_2 : Bool), v16 = .bool x16_2 ∧ Aside0 (impl_MergeBlocks.j0 kq l0 l1 x16_2 = some (r1, r2)) ∧ Aside0 (kq ≤ k) ∧ Aside0 (Below w.heap.size w wc))
  case first =>
    have H := HC3.out
    clear HC3
    replace H := Option.bind_eq_some_iff.mp H
    obtain ⟨t169, A40, H⟩ := H
    replace H : (if t169 = true then ((impl_ValidBlocks.f k l1).bind fun t170 => (impl_MergeBlocks.j0 k l0 l1 (!t170))) else (impl_MergeBlocks.j0 k l0 l1 true)) = some (r1, r2) := H
    have A4 := Aside0.mk A40
    clear A40
    by_cases c5 : t169 = true
    · subst c5
      have H1 : ((impl_ValidBlocks.f k l1).bind fun t170 => (impl_MergeBlocks.j0 k l0 l1 (!t170))) = some (r1, r2) := by rw [if_pos rfl] at H; exact H
      clear H
      have H := H1
      clear H1
      replace H := Option.bind_eq_some_iff.mp H
      obtain ⟨t170, A60, H⟩ := H
      replace H : (impl_MergeBlocks.j0 k l0 l1 (!t170)) = some (r1, r2) := H
      have A6 := Aside0.mk A60
      clear A60
      have H' := Aside0.mk H
      clear H
      go_wp2_with (first | ((with_reducible refine gate_callee (f := 13) rfl ?_); refine goesL_ (some 10) rfl rfl Try.func13 (by kernel_rfl) rfl #[.slice A0 l0.length c0] rfl (by (try simp only [List.map_toArray, List.map_cons, List.map_nil]); first | done | rfl | (simp only [List.length_drop, List.length_take]; rfl)) ?_; (with_reducible refine (impl_ValidBlocks.calls k _ _ l0 true _ ?side1 ?side2 ?side3 A4.out).mono ?_); (case side1 => repeat (first | exact (Kd.C_below HR0.out HB.out) | (with_reducible refine Kd.C_alloc ?_ _) | (with_reducible refine Kd.C_drewN ?_ _) | (with_reducible refine Kd.C_drew ?_))); (case side2 => exact HC0.out); (case side3 => exact HSH.out.keptBut ((show Below w.heap.size w _ from by repeat (first | (with_reducible first | exact HB.out | apply below_alloc | apply pw_below_drewN | apply below_drew1) | exact HB.out)).frame (fun _ => False)) (fun _ h_ => h_.elim)); rintro e w7 ⟨rfl, hb⟩; refine ⟨_, rfl, ?_⟩; have n0_ := Aside0.mk (below_step (by repeat (first | (with_reducible first | exact HB.out | apply below_alloc | apply pw_below_drewN | apply below_drew1) | exact HB.out)) hb); clear HB; have HB := n0_; clear n0_; (try clear hb); (try clear hb2); (try clear hk); (try clear hi)) | (go_at_call 13; (with_reducible refine (impl_ValidBlocks.calls k _ _ l1 t170 _ ?side1 ?side2 ?side3 A6.out).mono ?_); (case side1 => repeat (first | exact (Kd.C_below HR1.out HB.out) | (with_reducible refine Kd.C_alloc ?_ _) | (with_reducible refine Kd.C_drewN ?_ _) | (with_reducible refine Kd.C_drew ?_))); (case side2 => exact HC1.out); (case side3 => exact HSH.out.keptBut ((show Below w.heap.size w _ from by repeat (first | (with_reducible first | exact HB.out | apply below_alloc | apply pw_below_drewN | apply below_drew1) | exact HB.out)).frame (fun _ => False)) (fun _ h_ => h_.elim)); rintro e w8 ⟨rfl, hb⟩; have n0_ := Aside0.mk (below_step (by repeat (first | (with_reducible first | exact HB.out | apply below_alloc | apply pw_below_drewN | apply below_drew1) | exact HB.out)) hb); clear HB; have HB := n0_; clear n0_; (try clear hb); (try clear hb2); (try clear hk); (try clear hi)))
      go_meet
      case rel => exact ⟨_, (!t170), (by first | rfl | (simp; done) | (simp [*]; done)), H', ⟨by first | omega | exact Nat.le_refl _⟩, ⟨by repeat (first | (with_reducible first | exact HB.out | apply below_alloc | apply pw_below_drewN | apply below_drew1) | exact HB.out)⟩⟩
    · replace c5 := Bool.eq_false_iff.mpr c5
      subst c5
      have H1 : (impl_MergeBlocks.j0 k l0 l1 true) = some (r1, r2) := by rw [if_neg (show ¬ (false = true) by decide)] at H; exact H
      clear H
      have H := H1
      clear H1
      have H' := Aside0.mk H
      clear H
      go_wp2_with (first | ((with_reducible refine gate_callee (f := 13) rfl ?_); refine goesL_ (some 10) rfl rfl Try.func13 (by kernel_rfl) rfl #[.slice A0 l0.length c0] rfl (by (try simp only [List.map_toArray, List.map_cons, List.map_nil]); first | done | rfl | (simp only [List.length_drop, List.length_take]; rfl)) ?_; (with_reducible refine (impl_ValidBlocks.calls k _ _ l0 false _ ?side1 ?side2 ?side3 A4.out).mono ?_); (case side1 => repeat (first | exact (Kd.C_below HR0.out HB.out) | (with_reducible refine Kd.C_alloc ?_ _) | (with_reducible refine Kd.C_drewN ?_ _) | (with_reducible refine Kd.C_drew ?_))); (case side2 => exact HC0.out); (case side3 => exact HSH.out.keptBut ((show Below w.heap.size w _ from by repeat (first | (with_reducible first | exact HB.out | apply below_alloc | apply pw_below_drewN | apply below_drew1) | exact HB.out)).frame (fun _ => False)) (fun _ h_ => h_.elim)); rintro e w9 ⟨rfl, hb⟩; refine ⟨_, rfl, ?_⟩; have n0_ := Aside0.mk (below_step (by repeat (first | (with_reducible first | exact HB.out | apply below_alloc | apply pw_below_drewN | apply below_drew1) | exact HB.out)) hb); clear HB; have HB := n0_; clear n0_; (try clear hb); (try clear hb2); (try clear hk); (try clear hi)))
      go_meet
      case rel => exact ⟨_, (true), (by first | rfl | (simp; done) | (simp [*]; done)), H', ⟨by first | omega | exact Nat.le_refl _⟩, ⟨by repeat (first | (with_reducible first | exact HB.out | apply below_alloc | apply pw_below_drewN | apply below_drew1) | exact HB.out)⟩⟩
  case rest =>
    clear HC3
    try clear c1
    try clear p2
    try clear c3
    try clear c5
    obtain ⟨kq, x16_2, rfl, HA, HJ2, HB⟩ := hcut
    cases kq with
    | zero => exact absurd HA.out (by simp [impl_MergeBlocks.j0])
    | succ kj2 =>
      have H := HA.out
      clear HA
      simp only [impl_MergeBlocks.j0] at H
      by_cases c10 : x16_2 = true
      · subst c10
        have H1 : (some (([] : List (S45)), 1)) = some (r1, r2) := by rw [if_pos rfl] at H; exact H
        clear H
        have H := H1
        clear H1
        simp only [Option.some.injEq, Prod.mk.injEq] at H
        obtain ⟨rfl, rfl⟩ := H
        go_wp2
        go_ret2
        exact ⟨_, by first | rfl | (simp [errW_none, errW_some] <;> rfl) | (simp [*, errW_none, errW_some] <;> rfl), by first | exact Kd.R_nil _ _ _ _ _ | exact Kd.N_nil _ _ _ _ _ | exact Kd.V_nil _ _ _ _ _ | exact Kd.Q_nil _ _ _ _ _ | exact Kd.S_nil _ _ _ _ _, by repeat (first | (with_reducible first | exact HB.out | apply below_alloc | apply pw_below_drewN | apply below_drew1) | exact HB.out)⟩
      · replace c10 := Bool.eq_false_iff.mpr c10
        subst c10
        have H1 : ((slices_Clone_BlockS.f l0).bind fun t171 => (impl_MergeBlocks.l0 kj2 t171 l1 (l1.length : Int) 0)) = some (r1, r2) := by rw [if_neg (show ¬ (false = true) by decide)] at H; exact H
        clear H
        have H := H1
        clear H1
        replace H := Option.bind_eq_some_iff.mp H
        obtain ⟨t171, A110, H⟩ := H
        replace H : (impl_MergeBlocks.l0 kj2 t171 l1 (l1.length : Int) 0) = some (r1, r2) := H
        have A11 := Aside0.mk A110
        clear A110
        have H' := Aside0.mk H
        clear H
        go_wp2_with (first | ((with_reducible refine gate_callee (f := 43) rfl ?_); refine goesL_ (some 18) rfl rfl Try.func43 (by kernel_rfl) rfl #[.slice A0 l0.length c0] rfl (by (try simp only [List.map_toArray, List.map_cons, List.map_nil]); first | done | rfl | (simp only [List.length_drop, List.length_take]; rfl)) ?_; (with_reducible refine (slices_Clone_BlockS.calls _ _ l0 t171 _ ?side1 ?side2 A11.out).mono ?_); (case side1 => repeat (first | exact (Kd.C_below HR0.out HB.out) | (with_reducible refine Kd.C_alloc ?_ _) | (with_reducible refine Kd.C_drewN ?_ _) | (with_reducible refine Kd.C_drew ?_))); (case side2 => exact HC0.out); rintro e w12 ⟨v172, rfl, ho0, hb⟩; refine ⟨_, rfl, ?_⟩; have n0_ := Aside0.mk (Kd.R_lower ho0 (below_size (by repeat (first | (with_reducible first | exact HB.out | apply below_alloc | apply pw_below_drewN | apply below_drew1) | exact HB.out)))); have n1_ := Aside0.mk (below_step (by repeat (first | (with_reducible first | exact HB.out | apply below_alloc | apply pw_below_drewN | apply below_drew1) | exact HB.out)) hb); clear HB; have HO173 := n0_; have HB := n1_; clear n0_ n1_; (try clear hb); (try clear hb2); (try clear hk); (try clear hi); (try clear ho0)))
        go_loopg [6, 21] kj2 (fun kq v6 v21 w' => ∃ (x6_2 : List (S45)) (x21_2 : Int), v21 = .int .i64 x21_2 ∧ Aside0 (impl_MergeBlocks.l0 kq x6_2 l1 (l1.length : Int) x21_2 = some (r1, r2)) ∧ Aside0 (kq ≤ kj2) ∧ Aside0 (Kd.R k45 45 w' w.heap.size (fun _ => True) v6 x6_2) ∧ Aside0 (Below w.heap.size w w'))
        case atStart => exact ⟨(t171), (0), (by first | rfl | (simp; done) | (simp [*]; done)), H', ⟨Nat.le_refl _⟩, ⟨by (with_reducible repeat (first | apply Kd.R_alloc | apply Kd.R_drewN | apply Kd.R_drew)); exact HO173.out⟩, ⟨by repeat (first | (with_reducible first | exact HB.out | apply below_alloc | apply pw_below_drewN | apply below_drew1) | exact HB.out)⟩⟩
        case round =>
          clear H'
          try clear c1
          try clear p2
          try clear c3
          try clear c4
          try clear c5
          try clear c10
          try clear p2
          obtain ⟨x6_2, x21_2, rfl, HA, HK2, HO_6, HB⟩ := hrel
          cases gk with
          | zero => exact absurd HA.out (by simp [impl_MergeBlocks.l0])
          | succ k2 =>
            have H := HA.out
            clear HA
            simp only [impl_MergeBlocks.l0] at H
            by_cases c13 : x21_2 < (l1.length : Int)
            · rw [if_pos c13] at H
              have c13b0 : decide (x21_2 < (l1.length : Int)) = true := decide_eq_true c13
              clear c13
              by_cases c14 : 0 ≤ x21_2
              · rw [if_pos c14] at H
                have c14b0 : decide (0 ≤ x21_2) = true := decide_eq_true c14
                clear c14
                by_cases c15 : x21_2 < (l1.length : Int)
                · rw [if_pos c15] at H
                  have c15b0 : decide (x21_2 < (l1.length : Int)) = true := decide_eq_true c15
                  clear c15
                  replace H := Option.bind_eq_some_iff.mp H
                  obtain ⟨t176, A160, H⟩ := H
                  replace H : (impl_MergeBlocks.l0 k2 t176 l1 (l1.length : Int) (wrap64 (x21_2 + 1))) = some (r1, r2) := H
                  have A16 := Aside0.mk A160
                  clear A160
                  have H' := Aside0.mk H
                  clear H
                  have p174 : 0 ≤ (x21_2 : Int) := of_decide_eq_true (by first | (with_reducible assumption) | assumption)
                  have q174 : x21_2 < (l1.length : Int) := of_decide_eq_true (by first | (with_reducible assumption) | assumption)
                  obtain ⟨ad174, e174, hx174_0, hx174_1, hx174_2⟩ := at_T45 HR1.out x21_2 p174 q174
                  cases e174
                  replace hx174_0 := (HB.out.cell (World.block_lt_of_cell? w _ hx174_0)).trans hx174_0
                  replace hx174_1 := (HB.out.cell (World.block_lt_of_cell? w _ hx174_1)).trans hx174_1
                  replace hx174_2 := (HB.out.cell (World.block_lt_of_cell? w _ hx174_2)).trans hx174_2
                  replace p174 := eq_true p174
                  replace q174 := eq_true q174
                  go_wp2_with (first | ((with_reducible refine gate_dst (N := 8) rfl ?_); refine box_event ?hg (N := 8) ?hd (cs := #[.string (⟨#[]⟩ : ByteArray), .string (⟨#[]⟩ : ByteArray), .string (⟨#[]⟩ : ByteArray)]) (t := 45) ?hr ?_; (case hd => rfl); (case hg => rfl); (case hr => first | (go_simp; done) | (go_simp; rfl)); intro gb175 hg w17 hbox hb; have n0_ := Aside0.mk (Kd.R_below (Kd.R_elderB (by (with_reducible repeat (first | apply Kd.R_alloc | apply Kd.R_drewN | apply Kd.R_drew)); exact HO_6.out) gb175 (Nat.le_of_eq hg.symm)) hb); have n1_ := Aside0.mk (below_step (by repeat (first | (with_reducible first | exact HB.out | apply below_alloc | apply pw_below_drewN | apply below_drew1) | exact HB.out)) hb); have n2_ := Aside0.mk (hbox); have n3_ := Aside0.mk ((by rw [hg]; exact (below_size (by repeat (first | (with_reducible first | exact HB.out | apply below_alloc | apply pw_below_drewN | apply below_drew1) | exact HB.out))) : w.heap.size ≤ gb175)); have n4_ := Aside0.mk ((by rw [hg]; exact (below_size (by repeat (first | (with_reducible first | exact HB.out | apply below_alloc | apply pw_below_drewN | apply below_drew1) | exact HB.out))) : w.heap.size ≤ gb175)); clear HO_6; clear HB; have HO_6 := n0_; have HB := n1_; have BK175 := n2_; have GW175 := n3_; have GE175 := n4_; clear n0_ n1_ n2_ n3_ n4_; clear hb hbox hg; have hcz18_0 : w17.cell? ⟨gb175, 0, none⟩ = some (.string (⟨#[]⟩ : ByteArray)) := (blk_cell BK175.out 0).trans rfl; have hcz18_1 : w17.cell? ⟨gb175, 1, none⟩ = some (.string (⟨#[]⟩ : ByteArray)) := (blk_cell BK175.out 1).trans rfl; have hcz18_2 : w17.cell? ⟨gb175, 2, none⟩ = some (.string (⟨#[]⟩ : ByteArray)) := (blk_cell BK175.out 2).trans rfl; have hfz18_0 := blk_frozen BK175.out 0; have hfz18_1 := blk_frozen BK175.out 1; have hfz18_2 := blk_frozen BK175.out 2; obtain ⟨Ao19, co19, eo19⟩ := Kd.R_slice HO_6.out; subst eo19) | ((with_reducible refine gate_callee (f := 46) rfl ?_); refine goesL_ (some 27) rfl rfl Try.func46 (by kernel_rfl) rfl #[.slice Ao19 x6_2.length co19, .agg #[.string ((rd_T45 l1 x21_2).f0), .string ((rd_T45 l1 x21_2).f1), .string ((rd_T45 l1 x21_2).f2)]] rfl (by (try simp only [List.map_toArray, List.map_cons, List.map_nil]); first | done | rfl | (simp only [List.length_drop, List.length_take]; rfl)) ?_; (with_reducible refine (impl_withBlock.calls k2 _ _ x6_2 ((rd_T45 l1 x21_2).f0) ((rd_T45 l1 x21_2).f1) ((rd_T45 l1 x21_2).f2) t176 _ ?side1 ?side2 A16.out).mono ?_); (case side1 => refine (Kd.R_reads' (e := 45) (base := w.heap.size) (ok := fun k_ => (True ∧ k_ ≠ gb175)) (n := x6_2.length) (c := co19) ?_).2.2; exact (by (with_reducible repeat (first | apply Kd.R_alloc | apply Kd.R_drewN | apply Kd.R_drew)); exact (Kd.R_mono (Kd.R_far (p := ⟨gb175, 2, none⟩) (Kd.R_far (p := ⟨gb175, 1, none⟩) (Kd.R_far (p := ⟨gb175, 0, none⟩) (Kd.R_mono HO_6.out (fun k_ hk => (⟨hk, hk.2⟩ : _ ∧ k_ ≠ gb175))) (fun _ hk => hk.2) (.string ((rd_T45 l1 x21_2).f0))) (fun _ hk => hk.2) (.string ((rd_T45 l1 x21_2).f1))) (fun _ hk => hk.2) (.string ((rd_T45 l1 x21_2).f2))) (fun _ h_ => h_.1)))); (case side2 => exact (Kd.R_reads' HO_6.out).2.1); rintro e w20 ⟨v177, rfl, ho0, hb⟩; refine ⟨_, rfl, ?_⟩; have n0_ := Aside0.mk (Kd.R_elder' (by (with_reducible repeat (first | apply Kd.R_alloc | apply Kd.R_drewN | apply Kd.R_drew)); exact (Kd.R_mono (Kd.R_far (p := ⟨gb175, 2, none⟩) (Kd.R_far (p := ⟨gb175, 1, none⟩) (Kd.R_far (p := ⟨gb175, 0, none⟩) (Kd.R_mono HO_6.out (fun k_ hk => (⟨hk, hk.2⟩ : _ ∧ k_ ≠ gb175))) (fun _ hk => hk.2) (.string ((rd_T45 l1 x21_2).f0))) (fun _ hk => hk.2) (.string ((rd_T45 l1 x21_2).f1))) (fun _ hk => hk.2) (.string ((rd_T45 l1 x21_2).f2))) (fun _ h_ => h_.1))) (Kd.R_base ho0) hb); have n1_ := Aside0.mk (Kd.R_lower (Kd.R_newB (Kd.R_new' ho0 (Kd.R_lt (by (with_reducible repeat (first | apply Kd.R_alloc | apply Kd.R_drewN | apply Kd.R_drew)); exact (Kd.R_mono (Kd.R_far (p := ⟨gb175, 2, none⟩) (Kd.R_far (p := ⟨gb175, 1, none⟩) (Kd.R_far (p := ⟨gb175, 0, none⟩) (Kd.R_mono HO_6.out (fun k_ hk => (⟨hk, hk.2⟩ : _ ∧ k_ ≠ gb175))) (fun _ hk => hk.2) (.string ((rd_T45 l1 x21_2).f0))) (fun _ hk => hk.2) (.string ((rd_T45 l1 x21_2).f1))) (fun _ hk => hk.2) (.string ((rd_T45 l1 x21_2).f2))) (fun _ h_ => h_.1))))) (g := gb175) (o := .cells #[.string ((rd_T45 l1 x21_2).f0), .string ((rd_T45 l1 x21_2).f1), .string ((rd_T45 l1 x21_2).f2)] 45 (0, 0)) (by (with_reducible repeat (first | refine blk_drewN ?_ _ | refine blk_drew ?_ | refine blk_alloc ?_ _)); refine blk_put (cs := #[.string ((rd_T45 l1 x21_2).f0), .string ((rd_T45 l1 x21_2).f1), .string (⟨#[]⟩ : ByteArray)]) ?_ 2 _ rfl; (with_reducible repeat (first | refine blk_drewN ?_ _ | refine blk_drew ?_ | refine blk_alloc ?_ _)); refine blk_put (cs := #[.string ((rd_T45 l1 x21_2).f0), .string (⟨#[]⟩ : ByteArray), .string (⟨#[]⟩ : ByteArray)]) ?_ 1 _ rfl; (with_reducible repeat (first | refine blk_drewN ?_ _ | refine blk_drew ?_ | refine blk_alloc ?_ _)); refine blk_put (cs := #[.string (⟨#[]⟩ : ByteArray), .string (⟨#[]⟩ : ByteArray), .string (⟨#[]⟩ : ByteArray)]) ?_ 0 _ rfl; (with_reducible repeat (first | refine blk_drewN ?_ _ | refine blk_drew ?_ | refine blk_alloc ?_ _)); exact BK175.out)) (below_size (by repeat (first | (with_reducible first | exact HB.out | apply below_alloc | apply pw_below_drewN | apply below_drew1 | refine below_set ?_ GE175.out) | exact HB.out)))); have n2_ := Aside0.mk (blk_below (g := gb175) (o := .cells #[.string ((rd_T45 l1 x21_2).f0), .string ((rd_T45 l1 x21_2).f1), .string ((rd_T45 l1 x21_2).f2)] 45 (0, 0)) (by (with_reducible repeat (first | refine blk_drewN ?_ _ | refine blk_drew ?_ | refine blk_alloc ?_ _)); refine blk_put (cs := #[.string ((rd_T45 l1 x21_2).f0), .string ((rd_T45 l1 x21_2).f1), .string (⟨#[]⟩ : ByteArray)]) ?_ 2 _ rfl; (with_reducible repeat (first | refine blk_drewN ?_ _ | refine blk_drew ?_ | refine blk_alloc ?_ _)); refine blk_put (cs := #[.string ((rd_T45 l1 x21_2).f0), .string (⟨#[]⟩ : ByteArray), .string (⟨#[]⟩ : ByteArray)]) ?_ 1 _ rfl; (with_reducible repeat (first | refine blk_drewN ?_ _ | refine blk_drew ?_ | refine blk_alloc ?_ _)); refine blk_put (cs := #[.string (⟨#[]⟩ : ByteArray), .string (⟨#[]⟩ : ByteArray), .string (⟨#[]⟩ : ByteArray)]) ?_ 0 _ rfl; (with_reducible repeat (first | refine blk_drewN ?_ _ | refine blk_drew ?_ | refine blk_alloc ?_ _)); exact BK175.out) hb); have n3_ := Aside0.mk (below_step (by repeat (first | (with_reducible first | exact HB.out | apply below_alloc | apply pw_below_drewN | apply below_drew1 | refine below_set ?_ GE175.out) | exact HB.out)) hb); clear HO_6; clear BK175; clear HB; have HO_6 := n0_; have HO178 := n1_; have BK175 := n2_; have HB := n3_; clear n0_ n1_ n2_ n3_; (try clear hb); (try clear hb2); (try clear hk); (try clear hi); (try clear ho0)))
                  go_roundg k2
                  case measure => have := HJ2.out; have := HK2.out; omega
                  case rel => exact ⟨(t176), (wrap64 (x21_2 + 1)), (by first | rfl | (simp; done) | (simp [*]; done)), H', ⟨by have := HJ2.out; have := HK2.out; omega⟩, ⟨by (with_reducible repeat (first | apply Kd.R_alloc | apply Kd.R_drewN | apply Kd.R_drew)); exact Kd.R_mono HO178.out (fun _ hk => trivial)⟩, ⟨by repeat (first | (with_reducible first | exact HB.out | apply below_alloc | apply pw_below_drewN | apply below_drew1 | refine below_set ?_ GE175.out) | exact HB.out)⟩⟩
                · rw [if_neg c15] at H
                  exact absurd H (by simp)
              · rw [if_neg c14] at H
                exact absurd H (by simp)
            · rw [if_neg c13] at H
              have c13b0 : decide (x21_2 < (l1.length : Int)) = false := decide_eq_false c13
              clear c13
              by_cases c21 : (x6_2.length : Int) > 32
              · rw [if_pos c21] at H
                have c21b0 : decide (32 < (x6_2.length : Int)) = true := decide_eq_true c21
                have c21b1 : decide (32 < x6_2.length) = true := decide_eq_true (by omega)
                clear c21
                simp only [Option.some.injEq, Prod.mk.injEq] at H
                obtain ⟨rfl, rfl⟩ := H
                obtain ⟨Ao22, co22, eo22⟩ := Kd.R_slice HO_6.out
                subst eo22
                go_wp2
                go_ret2
                exact ⟨_, by first | rfl | (simp [errW_none, errW_some] <;> rfl) | (simp [*, errW_none, errW_some] <;> rfl), by first | exact Kd.R_nil _ _ _ _ _ | exact Kd.N_nil _ _ _ _ _ | exact Kd.V_nil _ _ _ _ _ | exact Kd.Q_nil _ _ _ _ _ | exact Kd.S_nil _ _ _ _ _, by repeat (first | (with_reducible first | exact HB.out | apply below_alloc | apply pw_below_drewN | apply below_drew1) | exact HB.out)⟩
              · rw [if_neg c21] at H
                have c21b0 : decide (32 < (x6_2.length : Int)) = false := decide_eq_false c21
                have c21b1 : decide (32 < x6_2.length) = false := decide_eq_false (by omega)
                clear c21
                simp only [Option.some.injEq, Prod.mk.injEq] at H
                obtain ⟨rfl, rfl⟩ := H
                obtain ⟨Ao23, co23, eo23⟩ := Kd.R_slice HO_6.out
                subst eo23
                go_wp2
                go_ret2
                exact ⟨_, by first | rfl | (simp [errW_none, errW_some] <;> rfl) | (simp [*, errW_none, errW_some] <;> rfl), by (with_reducible repeat (first | apply Kd.R_alloc | apply Kd.R_drewN | apply Kd.R_drew)); exact HO_6.out, by repeat (first | (with_reducible first | exact HB.out | apply below_alloc | apply pw_below_drewN | apply below_drew1) | exact HB.out)⟩
end Go.Proofs.Ytnabckhhnknlaaa.XV
end

section
namespace Go.Proofs.Ytnabckhhnknlaaa.XV
open Go.RowKit Go.Proofs.YtnabckhhnknlaaaW.PrintWords Go.Proofs.YtnabckhhnknlaaaW.PrintLast Go.Proofs.YtnabckhhnknlaaaW.PrintMore
attribute [local go_sem] run_eql_slice_nil binOp_string_gtr' binOp_string_leq' binOp_string_geq' max2_int min2_int max_two min_two max_three min_three max_four min_four   -- for this text's walks alone
set_option linter.unusedVariables false
set_option linter.unusedSimpArgs false
def laws_r8Long.f (l0 : List Int) (l1 : List Int) : Option (Bool) := if (l0.length : Int) > 1048576 then (some true) else (some (decide ((l1.length : Int) > 1048576)))
set_option maxHeartbeats 8000000 in
set_option maxRecDepth 100000 in
theorem laws_r8Long.calls (A0 : Option Addr) (c0 : Nat) (l0 : List Int) (A1 : Option Addr) (c1 : Nat) (l1 : List Int) (r : Bool) (w : World) (hr0 : Kd.C (Kd.int .u8) w A0 l0.length l0) (hc0 : l0.length ≤ c0) (hr1 : Kd.C (Kd.int .u8) w A1 l1.length l1) (hc1 : l1.length ≤ c1) (h : laws_r8Long.f l0 l1 = some r) :
    Calls Try.prog 32 #[.slice A0 l0.length c0, .slice A1 l1.length c1] w fun e w' => e = .returned (.bool r) ∧ Drawn0 w w' := by
  have HR0 := Aside0.mk hr0
  have HC0 := Aside0.mk hc0
  clear hr0 hc0
  have HR1 := Aside0.mk hr1
  have HC1 := Aside0.mk hc1
  clear hr1 hc1
  have H : (if (l0.length : Int) > 1048576 then (some true) else (some (decide ((l1.length : Int) > 1048576)))) = some r := h
  clear h
  by_cases c3 : (l0.length : Int) > 1048576
  · rw [if_pos c3] at H
    have c3b0 : decide (1048576 < (l0.length : Int)) = true := decide_eq_true c3
    have c3b1 : decide (1048576 < l0.length) = true := decide_eq_true (by omega)
    clear c3
    obtain rfl := Option.some.inj H
    go_enter Try.func32, Try.ntmps32
    go_wp2
    go_ret
    exact ⟨by first | rfl | (simp; done) | (simp [*]; done), by repeat (first | exact Drawn0.refl _ | apply Drawn0.step)⟩
  · rw [if_neg c3] at H
    have c3b0 : decide (1048576 < (l0.length : Int)) = false := decide_eq_false c3
    have c3b1 : decide (1048576 < l0.length) = false := decide_eq_false (by omega)
    clear c3
    obtain rfl := Option.some.inj H
    go_enter Try.func32, Try.ntmps32
    go_wp2
    go_ret
    exact ⟨by first | rfl | (simp; done) | (simp [*]; done), by repeat (first | exact Drawn0.refl _ | apply Drawn0.step)⟩
def IsS77 (w0 W : World) (g : Nat) (f0 : List Int) (f1 : Int) (f2 : Int) : Prop := ∃ A0 c0, W.heap[g]? = some (.cells #[.slice A0 f0.length c0, .int .i64 f1, .int .u64 f2] 77 (0, 0)) ∧ w0.heap.size ≤ g ∧ Kd.C (Kd.int .u8) w0 A0 f0.length f0
theorem IsS77.grown {w0 W : World} {g : Nat} {f0 : List Int} {f1 : Int} {f2 : Int} {W1 : World} {row : Option Nat} (h : IsS77 w0 W g f0 f1 f2) (hw : W.grownBy W1 row) (hne : some g ≠ row) : IsS77 w0 W1 g f0 f1 f2 := by
  obtain ⟨A0, c0, hb, hg, hr0⟩ := h
  exact ⟨A0, c0, blk_grown hb hw hne, hg, hr0⟩
theorem IsS77.kept {w0 W : World} {g : Nat} {f0 : List Int} {f1 : Int} {f2 : Int} {W1 : World} {S : Nat → Prop} (h : IsS77 w0 W g f0 f1 f2) (hk : Kept W W1 S) (hne : ¬ S g) : IsS77 w0 W1 g f0 f1 f2 := by
  obtain ⟨A0, c0, hb, hg, hr0⟩ := h
  exact ⟨A0, c0, blk_kept hb hk hne, hg, hr0⟩
theorem IsS77.below {w0 W : World} {g : Nat} {f0 : List Int} {f1 : Int} {f2 : Int} {W1 : World} (h : IsS77 w0 W g f0 f1 f2) (hw : Below W.heap.size W W1) : IsS77 w0 W1 g f0 f1 f2 := h.grown (grown_of_below hw none) (by simp)
theorem IsS77.alloc {w0 W : World} {g : Nat} {f0 : List Int} {f1 : Int} {f2 : Int} (h : IsS77 w0 W g f0 f1 f2) (o : Obj) : IsS77 w0 (W.alloc o) g f0 f1 f2 := h.below (below_alloc (Below.refl _ _) o)
theorem IsS77.drewN {w0 W : World} {g : Nat} {f0 : List Int} {f1 : Int} {f2 : Int} (h : IsS77 w0 W g f0 f1 f2) (m : Nat) : IsS77 w0 (W.drewN m) g f0 f1 f2 := h
theorem IsS77.drew {w0 W : World} {g : Nat} {f0 : List Int} {f1 : Int} {f2 : Int} (h : IsS77 w0 W g f0 f1 f2) : IsS77 w0 W.drew g f0 f1 f2 := h
theorem IsS77.at_ {w0 W : World} {g : Nat} {f0 : List Int} {f1 : Int} {f2 : Int} {w' : World} {m : Nat} (hq : W.drewN m = w') (h : IsS77 w0 W g f0 f1 f2) : IsS77 w0 w' g f0 f1 f2 := by subst hq; exact IsS77.drewN h m
theorem IsS77.apart {w0 W : World} {g : Nat} {f0 : List Int} {f1 : Int} {f2 : Int} {α : Type} {d : Kd α} {e : Nat} {base : Nat} {ok : Nat → Prop} {v : Value} {xs : List α} (h : IsS77 w0 W g f0 f1 f2) (ho : d.R e W base ok v xs) (ht : ∀ q, q ∈ e :: d.E → q ≠ 77) : d.R e W base (fun k => ok k ∧ k ≠ g) v xs := by
  obtain ⟨A0, c0, hb, hg, hr0⟩ := h
  exact Kd.R_types ho hb ht
theorem IsS77.own_ne {w0 W : World} {g : Nat} {f0 : List Int} {f1 : Int} {f2 : Int} {α : Type} {d : Kd α} {e : Nat} {base : Nat} {ok : Nat → Prop} {v : Value} {xs : List α} (h : IsS77 w0 W g f0 f1 f2) (ho : d.R e W base ok v xs) (ht : e ≠ 77) : some g ≠ v.ownBlock := by
  obtain ⟨A0, c0, hb, hg, hr0⟩ := h
  exact Kd.R_ne ho hb ht
theorem IsS77.lt {w0 W : World} {g : Nat} {f0 : List Int} {f1 : Int} {f2 : Int} (h : IsS77 w0 W g f0 f1 f2) : g < W.heap.size := by
  obtain ⟨A0, c0, hb, hg, hr0⟩ := h
  exact blk_lt hb
theorem IsS77.ge {w0 W : World} {g : Nat} {f0 : List Int} {f1 : Int} {f2 : Int} (h : IsS77 w0 W g f0 f1 f2) : w0.heap.size ≤ g := by
  obtain ⟨A0, c0, hb, hg, hr0⟩ := h
  exact hg
theorem IsS77.far {w0 W : World} {g : Nat} {f0 : List Int} {f1 : Int} {f2 : Int} {p : Addr} (h : IsS77 w0 W g f0 f1 f2) (hne : g ≠ p.block) (u : Value) : IsS77 w0 (W.setCell p u) g f0 f1 f2 := by
  obtain ⟨A0, c0, hb, hg, hr0⟩ := h
  exact ⟨A0, c0, blk_far hb hne u, hg, hr0⟩
theorem cellS77_0 {W : World} {g : Nat} {A0 : Option Addr} {c0 : Nat} {f0 : List Int} {f1 : Int} {f2 : Int} (h : W.heap[g]? = some (.cells #[.slice A0 f0.length c0, .int .i64 f1, .int .u64 f2] 77 (0, 0))) : W.cell? ⟨g, 0, none⟩ = some (.slice A0 f0.length c0) := (blk_cell h 0).trans rfl
theorem cellS77_1 {W : World} {g : Nat} {A0 : Option Addr} {c0 : Nat} {f0 : List Int} {f1 : Int} {f2 : Int} (h : W.heap[g]? = some (.cells #[.slice A0 f0.length c0, .int .i64 f1, .int .u64 f2] 77 (0, 0))) : W.cell? ⟨g, 1, none⟩ = some (.int .i64 f1) := (blk_cell h 1).trans rfl
theorem IsS77.set_1 {w0 W : World} {g : Nat} {f0 : List Int} {f1 : Int} {f2 : Int} (h : IsS77 w0 W g f0 f1 f2) (x : Int) : IsS77 w0 (W.setCell ⟨g, 1, none⟩ (.int .i64 x)) g f0 x f2 := by
  obtain ⟨A0, c0, hb, hg, hr0⟩ := h
  exact ⟨A0, c0, by simpa using blk_set hb 1 (.int .i64 x), hg, hr0⟩
theorem cellS77_2 {W : World} {g : Nat} {A0 : Option Addr} {c0 : Nat} {f0 : List Int} {f1 : Int} {f2 : Int} (h : W.heap[g]? = some (.cells #[.slice A0 f0.length c0, .int .i64 f1, .int .u64 f2] 77 (0, 0))) : W.cell? ⟨g, 2, none⟩ = some (.int .u64 f2) := (blk_cell h 2).trans rfl
theorem IsS77.set_2 {w0 W : World} {g : Nat} {f0 : List Int} {f1 : Int} {f2 : Int} (h : IsS77 w0 W g f0 f1 f2) (x : Int) : IsS77 w0 (W.setCell ⟨g, 2, none⟩ (.int .u64 x)) g f0 f1 x := by
  obtain ⟨A0, c0, hb, hg, hr0⟩ := h
  exact ⟨A0, c0, by simpa using blk_set hb 2 (.int .u64 x), hg, hr0⟩
def spec_l00From.f (l0 : List Int) : Option (List Int × Int × Int) := some (l0, 0, 0)
set_option maxHeartbeats 8000000 in
set_option maxRecDepth 100000 in
theorem spec_l00From.calls (A0 : Option Addr) (c0 : Nat) (l0 : List Int) (r1 : List Int) (r2 : Int) (r3 : Int) (w0 w : World) (hB : Below w0.heap.size w0 w) (hr0 : Kd.C (Kd.int .u8) w0 A0 l0.length l0) (hc0 : l0.length ≤ c0) (h : spec_l00From.f l0 = some (r1, r2, r3)) :
    Calls Try.prog 47 #[.slice A0 l0.length c0] w fun e w' => ∃ g_ : Nat, e = .returned (.pointer (some ⟨g_, 0, none⟩)) ∧ IsS77 w0 w' g_ r1 r2 r3 ∧ Below w0.heap.size w0 w' ∧ Below w.heap.size w w' := by
  have hu77 := Try.underlying77
  have HR0 := Aside0.mk hr0
  have HC0 := Aside0.mk hc0
  clear hr0 hc0
  have HBW := Aside0.mk (Below.refl w.heap.size w)
  have HW0 := Aside0.mk hB.size
  have HB := Aside0.mk hB
  clear hB
  have H : (some (l0, 0, 0)) = some (r1, r2, r3) := h
  clear h
  simp only [Option.some.injEq, Prod.mk.injEq] at H
  obtain ⟨rfl, rfl, rfl⟩ := H
  go_enter Try.func47, Try.ntmps47
  go_wp2_with (first | ((with_reducible refine gate_dst (N := 5) rfl ?_); refine box_event ?hg (N := 5) ?hd (cs := #[.slice A0 l0.length c0, .int .i64 0, .int .u64 0]) (t := 77) ?hr ?_; (case hd => rfl); (case hg => rfl); (case hr => first | (go_simp; done) | (go_simp; rfl)); intro gb179 hg w2 hbox hb; have n0_ := Aside0.mk (below_step HBW.out hb); have n1_ := Aside0.mk (below_step (by repeat (first | (with_reducible first | exact HB.out | apply below_alloc | apply pw_below_drewN | apply below_drew1) | exact HB.out)) hb); have n2_ := Aside0.mk (hbox); have n3_ := Aside0.mk ((by rw [hg]; exact (below_size (by repeat (first | (with_reducible first | exact HBW.out | apply below_alloc | apply pw_below_drewN | apply below_drew1) | exact HBW.out))) : w.heap.size ≤ gb179)); have n4_ := Aside0.mk ((Nat.le_trans HW0.out (by rw [hg]; exact (below_size (by repeat (first | (with_reducible first | exact HBW.out | apply below_alloc | apply pw_below_drewN | apply below_drew1) | exact HBW.out))) : w.heap.size ≤ gb179) : w0.heap.size ≤ gb179)); clear HBW; clear HB; have HBW := n0_; have HB := n1_; have BK179 := n2_; have GW179 := n3_; have GE179 := n4_; clear n0_ n1_ n2_ n3_ n4_; clear hb hbox hg))
  go_ret
  exact ⟨_, rfl, (show IsS77 w0 _ gb179 l0 0 0 from ⟨_, _, by (with_reducible repeat (first | refine blk_drewN ?_ _ | refine blk_drew ?_ | refine blk_alloc ?_ _)); exact BK179.out, GE179.out, HR0.out⟩), by repeat (first | (with_reducible first | exact HB.out | apply below_alloc | apply pw_below_drewN | apply below_drew1 | refine below_set ?_ GE179.out) | exact HB.out), by repeat (first | (with_reducible first | exact HBW.out | apply below_alloc | apply pw_below_drewN | apply below_drew1 | refine below_set ?_ GW179.out) | exact HBW.out)⟩
end Go.Proofs.Ytnabckhhnknlaaa.XV
end
