/- The law FnExactSalvageBlocks: part 7 of its texts, joined (wip/pack.py). -/
import Derived.Test.YtkllogmpaaeokaaDoorKFnExactSalvageBlocksa
import Derived.Test.YtkllogmpaaeokaaDoorKFnExactSalvageBlocksb
import Derived.Test.YtkllogmpaaeokaaDoorKFnExactSalvageBlocksc
import Derived.Test.YtkllogmpaaeokaaDoorKFnExactSalvageBlocksd
import Derived.Test.YtkllogmpaaeokaaDoorKFnExactSalvageBlockse
import Derived.Test.YtkllogmpaaeokaaDoorKFnExactSalvageBlocksf
import Derived.Test.YtkllogmpaaeokaaDoorKFnExactSalvageBlocksg
import Derived.Laws.CopyRow
import Derived.Laws.Tables
import Derived.Lib.Overlaps
import Derived.Lib.AppendZerosOnto
import Derived.Deep.RegionLaw

section
namespace Go.Proofs.YtkllogmpaaeokaaDoor.XS
open Go.RowKit Go.Proofs.YtkllogmpaaeokaaDoorW.PrintWords Go.Proofs.YtkllogmpaaeokaaDoorW.PrintLast Go.Proofs.YtkllogmpaaeokaaDoorW.PrintMore
attribute [local go_sem] run_eql_slice_nil binOp_string_gtr' binOp_string_leq' binOp_string_geq' max2_int min2_int max_two min_two max_three min_three max_four min_four   -- for this text's walks alone
set_option linter.unusedVariables false
set_option linter.unusedSimpArgs false
def slices_Clone_BlockS.f (l0 : List (S35)) : Option ((List (S35))) := (some (([] : List (S35)) : List (S35))).bind fun y279 => (if y279.length + l0.length < 2932031007402 then (some (y279 ++ l0)) else (none))
set_option maxHeartbeats 8000000 in
set_option maxRecDepth 100000 in
theorem slices_Clone_BlockS.calls (A0 : Option Addr) (c0 : Nat) (l0 : List (S35)) (r : List (S35)) (w : World) (hr0 : Kd.C k35 w A0 l0.length l0) (hc0 : l0.length ≤ c0) (h : slices_Clone_BlockS.f l0 = some r) :
    Calls Tryd.prog 47 #[.slice A0 l0.length c0] w fun e w' => ∃ v0_ : Value, e = .returned (v0_) ∧ Kd.R k35 35 w' w.heap.size (fun _ => True) v0_ r ∧ Below w.heap.size w w' := by
  have HR0 := Aside0.mk hr0
  have HC0 := Aside0.mk hc0
  clear hr0 hc0
  have HB := Aside0.mk (Below.refl w.heap.size w)
  have H : ((some (([] : List (S35)) : List (S35))).bind fun y279 => (if y279.length + l0.length < 2932031007402 then (some (y279 ++ l0)) else (none))) = some r := h
  clear h
  by_cases hz2 : A0 = none
  · subst hz2
    have hl_ : l0 = [] := nil_of_C HR0.out
    subst hl_
    have H1 : (some ([] : List (S35))) = some r := by simpa using H
    clear H
    have H := H1
    clear H1
    obtain rfl := Option.some.inj H
    go_enter Tryd.func47, Tryd.ntmps47
    go_wp2
    go_ret
    exact ⟨_, by first | rfl | (simp [errW_none, errW_some] <;> rfl) | (simp [*, errW_none, errW_some] <;> rfl), by first | exact Kd.R_nil _ _ _ _ _ | exact Kd.N_nil _ _ _ _ _ | exact Kd.V_nil _ _ _ _ _ | exact Kd.Q_nil _ _ _ _ _ | exact Kd.S_nil _ _ _ _ _, by repeat (first | (with_reducible first | exact HB.out | apply below_alloc | apply pw_below_drewN | apply below_drew1) | exact HB.out)⟩
  · have hz2b : A0.isNone = false := by cases A0 <;> simp_all
    clear hz2
    obtain ⟨y279, hy279⟩ : ∃ y_ : List (S35), y_ = (([] : List (S35))) := ⟨_, rfl⟩
    replace H : (if y279.length + l0.length < 2932031007402 then (some (y279 ++ l0)) else (none)) = some r := by first | (rw [hy279]; with_reducible exact H) | (have H2_ := (Option.bind_some _ _).symm.trans H; rw [hy279]; with_reducible exact H2_) | (have H2_ := (Option.bind_some _ _).symm.trans H; with_reducible exact H2_) | with_reducible exact H | (rw [hy279]; exact H) | exact H
    have Ny279 := Aside0.mk hy279
    clear hy279
    by_cases c3 : y279.length + l0.length < 2932031007402
    · rw [if_pos c3] at H
      have LMc3 := Aside0.mk c3
      clear c3
      obtain ⟨y282, hy282⟩ : ∃ y_ : List (S35), y_ = (y279 ++ l0) := ⟨_, rfl⟩
      replace H : (some y282) = some r := by first | (rw [hy282]; with_reducible exact H) | (have H2_ := (Option.bind_some _ _).symm.trans H; rw [hy282]; with_reducible exact H2_) | (have H2_ := (Option.bind_some _ _).symm.trans H; with_reducible exact H2_) | with_reducible exact H | (rw [hy282]; exact H) | exact H
      have Ny282 := Aside0.mk hy282
      clear hy282
      obtain rfl := Option.some.inj H
      go_enter Tryd.func47, Tryd.ntmps47
      go_wp2_with (first | ((with_reducible refine gate_dst (N := 5) rfl ?_); refine Kd.R_lit k35 _ 35 ?hg (N := 5) ?hd (xs := ([] : List (S35))) (inner := []) (ok := fun _ => True) (okp := fun _ => True) ?hr ?hp (fun _ hk => hk) trivial (Below.refl _ _) (Nat.le_refl _) (by simp) ?_; (case hd => rfl); (case hg => rfl); (case hr => first | (go_simp; done) | (go_simp; rfl)); (case hp => exact (Reps.none _ _)); intro v280 w4 ho5 hb hg_ hnew_; clear hg_ hnew_; (first | rw [← Ny279.out] at ho5 | (simp only [Int.reduceToNat] at ho5; rw [← Ny279.out] at ho5)); have n0_ := Aside0.mk (Kd.R_lower ho5 (below_size (by repeat (first | (with_reducible first | exact HB.out | apply below_alloc | apply pw_below_drewN | apply below_drew1) | exact HB.out)))); have n1_ := Aside0.mk (below_step (by repeat (first | (with_reducible first | exact HB.out | apply below_alloc | apply pw_below_drewN | apply below_drew1) | exact HB.out)) hb); clear HB; have HO281 := n0_; have HB := n1_; clear n0_ n1_; clear hb ho5) | ((with_reducible refine gate_builtin (b := .append) (xs := #[.tmp 5, .tmp 6]) rfl ?_); at_builtin; refine Kd.R_append_rows k35 (w0 := w) w.heap.size rfl (.tmp 5) (.tmp 6) 22 35 (.agg #[(.string ⟨#[]⟩), (.string ⟨#[]⟩), (.string ⟨#[]⟩)]) 48 rfl Tryd.underlying22 info35 rfl (by decide) (by omega) v280 y279 l0 _ _ _ (fun _ => True) (fun _ => False) rfl rfl ?aO ?aR (fun _ _ h => h) (fun _ h => h.elim) ?aF ?aB ?aS ?aL ?_; (case aR => repeat (first | exact (Kd.C_below HR0.out HB.out) | (with_reducible refine Kd.C_alloc ?_ _) | (with_reducible refine Kd.C_drewN ?_ _) | (with_reducible refine Kd.C_drew ?_))); (case aB => exact (by repeat (first | (with_reducible first | exact HB.out | apply below_alloc | apply pw_below_drewN | apply below_drew1) | exact HB.out))); (case aF => exact (fun _ _ => trivial)); (case aO => exact (by (with_reducible repeat (first | apply Kd.R_alloc | apply Kd.R_drewN | apply Kd.R_drew)); exact HO281.out)); (case aS => exact (below_size (by repeat (first | (with_reducible first | exact HB.out | apply below_alloc | apply pw_below_drewN | apply below_drew1) | exact HB.out)))); (case aL => have := LMc3.out; omega); intro v283 w6 ho hb hg hat; rw [← Ny282.out] at ho; have n0_ := Aside0.mk (hb); have n1_ := Aside0.mk (ho); clear HB; clear HO281; have HB := n0_; have HO284 := n1_; clear n0_ n1_; clear ho hb hg hat))
      go_ret
      exact ⟨_, by first | rfl | (simp [errW_none, errW_some] <;> rfl) | (simp [*, errW_none, errW_some] <;> rfl), by (with_reducible repeat (first | apply Kd.R_alloc | apply Kd.R_drewN | apply Kd.R_drew)); exact HO284.out, by repeat (first | (with_reducible first | exact HB.out | apply below_alloc | apply pw_below_drewN | apply below_drew1) | exact HB.out)⟩
    · rw [if_neg c3] at H
      exact absurd H (by simp)
end Go.Proofs.YtkllogmpaaeokaaDoor.XS
end

section
namespace Go.Proofs.YtkllogmpaaeokaaDoorW.PrintWords
open Go.RowKit
set_option linter.unusedVariables false
section
variable {P : Program}
theorem run_copy_row_sz (w : World) (dT sT ty elem : TypeId) (g o dLen dCap : Nat) (a : Addr) (sLen sCap k sz : Nat) (cur : Array Value) (t : TypeId) (cs : List Value)
    (hu : P.underlying dT = some (.slice elem)) (hs : (P.info? elem).map (·.size) = some sz)
    (hg : w.heap[g]? = some (.cells cur t (0, 0))) (hk : Nat.min sLen dLen = k) (hn : cs.length = k * sz)
    (hsrc : ∀ j v, cs[j]? = some v → w.cell? (a.add j) = some v) (hfit : o + cs.length ≤ cur.size) (h1 : ∀ v ∈ cs, v.oneCell' = true) :
    (Builtin.copy_ #[dT, sT] ty #[.slice (some ⟨g, o, none⟩) dLen dCap, .slice (some a) sLen sCap]).run P w =
      .ok (goInt k) (w.setRow g (cur.toList.take o ++ cs ++ cur.toList.drop (o + cs.length)).toArray) := by
  have hl := run_loadCells_list (P := P) w a cs hsrc
  have hst := run_storeCells_at P g o t cs 0 cur w hg (by simpa using hfit) h1
  cases hq : P.info? elem with
  | none => simp [hq] at hs
  | some i =>
    have hi : i.size = sz := by simpa [hq] using hs
    simp only [Nat.add_zero] at hst
    rw [hn] at hl
    simp [Builtin.copy_, run_underlying hu, Builtin.lenOf, Builtin.firstCells, sizeOf, typeInfo, hq, hi, hk, hl, hst]
theorem wpList_copy_ (w : World) {ops : Array Oper} {rest : List Oper} {o : Oper} {a : Act} {Q : Exit → Act → World → Prop} (hgd : o.guard = none) (d s : Operand) (t t' : TypeId)
    (ho : o.op = .call { callee := .builtin .copy, args := #[d, s], argTypes := #[t, t'] }) (v u : Value) (hd : a.eval d = v) (hs : a.eval s = u) {v' : Value} {w' : World}
    (hr : (Builtin.copy_ #[t, t'] o.type #[v, u]).run P w = .ok v' w') (h : wpList P ops Q rest (a.put o.dst v') w') : wpList P ops Q (o :: rest) a w := by
  refine wpList_plain hgd fun K hK => ?_
  unfold Oper.wp execOp
  simp only [ho, resolve, invoke, builtin, Sem.run_bind, Sem.run_pure, Result.andThen_ok, List.map_toArray, List.map_cons, List.map_nil, hd, hs, hr]
  exact hK _ _ h
theorem step_copy_ {ops : Array Oper} {o : Oper} {a : Act} {w : World} {K : Act → World → Prop} {Q : Exit → Act → World → Prop} {E : Prop}
    (hg : o.guard = none) (d x : Operand) (dT sT : TypeId) (hop : o.op = Op.call { callee := Callee.builtin Builtin.copy, args := #[d, x], argTypes := #[dT, sT] })
    (v u : Value) (hd : a.eval d = v) (hx : a.eval x = u) {v' : Value} {w' : World} (hr : (Builtin.copy_ #[dT, sT] o.type #[v, u]).run P w = .ok v' w') (hK : K (a.put o.dst v') w') :
    if Region.wanted o (yielded ops a.tmps) = true then Oper.wp P o a w K Q else E := by
  rw [if_pos (show Region.wanted o (yielded ops a.tmps) = true by simp [Region.wanted, hg])]
  unfold Oper.wp
  simp [execOp, hop, resolve, invoke, builtin, hd, hx, hr, Result.andThen]
  exact hK
theorem run_cut_l (w : World) (t e : TypeId) (kl : IntKind) {i : TypeInfo} {sz : Nat} (ht : P.underlying t = some (.slice e)) (hi : P.info? e = some i) (hsz : i.size = sz) (g n c k : Nat) (hk : k ≤ n) (hc : k < c) :
    (Instr.slice t (.slice (some ⟨g, 0, none⟩) n c) (some (.int kl (k : Int))) none none).run P w = .ok (.slice (some ⟨g, k * sz, none⟩) (n - k) (c - k)) w := by
  have hel : P.elem t = e := by simp [Program.elem, ht]
  have hu : P.underlying t = some (.slice (P.elem t)) := by rw [hel]; exact ht
  have hp : (some (⟨g, 0, none⟩ : Addr)).map (fun x => x.add (k * sz)) = some ⟨g, k * sz, none⟩ := by
    rw [Option.map_some]; unfold Addr.add
    by_cases hk0 : k * sz = 0
    · rw [if_pos hk0, hk0]
    · rw [if_neg hk0, Nat.zero_add]
  have hsize : (sizeOf e).run P w = .ok sz w := by simp [sizeOf, typeInfo, hi, hsz]
  rw [run_slice_l w t (some ⟨g, 0, none⟩) n c hu kl (k : Int) (by omega) (by omega), hel, hsize]
  simp only [Result.andThen_ok, sliced, Int.toNat_natCast, if_neg (show ¬ (c = k) by omega), hp]
theorem run_cut_h (w : World) (t e : TypeId) (kh : IntKind) {i : TypeInfo} (ht : P.underlying t = some (.slice e)) (hi : P.info? e = some i) (g n c k : Nat) (hk : k ≤ c) :
    (Instr.slice t (.slice (some ⟨g, 0, none⟩) n c) none (some (.int kh (k : Int))) none).run P w = .ok (.slice (some ⟨g, 0, none⟩) k c) w := by
  have hel : P.elem t = e := by simp [Program.elem, ht]
  have hu : P.underlying t = some (.slice (P.elem t)) := by rw [hel]; exact ht
  have hsize : (sizeOf e).run P w = .ok i.size w := by simp [sizeOf, typeInfo, hi]
  rw [run_slice_h w t (some ⟨g, 0, none⟩) n c hu kh (k : Int) (by omega) (by omega), hel, hsize]
  have hp : (some (⟨g, 0, none⟩ : Addr)).map (fun x => x.add (0 * i.size)) = some ⟨g, 0, none⟩ := by
    rw [Option.map_some]; unfold Addr.add
    rw [if_pos (by omega)]
  simp only [Result.andThen_ok, sliced, Int.toNat_natCast, hp, Nat.sub_zero, ite_self]
theorem reps_insert {α : Type} {R : α → List Value → Prop} {sz : Nat} {l : List α} {inner cs : List Value} {b : α} (h : Reps R sz l inner) (hb : R b cs) (hc : cs.length = sz) (i : Nat) (hi : i ≤ l.length) :
    Reps R sz (l.take i ++ [b] ++ l.drop i) (inner.take (i * sz) ++ cs ++ inner.drop (i * sz)) :=
  Kd.reps_append (Reps.snoc (Kd.reps_take h hi) hb hc) (Kd.reps_drop h)
theorem insert_cells (L vs : List Value) (p q sz : Nat) (hpq : p ≤ q) (hL : q + sz ≤ L.length) (hv : vs.length = sz) :
    (((L.take (p + sz) ++ (L.take q).drop p ++ L.drop (p + sz + ((L.take q).drop p).length)).take p ++ vs ++ (L.take (p + sz) ++ (L.take q).drop p ++ L.drop (p + sz + ((L.take q).drop p).length)).drop (p + vs.length))).take (q + sz) = (L.take q).take p ++ vs ++ (L.take q).drop p := by
  have hX : ((L.take q).drop p).length = q - p := by rw [List.length_drop, List.length_take]; omega
  generalize (L.take q).drop p = X at hX
  have e1 : (L.take (p + sz) ++ X ++ L.drop (p + sz + X.length)).take p = L.take p := by
    rw [List.append_assoc, List.take_append_of_le_length (by rw [List.length_take]; omega), List.take_take, Nat.min_eq_left (by omega)]
  have e2 : (L.take (p + sz) ++ X ++ L.drop (p + sz + X.length)).drop (p + sz) = X ++ L.drop (p + sz + X.length) := by
    rw [List.append_assoc, List.drop_append_of_le_length (by rw [List.length_take]; omega), List.drop_take, Nat.sub_self, List.take_zero, List.nil_append]
  have e3 : (L.take q).take p = L.take p := by rw [List.take_take, Nat.min_eq_left hpq]
  rw [hv, e1, e2, e3, ← List.append_assoc]
  refine List.take_left' ?_
  rw [List.length_append, List.length_append, List.length_take, hv, hX]; omega
theorem insert_cells2 (R vs X : List Value) (p q sz : Nat) (hpq : p ≤ q) (hX : X.length = q - p) (hR : q + sz ≤ R.length) (hv : vs.length = sz) :
    ((R.take p ++ vs ++ R.drop (p + vs.length)).take (p + sz) ++ X ++ (R.take p ++ vs ++ R.drop (p + vs.length)).drop (p + sz + X.length)).take (q + sz) = R.take p ++ vs ++ X := by
  have e1 : (R.take p ++ vs ++ R.drop (p + vs.length)).take (p + sz) = R.take p ++ vs := List.take_left' (by rw [List.length_append, List.length_take, hv]; omega)
  rw [e1]
  refine List.take_left' ?_
  rw [List.length_append, List.length_append, List.length_take, hv, hX]; omega
theorem put_len (L vs : List Value) (p : Nat) (h : p + vs.length ≤ L.length) : (L.take p ++ vs ++ L.drop (p + vs.length)).length = L.length := by
  rw [List.length_append, List.length_append, List.length_take, List.length_drop]; omega
theorem blk_src {w : World} {g t o : Nat} {cur : Array Value} (h : w.heap[g]? = some (.cells cur t (0, 0))) (cs : List Value) (hc : ∀ j v, cs[j]? = some v → cur[o + j]? = some v) : ∀ j v, cs[j]? = some v → w.cell? ((⟨g, o, none⟩ : Addr).add j) = some v := by
  intro j v hj
  have e : (⟨g, o, none⟩ : Addr).add j = ⟨g, o + j, none⟩ := by unfold Addr.add; split <;> simp_all
  rw [e]
  exact (blk_cell h (o + j)).trans (hc j v hj)
theorem Kd.R_mk {α : Type} (d : Kd α) {W : World} {e base g n c : Nat} {ok : Nat → Prop} {cur : Array Value} {xs : List α} (hok : ok g) (hb : base ≤ g) (hh : W.heap[g]? = some (.cells cur e (0, 0))) (hn : n = xs.length) (hnc : n ≤ c) (hcm : c ≤ maxLen) (hcs : cur.size = c * d.sz)
    (hr : Reps (d.M W base (fun k => ok k ∧ some k ≠ (Value.slice (some ⟨g, 0, none⟩) n c).ownBlock)) d.sz xs (cur.toList.take (n * d.sz))) : d.R e W base ok (.slice (some ⟨g, 0, none⟩) n c) xs := by
  subst hn
  refine ⟨fun k hk => ?_, cur.toList.take (xs.length * d.sz), ⟨?_, .inr ⟨g, c, cur, rfl, hb, hh, hnc, hcm, hcs, rfl⟩⟩, hr⟩
  · have : g = k := by simpa [Value.ownBlock] using hk
    exact this ▸ hok
  · exact hr.1
theorem Kd.R_unmk {α : Type} {d : Kd α} {W : World} {e base g n c : Nat} {ok : Nat → Prop} {xs : List α} (h : d.R e W base ok (.slice (some ⟨g, 0, none⟩) n c) xs) :
    ∃ cur : Array Value, ok g ∧ base ≤ g ∧ W.heap[g]? = some (.cells cur e (0, 0)) ∧ n = xs.length ∧ n ≤ c ∧ c ≤ maxLen ∧ cur.size = c * d.sz ∧ Reps (d.M W base (fun k => ok k ∧ some k ≠ (Value.slice (some ⟨g, 0, none⟩) n c).ownBlock)) d.sz xs (cur.toList.take (n * d.sz)) := by
  obtain ⟨hn, hnc, _⟩ := R_reads' h
  obtain ⟨hok, inner, hown, hr⟩ := h
  rcases hown.2 with ⟨hv, _⟩ | ⟨g', cap', cur, hv, hb, hh, hnn, hcm, hcs, htake⟩
  · injection hv with hv _ _
    cases hv
  · injection hv with ha _ hc
    injection ha with ha
    injection ha with ha
    subst ha; subst hc
    rw [← hn] at htake
    exact ⟨cur, hok g (by simp [Value.ownBlock]), hb, hh, hn, hnc, hcm, hcs, htake ▸ hr⟩
end
end Go.Proofs.YtkllogmpaaeokaaDoorW.PrintWords
end

section
namespace Go.Proofs.YtkllogmpaaeokaaDoor.XS
open Go.RowKit Go.Proofs.YtkllogmpaaeokaaDoorW.PrintWords Go.Proofs.YtkllogmpaaeokaaDoorW.PrintLast Go.Proofs.YtkllogmpaaeokaaDoorW.PrintMore
attribute [local go_sem] run_eql_slice_nil binOp_string_gtr' binOp_string_leq' binOp_string_geq' max2_int min2_int max_two min_two max_three min_three max_four min_four   -- for this text's walks alone
set_option linter.unusedVariables false
set_option linter.unusedSimpArgs false
theorem impl_withBlock.one (b0 b1 b2 : ByteArray) : ∀ u ∈ [Value.string b0, .string b1, .string b2], u.oneCell' = true := by
  intro u hu
  simp only [List.mem_cons, List.not_mem_nil, or_false] at hu
  rcases hu with rfl | rfl | rfl <;> rfl
set_option maxHeartbeats 4000000 in
set_option maxRecDepth 100000 in
theorem impl_withBlock.ins_room (P0_ : Nat → Prop) (g c i vb : Nat) (l : List (S35)) (b : S35) (w0 w : World) (hB : Below w0.heap.size w0 w) (hR : Kd.R k35 35 w w0.heap.size P0_ (.slice (some ⟨g, 0, none⟩) l.length c) l)
    (hi : i < l.length) (hv : w.heap[vb]? = some (.cells #[.string b.f0, .string b.f1, .string b.f2] 35 (0, 0))) (hvb : vb ≠ g) (hroom : l.length + 1 ≤ c) :
    Calls Tryd.prog 48 #[.slice (some ⟨g, 0, none⟩) l.length c, .int .i64 i, .slice (some ⟨vb, 0, none⟩) 1 1] w fun e w' =>
      ∃ v0 : Value, e = .returned v0 ∧ Kd.R k35 35 w' w0.heap.size P0_ v0 (l.take i ++ [b] ++ l.drop i) ∧ Below w0.heap.size w0 w' := by
  obtain ⟨cur, hok, hgb, hh, _, hnc, hcm, hcs, hreps⟩ := Kd.R_unmk hR
  obtain ⟨i0, hi0, hz0, hsz0, hby0⟩ := info_parts info35
  have hcm' : c ≤ 9223372036854775807 := by unfold maxLen at hcm; omega
  have hinf : (Tryd.prog.info? 35).map (·.size) = some 3 := by rw [hi0]; simp [hsz0]
  have hcs3 : cur.size = c * 3 := hcs
  have hcl : cur.toList.length = c * 3 := by rw [Array.length_toList]; exact hcs
  have hinl : (cur.toList.take (l.length * 3)).length = l.length * 3 := by rw [List.length_take, hcl]; omega
  have hon : ∀ v ∈ cur.toList.take (l.length * 3), v.oneCell' = true := Kd.reps_one hreps (by decide) (fun p c hp => k35.K_one (k35.K_of_M hp))
  have hwsz := hB.size
  obtain ⟨n, hn⟩ : ∃ n, n = l.length := ⟨_, rfl⟩
  rw [← hn] at hreps hi hroom hnc hinl hon ⊢
  have s1 : ∀ W : World, (Instr.slice 22 (.slice (some ⟨g, 0, none⟩) n c) (some (.int .i64 (i : Int))) none none).run Tryd.prog W = .ok (.slice (some ⟨g, i * 3, none⟩) (n - i) (c - i)) W := fun W => run_cut_l W _ _ .i64 Tryd.underlying22 hi0 hsz0 g n c i (by omega) (by omega)
  have s2 : ∀ W : World, (Instr.slice 22 (.slice (some ⟨g, 0, none⟩) n c) none (some (.int .i64 ((n : Int) + 1))) none).run Tryd.prog W = .ok (.slice (some ⟨g, 0, none⟩) (n + 1) c) W := fun W => run_cut_h W _ _ .i64 Tryd.underlying22 hi0 g n c (n + 1) (by omega)
  have s3 : ∀ W : World, (Instr.slice 22 (.slice (some ⟨g, 0, none⟩) (n + 1) c) (some (.int .i64 ((i : Int) + 1))) none none).run Tryd.prog W = .ok (.slice (some ⟨g, (i + 1) * 3, none⟩) (n + 1 - (i + 1)) (c - (i + 1))) W := fun W => run_cut_l W _ _ .i64 Tryd.underlying22 hi0 hsz0 g (n + 1) c (i + 1) (by omega) (by omega)
  have s4 : ∀ W : World, (Instr.slice 22 (.slice (some ⟨g, 0, none⟩) (n + 1) c) (some (.int .i64 (i : Int))) none none).run Tryd.prog W = .ok (.slice (some ⟨g, i * 3, none⟩) (n + 1 - i) (c - i)) W := fun W => run_cut_l W _ _ .i64 Tryd.underlying22 hi0 hsz0 g (n + 1) c i (by omega) (by omega)
  have hov : ∀ lb cb, (callFunc 66 #[.slice (some ⟨vb, 0, none⟩) 1 1, .slice (some ⟨g, (i + 1) * 3, none⟩) lb cb]).run Tryd.prog w = .ok (.value (.bool false)) w := fun lb cb => by
    rw [run_callFunc_extern Tryd.func66 (by kernel_rfl) (by kernel_rfl) (by kernel_rfl) (e := Extern.SlicesOverlaps.overlaps #[22, 22] #[4]) (by kernel_rfl),
      Lib.run_overlaps_apart w 22 4 35 Tryd.underlying22 3 (fun W => by simp [sizeOf, typeInfo, hi0, hsz0]) ⟨vb, 0, none⟩ ⟨g, (i + 1) * 3, none⟩ 1 1 lb cb hvb 35 35 3 cur.size (by simp [World.shape?, hv]) (by simp [World.shape?, hh]) (by omega) (by simp [World.frozen?, hv]) (by simp [World.frozen?, hv])]
    rfl
  obtain ⟨X, hX⟩ : ∃ X, X = (cur.toList.take (n * 3)).drop (i * 3) := ⟨_, rfl⟩
  have hXl : X.length = (n - i) * 3 := by rw [hX, List.length_drop, hinl]; omega
  obtain ⟨L1, hL1⟩ : ∃ L1, L1 = cur.toList.take ((i + 1) * 3) ++ X ++ cur.toList.drop ((i + 1) * 3 + X.length) := ⟨_, rfl⟩
  have hL1l : L1.length = cur.size := by rw [hL1, put_len _ _ _ (by rw [hXl, hcl]; omega), hcl, hcs3]
  have hL2 := insert_cells cur.toList [Value.string b.f0, .string b.f1, .string b.f2] (i * 3) (n * 3) 3 (by omega) (by rw [hcl]; omega) rfl
  have hcp1 : ∀ (W : World), W.heap[g]? = some (.cells cur 35 (0, 0)) → ∀ ty dc sc, (Builtin.copy_ #[22, 22] ty #[.slice (some ⟨g, (i + 1) * 3, none⟩) (n - i) dc, .slice (some ⟨g, i * 3, none⟩) (n + 1 - i) sc]).run Tryd.prog W = .ok (goInt (n - i : Nat)) (W.setRow g L1.toArray) := fun W hW ty dc sc => by
    rw [hL1]
    exact run_copy_row_sz W _ _ ty 35 g ((i + 1) * 3) (n - i) dc ⟨g, i * 3, none⟩ (n + 1 - i) sc (n - i) 3 cur 35 X Tryd.underlying22 hinf hW (by simp only [Nat.min_def]; split <;> omega) hXl
      (blk_src hW X (fun j v hj => by
        rw [hX, List.getElem?_drop, List.getElem?_take] at hj
        split at hj
        · simpa using hj
        · cases hj)) (by rw [hXl]; omega) (fun v hv => hon v (by rw [hX] at hv; exact List.mem_of_mem_drop hv))
  have hcp2 : ∀ (W : World), W.heap[g]? = some (.cells L1.toArray 35 (0, 0)) → W.heap[vb]? = some (.cells #[.string b.f0, .string b.f1, .string b.f2] 35 (0, 0)) → ∀ ty dc, (Builtin.copy_ #[22, 22] ty #[.slice (some ⟨g, i * 3, none⟩) (n + 1 - i) dc, .slice (some ⟨vb, 0, none⟩) 1 1]).run Tryd.prog W = .ok (goInt (1 : Nat)) (W.setRow g (L1.take (i * 3) ++ [Value.string b.f0, .string b.f1, .string b.f2] ++ L1.drop (i * 3 + 3)).toArray) := fun W hW hWv ty dc =>
    run_copy_row_sz W _ _ ty 35 g (i * 3) (n + 1 - i) dc ⟨vb, 0, none⟩ 1 1 1 3 L1.toArray 35 [Value.string b.f0, .string b.f1, .string b.f2] Tryd.underlying22 hinf hW (by simp only [Nat.min_def]; split <;> omega) rfl
      (blk_src hWv _ (fun j v hj => by simpa using hj)) (by simp; omega) (impl_withBlock.one _ _ _)
  have HW1 := Aside0.mk hL1
  have HX := Aside0.mk hX
  have HXl := Aside0.mk hXl
  have HL1l := Aside0.mk hL1l
  have HL2 := Aside0.mk hL2
  have HB := Aside0.mk hB
  have HR := Aside0.mk hreps
  have HH := Aside0.mk hh
  have HV := Aside0.mk hv
  have HN := Aside0.mk hn
  have HC := Aside0.mk hcs3
  have HOK := Aside0.mk hok
  have HON := Aside0.mk hon
  have HSZ := Aside0.mk hwsz
  have hz2 : ¬ ((i : Int) = (n : Int)) := by omega
  have hz3 : ¬ ((c : Int) < (n : Int) + 1) := by omega
  clear hL1 hX hXl hL1l hL2 hB hreps hh hv hn hcs3 hcs hok hon hinl hcl hwsz hR hcm hinf hi0 hz0 hsz0 hby0
  go_enter Tryd.func48, Tryd.ntmps48
  go_wp2_with (simp only [hov])
  have hw1 : IntKind.i64.wrap ((i : Int) + 1) = (i : Int) + 1 := by rw [IntKind.wrap_i64]; omega
  have hb1 : (0 : Int) ≤ (i : Int) + 1 := by omega
  have hb2 : (i : Int) + 1 ≤ (n : Int) + 1 := by omega
  have hb3 : (i : Int) ≤ (n : Int) + 1 := by omega
  have htn : ((i : Int) + 1).toNat = i + 1 := by omega
  have hb4 : ¬ (c = i + 1) := by omega
  have hb5 : ¬ (c = i) := by omega
  have hin : i ≤ n := by omega
  go_region_law (go_loud (refine step_copy_ rfl _ _ 22 22 rfl (.slice (some ⟨g, (i + 1) * 3, none⟩) (n - i) (c - (i + 1))) (.slice (some ⟨g, i * 3, none⟩) (n + 1 - i) (c - i)) (by simp [Act.eval, Act.put]) (by simp [Act.eval, Act.put]) (hcp1 w.drew HH.out _ _ _) ?_))
  clear hw1 hb1 hb2 hb3 htn hb4 hb5 hin
  go_wp2_with ((with_reducible refine gate_builtin (b := .copy) (xs := #[.tmp 80, .tmp 81]) rfl ?_); go_loud (refine wpList_copy_ _ rfl _ _ 22 22 rfl _ _ rfl rfl (hcp2 (w.drew.setRow g L1.toArray) (setRow_heap w.drew g cur _ _ _ HH.out) ((setRow_other w.drew g vb _ hvb).trans HV.out) _ _) ?_))
  go_ret
  have e3 : (n + 1) * 3 = n * 3 + 3 := by omega
  have e4 : (i + 1) * 3 = i * 3 + 3 := by omega
  refine ⟨.slice (some ⟨g, 0, none⟩) (n + 1) c, rfl, ?_, ?_⟩
  · rw [setRow_setRow]
    refine Kd.R_mk k35 HOK.out hgb (setRow_heap w.drew g cur _ _ _ HH.out) (by have := HN.out; simp; omega) hroom (by unfold maxLen; omega) ?_ ?_
    · have h1 := put_len L1 [Value.string b.f0, .string b.f1, .string b.f2] (i * 3) (by simp; have := HL1l.out; have := HC.out; omega)
      simp only [List.append_assoc, List.cons_append, List.nil_append, List.length_cons, List.length_nil] at h1
      rw [List.size_toArray, h1, HL1l.out]
      exact HC.out
    · have h2 := HL2.out
      rw [← HX.out, ← e4, ← HW1.out] at h2
      show Reps _ 3 _ (List.take ((n + 1) * 3) _)
      rw [List.toList_toArray, e3]
      simp only [List.append_assoc, List.cons_append, List.nil_append, List.length_cons, List.length_nil] at h2 ⊢
      rw [h2]
      have h3 := reps_insert (HR.out.imp_ (R' := k35.M ((w.drew.setRow g (L1.take (i * 3) ++ Value.string b.f0 :: Value.string b.f1 :: Value.string b.f2 :: L1.drop (i * 3 + 3)).toArray)) w0.heap.size (fun k => P0_ k ∧ some k ≠ (Value.slice (some ⟨g, 0, none⟩) (n + 1) c).ownBlock)) (fun p c hp => by obtain rfl := k35_openM hp; exact k35_mkM _ _ _ _)) (k35_mkM _ _ _ b) rfl i (by have := HN.out; omega)
      rw [HX.out]
      simp only [List.append_assoc, List.cons_append, List.nil_append] at h3 ⊢
      exact h3
  · exact HB.out.grown (row := some g) ⟨rfl, rfl, rfl, by rw [setRow_size, setRow_size]; exact Nat.le_refl _, fun k hk hne => by
      have hne' : k ≠ g := fun e => hne (by rw [e])
      rw [setRow_other _ _ _ _ hne', setRow_other _ _ _ _ hne']; rfl⟩ HSZ.out (fun k hk => by injection hk with hk; omega)
set_option maxHeartbeats 4000000 in
set_option maxRecDepth 100000 in
theorem impl_withBlock.ins_grow (P0_ : Nat → Prop) (g c i vb : Nat) (l : List (S35)) (b : S35) (w0 w : World) (hB : Below w0.heap.size w0 w) (hR : Kd.R k35 35 w w0.heap.size P0_ (.slice (some ⟨g, 0, none⟩) l.length c) l) (hfresh : ∀ k, w.heap.size ≤ k → P0_ k)
    (hi : i < l.length) (hv : w.heap[vb]? = some (.cells #[.string b.f0, .string b.f1, .string b.f2] 35 (0, 0))) (hroom : ¬ (l.length + 1 ≤ c)) (hbig : (l.length + 1) * 48 ≤ 140737488355328) :
    Calls Tryd.prog 48 #[.slice (some ⟨g, 0, none⟩) l.length c, .int .i64 i, .slice (some ⟨vb, 0, none⟩) 1 1] w fun e w' =>
      ∃ v0 : Value, e = .returned v0 ∧ Kd.R k35 35 w' w0.heap.size P0_ v0 (l.take i ++ [b] ++ l.drop i) ∧ Below w0.heap.size w0 w' := by
  obtain ⟨cur, hok, hgb, hh, _, hnc, hcm, hcs, hreps⟩ := Kd.R_unmk hR
  obtain ⟨i0, hi0, hz0, hsz0, hby0⟩ := info_parts info35
  have hcm' : c ≤ 9223372036854775807 := by unfold maxLen at hcm; omega
  have hinf : (Tryd.prog.info? 35).map (·.size) = some 3 := by rw [hi0]; simp [hsz0]
  have hcs3 : cur.size = c * 3 := hcs
  have hcl : cur.toList.length = c * 3 := by rw [Array.length_toList]; exact hcs
  have hinl : (cur.toList.take (l.length * 3)).length = l.length * 3 := by rw [List.length_take, hcl]; omega
  have hon : ∀ v ∈ cur.toList.take (l.length * 3), v.oneCell' = true := Kd.reps_one hreps (by decide) (fun p c hp => k35.K_one (k35.K_of_M hp))
  have hwsz := hB.size
  have hgw : g < w.heap.size := (Array.getElem?_eq_some_iff.1 hh).1
  have hvw : vb < w.heap.size := (Array.getElem?_eq_some_iff.1 hv).1
  obtain ⟨n, hn⟩ : ∃ n, n = l.length := ⟨_, rfl⟩
  rw [← hn] at hreps hi hroom hnc hinl hon hbig ⊢
  obtain ⟨N, hN⟩ : ∃ N, N = w.heap.size := ⟨_, rfl⟩
  obtain rfl : c = n := by omega
  obtain ⟨G, hG⟩ : ∃ G, G = grownCap w (c + 1) c 35 := ⟨_, rfl⟩
  have hGn : c + 1 ≤ G := by rw [hG]; exact grownCap_ge w _ _ _
  have hGm : G ≤ maxLen := by rw [hG]; exact grownCap_le_maxLen w (c + 1) c 35 (by unfold maxLen; omega)
  have hGm' : G ≤ 9223372036854775807 := by unfold maxLen at hGm; omega
  have hol : ((cur.toList.take (c * 3)).take (i * 3)).length = i * 3 := by rw [List.length_take, hinl]; omega
  have hold : (Builtin.firstCells i0.size i (.slice (some ⟨g, 0, none⟩) i c)).run Tryd.prog w.drew = .ok ((cur.toList.take (c * 3)).take (i * 3)).toArray w.drew := by
    rw [hsz0]
    exact run_firstCells_some w.drew 3 i ⟨g, 0, none⟩ i c _ hol (blk_src (w := w.drew) hh _ (fun j v hj => by
      rw [List.getElem?_take] at hj
      split at hj
      · rw [List.getElem?_take] at hj
        split at hj
        · simpa using hj
        · cases hj
      · cases hj))
  have hkk : (c : Int) + 1 - (i : Int) = ((c + 1 - i : Nat) : Int) := by omega
  obtain ⟨ROW, hROW⟩ : ∃ ROW : Array Value, ROW = ((cur.toList.take (c * 3)).take (i * 3)).toArray ++ Builtin.zeroCells (Value.agg #[.string ⟨#[]⟩, .string ⟨#[]⟩, .string ⟨#[]⟩]).cells (c + 1 - i) ++ Builtin.zeroCells (Value.agg #[.string ⟨#[]⟩, .string ⟨#[]⟩, .string ⟨#[]⟩]).cells (G - (c + 1)) := ⟨_, rfl⟩
  have hrz : ∀ ty, (Builtin.append_ #[22, 3] ty #[.slice (some ⟨g, 0, none⟩) i c, .int .i64 ((c : Int) + 1 - (i : Int))]).run Tryd.prog w =
      .ok (.slice (some ⟨w.heap.size, 0, none⟩) (c + 1) G) (w.drew.alloc (.cells ROW 35)) := fun ty => by
    have h := Lib.run_append_grow_zeros w 22 3 ty 35 i0 _ .i64 .i64 Tryd.underlying22 Tryd.underlying3 hi0 hz0 (some ⟨g, 0, none⟩) i c _ hold (c + 1 - i) (by omega) (by omega) (by omega) (by omega) (by rw [hby0]; omega) (by rw [hby0, show i + (c + 1 - i) = c + 1 by omega]; exact growslice_fits (by omega) (by omega))
    rw [show i + (c + 1 - i) = c + 1 by omega, ← hG, ← hROW] at h
    rw [hkk]
    exact h
  have hRl : ROW.size = G * 3 := by
    rw [hROW, Array.size_append, Array.size_append, List.size_toArray, hol]
    simp [Builtin.zeroCells, Value.cells]
    omega
  have hRt : ROW.toList.take (i * 3) = (cur.toList.take (c * 3)).take (i * 3) := by
    rw [hROW, Array.toList_append, Array.toList_append, List.append_assoc, List.toList_toArray]
    exact List.take_left' hol
  clear hROW hG
  obtain ⟨X, hX⟩ : ∃ X, X = (cur.toList.take (c * 3)).drop (i * 3) := ⟨_, rfl⟩
  have hXl : X.length = (c - i) * 3 := by rw [hX, List.length_drop, hinl]; omega
  have hRtl : ROW.toList.length = G * 3 := by rw [Array.length_toList]; exact hRl
  obtain ⟨L1, hL1⟩ : ∃ L1, L1 = ROW.toList.take (i * 3) ++ [Value.string b.f0, .string b.f1, .string b.f2] ++ ROW.toList.drop (i * 3 + 3) := ⟨_, rfl⟩
  have hL1l : L1.length = G * 3 := by
    have h := put_len ROW.toList [Value.string b.f0, .string b.f1, .string b.f2] (i * 3) (by rw [hRtl]; simp; omega)
    rw [hL1]; exact h.trans hRtl
  obtain ⟨L2, hL2⟩ : ∃ L2, L2 = L1.take ((i + 1) * 3) ++ X ++ L1.drop ((i + 1) * 3 + X.length) := ⟨_, rfl⟩
  have hL2l : L2.length = G * 3 := by rw [hL2, put_len _ _ _ (by rw [hXl, hL1l]; omega), hL1l]
  have e3 : (c + 1) * 3 = c * 3 + 3 := by omega
  have e4 : (i + 1) * 3 = i * 3 + 3 := by omega
  have hL2t : L2.take ((c + 1) * 3) = (cur.toList.take (c * 3)).take (i * 3) ++ [Value.string b.f0, .string b.f1, .string b.f2] ++ (cur.toList.take (c * 3)).drop (i * 3) := by
    have h := insert_cells2 ROW.toList [Value.string b.f0, .string b.f1, .string b.f2] X (i * 3) (c * 3) 3 (by omega) (by rw [hXl]; omega) (by rw [hRtl]; omega) rfl
    rw [hL2, hL1, e3, e4, ← hX, ← hRt]
    exact h
  have s1 : ∀ W : World, (Instr.slice 22 (.slice (some ⟨g, 0, none⟩) c c) (some (.int .i64 (i : Int))) none none).run Tryd.prog W = .ok (.slice (some ⟨g, i * 3, none⟩) (c - i) (c - i)) W := fun W => run_cut_l W _ _ .i64 Tryd.underlying22 hi0 hsz0 g c c i (by omega) (by omega)
  have s2 : ∀ W : World, (Instr.slice 22 (.slice (some ⟨g, 0, none⟩) c c) none (some (.int .i64 (i : Int))) none).run Tryd.prog W = .ok (.slice (some ⟨g, 0, none⟩) i c) W := fun W => run_cut_h W _ _ .i64 Tryd.underlying22 hi0 g c c i (by omega)
  have s3 : ∀ W : World, (Instr.slice 22 (.slice (some ⟨N, 0, none⟩) (c + 1) G) (some (.int .i64 (i : Int))) none none).run Tryd.prog W = .ok (.slice (some ⟨N, i * 3, none⟩) (c + 1 - i) (G - i)) W := fun W => run_cut_l W _ _ .i64 Tryd.underlying22 hi0 hsz0 N (c + 1) G i (by omega) (by omega)
  have hcpA : ∀ (W : World), W.heap[N]? = some (.cells ROW 35 (0, 0)) → W.heap[vb]? = some (.cells #[.string b.f0, .string b.f1, .string b.f2] 35 (0, 0)) → ∀ ty dc, (Builtin.copy_ #[22, 22] ty #[.slice (some ⟨N, i * 3, none⟩) (c + 1 - i) dc, .slice (some ⟨vb, 0, none⟩) 1 1]).run Tryd.prog W = .ok (goInt (1 : Nat)) (W.setRow N L1.toArray) := fun W hW hWv ty dc => by
    rw [hL1]
    exact run_copy_row_sz W _ _ ty 35 N (i * 3) (c + 1 - i) dc ⟨vb, 0, none⟩ 1 1 1 3 ROW 35 [Value.string b.f0, .string b.f1, .string b.f2] Tryd.underlying22 hinf hW (by simp only [Nat.min_def]; split <;> omega) rfl
      (blk_src hWv _ (fun j v hj => by simpa using hj)) (by simp; omega) (impl_withBlock.one _ _ _)
  have hcpB : ∀ (W : World), W.heap[N]? = some (.cells L1.toArray 35 (0, 0)) → W.heap[g]? = some (.cells cur 35 (0, 0)) → ∀ ty dc sc, (Builtin.copy_ #[22, 22] ty #[.slice (some ⟨N, (i + 1) * 3, none⟩) (c - i) dc, .slice (some ⟨g, i * 3, none⟩) (c - i) sc]).run Tryd.prog W = .ok (goInt (c - i : Nat)) (W.setRow N L2.toArray) := fun W hW hWg ty dc sc => by
    rw [hL2]
    exact run_copy_row_sz W _ _ ty 35 N ((i + 1) * 3) (c - i) dc ⟨g, i * 3, none⟩ (c - i) sc (c - i) 3 L1.toArray 35 X Tryd.underlying22 hinf hW (by simp only [Nat.min_def]; split <;> omega) hXl
      (blk_src hWg X (fun j v hj => by
        rw [hX, List.getElem?_drop, List.getElem?_take] at hj
        split at hj
        · simpa using hj
        · cases hj)) (by rw [hXl, List.size_toArray, hL1l]; omega) (fun v hv => hon v (by rw [hX] at hv; exact List.mem_of_mem_drop hv))
  have hnew : (w.drew.alloc (.cells ROW 35)).heap[N]? = some (.cells ROW 35 (0, 0)) := by
    show (w.heap.push _)[N]? = _
    rw [hN, Array.getElem?_push, if_pos rfl]
  have hold1 : ∀ k, k < N → (w.drew.alloc (.cells ROW 35)).heap[k]? = w.heap[k]? := by
    intro k hk
    rw [hN] at hk
    show (w.heap.push _)[k]? = _
    rw [Array.getElem?_push, if_neg (by omega)]
  rw [← hN] at hgw hvw hrz
  have HV := Aside0.mk ((hold1 vb hvw).trans hv)
  have HG := Aside0.mk ((hold1 g hgw).trans hh)
  have HNW := Aside0.mk hnew
  have HA := Aside0.mk (show Below w0.heap.size w0 (w.drew.alloc (.cells ROW 35)) from below_alloc (below_drew1 hB) _)
  have HAS := Aside0.mk (show w.heap.size ≤ (w.drew.alloc (.cells ROW 35)).heap.size by show _ ≤ (w.heap.push _).size; rw [Array.size_push]; omega)
  have HL2l := Aside0.mk hL2l
  have HL2t := Aside0.mk hL2t
  have HR := Aside0.mk hreps
  have HB := Aside0.mk hB
  have HN := Aside0.mk hn
  have HF := Aside0.mk (hfresh N (by omega))
  have HNN := Aside0.mk hN
  have HSZ := Aside0.mk hwsz
  have hz2 : ¬ ((i : Int) = (c : Int)) := by omega
  have hz3 : ((c : Int) < (c : Int) + 1) := by omega
  have hvN : vb ≠ N := by omega
  have hgN : g ≠ N := by omega
  clear hL1 hX hXl hL1l hL2 hL2l hL2t hB hreps hh hv hn hcs3 hcs hok hon hinl hcl hwsz hR hcm hinf hi0 hz0 hsz0 hby0 hnew hold1 hfresh hRl hRt hRtl hN hol hold hkk hGm hroom hbig e3 e4
  generalize w.drew.alloc (.cells ROW 35) = WA at *
  go_enter Tryd.func48, Tryd.ntmps48
  go_wp2_with (first
    | ((with_reducible refine gate_builtin (b := .append) (xs := #[.tmp 34, .tmp 39]) rfl ?_); go_loud (refine Lib.wpList_append_run _ rfl _ _ _ _ rfl _ _ rfl rfl _ _ (hrz _) ?_))
    | ((with_reducible refine gate_builtin (b := .copy) (xs := #[.tmp 43, .tmp 44]) rfl ?_); go_loud (refine wpList_copy_ _ rfl _ _ 22 22 rfl _ _ rfl rfl (hcpA _ HNW.out HV.out _ _) ?_)))
  have hw1 : IntKind.i64.wrap ((i : Int) + 1) = (i : Int) + 1 := by rw [IntKind.wrap_i64]; omega
  have hb1 : (0 : Int) ≤ (i : Int) + 1 := by omega
  have hb2 : (i : Int) + 1 ≤ (c : Int) + 1 := by omega
  have hb3 : (i : Int) ≤ (c : Int) := by omega
  have htn : ((i : Int) + 1).toNat = i + 1 := by omega
  have hb4 : ¬ (G = i + 1) := by omega
  have hb5 : ¬ (c = i) := by omega
  have hin : i ≤ c := by omega
  go_region_law (go_loud (refine step_copy_ rfl _ _ 22 22 rfl (.slice (some ⟨N, (i + 1) * 3, none⟩) (c - i) (G - (i + 1))) (.slice (some ⟨g, i * 3, none⟩) (c - i) (c - i)) (by simp [Act.eval, Act.put]) (by simp [Act.eval, Act.put]) (hcpB (WA.setRow N L1.toArray).drew (setRow_heap WA N ROW _ _ _ HNW.out) ((setRow_other WA N g _ hgN).trans HG.out) _ _ _) ?_))
  go_wp2
  go_ret
  have e3 : (c + 1) * 3 = c * 3 + 3 := by omega
  refine ⟨.slice (some ⟨N, 0, none⟩) (c + 1) G, rfl, ?_, ?_⟩
  · refine Kd.R_mk k35 HF.out (by have := HSZ.out; have := HNN.out; omega) (setRow_heap _ N L1.toArray L2.toArray _ _ (setRow_heap WA N ROW _ _ _ HNW.out)) (by have := HN.out; simp; omega) hGn (by unfold maxLen; omega) (by rw [List.size_toArray, HL2l.out]; rfl) ?_
    show Reps _ 3 _ (List.take ((c + 1) * 3) _)
    rw [List.toList_toArray, HL2t.out]
    have h3 := reps_insert (HR.out.imp_ (R' := k35.M ((WA.setRow N L1.toArray).drew.setRow N L2.toArray) w0.heap.size (fun k => P0_ k ∧ some k ≠ (Value.slice (some ⟨N, 0, none⟩) (c + 1) G).ownBlock)) (fun p c hp => by obtain rfl := k35_openM hp; exact k35_mkM _ _ _ _)) (k35_mkM _ _ _ b) rfl i (by have := HN.out; omega)
    exact h3
  · have hA := HA.out
    refine hA.grown (row := some N) ⟨rfl, rfl, rfl, by rw [setRow_size]; exact Nat.le_of_eq (setRow_size _ _ _).symm, fun k hk hne => ?_⟩ (Nat.le_trans HSZ.out ?_) (fun k hk => by injection hk with hk; have := HSZ.out; have := HNN.out; omega)
    · have hne' : k ≠ N := fun e => hne (by rw [e])
      rw [setRow_other _ _ _ _ hne']
      exact setRow_other _ _ _ _ hne'
    · exact HAS.out
set_option maxHeartbeats 4000000 in
set_option maxRecDepth 100000 in
theorem impl_withBlock.ins_end (P0_ : Nat → Prop) (A : Option Addr) (c vb : Nat) (l : List (S35)) (b : S35) (w0 w : World) (hB : Below w0.heap.size w0 w) (hR : Kd.R k35 35 w w0.heap.size P0_ (.slice A l.length c) l) (hfresh : ∀ k, w.heap.size ≤ k → P0_ k)
    (hv : w.heap[vb]? = some (.cells #[.string b.f0, .string b.f1, .string b.f2] 35 (0, 0))) (hbig : (l.length + 1) * 48 ≤ 140737488355328) :
    Calls Tryd.prog 48 #[.slice A l.length c, .int .i64 (l.length : Int), .slice (some ⟨vb, 0, none⟩) 1 1] w fun e w' =>
      ∃ v0 : Value, e = .returned v0 ∧ Kd.R k35 35 w' w0.heap.size P0_ v0 (l ++ [b]) ∧ Below w0.heap.size w0 w' := by
  have hsrc : ReadsRow (fun (x : S35) cs => cs = [Value.string x.f0, .string x.f1, .string x.f2]) 3 w (some ⟨vb, 0, none⟩) 1 [b] := by
    refine ⟨rfl, by omega, fun _ => ⟨_, rfl, fun j p hj => ?_⟩⟩
    have hj0 : j = 0 := by
      have := (List.getElem?_eq_some_iff.1 hj).1
      simpa using this
    subst hj0
    obtain rfl : b = p := by simpa using hj
    refine ⟨_, rfl, rfl, fun q u hq => ?_⟩
    rw [Nat.zero_mul, Nat.zero_add]
    exact blk_src hv [Value.string b.f0, .string b.f1, .string b.f2] (fun j v h => by simpa using h) q u hq
  have hKM : ∀ (x : S35) cs, cs = [Value.string x.f0, .string x.f1, .string x.f2] → k35.M w w0.heap.size (fun _ => False) x cs := fun x cs h => by subst h; exact k35_mkM _ _ _ _
  obtain ⟨_, hnc, hC⟩ := Kd.R_reads' hR
  have hmax := hC.2.1
  have HS := Aside0.mk hsrc
  have HKM := Aside0.mk hKM
  have HR := Aside0.mk hR
  have HB := Aside0.mk hB
  have HF := Aside0.mk hfresh
  have HBIG := Aside0.mk hbig
  clear hsrc hKM hR hB hfresh hv hbig hC
  obtain ⟨n, hn⟩ : ∃ n, n = l.length := ⟨_, rfl⟩
  have HN := Aside0.mk hn
  rw [← hn] at HR HBIG hnc hmax ⊢
  clear hn
  go_enter Tryd.func48, Tryd.ntmps48
  go_wp2_with ((with_reducible refine gate_builtin (b := .append) (xs := #[.tmp 23, .tmp 24]) rfl ?_); go_loud (refine Kd.R_append_rows k35 (w0 := w0) w0.heap.size rfl (.tmp 23) (.tmp 24) 22 35 (.agg #[(.string ⟨#[]⟩), (.string ⟨#[]⟩), (.string ⟨#[]⟩)]) 48 rfl Tryd.underlying22 info35 rfl (by decide) (by omega) (.slice A n c) l [b] (some ⟨vb, 0, none⟩) 1 1 P0_ (fun _ => False) rfl rfl HR.out HS.out HKM.out (fun _ h => h.elim) HF.out HB.out HB.out.size (by rw [← HN.out]; exact HBIG.out) ?_); intro v1 w1 ho hb hg hat; have HO1 := Aside0.mk ho; have HB1 := Aside0.mk hb; clear ho hb hg hat)
  all_goals go_ret
  all_goals exact ⟨_, rfl, HO1.out, HB1.out⟩
def impl_withBlock.f (k : Nat) (l0 : List (S35)) (a1_0 : ByteArray) (a1_1 : ByteArray) (a1_2 : ByteArray) : Option (List (S35)) := (slices_BinarySearchFunc_BlockS.f k l0 a1_0 a1_1 a1_2).bind fun b => if 0 ≤ b.1 ∧ b.1 ≤ (l0.length : Int) ∧ l0.length < 2932031007400 then (if b.2 = true then (if b.1 < (l0.length : Int) then some (l0.set b.1.toNat ⟨a1_0, a1_1, a1_2⟩) else none) else some (l0.take b.1.toNat ++ [⟨a1_0, a1_1, a1_2⟩] ++ l0.drop b.1.toNat)) else none
theorem impl_withBlock.ins_any (P0_ : Nat → Prop) (A : Option Addr) (c i vb : Nat) (l : List (S35)) (b : S35) (w0 w : World) (hB : Below w0.heap.size w0 w) (hR : Kd.R k35 35 w w0.heap.size P0_ (.slice A l.length c) l) (hfresh : ∀ k, w.heap.size ≤ k → P0_ k)
    (hi : i ≤ l.length) (hv : w.heap[vb]? = some (.cells #[.string b.f0, .string b.f1, .string b.f2] 35 (0, 0))) (hvb : ∀ g, (Value.slice A l.length c).ownBlock = some g → vb ≠ g) (hbig : (l.length + 1) * 48 ≤ 140737488355328) :
    Calls Tryd.prog 48 #[.slice A l.length c, .int .i64 (i : Int), .slice (some ⟨vb, 0, none⟩) 1 1] w fun e w' =>
      ∃ v0 : Value, e = .returned v0 ∧ Kd.R k35 35 w' w0.heap.size P0_ v0 (l.take i ++ [b] ++ l.drop i) ∧ Below w0.heap.size w0 w' := by
  by_cases he : i = l.length
  · subst he
    rw [List.take_length, List.drop_length, List.append_nil]
    exact impl_withBlock.ins_end P0_ A c vb l b w0 w hB hR hfresh hv hbig
  · obtain ⟨g, c', hs, _⟩ := Kd.R_form hR (by omega)
    injection hs with h1 h2 h3
    subst h1; subst h3
    by_cases hroom : l.length + 1 ≤ c
    · exact impl_withBlock.ins_room P0_ g c i vb l b w0 w hB hR (by omega) hv (hvb g (by simp [Value.ownBlock])) hroom
    · exact impl_withBlock.ins_grow P0_ g c i vb l b w0 w hB hR hfresh (by omega) hv hroom hbig
set_option maxHeartbeats 4000000 in
set_option maxRecDepth 100000 in
theorem impl_withBlock.calls (k : Nat) (A0 : Option Addr) (c0 : Nat) (l0 : List (S35)) (a1_0 : ByteArray) (a1_1 : ByteArray) (a1_2 : ByteArray) (r : List (S35)) (w : World) (hr0 : Kd.C k35 w A0 l0.length l0) (hc0 : l0.length ≤ c0) (h : impl_withBlock.f k l0 a1_0 a1_1 a1_2 = some r) :
    Calls Tryd.prog 33 #[.slice A0 l0.length c0, .agg #[.string a1_0, .string a1_1, .string a1_2]] w fun e w' => ∃ v0_ : Value, e = .returned (v0_) ∧ Kd.R k35 35 w' w.heap.size (fun _ => True) v0_ r ∧ Below w.heap.size w w' := by
  unfold impl_withBlock.f at h
  replace h := Option.bind_eq_some_iff.mp h
  obtain ⟨⟨t1, t2⟩, hs0, h⟩ := h
  simp only at h
  by_cases hc : 0 ≤ t1 ∧ t1 ≤ (l0.length : Int) ∧ l0.length < 2932031007400
  rotate_left
  · rw [if_neg hc] at h
    cases h
  rw [if_pos hc] at h
  obtain ⟨h0, h1, hbig⟩ := hc
  obtain ⟨i, rfl⟩ : ∃ i : Nat, t1 = (i : Int) := ⟨t1.toNat, by omega⟩
  rw [Int.toNat_natCast] at h
  have hcl0 : slices_Clone_BlockS.f l0 = some l0 := by
    unfold slices_Clone_BlockS.f
    simp only [Option.bind_some, List.nil_append, List.length_nil, Nat.zero_add]
    rw [if_pos (by omega)]
  have HR0 := Aside0.mk hr0
  have HC0 := Aside0.mk hc0
  have HS := Aside0.mk hs0
  have HCL := Aside0.mk hcl0
  have HL := Aside0.mk hbig
  have hB0 := below_alloc (Below.refl w.heap.size w) (.cells #[.string a1_0, .string a1_1, .string a1_2] 35)
  have hbox : (w.alloc (.cells #[.string a1_0, .string a1_1, .string a1_2] 35)).heap[w.heap.size]? = some (.cells #[.string a1_0, .string a1_1, .string a1_2] 35 (0, 0)) := by
    show (w.heap.push _)[w.heap.size]? = _
    rw [Array.getElem?_push, if_pos rfl]
  have HBX := Aside0.mk hbox
  have HB := Aside0.mk hB0
  clear hr0 hc0 hs0 hcl0 hB0 hbox hbig h0
  cases t2 with
  | true =>
    simp only [if_true] at h
    have hlt : i < l0.length := by
      by_cases hlt : (i : Int) < (l0.length : Int)
      · omega
      · rw [if_neg hlt] at h; cases h
    rw [if_pos (by omega)] at h
    obtain rfl := Option.some.inj h
    clear h h1
    go_enter Tryd.func33, Tryd.ntmps33
    go_wp2_with (first
      | ((with_reducible refine gate_callee (f := 46) rfl ?_); go_loud (refine goesL_ (some 11) rfl rfl Tryd.func46 (by kernel_rfl) rfl #[.slice A0 l0.length c0, .agg #[.string a1_0, .string a1_1, .string a1_2], .func (.func 45) #[] #[]] rfl (by (try simp only [List.map_toArray, List.map_cons, List.map_nil]); first | done | rfl) ?_); (with_reducible refine (slices_BinarySearchFunc_BlockS.calls k _ _ l0 a1_0 a1_1 a1_2 (i : Int) true _ ?side1 HC0.out HS.out).mono ?_); (case side1 => exact Kd.C_below HR0.out HB.out); rintro e w1 ⟨rfl, hb⟩; refine ⟨_, rfl, ?_⟩; have HBX1 := Aside0.mk (blk_below HBX.out hb); have HB1 := Aside0.mk (below_step HB.out hb); clear HBX HB; have HBX := HBX1; have HB := HB1; clear HBX1 HB1 hb)
      | ((with_reducible refine gate_callee (f := 47) rfl ?_); go_loud (refine goesL_ (some 15) rfl rfl Tryd.func47 (by kernel_rfl) rfl #[.slice A0 l0.length c0] rfl (by (try simp only [List.map_toArray, List.map_cons, List.map_nil]); first | done | rfl) ?_); (with_reducible refine (slices_Clone_BlockS.calls _ _ l0 l0 _ ?side1 HC0.out HCL.out).mono ?_); (case side1 => exact Kd.C_below HR0.out HB.out); rintro e w2 ⟨v2, rfl, ho, hb⟩; refine ⟨_, rfl, ?_⟩; have HO := Aside0.mk (Kd.R_bound ho); have HBX1 := Aside0.mk (blk_below HBX.out hb); have HB1S := Aside0.mk HB.out.size; have HB1 := Aside0.mk (below_step HB.out hb); have HO2 := Aside0.mk (Kd.R_lower (Kd.R_mono ho (ok' := fun _ => True) (fun _ _ => trivial)) HB.out.size); clear HBX HB HO; have HO := HO2; have HBX := HBX1; have HB := HB1; clear HBX1 HB1 HO2 hb ho; obtain ⟨g, c, rfl, hgb, hgl, hgc⟩ := Kd.R_form HO.out (by omega); obtain ⟨cf, hcl, hcM, hcc, hfr⟩ := Kd.R_elem HO.out z35 (i : Int) (by omega) (by omega); have hz_0 := (blk_cell HBX.out 0).trans rfl; have hz_1 := (blk_cell HBX.out 1).trans rfl; have hz_2 := (blk_cell HBX.out 2).trans rfl)
      | ((with_reducible refine gate_store (t := 35) (p := 20) (v := .tmp 19) rfl ?_); go_loud ((refine Kd.R_store k35 (w0 := w) w.heap.size rfl rfl 35 (.tmp 20) (.tmp 19) rfl 35 (g := g) (n := l0.length) (cap := c) (o' := i * 3) (i : Int) 0 l0 ⟨a1_0, a1_1, a1_2⟩ (.agg #[.string a1_0, .string a1_1, .string a1_2]) [.string a1_0, .string a1_1, .string a1_2] cf (fun _ => True) (fun _ => False) ?haddr ?hoff ?hx rfl (by kernel_rfl) (impl_withBlock.one _ _ _) HO.out (by omega) (by omega) hcl hcc (Nat.le_refl 3) ?hM (fun _ h => h.elim) HB.out ?_); (case haddr => rfl); (case hx => rfl); (case hoff => show i * 3 = (i : Int).toNat * 3 + 0; rw [Int.toNat_natCast, Nat.add_zero]); (case hM => rw [List.take_zero, List.drop_eq_nil_of_le (by rw [hcl]; exact Nat.le_refl 3), List.append_nil, List.nil_append]; exact k35_mkM _ _ _ ⟨a1_0, a1_1, a1_2⟩); intro w4 ho4 hb4 hg4; have HO4 := Aside0.mk ho4; have HB4 := Aside0.mk hb4; clear ho4 hb4 hg4)))
    go_ret
    rw [Int.toNat_natCast] at HO4
    exact ⟨_, rfl, HO4.out, HB4.out⟩
  | false =>
    simp only [Bool.false_eq_true, if_false] at h
    obtain rfl := Option.some.inj h
    clear h
    go_enter Tryd.func33, Tryd.ntmps33
    go_wp2_with (first
      | ((with_reducible refine gate_callee (f := 46) rfl ?_); go_loud (refine goesL_ (some 11) rfl rfl Tryd.func46 (by kernel_rfl) rfl #[.slice A0 l0.length c0, .agg #[.string a1_0, .string a1_1, .string a1_2], .func (.func 45) #[] #[]] rfl (by (try simp only [List.map_toArray, List.map_cons, List.map_nil]); first | done | rfl) ?_); (with_reducible refine (slices_BinarySearchFunc_BlockS.calls k _ _ l0 a1_0 a1_1 a1_2 (i : Int) false _ ?side1 HC0.out HS.out).mono ?_); (case side1 => exact Kd.C_below HR0.out HB.out); rintro e w1 ⟨rfl, hb⟩; refine ⟨_, rfl, ?_⟩; have HBX1 := Aside0.mk (blk_below HBX.out hb); have HB1 := Aside0.mk (below_step HB.out hb); clear HBX HB; have HBX := HBX1; have HB := HB1; clear HBX1 HB1 hb)
      | ((with_reducible refine gate_callee (f := 47) rfl ?_); go_loud (refine goesL_ (some 15) rfl rfl Tryd.func47 (by kernel_rfl) rfl #[.slice A0 l0.length c0] rfl (by (try simp only [List.map_toArray, List.map_cons, List.map_nil]); first | done | rfl) ?_); (with_reducible refine (slices_Clone_BlockS.calls _ _ l0 l0 _ ?side1 HC0.out HCL.out).mono ?_); (case side1 => exact Kd.C_below HR0.out HB.out); rintro e w2 ⟨v2, rfl, ho, hb⟩; refine ⟨_, rfl, ?_⟩; have HO := Aside0.mk (Kd.R_bound ho); have HBX1 := Aside0.mk (blk_below HBX.out hb); have HB1S := Aside0.mk HB.out.size; have HB1 := Aside0.mk (below_step HB.out hb); clear HBX HB; have HBX := HBX1; have HB := HB1; clear HBX1 HB1 hb ho; have hz_0 := (blk_cell HBX.out 0).trans rfl; have hz_1 := (blk_cell HBX.out 1).trans rfl; have hz_2 := (blk_cell HBX.out 2).trans rfl)
      | (go_at_call 48; obtain ⟨A2, c2, rfl⟩ := Kd.R_slice HO.out; (with_reducible refine (impl_withBlock.ins_any (fun _ => True) A2 c2 i _ l0 ⟨a1_0, a1_1, a1_2⟩ w _ ?side1 ?side2 (fun _ _ => trivial) (by omega) ?side3 ?side4 (by have := HL.out; omega)).mono ?_); (case side1 => exact below_alloc HB.out _); (case side2 => exact Kd.R_alloc (Kd.R_lower (Kd.R_mono HO.out (fun _ _ => trivial)) HB1S.out) _); (case side3 => exact blk_new _ _); (case side4 => exact fun g hg e => by have := Kd.R_lt HO.out g hg; omega); rintro e w3 ⟨v3, rfl, ho3, hb3⟩; have HO3 := Aside0.mk ho3; have HB3 := Aside0.mk hb3; clear ho3 hb3))
    go_ret
    exact ⟨_, rfl, HO3.out, HB3.out⟩
end Go.Proofs.YtkllogmpaaeokaaDoor.XS
end

section
namespace Go.Proofs.YtkllogmpaaeokaaDoor.XS
open Go.RowKit Go.Proofs.YtkllogmpaaeokaaDoorW.PrintWords Go.Proofs.YtkllogmpaaeokaaDoorW.PrintLast Go.Proofs.YtkllogmpaaeokaaDoorW.PrintMore
attribute [local go_sem] run_eql_slice_nil binOp_string_gtr' binOp_string_leq' binOp_string_geq' max2_int min2_int max_two min_two max_three min_three max_four min_four   -- for this text's walks alone
set_option linter.unusedVariables false
set_option linter.unusedSimpArgs false
def impl_PutBlock.j0 : Nat → List (S35) → Bool → ByteArray → ByteArray → ByteArray → Option ((List (S35)) × Int)
  | 0, _, _, _, _, _ => none
  | k + 1, x0, x14, x286000, x286001, x286002 => if x14 = true then (some (([] : List (S35)), 1)) else ((impl_withBlock.f k x0 x286000 x286001 x286002).bind fun t288 => (if (t288.length : Int) > 32 then (some (([] : List (S35)), 5)) else (some (t288, 0))))
def impl_PutBlock.f (k : Nat) (l0 : List (S35)) (a1_0 : ByteArray) (a1_1 : ByteArray) (a1_2 : ByteArray) : Option ((List (S35)) × Int) := (impl_ValidBlocks.f k l0).bind fun t286 => (if t286 = true then ((impl_ValidBlock.f k a1_0 a1_1 a1_2).bind fun t287 => (impl_PutBlock.j0 k l0 (!t287) a1_0 a1_1 a1_2)) else (impl_PutBlock.j0 k l0 true a1_0 a1_1 a1_2))
set_option maxHeartbeats 8000000 in
set_option maxRecDepth 100000 in
theorem impl_PutBlock.calls (k : Nat) (A0 : Option Addr) (c0 : Nat) (l0 : List (S35)) (a1_0 : ByteArray) (a1_1 : ByteArray) (a1_2 : ByteArray) (r1 : List (S35)) (r2 : Int) (w : World) (hr0 : Kd.C k35 w A0 l0.length l0) (hc0 : l0.length ≤ c0) (hSH : ShT Tryd.prog w) (h : impl_PutBlock.f k l0 a1_0 a1_1 a1_2 = some (r1, r2)) :
    Calls Tryd.prog 20 #[.slice A0 l0.length c0, .agg #[.string a1_0, .string a1_1, .string a1_2]] w fun e w' => ∃ v0_ : Value, e = .returned (.tuple #[v0_, .int .i64 r2]) ∧ Kd.R k35 35 w' w.heap.size (fun _ => True) v0_ r1 ∧ Below w.heap.size w w' := by
  have hu35 := Tryd.underlying35
  have HR0 := Aside0.mk hr0
  have HC0 := Aside0.mk hc0
  clear hr0 hc0
  have HB := Aside0.mk (Below.refl w.heap.size w)
  have HSH := Aside0.mk hSH
  clear hSH
  have H : ((impl_ValidBlocks.f k l0).bind fun t286 => (if t286 = true then ((impl_ValidBlock.f k a1_0 a1_1 a1_2).bind fun t287 => (impl_PutBlock.j0 k l0 (!t287) a1_0 a1_1 a1_2)) else (impl_PutBlock.j0 k l0 true a1_0 a1_1 a1_2))) = some (r1, r2) := h
  clear h
  have HC3 := Aside0.mk H
  clear H
  go_enter Tryd.func20, Tryd.ntmps20
  go_upto_region 1 with (first | ((with_reducible refine gate_dst (N := 3) rfl ?_); refine box_event ?hg (N := 3) ?hd (cs := #[.string a1_0, .string a1_1, .string a1_2]) (t := 35) ?hr ?_; (case hd => rfl); (case hg => rfl); (case hr => first | (go_simp; done) | (go_simp; rfl)); intro gb285 hg w4 hbox hb; have n0_ := Aside0.mk (below_step (by repeat (first | (with_reducible first | exact HB.out | apply below_alloc | apply pw_below_drewN | apply below_drew1) | exact HB.out)) hb); have n1_ := Aside0.mk (hbox); have n2_ := Aside0.mk ((by rw [hg]; exact (below_size (by repeat (first | (with_reducible first | exact HB.out | apply below_alloc | apply pw_below_drewN | apply below_drew1) | exact HB.out))) : w.heap.size ≤ gb285)); have n3_ := Aside0.mk ((by rw [hg]; exact (below_size (by repeat (first | (with_reducible first | exact HB.out | apply below_alloc | apply pw_below_drewN | apply below_drew1) | exact HB.out))) : w.heap.size ≤ gb285)); clear HB; have HB := n0_; have BK285 := n1_; have GW285 := n2_; have GE285 := n3_; clear n0_ n1_ n2_ n3_; clear hb hbox hg))
  (try simp only [Act.put, List.setIfInBounds_toArray, List.set_cons_zero, List.set_cons_succ])
  go_cut [14] (fun v14 wc => ∃ (kq : Nat) (x14_2 : Bool), v14 = .bool x14_2 ∧ Aside0 (impl_PutBlock.j0 kq l0 x14_2 a1_0 a1_1 a1_2 = some (r1, r2)) ∧ Aside0 (kq ≤ k) ∧ Aside0 (wc.heap[gb285]? = some (.cells #[.string a1_0, .string a1_1, .string a1_2] 35 (0, 0))) ∧ Aside0 (Below w.heap.size w wc))
  case first =>
    have H := HC3.out
    clear HC3
    replace H := Option.bind_eq_some_iff.mp H
    obtain ⟨t286, A50, H⟩ := H
    replace H : (if t286 = true then ((impl_ValidBlock.f k a1_0 a1_1 a1_2).bind fun t287 => (impl_PutBlock.j0 k l0 (!t287) a1_0 a1_1 a1_2)) else (impl_PutBlock.j0 k l0 true a1_0 a1_1 a1_2)) = some (r1, r2) := H
    have A5 := Aside0.mk A50
    clear A50
    by_cases c6 : t286 = true
    · subst c6
      have H1 : ((impl_ValidBlock.f k a1_0 a1_1 a1_2).bind fun t287 => (impl_PutBlock.j0 k l0 (!t287) a1_0 a1_1 a1_2)) = some (r1, r2) := by rw [if_pos rfl] at H; exact H
      clear H
      have H := H1
      clear H1
      replace H := Option.bind_eq_some_iff.mp H
      obtain ⟨t287, A70, H⟩ := H
      replace H : (impl_PutBlock.j0 k l0 (!t287) a1_0 a1_1 a1_2) = some (r1, r2) := H
      have A7 := Aside0.mk A70
      clear A70
      have H' := Aside0.mk H
      clear H
      go_wp2_with (first | ((with_reducible refine gate_callee (f := 32) rfl ?_); refine goesL_ (some 8) rfl rfl Tryd.func32 (by kernel_rfl) rfl #[.slice A0 l0.length c0] rfl (by (try simp only [List.map_toArray, List.map_cons, List.map_nil]); first | done | rfl | (simp only [List.length_drop, List.length_take]; rfl)) ?_; (with_reducible refine (impl_ValidBlocks.calls k _ _ l0 true _ ?side1 ?side2 ?side3 A5.out).mono ?_); (case side1 => repeat (first | exact (Kd.C_below HR0.out HB.out) | (with_reducible refine Kd.C_alloc ?_ _) | (with_reducible refine Kd.C_drewN ?_ _) | (with_reducible refine Kd.C_drew ?_))); (case side2 => exact HC0.out); (case side3 => exact HSH.out.below (show Below w.heap.size w _ from by repeat (first | (with_reducible first | exact HB.out | apply below_alloc | apply pw_below_drewN | apply below_drew1 | refine below_set ?_ GE285.out) | exact HB.out))); rintro e w8 ⟨rfl, hb⟩; refine ⟨_, rfl, ?_⟩; have n0_ := Aside0.mk (blk_below (g := gb285) (o := .cells #[.string a1_0, .string a1_1, .string a1_2] 35 (0, 0)) (by (with_reducible repeat (first | refine blk_drewN ?_ _ | refine blk_drew ?_ | refine blk_alloc ?_ _)); exact BK285.out) hb); have n1_ := Aside0.mk (below_step (by repeat (first | (with_reducible first | exact HB.out | apply below_alloc | apply pw_below_drewN | apply below_drew1 | refine below_set ?_ GE285.out) | exact HB.out)) hb); clear BK285; clear HB; have BK285 := n0_; have HB := n1_; clear n0_ n1_; (try clear hb); (try clear hb2); (try clear hk); (try clear hi); have hcz9_0 : w8.cell? ⟨gb285, 0, none⟩ = some (.string a1_0) := (blk_cell BK285.out 0).trans rfl; have hcz9_1 : w8.cell? ⟨gb285, 1, none⟩ = some (.string a1_1) := (blk_cell BK285.out 1).trans rfl; have hcz9_2 : w8.cell? ⟨gb285, 2, none⟩ = some (.string a1_2) := (blk_cell BK285.out 2).trans rfl; have hfz9_0 := blk_frozen BK285.out 0; have hfz9_1 := blk_frozen BK285.out 1; have hfz9_2 := blk_frozen BK285.out 2) | (go_at_call 31; (with_reducible refine (impl_ValidBlock.calls k a1_0 a1_1 a1_2 t287 _ ?side1 A7.out).mono ?_); (case side1 => exact HSH.out.below (show Below w.heap.size w _ from by repeat (first | (with_reducible first | exact HB.out | apply below_alloc | apply pw_below_drewN | apply below_drew1 | refine below_set ?_ GE285.out) | exact HB.out))); rintro e w10 ⟨rfl, hb⟩; have n0_ := Aside0.mk (blk_below (g := gb285) (o := .cells #[.string a1_0, .string a1_1, .string a1_2] 35 (0, 0)) (by (with_reducible repeat (first | refine blk_drewN ?_ _ | refine blk_drew ?_ | refine blk_alloc ?_ _)); exact BK285.out) hb); have n1_ := Aside0.mk (below_step (by repeat (first | (with_reducible first | exact HB.out | apply below_alloc | apply pw_below_drewN | apply below_drew1 | refine below_set ?_ GE285.out) | exact HB.out)) hb); clear BK285; clear HB; have BK285 := n0_; have HB := n1_; clear n0_ n1_; (try clear hb); (try clear hb2); (try clear hk); (try clear hi)))
      go_meet
      case rel => exact ⟨_, (!t287), (by first | rfl | (simp; done) | (simp [*]; done)), H', ⟨by first | omega | exact Nat.le_refl _⟩, ⟨by (with_reducible repeat (first | refine blk_drewN ?_ _ | refine blk_drew ?_ | refine blk_alloc ?_ _)); exact BK285.out⟩, ⟨by repeat (first | (with_reducible first | exact HB.out | apply below_alloc | apply pw_below_drewN | apply below_drew1 | refine below_set ?_ GE285.out) | exact HB.out)⟩⟩
    · replace c6 := Bool.eq_false_iff.mpr c6
      subst c6
      have H1 : (impl_PutBlock.j0 k l0 true a1_0 a1_1 a1_2) = some (r1, r2) := by rw [if_neg (show ¬ (false = true) by decide)] at H; exact H
      clear H
      have H := H1
      clear H1
      have H' := Aside0.mk H
      clear H
      go_wp2_with (first | ((with_reducible refine gate_callee (f := 32) rfl ?_); refine goesL_ (some 8) rfl rfl Tryd.func32 (by kernel_rfl) rfl #[.slice A0 l0.length c0] rfl (by (try simp only [List.map_toArray, List.map_cons, List.map_nil]); first | done | rfl | (simp only [List.length_drop, List.length_take]; rfl)) ?_; (with_reducible refine (impl_ValidBlocks.calls k _ _ l0 false _ ?side1 ?side2 ?side3 A5.out).mono ?_); (case side1 => repeat (first | exact (Kd.C_below HR0.out HB.out) | (with_reducible refine Kd.C_alloc ?_ _) | (with_reducible refine Kd.C_drewN ?_ _) | (with_reducible refine Kd.C_drew ?_))); (case side2 => exact HC0.out); (case side3 => exact HSH.out.below (show Below w.heap.size w _ from by repeat (first | (with_reducible first | exact HB.out | apply below_alloc | apply pw_below_drewN | apply below_drew1 | refine below_set ?_ GE285.out) | exact HB.out))); rintro e w11 ⟨rfl, hb⟩; refine ⟨_, rfl, ?_⟩; have n0_ := Aside0.mk (blk_below (g := gb285) (o := .cells #[.string a1_0, .string a1_1, .string a1_2] 35 (0, 0)) (by (with_reducible repeat (first | refine blk_drewN ?_ _ | refine blk_drew ?_ | refine blk_alloc ?_ _)); exact BK285.out) hb); have n1_ := Aside0.mk (below_step (by repeat (first | (with_reducible first | exact HB.out | apply below_alloc | apply pw_below_drewN | apply below_drew1 | refine below_set ?_ GE285.out) | exact HB.out)) hb); clear BK285; clear HB; have BK285 := n0_; have HB := n1_; clear n0_ n1_; (try clear hb); (try clear hb2); (try clear hk); (try clear hi)))
      go_meet
      case rel => exact ⟨_, (true), (by first | rfl | (simp; done) | (simp [*]; done)), H', ⟨by first | omega | exact Nat.le_refl _⟩, ⟨by (with_reducible repeat (first | refine blk_drewN ?_ _ | refine blk_drew ?_ | refine blk_alloc ?_ _)); exact BK285.out⟩, ⟨by repeat (first | (with_reducible first | exact HB.out | apply below_alloc | apply pw_below_drewN | apply below_drew1 | refine below_set ?_ GE285.out) | exact HB.out)⟩⟩
  case rest =>
    clear HC3
    try clear c2
    try clear p2
    try clear c3
    try clear c6
    try clear hcz9_0
    try clear hcz9_1
    try clear hcz9_2
    try clear hfz9_0
    try clear hfz9_1
    try clear hfz9_2
    obtain ⟨kq, x14_2, rfl, HA, HJ2, BK285, HB⟩ := hcut
    cases kq with
    | zero => exact absurd HA.out (by simp [impl_PutBlock.j0])
    | succ kj2 =>
      have H := HA.out
      clear HA
      simp only [impl_PutBlock.j0] at H
      by_cases c12 : x14_2 = true
      · subst c12
        have H1 : (some (([] : List (S35)), 1)) = some (r1, r2) := by rw [if_pos rfl] at H; exact H
        clear H
        have H := H1
        clear H1
        simp only [Option.some.injEq, Prod.mk.injEq] at H
        obtain ⟨rfl, rfl⟩ := H
        go_wp2
        go_ret2
        exact ⟨_, by first | rfl | (simp [errW_none, errW_some] <;> rfl) | (simp [*, errW_none, errW_some] <;> rfl), by first | exact Kd.R_nil _ _ _ _ _ | exact Kd.N_nil _ _ _ _ _ | exact Kd.V_nil _ _ _ _ _ | exact Kd.Q_nil _ _ _ _ _ | exact Kd.S_nil _ _ _ _ _, by repeat (first | (with_reducible first | exact HB.out | apply below_alloc | apply pw_below_drewN | apply below_drew1 | refine below_set ?_ GE285.out) | exact HB.out)⟩
      · replace c12 := Bool.eq_false_iff.mpr c12
        subst c12
        have H1 : ((impl_withBlock.f kj2 l0 a1_0 a1_1 a1_2).bind fun t288 => (if (t288.length : Int) > 32 then (some (([] : List (S35)), 5)) else (some (t288, 0)))) = some (r1, r2) := by rw [if_neg (show ¬ (false = true) by decide)] at H; exact H
        clear H
        have H := H1
        clear H1
        replace H := Option.bind_eq_some_iff.mp H
        obtain ⟨t288, A130, H⟩ := H
        replace H : (if (t288.length : Int) > 32 then (some (([] : List (S35)), 5)) else (some (t288, 0))) = some (r1, r2) := H
        have A13 := Aside0.mk A130
        clear A130
        by_cases c14 : (t288.length : Int) > 32
        · rw [if_pos c14] at H
          have c14b0 : decide (32 < (t288.length : Int)) = true := decide_eq_true c14
          have c14b1 : decide (32 < t288.length) = true := decide_eq_true (by omega)
          clear c14
          simp only [Option.some.injEq, Prod.mk.injEq] at H
          obtain ⟨rfl, rfl⟩ := H
          have hcz15_0 : wc.cell? ⟨gb285, 0, none⟩ = some (.string a1_0) := (blk_cell BK285.out 0).trans rfl
          have hcz15_1 : wc.cell? ⟨gb285, 1, none⟩ = some (.string a1_1) := (blk_cell BK285.out 1).trans rfl
          have hcz15_2 : wc.cell? ⟨gb285, 2, none⟩ = some (.string a1_2) := (blk_cell BK285.out 2).trans rfl
          have hfz15_0 := blk_frozen BK285.out 0
          have hfz15_1 := blk_frozen BK285.out 1
          have hfz15_2 := blk_frozen BK285.out 2
          go_wp2_with (first | ((with_reducible refine gate_callee (f := 33) rfl ?_); refine goesL_ (some 17) rfl rfl Tryd.func33 (by kernel_rfl) rfl #[.slice A0 l0.length c0, .agg #[.string a1_0, .string a1_1, .string a1_2]] rfl (by (try simp only [List.map_toArray, List.map_cons, List.map_nil]); first | done | rfl | (simp only [List.length_drop, List.length_take]; rfl)) ?_; (with_reducible refine (impl_withBlock.calls kj2 _ _ l0 a1_0 a1_1 a1_2 t288 _ ?side1 ?side2 A13.out).mono ?_); (case side1 => repeat (first | exact (Kd.C_below HR0.out HB.out) | (with_reducible refine Kd.C_alloc ?_ _) | (with_reducible refine Kd.C_drewN ?_ _) | (with_reducible refine Kd.C_drew ?_))); (case side2 => exact HC0.out); rintro e w16 ⟨v289, rfl, ho0, hb⟩; refine ⟨_, rfl, ?_⟩; have n0_ := Aside0.mk (Kd.R_lower (Kd.R_newB ho0 (g := gb285) (o := .cells #[.string a1_0, .string a1_1, .string a1_2] 35 (0, 0)) (by (with_reducible repeat (first | refine blk_drewN ?_ _ | refine blk_drew ?_ | refine blk_alloc ?_ _)); exact BK285.out)) (below_size (by repeat (first | (with_reducible first | exact HB.out | apply below_alloc | apply pw_below_drewN | apply below_drew1 | refine below_set ?_ GE285.out) | exact HB.out)))); have n1_ := Aside0.mk (blk_below (g := gb285) (o := .cells #[.string a1_0, .string a1_1, .string a1_2] 35 (0, 0)) (by (with_reducible repeat (first | refine blk_drewN ?_ _ | refine blk_drew ?_ | refine blk_alloc ?_ _)); exact BK285.out) hb); have n2_ := Aside0.mk (below_step (by repeat (first | (with_reducible first | exact HB.out | apply below_alloc | apply pw_below_drewN | apply below_drew1 | refine below_set ?_ GE285.out) | exact HB.out)) hb); clear BK285; clear HB; have HO290 := n0_; have BK285 := n1_; have HB := n2_; clear n0_ n1_ n2_; (try clear hb); (try clear hb2); (try clear hk); (try clear hi); (try clear ho0); obtain ⟨Ao17, co17, eo17⟩ := Kd.R_slice HO290.out; subst eo17))
          go_ret2
          exact ⟨_, by first | rfl | (simp [errW_none, errW_some] <;> rfl) | (simp [*, errW_none, errW_some] <;> rfl), by first | exact Kd.R_nil _ _ _ _ _ | exact Kd.N_nil _ _ _ _ _ | exact Kd.V_nil _ _ _ _ _ | exact Kd.Q_nil _ _ _ _ _ | exact Kd.S_nil _ _ _ _ _, by repeat (first | (with_reducible first | exact HB.out | apply below_alloc | apply pw_below_drewN | apply below_drew1 | refine below_set ?_ GE285.out) | exact HB.out)⟩
        · rw [if_neg c14] at H
          have c14b0 : decide (32 < (t288.length : Int)) = false := decide_eq_false c14
          have c14b1 : decide (32 < t288.length) = false := decide_eq_false (by omega)
          clear c14
          simp only [Option.some.injEq, Prod.mk.injEq] at H
          obtain ⟨rfl, rfl⟩ := H
          have hcz18_0 : wc.cell? ⟨gb285, 0, none⟩ = some (.string a1_0) := (blk_cell BK285.out 0).trans rfl
          have hcz18_1 : wc.cell? ⟨gb285, 1, none⟩ = some (.string a1_1) := (blk_cell BK285.out 1).trans rfl
          have hcz18_2 : wc.cell? ⟨gb285, 2, none⟩ = some (.string a1_2) := (blk_cell BK285.out 2).trans rfl
          have hfz18_0 := blk_frozen BK285.out 0
          have hfz18_1 := blk_frozen BK285.out 1
          have hfz18_2 := blk_frozen BK285.out 2
          go_wp2_with (first | ((with_reducible refine gate_callee (f := 33) rfl ?_); refine goesL_ (some 17) rfl rfl Tryd.func33 (by kernel_rfl) rfl #[.slice A0 l0.length c0, .agg #[.string a1_0, .string a1_1, .string a1_2]] rfl (by (try simp only [List.map_toArray, List.map_cons, List.map_nil]); first | done | rfl | (simp only [List.length_drop, List.length_take]; rfl)) ?_; (with_reducible refine (impl_withBlock.calls kj2 _ _ l0 a1_0 a1_1 a1_2 t288 _ ?side1 ?side2 A13.out).mono ?_); (case side1 => repeat (first | exact (Kd.C_below HR0.out HB.out) | (with_reducible refine Kd.C_alloc ?_ _) | (with_reducible refine Kd.C_drewN ?_ _) | (with_reducible refine Kd.C_drew ?_))); (case side2 => exact HC0.out); rintro e w19 ⟨v289, rfl, ho0, hb⟩; refine ⟨_, rfl, ?_⟩; have n0_ := Aside0.mk (Kd.R_lower (Kd.R_newB ho0 (g := gb285) (o := .cells #[.string a1_0, .string a1_1, .string a1_2] 35 (0, 0)) (by (with_reducible repeat (first | refine blk_drewN ?_ _ | refine blk_drew ?_ | refine blk_alloc ?_ _)); exact BK285.out)) (below_size (by repeat (first | (with_reducible first | exact HB.out | apply below_alloc | apply pw_below_drewN | apply below_drew1 | refine below_set ?_ GE285.out) | exact HB.out)))); have n1_ := Aside0.mk (blk_below (g := gb285) (o := .cells #[.string a1_0, .string a1_1, .string a1_2] 35 (0, 0)) (by (with_reducible repeat (first | refine blk_drewN ?_ _ | refine blk_drew ?_ | refine blk_alloc ?_ _)); exact BK285.out) hb); have n2_ := Aside0.mk (below_step (by repeat (first | (with_reducible first | exact HB.out | apply below_alloc | apply pw_below_drewN | apply below_drew1 | refine below_set ?_ GE285.out) | exact HB.out)) hb); clear BK285; clear HB; have HO290 := n0_; have BK285 := n1_; have HB := n2_; clear n0_ n1_ n2_; (try clear hb); (try clear hb2); (try clear hk); (try clear hi); (try clear ho0); obtain ⟨Ao20, co20, eo20⟩ := Kd.R_slice HO290.out; subst eo20))
          go_ret2
          exact ⟨_, by first | rfl | (simp [errW_none, errW_some] <;> rfl) | (simp [*, errW_none, errW_some] <;> rfl), by (with_reducible repeat (first | apply Kd.R_alloc | apply Kd.R_drewN | apply Kd.R_drew)); exact Kd.R_mono HO290.out (fun _ hk => trivial), by repeat (first | (with_reducible first | exact HB.out | apply below_alloc | apply pw_below_drewN | apply below_drew1 | refine below_set ?_ GE285.out) | exact HB.out)⟩
end Go.Proofs.YtkllogmpaaeokaaDoor.XS
end

section
namespace Go.Proofs.YtkllogmpaaeokaaDoor.XS
open Go.RowKit Go.Proofs.YtkllogmpaaeokaaDoorW.PrintWords Go.Proofs.YtkllogmpaaeokaaDoorW.PrintLast Go.Proofs.YtkllogmpaaeokaaDoorW.PrintMore
attribute [local go_sem] run_eql_slice_nil binOp_string_gtr' binOp_string_leq' binOp_string_geq' max2_int min2_int max_two min_two max_three min_three max_four min_four   -- for this text's walks alone
set_option linter.unusedVariables false
set_option linter.unusedSimpArgs false
mutual
def impl_SalvageBlocks.l0 : Nat → List (S35) → List ByteArray → Int → Int → Option ((List (S35)))
  | 0, _, _, _, _ => none
  | k + 1, x4, x17, x18, x19 => if x19 < x18 then (if 0 ≤ x19 then (if x19 < (x17.length : Int) then ((impl_blockOf.f k (rdOf ByteArray.empty x17 x19)).bind fun bt298 => (if x19 = 0 then (impl_SalvageBlocks.j1 k x4 x17 x18 x19 true bt298.1 bt298.2.1 bt298.2.2.1) else (impl_SalvageBlocks.j1 k x4 x17 x18 x19 (bt298.2.2.2 != 0) bt298.1 bt298.2.1 bt298.2.2.1))) else (none)) else (none)) else (some x4)
def impl_SalvageBlocks.j1 : Nat → List (S35) → List ByteArray → Int → Int → Bool → ByteArray → ByteArray → ByteArray → Option ((List (S35)))
  | 0, _, _, _, _, _, _, _, _ => none
  | k + 1, x4, x17, x18, x19, x34, x303000, x303001, x303002 => if x34 = true then (impl_SalvageBlocks.l0 k x4 x17 x18 (wrap64 (x19 + 1))) else ((impl_PutBlock.f k x4 x303000 x303001 x303002).bind fun bt303 => (if bt303.2 = 0 then (impl_SalvageBlocks.l0 k bt303.1 x17 x18 (wrap64 (x19 + 1))) else (impl_SalvageBlocks.l0 k x4 x17 x18 (wrap64 (x19 + 1)))))
end
def impl_SalvageBlocks.f (k : Nat) (a0 : ByteArray) : Option ((List (S35))) := (strings_Split.f a0 (⟨#[10]⟩ : ByteArray)).bind fun t291 => (if 0 ≤ (wrap64 ((t291.length : Int) - 1)) then (if (wrap64 ((t291.length : Int) - 1)) ≤ (t291.length : Int) then ((some (t291.take ((wrap64 ((t291.length : Int) - 1)) : Int).toNat : List ByteArray)).bind fun y294 => (impl_SalvageBlocks.l0 k ([] : List (S35)) y294 (y294.length : Int) 0)) else (none)) else (none))
set_option maxHeartbeats 8000000 in
set_option maxRecDepth 100000 in
theorem impl_SalvageBlocks.calls (k : Nat) (a0 : ByteArray) (r : List (S35)) (w : World) (hSH : ShT Tryd.prog w) (h : impl_SalvageBlocks.f k a0 = some r) :
    Calls Tryd.prog 6 #[.string a0] w fun e w' => ∃ v0_ : Value, e = .returned (v0_) ∧ Kd.R k35 35 w' w.heap.size (fun _ => True) v0_ r ∧ Below w.heap.size w w' := by
  have hu35 := Tryd.underlying35
  have HB := Aside0.mk (Below.refl w.heap.size w)
  have HSH := Aside0.mk hSH
  clear hSH
  have H : ((strings_Split.f a0 (⟨#[10]⟩ : ByteArray)).bind fun t291 => (if 0 ≤ (wrap64 ((t291.length : Int) - 1)) then (if (wrap64 ((t291.length : Int) - 1)) ≤ (t291.length : Int) then ((some (t291.take ((wrap64 ((t291.length : Int) - 1)) : Int).toNat : List ByteArray)).bind fun y294 => (impl_SalvageBlocks.l0 k ([] : List (S35)) y294 (y294.length : Int) 0)) else (none)) else (none))) = some r := h
  clear h
  replace H := Option.bind_eq_some_iff.mp H
  obtain ⟨t291, A20, H⟩ := H
  replace H : (if 0 ≤ (wrap64 ((t291.length : Int) - 1)) then (if (wrap64 ((t291.length : Int) - 1)) ≤ (t291.length : Int) then ((some (t291.take ((wrap64 ((t291.length : Int) - 1)) : Int).toNat : List ByteArray)).bind fun y294 => (impl_SalvageBlocks.l0 k ([] : List (S35)) y294 (y294.length : Int) 0)) else (none)) else (none)) = some r := H
  have A2 := Aside0.mk A20
  clear A20
  obtain ⟨ji3, hji3⟩ : ∃ j_ : Int, (wrap64 ((t291.length : Int) - 1)) = j_ := ⟨_, rfl⟩
  replace H : (if 0 ≤ (ji3) then (if (ji3) ≤ (t291.length : Int) then ((some (t291.take ((ji3) : Int).toNat : List ByteArray)).bind fun y294 => (impl_SalvageBlocks.l0 k ([] : List (S35)) y294 (y294.length : Int) 0)) else (none)) else (none)) = some r := by first | (rw [hji3] at H; exact H) | (simp only [hji3] at H ⊢; exact H)
  (try rw [hji3] at A2)
  have hji3w : (IntKind.i64.wrap ((t291.length : Int) - 1)) = ji3 := (i64_w _).trans hji3
  by_cases c4 : 0 ≤ (ji3)
  · rw [if_pos c4] at H
    have c4b0 := eq_true c4
    have c4b1 : decide (0 ≤ (ji3)) = true := decide_eq_true c4
    clear c4
    by_cases c5 : (ji3) ≤ (t291.length : Int)
    · rw [if_pos c5] at H
      have c5b0 := eq_true c5
      have c5b1 : decide ((ji3) ≤ (t291.length : Int)) = true := decide_eq_true c5
      clear c5
      obtain ⟨y294, hy294⟩ : ∃ y_ : List ByteArray, y_ = (t291.take ((ji3) : Int).toNat) := ⟨_, rfl⟩
      replace H : (impl_SalvageBlocks.l0 k ([] : List (S35)) y294 (y294.length : Int) 0) = some r := by first | (rw [hy294]; with_reducible exact H) | (have H2_ := (Option.bind_some _ _).symm.trans H; rw [hy294]; with_reducible exact H2_) | (have H2_ := (Option.bind_some _ _).symm.trans H; with_reducible exact H2_) | with_reducible exact H | (rw [hy294]; exact H) | exact H
      have Ny294 := Aside0.mk hy294
      clear hy294
      have H' := Aside0.mk H
      clear H
      go_enter Tryd.func6, Tryd.ntmps6
      go_wp2_with (first | ((with_reducible refine gate_callee (f := 18) rfl ?_); refine goesL_ (some 12) rfl rfl Tryd.func18 (by kernel_rfl) rfl #[.string a0, .string (⟨#[10]⟩ : ByteArray)] rfl (by (try simp only [List.map_toArray, List.map_cons, List.map_nil]); first | done | rfl | (simp only [List.length_drop, List.length_take]; rfl)) ?_; (with_reducible refine (strings_Split.calls a0 (⟨#[10]⟩ : ByteArray) t291 _ ?side1 A2.out).mono ?_); (case side1 => exact HSH.out.below (show Below w.heap.size w _ from by repeat (first | (with_reducible first | exact HB.out | apply below_alloc | apply pw_below_drewN | apply below_drew1) | exact HB.out))); rintro e w6 ⟨v292, rfl, ho0, hb⟩; refine ⟨_, rfl, ?_⟩; have n0_ := Aside0.mk (Kd.R_lower ho0 (below_size (by repeat (first | (with_reducible first | exact HB.out | apply below_alloc | apply pw_below_drewN | apply below_drew1) | exact HB.out)))); have n1_ := Aside0.mk (below_step (by repeat (first | (with_reducible first | exact HB.out | apply below_alloc | apply pw_below_drewN | apply below_drew1) | exact HB.out)) hb); clear HB; have HO293 := n0_; have HB := n1_; clear n0_ n1_; (try clear hb); (try clear hb2); (try clear hk); (try clear hi); (try clear ho0); obtain ⟨Ao7, co7, eo7⟩ := Kd.R_slice HO293.out; subst eo7; have q8 : ((ji3) : Int) ≤ ((t291.length : Int) : Int) := of_decide_eq_true (by first | (with_reducible assumption) | assumption); obtain ⟨i08, hi08, _, hsz8, _⟩ := info_parts info9; have hcut8 := cut_to (P := Tryd.prog) 31 9 .i64 Tryd.underlying31 hi08 Ao7 t291.length co7 (ji3) (of_decide_eq_true (by first | (with_reducible assumption) | assumption)) q8 (Kd.R_reads' HO293.out).2.1; have hr8 := Kd.R_take (m := ((ji3) : Int).toNat) HO293.out (by omega); have hy8 : y294.length = ((ji3) : Int).toNat := (by rw [Ny294.out, List.length_take]; omega); rw [← Ny294.out] at hr8; rw [← hy8] at hr8 hcut8; clear hy8 hi08 hsz8 HO293; have HO296 := Aside0.mk hr8; clear hr8; replace q8 := eq_true q8))
      go_loopg [4, 19] k (fun kq v4 v19 w' => ∃ (x4_1 : List (S35)) (x19_1 : Int), v19 = .int .i64 x19_1 ∧ Aside0 (impl_SalvageBlocks.l0 kq x4_1 y294 (y294.length : Int) x19_1 = some r) ∧ Aside0 (kq ≤ k) ∧ Aside0 (Kd.R k35 35 w' w.heap.size (fun _ => True) v4 x4_1) ∧ Aside0 (Kd.R Kd.string 9 w' w.heap.size (fun _ => True) (.slice Ao7 y294.length co7) y294) ∧ Aside0 (Below w.heap.size w w'))
      case atStart => exact ⟨(([] : List (S35))), (0), (by first | rfl | (simp; done) | (simp [*]; done)), H', ⟨Nat.le_refl _⟩, ⟨by first | exact Kd.R_nil _ _ _ _ _ | exact Kd.N_nil _ _ _ _ _ | exact Kd.V_nil _ _ _ _ _ | exact Kd.Q_nil _ _ _ _ _ | exact Kd.S_nil _ _ _ _ _⟩, ⟨by (with_reducible repeat (first | apply Kd.R_alloc | apply Kd.R_drewN | apply Kd.R_drew)); exact HO296.out⟩, ⟨by repeat (first | (with_reducible first | exact HB.out | apply below_alloc | apply pw_below_drewN | apply below_drew1) | exact HB.out)⟩⟩
      case round =>
        clear H'
        try clear c1
        try clear p2
        try clear c4
        try clear c4b0
        try clear c4b1
        try clear c5
        try clear c5b0
        try clear c5b1
        try clear c6
        try clear p6
        try clear q8
        try clear q8
        obtain ⟨x4_1, x19_1, rfl, HA, HK1, HO_4, HO_17, HB⟩ := hrel
        cases gk with
        | zero => exact absurd HA.out (by simp [impl_SalvageBlocks.l0])
        | succ k1 =>
          have H := HA.out
          clear HA
          simp only [impl_SalvageBlocks.l0] at H
          by_cases c9 : x19_1 < (y294.length : Int)
          · rw [if_pos c9] at H
            have c9b0 : decide (x19_1 < (y294.length : Int)) = true := decide_eq_true c9
            clear c9
            by_cases c10 : 0 ≤ x19_1
            · rw [if_pos c10] at H
              have c10b0 : decide (0 ≤ x19_1) = true := decide_eq_true c10
              clear c10
              by_cases c11 : x19_1 < (y294.length : Int)
              · rw [if_pos c11] at H
                have c11b0 : decide (x19_1 < (y294.length : Int)) = true := decide_eq_true c11
                clear c11
                replace H := Option.bind_eq_some_iff.mp H
                obtain ⟨⟨t298, t299, t300, t301⟩, A120, H⟩ := H
                replace H : (if x19_1 = 0 then (impl_SalvageBlocks.j1 k1 x4_1 y294 (y294.length : Int) x19_1 true t298 t299 t300) else (impl_SalvageBlocks.j1 k1 x4_1 y294 (y294.length : Int) x19_1 (t301 != 0) t298 t299 t300)) = some r := H
                have A12 := Aside0.mk A120
                clear A120
                have HC13 := Aside0.mk H
                clear H
                have p297 : 0 ≤ (x19_1 : Int) := of_decide_eq_true (by first | (with_reducible assumption) | assumption)
                have q297 : x19_1 < (y294.length : Int) := of_decide_eq_true (by first | (with_reducible assumption) | assumption)
                obtain ⟨ad297, e297, hx297_0⟩ := Kd.at_string (Kd.R_reads' HO_17.out).2.2 x19_1 p297 q297
                cases e297
                replace p297 := eq_true p297
                replace q297 := eq_true q297
                go_upto_region 7 with (first | ((with_reducible refine gate_callee (f := 19) rfl ?_); refine goesL_ (some 26) rfl rfl Tryd.func19 (by kernel_rfl) rfl #[.string (rdOf ByteArray.empty y294 x19_1)] rfl (by (try simp only [List.map_toArray, List.map_cons, List.map_nil]); first | done | rfl | (simp only [List.length_drop, List.length_take]; rfl)) ?_; (with_reducible refine (impl_blockOf.calls k1 (rdOf ByteArray.empty y294 x19_1) t298 t299 t300 t301 _ ?side1 A12.out).mono ?_); (case side1 => exact HSH.out.below (show Below w.heap.size w _ from by repeat (first | (with_reducible first | exact HB.out | apply below_alloc | apply pw_below_drewN | apply below_drew1) | exact HB.out))); rintro e w14 ⟨rfl, hb⟩; refine ⟨_, rfl, ?_⟩; have n0_ := Aside0.mk (Kd.R_below (by (with_reducible repeat (first | apply Kd.R_alloc | apply Kd.R_drewN | apply Kd.R_drew)); exact HO_4.out) hb); have n1_ := Aside0.mk (Kd.R_below (by (with_reducible repeat (first | apply Kd.R_alloc | apply Kd.R_drewN | apply Kd.R_drew)); exact HO_17.out) hb); have n2_ := Aside0.mk (below_step (by repeat (first | (with_reducible first | exact HB.out | apply below_alloc | apply pw_below_drewN | apply below_drew1) | exact HB.out)) hb); clear HO_4; clear HO_17; clear HB; have HO_4 := n0_; have HO_17 := n1_; have HB := n2_; clear n0_ n1_ n2_; (try clear hb); (try clear hb2); (try clear hk); (try clear hi)) | ((with_reducible refine gate_dst (N := 7) rfl ?_); refine box_event ?hg (N := 7) ?hd (cs := #[.string (⟨#[]⟩ : ByteArray), .string (⟨#[]⟩ : ByteArray), .string (⟨#[]⟩ : ByteArray)]) (t := 35) ?hr ?_; (case hd => rfl); (case hg => rfl); (case hr => first | (go_simp; done) | (go_simp; rfl)); intro gb302 hg w15 hbox hb; have n0_ := Aside0.mk (Kd.R_below (Kd.R_elderB (by (with_reducible repeat (first | apply Kd.R_alloc | apply Kd.R_drewN | apply Kd.R_drew)); exact HO_4.out) gb302 (Nat.le_of_eq hg.symm)) hb); have n1_ := Aside0.mk (Kd.R_below (by (with_reducible repeat (first | apply Kd.R_alloc | apply Kd.R_drewN | apply Kd.R_drew)); exact HO_17.out) hb); have n2_ := Aside0.mk (below_step (by repeat (first | (with_reducible first | exact HB.out | apply below_alloc | apply pw_below_drewN | apply below_drew1) | exact HB.out)) hb); have n3_ := Aside0.mk (hbox); have n4_ := Aside0.mk ((by rw [hg]; exact (below_size (by repeat (first | (with_reducible first | exact HB.out | apply below_alloc | apply pw_below_drewN | apply below_drew1) | exact HB.out))) : w.heap.size ≤ gb302)); have n5_ := Aside0.mk ((by rw [hg]; exact (below_size (by repeat (first | (with_reducible first | exact HB.out | apply below_alloc | apply pw_below_drewN | apply below_drew1) | exact HB.out))) : w.heap.size ≤ gb302)); clear HO_4; clear HO_17; clear HB; have HO_4 := n0_; have HO_17 := n1_; have HB := n2_; have BK302 := n3_; have GW302 := n4_; have GE302 := n5_; clear n0_ n1_ n2_ n3_ n4_ n5_; clear hb hbox hg; have hcz16_0 : w15.cell? ⟨gb302, 0, none⟩ = some (.string (⟨#[]⟩ : ByteArray)) := (blk_cell BK302.out 0).trans rfl; have hcz16_1 : w15.cell? ⟨gb302, 1, none⟩ = some (.string (⟨#[]⟩ : ByteArray)) := (blk_cell BK302.out 1).trans rfl; have hcz16_2 : w15.cell? ⟨gb302, 2, none⟩ = some (.string (⟨#[]⟩ : ByteArray)) := (blk_cell BK302.out 2).trans rfl; have hfz16_0 := blk_frozen BK302.out 0; have hfz16_1 := blk_frozen BK302.out 1; have hfz16_2 := blk_frozen BK302.out 2))
                (try simp only [Act.put, List.setIfInBounds_toArray, List.set_cons_zero, List.set_cons_succ])
                go_cut [34] (fun v34 wc => ∃ (kq : Nat) (x34_12 : Bool), v34 = .bool x34_12 ∧ Aside0 (impl_SalvageBlocks.j1 kq x4_1 y294 (y294.length : Int) x19_1 x34_12 t298 t299 t300 = some r) ∧ Aside0 (kq ≤ k1) ∧ Aside0 (Kd.R k35 35 wc w.heap.size (fun k_ => k_ ≠ gb302) u4 x4_1) ∧ Aside0 (Kd.R Kd.string 9 wc w.heap.size (fun _ => True) (.slice (some ad297) y294.length co7) y294) ∧ Aside0 (wc.heap[gb302]? = some (.cells #[.string t298, .string t299, .string t300] 35 (0, 0))) ∧ Aside0 (Below w.heap.size w wc))
                case first =>
                  have H := HC13.out
                  clear HC13
                  by_cases c17 : x19_1 = 0
                  · rw [if_pos c17] at H
                    have c17b0 : (x19_1 == 0) = true := beq_iff_eq.mpr c17
                    have c17b1 : (x19_1 != 0) = false := bne_eq_false_iff_eq.mpr c17
                    clear c17
                    (first | rw [c17b0] | (simp only [i64_w, i32_w]; rw [c17b0]) | skip)
                    have H' := Aside0.mk H
                    clear H
                    go_wp2
                    go_meet
                    case rel => exact ⟨_, (true), (by first | rfl | (simp; done) | (simp [*]; done)), H', ⟨by have := HK1.out; first | omega | exact Nat.le_refl _⟩, ⟨by (with_reducible repeat (first | apply Kd.R_alloc | apply Kd.R_drewN | apply Kd.R_drew)); exact Kd.R_mono (Kd.R_far (p := ⟨gb302, 2, none⟩) (Kd.R_far (p := ⟨gb302, 1, none⟩) (Kd.R_far (p := ⟨gb302, 0, none⟩) (Kd.R_mono HO_4.out (fun k_ hk => (⟨hk, hk.2⟩ : _ ∧ k_ ≠ gb302))) (fun _ hk => hk.2) (.string t298)) (fun _ hk => hk.2) (.string t299)) (fun _ hk => hk.2) (.string t300)) (fun _ hk => hk.1.2)⟩, ⟨by (with_reducible repeat (first | apply Kd.R_alloc | apply Kd.R_drewN | apply Kd.R_drew)); exact Kd.R_mono (Kd.R_far (p := ⟨gb302, 2, none⟩) (Kd.R_far (p := ⟨gb302, 1, none⟩) (Kd.R_far (p := ⟨gb302, 0, none⟩) (Kd.R_types HO_17.out BK302.out (by decide)) (fun _ hk => hk.2) (.string t298)) (fun _ hk => hk.2) (.string t299)) (fun _ hk => hk.2) (.string t300)) (fun _ hk => trivial)⟩, ⟨by (with_reducible repeat (first | refine blk_drewN ?_ _ | refine blk_drew ?_ | refine blk_alloc ?_ _)); refine blk_put (cs := #[.string t298, .string t299, .string (⟨#[]⟩ : ByteArray)]) ?_ 2 _ rfl; (with_reducible repeat (first | refine blk_drewN ?_ _ | refine blk_drew ?_ | refine blk_alloc ?_ _)); refine blk_put (cs := #[.string t298, .string (⟨#[]⟩ : ByteArray), .string (⟨#[]⟩ : ByteArray)]) ?_ 1 _ rfl; (with_reducible repeat (first | refine blk_drewN ?_ _ | refine blk_drew ?_ | refine blk_alloc ?_ _)); refine blk_put (cs := #[.string (⟨#[]⟩ : ByteArray), .string (⟨#[]⟩ : ByteArray), .string (⟨#[]⟩ : ByteArray)]) ?_ 0 _ rfl; (with_reducible repeat (first | refine blk_drewN ?_ _ | refine blk_drew ?_ | refine blk_alloc ?_ _)); exact BK302.out⟩, ⟨by repeat (first | (with_reducible first | exact HB.out | apply below_alloc | apply pw_below_drewN | apply below_drew1 | refine below_set ?_ GE302.out) | exact HB.out)⟩⟩
                  · rw [if_neg c17] at H
                    have c17b0 : (x19_1 == 0) = false := beq_eq_false_iff_ne.mpr c17
                    have c17b1 : (x19_1 != 0) = true := bne_iff_ne.mpr c17
                    (first | rw [c17b0] | (simp only [i64_w, i32_w]; rw [c17b0]) | skip)
                    have H' := Aside0.mk H
                    clear H
                    go_wp2
                    go_meet
                    case rel => exact ⟨_, ((t301 != 0)), (by first | rfl | (simp; done) | (simp [*]; done)), H', ⟨by have := HK1.out; first | omega | exact Nat.le_refl _⟩, ⟨by (with_reducible repeat (first | apply Kd.R_alloc | apply Kd.R_drewN | apply Kd.R_drew)); exact Kd.R_mono (Kd.R_far (p := ⟨gb302, 2, none⟩) (Kd.R_far (p := ⟨gb302, 1, none⟩) (Kd.R_far (p := ⟨gb302, 0, none⟩) (Kd.R_mono HO_4.out (fun k_ hk => (⟨hk, hk.2⟩ : _ ∧ k_ ≠ gb302))) (fun _ hk => hk.2) (.string t298)) (fun _ hk => hk.2) (.string t299)) (fun _ hk => hk.2) (.string t300)) (fun _ hk => hk.1.2)⟩, ⟨by (with_reducible repeat (first | apply Kd.R_alloc | apply Kd.R_drewN | apply Kd.R_drew)); exact Kd.R_mono (Kd.R_far (p := ⟨gb302, 2, none⟩) (Kd.R_far (p := ⟨gb302, 1, none⟩) (Kd.R_far (p := ⟨gb302, 0, none⟩) (Kd.R_types HO_17.out BK302.out (by decide)) (fun _ hk => hk.2) (.string t298)) (fun _ hk => hk.2) (.string t299)) (fun _ hk => hk.2) (.string t300)) (fun _ hk => trivial)⟩, ⟨by (with_reducible repeat (first | refine blk_drewN ?_ _ | refine blk_drew ?_ | refine blk_alloc ?_ _)); refine blk_put (cs := #[.string t298, .string t299, .string (⟨#[]⟩ : ByteArray)]) ?_ 2 _ rfl; (with_reducible repeat (first | refine blk_drewN ?_ _ | refine blk_drew ?_ | refine blk_alloc ?_ _)); refine blk_put (cs := #[.string t298, .string (⟨#[]⟩ : ByteArray), .string (⟨#[]⟩ : ByteArray)]) ?_ 1 _ rfl; (with_reducible repeat (first | refine blk_drewN ?_ _ | refine blk_drew ?_ | refine blk_alloc ?_ _)); refine blk_put (cs := #[.string (⟨#[]⟩ : ByteArray), .string (⟨#[]⟩ : ByteArray), .string (⟨#[]⟩ : ByteArray)]) ?_ 0 _ rfl; (with_reducible repeat (first | refine blk_drewN ?_ _ | refine blk_drew ?_ | refine blk_alloc ?_ _)); exact BK302.out⟩, ⟨by repeat (first | (with_reducible first | exact HB.out | apply below_alloc | apply pw_below_drewN | apply below_drew1 | refine below_set ?_ GE302.out) | exact HB.out)⟩⟩
                case rest =>
                  clear HC13
                  try clear c1
                  try clear p2
                  try clear q2
                  try clear hx2
                  try clear c4
                  try clear c4b0
                  try clear c4b1
                  try clear c5
                  try clear c5b0
                  try clear c5b1
                  try clear c6
                  try clear p6
                  try clear q8
                  try clear c9
                  try clear c9b0
                  try clear c10
                  try clear c10b0
                  try clear c11
                  try clear c11b0
                  try clear c17
                  try clear c17b0
                  try clear c17b1
                  try clear hcz16_0
                  try clear hcz16_1
                  try clear hcz16_2
                  try clear hfz16_0
                  try clear hfz16_1
                  try clear hfz16_2
                  try clear hx297_0
                  try clear p2
                  try clear p297
                  try clear p6
                  try clear q297
                  try clear q8
                  obtain ⟨kq, x34_12, rfl, HA, HJ12, HO_4, HO_17, BK302, HB⟩ := hcut
                  cases kq with
                  | zero => exact absurd HA.out (by simp [impl_SalvageBlocks.j1])
                  | succ kj12 =>
                    have H := HA.out
                    clear HA
                    simp only [impl_SalvageBlocks.j1] at H
                    by_cases c18 : x34_12 = true
                    · subst c18
                      have H1 : (impl_SalvageBlocks.l0 kj12 x4_1 y294 (y294.length : Int) (wrap64 (x19_1 + 1))) = some r := by rw [if_pos rfl] at H; exact H
                      clear H
                      have H := H1
                      clear H1
                      have H' := Aside0.mk H
                      clear H
                      go_wp2
                      go_roundg kj12
                      case measure => have := HK1.out; have := HJ12.out; omega
                      case rel => exact ⟨(x4_1), (wrap64 (x19_1 + 1)), (by first | rfl | (simp; done) | (simp [*]; done)), H', ⟨by have := HK1.out; have := HJ12.out; omega⟩, ⟨by (with_reducible repeat (first | apply Kd.R_alloc | apply Kd.R_drewN | apply Kd.R_drew)); exact Kd.R_mono HO_4.out (fun _ hk => trivial)⟩, ⟨by (with_reducible repeat (first | apply Kd.R_alloc | apply Kd.R_drewN | apply Kd.R_drew)); exact HO_17.out⟩, ⟨by repeat (first | (with_reducible first | exact HB.out | apply below_alloc | apply pw_below_drewN | apply below_drew1 | refine below_set ?_ GE302.out) | exact HB.out)⟩⟩
                    · replace c18 := Bool.eq_false_iff.mpr c18
                      subst c18
                      have H1 : ((impl_PutBlock.f kj12 x4_1 t298 t299 t300).bind fun bt303 => (if bt303.2 = 0 then (impl_SalvageBlocks.l0 kj12 bt303.1 y294 (y294.length : Int) (wrap64 (x19_1 + 1))) else (impl_SalvageBlocks.l0 kj12 x4_1 y294 (y294.length : Int) (wrap64 (x19_1 + 1))))) = some r := by rw [if_neg (show ¬ (false = true) by decide)] at H; exact H
                      clear H
                      have H := H1
                      clear H1
                      replace H := Option.bind_eq_some_iff.mp H
                      obtain ⟨⟨t303, t306⟩, A190, H⟩ := H
                      replace H : (if t306 = 0 then (impl_SalvageBlocks.l0 kj12 t303 y294 (y294.length : Int) (wrap64 (x19_1 + 1))) else (impl_SalvageBlocks.l0 kj12 x4_1 y294 (y294.length : Int) (wrap64 (x19_1 + 1)))) = some r := H
                      have A19 := Aside0.mk A190
                      clear A190
                      by_cases c20 : t306 = 0
                      · rw [if_pos c20] at H
                        have c20b0 : (t306 == 0) = true := beq_iff_eq.mpr c20
                        have c20b1 : (t306 != 0) = false := bne_eq_false_iff_eq.mpr c20
                        clear c20
                        have H' := Aside0.mk H
                        clear H
                        have hcz21_0 : wc.cell? ⟨gb302, 0, none⟩ = some (.string t298) := (blk_cell BK302.out 0).trans rfl
                        have hcz21_1 : wc.cell? ⟨gb302, 1, none⟩ = some (.string t299) := (blk_cell BK302.out 1).trans rfl
                        have hcz21_2 : wc.cell? ⟨gb302, 2, none⟩ = some (.string t300) := (blk_cell BK302.out 2).trans rfl
                        have hfz21_0 := blk_frozen BK302.out 0
                        have hfz21_1 := blk_frozen BK302.out 1
                        have hfz21_2 := blk_frozen BK302.out 2
                        obtain ⟨Ao22, co22, eo22⟩ := Kd.R_slice HO_4.out
                        subst eo22
                        go_wp2_with (first | ((with_reducible refine gate_callee (f := 20) rfl ?_); refine goesL_ (some 38) rfl rfl Tryd.func20 (by kernel_rfl) rfl #[.slice Ao22 x4_1.length co22, .agg #[.string t298, .string t299, .string t300]] rfl (by (try simp only [List.map_toArray, List.map_cons, List.map_nil]); first | done | rfl | (simp only [List.length_drop, List.length_take]; rfl)) ?_; (with_reducible refine (impl_PutBlock.calls kj12 _ _ x4_1 t298 t299 t300 t303 t306 _ ?side1 ?side2 ?side3 A19.out).mono ?_); (case side1 => repeat (first | exact (Kd.R_reads' HO_4.out).2.2 | (with_reducible refine Kd.C_alloc ?_ _) | (with_reducible refine Kd.C_drewN ?_ _) | (with_reducible refine Kd.C_drew ?_))); (case side2 => exact (Kd.R_reads' HO_4.out).2.1); (case side3 => exact HSH.out.below (show Below w.heap.size w _ from by repeat (first | (with_reducible first | exact HB.out | apply below_alloc | apply pw_below_drewN | apply below_drew1 | refine below_set ?_ GE302.out) | exact HB.out))); rintro e w23 ⟨v304, rfl, ho0, hb⟩; refine ⟨_, rfl, ?_⟩; have n0_ := Aside0.mk (Kd.R_elder' (by (with_reducible repeat (first | apply Kd.R_alloc | apply Kd.R_drewN | apply Kd.R_drew)); exact HO_4.out) (Kd.R_base ho0) hb); have n1_ := Aside0.mk (Kd.R_below (by (with_reducible repeat (first | apply Kd.R_alloc | apply Kd.R_drewN | apply Kd.R_drew)); exact HO_17.out) hb); have n2_ := Aside0.mk (Kd.R_lower (Kd.R_newB (Kd.R_new' ho0 (Kd.R_lt (by (with_reducible repeat (first | apply Kd.R_alloc | apply Kd.R_drewN | apply Kd.R_drew)); exact HO_4.out))) (g := gb302) (o := .cells #[.string t298, .string t299, .string t300] 35 (0, 0)) (by (with_reducible repeat (first | refine blk_drewN ?_ _ | refine blk_drew ?_ | refine blk_alloc ?_ _)); exact BK302.out)) (below_size (by repeat (first | (with_reducible first | exact HB.out | apply below_alloc | apply pw_below_drewN | apply below_drew1 | refine below_set ?_ GE302.out) | exact HB.out)))); have n3_ := Aside0.mk (blk_below (g := gb302) (o := .cells #[.string t298, .string t299, .string t300] 35 (0, 0)) (by (with_reducible repeat (first | refine blk_drewN ?_ _ | refine blk_drew ?_ | refine blk_alloc ?_ _)); exact BK302.out) hb); have n4_ := Aside0.mk (below_step (by repeat (first | (with_reducible first | exact HB.out | apply below_alloc | apply pw_below_drewN | apply below_drew1 | refine below_set ?_ GE302.out) | exact HB.out)) hb); clear HO_4; clear HO_17; clear BK302; clear HB; have HO_4 := n0_; have HO_17 := n1_; have HO305 := n2_; have BK302 := n3_; have HB := n4_; clear n0_ n1_ n2_ n3_ n4_; (try clear hb); (try clear hb2); (try clear hk); (try clear hi); (try clear ho0)))
                        go_roundg kj12
                        case measure => have := HK1.out; have := HJ12.out; omega
                        case rel => exact ⟨(t303), (wrap64 (x19_1 + 1)), (by first | rfl | (simp; done) | (simp [*]; done)), H', ⟨by have := HK1.out; have := HJ12.out; omega⟩, ⟨by (with_reducible repeat (first | apply Kd.R_alloc | apply Kd.R_drewN | apply Kd.R_drew)); exact Kd.R_mono HO305.out (fun _ hk => trivial)⟩, ⟨by (with_reducible repeat (first | apply Kd.R_alloc | apply Kd.R_drewN | apply Kd.R_drew)); exact HO_17.out⟩, ⟨by repeat (first | (with_reducible first | exact HB.out | apply below_alloc | apply pw_below_drewN | apply below_drew1 | refine below_set ?_ GE302.out) | exact HB.out)⟩⟩
                      · rw [if_neg c20] at H
                        have c20b0 : (t306 == 0) = false := beq_eq_false_iff_ne.mpr c20
                        have c20b1 : (t306 != 0) = true := bne_iff_ne.mpr c20
                        have H' := Aside0.mk H
                        clear H
                        have hcz24_0 : wc.cell? ⟨gb302, 0, none⟩ = some (.string t298) := (blk_cell BK302.out 0).trans rfl
                        have hcz24_1 : wc.cell? ⟨gb302, 1, none⟩ = some (.string t299) := (blk_cell BK302.out 1).trans rfl
                        have hcz24_2 : wc.cell? ⟨gb302, 2, none⟩ = some (.string t300) := (blk_cell BK302.out 2).trans rfl
                        have hfz24_0 := blk_frozen BK302.out 0
                        have hfz24_1 := blk_frozen BK302.out 1
                        have hfz24_2 := blk_frozen BK302.out 2
                        obtain ⟨Ao25, co25, eo25⟩ := Kd.R_slice HO_4.out
                        subst eo25
                        go_wp2_with (first | ((with_reducible refine gate_callee (f := 20) rfl ?_); refine goesL_ (some 38) rfl rfl Tryd.func20 (by kernel_rfl) rfl #[.slice Ao25 x4_1.length co25, .agg #[.string t298, .string t299, .string t300]] rfl (by (try simp only [List.map_toArray, List.map_cons, List.map_nil]); first | done | rfl | (simp only [List.length_drop, List.length_take]; rfl)) ?_; (with_reducible refine (impl_PutBlock.calls kj12 _ _ x4_1 t298 t299 t300 t303 t306 _ ?side1 ?side2 ?side3 A19.out).mono ?_); (case side1 => repeat (first | exact (Kd.R_reads' HO_4.out).2.2 | (with_reducible refine Kd.C_alloc ?_ _) | (with_reducible refine Kd.C_drewN ?_ _) | (with_reducible refine Kd.C_drew ?_))); (case side2 => exact (Kd.R_reads' HO_4.out).2.1); (case side3 => exact HSH.out.below (show Below w.heap.size w _ from by repeat (first | (with_reducible first | exact HB.out | apply below_alloc | apply pw_below_drewN | apply below_drew1 | refine below_set ?_ GE302.out) | exact HB.out))); rintro e w26 ⟨v304, rfl, ho0, hb⟩; refine ⟨_, rfl, ?_⟩; have n0_ := Aside0.mk (Kd.R_elder' (by (with_reducible repeat (first | apply Kd.R_alloc | apply Kd.R_drewN | apply Kd.R_drew)); exact HO_4.out) (Kd.R_base ho0) hb); have n1_ := Aside0.mk (Kd.R_below (by (with_reducible repeat (first | apply Kd.R_alloc | apply Kd.R_drewN | apply Kd.R_drew)); exact HO_17.out) hb); have n2_ := Aside0.mk (Kd.R_lower (Kd.R_newB (Kd.R_new' ho0 (Kd.R_lt (by (with_reducible repeat (first | apply Kd.R_alloc | apply Kd.R_drewN | apply Kd.R_drew)); exact HO_4.out))) (g := gb302) (o := .cells #[.string t298, .string t299, .string t300] 35 (0, 0)) (by (with_reducible repeat (first | refine blk_drewN ?_ _ | refine blk_drew ?_ | refine blk_alloc ?_ _)); exact BK302.out)) (below_size (by repeat (first | (with_reducible first | exact HB.out | apply below_alloc | apply pw_below_drewN | apply below_drew1 | refine below_set ?_ GE302.out) | exact HB.out)))); have n3_ := Aside0.mk (blk_below (g := gb302) (o := .cells #[.string t298, .string t299, .string t300] 35 (0, 0)) (by (with_reducible repeat (first | refine blk_drewN ?_ _ | refine blk_drew ?_ | refine blk_alloc ?_ _)); exact BK302.out) hb); have n4_ := Aside0.mk (below_step (by repeat (first | (with_reducible first | exact HB.out | apply below_alloc | apply pw_below_drewN | apply below_drew1 | refine below_set ?_ GE302.out) | exact HB.out)) hb); clear HO_4; clear HO_17; clear BK302; clear HB; have HO_4 := n0_; have HO_17 := n1_; have HO305 := n2_; have BK302 := n3_; have HB := n4_; clear n0_ n1_ n2_ n3_ n4_; (try clear hb); (try clear hb2); (try clear hk); (try clear hi); (try clear ho0)))
                        go_roundg kj12
                        case measure => have := HK1.out; have := HJ12.out; omega
                        case rel => exact ⟨(x4_1), (wrap64 (x19_1 + 1)), (by first | rfl | (simp; done) | (simp [*]; done)), H', ⟨by have := HK1.out; have := HJ12.out; omega⟩, ⟨by (with_reducible repeat (first | apply Kd.R_alloc | apply Kd.R_drewN | apply Kd.R_drew)); exact Kd.R_mono HO_4.out (fun _ hk => trivial)⟩, ⟨by (with_reducible repeat (first | apply Kd.R_alloc | apply Kd.R_drewN | apply Kd.R_drew)); exact HO_17.out⟩, ⟨by repeat (first | (with_reducible first | exact HB.out | apply below_alloc | apply pw_below_drewN | apply below_drew1 | refine below_set ?_ GE302.out) | exact HB.out)⟩⟩
              · rw [if_neg c11] at H
                exact absurd H (by simp)
            · rw [if_neg c10] at H
              exact absurd H (by simp)
          · rw [if_neg c9] at H
            have c9b0 : decide (x19_1 < (y294.length : Int)) = false := decide_eq_false c9
            clear c9
            obtain rfl := Option.some.inj H
            go_wp2
            go_ret
            exact ⟨_, by first | rfl | (simp [errW_none, errW_some] <;> rfl) | (simp only [← hji3]; first | rfl | (simp [errW_none, errW_some] <;> rfl)) | (simp [*, errW_none, errW_some] <;> rfl), by (with_reducible repeat (first | apply Kd.R_alloc | apply Kd.R_drewN | apply Kd.R_drew)); exact HO_4.out, by repeat (first | (with_reducible first | exact HB.out | apply below_alloc | apply pw_below_drewN | apply below_drew1) | exact HB.out)⟩
    · rw [if_neg c5] at H
      exact absurd H (by simp)
  · rw [if_neg c4] at H
    exact absurd H (by simp)
end Go.Proofs.YtkllogmpaaeokaaDoor.XS
end

section
namespace Go.Proofs.YtkllogmpaaeokaaDoor.XS
open Go.RowKit Go.Proofs.YtkllogmpaaeokaaDoorW.PrintWords Go.Proofs.YtkllogmpaaeokaaDoorW.PrintLast Go.Proofs.YtkllogmpaaeokaaDoorW.PrintMore
attribute [local go_sem] run_eql_slice_nil binOp_string_gtr' binOp_string_leq' binOp_string_geq' max2_int min2_int max_two min_two max_three min_three max_four min_four   -- for this text's walks alone
set_option linter.unusedVariables false
set_option linter.unusedSimpArgs false
def laws_eqBlock.f (a0_0 : ByteArray) (a0_1 : ByteArray) (a0_2 : ByteArray) (a1_0 : ByteArray) (a1_1 : ByteArray) (a1_2 : ByteArray) : Option (Bool) := if a0_0.toList = a1_0.toList then (if a0_1.toList = a1_1.toList then (if a0_2.toList = a1_2.toList then (some true) else (some false)) else (some false)) else (some false)
set_option maxHeartbeats 8000000 in
set_option maxRecDepth 100000 in
theorem laws_eqBlock.calls (a0_0 : ByteArray) (a0_1 : ByteArray) (a0_2 : ByteArray) (a1_0 : ByteArray) (a1_1 : ByteArray) (a1_2 : ByteArray) (r : Bool) (w : World) (h : laws_eqBlock.f a0_0 a0_1 a0_2 a1_0 a1_1 a1_2 = some r) :
    Calls Tryd.prog 21 #[.agg #[.string a0_0, .string a0_1, .string a0_2], .agg #[.string a1_0, .string a1_1, .string a1_2]] w fun e w' => e = .returned (.bool r) ∧ Below w.heap.size w w' := by
  have hu35 := Tryd.underlying35
  have HB := Aside0.mk (Below.refl w.heap.size w)
  have H : (if a0_0.toList = a1_0.toList then (if a0_1.toList = a1_1.toList then (if a0_2.toList = a1_2.toList then (some true) else (some false)) else (some false)) else (some false)) = some r := h
  clear h
  by_cases c3 : a0_0.toList = a1_0.toList
  · rw [if_pos c3] at H
    have c3b0 : (a0_0.toList == a1_0.toList) = true := beq_iff_eq.mpr c3
    have c3b1 : (a0_0.toList != a1_0.toList) = false := bne_eq_false_iff_eq.mpr c3
    clear c3
    by_cases c4 : a0_1.toList = a1_1.toList
    · rw [if_pos c4] at H
      have c4b0 : (a0_1.toList == a1_1.toList) = true := beq_iff_eq.mpr c4
      have c4b1 : (a0_1.toList != a1_1.toList) = false := bne_eq_false_iff_eq.mpr c4
      clear c4
      by_cases c5 : a0_2.toList = a1_2.toList
      · rw [if_pos c5] at H
        have c5b0 : (a0_2.toList == a1_2.toList) = true := beq_iff_eq.mpr c5
        have c5b1 : (a0_2.toList != a1_2.toList) = false := bne_eq_false_iff_eq.mpr c5
        clear c5
        obtain rfl := Option.some.inj H
        go_enter Tryd.func21, Tryd.ntmps21
        go_wp2_with (first | ((with_reducible refine gate_dst (N := 2) rfl ?_); refine box_event ?hg (N := 2) ?hd (cs := #[.string a0_0, .string a0_1, .string a0_2]) (t := 35) ?hr ?_; (case hd => rfl); (case hg => rfl); (case hr => first | (go_simp; done) | (go_simp; rfl)); intro gb307 hg w6 hbox hb; have n0_ := Aside0.mk (below_step (by repeat (first | (with_reducible first | exact HB.out | apply below_alloc | apply pw_below_drewN | apply below_drew1) | exact HB.out)) hb); have n1_ := Aside0.mk (hbox); have n2_ := Aside0.mk ((by rw [hg]; exact (below_size (by repeat (first | (with_reducible first | exact HB.out | apply below_alloc | apply pw_below_drewN | apply below_drew1) | exact HB.out))) : w.heap.size ≤ gb307)); have n3_ := Aside0.mk ((by rw [hg]; exact (below_size (by repeat (first | (with_reducible first | exact HB.out | apply below_alloc | apply pw_below_drewN | apply below_drew1) | exact HB.out))) : w.heap.size ≤ gb307)); clear HB; have HB := n0_; have BK307 := n1_; have GW307 := n2_; have GE307 := n3_; clear n0_ n1_ n2_ n3_; clear hb hbox hg) | ((with_reducible refine gate_dst (N := 3) rfl ?_); refine box_event ?hg (N := 3) ?hd (cs := #[.string a1_0, .string a1_1, .string a1_2]) (t := 35) ?hr ?_; (case hd => rfl); (case hg => rfl); (case hr => first | (go_simp; done) | (go_simp; rfl)); intro gb308 hg w7 hbox hb; have n0_ := Aside0.mk (blk_below (g := gb307) (o := .cells #[.string a0_0, .string a0_1, .string a0_2] 35 (0, 0)) (by (with_reducible repeat (first | refine blk_drewN ?_ _ | refine blk_drew ?_ | refine blk_alloc ?_ _)); exact BK307.out) hb); have n1_ := Aside0.mk (below_step (by repeat (first | (with_reducible first | exact HB.out | apply below_alloc | apply pw_below_drewN | apply below_drew1 | refine below_set ?_ GE307.out) | exact HB.out)) hb); have n2_ := Aside0.mk (hbox); have n3_ := Aside0.mk ((by rw [hg]; exact (below_size (by repeat (first | (with_reducible first | exact HB.out | apply below_alloc | apply pw_below_drewN | apply below_drew1 | refine below_set ?_ GE307.out) | exact HB.out))) : w.heap.size ≤ gb308)); have n4_ := Aside0.mk ((by rw [hg]; exact (below_size (by repeat (first | (with_reducible first | exact HB.out | apply below_alloc | apply pw_below_drewN | apply below_drew1 | refine below_set ?_ GE307.out) | exact HB.out))) : w.heap.size ≤ gb308)); have n5_ := Aside0.mk ((by rw [hg]; exact Nat.ne_of_lt (blk_lt (g := gb307) (o := .cells #[.string a0_0, .string a0_1, .string a0_2] 35 (0, 0)) (by (with_reducible repeat (first | refine blk_drewN ?_ _ | refine blk_drew ?_ | refine blk_alloc ?_ _)); exact BK307.out)) : gb307 ≠ gb308)); have n6_ := Aside0.mk ((by rw [hg]; exact Nat.ne_of_gt (blk_lt (g := gb307) (o := .cells #[.string a0_0, .string a0_1, .string a0_2] 35 (0, 0)) (by (with_reducible repeat (first | refine blk_drewN ?_ _ | refine blk_drew ?_ | refine blk_alloc ?_ _)); exact BK307.out)) : gb308 ≠ gb307)); clear BK307; clear HB; have BK307 := n0_; have HB := n1_; have BK308 := n2_; have GW308 := n3_; have GE308 := n4_; have NB307_308 := n5_; have NB308_307 := n6_; clear n0_ n1_ n2_ n3_ n4_ n5_ n6_; clear hb hbox hg; have hnb8 := NB307_308.out; have hnc8 := NB308_307.out; have hcz9_0 : w7.cell? ⟨gb307, 0, none⟩ = some (.string a0_0) := (blk_cell BK307.out 0).trans rfl; have hcz9_1 : w7.cell? ⟨gb307, 1, none⟩ = some (.string a0_1) := (blk_cell BK307.out 1).trans rfl; have hcz9_2 : w7.cell? ⟨gb307, 2, none⟩ = some (.string a0_2) := (blk_cell BK307.out 2).trans rfl; have hfz9_0 := blk_frozen BK307.out 0; have hfz9_1 := blk_frozen BK307.out 1; have hfz9_2 := blk_frozen BK307.out 2; have hcz10_0 : w7.cell? ⟨gb308, 0, none⟩ = some (.string a1_0) := (blk_cell BK308.out 0).trans rfl; have hcz10_1 : w7.cell? ⟨gb308, 1, none⟩ = some (.string a1_1) := (blk_cell BK308.out 1).trans rfl; have hcz10_2 : w7.cell? ⟨gb308, 2, none⟩ = some (.string a1_2) := (blk_cell BK308.out 2).trans rfl; have hfz10_0 := blk_frozen BK308.out 0; have hfz10_1 := blk_frozen BK308.out 1; have hfz10_2 := blk_frozen BK308.out 2))
        go_ret
        exact ⟨by first | rfl | (simp [errW_none, errW_some] <;> rfl) | (simp [*, errW_none, errW_some] <;> rfl), by repeat (first | (with_reducible first | exact HB.out | apply below_alloc | apply pw_below_drewN | apply below_drew1 | refine below_set ?_ GE307.out | refine below_set ?_ GE308.out) | exact HB.out)⟩
      · rw [if_neg c5] at H
        have c5b0 : (a0_2.toList == a1_2.toList) = false := beq_eq_false_iff_ne.mpr c5
        have c5b1 : (a0_2.toList != a1_2.toList) = true := bne_iff_ne.mpr c5
        obtain rfl := Option.some.inj H
        go_enter Tryd.func21, Tryd.ntmps21
        go_wp2_with (first | ((with_reducible refine gate_dst (N := 2) rfl ?_); refine box_event ?hg (N := 2) ?hd (cs := #[.string a0_0, .string a0_1, .string a0_2]) (t := 35) ?hr ?_; (case hd => rfl); (case hg => rfl); (case hr => first | (go_simp; done) | (go_simp; rfl)); intro gb307 hg w11 hbox hb; have n0_ := Aside0.mk (below_step (by repeat (first | (with_reducible first | exact HB.out | apply below_alloc | apply pw_below_drewN | apply below_drew1) | exact HB.out)) hb); have n1_ := Aside0.mk (hbox); have n2_ := Aside0.mk ((by rw [hg]; exact (below_size (by repeat (first | (with_reducible first | exact HB.out | apply below_alloc | apply pw_below_drewN | apply below_drew1) | exact HB.out))) : w.heap.size ≤ gb307)); have n3_ := Aside0.mk ((by rw [hg]; exact (below_size (by repeat (first | (with_reducible first | exact HB.out | apply below_alloc | apply pw_below_drewN | apply below_drew1) | exact HB.out))) : w.heap.size ≤ gb307)); clear HB; have HB := n0_; have BK307 := n1_; have GW307 := n2_; have GE307 := n3_; clear n0_ n1_ n2_ n3_; clear hb hbox hg) | ((with_reducible refine gate_dst (N := 3) rfl ?_); refine box_event ?hg (N := 3) ?hd (cs := #[.string a1_0, .string a1_1, .string a1_2]) (t := 35) ?hr ?_; (case hd => rfl); (case hg => rfl); (case hr => first | (go_simp; done) | (go_simp; rfl)); intro gb308 hg w12 hbox hb; have n0_ := Aside0.mk (blk_below (g := gb307) (o := .cells #[.string a0_0, .string a0_1, .string a0_2] 35 (0, 0)) (by (with_reducible repeat (first | refine blk_drewN ?_ _ | refine blk_drew ?_ | refine blk_alloc ?_ _)); exact BK307.out) hb); have n1_ := Aside0.mk (below_step (by repeat (first | (with_reducible first | exact HB.out | apply below_alloc | apply pw_below_drewN | apply below_drew1 | refine below_set ?_ GE307.out) | exact HB.out)) hb); have n2_ := Aside0.mk (hbox); have n3_ := Aside0.mk ((by rw [hg]; exact (below_size (by repeat (first | (with_reducible first | exact HB.out | apply below_alloc | apply pw_below_drewN | apply below_drew1 | refine below_set ?_ GE307.out) | exact HB.out))) : w.heap.size ≤ gb308)); have n4_ := Aside0.mk ((by rw [hg]; exact (below_size (by repeat (first | (with_reducible first | exact HB.out | apply below_alloc | apply pw_below_drewN | apply below_drew1 | refine below_set ?_ GE307.out) | exact HB.out))) : w.heap.size ≤ gb308)); have n5_ := Aside0.mk ((by rw [hg]; exact Nat.ne_of_lt (blk_lt (g := gb307) (o := .cells #[.string a0_0, .string a0_1, .string a0_2] 35 (0, 0)) (by (with_reducible repeat (first | refine blk_drewN ?_ _ | refine blk_drew ?_ | refine blk_alloc ?_ _)); exact BK307.out)) : gb307 ≠ gb308)); have n6_ := Aside0.mk ((by rw [hg]; exact Nat.ne_of_gt (blk_lt (g := gb307) (o := .cells #[.string a0_0, .string a0_1, .string a0_2] 35 (0, 0)) (by (with_reducible repeat (first | refine blk_drewN ?_ _ | refine blk_drew ?_ | refine blk_alloc ?_ _)); exact BK307.out)) : gb308 ≠ gb307)); clear BK307; clear HB; have BK307 := n0_; have HB := n1_; have BK308 := n2_; have GW308 := n3_; have GE308 := n4_; have NB307_308 := n5_; have NB308_307 := n6_; clear n0_ n1_ n2_ n3_ n4_ n5_ n6_; clear hb hbox hg; have hnb13 := NB307_308.out; have hnc13 := NB308_307.out; have hcz14_0 : w12.cell? ⟨gb307, 0, none⟩ = some (.string a0_0) := (blk_cell BK307.out 0).trans rfl; have hcz14_1 : w12.cell? ⟨gb307, 1, none⟩ = some (.string a0_1) := (blk_cell BK307.out 1).trans rfl; have hcz14_2 : w12.cell? ⟨gb307, 2, none⟩ = some (.string a0_2) := (blk_cell BK307.out 2).trans rfl; have hfz14_0 := blk_frozen BK307.out 0; have hfz14_1 := blk_frozen BK307.out 1; have hfz14_2 := blk_frozen BK307.out 2; have hcz15_0 : w12.cell? ⟨gb308, 0, none⟩ = some (.string a1_0) := (blk_cell BK308.out 0).trans rfl; have hcz15_1 : w12.cell? ⟨gb308, 1, none⟩ = some (.string a1_1) := (blk_cell BK308.out 1).trans rfl; have hcz15_2 : w12.cell? ⟨gb308, 2, none⟩ = some (.string a1_2) := (blk_cell BK308.out 2).trans rfl; have hfz15_0 := blk_frozen BK308.out 0; have hfz15_1 := blk_frozen BK308.out 1; have hfz15_2 := blk_frozen BK308.out 2))
        go_ret
        exact ⟨by first | rfl | (simp [errW_none, errW_some] <;> rfl) | (simp [*, errW_none, errW_some] <;> rfl), by repeat (first | (with_reducible first | exact HB.out | apply below_alloc | apply pw_below_drewN | apply below_drew1 | refine below_set ?_ GE307.out | refine below_set ?_ GE308.out) | exact HB.out)⟩
    · rw [if_neg c4] at H
      have c4b0 : (a0_1.toList == a1_1.toList) = false := beq_eq_false_iff_ne.mpr c4
      have c4b1 : (a0_1.toList != a1_1.toList) = true := bne_iff_ne.mpr c4
      obtain rfl := Option.some.inj H
      go_enter Tryd.func21, Tryd.ntmps21
      go_wp2_with (first | ((with_reducible refine gate_dst (N := 2) rfl ?_); refine box_event ?hg (N := 2) ?hd (cs := #[.string a0_0, .string a0_1, .string a0_2]) (t := 35) ?hr ?_; (case hd => rfl); (case hg => rfl); (case hr => first | (go_simp; done) | (go_simp; rfl)); intro gb307 hg w16 hbox hb; have n0_ := Aside0.mk (below_step (by repeat (first | (with_reducible first | exact HB.out | apply below_alloc | apply pw_below_drewN | apply below_drew1) | exact HB.out)) hb); have n1_ := Aside0.mk (hbox); have n2_ := Aside0.mk ((by rw [hg]; exact (below_size (by repeat (first | (with_reducible first | exact HB.out | apply below_alloc | apply pw_below_drewN | apply below_drew1) | exact HB.out))) : w.heap.size ≤ gb307)); have n3_ := Aside0.mk ((by rw [hg]; exact (below_size (by repeat (first | (with_reducible first | exact HB.out | apply below_alloc | apply pw_below_drewN | apply below_drew1) | exact HB.out))) : w.heap.size ≤ gb307)); clear HB; have HB := n0_; have BK307 := n1_; have GW307 := n2_; have GE307 := n3_; clear n0_ n1_ n2_ n3_; clear hb hbox hg) | ((with_reducible refine gate_dst (N := 3) rfl ?_); refine box_event ?hg (N := 3) ?hd (cs := #[.string a1_0, .string a1_1, .string a1_2]) (t := 35) ?hr ?_; (case hd => rfl); (case hg => rfl); (case hr => first | (go_simp; done) | (go_simp; rfl)); intro gb308 hg w17 hbox hb; have n0_ := Aside0.mk (blk_below (g := gb307) (o := .cells #[.string a0_0, .string a0_1, .string a0_2] 35 (0, 0)) (by (with_reducible repeat (first | refine blk_drewN ?_ _ | refine blk_drew ?_ | refine blk_alloc ?_ _)); exact BK307.out) hb); have n1_ := Aside0.mk (below_step (by repeat (first | (with_reducible first | exact HB.out | apply below_alloc | apply pw_below_drewN | apply below_drew1 | refine below_set ?_ GE307.out) | exact HB.out)) hb); have n2_ := Aside0.mk (hbox); have n3_ := Aside0.mk ((by rw [hg]; exact (below_size (by repeat (first | (with_reducible first | exact HB.out | apply below_alloc | apply pw_below_drewN | apply below_drew1 | refine below_set ?_ GE307.out) | exact HB.out))) : w.heap.size ≤ gb308)); have n4_ := Aside0.mk ((by rw [hg]; exact (below_size (by repeat (first | (with_reducible first | exact HB.out | apply below_alloc | apply pw_below_drewN | apply below_drew1 | refine below_set ?_ GE307.out) | exact HB.out))) : w.heap.size ≤ gb308)); have n5_ := Aside0.mk ((by rw [hg]; exact Nat.ne_of_lt (blk_lt (g := gb307) (o := .cells #[.string a0_0, .string a0_1, .string a0_2] 35 (0, 0)) (by (with_reducible repeat (first | refine blk_drewN ?_ _ | refine blk_drew ?_ | refine blk_alloc ?_ _)); exact BK307.out)) : gb307 ≠ gb308)); have n6_ := Aside0.mk ((by rw [hg]; exact Nat.ne_of_gt (blk_lt (g := gb307) (o := .cells #[.string a0_0, .string a0_1, .string a0_2] 35 (0, 0)) (by (with_reducible repeat (first | refine blk_drewN ?_ _ | refine blk_drew ?_ | refine blk_alloc ?_ _)); exact BK307.out)) : gb308 ≠ gb307)); clear BK307; clear HB; have BK307 := n0_; have HB := n1_; have BK308 := n2_; have GW308 := n3_; have GE308 := n4_; have NB307_308 := n5_; have NB308_307 := n6_; clear n0_ n1_ n2_ n3_ n4_ n5_ n6_; clear hb hbox hg; have hnb18 := NB307_308.out; have hnc18 := NB308_307.out; have hcz19_0 : w17.cell? ⟨gb307, 0, none⟩ = some (.string a0_0) := (blk_cell BK307.out 0).trans rfl; have hcz19_1 : w17.cell? ⟨gb307, 1, none⟩ = some (.string a0_1) := (blk_cell BK307.out 1).trans rfl; have hcz19_2 : w17.cell? ⟨gb307, 2, none⟩ = some (.string a0_2) := (blk_cell BK307.out 2).trans rfl; have hfz19_0 := blk_frozen BK307.out 0; have hfz19_1 := blk_frozen BK307.out 1; have hfz19_2 := blk_frozen BK307.out 2; have hcz20_0 : w17.cell? ⟨gb308, 0, none⟩ = some (.string a1_0) := (blk_cell BK308.out 0).trans rfl; have hcz20_1 : w17.cell? ⟨gb308, 1, none⟩ = some (.string a1_1) := (blk_cell BK308.out 1).trans rfl; have hcz20_2 : w17.cell? ⟨gb308, 2, none⟩ = some (.string a1_2) := (blk_cell BK308.out 2).trans rfl; have hfz20_0 := blk_frozen BK308.out 0; have hfz20_1 := blk_frozen BK308.out 1; have hfz20_2 := blk_frozen BK308.out 2))
      go_ret
      exact ⟨by first | rfl | (simp [errW_none, errW_some] <;> rfl) | (simp [*, errW_none, errW_some] <;> rfl), by repeat (first | (with_reducible first | exact HB.out | apply below_alloc | apply pw_below_drewN | apply below_drew1 | refine below_set ?_ GE307.out | refine below_set ?_ GE308.out) | exact HB.out)⟩
  · rw [if_neg c3] at H
    have c3b0 : (a0_0.toList == a1_0.toList) = false := beq_eq_false_iff_ne.mpr c3
    have c3b1 : (a0_0.toList != a1_0.toList) = true := bne_iff_ne.mpr c3
    obtain rfl := Option.some.inj H
    go_enter Tryd.func21, Tryd.ntmps21
    go_wp2_with (first | ((with_reducible refine gate_dst (N := 2) rfl ?_); refine box_event ?hg (N := 2) ?hd (cs := #[.string a0_0, .string a0_1, .string a0_2]) (t := 35) ?hr ?_; (case hd => rfl); (case hg => rfl); (case hr => first | (go_simp; done) | (go_simp; rfl)); intro gb307 hg w21 hbox hb; have n0_ := Aside0.mk (below_step (by repeat (first | (with_reducible first | exact HB.out | apply below_alloc | apply pw_below_drewN | apply below_drew1) | exact HB.out)) hb); have n1_ := Aside0.mk (hbox); have n2_ := Aside0.mk ((by rw [hg]; exact (below_size (by repeat (first | (with_reducible first | exact HB.out | apply below_alloc | apply pw_below_drewN | apply below_drew1) | exact HB.out))) : w.heap.size ≤ gb307)); have n3_ := Aside0.mk ((by rw [hg]; exact (below_size (by repeat (first | (with_reducible first | exact HB.out | apply below_alloc | apply pw_below_drewN | apply below_drew1) | exact HB.out))) : w.heap.size ≤ gb307)); clear HB; have HB := n0_; have BK307 := n1_; have GW307 := n2_; have GE307 := n3_; clear n0_ n1_ n2_ n3_; clear hb hbox hg) | ((with_reducible refine gate_dst (N := 3) rfl ?_); refine box_event ?hg (N := 3) ?hd (cs := #[.string a1_0, .string a1_1, .string a1_2]) (t := 35) ?hr ?_; (case hd => rfl); (case hg => rfl); (case hr => first | (go_simp; done) | (go_simp; rfl)); intro gb308 hg w22 hbox hb; have n0_ := Aside0.mk (blk_below (g := gb307) (o := .cells #[.string a0_0, .string a0_1, .string a0_2] 35 (0, 0)) (by (with_reducible repeat (first | refine blk_drewN ?_ _ | refine blk_drew ?_ | refine blk_alloc ?_ _)); exact BK307.out) hb); have n1_ := Aside0.mk (below_step (by repeat (first | (with_reducible first | exact HB.out | apply below_alloc | apply pw_below_drewN | apply below_drew1 | refine below_set ?_ GE307.out) | exact HB.out)) hb); have n2_ := Aside0.mk (hbox); have n3_ := Aside0.mk ((by rw [hg]; exact (below_size (by repeat (first | (with_reducible first | exact HB.out | apply below_alloc | apply pw_below_drewN | apply below_drew1 | refine below_set ?_ GE307.out) | exact HB.out))) : w.heap.size ≤ gb308)); have n4_ := Aside0.mk ((by rw [hg]; exact (below_size (by repeat (first | (with_reducible first | exact HB.out | apply below_alloc | apply pw_below_drewN | apply below_drew1 | refine below_set ?_ GE307.out) | exact HB.out))) : w.heap.size ≤ gb308)); have n5_ := Aside0.mk ((by rw [hg]; exact Nat.ne_of_lt (blk_lt (g := gb307) (o := .cells #[.string a0_0, .string a0_1, .string a0_2] 35 (0, 0)) (by (with_reducible repeat (first | refine blk_drewN ?_ _ | refine blk_drew ?_ | refine blk_alloc ?_ _)); exact BK307.out)) : gb307 ≠ gb308)); have n6_ := Aside0.mk ((by rw [hg]; exact Nat.ne_of_gt (blk_lt (g := gb307) (o := .cells #[.string a0_0, .string a0_1, .string a0_2] 35 (0, 0)) (by (with_reducible repeat (first | refine blk_drewN ?_ _ | refine blk_drew ?_ | refine blk_alloc ?_ _)); exact BK307.out)) : gb308 ≠ gb307)); clear BK307; clear HB; have BK307 := n0_; have HB := n1_; have BK308 := n2_; have GW308 := n3_; have GE308 := n4_; have NB307_308 := n5_; have NB308_307 := n6_; clear n0_ n1_ n2_ n3_ n4_ n5_ n6_; clear hb hbox hg; have hnb23 := NB307_308.out; have hnc23 := NB308_307.out; have hcz24_0 : w22.cell? ⟨gb307, 0, none⟩ = some (.string a0_0) := (blk_cell BK307.out 0).trans rfl; have hcz24_1 : w22.cell? ⟨gb307, 1, none⟩ = some (.string a0_1) := (blk_cell BK307.out 1).trans rfl; have hcz24_2 : w22.cell? ⟨gb307, 2, none⟩ = some (.string a0_2) := (blk_cell BK307.out 2).trans rfl; have hfz24_0 := blk_frozen BK307.out 0; have hfz24_1 := blk_frozen BK307.out 1; have hfz24_2 := blk_frozen BK307.out 2; have hcz25_0 : w22.cell? ⟨gb308, 0, none⟩ = some (.string a1_0) := (blk_cell BK308.out 0).trans rfl; have hcz25_1 : w22.cell? ⟨gb308, 1, none⟩ = some (.string a1_1) := (blk_cell BK308.out 1).trans rfl; have hcz25_2 : w22.cell? ⟨gb308, 2, none⟩ = some (.string a1_2) := (blk_cell BK308.out 2).trans rfl; have hfz25_0 := blk_frozen BK308.out 0; have hfz25_1 := blk_frozen BK308.out 1; have hfz25_2 := blk_frozen BK308.out 2))
    go_ret
    exact ⟨by first | rfl | (simp [errW_none, errW_some] <;> rfl) | (simp [*, errW_none, errW_some] <;> rfl), by repeat (first | (with_reducible first | exact HB.out | apply below_alloc | apply pw_below_drewN | apply below_drew1 | refine below_set ?_ GE307.out | refine below_set ?_ GE308.out) | exact HB.out)⟩
end Go.Proofs.YtkllogmpaaeokaaDoor.XS
end
