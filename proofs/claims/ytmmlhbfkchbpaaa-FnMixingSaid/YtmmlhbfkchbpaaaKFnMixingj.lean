/- The law FnMixing: part 9 of its texts, joined (wip/pack.py). -/
import Derived.Test.YtmmlhbfkchbpaaaKFnMixinga
import Derived.Test.YtmmlhbfkchbpaaaKFnMixingb
import Derived.Test.YtmmlhbfkchbpaaaKFnMixingc
import Derived.Test.YtmmlhbfkchbpaaaKFnMixingd
import Derived.Test.YtmmlhbfkchbpaaaKFnMixinge
import Derived.Test.YtmmlhbfkchbpaaaKFnMixingf
import Derived.Test.YtmmlhbfkchbpaaaKFnMixingg
import Derived.Test.YtmmlhbfkchbpaaaKFnMixingh
import Derived.Test.YtmmlhbfkchbpaaaKFnMixingi
import Derived.Laws.BitsLemmas
import Derived.DataShut
import Derived.Test.YtmmlhbfkchbpaaaRows
import Derived.WalkKit
import Derived.ProofKit
import Derived.OpenShut
import Derived.ShutString
import Derived.ChangeOld
import Derived.Below
import Derived.SizedLaws

section
namespace Go.Proofs.Ytmmlhbfkchbpaaa.PMix
open Go.RowKit Go.Proofs.YtmmlhbfkchbpaaaW.PrintWords Go.Proofs.YtmmlhbfkchbpaaaW.PrintMore Go.Proofs.Ytmmlhbfkchbpaaa.XX Go.Proofs.Ytmmlhbfkchbpaaa.EvK Go.Proofs.Ytmmlhbfkchbpaaa.PBasics Go.Proofs.Ytmmlhbfkchbpaaa.PThru Go.Proofs.Ytmmlhbfkchbpaaa.PThru2
open Go.Proofs.Ytmmlhbfkchbpaaa.PDivR (dr divRound_eq)
set_option linter.unusedVariables false
set_option linter.unusedSimpArgs false
def wst (t : Int) (d : Int) (x : S49) : Int := if x.f0 ≤ t then x.f1 else d
def wat (l : List S49) (t : Int) : Int := l.foldl (wst t) 0
theorem wat_snoc (l : List S49) (x : S49) (t : Int) : wat (l ++ [x]) t = wst t (wat l t) x := by unfold wat; rw [List.foldl_append]; rfl
theorem wat_congr (l : List S49) (t t' : Int) (h : ∀ x ∈ l, x.f0 ≤ t ↔ x.f0 ≤ t') : wat l t = wat l t' := by
  have key : ∀ (l : List S49) (d : Int), (∀ x ∈ l, x.f0 ≤ t ↔ x.f0 ≤ t') → l.foldl (wst t) d = l.foldl (wst t') d := by
    intro l
    induction l with
    | nil => intro d _; rfl
    | cons x l ih =>
      intro d h
      rw [List.foldl_cons, List.foldl_cons]
      have hx := h x List.mem_cons_self
      have e : wst t d x = wst t' d x := by
        unfold wst
        by_cases c : x.f0 ≤ t
        · rw [if_pos c, if_pos (hx.1 c)]
        · rw [if_neg c, if_neg (fun c' => c (hx.2 c'))]
      rw [e]
      exact ih _ (fun y hy => h y (List.mem_cons_of_mem _ hy))
  exact key l 0 h
def Up (l : List S49) : Prop := l.Pairwise (fun a b => a.f0 < b.f0)
theorem up_lt {l : List S49} (h : Up l) {i j : Nat} (hij : i < j) (hj : j < l.length) : (gt l i).f0 < (gt l j).f0 := by
  rw [gt_at l i (by omega), gt_at l j hj]
  exact List.pairwise_iff_getElem.1 h i j (by omega) hj hij
theorem wat_take (l : List S49) (n : Nat) (hn : n < l.length) (t : Int) (h : (gt l n).f0 ≤ t) : wat (l.take (n + 1)) t = (gt l n).f1 := by
  rw [take_next l n hn, wat_snoc, ← gt_at l n hn]
  unfold wst
  rw [if_pos h]
theorem wat_comp {l : List S49} (hu : Up l) (t : Int) : ∀ n, n ≤ l.length → wat (compN l n) t = wat (l.take n) t
  | 0, _ => by simp [compN]
  | n + 1, h => by
    have ih := wat_comp hu t n (by omega)
    rw [show compN l (n + 1) = if keepAt l n = true then compN l n ++ [gt l n] else compN l n from rfl, take_next l n (by omega), wat_snoc, ← gt_at l n (by omega)]
    by_cases hk : keepAt l n = true
    · rw [if_pos hk, wat_snoc, ih]
    · rw [if_neg hk, ih]
      cases n with
      | zero => simp [keepAt] at hk
      | succ m =>
        have e : (gt l (m + 1)).f1 = (gt l m).f1 := by simpa [keepAt] using hk
        unfold wst
        by_cases c : (gt l (m + 1)).f0 ≤ t
        · rw [if_pos c, e]
          have := up_lt hu (i := m) (j := m + 1) (by omega) (by omega)
          exact wat_take l m (by omega) t (by omega)
        · rw [if_neg c]
theorem comp_sub (l : List S49) : ∀ n, n ≤ l.length → (compN l n).Sublist (l.take n)
  | 0, _ => by simp [compN]
  | n + 1, h => by
    have ih := comp_sub l n (by omega)
    rw [show compN l (n + 1) = if keepAt l n = true then compN l n ++ [gt l n] else compN l n from rfl, take_next l n (by omega), ← gt_at l n (by omega)]
    by_cases hk : keepAt l n = true
    · rw [if_pos hk]; exact ih.append (List.Sublist.refl _)
    · rw [if_neg hk]; exact ih.trans (List.sublist_append_left _ _)
theorem comp_head (l : List S49) : ∀ n, ∃ r, compN l (n + 1) = gt l 0 :: r
  | 0 => ⟨[], by simp [compN, keepAt]⟩
  | n + 1 => by
    obtain ⟨r, hr⟩ := comp_head l n
    rw [show compN l (n + 1 + 1) = if keepAt l (n + 1) = true then compN l (n + 1) ++ [gt l (n + 1)] else compN l (n + 1) from rfl, hr]
    split
    · exact ⟨r ++ [gt l (n + 1)], rfl⟩
    · exact ⟨r, rfl⟩
structure Wv (l : List S49) : Prop where
  up : Up l
  ts : ∀ x ∈ l, 0 ≤ x.f0 ∧ x.f0 ≤ 1000000
  dg : ∀ x ∈ l, -5000 ≤ x.f1 ∧ x.f1 ≤ 20000
  z : (gt l 0).f0 = 0
  n1 : 1 ≤ l.length
  n2 : l.length ≤ 24
theorem wv_of {l : List S49} (h : waveB l = true) : Wv l := by
  unfold waveB at h
  rw [Bool.and_eq_true, List.all_eq_true] at h
  obtain ⟨h1, h2⟩ := h
  have hl := inR_iff.1 h2
  have hs : ∀ i, i < l.length → timeB (gt l i).f0 = true ∧ degB (gt l i).f1 = true ∧ (if i = 0 then decide ((gt l i).f0 = 0) else decide ((gt l (i - 1)).f0 < (gt l i).f0)) = true := by
    intro i hi
    have := h1 i (List.mem_range.2 hi)
    unfold stepB at this
    simpa only [Bool.and_eq_true] using this
  have step : ∀ i, i + 1 < l.length → (gt l i).f0 < (gt l (i + 1)).f0 := by
    intro i hi
    have := (hs (i + 1) hi).2.2
    rw [if_neg (by omega)] at this
    simpa using this
  have mono : ∀ d i, i + d + 1 < l.length → (gt l i).f0 < (gt l (i + d + 1)).f0 := by
    intro d
    induction d with
    | zero => exact fun i hi => step i hi
    | succ d ih =>
      intro i hi
      have a := ih i (by omega)
      have b := step (i + d + 1) (by omega)
      rw [show i + (d + 1) + 1 = i + d + 1 + 1 by omega]
      omega
  refine ⟨?_, ?_, ?_, ?_, by omega, by omega⟩
  · unfold Up
    rw [List.pairwise_iff_getElem]
    intro i j hi hj hij
    rw [← gt_at l i hi, ← gt_at l j hj]
    have := mono (j - i - 1) i (by omega)
    rwa [show i + (j - i - 1) + 1 = j by omega] at this
  · intro x hx
    obtain ⟨i, hi, rfl⟩ := List.getElem_of_mem hx
    rw [← gt_at l i hi]
    exact inR_iff.1 (hs i hi).1
  · intro x hx
    obtain ⟨i, hi, rfl⟩ := List.getElem_of_mem hx
    rw [← gt_at l i hi]
    exact inR_iff.1 (hs i hi).2.1
  · have := (hs 0 (by omega)).2.2
    rw [if_pos rfl] at this
    simpa using this
theorem of_wv {l : List S49} (h : Wv l) : waveB l = true := by
  unfold waveB
  rw [Bool.and_eq_true, List.all_eq_true]
  refine ⟨?_, inR_iff.2 ⟨by have := h.n1; omega, by have := h.n2; omega⟩⟩
  intro i hi
  have hi := List.mem_range.1 hi
  have hm : gt l i ∈ l := by rw [gt_at l i hi]; exact List.getElem_mem hi
  unfold stepB
  rw [Bool.and_eq_true, Bool.and_eq_true]
  refine ⟨inR_iff.2 (h.ts _ hm), inR_iff.2 (h.dg _ hm), ?_⟩
  by_cases e : i = 0
  · subst e; rw [if_pos rfl]; exact decide_eq_true h.z
  · rw [if_neg e]; exact decide_eq_true (up_lt h.up (by omega) hi)
theorem comp_wv {l : List S49} (h : Wv l) : Wv (compN l l.length) := by
  have hs := comp_sub l l.length (Nat.le_refl _)
  rw [List.take_length] at hs
  obtain ⟨r, hr⟩ := comp_head l (l.length - 1)
  rw [show l.length - 1 + 1 = l.length by have := h.n1; omega] at hr
  refine ⟨h.up.sublist hs, fun x hx => h.ts x (hs.subset hx), fun x hx => h.dg x (hs.subset hx), ?_, ?_, Nat.le_trans hs.length_le h.n2⟩
  · rw [hr]; exact h.z
  · rw [hr]; simp
theorem comp_long {l : List S49} (up : Up l) (ts : ∀ x ∈ l, 0 ≤ x.f0 ∧ x.f0 ≤ 1000000) (dg : ∀ x ∈ l, -5000 ≤ x.f1 ∧ x.f1 ≤ 20000) (z : (gt l 0).f0 = 0) (n1 : 1 ≤ l.length) (n2 : l.length ≤ 24) : done (compN l l.length) = (compN l l.length, 0) ∧ waveB (compN l l.length) = true := by
  have w := comp_wv ⟨up, ts, dg, z, n1, n2⟩
  refine ⟨?_, of_wv w⟩
  unfold done
  rw [if_pos (by unfold timesB; rw [List.all_eq_true]; exact fun x hx => inR_iff.2 (w.ts x hx)), if_neg (by have := w.n2; omega)]
theorem dr_btw {s n m M : Int} (hn : 0 < n) (h1 : m * n ≤ s) (h2 : s ≤ M * n) : m ≤ dr s n ∧ dr s n ≤ M := by
  have e1 : m * (2 * n) = 2 * (m * n) := by rw [← Int.mul_assoc, Int.mul_comm m 2, Int.mul_assoc]
  have e2 : M * (2 * n) = 2 * (M * n) := by rw [← Int.mul_assoc, Int.mul_comm M 2, Int.mul_assoc]
  have e3 : (M + 1) * (2 * n) = 2 * (M * n) + 2 * n := by rw [Int.add_mul, e2, Int.one_mul]
  have e4 : (-m + 1) * (2 * n) = -(2 * (m * n)) + 2 * n := by rw [Int.add_mul, Int.neg_mul, e1, Int.one_mul]
  have e5 : (-M) * (2 * n) = -(2 * (M * n)) := by rw [Int.neg_mul, e2]
  unfold dr
  split
  · constructor
    · exact Int.le_ediv_of_mul_le (by omega) (by omega)
    · have := Int.ediv_lt_of_lt_mul (a := 2 * s + n) (b := M + 1) (c := 2 * n) (by omega) (by omega)
      omega
  · constructor
    · have := Int.ediv_lt_of_lt_mul (a := n - 2 * s) (b := -m + 1) (c := 2 * n) (by omega) (by omega)
      omega
    · have := Int.le_ediv_of_mul_le (a := -M) (b := n - 2 * s) (c := 2 * n) (by omega) (by omega)
      omega
def M (F : Int → Int) (T : List Int) : List S49 := T.map fun τ => ⟨τ, F τ⟩
theorem wat_M (F : Int → Int) (t : Int) : ∀ (T : List Int) (d : Int), T.Pairwise (· < ·) → ((∀ τ ∈ T, t < τ) ∧ (M F T).foldl (wst t) d = d) ∨ ∃ τ ∈ T, τ ≤ t ∧ (∀ x ∈ T, x ≤ t → x ≤ τ) ∧ (M F T).foldl (wst t) d = F τ := by
  intro T
  induction T with
  | nil => intro d _; exact .inl ⟨by simp, rfl⟩
  | cons τ T ih =>
    intro d hp
    rw [List.pairwise_cons] at hp
    have e : (M F (τ :: T)).foldl (wst t) d = (M F T).foldl (wst t) (if τ ≤ t then F τ else d) := rfl
    rw [e]
    rcases ih (if τ ≤ t then F τ else d) hp.2 with ⟨h1, h2⟩ | ⟨σ, h1, h2, h3, h4⟩
    · by_cases c : τ ≤ t
      · refine .inr ⟨τ, List.mem_cons_self, c, ?_, by rw [h2, if_pos c]⟩
        intro x hx hxt
        rcases List.mem_cons.1 hx with rfl | hx
        · exact Int.le_refl _
        · have := h1 x hx; omega
      · refine .inl ⟨?_, by rw [h2, if_neg c]⟩
        intro x hx
        rcases List.mem_cons.1 hx with rfl | hx
        · omega
        · exact h1 x hx
    · refine .inr ⟨σ, List.mem_cons_of_mem _ h1, h2, ?_, h4⟩
      intro x hx hxt
      rcases List.mem_cons.1 hx with rfl | hx
      · exact Int.le_of_lt (hp.1 σ h1)
      · exact h3 x hx hxt
theorem wat_mix (ws : List (List S49)) (G : (List S49 → Int) → Int) (T : List Int) (hT : T.Pairwise (· < ·)) (h0 : 0 ∈ T) (hm : ∀ w ∈ ws, ∀ x ∈ w, x.f0 ∈ T)
    (hG : ∀ f g : List S49 → Int, (∀ w ∈ ws, f w = g w) → G f = G g) (t : Int) (ht : 0 ≤ t) : wat (M (fun τ => G (fun w => wat w τ)) T) t = G (fun w => wat w t) := by
  rcases wat_M (fun τ => G (fun w => wat w τ)) t T 0 hT with ⟨h1, _⟩ | ⟨τ, h1, h2, h3, h4⟩
  · have := h1 0 h0; omega
  · unfold wat at h4 ⊢
    rw [h4]
    refine hG _ _ (fun w hw => ?_)
    refine wat_congr w τ t (fun x hx => ⟨fun h => by omega, fun h => h3 _ (hm w hw x hx) h⟩)
theorem wat_btw {l : List S49} (h : Wv l) (t : Int) (ht : 0 ≤ t) : -5000 ≤ wat l t ∧ wat l t ≤ 20000 := by
  have key : ∀ (l : List S49) (d : Int), (∀ x ∈ l, -5000 ≤ x.f1 ∧ x.f1 ≤ 20000) → -5000 ≤ d ∧ d ≤ 20000 → -5000 ≤ l.foldl (wst t) d ∧ l.foldl (wst t) d ≤ 20000 := by
    intro l
    induction l with
    | nil => exact fun d _ h => h
    | cons x l ih =>
      intro d h hd
      rw [List.foldl_cons]
      refine ih _ (fun y hy => h y (List.mem_cons_of_mem _ hy)) ?_
      unfold wst
      split
      · exact h x List.mem_cons_self
      · exact hd
  exact key l 0 h.dg (by omega)
theorem up_M (F : Int → Int) {T : List Int} (hT : T.Pairwise (· < ·)) : Up (M F T) := by
  unfold Up M
  rw [List.pairwise_map]
  exact hT
theorem gt_M (F : Int → Int) (T : List Int) (h : 0 < T.length) : (gt (M F T) 0).f0 = T[0] := by
  rw [gt_at _ 0 (by unfold M; simpa using h)]
  simp [M]
theorem zero_head {T : List Int} (hT : T.Pairwise (· < ·)) (h0 : 0 ∈ T) (hp : ∀ x ∈ T, 0 ≤ x) : ∃ h : 0 < T.length, T[0] = 0 := by
  cases T with
  | nil => simp at h0
  | cons a T =>
    refine ⟨by simp, ?_⟩
    show a = 0
    rw [List.pairwise_cons] at hT
    rcases List.mem_cons.1 h0 with rfl | h
    · rfl
    · have := hT.1 0 h
      have := hp a List.mem_cons_self
      omega
theorem wat_map (g : Int → Int) (l : List S49) (t e : Int) : ∀ (d : Int), (l.map fun s => (⟨s.f0 + e, g s.f1⟩ : S49)).foldl (wst (t + e)) (g d) = g (l.foldl (wst t) d) := by
  induction l with
  | nil => intro d; rfl
  | cons x l ih =>
    intro d
    rw [List.map_cons, List.foldl_cons, List.foldl_cons, ← ih]
    congr 1
    unfold wst
    by_cases c : x.f0 ≤ t
    · rw [if_pos c, if_pos (show x.f0 + e ≤ t + e by omega)]
    · rw [if_neg c, if_neg (show ¬ x.f0 + e ≤ t + e by omega)]
theorem wat_through (g : Int → Int) (x : S49) (l : List S49) (t e b : Int) (he : 0 ≤ t + e) (hx : x.f0 ≤ t) : wat (⟨0, b⟩ :: ((x :: l).map fun s => (⟨s.f0 + e, g s.f1⟩ : S49))) (t + e) = g (wat (x :: l) t) := by
  have h1 := wat_map g (x :: l) t e 0
  have h2 : ∀ d, ((x :: l).map fun s => (⟨s.f0 + e, g s.f1⟩ : S49)).foldl (wst (t + e)) d = ((x :: l).map fun s => (⟨s.f0 + e, g s.f1⟩ : S49)).foldl (wst (t + e)) (g 0) := by
    intro d
    rw [List.map_cons, List.foldl_cons, List.foldl_cons]
    congr 1
    unfold wst
    rw [if_pos (show x.f0 + e ≤ t + e by omega), if_pos (show x.f0 + e ≤ t + e by omega)]
  unfold wat at *
  rw [List.foldl_cons, h2, h1]
end Go.Proofs.Ytmmlhbfkchbpaaa.PMix
end

section
namespace Go.Proofs.Ytmmlhbfkchbpaaa.PSortI
open Go.RowKit Go.Proofs.YtmmlhbfkchbpaaaW.PrintWords Go.Proofs.YtmmlhbfkchbpaaaW.PrintMore Go.Proofs.Ytmmlhbfkchbpaaa.XX Go.Proofs.Ytmmlhbfkchbpaaa.EvK
set_option linter.unusedVariables false
set_option linter.unusedSimpArgs false
theorem take_nextI (l : List Int) (i : Nat) (h : i < l.length) : l.take (i + 1) = l.take i ++ [l[i]] := List.take_succ_eq_append_getElem h
def gi (l : List Int) (i : Nat) : Int := l.getD i 0
theorem gi_at (l : List Int) (i : Nat) (h : i < l.length) : gi l i = l[i] := by
  unfold gi
  simp [List.getD_eq_getElem?_getD, List.getElem?_eq_getElem h]
theorem gi_drop (l : List Int) (a j : Nat) : gi (l.drop a) j = gi l (a + j) := by
  unfold gi
  simp [List.getD_eq_getElem?_getD, List.getElem?_drop]
def keepI (l : List Int) (i : Nat) : Bool := decide (i = 0) || !(gi l i == gi l (i - 1))
def compI (l : List Int) : Nat → List Int
  | 0 => []
  | n + 1 => if keepI l n = true then compI l n ++ [gi l n] else compI l n
theorem compI_len (l : List Int) : ∀ n, (compI l n).length ≤ n
  | 0 => by simp [compI]
  | n + 1 => by
    have := compI_len l n
    unfold compI
    split
    · simp; omega
    · omega
theorem compI_take (l : List Int) : ∀ n, n ≤ l.length → (∀ i, i < n → keepI l i = true) → compI l n = l.take n
  | 0, _, _ => by simp [compI]
  | n + 1, h, hk => by
    rw [show compI l (n + 1) = if keepI l n = true then compI l n ++ [gi l n] else compI l n from rfl, if_pos (hk n (by omega)), compI_take l n (by omega) (fun i hi => hk i (by omega)), take_nextI l n (by omega), gi_at l n (by omega)]
theorem compI_mem (l : List Int) (x : Int) : ∀ n, n ≤ l.length → (x ∈ compI l n ↔ x ∈ l.take n)
  | 0, _ => by simp [compI]
  | n + 1, h => by
    have ih := compI_mem l x n (by omega)
    rw [show compI l (n + 1) = if keepI l n = true then compI l n ++ [gi l n] else compI l n from rfl, take_nextI l n (by omega), ← gi_at l n (by omega), List.mem_append, List.mem_singleton]
    by_cases hk : keepI l n = true
    · rw [if_pos hk, List.mem_append, List.mem_singleton, ih]
    · rw [if_neg hk, ih]
      refine ⟨.inl, fun h => ?_⟩
      rcases h with h | h
      · exact h
      · cases n with
        | zero => simp [keepI] at hk
        | succ m =>
          have e : gi l (m + 1) = gi l m := by simpa [keepI] using hk
          rw [h, e, gi_at l m (by omega), take_nextI l m (by omega)]
          exact List.mem_append_right _ (List.mem_singleton.2 rfl)
theorem compI_up {l : List Int} (hs : l.Pairwise (· ≤ ·)) : ∀ n, n ≤ l.length → (compI l n).Pairwise (· < ·)
  | 0, _ => by simp [compI]
  | n + 1, h => by
    have ih := compI_up hs n (by omega)
    rw [show compI l (n + 1) = if keepI l n = true then compI l n ++ [gi l n] else compI l n from rfl]
    by_cases hk : keepI l n = true
    · rw [if_pos hk, List.pairwise_append]
      refine ⟨ih, by simp, ?_⟩
      intro x hx y hy
      rw [List.mem_singleton] at hy
      subst hy
      have hx := (compI_mem l x n (by omega)).1 hx
      obtain ⟨i, hi, rfl⟩ := List.getElem_of_mem hx
      rw [List.length_take] at hi
      rw [List.getElem_take]
      have hle : l[i] ≤ l[n - 1] := by
        by_cases e : i = n - 1
        · subst e; exact Int.le_refl _
        · exact List.pairwise_iff_getElem.1 hs i (n - 1) (by omega) (by omega) (by omega)
      have hle2 : l[n - 1] ≤ l[n] := by exact List.pairwise_iff_getElem.1 hs (n - 1) n (by omega) (by omega) (by omega)
      have hne : gi l n ≠ gi l (n - 1) := by
        have : n ≠ 0 := by omega
        simpa [keepI, this] using hk
      rw [gi_at l n (by omega), gi_at l (n - 1) (by omega)] at hne
      rw [gi_at l n (by omega)]
      omega
    · rw [if_neg hk]; exact ih
def rise (l : List Int) : List Int := compI (l.mergeSort fun x y => decide (x ≤ y)) (l.mergeSort fun x y => decide (x ≤ y)).length
theorem sorted_ms (l : List Int) : (l.mergeSort fun x y => decide (x ≤ y)).Pairwise (· ≤ ·) := by
  have := List.pairwise_mergeSort (le := fun x y : Int => decide (x ≤ y)) (by intro a b c h1 h2; simp at *; omega) (by intro a b; simp; omega) l
  simpa using this
theorem rise_up (l : List Int) : (rise l).Pairwise (· < ·) := compI_up (sorted_ms l) _ (Nat.le_refl _)
theorem rise_mem (l : List Int) (x : Int) : x ∈ rise l ↔ x ∈ l := by
  unfold rise
  simp only [compI_mem _ x _ (Nat.le_refl _), List.take_length, List.mem_mergeSort]
theorem rise_len (l : List Int) : (rise l).length ≤ l.length := by
  have := compI_len (l.mergeSort fun x y => decide (x ≤ y)) (l.mergeSort fun x y => decide (x ≤ y)).length
  unfold rise
  rw [List.length_mergeSort] at this ⊢
  exact this
theorem up_ext : ∀ (a b : List Int), a.Pairwise (· < ·) → b.Pairwise (· < ·) → (∀ x, x ∈ a ↔ x ∈ b) → a = b
  | [], [], _, _, _ => rfl
  | [], y :: b, _, _, h => by have := (h y).2 List.mem_cons_self; simp at this
  | x :: a, [], _, _, h => by have := (h x).1 List.mem_cons_self; simp at this
  | x :: a, y :: b, ha, hb, h => by
    rw [List.pairwise_cons] at ha hb
    have exy : x = y := by
      rcases List.mem_cons.1 ((h x).1 List.mem_cons_self) with e | e
      · exact e
      · rcases List.mem_cons.1 ((h y).2 List.mem_cons_self) with e' | e'
        · exact e'.symm
        · have := hb.1 x e; have := ha.1 y e'; omega
    subst exy
    rw [up_ext a b ha.2 hb.2 (fun z => ⟨fun hz => ?_, fun hz => ?_⟩)]
    · rcases List.mem_cons.1 ((h z).1 (List.mem_cons_of_mem _ hz)) with e | e
      · have := ha.1 z hz; omega
      · exact e
    · rcases List.mem_cons.1 ((h z).2 (List.mem_cons_of_mem _ hz)) with e | e
      · have := hb.1 z hz; omega
      · exact e
theorem rdI (l : List Int) (i : Nat) : rd l (i : Int) = gi l i := rfl
theorem comp1_ev (l : List Int) (a : Nat) (ha : 1 ≤ a) (hal : a ≤ l.length) (hn : l.length ≤ 1048577) : ∀ (e x7 : Nat) (x0 : List Int) (b : Nat), x7 + e = (l.drop a).length → 1 ≤ x7 → x0.length = l.length → x0.take b = compI l (a + x7) → b = (compI l (a + x7)).length →
    Ev (fun k => slices_Compact_int64S.l1 k x0 b (l.drop a) x7) (compI l l.length) := by
  intro e
  induction e with
  | zero =>
    intro x7 x0 b hx h1 h2 h3 h4
    have hd : (l.drop a).length = l.length - a := List.length_drop
    have hb := compI_len l (a + x7)
    have e1 : a + x7 = l.length := by omega
    refine Ev.step (fun k => slices_Compact_int64S.l1.eq_2 _ _ _ _ k) ?_
    simp only [if_neg (show ¬ (x7 : Int) < ((l.drop a).length : Int) by omega), if_pos (show (0 : Int) ≤ (b : Int) by omega), if_pos (show (b : Int) ≤ (x0.length : Int) by omega), Int.toNat_natCast]
    rw [show (x0.take b ++ List.replicate (x0.length - b) (0 : Int)).take b = x0.take b from by rw [List.take_append_of_le_length (by simp; omega), List.take_take, Nat.min_self], h3, e1]
    exact Ev.now _
  | succ e ih =>
    intro x7 x0 b hx h1 h2 h3 h4
    have hd : (l.drop a).length = l.length - a := List.length_drop
    have hb := compI_len l (a + x7)
    have wd : wrap64 ((x7 : Int) - 1) = ((x7 - 1 : Nat) : Int) := by rw [w64 (by omega) (by omega)]; omega
    have hs : compI l (a + x7 + 1) = if keepI l (a + x7) = true then compI l (a + x7) ++ [gi l (a + x7)] else compI l (a + x7) := rfl
    refine Ev.step (fun k => slices_Compact_int64S.l1.eq_2 _ _ _ _ k) ?_
    simp only [if_pos (show (x7 : Int) < ((l.drop a).length : Int) by omega), if_pos (show (0 : Int) ≤ (x7 : Int) by omega), wd, if_pos (show (0 : Int) ≤ ((x7 - 1 : Nat) : Int) by omega), if_pos (show ((x7 - 1 : Nat) : Int) < ((l.drop a).length : Int) by omega), rdI, gi_drop, if_pos (show (0 : Int) ≤ (b : Int) by omega), if_pos (show (b : Int) < (x0.length : Int) by omega), Int.toNat_natCast, w64 (show -9223372036854775808 ≤ (x7 : Int) + 1 by omega) (by omega), w64 (show -9223372036854775808 ≤ (b : Int) + 1 by omega) (by omega)]
    rw [show a + (x7 - 1) = a + x7 - 1 by omega]
    by_cases hk : gi l (a + x7) = gi l (a + x7 - 1)
    · simp only [if_pos hk]
      have hkp : keepI l (a + x7) = false := by
        unfold keepI
        rw [hk, decide_eq_false (by omega)]
        simp
      rw [hkp] at hs
      simp only [Bool.false_eq_true, if_false] at hs
      exact ih (x7 + 1) x0 b (by omega) (by omega) h2 (by rw [← Nat.add_assoc, hs]; exact h3) (by rw [← Nat.add_assoc, hs]; exact h4)
    · simp only [if_neg hk]
      have hkp : keepI l (a + x7) = true := by
        unfold keepI
        rw [beq_eq_false_iff_ne.2 hk]
        simp
      rw [hkp] at hs
      simp only [if_true] at hs
      exact ih (x7 + 1) (x0.set b (gi l (a + x7))) (b + 1) (by omega) (by omega) (by rw [List.length_set]; exact h2) (by
        rw [← Nat.add_assoc, hs, ← h3, List.take_succ_eq_append_getElem (by rw [List.length_set]; omega), List.getElem_set_self, List.take_set_of_le (Nat.le_refl _)]) (by rw [← Nat.add_assoc, hs, List.length_append, ← h4]; rfl)
theorem comp_ev (l : List Int) (hn : l.length ≤ 1048577) : Ev (fun k => slices_Compact_int64S.f k l) (compI l l.length) := by
  unfold slices_Compact_int64S.f
  by_cases h2 : (l.length : Int) < 2
  · simp only [if_pos h2]
    rw [compI_take l l.length (Nat.le_refl _) (fun i hi => by simp [keepI]; omega), List.take_length]
    exact Ev.now _
  simp only [if_neg h2]
  have K : ∀ e i : Nat, i + e = l.length → 1 ≤ i → (∀ j, j < i → keepI l j = true) → Ev (fun k => slices_Compact_int64S.l0 k l (i : Int)) (compI l l.length) := by
    intro e
    induction e with
    | zero =>
      intro i hi h1 hk
      refine Ev.step (fun k => slices_Compact_int64S.l0.eq_2 _ _ k) ?_
      simp only [if_neg (show ¬ (i : Int) < (l.length : Int) by omega)]
      rw [compI_take l l.length (Nat.le_refl _) (fun j hj => hk j (by omega)), List.take_length]
      exact Ev.now _
    | succ e ih =>
      intro i hi h1 hk
      have wd : wrap64 ((i : Int) - 1) = ((i - 1 : Nat) : Int) := by rw [w64 (by omega) (by omega)]; omega
      refine Ev.step (fun k => slices_Compact_int64S.l0.eq_2 _ _ k) ?_
      simp only [if_pos (show (i : Int) < (l.length : Int) by omega), if_pos (show (0 : Int) ≤ (i : Int) by omega), wd, if_pos (show (0 : Int) ≤ ((i - 1 : Nat) : Int) by omega), if_pos (show ((i - 1 : Nat) : Int) < (l.length : Int) by omega), rdI, if_pos (show (i : Int) ≤ (l.length : Int) by omega), Int.toNat_natCast, w64 (show -9223372036854775808 ≤ (i : Int) + 1 by omega) (by omega)]
      by_cases hq : gi l i = gi l (i - 1)
      · simp only [if_pos hq]
        have hkp : keepI l i = false := by
          unfold keepI
          rw [hq, decide_eq_false (by omega)]
          simp
        have hs : compI l (i + 1) = compI l i := by
          rw [show compI l (i + 1) = if keepI l i = true then compI l i ++ [gi l i] else compI l i from rfl, hkp]
          simp
        have ht := compI_take l i (by omega) hk
        exact comp1_ev l i h1 (by omega) hn (l.length - i - 1) 1 l i (by rw [List.length_drop]; omega) (Nat.le_refl _) rfl (by rw [hs, ht]) (by rw [hs, ht, List.length_take]; omega)
      · simp only [if_neg hq]
        exact ih (i + 1) (by omega) (by omega) (fun j hj => by
          by_cases e : j = i
          · subst e
            unfold keepI
            rw [beq_eq_false_iff_ne.2 hq]
            simp
          · exact hk j (by omega))
  exact K (l.length - 1) 1 (by omega) (Nat.le_refl _) (fun j hj => by simp [keepI]; omega)
theorem sort_eq (l : List Int) (hn : l.length ≤ 1048577) : slices_Sort_int64S.f l = some (l.mergeSort fun x y => decide (x ≤ y)) := by
  unfold slices_Sort_int64S.f
  rw [if_pos (by omega)]
theorem rise_ev (l : List Int) (hn : l.length ≤ 1048577) : Ev (fun k => slices_Compact_int64S.f k (l.mergeSort fun x y => decide (x ≤ y))) (rise l) := comp_ev _ (by rw [List.length_mergeSort]; exact hn)
end Go.Proofs.Ytmmlhbfkchbpaaa.PSortI
end

section
namespace Go.Proofs.Ytmmlhbfkchbpaaa.PMix2
open Go.RowKit Go.Proofs.YtmmlhbfkchbpaaaW.PrintWords Go.Proofs.YtmmlhbfkchbpaaaW.PrintMore Go.Proofs.Ytmmlhbfkchbpaaa.XX Go.Proofs.Ytmmlhbfkchbpaaa.EvK Go.Proofs.Ytmmlhbfkchbpaaa.PBasics Go.Proofs.Ytmmlhbfkchbpaaa.PThru Go.Proofs.Ytmmlhbfkchbpaaa.PThru2 Go.Proofs.Ytmmlhbfkchbpaaa.PMix
open Go.Proofs.Ytmmlhbfkchbpaaa.PDivR (dr divRound_eq)
open Go.Proofs.Ytmmlhbfkchbpaaa.PSortI (gi gi_at rise rise_up rise_mem rise_len rise_ev sort_eq)
set_option linter.unusedVariables false
set_option linter.unusedSimpArgs false
theorem wat_next (l : List S49) (i : Nat) (hi : i < l.length) (t : Int) : wat (l.take (i + 1)) t = if (gt l i).f0 ≤ t then (gt l i).f1 else wat (l.take i) t := by
  rw [take_next l i hi, wat_snoc, ← gt_at l i hi]
  rfl
theorem implAt_ev (l : List S49) (hn : l.length ≤ 1048576) (t : Int) : Ev (fun k => impl_waveAt.f k l t) (wat l t) := by
  unfold impl_waveAt.f
  apply EvP.eq
  refine for_evp (L := fun k (x : Int) i => impl_waveAt.l0 k t x l (l.length : Int) i) l.length (fun i x => x = wat (l.take i) t) ?_ ?_ 0 rfl
  · rintro i x hi rfl K
    refine EvP.step (fun k => impl_waveAt.l0.eq_2 _ _ _ _ _ k) ?_
    simp only [rdg, if_pos (show (i : Int) < (l.length : Int) by omega), if_pos (show (0 : Int) ≤ (i : Int) by omega), w64 (show -9223372036854775808 ≤ (i : Int) + 1 by omega) (by omega)]
    have e := wat_next l i hi t
    by_cases c : (gt l i).f0 ≤ t
    · simp only [if_pos c] at e ⊢
      exact K _ e.symm
    · simp only [if_neg c] at e ⊢
      exact K _ e.symm
  · rintro x rfl
    refine EvP.step (fun k => impl_waveAt.l0.eq_2 _ _ _ _ _ k) ?_
    simp only [if_neg (show ¬ (l.length : Int) < (l.length : Int) by omega)]
    refine EvP.now ?_
    rw [List.take_length]
theorem specAt_ev (l : List S49) (hn : l.length ≤ 1048576) (h1 : 1 ≤ l.length) (t : Int) (h0 : (gt l 0).f0 ≤ t) : Ev (fun k => spec_l09At.f k l t) (wat l t) := by
  unfold spec_l09At.f
  simp only [if_pos (show (0 : Int) < (l.length : Int) by omega)]
  have K : ∀ e i : Nat, i + e = l.length → 1 ≤ i → Ev (fun k => spec_l09At.l0 k l t (wat (l.take i) t) (i : Int)) (wat l t) := by
    intro e
    induction e with
    | zero =>
      intro i hi h1
      refine Ev.step (fun k => spec_l09At.l0.eq_2 _ _ _ _ k) ?_
      simp only [if_neg (show ¬ (i : Int) < (l.length : Int) by omega)]
      rw [show i = l.length by omega, List.take_length]
      exact Ev.now _
    | succ e ih =>
      intro i hi h1
      refine Ev.step (fun k => spec_l09At.l0.eq_2 _ _ _ _ k) ?_
      simp only [rdg, if_pos (show (i : Int) < (l.length : Int) by omega), if_pos (show (0 : Int) ≤ (i : Int) by omega), w64 (show -9223372036854775808 ≤ (i : Int) + 1 by omega) (by omega)]
      have e' := wat_next l i (by omega) t
      have hk := ih (i + 1) (by omega) (by omega)
      by_cases c : (gt l i).f0 ≤ t
      · simp only [if_pos c] at e' ⊢
        rw [e'] at hk
        exact hk
      · simp only [if_neg c] at e' ⊢
        rw [e'] at hk
        exact hk
  have := K (l.length - 1) 1 (by omega) (Nat.le_refl _)
  rw [show wat (l.take 1) t = (gt l 0).f1 from wat_take l 0 (by omega) t h0] at this
  exact this
theorem implWaveAt_ev {l : List S49} (hl : waveB l = true) (t : Int) (ht : timeB t = true) : Ev (fun k => impl_WaveAt.f k l t) (wat l t, 0) := by
  have w := wv_of hl
  unfold impl_WaveAt.f
  refine Ev.bind (implWave_ev l (by have := w.n2; omega)) ?_
  simp only [hl, if_true, timeI, ht, Option.bind_some]
  refine Ev.bind (implAt_ev l (by have := w.n2; omega) t) ?_
  exact Ev.now _
theorem specWaveAt_ev {l : List S49} (hl : waveB l = true) (t : Int) (ht : timeB t = true) : Ev (fun k => spec_WaveAt.f k l t) (wat l t, 0) := by
  have w := wv_of hl
  have h0 := inR_iff.1 ht
  unfold spec_WaveAt.f
  refine Ev.bind (specWave_ev l (by have := w.n2; omega)) ?_
  simp only [hl, if_true, timeS, ht, Option.bind_some]
  refine Ev.bind (specAt_ev l (by have := w.n2; omega) w.n1 t (by rw [w.z]; exact h0.1)) ?_
  exact Ev.now _
theorem specTrim_ev {l : List S49} (hl : waveB l = true) : Ev (fun k => spec_TrimWave.f k l) (compN l l.length, 0) := by
  have w := wv_of hl
  unfold spec_TrimWave.f
  refine Ev.bind (specWave_ev l (by have := w.n2; omega)) ?_
  simp only [hl, if_true]
  refine Ev.bind (trim_ev l (by have := w.n2; omega)) ?_
  exact Ev.now _
theorem specValid_ev {l : List S49} (hn : l.length ≤ 1048576) : Ev (fun k => spec_ValidWave.f k l) (waveB l) := by
  unfold spec_ValidWave.f
  refine Ev.bind (specWave_ev l hn) ?_
  exact Ev.now _
theorem same_ev (l : List S49) (hn : l.length ≤ 1048576) : Ev (fun k => spec_SameWave.f k l l) true := by
  unfold spec_SameWave.f spec_l09Same.f
  simp only [if_true]
  refine Ev.bind (a := true) ?_ (Ev.now _)
  apply EvP.eq
  refine for_evp (L := fun k (_ : Unit) i => spec_l09Same.l0 k l l i) l.length (fun _ _ => True) ?_ ?_ () trivial
  · rintro i x hi - K
    refine EvP.step (fun k => spec_l09Same.l0.eq_2 _ _ _ k) ?_
    simp only [rdg, if_pos (show (i : Int) < (l.length : Int) by omega), if_pos (show (0 : Int) ≤ (i : Int) by omega), beq_self_eq_true, Bool.not_true, Bool.or_self, Bool.false_eq_true, if_false, w64 (show -9223372036854775808 ≤ (i : Int) + 1 by omega) (by omega)]
    exact K () trivial
  · rintro x -
    refine EvP.step (fun k => spec_l09Same.l0.eq_2 _ _ _ k) ?_
    simp only [if_neg (show ¬ (l.length : Int) < (l.length : Int) by omega)]
    exact EvP.now rfl
def wg (ws : List (List S49)) (i : Nat) : List S49 := ws.getD i []
theorem rdl (ws : List (List S49)) (i : Nat) : rd_L3 ws (i : Int) = wg ws i := rfl
theorem wg_mem (ws : List (List S49)) (i : Nat) (h : i < ws.length) : wg ws i ∈ ws := by
  unfold wg
  rw [List.getD_eq_getElem?_getD, List.getElem?_eq_getElem h]
  exact List.getElem_mem h
def ps (ws : List (List S49)) (fl : List Int) (τ : Int) : Nat → Int
  | 0 => 0
  | j + 1 => ps ws fl τ j + gi fl j * wat (wg ws j) τ
def sm (fl : List Int) : Nat → Int
  | 0 => 0
  | j + 1 => sm fl j + gi fl j
theorem gi_b {fl : List Int} (hb : ∀ x ∈ fl, 1 ≤ x ∧ x ≤ 100000) (j : Nat) (h : j < fl.length) : 1 ≤ gi fl j ∧ gi fl j ≤ 100000 := by
  rw [gi_at fl j h]; exact hb _ (List.getElem_mem h)
theorem sm_b {fl : List Int} (hb : ∀ x ∈ fl, 1 ≤ x ∧ x ≤ 100000) : ∀ j : Nat, j ≤ fl.length → (j : Int) ≤ sm fl j ∧ sm fl j ≤ 100000 * j
  | 0, _ => by simp [sm]
  | j + 1, h => by
    have ih := sm_b hb j (by omega)
    have := gi_b hb j (by omega)
    rw [show sm fl (j + 1) = sm fl j + gi fl j from rfl]
    omega
theorem sum_ev {fl : List Int} (hb : ∀ x ∈ fl, 1 ≤ x ∧ x ≤ 100000) (hn : fl.length ≤ 1000) : Ev (fun k => impl_sumOf.f k fl) (sm fl fl.length) := by
  unfold impl_sumOf.f
  apply EvP.eq
  refine for_evp (L := fun k (x : Int) i => impl_sumOf.l0 k x fl (fl.length : Int) i) fl.length (fun i x => x = sm fl i) ?_ ?_ 0 rfl
  · rintro i x hi rfl K
    have b := sm_b hb i (by omega)
    have g := gi_b hb i hi
    refine EvP.step (fun k => impl_sumOf.l0.eq_2 _ _ _ _ k) ?_
    simp only [show rd fl (i : Int) = gi fl i from rfl, if_pos (show (i : Int) < (fl.length : Int) by omega), if_pos (show (0 : Int) ≤ (i : Int) by omega), w64 (show -9223372036854775808 ≤ (i : Int) + 1 by omega) (by omega), w64 (show -9223372036854775808 ≤ sm fl i + gi fl i by omega) (by omega)]
    exact K _ rfl
  · rintro x rfl
    refine EvP.step (fun k => impl_sumOf.l0.eq_2 _ _ _ _ k) ?_
    simp only [if_neg (show ¬ (fl.length : Int) < (fl.length : Int) by omega)]
    exact EvP.now rfl
theorem prod_b {a x : Int} (ha : 1 ≤ a ∧ a ≤ 100000) (hx : -5000 ≤ x ∧ x ≤ 20000) : -500000000 ≤ a * x ∧ a * x ≤ 2000000000 := by
  have h1 : a * (-5000) ≤ a * x := Int.mul_le_mul_of_nonneg_left hx.1 (by omega)
  have h2 : a * x ≤ a * 20000 := Int.mul_le_mul_of_nonneg_left hx.2 (by omega)
  omega
theorem ps_b {ws : List (List S49)} {fl : List Int} (hw : ∀ w ∈ ws, waveB w = true) (hf : fl.length = ws.length) (hb : ∀ x ∈ fl, 1 ≤ x ∧ x ≤ 100000) {τ : Int} (hτ : 0 ≤ τ) : ∀ j : Nat, j ≤ ws.length → -500000000 * j ≤ ps ws fl τ j ∧ ps ws fl τ j ≤ 2000000000 * j
  | 0, _ => by simp [ps]
  | j + 1, h => by
    have ih := ps_b hw hf hb hτ j (by omega)
    have := prod_b (gi_b hb j (by omega)) (wat_btw (wv_of (hw _ (wg_mem ws j (by omega)))) τ hτ)
    rw [show ps ws fl τ (j + 1) = ps ws fl τ j + gi fl j * wat (wg ws j) τ from rfl]
    omega
theorem none_bad {ws : List (List S49)} (hw : ∀ w ∈ ws, waveB w = true) (hn : ws.length ≤ 16) : Ev (fun k => slices_ContainsFunc_StepSS.f k ws) false := by
  unfold slices_ContainsFunc_StepSS.f slices_IndexFunc_StepSS.f
  refine Ev.bind (a := -1) ?_ (Ev.now _)
  apply EvP.eq
  refine for_evp (L := fun k (_ : Unit) i => slices_IndexFunc_StepSS.l0 k ws (ws.length : Int) i) ws.length (fun _ _ => True) ?_ ?_ () trivial
  · rintro i x hi - K
    have hv := hw _ (wg_mem ws i hi)
    refine EvP.step (fun k => slices_IndexFunc_StepSS.l0.eq_2 _ _ _ k) ?_
    simp only [rdl, if_pos (show (i : Int) < (ws.length : Int) by omega), if_pos (show (0 : Int) ≤ (i : Int) by omega)]
    refine EvP.bind (a := false) ?_ ?_
    · unfold impl_MixWaves_c1.f
      refine Ev.bind (implWave_ev _ (by have := (wv_of hv).n2; omega)) ?_
      rw [hv]
      exact Ev.now _
    · simp only [Bool.false_eq_true, if_false, w64 (show -9223372036854775808 ≤ (i : Int) + 1 by omega) (by omega)]
      exact K () trivial
  · rintro x -
    refine EvP.step (fun k => slices_IndexFunc_StepSS.l0.eq_2 _ _ _ k) ?_
    simp only [if_neg (show ¬ (ws.length : Int) < (ws.length : Int) by omega)]
    exact EvP.now rfl
def tms (ws : List (List S49)) : List Int := ws.flatMap (·.map (·.f0))
def G (ws : List (List S49)) (fl : List Int) (τ : Int) : Int := dr (ps ws fl τ ws.length) (sm fl ws.length)
theorem tms_len {ws : List (List S49)} (hw : ∀ w ∈ ws, waveB w = true) : (tms ws).length ≤ 24 * ws.length := by
  induction ws with
  | nil => simp [tms]
  | cons w ws ih =>
    have := ih (fun x hx => hw x (List.mem_cons_of_mem _ hx))
    have n := (wv_of (hw w List.mem_cons_self)).n2
    unfold tms at this ⊢
    rw [List.flatMap_cons, List.length_append, List.length_map, List.length_cons]
    omega
theorem tms_next (ws : List (List S49)) (i : Nat) (hi : i < ws.length) : tms (ws.take (i + 1)) = tms (ws.take i) ++ (wg ws i).map (·.f0) := by
  unfold tms wg
  rw [List.take_succ_eq_append_getElem hi, List.flatMap_append, List.getD_eq_getElem?_getD, List.getElem?_eq_getElem hi]
  simp
theorem take_len {ws : List (List S49)} (hw : ∀ w ∈ ws, waveB w = true) (i : Nat) : (tms (ws.take i)).length ≤ 24 * ws.length := by
  have := tms_len (ws := ws.take i) (fun w h => hw w (List.mem_of_mem_take h))
  rw [List.length_take] at this
  omega
theorem tms_in {ws : List (List S49)} (hw : ∀ w ∈ ws, waveB w = true) : ∀ x ∈ tms ws, 0 ≤ x ∧ x ≤ 1000000 := by
  intro x hx
  unfold tms at hx
  obtain ⟨w, h1, h2⟩ := List.mem_flatMap.1 hx
  obtain ⟨s, h3, rfl⟩ := List.mem_map.1 h2
  exact (wv_of (hw w h1)).ts s h3
theorem mix_ev {ws : List (List S49)} {fl : List Int} (hw : ∀ w ∈ ws, waveB w = true) (h1 : 1 ≤ ws.length) (hn : ws.length ≤ 16) (hf : fl.length = ws.length) (hb : ∀ x ∈ fl, 1 ≤ x ∧ x ≤ 100000) :
    Ev (fun k => impl_MixWaves.f k ws fl) (done (compN (M (G ws fl) (rise (tms ws))) (M (G ws fl) (rise (tms ws))).length)) := by
  unfold impl_MixWaves.f
  refine Ev.bind (none_bad hw hn) ?_
  have ha : impl_allWithin.f fl 0 100000 = some true := by
    unfold impl_allWithin.f
    congr 1
    rw [List.all_eq_true]
    intro x hx
    have := hb x hx
    exact impl_allWithin.ok_t (by omega) this.2
  simp only [Bool.false_eq_true, if_false, ha, Option.bind_some, if_true, if_pos (show (ws.length : Int) = (fl.length : Int) by omega)]
  rw [show (decide ((ws.length : Int) > 16)) = false from decide_eq_false (by omega)]
  have hs := sum_ev hb (by omega)
  have hsb := sm_b hb fl.length (Nat.le_refl _)
  have hsm : sm fl ws.length = sm fl fl.length := by rw [hf]
  refine Ev.step (fun k => impl_MixWaves.j0.eq_2 _ _ _ k) ?_
  simp only [Bool.false_eq_true, if_false]
  refine Ev.bind hs ?_
  simp only [if_neg (show ¬ sm fl fl.length = 0 by omega)]
  apply EvP.eq
  refine for_evp (L := fun k (x : List Int) i => impl_MixWaves.l0 k ws fl x ws (ws.length : Int) i) ws.length (fun i x => x = tms (ws.take i)) ?_ ?_ [] rfl
  · rintro i x hi rfl K
    have hv := wv_of (hw _ (wg_mem ws i hi))
    have hl := hv.n2
    have hx := take_len hw i
    refine EvP.step (fun k => impl_MixWaves.l0.eq_2 _ _ _ _ _ _ k) ?_
    simp only [rdl, if_pos (show (i : Int) < (ws.length : Int) by omega), if_pos (show (0 : Int) ≤ (i : Int) by omega)]
    refine for_evp (L := fun k (x : List Int) j => impl_MixWaves.l1 k ws fl x ws (ws.length : Int) (i : Int) (wg ws i) ((wg ws i).length : Int) j) (wg ws i).length (fun j x => x = tms (ws.take i) ++ ((wg ws i).take j).map (·.f0)) ?_ ?_ _ (by simp)
    · rintro j x hj rfl K2
      refine EvP.step (fun k => impl_MixWaves.l1.eq_2 _ _ _ _ _ _ _ _ _ k) ?_
      have hlen : (tms (ws.take i) ++ ((wg ws i).take j).map (·.f0)).length < 17592186044416 := by
        rw [List.length_append, List.length_map, List.length_take]; omega
      simp only [rdg, if_pos (show (j : Int) < ((wg ws i).length : Int) by omega), if_pos (show (0 : Int) ≤ (j : Int) by omega), if_pos hlen, w64 (show -9223372036854775808 ≤ (j : Int) + 1 by omega) (by omega)]
      refine K2 _ ?_
      rw [take_next _ j hj, List.map_append, List.append_assoc, gt_at _ j hj]
      rfl
    · rintro x rfl
      refine EvP.step (fun k => impl_MixWaves.l1.eq_2 _ _ _ _ _ _ _ _ _ k) ?_
      simp only [if_neg (show ¬ ((wg ws i).length : Int) < ((wg ws i).length : Int) by omega), w64 (show -9223372036854775808 ≤ (i : Int) + 1 by omega) (by omega)]
      refine K _ ?_
      rw [List.take_length, tms_next ws i hi]
  · rintro x rfl
    rw [List.take_length]
    have hx := tms_len hw
    refine EvP.step (fun k => impl_MixWaves.l0.eq_2 _ _ _ _ _ _ k) ?_
    simp only [if_neg (show ¬ (ws.length : Int) < (ws.length : Int) by omega), sort_eq _ (show (tms ws).length ≤ 1048577 by omega), Option.bind_some]
    refine EvP.bind (rise_ev (tms ws) (by omega)) ?_
    have hT := rise_len (tms ws)
    have hT0 : ∀ x ∈ rise (tms ws), 0 ≤ x ∧ x ≤ 1000000 := fun x hx => tms_in hw x ((rise_mem _ _).1 hx)
    generalize rise (tms ws) = T at *
    have hM : ∀ j, (M (G ws fl) (T.take j)).length ≤ T.length := by intro j; unfold M; rw [List.length_map, List.length_take]; omega
    refine for_evp (L := fun k (x : List S49) i => impl_MixWaves.l2 k ws fl x T (T.length : Int) i) T.length (fun i x => x = M (G ws fl) (T.take i)) ?_ ?_ [] rfl
    · rintro i x hi rfl K
      have hτ := hT0 _ (List.getElem_mem hi)
      refine EvP.step (fun k => impl_MixWaves.l2.eq_2 _ _ _ _ _ _ k) ?_
      simp only [show rd T (i : Int) = gi T i from rfl, gi_at T i hi, if_pos (show (i : Int) < (T.length : Int) by omega), if_pos (show (0 : Int) ≤ (i : Int) by omega)]
      refine for_evp (L := fun k (x : Int) j => impl_MixWaves.l3 k ws fl (M (G ws fl) (T.take i)) T[i] x T (T.length : Int) (i : Int) ws (ws.length : Int) j) ws.length (fun j x => x = ps ws fl T[i] j) ?_ ?_ _ rfl
      · rintro j x hj rfl K2
        have hv := wv_of (hw _ (wg_mem ws j hj))
        have pb := ps_b hw hf hb hτ.1 j (by omega)
        have gb := gi_b hb j (by omega)
        have qb := prod_b gb (wat_btw hv T[i] hτ.1)
        refine EvP.step (fun k => impl_MixWaves.l3.eq_2 _ _ _ _ _ _ _ _ _ _ _ k) ?_
        simp only [rdl, show rd fl (j : Int) = gi fl j from rfl, if_pos (show (j : Int) < (ws.length : Int) by omega), if_pos (show (0 : Int) ≤ (j : Int) by omega), if_pos (show (j : Int) < (fl.length : Int) by omega)]
        refine EvP.bind (implAt_ev _ (by have := hv.n2; omega) T[i]) ?_
        simp only [w64 (show -9223372036854775808 ≤ gi fl j * wat (wg ws j) T[i] by omega) (by omega), w64 (show -9223372036854775808 ≤ ps ws fl T[i] j + gi fl j * wat (wg ws j) T[i] by omega) (by omega), w64 (show -9223372036854775808 ≤ (j : Int) + 1 by omega) (by omega)]
        exact K2 _ rfl
      · rintro x rfl
        have pb := ps_b hw hf hb hτ.1 ws.length (Nat.le_refl _)
        have hl := hM i
        refine EvP.step (fun k => impl_MixWaves.l3.eq_2 _ _ _ _ _ _ _ _ _ _ _ k) ?_
        simp only [if_neg (show ¬ (ws.length : Int) < (ws.length : Int) by omega)]
        refine EvP.bind hs ?_
        simp only [divRound_eq (ps ws fl T[i] ws.length) (sm fl fl.length) (by omega) (by omega) (by omega) (by omega), Option.bind_some, if_pos (show (M (G ws fl) (T.take i)).length < 8796093022208 by omega), w64 (show -9223372036854775808 ≤ (i : Int) + 1 by omega) (by omega)]
        refine K _ ?_
        unfold M
        rw [List.take_succ_eq_append_getElem hi, List.map_append]
        unfold G
        rw [hsm]
        rfl
    · rintro x rfl
      refine EvP.step (fun k => impl_MixWaves.l2.eq_2 _ _ _ _ _ _ k) ?_
      simp only [if_neg (show ¬ (T.length : Int) < (T.length : Int) by omega)]
      rw [List.take_length]
      have hl := hM T.length
      rw [List.take_length] at hl
      refine EvP.bind (implDone_ev _ (by omega)) ?_
      exact EvP.now rfl
end Go.Proofs.Ytmmlhbfkchbpaaa.PMix2
end

section
namespace Go.Proofs.Ytmmlhbfkchbpaaa.PSrc
open Go.RowKit Go.Proofs.YtmmlhbfkchbpaaaW.PrintWords Go.Proofs.Ytmmlhbfkchbpaaa.XX Go.Proofs.Ytmmlhbfkchbpaaa.EvK
set_option linter.unusedVariables false
set_option linter.unusedSimpArgs false
def Bytes (c : List Int) : Prop := ∀ x ∈ c, 0 ≤ x ∧ x ≤ 255
def On (a a' d : Int) : Prop := a ≤ a' ∧ a' ≤ a + d
theorem rd_mem (c : List Int) (a : Int) (h0 : 0 ≤ a) (h1 : a < (c.length : Int)) : rd c a ∈ c := by
  unfold rd
  rw [List.getD_eq_getElem?_getD, List.getElem?_eq_getElem (by omega)]
  exact List.getElem_mem (by omega)
theorem low_byte (y : Int) : 0 ≤ wrap64 (Go.bits .and .u64 (IntKind.u64.wrap y / 1099511627776) 255) ∧ wrap64 (Go.bits .and .u64 (IntKind.u64.wrap y / 1099511627776) 255) ≤ 255 := by
  have hw : 0 ≤ IntKind.u64.wrap y ∧ IntKind.u64.wrap y < 18446744073709551616 := by
    rw [IntKind.wrap_u64]; omega
  have hm : Go.bits .and .u64 (IntKind.u64.wrap y / 1099511627776) 255 = (IntKind.u64.wrap y / 1099511627776) % 256 := bits_mask .u64 64 (by decide) (fun n h0 h1 => by rw [IntKind.wrap_u64]; omega) 8 (by decide) _ (by omega) (by omega)
  rw [hm, w64 (by omega) (by omega)]
  omega
theorem next_eq {c : List Int} (hc : Bytes c) (a s : Int) (h0 : 0 ≤ a) (h1 : a ≤ 4611686018427387904) : ∃ x s', spec_l00Src_next.f c a s = some (x, a + 1, s') ∧ 0 ≤ x ∧ x ≤ 255 := by
  unfold spec_l00Src_next.f
  simp only [w64 (show -9223372036854775808 ≤ a + 1 by omega) (by omega)]
  by_cases h : a < (c.length : Int)
  · obtain ⟨r0, r1⟩ := hc _ (rd_mem c a h0 h)
    simp only [if_pos h, if_pos h0, if_pos (show a + 1 ≤ (c.length : Int) by omega), w64 (show -9223372036854775808 ≤ rd c a by omega) (by omega)]
    exact ⟨_, _, rfl, r0, r1⟩
  · simp only [if_neg h]
    by_cases h2 : a + 1 ≤ (c.length : Int)
    · omega
    · simp only [if_neg h2]
      obtain ⟨l0, l1⟩ := low_byte ((IntKind.u64.wrap (IntKind.u64.wrap (s * 6364136223846793005))) + 1442695040888963407)
      exact ⟨_, _, rfl, l0, l1⟩
theorem pick_eq {c : List Int} (hc : Bytes c) (a s n : Int) (h0 : 0 ≤ a) (h1 : a ≤ 4611686018427387000) : ∃ x a' s', spec_l00Src_pick.f c a s n = some (x, a', s') ∧ 0 ≤ x ∧ (1 ≤ n → x < n) ∧ On a a' 2 := by
  unfold spec_l00Src_pick.f
  by_cases hn : n ≤ 1
  · simp only [if_pos hn]
    exact ⟨0, a, s, rfl, by omega, by omega, by omega, by omega⟩
  · simp only [if_neg hn]
    obtain ⟨x, s1, e1, x0, x1⟩ := next_eq hc a s h0 (by omega)
    simp only [e1, Option.bind_some, if_neg (show ¬ n = 0 by omega)]
    by_cases hb : n > 200
    · obtain ⟨y, s2, e2, y0, y1⟩ := next_eq hc (a + 1) s1 (by omega) (by omega)
      simp only [if_pos hb, e2, Option.bind_some, w64 (show -9223372036854775808 ≤ x * 256 by omega) (by omega), w64 (show -9223372036854775808 ≤ x * 256 + y by omega) (by omega)]
      refine ⟨_, _, _, rfl, ?_, fun _ => ?_, by omega, by omega⟩
      · exact Int.tmod_nonneg _ (by omega)
      · exact Int.tmod_lt_of_pos _ (by omega)
    · simp only [if_neg hb]
      refine ⟨_, _, _, rfl, ?_, fun _ => ?_, by omega, by omega⟩
      · exact Int.tmod_nonneg _ (by omega)
      · exact Int.tmod_lt_of_pos _ (by omega)
end Go.Proofs.Ytmmlhbfkchbpaaa.PSrc
end

section
namespace Go.Proofs.Ytmmlhbfkchbpaaa.PMix3
open Go.RowKit Go.Proofs.YtmmlhbfkchbpaaaW.PrintWords Go.Proofs.YtmmlhbfkchbpaaaW.PrintMore Go.Proofs.Ytmmlhbfkchbpaaa.XX Go.Proofs.Ytmmlhbfkchbpaaa.EvK Go.Proofs.Ytmmlhbfkchbpaaa.PBasics Go.Proofs.Ytmmlhbfkchbpaaa.PThru Go.Proofs.Ytmmlhbfkchbpaaa.PThru2 Go.Proofs.Ytmmlhbfkchbpaaa.PMix Go.Proofs.Ytmmlhbfkchbpaaa.PMix2 Go.Proofs.Ytmmlhbfkchbpaaa.PSrc
open Go.Proofs.Ytmmlhbfkchbpaaa.PDivR (dr divRound_eq)
set_option linter.unusedVariables false
set_option linter.unusedSimpArgs false
set_option linter.unusedSectionVars false
theorem bytes_of {c : List Int} (h : ∀ y ∈ c, (Lit.int .u8 y).wf = true) : Bytes c := by
  intro x hx
  have := (Lit.wf_int_iff .u8 x).1 (h x hx)
  have e1 : IntKind.u8.min = 0 := by decide
  have e2 : IntKind.u8.max = 255 := by decide
  rw [e1, e2] at this
  exact this
structure Dw (l : List S49) : Prop where
  up : Up l
  ts : ∀ x ∈ l, 0 ≤ x.f0 ∧ x.f0 ≤ (gt l (l.length - 1)).f0
  last : (gt l (l.length - 1)).f0 ≤ 1171 * ((l.length : Int) - 1)
  dg : ∀ x ∈ l, 0 ≤ x.f1 ∧ x.f1 ≤ 10000
  z : (gt l 0).f0 = 0
  n1 : 1 ≤ l.length
theorem gt_app (l : List S49) (y : S49) (i : Nat) (h : i < l.length) : gt (l ++ [y]) i = gt l i := by
  rw [gt_at _ i (by simp; omega), gt_at l i h, List.getElem_append_left h]
theorem gt_end (l : List S49) (y : S49) : gt (l ++ [y]) l.length = y := by
  rw [gt_at _ _ (by simp)]
  simp
theorem Dw.next {l : List S49} (h : Dw l) (p q : Int) (hp : 0 ≤ p ∧ p ≤ 39) (hq : 0 ≤ q ∧ q ≤ 10000) : Dw (l ++ [⟨(gt l (l.length - 1)).f0 + 1 + 30 * p, q⟩]) := by
  have hn := h.n1
  have hl := h.last
  have e1 : (l ++ [(⟨(gt l (l.length - 1)).f0 + 1 + 30 * p, q⟩ : S49)]).length - 1 = l.length := by simp
  have hm : gt l (l.length - 1) ∈ l := by rw [gt_at l _ (by omega)]; exact List.getElem_mem _
  refine ⟨?_, ?_, ?_, ?_, ?_, by simp⟩
  · unfold Up
    rw [List.pairwise_append]
    refine ⟨h.up, by simp, ?_⟩
    intro x hx y hy
    rw [List.mem_singleton] at hy
    subst hy
    have := (h.ts x hx).2
    show x.f0 < (gt l (l.length - 1)).f0 + 1 + 30 * p
    omega
  · intro x hx
    rw [e1, gt_end]
    show 0 ≤ x.f0 ∧ x.f0 ≤ (gt l (l.length - 1)).f0 + 1 + 30 * p
    rcases List.mem_append.1 hx with hx | hx
    · have := h.ts x hx; omega
    · rw [List.mem_singleton] at hx
      subst hx
      have := (h.ts _ hm).1
      show 0 ≤ (gt l (l.length - 1)).f0 + 1 + 30 * p ∧ (gt l (l.length - 1)).f0 + 1 + 30 * p ≤ (gt l (l.length - 1)).f0 + 1 + 30 * p
      omega
  · rw [e1, gt_end, List.length_append, List.length_singleton]
    show (gt l (l.length - 1)).f0 + 1 + 30 * p ≤ 1171 * (((l.length + 1 : Nat) : Int) - 1)
    omega
  · intro x hx
    rcases List.mem_append.1 hx with hx | hx
    · exact h.dg x hx
    · rw [List.mem_singleton] at hx
      subst hx
      exact hq
  · rw [gt_app l _ 0 (by omega)]
    exact h.z
theorem wave_ev {c : List Int} (hc : Bytes c) : ∃ u, Ev (fun k => spec_R8Wave.f k c) u ∧ Dw u ∧ u.length ≤ 5 := by
  obtain ⟨p0, a0, s0, e0, b0, b1, o0⟩ := pick_eq hc 0 0 20 (by omega) (by omega)
  have b1 := b1 (by omega)
  unfold On at o0
  obtain ⟨p1, a1, s1, e1, b2, b3, o1⟩ := pick_eq hc a0 s0 5 (by omega) (by omega)
  have b3 := b3 (by omega)
  unfold On at o1
  have key : ∀ (d : Nat) (l : List S49) (a s : Int), 0 ≤ a → a ≤ 4611686018427000000 - 4 * d → Dw l → l.length + d ≤ 5 → ∃ (u : List S49) (a' s' : Int), Ev (fun k => spec_l09Draw.l0 k l (d : Int) c a s) (u, a', s') ∧ Dw u ∧ u.length ≤ 5 := by
    intro d
    induction d with
    | zero =>
      intro l a s h0 h1 hl hn
      refine ⟨l, a, s, Ev.step (fun k => spec_l09Draw.l0.eq_2 _ _ _ _ _ k) ?_, hl, by omega⟩
      simp only [if_neg (show ¬ ((0 : Nat) : Int) > 0 by omega)]
      exact Ev.now _
    | succ d ih =>
      intro l a s h0 h1 hl hn
      have hn1 := hl.n1
      have hla := hl.last
      have hm : gt l (l.length - 1) ∈ l := by rw [gt_at l _ (by omega)]; exact List.getElem_mem _
      have hl0 := (hl.ts _ hm).1
      obtain ⟨p, a2, s2, ep, c0, c1, o2⟩ := pick_eq hc a s 40 (by omega) (by omega)
      have c1 := c1 (by omega)
      unfold On at o2
      obtain ⟨q, a3, s3, eq, c2, c3, o3⟩ := pick_eq hc a2 s2 20 (by omega) (by omega)
      have c3 := c3 (by omega)
      unfold On at o3
      obtain ⟨u, a', s', hu, hd, hlen⟩ := ih (l ++ [⟨(gt l (l.length - 1)).f0 + 1 + 30 * p, 500 * q⟩]) a3 s3 (by omega) (by omega) (hl.next p (500 * q) (by omega) (by omega)) (by simp; omega)
      refine ⟨u, a', s', Ev.step (fun k => spec_l09Draw.l0.eq_2 _ _ _ _ _ k) ?_, hd, hlen⟩
      have wd : wrap64 ((l.length : Int) - 1) = ((l.length - 1 : Nat) : Int) := by rw [w64 (by omega) (by omega)]; omega
      simp only [if_pos (show ((d + 1 : Nat) : Int) > 0 by omega), wd, if_pos (show (0 : Int) ≤ ((l.length - 1 : Nat) : Int) by omega), if_pos (show ((l.length - 1 : Nat) : Int) < (l.length : Int) by omega), ep, eq, Option.bind_some, rdg, if_pos (show l.length < 8796093022208 by omega), show ((d + 1 : Nat) : Int) - 1 = (d : Int) by omega, w64 (show -9223372036854775808 ≤ (d : Int) by omega) (by omega), w64 (show -9223372036854775808 ≤ (gt l (l.length - 1)).f0 + 1 by omega) (by omega), w64 (show -9223372036854775808 ≤ 30 * p by omega) (by omega), w64 (show -9223372036854775808 ≤ (gt l (l.length - 1)).f0 + 1 + 30 * p by omega) (by omega), w64 (show -9223372036854775808 ≤ 500 * q by omega) (by omega)]
      exact hu
  have hst : Dw [(⟨0, 500 * p0⟩ : S49)] := by
    refine ⟨by simp [Up], ?_, by simp [gt], ?_, by simp [gt], by simp⟩
    · intro x hx
      rw [List.mem_singleton] at hx
      subst hx
      simp [gt]
    · intro x hx
      rw [List.mem_singleton] at hx
      subst hx
      show 0 ≤ 500 * p0 ∧ 500 * p0 ≤ 10000
      omega
  obtain ⟨u, a', s', hu, hd, hlen⟩ := key p1.toNat [⟨0, 500 * p0⟩] a1 s1 (by omega) (by omega) hst (by simp; omega)
  refine ⟨u, ?_, hd, hlen⟩
  unfold spec_R8Wave.f spec_l00From.f spec_l09Draw.f
  simp only [Option.bind_some, e0, e1, w64 (show -9223372036854775808 ≤ 500 * p0 by omega) (by omega)]
  rw [show ((p1.toNat : Nat) : Int) = p1 by omega] at hu
  refine Ev.bind hu ?_
  exact Ev.now _
theorem dw_wv {u : List S49} (h : Dw u) (hn : u.length ≤ 5) : Wv u ∧ (∀ x ∈ u, x.f0 ≤ 4684) := by
  have hl := h.last
  have hb : ∀ x ∈ u, x.f0 ≤ 4684 := fun x hx => by have := (h.ts x hx).2; omega
  exact ⟨⟨h.up, fun x hx => ⟨(h.ts x hx).1, by have := hb x hx; omega⟩, fun x hx => by have := h.dg x hx; omega, h.z, h.n1, by omega⟩, hb⟩
theorem pipe_ev {c : List Int} (hc : Bytes c) : ∃ l d q, spec_R8Pipe.f c = some (⟨#[109, 97, 105, 110]⟩, 0, 1, l, d, q) ∧ (1 ≤ l ∧ l ≤ 10000) ∧ (20 ≤ d ∧ d ≤ 1000) ∧ (0 ≤ q ∧ q ≤ 5000) := by
  obtain ⟨p0, a0, s0, e0, b0, b1, o0⟩ := pick_eq hc 0 0 900 (by omega) (by omega)
  have b1 := b1 (by omega)
  unfold On at o0
  obtain ⟨p1, a1, s1, e1, b2, b3, o1⟩ := pick_eq hc a0 s0 20 (by omega) (by omega)
  have b3 := b3 (by omega)
  unfold On at o1
  obtain ⟨p2, a2, s2, e2, b4, b5, o2⟩ := pick_eq hc a1 s1 600 (by omega) (by omega)
  have b5 := b5 (by omega)
  refine ⟨20 + p0, 60 + 20 * p1, 100 + p2, ?_, by omega, by omega, by omega⟩
  unfold spec_R8Pipe.f spec_l00From.f spec_l03DrawOk.f
  simp only [Option.bind_some, e0, e1, e2, w64 (show -9223372036854775808 ≤ 20 + p0 by omega) (by omega), w64 (show -9223372036854775808 ≤ 20 * p1 by omega) (by omega), w64 (show -9223372036854775808 ≤ 60 + 20 * p1 by omega) (by omega), w64 (show -9223372036854775808 ≤ 100 + p2 by omega) (by omega)]
theorem at_b {c : List Int} (hc : Bytes c) (a : Int) (h0 : 0 ≤ a) : ∃ x, laws_r8At.f c a 256 = some x ∧ 0 ≤ x ∧ x ≤ 255 := by
  unfold laws_r8At.f
  rw [if_neg (by omega)]
  by_cases h : a ≥ (c.length : Int)
  · rw [if_pos h]; exact ⟨0, rfl, by omega, by omega⟩
  · rw [if_neg h, if_pos h0, if_pos (by omega), if_neg (by omega)]
    have := hc _ (rd_mem c a h0 (by omega))
    rw [w64 (by omega) (by omega)]
    refine ⟨_, rfl, Int.tmod_nonneg _ (by omega), ?_⟩
    have := Int.tmod_lt_of_pos (rd c a) (show (0 : Int) < 256 by omega)
    omega
theorem wide_eq {c : List Int} (hc : Bytes c) (a n : Int) (h0 : 0 ≤ a) (h1 : a ≤ 1000) (hn : 1 ≤ n) : ∃ x, laws_r8Wide.f c a n = some x ∧ 0 ≤ x ∧ x < n := by
  unfold laws_r8Wide.f
  obtain ⟨x, ex, x0, x1⟩ := at_b hc a h0
  obtain ⟨y, ey, y0, y1⟩ := at_b hc (a + 1) (by omega)
  rw [ex, w64 (show -9223372036854775808 ≤ a + 1 by omega) (by omega), ey]
  simp only [Option.bind_some, if_neg (show ¬ n = 0 by omega), w64 (show -9223372036854775808 ≤ 256 * x by omega) (by omega), w64 (show -9223372036854775808 ≤ 256 * x + y by omega) (by omega)]
  exact ⟨_, rfl, Int.tmod_nonneg _ (by omega), Int.tmod_lt_of_pos _ (by omega)⟩
section
variable {l d w q : Int} (hl : 1 ≤ l ∧ l ≤ 10000) (hd : 20 ≤ d ∧ d ≤ 1000) (hw : 0 ≤ w ∧ w ≤ 5000) (hq : 1 ≤ q ∧ q ≤ 100000)
include hl hd hw hq
theorem pipeB : pipeOkV ⟨#[109, 97, 105, 110]⟩ 0 1 l d w = true := by
  unfold pipeOkV
  simp only [Bool.and_eq_true]
  refine ⟨by decide, by decide, by decide, by decide, inR_iff.2 hl, inR_iff.2 hd, inR_iff.2 hw⟩
theorem ask_ev : Ev (fun k => spec_l03Ask.f k ⟨#[109, 97, 105, 110]⟩ 0 1 l d w q) 0 := by
  unfold spec_l03Ask.f spec_l03Flow.f
  refine Ev.bind (l03OkV_ev _ 0 1 l d w (by decide)) ?_
  rw [pipeB hl hd hw hq]
  simp only [if_true, in_eq, Option.bind_some, inR_iff.2 (show -100000 ≤ q ∧ q ≤ 100000 by omega)]
  exact Ev.now _
theorem delay_ev : Ev (fun k => spec_DelayOf.f k ⟨#[109, 97, 105, 110]⟩ 0 1 l d w q) (dly l d q, 0) := by
  unfold spec_DelayOf.f
  refine Ev.bind (ask_ev hl hd hw hq) ?_
  simp only [if_true, if_neg (show ¬ q = 0 by omega), delayS hl hd (show -100000 ≤ q ∧ q ≤ 100000 by omega) (show q ≠ 0 by omega), Option.bind_some]
  exact Ev.now _
theorem end_ev {x : Int} (hx : -5000 ≤ x ∧ x ≤ 20000) : Ev (fun k => spec_EndTemperature.f k ⟨#[109, 97, 105, 110]⟩ 0 1 l d w q x 800) (endOf l w q 800 x, 0) := by
  unfold spec_EndTemperature.f
  refine Ev.bind (ask_ev hl hd hw hq) ?_
  have h1 : degB x = true := inR_iff.2 hx
  have h2 : degB 800 = true := by decide
  simp only [if_true, degS, h1, h2, Option.bind_some, Bool.not_true]
  refine Ev.step (fun k => spec_EndTemperature.j0.eq_2 _ _ _ _ _ _ _ _ _ _ k) ?_
  simp only [Bool.false_eq_true, if_false, if_neg (show ¬ q = 0 by omega), endS hl hw (show -100000 ≤ q ∧ q ≤ 100000 by omega) (show q ≠ 0 by omega) hx (show (-5000 : Int) ≤ 800 ∧ (800 : Int) ≤ 20000 by omega) _ 0 1, Option.bind_some]
  exact Ev.now _
theorem dly_b : 1 ≤ dly l d q ∧ dly l d q ≤ 2000000000000000 := by
  refine ⟨dly_pos hl hd (by omega) (by omega), ?_⟩
  obtain ⟨g0, g1⟩ := water_pos hl hd
  have ha : ab q = q := by rw [ab_is (by omega) (by omega)]; omega
  unfold dly
  rw [ha, w64 (show -9223372036854775808 ≤ waterOf l d + q by omega) (by omega), w64 (show -9223372036854775808 ≤ waterOf l d + q - 1 by omega) (by omega)]
  rw [Int.tdiv_eq_ediv_of_nonneg (by omega)]
  have h1 : 0 ≤ (waterOf l d + q - 1) / q := Int.ediv_nonneg (by omega) (by omega)
  have h2 : (waterOf l d + q - 1) / q ≤ waterOf l d + q - 1 := Int.ediv_le_self _ (by omega)
  rw [w64 (by omega) (by omega)]
  omega
theorem endOf_b {x : Int} (hx : -5000 ≤ x ∧ x ≤ 20000) : -5000 ≤ endOf l w q 800 x ∧ endOf l w q 800 x ≤ 20000 := by
  obtain ⟨_, hb⟩ := loss_b hl hw hx (show (-5000 : Int) ≤ 800 ∧ (800 : Int) ≤ 20000 by omega)
  have ha : ab q = q := by rw [ab_is (by omega) (by omega)]; omega
  have hwl : 0 ≤ w * l := Int.mul_nonneg hw.1 (by omega)
  have h1 := dr_abs (a := w * l * (x - 800)) (b := 100000) (by omega)
  have hA : dr (w * l * (x - 800)) 100000 = lossOf l w x 800 := rfl
  rw [hA] at h1
  have h2 := dr_abs (a := 100000 * lossOf l w x 800) (b := 4186 * q) (by omega)
  have sgn : ∀ (s n : Int), 0 < n → (0 ≤ s → 0 ≤ dr s n) ∧ (s ≤ 0 → dr s n ≤ 0) := by
    intro s n hn
    constructor
    · intro hs
      unfold dr
      rw [if_pos hs]
      exact Int.ediv_nonneg (by omega) (by omega)
    · intro hs
      unfold dr
      split
      · have e : s = 0 := by omega
        subst e
        rw [show (2 * 0 + n) = n by omega, Int.ediv_eq_zero_of_lt (by omega) (by omega)]
        omega
      · have := Int.ediv_nonneg (show 0 ≤ n - 2 * s by omega) (show 0 ≤ 2 * n by omega)
        omega
  unfold endOf
  rw [ha]
  by_cases c : x ≥ 800
  · rw [if_pos c]
    have p1 : 0 ≤ w * l * (x - 800) := Int.mul_nonneg hwl (by omega)
    have p2 := (sgn _ 100000 (by omega)).1 p1
    rw [hA] at p2
    have p3 := (sgn (100000 * lossOf l w x 800) (4186 * q) (by omega)).1 (by omega)
    rw [w64 (by omega) (by omega)]
    unfold mx
    split <;> omega
  · rw [if_neg c]
    have p1 : w * l * (x - 800) ≤ 0 := Int.mul_nonpos_of_nonneg_of_nonpos hwl (by omega)
    have p2 := (sgn _ 100000 (by omega)).2 p1
    rw [hA] at p2
    have p3 := (sgn (100000 * lossOf l w x 800) (4186 * q) (by omega)).2 (by omega)
    rw [w64 (by omega) (by omega)]
    unfold mn
    split <;> omega
end
end Go.Proofs.Ytmmlhbfkchbpaaa.PMix3
end

section
namespace Go.Proofs.Ytmmlhbfkchbpaaa.PureFnMixing
open Go.RowKit Go.Proofs.YtmmlhbfkchbpaaaW.PrintWords Go.Proofs.YtmmlhbfkchbpaaaW.PrintMore Go.Proofs.Ytmmlhbfkchbpaaa.XX Go.Proofs.Ytmmlhbfkchbpaaa.EvK Go.Proofs.Ytmmlhbfkchbpaaa.PBasics Go.Proofs.Ytmmlhbfkchbpaaa.PThru Go.Proofs.Ytmmlhbfkchbpaaa.PThru2 Go.Proofs.Ytmmlhbfkchbpaaa.PMix Go.Proofs.Ytmmlhbfkchbpaaa.PMix2 Go.Proofs.Ytmmlhbfkchbpaaa.PMix3 Go.Proofs.Ytmmlhbfkchbpaaa.PSrc
open Go.Proofs.Ytmmlhbfkchbpaaa.PDivR (dr divRound_eq)
open Go.Proofs.Ytmmlhbfkchbpaaa.PSortI (gi gi_at rise rise_up rise_mem rise_len up_ext)
set_option linter.unusedVariables false
set_option linter.unusedSimpArgs false
theorem G2 (u v : List S49) (a b : Int) : G [u, v] [a, b] = fun τ => (fun f : List S49 → Int => dr (a * f u + b * f v) (a + b)) (fun w => wat w τ) := by
  funext τ
  simp [G, ps, sm, gi, wg]
theorem G1 (u : List S49) (a : Int) : G [u] [a] = fun τ => dr (a * wat u τ) a := by
  funext τ
  simp [G, ps, sm, gi, wg]
theorem mn_le (x y : Int) : mn x y ≤ x ∧ mn x y ≤ y := by unfold mn; split <;> omega
theorem le_mx (x y : Int) : x ≤ mx x y ∧ y ≤ mx x y := by unfold mx; split <;> omega
theorem mix_btw {a b : Int} (ha : 1 ≤ a) (hb : 1 ≤ b) (x y : Int) : mn x y ≤ dr (a * x + b * y) (a + b) ∧ dr (a * x + b * y) (a + b) ≤ mx x y := by
  have h1 := mn_le x y
  have h2 := le_mx x y
  have e1 : a * mn x y ≤ a * x := Int.mul_le_mul_of_nonneg_left h1.1 (by omega)
  have e2 : b * mn x y ≤ b * y := Int.mul_le_mul_of_nonneg_left h1.2 (by omega)
  have e3 : a * x ≤ a * mx x y := Int.mul_le_mul_of_nonneg_left h2.1 (by omega)
  have e4 : b * y ≤ b * mx x y := Int.mul_le_mul_of_nonneg_left h2.2 (by omega)
  refine dr_btw (by omega) ?_ ?_
  · rw [Int.mul_add, Int.mul_comm (mn x y) a, Int.mul_comm (mn x y) b]; omega
  · rw [Int.mul_add, Int.mul_comm (mx x y) a, Int.mul_comm (mx x y) b]; omega
theorem one_is {a : Int} (ha : 1 ≤ a) (x : Int) : dr (a * x) a = x := by
  have := dr_btw (s := a * x) (n := a) (m := x) (M := x) (by omega) (by rw [Int.mul_comm]; omega) (by rw [Int.mul_comm]; omega)
  omega
theorem wat_cut (l : List S49) (n : Nat) (t : Int) (h : ∀ x ∈ l.drop n, t < x.f0) : wat l t = wat (l.take n) t := by
  have key : ∀ (l : List S49) (d : Int), (∀ x ∈ l, t < x.f0) → l.foldl (wst t) d = d := by
    intro l
    induction l with
    | nil => intro d _; rfl
    | cons x l ih =>
      intro d h
      rw [List.foldl_cons]
      have := h x List.mem_cons_self
      unfold wst
      rw [if_neg (by omega)]
      exact ih d (fun y hy => h y (List.mem_cons_of_mem _ hy))
  have e : wat l t = wat (l.take n ++ l.drop n) t := by rw [List.take_append_drop]
  rw [e]
  unfold wat
  rw [List.foldl_append]
  exact key _ _ h
theorem wat_own {u : List S49} (hu : Up u) (s : S49) (hs : s ∈ u) : wat u s.f0 = s.f1 := by
  obtain ⟨i, hi, rfl⟩ := List.getElem_of_mem hs
  rw [wat_cut u (i + 1) u[i].f0 ?_, wat_take u i hi _ (by rw [gt_at u i hi]; omega), gt_at u i hi]
  intro x hx
  obtain ⟨j, hj, rfl⟩ := List.getElem_of_mem hx
  rw [List.length_drop] at hj
  rw [List.getElem_drop]
  exact List.pairwise_iff_getElem.1 hu i (i + 1 + j) hi (by omega) (by omega)
theorem alone_is {u : List S49} (hu : Up u) {a : Int} (ha : 1 ≤ a) : M (G [u] [a]) (rise (tms [u])) = u := by
  have et : tms [u] = u.map (·.f0) := by simp [tms]
  have er : rise (tms [u]) = u.map (·.f0) := by
    refine up_ext _ _ (rise_up _) (by rw [List.pairwise_map]; exact hu) (fun x => ?_)
    rw [rise_mem, et]
  rw [er, G1]
  unfold M
  rw [List.map_map]
  have : u.map id = u := List.map_id u
  conv => rhs; rw [← this]
  refine List.map_congr_left (fun s hs => ?_)
  show (⟨s.f0, dr (a * wat u s.f0) a⟩ : S49) = s
  rw [wat_own hu s hs, one_is ha]
theorem pure : laws_FnMixing.Pure := by
  intro c0 c1 hq0 hq1
  apply EvP.rounds
  have hc0 := bytes_of hq0.2
  have hc1 := bytes_of hq1.2
  have hm0 := hq0.1
  have hm1 := hq1.1
  unfold laws_FnMixing.f laws_r8Long.f
  by_cases hl0 : (c0.length : Int) > 1048576
  · simp only [if_pos hl0, Option.bind_some, if_true]
    exact EvP.now rfl
  simp only [if_neg hl0, Option.bind_some]
  by_cases hl1 : (c1.length : Int) > 1048576
  · simp only [decide_eq_true hl1, if_true]
    exact EvP.now rfl
  simp only [decide_eq_false hl1, Bool.false_eq_true, if_false]
  obtain ⟨u, eu, du, nu⟩ := wave_ev hc0
  obtain ⟨v, ev, dv, nv⟩ := wave_ev hc1
  obtain ⟨wu, bu⟩ := dw_wv du nu
  obtain ⟨wv, bv⟩ := dw_wv dv nv
  have hu := of_wv wu
  have hv := of_wv wv
  obtain ⟨s, es, s0, s1⟩ := wide_eq hc1 0 5000 (by omega) (by omega) (by omega)
  obtain ⟨t, et, t0, t1⟩ := wide_eq hc1 2 5000 (by omega) (by omega) (by omega)
  obtain ⟨time, em, m0, m1⟩ := wide_eq hc1 4 6000 (by omega) (by omega) (by omega)
  refine EvP.bind eu (EvP.bind ev ?_)
  simp only [es, et, Option.bind_some, w64 (show -9223372036854775808 ≤ 1 + s by omega) (by omega), w64 (show -9223372036854775808 ≤ 1 + t by omega) (by omega)]
  obtain ⟨a, ea⟩ : ∃ a, 1 + s = a := ⟨_, rfl⟩
  obtain ⟨b, eb⟩ : ∃ b, 1 + t = b := ⟨_, rfl⟩
  rw [ea, eb]
  have ha : 1 ≤ a ∧ a ≤ 5000 := by omega
  have hb : 1 ≤ b ∧ b ≤ 5000 := by omega
  have hw2 : ∀ w ∈ [u, v], waveB w = true := by
    intro w hw
    rcases List.mem_cons.1 hw with rfl | hw
    · exact hu
    · rw [List.mem_singleton.1 hw]; exact hv
  have hw1 : ∀ w ∈ [u], waveB w = true := by
    intro w hw
    rw [List.mem_singleton.1 hw]; exact hu
  have hx2 : ∀ x ∈ [a, b], 1 ≤ x ∧ x ≤ 100000 := by
    intro x hx
    rcases List.mem_cons.1 hx with rfl | hx
    · omega
    · rw [List.mem_singleton.1 hx]; omega
  have hx1 : ∀ x ∈ [a], 1 ≤ x ∧ x ≤ 100000 := by
    intro x hx
    rw [List.mem_singleton.1 hx]; omega
  have mix := mix_ev hw2 (by simp) (by simp) (by simp) hx2
  have alone := mix_ev hw1 (by simp) (by simp) (by simp) hx1
  rw [alone_is wu.up ha.1] at alone
  have hT := rise_up (tms [u, v])
  have hTm := tms_in hw2
  have hTl : (rise (tms [u, v])).length ≤ 10 := by
    have h1 := rise_len (tms [u, v])
    have h2 : (tms [u, v]).length = u.length + v.length := by simp [tms]
    omega
  have hin : ∀ w ∈ [u, v], ∀ x ∈ w, x.f0 ∈ rise (tms [u, v]) := by
    intro w hw x hx
    rw [rise_mem]
    unfold tms
    exact List.mem_flatMap.2 ⟨w, hw, List.mem_map.2 ⟨x, hx, rfl⟩⟩
  have h0in : 0 ∈ rise (tms [u, v]) := by
    have h1 : gt u 0 ∈ u := by rw [gt_at u 0 (by have := wu.n1; omega)]; exact List.getElem_mem _
    have := hin u List.mem_cons_self _ h1
    rwa [wu.z] at this
  have hTp : ∀ x ∈ rise (tms [u, v]), 0 ≤ x ∧ x ≤ 1000000 := fun x hx => hTm x ((rise_mem _ _).1 hx)
  have hwat : ∀ τ, 0 ≤ τ → wat (M (G [u, v] [a, b]) (rise (tms [u, v]))) τ = dr (a * wat u τ + b * wat v τ) (a + b) := by
    intro τ hτ
    rw [G2]
    refine wat_mix [u, v] (fun f : List S49 → Int => dr (a * f u + b * f v) (a + b)) _ hT h0in hin ?_ τ hτ
    intro f g h
    show dr (a * f u + b * f v) (a + b) = dr (a * g u + b * g v) (a + b)
    rw [h u List.mem_cons_self, h v (by simp)]
  have hGb : ∀ τ, 0 ≤ τ → -5000 ≤ G [u, v] [a, b] τ ∧ G [u, v] [a, b] τ ≤ 20000 := by
    intro τ hτ
    have e : G [u, v] [a, b] τ = dr (a * wat u τ + b * wat v τ) (a + b) := by rw [G2]
    rw [e]
    have h1 := mix_btw ha.1 hb.1 (wat u τ) (wat v τ)
    have h2 := wat_btw wu τ hτ
    have h3 := wat_btw wv τ hτ
    have h4 : -5000 ≤ mn (wat u τ) (wat v τ) := by unfold mn; split <;> omega
    have h5 : mx (wat u τ) (wat v τ) ≤ 20000 := by unfold mx; split <;> omega
    omega
  obtain ⟨z1, z2⟩ := zero_head hT h0in (fun x hx => (hTp x hx).1)
  have mup := up_M (G [u, v] [a, b]) hT
  have mgt := gt_M (G [u, v] [a, b]) (rise (tms [u, v])) z1
  have mlen : (M (G [u, v] [a, b]) (rise (tms [u, v]))).length = (rise (tms [u, v])).length := by unfold M; rw [List.length_map]
  have mts : ∀ x ∈ M (G [u, v] [a, b]) (rise (tms [u, v])), (0 ≤ x.f0 ∧ x.f0 ≤ 1000000) ∧ (-5000 ≤ x.f1 ∧ x.f1 ≤ 20000) := by
    intro x hx
    unfold M at hx
    obtain ⟨τ, h1, rfl⟩ := List.mem_map.1 hx
    exact ⟨hTp τ h1, hGb τ (hTp τ h1).1⟩
  generalize hm : M (G [u, v] [a, b]) (rise (tms [u, v])) = m at *
  obtain ⟨c1_, c2_⟩ := comp_long mup (fun x hx => (mts x hx).1) (fun x hx => (mts x hx).2) (by rw [mgt, z2]) (by omega) (by omega)
  obtain ⟨d1_, d2_⟩ := comp_long wu.up wu.ts wu.dg wu.z wu.n1 wu.n2
  rw [c1_] at mix
  rw [d1_] at alone
  have hmc : wat (compN m m.length) time = wat m time := by rw [wat_comp mup time m.length (Nat.le_refl _), List.take_length]
  have lm := (wv_of c2_).n2
  have lu := (wv_of d2_).n2
  refine EvP.bind mix (EvP.bind alone (EvP.bind (specTrim_ev hu) ?_))
  simp only [if_true]
  refine EvP.bind (specValid_ev (by omega)) ?_
  simp only [c2_, if_true]
  refine EvP.bind (same_ev _ (by omega)) ?_
  simp only [if_true]
  unfold laws_FnMixing.g2
  simp only [em, Option.bind_some]
  have ht : timeB time = true := inR_iff.2 (by omega)
  refine EvP.bind (specWaveAt_ev hu time ht) (EvP.bind (specWaveAt_ev hv time ht) (EvP.bind (implWaveAt_ev c2_ time ht) ?_))
  have hz := mix_btw ha.1 hb.1 (wat u time) (wat v time)
  rw [← hwat time m0, ← hmc] at hz
  have hx := wat_btw wu time m0
  simp only [if_true, if_neg (show ¬ wat (compN m m.length) time < mn (wat u time) (wat v time) by omega), if_neg (show ¬ wat (compN m m.length) time > mx (wat u time) (wat v time) by omega)]
  obtain ⟨l, d, q, ep, pl, pd, pq⟩ := pipe_ev hc0
  have ha2 : 1 ≤ a ∧ a ≤ 100000 := by omega
  have thr := impl_ev ⟨#[109, 97, 105, 110]⟩ 0 1 l d q a u 800 1000 (by decide) (by omega)
  have hth : thru ⟨#[109, 97, 105, 110]⟩ 0 1 l d q a u 800 1000 = ans l d q a 800 1000 u := by
    unfold thru
    rw [if_pos ⟨pipeB pl pd pq ha2, hu⟩, if_pos ⟨inR_iff.2 (by omega), by decide, by decide⟩, if_neg (by omega)]
  rw [hth] at thr
  obtain ⟨y0, y1⟩ := dly_b pl pd pq ha2
  have hE : ∀ x ∈ u, -5000 ≤ endOf l q a 800 x.f1 ∧ endOf l q a 800 x.f1 ≤ 20000 := fun x hx => endOf_b pl pd pq ha2 (wu.dg x hx)
  have hy : (⟨0, 1000⟩ : S49) :: (u.map (E l q a 800)).map (D (dly l d a)) = ⟨0, 1000⟩ :: u.map (fun s => (⟨s.f0 + dly l d a, endOf l q a 800 s.f1⟩ : S49)) := by
    rw [List.map_map]
    congr 1
    refine List.map_congr_left (fun s hs => ?_)
    have := wu.ts s hs
    show (⟨wrap64 (s.f0 + dly l d a), endOf l q a 800 s.f1⟩ : S49) = _
    rw [w64 (by omega) (by omega)]
  unfold ans at thr
  simp only [hy] at thr
  have dl := delay_ev pl pd pq ha2
  simp only [ep, Option.bind_some]
  have hup : Up ((⟨0, 1000⟩ : S49) :: u.map (fun s => (⟨s.f0 + dly l d a, endOf l q a 800 s.f1⟩ : S49))) := by
    unfold Up
    rw [List.pairwise_cons]
    refine ⟨?_, ?_⟩
    · intro x hx
      obtain ⟨s, h1, rfl⟩ := List.mem_map.1 hx
      have := wu.ts s h1
      show 0 < s.f0 + dly l d a
      omega
    · rw [List.pairwise_map]
      exact wu.up.imp (fun {p q} h => by show p.f0 + _ < q.f0 + _; omega)
  have hylen : ((⟨0, 1000⟩ : S49) :: u.map (fun s => (⟨s.f0 + dly l d a, endOf l q a 800 s.f1⟩ : S49))).length ≤ 6 := by
    rw [List.length_cons, List.length_map]; omega
  have hyt : ∀ x ∈ ((⟨0, 1000⟩ : S49) :: u.map (fun s => (⟨s.f0 + dly l d a, endOf l q a 800 s.f1⟩ : S49))), (0 ≤ x.f0 ∧ x.f0 ≤ 4684 + dly l d a) ∧ (-5000 ≤ x.f1 ∧ x.f1 ≤ 20000) := by
    intro x hx
    rcases List.mem_cons.1 hx with rfl | hx
    · exact ⟨⟨Int.le_refl _, by show (0 : Int) ≤ _; omega⟩, by show (-5000 : Int) ≤ 1000 ∧ (1000 : Int) ≤ 20000; omega⟩
    · obtain ⟨s, h1, rfl⟩ := List.mem_map.1 hx
      have := wu.ts s h1
      have := bu s h1
      exact ⟨by show 0 ≤ s.f0 + dly l d a ∧ s.f0 + dly l d a ≤ 4684 + dly l d a; omega, hE s h1⟩
  have hyw : wat ((⟨0, 1000⟩ : S49) :: u.map (fun s => (⟨s.f0 + dly l d a, endOf l q a 800 s.f1⟩ : S49))) (time + dly l d a) = endOf l q a 800 (wat u time) := by
    have hn1 := wu.n1
    have hz0 := wu.z
    cases u with
    | nil => simp at hn1
    | cons x u' => exact wat_through (endOf l q a 800) x u' time (dly l d a) 1000 (by omega) (by rw [show x.f0 = 0 from hz0]; omega)
  generalize hyy : (⟨0, 1000⟩ : S49) :: u.map (fun s => (⟨s.f0 + dly l d a, endOf l q a 800 s.f1⟩ : S49)) = y at *
  have hy0 : (gt y 0).f0 = 0 := by rw [← hyy]; rfl
  have hy1 : 1 ≤ y.length := by rw [← hyy]; simp
  refine EvP.bind thr (EvP.bind dl ?_)
  unfold laws_FnMixing.g3
  by_cases hd : dly l d a > 900000
  · have hlen := compN_len y y.length
    unfold done
    rw [if_neg (show ¬ ((compN y y.length).length : Int) > 24 by omega)]
    split
    · simp only [if_true, if_pos hd]
      exact EvP.now rfl
    · simp only [if_neg (show ¬ (6 : Int) = 0 by omega), if_true, if_pos hd]
      exact EvP.now rfl
  · obtain ⟨e1_, e2_⟩ := comp_long hup (fun x hx => by have := hyt x hx; omega) (fun x hx => (hyt x hx).2) hy0 hy1 (by omega)
    have lo := (wv_of e2_).n2
    rw [e1_]
    simp only [if_true, if_neg hd, w64 (show -9223372036854775808 ≤ time + dly l d a by omega) (by omega)]
    refine EvP.bind (implWaveAt_ev e2_ (time + dly l d a) (inR_iff.2 (by omega))) (EvP.bind (end_ev pl pd pq ha2 hx) (EvP.bind (specValid_ev (by omega)) ?_))
    have hfin : wat (compN y y.length) (time + dly l d a) = endOf l q a 800 (wat u time) := by rw [wat_comp hup _ y.length (Nat.le_refl _), List.take_length, hyw]
    simp only [e2_, if_true, if_pos hfin]
    exact EvP.now rfl
end Go.Proofs.Ytmmlhbfkchbpaaa.PureFnMixing
end

section
namespace Go.Proofs.Ytmmlhbfkchbpaaa.RowFnMixing
open Go.ChangeShapes Go.WideShapes Go.ChangeAt Go.RowKit Go.Proofs.YtmmlhbfkchbpaaaW.PrintWords Go.Proofs.Ytmmlhbfkchbpaaa.XX Go.Proofs.Ytmmlhbfkchbpaaa.Open
open Go.ChangeMaps (open_string shut_string)
set_option linter.unusedVariables false
theorem own : ownKnob Try.prog.godebug = none := by kernel_rfl
theorem laidOut : laidOutB Try.prog = true := by kernel_rfl
set_option maxRecDepth 100000 in
theorem lifted (os : Os) (started : os.Started) (H : Type) (enc : TypeId × Value → H) :
    ReturnsInHanded {} Try.checked os 3 .any (Rows.fnMixingSpec.pre6 enc Try.prog Try.f3 Rows.fnMixingRow.domain false) (Rows.fnMixingSpec.post enc Try.prog Try.f3 false true false false) := by
  refine returnsInHanded_of_change_sized (C := Try.checked) own started (by kernel_rfl) Try.func3
    (ChangeSpec.witness6 (enc := enc) (C := Try.checked) false ⟨#[], #[(.slice none 0 0), (.slice none 0 0)], []⟩ 8 (by kernel_rfl) (by kernel_rfl) (by kernel_rfl) (by kernel_rfl)) ?_
  intro W base args ds gs before hval0 hW hcnd hsz0 _
  have hsz : (DataW.weightsEach Try.prog (Try.f3.params.toList ++ Rows.fnMixingSpec.plain.varTypes Try.prog) (ds ++ gs)).all (· ≤ reachBytes) = true := hsz0
  have hval : ∀ (j : Nat) t v, Try.f3.params[j]? = some t → args[j]? = some v → Value.okWide Try.prog W .any base t v := hval0
  have hW' := hW
  obtain ⟨p, q, hA0, hV, rfl, hfz, hnd⟩ := hW
  have hA : DataW.TrodAll enc Try.prog W 0 (fun _ => true) true Try.f3.params.toList args.toList ds p := hA0
  rw [Try.params3] at hA hval hsz
  obtain ⟨v0, vs0, d0, ds0, p0, q0, hargs, rfl, rfl, h0, r0⟩ := trodAll_cons hA
  obtain ⟨v1, vs1, d1, ds1, p1, q1, rfl, rfl, rfl, h1, r1⟩ := trodAll_cons r0
  obtain ⟨rfl, rfl, rfl⟩ := trodAll_nil r1
  obtain rfl : args = #[v0, v1] := by cases args; simp_all
  obtain ⟨rfl, rfl⟩ := trodVars_none hV
  have kk0 := h0
  have lt0 : ∀ x ∈ p0, x.block < W.heap.size := by obtain ⟨m, hm⟩ := kk0; exact DataW.trod_lt m _ _ _ hm
  obtain ⟨A0, c0, a0, rfl, hc0, hr0, hq0⟩ := open_sl Try.underlying22 (by kernel_rfl) (Opens.int Try.underlying5 (by kernel_rfl)) (hval 0 22 v0 rfl rfl) h0
  have kk1 := h1
  have lt1 : ∀ x ∈ p1, x.block < W.heap.size := by obtain ⟨m, hm⟩ := kk1; exact DataW.trod_lt m _ _ _ hm
  obtain ⟨A1, c1, a1, rfl, hc1, hr1, hq1⟩ := open_sl Try.underlying22 (by kernel_rfl) (Opens.int Try.underlying5 (by kernel_rfl)) (hval 1 22 v1 rfl rfl) h1
  obtain ⟨k, hp⟩ := PureFnMixing.pure a0 a1 hq0 hq1
  clear hA0 hval0 hsz0 hsz
  refine (laws_FnMixing.calls k A0 c0 a0 A1 c1 a1 true W hr0 hc0 hr1 hc1 hp).mono fun e W' ⟨he, bel0⟩ => ?_
  have bel : Below W.heap.size W W' := bel0
  subst he
  exact ⟨_, rfl, _, _, _, [], _, [], hW', trodAll_mk1 (shut_bool Try.underlying4 _), (trodAll_cons_mk (Below.trod laidOut (by kernel_rfl) (of_decide_eq_true (by kernel_rfl)) kk0 bel lt0) (trodAll_cons_mk (Below.trod laidOut (by kernel_rfl) (of_decide_eq_true (by kernel_rfl)) kk1 bel lt1) trodAll_mk0)), rfl, bel.frame _, fun h => by cases h⟩
theorem over : Rows.fnMixingRow.holds Try.pinned (OpenSpec.ofChange Rows.fnMixingSpec) :=
  OpenClaim.holds_of_wide 3 Try.f3 rfl rfl rfl rfl rfl rfl rfl ⟨rfl, rfl, rfl, rfl, rfl⟩ rfl rfl rfl rfl rfl (by kernel_rfl) Try.func3 (by kernel_rfl)
    (of_decide_eq_true (by kernel_rfl)) (by unfold Func.isWrapper; first | (rw [if_pos (by decide +kernel)]; kernel_rfl) | (rw [if_neg (by decide +kernel)]; exact ⟨rfl, rfl⟩))
    (fun os started H enc _ => lifted os started H enc)
end Go.Proofs.Ytmmlhbfkchbpaaa.RowFnMixing
namespace Go.Proofs.Ytmmlhbfkchbpaaa
theorem fnMixing_holds : Rows.FnMixingSaid := RowFnMixing.over
end Go.Proofs.Ytmmlhbfkchbpaaa
end
