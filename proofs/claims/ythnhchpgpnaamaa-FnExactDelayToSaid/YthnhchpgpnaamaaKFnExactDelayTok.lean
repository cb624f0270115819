/- The law FnExactDelayTo: part 10 of its texts, joined (wip/pack.py). -/
import Derived.Test.YthnhchpgpnaamaaKFnExactDelayToa
import Derived.Test.YthnhchpgpnaamaaKFnExactDelayTob
import Derived.Test.YthnhchpgpnaamaaKFnExactDelayToc
import Derived.Test.YthnhchpgpnaamaaKFnExactDelayTod
import Derived.Test.YthnhchpgpnaamaaKFnExactDelayToe
import Derived.Test.YthnhchpgpnaamaaKFnExactDelayTof
import Derived.Test.YthnhchpgpnaamaaKFnExactDelayTog
import Derived.Test.YthnhchpgpnaamaaKFnExactDelayToh
import Derived.Test.YthnhchpgpnaamaaKFnExactDelayToi
import Derived.Test.YthnhchpgpnaamaaKFnExactDelayToj
import Derived.Test.YthnhchpgpnaamaaRows
import Derived.WalkKit
import Derived.ProofKit
import Derived.OpenShut
import Derived.ShutString
import Derived.ChangeOld
import Derived.Below
import Derived.SizedLaws

section
namespace Go.Proofs.Ythnhchpgpnaamaa.PWays
open Go.RowKit Go.Proofs.YthnhchpgpnaamaaW.PrintWords Go.Proofs.Ythnhchpgpnaamaa.XG Go.Proofs.Ythnhchpgpnaamaa.EvK Go.Proofs.Ythnhchpgpnaamaa.PBasics Go.Proofs.Ythnhchpgpnaamaa.PNet Go.Proofs.Ythnhchpgpnaamaa.PGraph Go.Proofs.Ythnhchpgpnaamaa.PBfs Go.Proofs.Ythnhchpgpnaamaa.PTree
set_option linter.unusedVariables false
set_option linter.unusedSimpArgs false
abbrev Wy := S56
def yes (_ : Int) : Bool := true
def toW (w : Int × Int × Int) : Wy := ⟨w.1, w.2.1, w.2.2⟩
theorem conn_yes {F : List (Int × Int)} {u v : Int} : Conn (opens yes F) u v ↔ Conn F u v := by
  constructor
  · refine Conn.mono (fun e he => ?_)
    obtain ⟨i, hi, _⟩ := mem_opens.1 he
    exact List.mem_of_getElem? hi
  · refine Conn.mono (fun e he => ?_)
    obtain ⟨i, hi, rfl⟩ := List.getElem_of_mem he
    exact mem_opens.2 ⟨i, by rw [List.getElem?_eq_getElem hi], rfl⟩
theorem ways_in (nodes : List Int) (l : List P) (src : Int) (kk : Nat) (u : Int) (hg : NetG nodes l) :
    ∀ (rest : List P) (i : Nat) (s : St) (r : List Wy), l.drop i = rest → i ≤ l.length → Inv nodes.length yes (E l) src kk s → kk < s.1.length → s.1.getD kk 0 = u →
    Ev (fun k => impl_Network_ways.l0 k ((scan yes u (rest.map ends) (i : Int) s).2.map toW) (scan yes u (rest.map ends) (i : Int) s).1 (((kk + 1 : Nat) : Int)) nodes l) r → Ev (fun k => impl_Network_ways.l1 k (s.2.map toW) s.1 (kk : Int) l (l.length : Int) (i : Int) nodes l) r := by
  intro rest
  induction rest with
  | nil =>
    intro i s r hd hi h hk hu hr
    have := drop_nil hi hd
    have hn2 := hg.n2
    have hl2 := hg.l2
    have hsl := (nodup_le _ s.1 h.nd h.wi).1
    refine Ev.step (fun k => impl_Network_ways.l1.eq_2 _ _ _ _ _ _ _ _ k) ?_
    simp only [if_neg (show ¬ (i : Int) < (l.length : Int) by omega), w64 (show -9223372036854775808 ≤ (kk : Int) + 1 by omega) (by omega)]
    exact hr
  | cons p rest ih =>
    intro i s r hd hi h hk hu hr
    obtain ⟨hil, hy, hd'⟩ := drop_at hd
    have hn2 := hg.n2
    have hl2 := hg.l2
    have hsl := (nodup_le _ s.1 h.nd h.wi).1
    have hwl := h.wl
    have hpi : (E l)[i]? = some (ends p) := E_at (by rw [List.getElem?_eq_getElem hil, hy])
    obtain ⟨g1, g2, g3, g4, g5⟩ := step_inv hg.w h hk hpi
    rw [hu] at g1 g2 g3 g4 g5
    have hnext := ih (i + 1) (stepS yes u (ends p) (i : Int) s) r hd' (by omega) g1 (by omega) (by rw [g3 kk hk, hu]) (by
      rw [show (((i + 1 : Nat)) : Int) = (i : Int) + 1 by omega]
      exact hr)
    refine Ev.step (fun k => impl_Network_ways.l1.eq_2 _ _ _ _ _ _ _ _ k) ?_
    simp only [if_pos (show (i : Int) < (l.length : Int) by omega), if_pos (show (0 : Int) ≤ (i : Int) by omega), if_pos (show (0 : Int) ≤ (kk : Int) by omega), if_pos (show (kk : Int) < (s.1.length : Int) by omega), rdP l i hil, hy, getD_rd, hu, other_eq, Option.bind_some, w64 (show -9223372036854775808 ≤ (i : Int) + 1 by omega) (by omega)]
    unfold stepS at hnext
    rw [show ((i : Int) + 1) = ((i + 1 : Nat) : Int) by omega]
    cases ho : other (ends p) u with
    | none =>
      rw [ho] at hnext
      simp only [Bool.false_eq_true, if_false]
      exact hnext
    | some v =>
      rw [ho] at hnext
      dsimp only at hnext
      simp only [if_true]
      refine Ev.bind (contains_ev s.1 v (by omega)) ?_
      by_cases hv : v ∈ s.1
      · simp only [decide_eq_true hv, if_true]
        rw [if_neg (fun hh => hh.2 hv)] at hnext
        exact hnext
      · have hgd : (s.1 ++ [v]).getD kk 0 = u := by rw [getD_app hk, hu]
        simp only [decide_eq_false hv, Bool.false_eq_true, if_false, if_pos (show s.1.length < 17592186044416 by omega), if_pos (show (kk : Int) < ((s.1 ++ [v]).length : Int) by simp; omega), List.length_map, if_pos (show s.2.length < 5864062014805 by omega), hgd]
        rw [if_pos ⟨rfl, hv⟩] at hnext
        simp only [List.map_append, List.map_cons, List.map_nil] at hnext
        exact hnext
theorem ways_out (nodes : List Int) (l : List P) (src : Int) (hg : NetG nodes l) : ∀ (d kk : Nat) (s : St), Inv nodes.length yes (E l) src kk s → nodes.length + 1 ≤ kk + d →
    Ev (fun k => impl_Network_ways.l0 k (s.2.map toW) s.1 (kk : Int) nodes l) ((bfs yes (E l) d kk s).2.map toW) := by
  intro d
  induction d with
  | zero =>
    intro kk s h hd
    have := (nodup_le _ s.1 h.nd h.wi).1
    have := h.kl
    omega
  | succ d ih =>
    intro kk s h hd
    refine Ev.step (fun k => impl_Network_ways.l0.eq_2 _ _ _ _ _ k) ?_
    unfold bfs
    by_cases hk : kk < s.1.length
    · simp only [if_pos (show (kk : Int) < (s.1.length : Int) by omega), if_pos hk]
      have hin := scan_inv hg.w (E l) 0 s (s.1.getD kk 0) rfl (by omega) h hk rfl (by intro i' hi'; omega)
      exact ways_in nodes l src kk (s.1.getD kk 0) hg l 0 s _ rfl (by omega) h hk rfl (ih (kk + 1) _ hin.1 (by omega))
    · simp only [if_neg (show ¬ (kk : Int) < (s.1.length : Int) by omega), if_neg hk]
      exact Ev.now _
def walk (nodes : List Int) (l : List P) (src : Int) : St := full yes (E l) nodes.length src
theorem walk_inv {nodes : List Int} {l : List P} (hg : NetG nodes l) {src : Int} (h0 : 0 ≤ src) (h1 : src < (nodes.length : Int)) : Inv nodes.length yes (E l) src (walk nodes l src).1.length (walk nodes l src) := full_inv hg.w h0 h1
theorem ways_ev (nodes : List Int) (l : List P) (src : Int) (hg : NetG nodes l) (h0 : 0 ≤ src) (h1 : src < (nodes.length : Int)) : Ev (fun k => impl_Network_ways.f k nodes l src) ((walk nodes l src).2.map toW) :=
  ways_out nodes l src hg (nodes.length + 1) 0 _ (start_inv h0 h1) (by omega)
def sg (l : List P) (w : Int × Int × Int) : Int := if (l.getD w.2.2.toNat z59).f1 = w.2.1 then w.2.2 + 1 else -w.2.2 - 1
structure Ord (nodes : List Int) (l : List P) (s : St) (by_ : List Int) (seen : List Bool) : Prop where
  bl : by_.length = nodes.length
  sl : seen.length = nodes.length
  sn : ∀ x : Int, 0 ≤ x → x < (nodes.length : Int) → rdOf false seen x = decide (x ∈ s.1)
  bw : ∀ w ∈ s.2, rd by_ w.1 = sg l w
theorem rd_set {α : Type} {d : α} {L : List α} {x y : Int} {v : α} (h0 : 0 ≤ x) (hx : x < (L.length : Int)) (hy : 0 ≤ y) : (L.set x.toNat v).getD y.toNat d = if y = x then v else L.getD y.toNat d := by
  have hx' : x.toNat < L.length := by omega
  simp only [List.getD_eq_getElem?_getD, List.getElem?_set]
  by_cases h : y = x
  · simp [h, hx']
  · rw [if_neg h, if_neg (by omega)]
theorem Ord.add {nodes : List Int} {l : List P} {s : St} {by_ : List Int} {seen : List Bool} (h : Ord nodes l s by_ seen) {v u : Int} {i : Nat} (hv0 : 0 ≤ v) (hv : v < (nodes.length : Int)) (hn : v ∉ s.1) (hw : ∀ w ∈ s.2, w.1 ∈ s.1 ∧ 0 ≤ w.1) {g : Int} (hg : g = sg l (v, u, (i : Int))) :
    Ord nodes l (s.1 ++ [v], s.2 ++ [(v, u, (i : Int))]) (by_.set v.toNat g) (seen.set v.toNat true) := by
  have hb := h.bl
  have hs := h.sl
  refine ⟨by simpa using hb, by simpa using hs, ?_, ?_⟩
  · intro x h0 h1
    show (seen.set v.toNat true).getD x.toNat false = _
    rw [rd_set hv0 (by omega) h0]
    by_cases hx : x = v
    · rw [if_pos hx]; simp [hx]
    · rw [if_neg hx]
      have := h.sn x h0 h1
      rw [show seen.getD x.toNat false = rdOf false seen x from rfl, this, decide_eq_decide]
      simp [hx]
  · intro w hm
    show (by_.set v.toNat g).getD w.1.toNat 0 = _
    rcases List.mem_append.1 hm with hm | hm
    · obtain ⟨m1, m2⟩ := hw w hm
      rw [rd_set hv0 (by omega) m2, if_neg (show ¬ w.1 = v from fun e => hn (e ▸ m1))]
      exact h.bw w hm
    · rw [List.mem_singleton.1 hm]
      rw [rd_set hv0 (by omega) hv0, if_pos rfl, hg]
theorem way_mem {N : Nat} {op : Int → Bool} {F : List (Int × Int)} {src : Int} {k : Nat} {s : St} (h : Inv N op F src k s) : ∀ w ∈ s.2, w.1 ∈ s.1 ∧ 0 ≤ w.1 ∧ w.1 < (N : Int) := by
  intro w hw
  obtain ⟨j, hj, rfl⟩ := List.getElem_of_mem hw
  have := h.wl
  obtain ⟨g1, _⟩ := h.wy j s.2[j] (by rw [List.getElem?_eq_getElem hj])
  have hm : s.2[j].1 ∈ s.1 := by rw [g1]; exact getD_mem' (by omega)
  exact ⟨hm, h.wi _ hm⟩
theorem order_in (nodes : List Int) (l : List P) (src : Int) (kk : Nat) (u : Int) (hg : NetG nodes l) (q : List Int × List Int → Prop) :
    ∀ (rest : List P) (i : Nat) (s : St) (by_ : List Int) (seen : List Bool), l.drop i = rest → i ≤ l.length → Inv nodes.length yes (E l) src kk s → Ord nodes l s by_ seen → kk < s.1.length → s.1.getD kk 0 = u →
    (∀ b2 s2, Ord nodes l (scan yes u (rest.map ends) (i : Int) s) b2 s2 → EvP (fun k => spec_l07Order.l0 k (scan yes u (rest.map ends) (i : Int) s).1 b2 s2 (((kk + 1 : Nat) : Int)) nodes l) q) → EvP (fun k => spec_l07Order.l1 k s.1 by_ seen (kk : Int) (i : Int) nodes l) q := by
  intro rest
  induction rest with
  | nil =>
    intro i s by_ seen hd hi h ho hk hu hr
    have := drop_nil hi hd
    have hn2 := hg.n2
    have hl2 := hg.l2
    have hsl := (nodup_le _ s.1 h.nd h.wi).1
    refine EvP.step (fun k => spec_l07Order.l1.eq_2 _ _ _ _ _ _ _ k) ?_
    simp only [if_neg (show ¬ (i : Int) < (l.length : Int) by omega), w64 (show -9223372036854775808 ≤ (kk : Int) + 1 by omega) (by omega)]
    exact hr by_ seen ho
  | cons p rest ih =>
    intro i s by_ seen hd hi h ho hk hu hr
    obtain ⟨hil, hy, hd'⟩ := drop_at hd
    have hn2 := hg.n2
    have hl2 := hg.l2
    have hsl := (nodup_le _ s.1 h.nd h.wi).1
    have hpi : (E l)[i]? = some (ends p) := E_at (by rw [List.getElem?_eq_getElem hil, hy])
    have hym : p ∈ l := by rw [← hy]; exact List.getElem_mem hil
    have hne := hg.ne p hym
    obtain ⟨w1, w2, w3, w4⟩ := hg.w (ends p) (List.mem_map_of_mem hym)
    simp only [ends] at w1 w2 w3 w4
    have hb := ho.bl
    have hs := ho.sl
    obtain ⟨g1, g2, g3, g4, g5⟩ := step_inv hg.w h hk hpi
    rw [hu] at g1 g2 g3 g4 g5
    have hnext := ih (i + 1) (stepS yes u (ends p) (i : Int) s)
    have hgi : l.getD i z59 = p := by simp [List.getD_eq_getElem?_getD, hil, hy]
    have fin : ∀ b2 s2, Ord nodes l (stepS yes u (ends p) (i : Int) s) b2 s2 → EvP (fun k => spec_l07Order.l1 k (stepS yes u (ends p) (i : Int) s).1 b2 s2 (kk : Int) (((i + 1 : Nat)) : Int) nodes l) q := by
      intro b2 s2 h2
      refine hnext b2 s2 hd' (by omega) g1 h2 (by omega) (by rw [g3 kk hk, hu]) ?_
      rw [show (((i + 1 : Nat)) : Int) = (i : Int) + 1 by omega]
      exact hr
    have hwm := way_mem h
    refine EvP.step (fun k => spec_l07Order.l1.eq_2 _ _ _ _ _ _ _ k) ?_
    simp only [if_pos (show (i : Int) < (l.length : Int) by omega), if_pos (show (0 : Int) ≤ (i : Int) by omega), if_pos (show (0 : Int) ≤ (kk : Int) by omega), if_pos (show (kk : Int) < (s.1.length : Int) by omega), rdP l i hil, hy, getD_rd, hu, w64 (show -9223372036854775808 ≤ (i : Int) + 1 by omega) (by omega), if_pos w1, if_pos w3, if_pos (show p.f1 < (seen.length : Int) by omega), if_pos (show p.f2 < (seen.length : Int) by omega), if_pos (show p.f1 < (by_.length : Int) by omega), if_pos (show p.f2 < (by_.length : Int) by omega), if_pos (show s.1.length < 17592186044416 by omega), ho.sn p.f1 w1 w2, ho.sn p.f2 w3 w4, Option.bind_some]
    rw [show ((i : Int) + 1) = ((i + 1 : Nat) : Int) by omega]
    have hoth : other (ends p) u = if u = p.f1 then some p.f2 else if u = p.f2 then some p.f1 else none := rfl
    by_cases c1 : p.f1 = u
    · have hst : stepS yes u (ends p) (i : Int) s = if p.f2 ∉ s.1 then (s.1 ++ [p.f2], s.2 ++ [(p.f2, u, (i : Int))]) else s := by
        unfold stepS
        rw [hoth, if_pos c1.symm]
        simp [yes]
      have c2 : ¬ p.f2 = u := fun e => hne (c1.trans e.symm)
      simp only [if_pos c1]
      by_cases hv : p.f2 ∈ s.1
      · simp only [decide_eq_true hv, if_true, if_neg c2]
        rw [hst, if_neg (fun hh => hh hv)] at fin
        exact fin by_ seen ho
      · rw [hst, if_pos hv] at fin
        have hgd : (s.1 ++ [p.f2]).getD kk 0 = u := by rw [getD_app hk, hu]
        simp only [decide_eq_false hv, Bool.false_eq_true, if_false, if_pos (show (kk : Int) < ((s.1 ++ [p.f2]).length : Int) by simp; omega), hgd, if_neg c2]
        exact fin _ _ (ho.add w3 w4 hv (fun w hw => ⟨(hwm w hw).1, (hwm w hw).2.1⟩) (by unfold sg; simp only [Int.toNat_natCast, hgi]; rw [if_pos c1]; omega))
    · simp only [if_neg c1]
      by_cases c2 : p.f2 = u
      · have hst : stepS yes u (ends p) (i : Int) s = if p.f1 ∉ s.1 then (s.1 ++ [p.f1], s.2 ++ [(p.f1, u, (i : Int))]) else s := by
          unfold stepS
          rw [hoth, if_neg (fun e => c1 e.symm), if_pos c2.symm]
          simp [yes]
        simp only [if_pos c2]
        by_cases hv : p.f1 ∈ s.1
        · simp only [decide_eq_true hv, if_true]
          rw [hst, if_neg (fun hh => hh hv)] at fin
          exact fin by_ seen ho
        · rw [hst, if_pos hv] at fin
          simp only [decide_eq_false hv, Bool.false_eq_true, if_false]
          have ew : wrap64 (wrap64 (-(i : Int)) - 1) = -(i : Int) - 1 := by rw [w64 (show -9223372036854775808 ≤ -(i : Int) by omega) (by omega), w64 (by omega) (by omega)]
          rw [ew]
          exact fin _ _ (ho.add w1 w2 hv (fun w hw => ⟨(hwm w hw).1, (hwm w hw).2.1⟩) (by unfold sg; simp only [Int.toNat_natCast, hgi]; rw [if_neg c1]))
      · have hst : stepS yes u (ends p) (i : Int) s = s := by
          unfold stepS
          rw [hoth, if_neg (fun e => c1 e.symm), if_neg (fun e => c2 e.symm)]
        simp only [if_neg c2]
        rw [hst] at fin
        exact fin by_ seen ho
theorem order_out (nodes : List Int) (l : List P) (src : Int) (hg : NetG nodes l) : ∀ (d kk : Nat) (s : St) (by_ : List Int) (seen : List Bool), Inv nodes.length yes (E l) src kk s → Ord nodes l s by_ seen → nodes.length + 1 ≤ kk + d →
    EvP (fun k => spec_l07Order.l0 k s.1 by_ seen (kk : Int) nodes l) (fun r => r.1 = (bfs yes (E l) d kk s).1 ∧ ∃ sn, Ord nodes l (bfs yes (E l) d kk s) r.2 sn) := by
  intro d
  induction d with
  | zero =>
    intro kk s by_ seen h ho hd
    have := (nodup_le _ s.1 h.nd h.wi).1
    have := h.kl
    omega
  | succ d ih =>
    intro kk s by_ seen h ho hd
    refine EvP.step (fun k => spec_l07Order.l0.eq_2 _ _ _ _ _ _ k) ?_
    unfold bfs
    by_cases hk : kk < s.1.length
    · simp only [if_pos (show (kk : Int) < (s.1.length : Int) by omega), if_pos hk]
      have hin := scan_inv hg.w (E l) 0 s (s.1.getD kk 0) rfl (by omega) h hk rfl (by intro i' hi'; omega)
      exact order_in nodes l src kk (s.1.getD kk 0) hg _ l 0 s by_ seen rfl (by omega) h ho hk rfl (fun b2 s2 h2 => ih (kk + 1) _ b2 s2 hin.1 h2 (by omega))
    · simp only [if_neg (show ¬ (kk : Int) < (s.1.length : Int) by omega), if_neg hk]
      exact EvP.now ⟨rfl, seen, ho⟩
theorem order_ev (nodes : List Int) (l : List P) (src : Int) (hg : NetG nodes l) (h0 : 0 ≤ src) (h1 : src < (nodes.length : Int)) :
    EvP (fun k => spec_l07Order.f k nodes l src) (fun r => r.1 = (walk nodes l src).1 ∧ r.2.length = nodes.length ∧ ∀ w ∈ (walk nodes l src).2, rd r.2 w.1 = sg l w) := by
  have hn2 := hg.n2
  unfold spec_l07Order.f
  simp only [if_pos (show (0 : Int) ≤ (nodes.length : Int) by omega), Int.toNat_natCast, if_pos (show nodes.length ≤ 35184372088832 by omega), if_pos (show nodes.length ≤ 281474976710656 by omega), Option.bind_some, if_pos h0, List.length_replicate, if_pos h1]
  refine EvP.mono (order_out nodes l src hg (nodes.length + 1) 0 ([src], []) (List.replicate nodes.length 0) ((List.replicate nodes.length false).set src.toNat true) (start_inv h0 h1) ⟨by simp, by simp, ?_, by simp⟩ (by omega)) ?_
  · intro x hx0 hx1
    show ((List.replicate nodes.length false).set src.toNat true).getD x.toNat false = _
    rw [rd_set h0 (by simpa using h1) hx0]
    by_cases hx : x = src
    · rw [if_pos hx]; simp [hx]
    · rw [if_neg hx, List.getD_eq_getElem?_getD, List.getElem?_replicate, decide_eq_false (show ¬ x ∈ [src] by simpa using hx)]
      split <;> rfl
  · rintro r ⟨r1, sn, ho⟩
    exact ⟨r1, ho.bl, ho.bw⟩
end Go.Proofs.Ythnhchpgpnaamaa.PWays
end

section
namespace Go.Proofs.Ythnhchpgpnaamaa.PDivR
open Go.RowKit Go.Proofs.YthnhchpgpnaamaaW.PrintWords Go.Proofs.YthnhchpgpnaamaaW.PrintMore Go.Proofs.Ythnhchpgpnaamaa.XG Go.Proofs.Ythnhchpgpnaamaa.EvK
set_option linter.unusedVariables false
set_option linter.unusedSimpArgs false
def dr (a b : Int) : Int := if 0 ≤ a then (2 * a + b) / (2 * b) else -((b - 2 * a) / (2 * b))
theorem ediv_is {x b k : Int} (hb : 0 < b) (h1 : b * k ≤ x) (h2 : x < b * k + b) : x / b = k := by
  have e : x = (x - b * k) + b * k := by omega
  rw [e, Int.add_mul_ediv_left _ _ (by omega), Int.ediv_eq_zero_of_lt (by omega) (by omega)]
  omega
theorem divRound_eq (a b : Int) (hb : 0 < b) (hb2 : b ≤ 1152921504606846976) (h1 : -2305843009213693951 ≤ a) (h2 : a ≤ 2305843009213693951) : impl_divRound.f a b = some (dr a b) := by
  have two : ∀ x : Int, 2 * b * x = 2 * (b * x) := fun x => Int.mul_assoc 2 b x
  unfold impl_divRound.f dr impl_abs.f
  rw [if_neg (show ¬ b = 0 by omega)]
  simp only [Option.bind_some]
  have eb : mx b (wrap64 (-b)) = b := by rw [w64 (by omega) (by omega)]; unfold mx; rw [if_neg (by omega)]
  rw [eb, decide_eq_false (show ¬ b < 0 by omega)]
  by_cases ha : 0 ≤ a
  · have hq := Int.tdiv_eq_ediv_of_nonneg (b := b) ha
    have hr := Int.tmod_eq_emod_of_nonneg (b := b) ha
    rw [hq, hr, if_pos ha, decide_eq_false (show ¬ a < 0 by omega)]
    have hr0 := Int.emod_nonneg a (show b ≠ 0 by omega)
    have hr1 := Int.emod_lt_of_pos a hb
    have he := Int.mul_ediv_add_emod a b
    have hq0 : 0 ≤ a / b := Int.ediv_nonneg ha (by omega)
    have hqa : a / b ≤ a := Int.ediv_le_self b ha
    generalize a / b = q at *
    generalize a % b = r at *
    have er : mx r (wrap64 (-r)) = r := by rw [w64 (by omega) (by omega)]; unfold mx; rw [if_neg (by omega)]
    rw [er, w64 (show -9223372036854775808 ≤ b - r by omega) (by omega), w64 (show -9223372036854775808 ≤ q by omega) (by omega)]
    by_cases hc : r ≥ b - r
    · rw [if_pos hc, if_pos (by rfl), w64 (by omega) (by omega)]
      congr 1
      have h2_ : b * (q + 1) = b * q + b := by rw [Int.mul_add, Int.mul_one]
      have := two (q + 1)
      rw [h2_] at this
      exact (ediv_is (by omega) (by omega) (by omega)).symm
    · rw [if_neg hc]
      congr 1
      have := two q
      exact (ediv_is (by omega) (by omega) (by omega)).symm
  · obtain ⟨n, hn⟩ : ∃ n, a = -n := ⟨-a, by omega⟩
    subst hn
    have hn0 : 0 ≤ n := by omega
    have hq : Int.tdiv (-n) b = -(n / b) := by rw [Int.neg_tdiv, Int.tdiv_eq_ediv_of_nonneg hn0]
    have hr : Int.tmod (-n) b = -(n % b) := by rw [Int.neg_tmod, Int.tmod_eq_emod_of_nonneg hn0]
    rw [hq, hr, if_neg ha, decide_eq_true (show -n < 0 by omega)]
    have hr0 := Int.emod_nonneg n (show b ≠ 0 by omega)
    have hr1 := Int.emod_lt_of_pos n hb
    have he := Int.mul_ediv_add_emod n b
    have hq0 : 0 ≤ n / b := Int.ediv_nonneg hn0 (by omega)
    have hqa : n / b ≤ n := Int.ediv_le_self b hn0
    generalize n / b = q at *
    generalize n % b = r at *
    have er : mx (-r) (wrap64 (-(-r))) = r := by rw [w64 (by omega) (by omega)]; unfold mx; split <;> omega
    rw [er, w64 (show -9223372036854775808 ≤ b - r by omega) (by omega), w64 (show -9223372036854775808 ≤ -q by omega) (by omega)]
    by_cases hc : r ≥ b - r
    · rw [if_pos hc, if_neg (by decide), w64 (by omega) (by omega)]
      congr 1
      have h2_ : b * (q + 1) = b * q + b := by rw [Int.mul_add, Int.mul_one]
      have := two (q + 1)
      rw [h2_] at this
      rw [ediv_is (k := q + 1) (b := 2 * b) (by omega) (by omega) (by omega)]
      omega
    · rw [if_neg hc]
      congr 1
      have := two q
      rw [ediv_is (k := q) (b := 2 * b) (by omega) (by omega) (by omega)]
theorem div_eq (a b : Int) (hb : 0 < b) (hb2 : b ≤ 1152921504606846976) (h1 : -2305843009213693951 ≤ a) (h2 : a ≤ 2305843009213693951) : spec_l01Div.f a b = some (dr a b) := by
  unfold spec_l01Div.f dr
  rw [if_neg (show ¬ b < 0 by omega)]
  by_cases ha : 0 ≤ a
  · rw [if_neg (show ¬ a < 0 by omega), if_pos ha, w64 (show -9223372036854775808 ≤ 2 * b by omega) (by omega), if_neg (show ¬ 2 * b = 0 by omega), w64 (show -9223372036854775808 ≤ 2 * a by omega) (by omega), w64 (show -9223372036854775808 ≤ 2 * a + b by omega) (by omega), Int.tdiv_eq_ediv_of_nonneg (by omega)]
    have h0 : 0 ≤ (2 * a + b) / (2 * b) := Int.ediv_nonneg (by omega) (by omega)
    have h3 : (2 * a + b) / (2 * b) ≤ 2 * a + b := Int.ediv_le_self _ (by omega)
    rw [w64 (by omega) (by omega)]
  · rw [if_pos (show a < 0 by omega), if_neg ha, w64 (show -9223372036854775808 ≤ 2 * b by omega) (by omega), if_neg (show ¬ 2 * b = 0 by omega), w64 (show -9223372036854775808 ≤ 2 * a by omega) (by omega), w64 (show -9223372036854775808 ≤ b - 2 * a by omega) (by omega), Int.tdiv_eq_ediv_of_nonneg (by omega)]
    have h0 : 0 ≤ (b - 2 * a) / (2 * b) := Int.ediv_nonneg (by omega) (by omega)
    have h3 : (b - 2 * a) / (2 * b) ≤ b - 2 * a := Int.ediv_le_self _ (by omega)
    rw [w64 (show -9223372036854775808 ≤ (b - 2 * a) / (2 * b) by omega) (by omega), w64 (by omega) (by omega)]
end Go.Proofs.Ythnhchpgpnaamaa.PDivR
end

section
namespace Go.Proofs.Ythnhchpgpnaamaa.PDelay
open Go.RowKit Go.Proofs.YthnhchpgpnaamaaW.PrintWords Go.Proofs.YthnhchpgpnaamaaW.PrintMore Go.Proofs.Ythnhchpgpnaamaa.XG Go.Proofs.Ythnhchpgpnaamaa.EvK Go.Proofs.Ythnhchpgpnaamaa.PBasics Go.Proofs.Ythnhchpgpnaamaa.PNet Go.Proofs.Ythnhchpgpnaamaa.PGraph Go.Proofs.Ythnhchpgpnaamaa.PBfs Go.Proofs.Ythnhchpgpnaamaa.PTree Go.Proofs.Ythnhchpgpnaamaa.PWays Go.Proofs.Ythnhchpgpnaamaa.PDivR
set_option linter.unusedVariables false
set_option linter.unusedSimpArgs false
def ab (q : Int) : Int := mx q (wrap64 (-q))
theorem abI_eq (q : Int) : impl_abs.f q = some (ab q) := rfl
theorem ab_is {q : Int} (h : -9223372036854775807 ≤ q) (h' : q ≤ 9223372036854775807) : ab q = (q.natAbs : Int) := by
  unfold ab mx
  rw [w64 (by omega) (by omega)]
  split <;> omega
theorem abS_eq (q : Int) : spec_l03Abs.f q = some (ab q) := by
  unfold spec_l03Abs.f spec_l00Max.f ab mx
  by_cases h : q > wrap64 (-q)
  · simp only [if_pos h, Option.bind_some]
    first | rfl | (split <;> first | rfl | (congr 1; omega))
  · simp only [if_neg h, Option.bind_some]
    first | rfl | (split <;> first | rfl | (congr 1; omega))
theorem ok_b {s : ByteArray} {f t l d q : Int} (h : pipeOkV s f t l d q = true) : (1 ≤ l ∧ l ≤ 10000) ∧ (20 ≤ d ∧ d ≤ 1000) := by
  unfold pipeOkV at h
  simp only [Bool.and_eq_true, inR_iff] at h
  exact ⟨h.2.2.2.2.1, h.2.2.2.2.2.1⟩
def waterOf (l d : Int) : Int := dr (l * d * d * 7854) 10000
theorem water_b {l d : Int} (hl : 1 ≤ l ∧ l ≤ 10000) (hd : 20 ≤ d ∧ d ≤ 1000) : wrap64 ((wrap64 ((wrap64 (l * d)) * d)) * 7854) = l * d * d * 7854 ∧ 0 ≤ l * d * d * 7854 ∧ l * d * d * 7854 ≤ 78540000000000 := by
  have h1 : 0 ≤ l * d := Int.mul_nonneg (by omega) (by omega)
  have h2 : l * d ≤ 10000 * 1000 := Int.mul_le_mul hl.2 hd.2 (by omega) (by omega)
  have h3 : 0 ≤ l * d * d := Int.mul_nonneg h1 (by omega)
  have h4 : l * d * d ≤ 10000 * 1000 * 1000 := Int.mul_le_mul h2 hd.2 (by omega) (by omega)
  refine ⟨?_, by omega, by omega⟩
  rw [w64 (show -9223372036854775808 ≤ l * d by omega) (by omega), w64 (show -9223372036854775808 ≤ l * d * d by omega) (by omega), w64 (by omega) (by omega)]
theorem waterI {l d : Int} (hl : 1 ≤ l ∧ l ≤ 10000) (hd : 20 ≤ d ∧ d ≤ 1000) (s : ByteArray) (f t q : Int) : impl_Pipe_water.f s f t l d q = some (waterOf l d) := by
  obtain ⟨e, h0, h1⟩ := water_b hl hd
  unfold impl_Pipe_water.f
  rw [e, divRound_eq _ _ (by omega) (by omega) (by omega) (by omega)]
  rfl
theorem waterS {l d : Int} (hl : 1 ≤ l ∧ l ≤ 10000) (hd : 20 ≤ d ∧ d ≤ 1000) (s : ByteArray) (f t q : Int) : spec_l03Water.f s f t l d q = some (waterOf l d) := by
  obtain ⟨e, h0, h1⟩ := water_b hl hd
  unfold spec_l03Water.f
  rw [e, div_eq _ _ (by omega) (by omega) (by omega) (by omega)]
  rfl
theorem waterOf_b {l d : Int} (hl : 1 ≤ l ∧ l ≤ 10000) (hd : 20 ≤ d ∧ d ≤ 1000) : 0 ≤ waterOf l d ∧ waterOf l d ≤ 8000000000 := by
  obtain ⟨e, h0, h1⟩ := water_b hl hd
  unfold waterOf dr
  rw [if_pos h0]
  omega
def dly (l d q : Int) : Int := (waterOf l d + q - 1) / q
theorem dly_b {l d q : Int} (hl : 1 ≤ l ∧ l ≤ 10000) (hd : 20 ≤ d ∧ d ≤ 1000) (h0 : 0 < q) (h1 : q ≤ 100000) : 0 ≤ dly l d q ∧ dly l d q ≤ 9000000000 := by
  obtain ⟨w0, w1⟩ := waterOf_b hl hd
  unfold dly
  have hx : 0 ≤ waterOf l d + q - 1 := by omega
  refine ⟨Int.ediv_nonneg hx (by omega), Int.le_trans (Int.ediv_le_self _ hx) (by omega)⟩
theorem delayI {l d q : Int} (hl : 1 ≤ l ∧ l ≤ 10000) (hd : 20 ≤ d ∧ d ≤ 1000) (h0 : 0 < q) (h1 : q ≤ 100000) (s : ByteArray) (f t w : Int) : impl_Pipe_delay.f s f t l d w q = some (dly l d q) := by
  obtain ⟨w0, w1⟩ := waterOf_b hl hd
  obtain ⟨d0, d1⟩ := dly_b hl hd h0 h1
  have ha : ab q = q := by rw [ab_is (by omega) (by omega)]; omega
  have e : Int.tdiv (waterOf l d + q - 1) q = dly l d q := by rw [Int.tdiv_eq_ediv_of_nonneg (by omega)]; rfl
  unfold impl_Pipe_delay.f impl_divUp.f
  rw [waterI hl hd, abI_eq, ha]
  simp only [Option.bind_some, if_neg (show ¬ q = 0 by omega), w64 (show -9223372036854775808 ≤ waterOf l d + q by omega) (by omega), w64 (show -9223372036854775808 ≤ waterOf l d + q - 1 by omega) (by omega), e, w64 (show -9223372036854775808 ≤ dly l d q by omega) (by omega)]
theorem delayS {l d q : Int} (hl : 1 ≤ l ∧ l ≤ 10000) (hd : 20 ≤ d ∧ d ≤ 1000) (h0 : 0 < q) (h1 : q ≤ 100000) (s : ByteArray) (f t w : Int) : spec_l03Delay.f s f t l d w q = some (dly l d q) := by
  obtain ⟨w0, w1⟩ := waterOf_b hl hd
  obtain ⟨d0, d1⟩ := dly_b hl hd h0 h1
  have ha : ab q = q := by rw [ab_is (by omega) (by omega)]; omega
  have e : Int.tdiv (waterOf l d + q - 1) q = dly l d q := by rw [Int.tdiv_eq_ediv_of_nonneg (by omega)]; rfl
  unfold spec_l03Delay.f
  rw [waterS hl hd, abS_eq, ha]
  simp only [Option.bind_some, if_neg (show ¬ q = 0 by omega), w64 (show -9223372036854775808 ≤ waterOf l d + q by omega) (by omega), w64 (show -9223372036854775808 ≤ waterOf l d + q - 1 by omega) (by omega), e, w64 (show -9223372036854775808 ≤ dly l d q by omega) (by omega)]
def alo (l : List P) (fl : List Int) (w : Int × Int × Int) : Int := if (l.getD w.2.2.toNat z59).f1 = w.2.1 then fl.getD w.2.2.toNat 0 else -(fl.getD w.2.2.toNat 0)
structure WayOk (l : List P) (fl : List Int) (w : Int × Int × Int) : Prop where
  i0 : 0 ≤ w.2.2
  il : w.2.2 < (l.length : Int)
  bef : (l.getD w.2.2.toNat z59).f1 = w.2.1 ∧ (l.getD w.2.2.toNat z59).f2 = w.1 ∨ (l.getD w.2.2.toNat z59).f2 = w.2.1 ∧ (l.getD w.2.2.toNat z59).f1 = w.1
  ne : (l.getD w.2.2.toNat z59).f1 ≠ (l.getD w.2.2.toNat z59).f2
  lb : 1 ≤ (l.getD w.2.2.toNat z59).f3 ∧ (l.getD w.2.2.toNat z59).f3 ≤ 10000
  db : 20 ≤ (l.getD w.2.2.toNat z59).f4 ∧ (l.getD w.2.2.toNat z59).f4 ≤ 1000
  fb : -100000 ≤ fl.getD w.2.2.toNat 0 ∧ fl.getD w.2.2.toNat 0 ≤ 100000
structure Fl (l : List P) (fl : List Int) : Prop where
  len : fl.length = l.length
  b : ∀ x ∈ fl, -100000 ≤ x ∧ x ≤ 100000
theorem fl_of {l : List P} {fl : List Int} (h : flowsOk l fl = true) : Fl l fl := by
  unfold flowsOk elevB at h
  simp only [Bool.and_eq_true, decide_eq_true_eq, List.all_eq_true, inR_iff] at h
  exact ⟨h.1, h.2⟩
theorem way_ok {nodes : List Int} {l : List P} (hg : NetG nodes l) {fl : List Int} (hf : Fl l fl) {src : Int} {k : Nat} {s : St} (h : Inv nodes.length yes (E l) src k s) {j : Nat} {w : Int × Int × Int} (hw : s.2[j]? = some w) : WayOk l fl w := by
  obtain ⟨_, i, e, m, g2, g3, _, g5, _, _⟩ := h.wy j w hw
  obtain ⟨p, hp, rfl⟩ := at_E g3
  have hpm := List.mem_of_getElem? hp
  have hil := (List.getElem?_eq_some_iff.1 hp).1
  have hgi : l.getD w.2.2.toNat z59 = p := by rw [g2, Int.toNat_natCast, List.getD_eq_getElem?_getD, hp]; rfl
  obtain ⟨o1, o2⟩ := ok_b (hg.ok p hpm)
  have hif : i < fl.length := by rw [hf.len]; exact hil
  have hfb := hf.b (fl[i]) (List.getElem_mem hif)
  have hfi : fl.getD w.2.2.toNat 0 = fl[i] := by rw [g2, Int.toNat_natCast, List.getD_eq_getElem?_getD, List.getElem?_eq_getElem hif]; rfl
  refine ⟨by omega, by omega, ?_, by rw [hgi]; exact hg.ne p hpm, by rw [hgi]; exact o1, by rw [hgi]; exact o2, by rw [hfi]; exact hfb⟩
  rw [hgi]
  unfold other ends at g5
  split at g5
  · rename_i hu
    exact .inl ⟨hu.symm, Option.some.inj g5⟩
  · split at g5
    · rename_i hu
      exact .inr ⟨hu.symm, Option.some.inj g5⟩
    · cases g5
theorem rdPg (l : List P) (i : Int) : rd_T59 l i = l.getD i.toNat z59 := rfl
theorem rdI (l : List Int) (i : Int) : rd l i = l.getD i.toNat 0 := rfl
theorem alongI {l : List P} {fl : List Int} {w : Int × Int × Int} (nodes : List Int) (h : WayOk l fl w) (hl : fl.length = l.length) : impl_way_along.f w.1 w.2.1 w.2.2 nodes l fl = some (alo l fl w) := by
  have h0 := h.i0
  have h1 := h.il
  have hb := h.fb
  unfold impl_way_along.f alo
  simp only [if_pos h0, if_pos h1, if_pos (show w.2.2 < (fl.length : Int) by omega), rdPg, rdI]
  rcases h.bef with ⟨e1, e2⟩ | ⟨e1, e2⟩
  · rw [if_pos e2, if_pos e1]
  · rw [if_neg (fun e => h.ne (e2.trans e.symm)), if_neg (fun e => h.ne (e.trans e1.symm)), w64 (by omega) (by omega)]
theorem alongS {l : List P} {fl : List Int} {w : Int × Int × Int} (h : WayOk l fl w) (hl : fl.length = l.length) (hll : l.length ≤ 20) : spec_l07Along.f fl (sg l w) = some (alo l fl w) := by
  have h0 := h.i0
  have h1 := h.il
  have hb := h.fb
  unfold spec_l07Along.f alo sg
  by_cases e1 : (l.getD w.2.2.toNat z59).f1 = w.2.1
  · have ew : wrap64 (w.2.2 + 1 - 1) = w.2.2 := by rw [w64 (by omega) (by omega)]; omega
    rw [if_pos e1, if_pos e1, ew]
    simp only [if_pos (show w.2.2 + 1 > 0 by omega), if_pos h0, if_pos (show w.2.2 < (fl.length : Int) by omega), rdI]
  · have ew : wrap64 (wrap64 (-(-w.2.2 - 1)) - 1) = w.2.2 := by rw [w64 (show -9223372036854775808 ≤ -(-w.2.2 - 1) by omega) (by omega), w64 (by omega) (by omega)]; omega
    rw [if_neg e1, if_neg e1, ew]
    simp only [if_neg (show ¬ -w.2.2 - 1 > 0 by omega), if_pos h0, if_pos (show w.2.2 < (fl.length : Int) by omega), rdI, w64 (show -9223372036854775808 ≤ -(fl.getD w.2.2.toNat 0) by omega) (by omega)]
theorem pipeS {l : List P} {fl : List Int} {w : Int × Int × Int} (h : WayOk l fl w) (hll : l.length ≤ 20) : spec_l07Pipe.f l (sg l w) = some w.2.2 := by
  have h0 := h.i0
  have h1 := h.il
  unfold spec_l07Pipe.f sg
  have key : ∀ x : Int, x = w.2.2 + 1 ∨ x = -w.2.2 - 1 → ab x = w.2.2 + 1 := by
    rintro x (rfl | rfl) <;> rw [ab_is (by omega) (by omega)] <;> omega
  have ew : wrap64 (w.2.2 + 1 - 1) = w.2.2 := by rw [w64 (by omega) (by omega)]; omega
  rw [abS_eq]
  by_cases e1 : (l.getD w.2.2.toNat z59).f1 = w.2.1
  · rw [if_pos e1, key _ (.inl rfl)]
    simp only [Option.bind_some, ew, if_pos h0, if_pos h1]
  · rw [if_neg e1, key _ (.inr rfl)]
    simp only [Option.bind_some, ew, if_pos h0, if_pos h1]
theorem beforeS {l : List P} {fl : List Int} {w : Int × Int × Int} (nodes : List Int) (h : WayOk l fl w) (hll : l.length ≤ 20) : spec_l07Before.f nodes l (sg l w) = some w.2.1 := by
  have h0 := h.i0
  have h1 := h.il
  unfold spec_l07Before.f sg
  rcases h.bef with ⟨e1, e2⟩ | ⟨e1, e2⟩
  · have ew : wrap64 (w.2.2 + 1 - 1) = w.2.2 := by rw [w64 (by omega) (by omega)]; omega
    rw [if_pos e1, ew]
    simp only [if_pos (show w.2.2 + 1 > 0 by omega), if_pos h0, if_pos h1, rdPg, e1]
  · have en : ¬ (l.getD w.2.2.toNat z59).f1 = w.2.1 := fun e => h.ne (e.trans e1.symm)
    have ew : wrap64 (wrap64 (-(-w.2.2 - 1)) - 1) = w.2.2 := by rw [w64 (show -9223372036854775808 ≤ -(-w.2.2 - 1) by omega) (by omega), w64 (by omega) (by omega)]; omega
    rw [if_neg en, ew]
    simp only [if_neg (show ¬ -w.2.2 - 1 > 0 by omega), if_pos h0, if_pos h1, rdPg, e1]
def put (l : List P) (fl : List Int) (d : List Int) (w : Int × Int × Int) : List Int := d.set w.1.toNat (if alo l fl w ≤ 0 ∨ d.getD w.2.1.toNat 0 < 0 then -1 else d.getD w.2.1.toNat 0 + dly (l.getD w.2.2.toNat z59).f3 (l.getD w.2.2.toNat z59).f4 (alo l fl w))
theorem put_len (l : List P) (fl : List Int) (d : List Int) (w : Int × Int × Int) : (put l fl d w).length = d.length := by simp [put]
def dels (l : List P) (fl : List Int) (n : Nat) (ws : List (Int × Int × Int)) : List Int := ws.foldl (put l fl) (List.replicate n 0)
theorem dels_snoc (l : List P) (fl : List Int) (n : Nat) (ws : List (Int × Int × Int)) (w : Int × Int × Int) : dels l fl n (ws ++ [w]) = put l fl (dels l fl n ws) w := by simp [dels]
theorem dels_len (l : List P) (fl : List Int) (n : Nat) (ws : List (Int × Int × Int)) : (dels l fl n ws).length = n := by
  unfold dels
  have key : ∀ (ws : List (Int × Int × Int)) (d : List Int), (ws.foldl (put l fl) d).length = d.length := by
    intro ws
    induction ws with
    | nil => intro d; rfl
    | cons w ws ih => intro d; rw [List.foldl_cons, ih, put_len]
  rw [key]
  simp
theorem alo_b {l : List P} {fl : List Int} {w : Int × Int × Int} (h : WayOk l fl w) : -100000 ≤ alo l fl w ∧ alo l fl w ≤ 100000 := by
  have := h.fb
  unfold alo
  split <;> omega
structure DelB (n : Nat) (ws : List (Int × Int × Int)) (d : List Int) : Prop where
  lo : ∀ x : Int, -1 ≤ d.getD x.toNat 0
  hi : ∀ x : Int, d.getD x.toNat 0 ≤ 9000000000 * (ws.length : Int)
theorem getD_set {L : List Int} {a b : Nat} {v : Int} : (L.set a v).getD b 0 = if b = a ∧ a < L.length then v else L.getD b 0 := by
  simp only [List.getD_eq_getElem?_getD, List.getElem?_set]
  by_cases h : a = b
  · subst h
    by_cases hl : a < L.length
    · simp [hl]
    · simp [hl]
  · rw [if_neg h, if_neg (fun e => h e.1.symm)]
theorem dels_b {nodes : List Int} {l : List P} (hg : NetG nodes l) {fl : List Int} (hf : Fl l fl) {src : Int} {k : Nat} {s : St} (h : Inv nodes.length yes (E l) src k s) : ∀ j, j ≤ s.2.length → DelB nodes.length (s.2.take j) (dels l fl nodes.length (s.2.take j)) := by
  intro j
  induction j with
  | zero =>
    intro _
    rw [List.take_zero]
    have e : ∀ x : Int, (dels l fl nodes.length []).getD x.toNat 0 = 0 := by
      intro x
      show (List.replicate nodes.length (0 : Int)).getD x.toNat 0 = 0
      rw [List.getD_eq_getElem?_getD, List.getElem?_replicate]
      split <;> rfl
    exact ⟨fun x => by rw [e]; omega, fun x => by rw [e]; simp⟩
  | succ j ih =>
    intro hj
    have hw : s.2[j]? = some s.2[j] := List.getElem?_eq_getElem (by omega)
    have hok := way_ok hg hf h hw
    obtain ⟨i1, i2⟩ := ih (by omega)
    rw [List.take_succ_eq_append_getElem (by omega), dels_snoc]
    have hab := alo_b hok
    refine ⟨fun x => ?_, fun x => ?_⟩
    · unfold put
      rw [getD_set]
      split
      · split
        · omega
        · rename_i hc
          have := dly_b hok.lb hok.db (q := alo l fl s.2[j]) (by omega) (by omega)
          omega
      · exact i1 x
    · unfold put
      rw [getD_set, List.length_append, List.length_singleton]
      have := i2 x
      split
      · split
        · omega
        · rename_i hc
          have h1 := dly_b hok.lb hok.db (q := alo l fl s.2[j]) (by omega) (by omega)
          have h2 := i2 s.2[j].2.1
          omega
      · omega
theorem rdW (l : List Wy) (i : Nat) (h : i < l.length) : rd_T56 l (i : Int) = l[i] := getD_at l z56 i h
def ansD (d : Int) : Int × Int := if d < 0 then (0, 3) else (d, 0)
theorem implLoop {nodes : List Int} {l : List P} (hg : NetG nodes l) {fl : List Int} (hf : Fl l fl) {src node : Int} (hn0 : 0 ≤ node) (hn1 : node < (nodes.length : Int)) {s : St} (h : Inv nodes.length yes (E l) src s.1.length s) :
    Ev (fun k => impl_DelayTo.l0 k fl node (List.replicate nodes.length 0) (s.2.map toW) ((s.2.map toW).length : Int) 0 nodes l) (ansD ((dels l fl nodes.length s.2).getD node.toNat 0)) := by
  have hn2 := hg.n2
  have hll := hg.l2
  have hsl := (nodup_le _ s.1 h.nd h.wi).1
  have hwl := h.wl
  apply EvP.eq
  rw [List.length_map]
  refine for_evp (L := fun k (d : List Int) i => impl_DelayTo.l0 k fl node d (s.2.map toW) (s.2.length : Int) i nodes l) s.2.length (fun i d => d = dels l fl nodes.length (s.2.take i)) ?_ ?_ (List.replicate nodes.length 0) rfl
  · rintro i d hi rfl K
    have hw : s.2[i]? = some s.2[i] := List.getElem?_eq_getElem hi
    have hok := way_ok hg hf h hw
    obtain ⟨b1, b2⟩ := dels_b hg hf h i (by omega)
    have hdl := dels_len l fl nodes.length (s.2.take i)
    obtain ⟨wm, w0, w1⟩ := way_mem h s.2[i] (List.getElem_mem hi)
    have hbm : s.2[i].2.1 ∈ s.1 := by
      obtain ⟨_, _, _, m, _, _, _, _, g6, g7⟩ := h.wy i _ hw
      rw [← g7]
      exact getD_mem' (by omega)
    obtain ⟨u0, u1⟩ := h.wi _ hbm
    have hd := K (put l fl (dels l fl nodes.length (s.2.take i)) s.2[i]) (by rw [List.take_succ_eq_append_getElem hi, dels_snoc])
    have hrd : rd_T56 (s.2.map toW) (i : Int) = toW s.2[i] := by rw [rdW _ i (by simpa using hi)]; simp
    have h0 := hok.i0
    have h1 := hok.il
    refine EvP.step (fun k => impl_DelayTo.l0.eq_2 _ _ _ _ _ _ _ _ k) ?_
    simp only [if_pos (show (i : Int) < (s.2.length : Int) by omega), if_pos (show (0 : Int) ≤ (i : Int) by omega), List.length_map, hrd, toW, alongI nodes hok hf.len, Option.bind_some, hdl, if_pos w0, if_pos w1, if_pos u0, if_pos u1, rdI, if_pos h0, if_pos h1, rdPg, w64 (show -9223372036854775808 ≤ (i : Int) + 1 by omega) (by omega)]
    unfold put at hd
    by_cases c1 : alo l fl s.2[i] ≤ 0
    · simp only [if_pos c1]
      rw [if_pos (.inl c1)] at hd
      exact hd
    · simp only [if_neg c1]
      by_cases c2 : (dels l fl nodes.length (s.2.take i)).getD s.2[i].2.1.toNat 0 < 0
      · simp only [if_pos c2]
        rw [if_pos (.inr c2)] at hd
        exact hd
      · have hab := alo_b hok
        have hdb := dly_b hok.lb hok.db (q := alo l fl s.2[i]) (by omega) (by omega)
        have hb2 := b2 s.2[i].2.1
        rw [List.length_take] at hb2
        simp only [if_neg c2, delayI hok.lb hok.db (show 0 < alo l fl s.2[i] by omega) (by omega), Option.bind_some]
        rw [if_neg (by omega)] at hd
        rw [w64 (by omega) (by omega)]
        exact hd
  · rintro d rfl
    rw [List.take_length]
    have hdl := dels_len l fl nodes.length s.2
    refine EvP.step (fun k => impl_DelayTo.l0.eq_2 _ _ _ _ _ _ _ _ k) ?_
    simp only [if_neg (show ¬ (s.2.length : Int) < (s.2.length : Int) by omega), if_pos hn0, hdl, if_pos hn1, impl_orNotFound.f]
    rw [show (dels l fl nodes.length s.2).getD node.toNat 0 = rd (dels l fl nodes.length s.2) node from rfl]
    generalize rd (dels l fl nodes.length s.2) node = x
    unfold ansD
    by_cases c : x < 0
    · rw [if_pos c]
      simp only [decide_eq_false (show ¬ x ≥ 0 by omega), Bool.false_eq_true, if_false, Option.bind_some]
      exact EvP.now rfl
    · rw [if_neg c]
      simp only [decide_eq_true (show x ≥ 0 by omega), if_true, Option.bind_some]
      exact EvP.now rfl
theorem specLoop {nodes : List Int} {l : List P} (hg : NetG nodes l) {fl : List Int} (hf : Fl l fl) {src : Int} {s : St} (h : Inv nodes.length yes (E l) src s.1.length s) {by_ : List Int} (hbl : by_.length = nodes.length) (hbw : ∀ w ∈ s.2, rd by_ w.1 = sg l w) :
    ∀ (j : Nat) (sum : Int), j < s.1.length → 0 ≤ sum → sum + 9000000000 * (j : Int) ≤ 4611686018427387904 → ∃ D : Int, D = (dels l fl nodes.length s.2).getD (s.1.getD j 0).toNat 0 ∧ D ≤ 9000000000 * (j : Int) ∧
      Ev (fun k => spec_DelayTo.l0 k fl src by_ nodes l sum (s.1.getD j 0)) (if D < 0 then (0, 3) else (sum + D, 0)) := by
  have hn2 := hg.n2
  have hll := hg.l2
  have hsl := (nodup_le _ s.1 h.nd h.wi).1
  have hwl := h.wl
  have later : ∀ (m a : Nat), a + m ≤ s.2.length → ∀ x : Int, 0 ≤ x → (∀ i, a ≤ i → i < a + m → s.1.getD (i + 1) 0 ≠ x) → (dels l fl nodes.length (s.2.take (a + m))).getD x.toNat 0 = (dels l fl nodes.length (s.2.take a)).getD x.toNat 0 := by
    intro m
    induction m with
    | zero => intro a _ x _ _; rfl
    | succ m ih =>
      intro a ha x hx hne
      have hi : a + m < s.2.length := by omega
      obtain ⟨g1, _⟩ := h.wy (a + m) s.2[a + m] (List.getElem?_eq_getElem hi)
      obtain ⟨_, w0, _⟩ := way_mem h s.2[a + m] (List.getElem_mem hi)
      have hn := hne (a + m) (by omega) (by omega)
      rw [show a + (m + 1) = a + m + 1 by omega, List.take_succ_eq_append_getElem hi, dels_snoc]
      unfold put
      rw [getD_set, if_neg (by rintro ⟨e, _⟩; rw [← g1] at hn; omega)]
      exact ih a (by omega) x hx (fun i h1 h2 => hne i h1 (by omega))
  have inj : ∀ a b, a < s.1.length → b < s.1.length → s.1.getD a 0 = s.1.getD b 0 → a = b := by
    intro a b ha hb he
    rw [List.getD_eq_getElem?_getD, List.getD_eq_getElem?_getD, List.getElem?_eq_getElem ha, List.getElem?_eq_getElem hb] at he
    have he' : s.1[a] = s.1[b] := he
    have hp := List.pairwise_iff_getElem.1 h.nd
    rcases Nat.lt_trichotomy a b with hab | hab | hab
    · exact absurd he' (hp a b ha hb hab)
    · exact hab
    · exact absurd he'.symm (hp b a hb ha hab)
  intro j
  induction j using Nat.strongRecOn with
  | ind j ih =>
    intro sum hj hs0 hsb
    obtain ⟨x0, x1⟩ := h.wi _ (getD_mem' hj)
    by_cases hj0 : j = 0
    · subst hj0
      refine ⟨0, ?_, by omega, ?_⟩
      · have := later s.2.length 0 (by omega) (s.1.getD 0 0) x0 (fun i _ hi he => by have := inj _ _ (by omega) hj he; omega)
        rw [Nat.zero_add, List.take_length] at this
        rw [this, List.take_zero]
        show _ = (List.replicate nodes.length (0 : Int)).getD (s.1.getD 0 0).toNat 0
        rw [List.getD_eq_getElem?_getD, List.getElem?_replicate]
        split <;> rfl
      · refine Ev.step (fun k => spec_DelayTo.l0.eq_2 _ _ _ _ _ _ _ k) ?_
        simp only [if_pos h.hd, if_neg (show ¬ (0 : Int) < 0 by omega), Int.add_zero]
        exact Ev.now _
    · obtain ⟨i, rfl⟩ : ∃ i, j = i + 1 := ⟨j - 1, by omega⟩
      have hi : i < s.2.length := by omega
      have hw : s.2[i]? = some s.2[i] := List.getElem?_eq_getElem hi
      have hok := way_ok hg hf h hw
      obtain ⟨g1, i', e', m, g2, g3, g4, g5, g6, g7⟩ := h.wy i _ hw
      have hab := alo_b hok
      have hsrc : ¬ s.1.getD (i + 1) 0 = src := by
        intro e
        rw [← h.hd] at e
        have := inj _ _ hj (by omega) e
        omega
      have hby := hbw s.2[i] (List.getElem_mem hi)
      have hDs := later (s.2.length - (i + 1)) (i + 1) (by omega) (s.1.getD (i + 1) 0) x0 (fun a h1 h2 he => by have := inj _ _ (by omega) hj he; omega)
      rw [show i + 1 + (s.2.length - (i + 1)) = s.2.length by omega, List.take_length, List.take_succ_eq_append_getElem hi, dels_snoc] at hDs
      unfold put at hDs
      rw [g1, getD_set, if_pos ⟨rfl, by rw [dels_len]; omega⟩] at hDs
      have hbef : (dels l fl nodes.length (s.2.take i)).getD s.2[i].2.1.toNat 0 = (dels l fl nodes.length s.2).getD (s.1.getD m 0).toNat 0 := by
        obtain ⟨m0, m1⟩ := h.wi _ (getD_mem' (show m < s.1.length by omega))
        have := later (s.2.length - i) i (by omega) (s.1.getD m 0) m0 (fun a h1 h2 he => by have := inj _ _ (by omega) (by omega) he; omega)
        rw [show i + (s.2.length - i) = s.2.length by omega, List.take_length] at this
        rw [this, g7]
      rw [hbef] at hDs
      have step : ∀ r, Ev (fun k => (spec_l07Along.f fl (rd by_ (s.1.getD (i + 1) 0))).bind fun q => if q ≤ 0 then some (0, 3) else ((spec_l07Pipe.f l (rd by_ (s.1.getD (i + 1) 0))).bind fun i_ => ((spec_l03Delay.f ((rd_T59 l i_).f0) ((rd_T59 l i_).f1) ((rd_T59 l i_).f2) ((rd_T59 l i_).f3) ((rd_T59 l i_).f4) ((rd_T59 l i_).f5) q).bind fun d => ((spec_l07Before.f nodes l (rd by_ (s.1.getD (i + 1) 0))).bind fun b => spec_DelayTo.l0 k fl src by_ nodes l (wrap64 (sum + d)) b)))) r → Ev (fun k => spec_DelayTo.l0 k fl src by_ nodes l sum (s.1.getD (i + 1) 0)) r := by
        intro r hr
        refine Ev.step (fun k => spec_DelayTo.l0.eq_2 _ _ _ _ _ _ _ k) ?_
        simp only [if_neg hsrc, if_pos x0, if_pos (show s.1.getD (i + 1) 0 < (by_.length : Int) by omega)]
        exact hr
      rw [← g1, hby] at step
      by_cases c1 : alo l fl s.2[i] ≤ 0
      · rw [if_pos (.inl c1)] at hDs
        refine ⟨-1, hDs.symm, by omega, ?_⟩
        rw [← g1]
        refine step _ ?_
        simp only [alongS hok hf.len hll, Option.bind_some, if_pos c1, if_pos (show (-1 : Int) < 0 by omega)]
        exact Ev.now _
      · have hdb := dly_b hok.lb hok.db (q := alo l fl s.2[i]) (by omega) (by omega)
        obtain ⟨D, hD, hDb, hEv⟩ := ih m (by omega) (sum + dly (l.getD s.2[i].2.2.toNat z59).f3 (l.getD s.2[i].2.2.toNat z59).f4 (alo l fl s.2[i])) (by omega) (by omega) (by omega)
        rw [← hD] at hDs
        rw [g7] at hEv
        have hgo : ∀ r, Ev (fun k => spec_DelayTo.l0 k fl src by_ nodes l (sum + dly (l.getD s.2[i].2.2.toNat z59).f3 (l.getD s.2[i].2.2.toNat z59).f4 (alo l fl s.2[i])) s.2[i].2.1) r → Ev (fun k => spec_DelayTo.l0 k fl src by_ nodes l sum s.2[i].1) r := by
          intro r hr
          refine step _ ?_
          simp only [alongS hok hf.len hll, Option.bind_some, if_neg c1, pipeS hok hll, rdPg, delayS hok.lb hok.db (show 0 < alo l fl s.2[i] by omega) (by omega), beforeS nodes hok hll]
          rw [w64 (by omega) (by omega)]
          exact hr
        by_cases c2 : D < 0
        · rw [if_pos (.inr c2)] at hDs
          refine ⟨-1, hDs.symm, by omega, ?_⟩
          rw [if_pos c2] at hEv
          rw [← g1, if_pos (show (-1 : Int) < 0 by omega)]
          exact hgo _ hEv
        · rw [if_neg (by omega)] at hDs
          refine ⟨_, hDs.symm, by omega, ?_⟩
          rw [if_neg c2] at hEv
          rw [← g1, if_neg (by omega)]
          have := hgo _ hEv
          rw [show sum + dly (l.getD s.2[i].2.2.toNat z59).f3 (l.getD s.2[i].2.2.toNat z59).f4 (alo l fl s.2[i]) + D = sum + (D + dly (l.getD s.2[i].2.2.toNat z59).f3 (l.getD s.2[i].2.2.toNat z59).f4 (alo l fl s.2[i])) by omega] at this
          exact this
end Go.Proofs.Ythnhchpgpnaamaa.PDelay
end

section
namespace Go.Proofs.Ythnhchpgpnaamaa.PDelay2
open Go.RowKit Go.Proofs.YthnhchpgpnaamaaW.PrintWords Go.Proofs.YthnhchpgpnaamaaW.PrintMore Go.Proofs.Ythnhchpgpnaamaa.XG Go.Proofs.Ythnhchpgpnaamaa.EvK Go.Proofs.Ythnhchpgpnaamaa.PBasics Go.Proofs.Ythnhchpgpnaamaa.PNet Go.Proofs.Ythnhchpgpnaamaa.PGraph Go.Proofs.Ythnhchpgpnaamaa.PBfs Go.Proofs.Ythnhchpgpnaamaa.PTree Go.Proofs.Ythnhchpgpnaamaa.PWays Go.Proofs.Ythnhchpgpnaamaa.PDelay
set_option linter.unusedVariables false
set_option linter.unusedSimpArgs false
def isN (nodes : List Int) (a : Int) : Bool := inR a 0 ((nodes.length : Int) - 1)
def gCode (nodes : List Int) (l : List P) (src : Int) (fl : List Int) : Int := if isN nodes src = true then (if flowsOk l fl = true then (if treeB nodes l = true then 0 else 6) else 7) else 2
theorem press0 : impl_pressureOk.f 0 = some true := by unfold impl_pressureOk.f; rw [within_eq]; rfl
theorem press0S : spec_l03Press.f 0 = some true := by unfold spec_l03Press.f; rw [in_eq]; rfl
theorem nodeS_eq (nodes : List Int) (l : List P) (a : Int) (hn : nodes.length ≤ 1048576) : spec_l04Node.f nodes l a = some (isN nodes a) := by
  unfold spec_l04Node.f isN
  rw [in_eq, w64 (by omega) (by omega)]
  rfl
theorem codeI (nodes : List Int) (l : List P) (src : Int) (fl : List Int) (hn : nodes.length ≤ 1048576) (hl : l.length ≤ 1048576) (hs : SmallN l) (h : netOk nodes l = true) : Ev (fun k => impl_flowsCode.f k nodes l src fl 0) (gCode nodes l src fl) := by
  have hg := netG h
  unfold impl_flowsCode.f
  refine Ev.bind (?_ : Ev _ (gCode nodes l src fl)) (Ev.now _)
  unfold impl_treeCode.f
  refine Ev.bind (implNet_ev nodes l hn hl hs) ?_
  simp only [h, if_true, hasNode_eq nodes l src hn, Option.bind_some]
  unfold gCode isN
  cases inR src 0 ((nodes.length : Int) - 1) with
  | false =>
    simp only [Bool.false_eq_true, if_false]
    refine Ev.step (fun k => impl_treeCode.j0.eq_2 _ _ _ _ _ _ k) ?_
    simp only [if_true]
    exact Ev.now _
  | true =>
    simp only [if_true, press0, Option.bind_some, Bool.not_true]
    refine Ev.step (fun k => impl_treeCode.j0.eq_2 _ _ _ _ _ _ k) ?_
    simp only [Bool.false_eq_true, if_false]
    refine Ev.step (fun k => impl_treeCode.j1.eq_2 _ _ _ _ _ k) ?_
    simp only [Bool.false_eq_true, if_false, implFlows_eq, Option.bind_some]
    refine Ev.step (fun k => impl_treeCode.j2.eq_2 _ _ _ k) ?_
    cases flowsOk l fl with
    | false => simp only [Bool.not_false, if_true, Bool.false_eq_true, if_false]; exact Ev.now _
    | true =>
      simp only [Bool.not_true, Bool.false_eq_true, if_false, if_true]
      refine Ev.bind (treeI nodes l hg) ?_
      cases treeB nodes l with
      | false => simp only [Bool.false_eq_true, if_false]; exact Ev.now _
      | true => simp only [if_true]; exact Ev.now _
theorem askS (nodes : List Int) (l : List P) (src : Int) (hn : nodes.length ≤ 1048576) (hl : l.length ≤ 1048576) (hs : SmallN l) : Ev (fun k => spec_l07Ask.f k nodes l src) (if netOk nodes l = true then (if isN nodes src = true then 0 else 2) else 1) := by
  unfold spec_l07Ask.f
  refine Ev.bind (specNet_ev nodes l hn hl hs) ?_
  cases netOk nodes l with
  | false => simp only [Bool.false_eq_true, if_false]; exact Ev.now _
  | true =>
    simp only [if_true, nodeS_eq nodes l src hn, Option.bind_some]
    cases isN nodes src with
    | false => simp only [Bool.false_eq_true, if_false]; exact Ev.now _
    | true => simp only [if_true]; exact Ev.now _
theorem givenS (nodes : List Int) (l : List P) (src : Int) (fl : List Int) (hn : nodes.length ≤ 1048576) (hl : l.length ≤ 1048576) (hfl : fl.length ≤ 1048576) (hs : SmallN l) (h : netOk nodes l = true) : Ev (fun k => spec_l07Given.f k nodes l src 0 fl) (gCode nodes l src fl) := by
  have hg := netG h
  have ha := askS nodes l src hn hl hs
  rw [if_pos h] at ha
  unfold spec_l07Given.f gCode
  refine Ev.bind ha ?_
  cases isN nodes src with
  | false => simp only [Bool.false_eq_true, if_false, if_neg (show ¬ (2 : Int) = 0 by omega)]; exact Ev.now _
  | true =>
    simp only [if_true, press0S, Option.bind_some]
    refine Ev.bind (specFlows7_ev nodes l fl hfl) ?_
    cases flowsOk l fl with
    | false => simp only [Bool.false_eq_true, if_false]; exact Ev.now _
    | true =>
      simp only [if_true]
      refine Ev.bind (treeS nodes l hg) ?_
      cases treeB nodes l with
      | false => simp only [Bool.false_eq_true, if_false]; exact Ev.now _
      | true => simp only [if_true]; exact Ev.now _
theorem isN_iff {nodes : List Int} {a : Int} : isN nodes a = true ↔ 0 ≤ a ∧ a < (nodes.length : Int) := by
  unfold isN
  rw [inR_iff]
  omega
theorem reach_all {nodes : List Int} {l : List P} (hg : NetG nodes l) (ht : treeB nodes l = true) {src : Int} (h0 : 0 ≤ src) (h1 : src < (nodes.length : Int)) {v : Int} (v0 : 0 ≤ v) (v1 : v < (nodes.length : Int)) : v ∈ (walk nodes l src).1 := by
  unfold treeB at ht
  simp only [Bool.and_eq_true, decide_eq_true_eq] at ht
  have hall := (tree_iff nodes.length hg.n1 (E l) hg.w).1 (by rw [ht.2]; omega)
  exact (walk_inv hg h0 h1).all (conn_yes.2 ((hall src h0 h1).symm.trans (hall v v0 v1)))
theorem gCode_iff {nodes : List Int} {l : List P} {src : Int} {fl : List Int} : gCode nodes l src fl = 0 → isN nodes src = true ∧ flowsOk l fl = true ∧ treeB nodes l = true := by
  unfold gCode
  intro h
  by_cases a : isN nodes src = true
  · rw [if_pos a] at h
    by_cases b : flowsOk l fl = true
    · rw [if_pos b] at h
      by_cases c : treeB nodes l = true
      · exact ⟨a, b, c⟩
      · rw [if_neg c] at h; omega
    · rw [if_neg b] at h; omega
  · rw [if_neg a] at h; omega
def ans (nodes : List Int) (l : List P) (src : Int) (fl : List Int) (node : Int) : Int × Int :=
  if netOk nodes l = true then (if isN nodes node = true then (if gCode nodes l src fl = 0 then ansD ((dels l fl nodes.length (walk nodes l src).2).getD node.toNat 0) else (0, gCode nodes l src fl)) else (0, 2)) else (0, 1)
theorem impl_ev (nodes : List Int) (l : List P) (src : Int) (fl : List Int) (node : Int) (hn : nodes.length ≤ 1048576) (hl : l.length ≤ 1048576) (hs : SmallN l) : Ev (fun k => impl_DelayTo.f k nodes l src fl node) (ans nodes l src fl node) := by
  unfold impl_DelayTo.f ans
  refine Ev.bind (implNet_ev nodes l hn hl hs) ?_
  cases h : netOk nodes l with
  | false => simp only [Bool.false_eq_true, if_false]; exact Ev.now _
  | true =>
    have hg := netG h
    have hn2 := hg.n2
    simp only [if_true, hasNode_eq nodes l node hn, Option.bind_some]
    rw [show inR node 0 ((nodes.length : Int) - 1) = isN nodes node from rfl]
    cases hi : isN nodes node with
    | false => simp only [Bool.false_eq_true, if_false]; exact Ev.now _
    | true =>
      obtain ⟨n0, n1⟩ := isN_iff.1 hi
      simp only [if_true]
      refine Ev.bind (codeI nodes l src fl hn hl hs h) ?_
      by_cases hc : gCode nodes l src fl = 0
      · obtain ⟨c1, c2, c3⟩ := gCode_iff hc
        obtain ⟨s0, s1⟩ := isN_iff.1 c1
        simp only [if_pos hc, if_pos (show (0 : Int) ≤ (nodes.length : Int) by omega), Int.toNat_natCast, if_pos (show nodes.length ≤ 35184372088832 by omega)]
        refine Ev.bind (ways_ev nodes l src hg s0 s1) ?_
        exact implLoop hg (fl_of c2) n0 n1 (walk_inv hg s0 s1)
      · simp only [if_neg hc]
        exact Ev.now _
theorem spec_ev (nodes : List Int) (l : List P) (src : Int) (fl : List Int) (node : Int) (hn : nodes.length ≤ 1048576) (hl : l.length ≤ 1048576) (hfl : fl.length ≤ 1048576) (hs : SmallN l) : Ev (fun k => spec_DelayTo.f k nodes l src fl node) (ans nodes l src fl node) := by
  unfold spec_DelayTo.f ans
  refine Ev.bind (askS nodes l src hn hl hs) ?_
  cases h : netOk nodes l with
  | false => simp only [Bool.false_eq_true, if_false, if_neg (show ¬ (1 : Int) = 0 by omega)]; exact Ev.now _
  | true =>
    have hg := netG h
    have hn2 := hg.n2
    simp only [if_true]
    cases c1 : isN nodes src with
    | false =>
      have hc : gCode nodes l src fl = 2 := by unfold gCode; rw [c1]; rfl
      simp only [Bool.false_eq_true, if_false, if_neg (show ¬ (2 : Int) = 0 by omega), hc]
      rw [show (if isN nodes node = true then ((0 : Int), (2 : Int)) else (0, 2)) = (0, 2) by split <;> rfl]
      exact Ev.now _
    | true =>
      simp only [if_true, nodeS_eq nodes l node hn, Option.bind_some]
      cases hi : isN nodes node with
      | false => simp only [Bool.false_eq_true, if_false]; exact Ev.now _
      | true =>
        obtain ⟨n0, n1⟩ := isN_iff.1 hi
        simp only [if_true]
        refine Ev.bind (givenS nodes l src fl hn hl hfl hs h) ?_
        by_cases hc : gCode nodes l src fl = 0
        · obtain ⟨_, c2, c3⟩ := gCode_iff hc
          obtain ⟨s0, s1⟩ := isN_iff.1 c1
          simp only [if_pos hc]
          have hwi := walk_inv hg s0 s1
          have hsl := (nodup_le _ _ hwi.nd hwi.wi).1
          apply EvP.eq
          refine EvP.bindP (order_ev nodes l src hg s0 s1) (fun r hr => ?_)
          obtain ⟨_, r2, r3⟩ := hr
          obtain ⟨j, hj, hje⟩ := List.getElem_of_mem (reach_all hg c3 s0 s1 n0 n1)
          have hjd : (walk nodes l src).1.getD j 0 = node := by rw [List.getD_eq_getElem?_getD, List.getElem?_eq_getElem hj]; exact hje
          obtain ⟨D, hD, _, hEv⟩ := specLoop hg (fl_of c2) hwi r2 r3 j 0 hj (by omega) (by omega)
          rw [hjd] at hD hEv
          have e : (if D < 0 then ((0 : Int), (3 : Int)) else (0 + D, 0)) = ansD ((dels l fl nodes.length (walk nodes l src).2).getD node.toNat 0) := by
            rw [← hD]
            unfold ansD
            split
            · rfl
            · rw [Int.zero_add]
          rw [e] at hEv
          exact EvP.of hEv rfl
        · simp only [if_neg hc]
          exact Ev.now _
end Go.Proofs.Ythnhchpgpnaamaa.PDelay2
end

section
namespace Go.Proofs.Ythnhchpgpnaamaa.SG
open Go.RowKit Go.Proofs.YthnhchpgpnaamaaW.PrintWords Go.Proofs.Ythnhchpgpnaamaa.XG Go.Proofs.Ythnhchpgpnaamaa.EvK
set_option linter.unusedVariables false
set_option linter.unusedSimpArgs false
theorem szInt64S_val (l : List Int) (left : Int) (h0 : 0 ≤ left) (h1 : left ≤ 1048576) (hq : l.length ≤ maxLen) : ∃ t, laws_szInt64S.f l left = some t ∧ t ≤ left ∧ (0 ≤ t → l.length ≤ 1048576) := by
  unfold maxLen at hq
  unfold laws_szInt64S.f
  repeat' split
  all_goals refine ⟨_, rfl, ?_, ?_⟩
  all_goals (simp only [wrap64] at *; omega)
end Go.Proofs.Ythnhchpgpnaamaa.SG
end

section
namespace Go.Proofs.Ythnhchpgpnaamaa.SG
open Go.RowKit Go.Proofs.YthnhchpgpnaamaaW.PrintWords Go.Proofs.Ythnhchpgpnaamaa.XG Go.Proofs.Ythnhchpgpnaamaa.EvK
set_option linter.unusedVariables false
set_option linter.unusedSimpArgs false
theorem szPipe_val (x : S64) (left : Int) (h0 : 0 ≤ left) (h1 : left ≤ 1048576) (hq : Q64 x) : ∃ t, laws_szPipe.f x.f0 x.f1 x.f2 x.f3 x.f4 x.f5 left = some t ∧ t ≤ left ∧ (0 ≤ t → (x.f0.size ≤ 1048576)) := by
  unfold Q64 maxLen at hq
  unfold laws_szPipe.f
  repeat' split
  all_goals refine ⟨_, rfl, ?_, ?_⟩
  all_goals (simp only [wrap64] at *; omega)
end Go.Proofs.Ythnhchpgpnaamaa.SG
end

section
namespace Go.Proofs.Ythnhchpgpnaamaa.SG
open Go.RowKit Go.Proofs.YthnhchpgpnaamaaW.PrintWords Go.Proofs.Ythnhchpgpnaamaa.XG Go.Proofs.Ythnhchpgpnaamaa.EvK
set_option linter.unusedVariables false
set_option linter.unusedSimpArgs false
theorem szPipeS_ev (l : List (S64)) (left : Int) (h0 : 0 ≤ left) (h1 : left ≤ 1048576) (hq : (l.length ≤ maxLen ∧ ∀ y1 ∈ l, Q64 y1)) : EvP (fun k => laws_szPipeS.f k l left) (fun t => t ≤ left ∧ (0 ≤ t → l.length ≤ 1048576 ∧ ∀ x ∈ l, (x.f0.size ≤ 1048576))) := by
  obtain ⟨hl, hq⟩ := hq
  unfold maxLen at hl
  unfold laws_szPipeS.f
  rw [w64 (by omega) (by omega)]
  by_cases hc : left - (l.length : Int) < 0
  · simp only [if_pos hc]
    exact EvP.now ⟨by omega, by omega⟩
  simp only [if_neg hc]
  refine for_evp (L := fun k (s : Int) i => laws_szPipeS.l0 k l s i) l.length (fun i s => 0 ≤ s ∧ s ≤ left - (l.length : Int) ∧ ∀ x ∈ l.take i, (x.f0.size ≤ 1048576)) ?_ ?_ _ ⟨by omega, by omega, by simp⟩
  · rintro i s hi ⟨hs0, hs1, hs⟩ K
    have e : rd_T64 l (i : Int) = l[i] := getD_at l z64 i hi
    refine EvP.step (fun k => laws_szPipeS.l0.eq_2 _ _ _ k) ?_
    obtain ⟨t, ht, ht1, ht2⟩ := szPipe_val l[i] s hs0 (by omega) (hq _ (List.getElem_mem hi))
    simp only [if_pos (show (i : Int) < (l.length : Int) by omega), if_pos (show (0 : Int) ≤ (i : Int) by omega), e, ht, Option.bind_some, w64 (show -9223372036854775808 ≤ (i : Int) + 1 by omega) (by omega)]
    by_cases hn : t < 0
    · simp only [if_pos hn]
      exact EvP.now ⟨by omega, by omega⟩
    · simp only [if_neg hn]
      exact K _ ⟨by omega, by omega, take_all hi hs (ht2 (by omega))⟩
  · rintro s ⟨hs0, hs1, hs⟩
    refine EvP.step (fun k => laws_szPipeS.l0.eq_2 _ _ _ k) ?_
    simp only [if_neg (show ¬ (l.length : Int) < (l.length : Int) by omega)]
    exact EvP.now ⟨by omega, fun _ => ⟨by omega, by simpa using hs⟩⟩
end Go.Proofs.Ythnhchpgpnaamaa.SG
end

section
namespace Go.Proofs.Ythnhchpgpnaamaa.SG
open Go.RowKit Go.Proofs.YthnhchpgpnaamaaW.PrintWords Go.Proofs.Ythnhchpgpnaamaa.XG Go.Proofs.Ythnhchpgpnaamaa.EvK
set_option linter.unusedVariables false
set_option linter.unusedSimpArgs false
def toInt64S_el (x : Int) : Int := x
theorem toInt64S_ev (l : List Int) (hl : l.length ≤ 1048576) : Ev (fun k => laws_toInt64S.f k l) (l.map toInt64S_el) := by
  apply EvP.eq
  unfold laws_toInt64S.f
  simp only [if_pos (show (0 : Int) ≤ (l.length : Int) by omega), Int.toNat_natCast, if_pos (show l.length ≤ 35184372088832 by omega)]
  refine for_evp (L := fun k (s : List Int) i => laws_toInt64S.l0 k l s i) l.length (fun i s => s = (l.take i).map toInt64S_el ++ List.replicate (l.length - i) 0) ?_ ?_ (List.replicate l.length 0) (by simp)
  · rintro i s hi rfl K
    have e : rd l (i : Int) = l[i] := getD_at l 0 i hi
    have hlen := done_len toInt64S_el l 0 i (by omega)
    refine EvP.step (fun k => laws_toInt64S.l0.eq_2 _ _ _ k) ?_
    simp only [if_pos (show (i : Int) < (l.length : Int) by omega), if_pos (show (0 : Int) ≤ (i : Int) by omega), e, hlen, w64 (show -9223372036854775808 ≤ (i : Int) + 1 by omega) (by omega), Int.toNat_natCast]
    refine K _ ?_
    show List.set _ i (toInt64S_el l[i]) = _
    exact map_done toInt64S_el l _ i hi
  · rintro s rfl
    refine EvP.step (fun k => laws_toInt64S.l0.eq_2 _ _ _ k) ?_
    simp only [if_neg (show ¬ (l.length : Int) < (l.length : Int) by omega)]
    exact EvP.now (by simp)
end Go.Proofs.Ythnhchpgpnaamaa.SG
end

section
namespace Go.Proofs.Ythnhchpgpnaamaa.SG
open Go.RowKit Go.Proofs.YthnhchpgpnaamaaW.PrintWords Go.Proofs.Ythnhchpgpnaamaa.XG Go.Proofs.Ythnhchpgpnaamaa.EvK
set_option linter.unusedVariables false
set_option linter.unusedSimpArgs false
def toPipeS_el (x : S64) : S59 := (⟨x.f0, x.f1, x.f2, x.f3, x.f4, x.f5⟩ : S59)
theorem toPipeS_ev (l : List (S64)) (hl : l.length ≤ 1048576) : Ev (fun k => laws_toPipeS.f k l) (l.map toPipeS_el) := by
  apply EvP.eq
  unfold laws_toPipeS.f
  simp only [if_pos (show (0 : Int) ≤ (l.length : Int) by omega), Int.toNat_natCast, if_pos (show l.length ≤ 5026338869833 by omega)]
  refine for_evp (L := fun k (s : List (S59)) i => laws_toPipeS.l0 k l s i) l.length (fun i s => s = (l.take i).map toPipeS_el ++ List.replicate (l.length - i) z59) ?_ ?_ (List.replicate l.length z59) (by simp)
  · rintro i s hi rfl K
    have e : rd_T64 l (i : Int) = l[i] := getD_at l z64 i hi
    have hlen := done_len toPipeS_el l z59 i (by omega)
    refine EvP.step (fun k => laws_toPipeS.l0.eq_2 _ _ _ k) ?_
    simp only [if_pos (show (i : Int) < (l.length : Int) by omega), if_pos (show (0 : Int) ≤ (i : Int) by omega), e, laws_toPipe.f, Option.bind_some, hlen, w64 (show -9223372036854775808 ≤ (i : Int) + 1 by omega) (by omega), Int.toNat_natCast]
    refine K _ ?_
    show List.set _ i (toPipeS_el l[i]) = _
    exact map_done toPipeS_el l _ i hi
  · rintro s rfl
    refine EvP.step (fun k => laws_toPipeS.l0.eq_2 _ _ _ k) ?_
    simp only [if_neg (show ¬ (l.length : Int) < (l.length : Int) by omega)]
    exact EvP.now (by simp)
end Go.Proofs.Ythnhchpgpnaamaa.SG
end

section
namespace Go.Proofs.Ythnhchpgpnaamaa.SG
open Go.RowKit Go.Proofs.YthnhchpgpnaamaaW.PrintWords Go.Proofs.Ythnhchpgpnaamaa.XG Go.Proofs.Ythnhchpgpnaamaa.EvK
set_option linter.unusedVariables false
set_option linter.unusedSimpArgs false
theorem eqInt64S_ev (l : List Int) (hl : l.length ≤ 1048576) : Ev (fun k => laws_eqInt64S.f k l l) true := by
  apply EvP.eq
  unfold laws_eqInt64S.f
  simp only [if_true]
  refine for_evp (L := fun k (s : Unit) i => laws_eqInt64S.l0 k l l i) l.length (fun i s => True) ?_ ?_ () trivial
  · rintro i s hi - K
    refine EvP.step (fun k => laws_eqInt64S.l0.eq_2 _ _ _ k) ?_
    simp only [if_pos (show (i : Int) < (l.length : Int) by omega), if_pos (show (0 : Int) ≤ (i : Int) by omega), if_true, w64 (show -9223372036854775808 ≤ (i : Int) + 1 by omega) (by omega)]
    exact K () trivial
  · rintro s -
    refine EvP.step (fun k => laws_eqInt64S.l0.eq_2 _ _ _ k) ?_
    simp only [if_neg (show ¬ (l.length : Int) < (l.length : Int) by omega)]
    exact EvP.now rfl
end Go.Proofs.Ythnhchpgpnaamaa.SG
end

section
namespace Go.Proofs.Ythnhchpgpnaamaa.SG
open Go.RowKit Go.Proofs.YthnhchpgpnaamaaW.PrintWords Go.Proofs.Ythnhchpgpnaamaa.XG Go.Proofs.Ythnhchpgpnaamaa.EvK
set_option linter.unusedVariables false
set_option linter.unusedSimpArgs false
theorem eqPipeS_ev (l : List (S59)) (hl : l.length ≤ 1048576) : Ev (fun k => laws_eqPipeS.f k l l) true := by
  apply EvP.eq
  unfold laws_eqPipeS.f
  simp only [if_true]
  refine for_evp (L := fun k (s : Unit) i => laws_eqPipeS.l0 k l l i) l.length (fun i s => True) ?_ ?_ () trivial
  · rintro i s hi - K
    refine EvP.step (fun k => laws_eqPipeS.l0.eq_2 _ _ _ k) ?_
    simp only [if_pos (show (i : Int) < (l.length : Int) by omega), if_pos (show (0 : Int) ≤ (i : Int) by omega), laws_eqPipe.f, Option.bind_some, if_true, w64 (show -9223372036854775808 ≤ (i : Int) + 1 by omega) (by omega)]
    exact K () trivial
  · rintro s -
    refine EvP.step (fun k => laws_eqPipeS.l0.eq_2 _ _ _ k) ?_
    simp only [if_neg (show ¬ (l.length : Int) < (l.length : Int) by omega)]
    exact EvP.now rfl
end Go.Proofs.Ythnhchpgpnaamaa.SG
end

section
namespace Go.Proofs.Ythnhchpgpnaamaa.PureFnExactDelayTo
open Go.RowKit Go.Proofs.YthnhchpgpnaamaaW.PrintWords Go.Proofs.Ythnhchpgpnaamaa.XG Go.Proofs.Ythnhchpgpnaamaa.EvK Go.Proofs.Ythnhchpgpnaamaa.PNet Go.Proofs.Ythnhchpgpnaamaa.PDelay2 Go.Proofs.Ythnhchpgpnaamaa.SG
set_option linter.unusedVariables false
set_option linter.unusedSimpArgs false
theorem pure : laws_FnExactDelayTo.Pure := by
  intro a src fl node hq hqs hqf hqn_
  apply EvP.rounds
  unfold laws_FnExactDelayTo.f
  by_cases hw1 : (fl.length : Int) > 1048576
  · simp only [if_pos hw1]
    exact EvP.now rfl
  simp only [if_neg hw1]
  obtain ⟨nodes, hnodes⟩ : ∃ x, x = a.f0 := ⟨_, rfl⟩
  obtain ⟨ps, hps⟩ : ∃ x, x = a.f1 := ⟨_, rfl⟩
  rw [← hnodes, ← hps]
  have hqn : nodes.length ≤ maxLen := by rw [hnodes]; exact hq.1.1
  have hqp : ps.length ≤ maxLen ∧ ∀ y1 ∈ ps, Q64 y1 := by rw [hps]; exact hq.2
  have hsz : EvP (fun k => laws_szNetwork.f k nodes ps 1048576) (fun t => 0 ≤ t → nodes.length ≤ 1048576 ∧ ps.length ≤ 1048576 ∧ ∀ x ∈ ps, x.f0.size ≤ 1048576) := by
    obtain ⟨t, e1, e2, e3⟩ := szInt64S_val nodes 1048576 (by omega) (by omega) hqn
    unfold laws_szNetwork.f
    rw [e1]
    simp only [Option.bind_some]
    by_cases ht : t < 0
    · simp only [if_pos ht]
      exact EvP.now (fun h => absurd h (by decide))
    · simp only [if_neg ht]
      refine EvP.bindP (szPipeS_ev ps t (by omega) e2 hqp) (fun u hu => ?_)
      by_cases hu0 : u < 0
      · simp only [if_pos hu0]
        exact EvP.now (fun h => absurd h (by decide))
      · simp only [if_neg hu0]
        exact EvP.now (fun h => ⟨e3 (by omega), hu.2 h⟩)
  refine EvP.bindP hsz (fun t ht => ?_)
  by_cases ht0 : t < 0
  · simp only [if_pos ht0]
    exact EvP.now rfl
  simp only [if_neg ht0]
  obtain ⟨b1, b2, b3⟩ := ht (by omega)
  have hti := toInt64S_ev nodes b1
  have htp := toPipeS_ev ps b2
  have htf := toInt64S_ev fl (by omega)
  obtain ⟨N, hN⟩ : ∃ N, N = nodes.map toInt64S_el := ⟨_, rfl⟩
  obtain ⟨L, hL⟩ : ∃ L, L = ps.map toPipeS_el := ⟨_, rfl⟩
  obtain ⟨F, hF⟩ : ∃ F, F = fl.map toInt64S_el := ⟨_, rfl⟩
  have cN : N.length ≤ 1048576 := by rw [hN, List.length_map]; exact b1
  have cL : L.length ≤ 1048576 := by rw [hL, List.length_map]; exact b2
  have cF : F.length ≤ 1048576 := by rw [hF, List.length_map]; omega
  have hsm : SmallN L := by
    intro x hx
    rw [hL] at hx
    obtain ⟨y, hy, rfl⟩ := List.mem_map.1 hx
    exact b3 y hy
  rw [← hN] at hti
  rw [← hL] at htp
  rw [← hF] at htf
  have htn : Ev (fun k => laws_toNetwork.f k nodes ps) (N, L) := by
    unfold laws_toNetwork.f
    exact Ev.bind hti (Ev.bind htp (Ev.now _))
  have hen : Ev (fun k => laws_eqNetwork.f k N L N L) true := by
    unfold laws_eqNetwork.f
    refine Ev.bind (eqInt64S_ev N cN) ?_
    simp only [if_true]
    refine Ev.bind (eqPipeS_ev L cL) ?_
    simp only [if_true]
    exact Ev.now _
  have e1 := spec_ev N L src F node cN cL cF hsm
  have e2 := impl_ev N L src F node cN cL hsm
  refine EvP.bind htn (EvP.bind htf (EvP.bind e1 (EvP.bind htn (EvP.bind htf (EvP.bind e2 ?_)))))
  simp only [if_true]
  refine EvP.bind htn (EvP.bind hen ?_)
  simp only [if_true]
  refine EvP.bind htf (EvP.bind (eqInt64S_ev F cF) ?_)
  simp only [if_true]
  exact EvP.now rfl
end Go.Proofs.Ythnhchpgpnaamaa.PureFnExactDelayTo
end

section
namespace Go.Proofs.Ythnhchpgpnaamaa.RowFnExactDelayTo
open Go.ChangeShapes Go.WideShapes Go.ChangeAt Go.RowKit Go.Proofs.YthnhchpgpnaamaaW.PrintWords Go.Proofs.Ythnhchpgpnaamaa.XG Go.Proofs.Ythnhchpgpnaamaa.Open
open Go.ChangeMaps (open_string shut_string)
set_option linter.unusedVariables false
theorem own : ownKnob Try.prog.godebug = none := by kernel_rfl
theorem laidOut : laidOutB Try.prog = true := by kernel_rfl
set_option maxRecDepth 100000 in
theorem lifted (os : Os) (started : os.Started) (H : Type) (enc : TypeId × Value → H) :
    ReturnsInHanded {} Try.checked os 3 .any (Rows.fnExactDelayToSpec.pre6 enc Try.prog Try.f3 Rows.fnExactDelayToRow.domain false) (Rows.fnExactDelayToSpec.post enc Try.prog Try.f3 false true false false) := by
  refine returnsInHanded_of_change_sized (C := Try.checked) own started (by kernel_rfl) Try.func3
    (ChangeSpec.witness6 (enc := enc) (C := Try.checked) false ⟨#[], #[(.agg #[(.slice none 0 0), (.slice none 0 0)]), (.int .i64 0), (.slice none 0 0), (.int .i64 0)], []⟩ 8 (by kernel_rfl) (by kernel_rfl) (by kernel_rfl) (by kernel_rfl)) ?_
  intro W base args ds gs before hval0 hW hcnd hsz0 _
  have hsz : (DataW.weightsEach Try.prog (Try.f3.params.toList ++ Rows.fnExactDelayToSpec.plain.varTypes Try.prog) (ds ++ gs)).all (· ≤ reachBytes) = true := hsz0
  have hval : ∀ (j : Nat) t v, Try.f3.params[j]? = some t → args[j]? = some v → Value.okWide Try.prog W .any base t v := hval0
  have hW' := hW
  obtain ⟨p, q, hA0, hV, rfl, hfz, hnd⟩ := hW
  have hA : DataW.TrodAll enc Try.prog W 0 (fun _ => true) true Try.f3.params.toList args.toList ds p := hA0
  rw [Try.params3] at hA hval hsz
  obtain ⟨v0, vs0, d0, ds0, p0, q0, hargs, rfl, rfl, h0, r0⟩ := trodAll_cons hA
  obtain ⟨v1, vs1, d1, ds1, p1, q1, rfl, rfl, rfl, h1, r1⟩ := trodAll_cons r0
  obtain ⟨v2, vs2, d2, ds2, p2, q2, rfl, rfl, rfl, h2, r2⟩ := trodAll_cons r1
  obtain ⟨v3, vs3, d3, ds3, p3, q3, rfl, rfl, rfl, h3, r3⟩ := trodAll_cons r2
  obtain ⟨rfl, rfl, rfl⟩ := trodAll_nil r3
  obtain rfl : args = #[v0, v1, v2, v3] := by cases args; simp_all
  obtain ⟨rfl, rfl⟩ := trodVars_none hV
  have kk0 := h0
  have lt0 : ∀ x ∈ p0, x.block < W.heap.size := by obtain ⟨m, hm⟩ := kk0; exact DataW.trod_lt m _ _ _ hm
  obtain ⟨cs0, a0, rfl, hK0, hq0⟩ := open_st Try.underlying25 opens25 (hval 0 25 v0 rfl rfl) h0
  obtain ⟨A0_0, c0_0, A0_1, c0_1, rfl, hc0_0, hr0_0, hc0_1, hr0_1⟩ := k25_open hK0
  obtain ⟨a1, rfl, rfl, rfl, w1⟩ := open_int Try.underlying2 (hval 1 2 v1 rfl rfl) h1
  have kk2 := h2
  have lt2 : ∀ x ∈ p2, x.block < W.heap.size := by obtain ⟨m, hm⟩ := kk2; exact DataW.trod_lt m _ _ _ hm
  obtain ⟨A2, c2, a2, rfl, hc2, hr2, hq2⟩ := open_sl Try.underlying22 (by kernel_rfl) (Opens.int Try.underlying2 (by kernel_rfl)) (hval 2 22 v2 rfl rfl) h2
  obtain ⟨a3, rfl, rfl, rfl, w3⟩ := open_int Try.underlying2 (hval 3 2 v3 rfl rfl) h3
  obtain ⟨k, hp⟩ := PureFnExactDelayTo.pure a0 a1 a2 a3 hq0 w1 hq2 w3
  clear hA0 hval0 hsz0 hsz
  refine (laws_FnExactDelayTo.calls k A0_0 c0_0 a0.f0 A0_1 c0_1 a0.f1 a1 A2 c2 a2 a3 true W hr0_0 hc0_0 hr0_1 hc0_1 hr2 hc2 hp).mono fun e W' ⟨he, bel0⟩ => ?_
  have bel : Below W.heap.size W W' := bel0
  subst he
  exact ⟨_, rfl, _, _, _, [], _, [], hW', trodAll_mk1 (shut_bool Try.underlying4 _), (trodAll_cons_mk (Below.trod laidOut (by kernel_rfl) (of_decide_eq_true (by kernel_rfl)) kk0 bel lt0) (trodAll_cons_mk (shut_int Try.underlying2 w1) (trodAll_cons_mk (Below.trod laidOut (by kernel_rfl) (of_decide_eq_true (by kernel_rfl)) kk2 bel lt2) (trodAll_cons_mk (shut_int Try.underlying2 w3) trodAll_mk0)))), rfl, bel.frame _, fun h => by cases h⟩
theorem over : Rows.fnExactDelayToRow.holds Try.pinned (OpenSpec.ofChange Rows.fnExactDelayToSpec) :=
  OpenClaim.holds_of_wide 3 Try.f3 rfl rfl rfl rfl rfl rfl rfl ⟨rfl, rfl, rfl, rfl, rfl⟩ rfl rfl rfl rfl rfl (by kernel_rfl) Try.func3 (by kernel_rfl)
    (of_decide_eq_true (by kernel_rfl)) (by unfold Func.isWrapper; first | (rw [if_pos (by decide +kernel)]; kernel_rfl) | (rw [if_neg (by decide +kernel)]; exact ⟨rfl, rfl⟩))
    (fun os started H enc _ => lifted os started H enc)
end Go.Proofs.Ythnhchpgpnaamaa.RowFnExactDelayTo
namespace Go.Proofs.Ythnhchpgpnaamaa
theorem fnExactDelayTo_holds : Rows.FnExactDelayToSaid := RowFnExactDelayTo.over
end Go.Proofs.Ythnhchpgpnaamaa
end
