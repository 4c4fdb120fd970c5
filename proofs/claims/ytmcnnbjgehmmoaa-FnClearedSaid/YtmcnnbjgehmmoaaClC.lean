/-
  Plain laws: a panel that has been cleared; who is biased.
-/
import Derived.Test.YtmcnnbjgehmmoaaClr
import Derived.Test.YtmcnnbjgehmmoaaEmpO
import Derived.Test.YtmcnnbjgehmmoaaBia
import Derived.Test.YtmcnnbjgehmmoaaCauC
import Derived.Test.YtmcnnbjgehmmoaaPTop
import Derived.Deep.CutBlock
namespace Go.Proofs.Ytmcnnbjgehmmoaa.mem
theorem clr_rec {B : Int → Bool} {M : L3 → Prop} (h0 : ∀ l, fb B l.x = none → M l) (h1 : ∀ l k, fb B l.x = some k → M (empL l k) → M l) : ∀ l, M l := by
  have key : ∀ (n : Nat) (l : L3), mz l < n → M l := by
    intro n
    induction n with
    | zero => intro l h; omega
    | succ n ih =>
      intro l h
      cases hf : fb B l.x with
      | none => exact h0 l hf
      | some k =>
        obtain ⟨y, hy, hy0, _⟩ := fb_some hf
        have := mz_emp hy hy0
        exact h1 l k hf (ih _ (by omega))
  intro l
  exact key _ l (Nat.lt_succ_self _)
theorem clr_ok {B : Int → Bool} : ∀ l : L3, okP l = true → okP (clr B l) = true := by
  refine clr_rec (B := B) (fun l hf h => ?_) (fun l k hf ih h => ?_)
  · rw [clr_none hf]; exact h
  · obtain ⟨y, hy, hy0, _⟩ := fb_some hf
    rw [clr_some hf]
    exact ih (okP_emp h hy hy0)
theorem clr_no {B : Int → Bool} : ∀ l : L3, ∀ x ∈ nz (clr B l).x, B x = false := by
  refine clr_rec (B := B) (fun l hf => ?_) (fun l k hf ih => ?_)
  · rw [clr_none hf]
    intro x hx
    unfold nz at hx
    obtain ⟨hm, h0⟩ := List.mem_filter.1 hx
    unfold fb at hf
    have := List.findIdx?_eq_none_iff.1 hf x hm
    rw [h0] at this
    simpa using this
  · rw [clr_some hf]; exact ih
theorem clr_gone {B : Int → Bool} : ∀ l : L3, ∃ gs, (clr B l).z = l.z ++ gs ∧ ∀ x ∈ gs, B x = true := by
  refine clr_rec (B := B) (fun l hf => ?_) (fun l k hf ih => ?_)
  · rw [clr_none hf]
    exact ⟨[], by simp, fun x h => by cases h⟩
  · obtain ⟨y, hy, hy0, hB, _⟩ := fb_some hf
    rw [clr_some hf]
    obtain ⟨gs, e, hg⟩ := ih
    refine ⟨y :: gs, ?_, fun x hx => ?_⟩
    · rw [e]
      unfold empL
      rw [List.getD_eq_getElem?_getD, hy]
      simp
    · rcases List.mem_cons.1 hx with rfl | hx
      · exact hB
      · exact hg x hx
theorem nz_count (p : Int → Bool) (xs : List Int) : (nz xs).countP p = xs.countP (fun a => p a && (a != 0)) := by
  unfold nz
  rw [List.countP_filter]
theorem clr_cnt {B : Int → Bool} : ∀ l : L3, okP l = true → (nz (clr B l).x ++ (clr B l).y).countP (fun x => !B x) = (nz l.x ++ l.y).countP (fun x => !B x) := by
  refine clr_rec (B := B) (fun l hf h => ?_) (fun l k hf ih h => ?_)
  · rw [clr_none hf]
  · obtain ⟨y, hy, hy0, hB, _⟩ := fb_some hf
    rw [clr_some hf, ih (okP_emp h hy hy0)]
    obtain ⟨hlt, hye⟩ := List.getElem?_eq_some_iff.1 hy
    have hw : ∀ y0 ∈ l.y, y0 ≠ 0 := fun y0 hm e0 => by
      have h3 := (okP_iff.1 h).2.2.1.1 y0 (by unfold allP; exact List.mem_append_right _ (List.mem_append_left _ hm))
      omega
    have hset : ∀ v, (nz (l.x.set k v)).countP (fun x => !B x) = (nz l.x).countP (fun x => !B x) + (if (!B v && (v != 0)) = true then 1 else 0) := by
      intro v
      rw [nz_count, nz_count, List.countP_set hlt, hye, hB]
      simp
    rw [List.countP_append, List.countP_append]
    show (nz (l.x.set k (l.y.headD 0))).countP _ + l.y.tail.countP _ = _
    rw [hset]
    cases hl : l.y with
    | nil => simp
    | cons a bs =>
      have ha : a ≠ 0 := hw a (by rw [hl]; exact List.mem_cons_self)
      have ha' : (a != 0) = true := by simpa using ha
      simp only [List.headD_cons, List.tail_cons, List.countP_cons, ha', Bool.and_true]
      omega
theorem okP_in {l : L3} (h : okP l = true) : ∀ x ∈ allP l, inB x 1 1000000 = true := fun x hx => by
  have := (okP_iff.1 h).2.2.1.1 x hx
  exact inB_iff.2 this
theorem biaV_at {ts : List Ti} {us : List ByteArray} {x : Int} (h : okK ts us = true) (hx : inB x 1 1000000 = true) : codC ts us x = 0 ∧ biaV ts us x = biaB ts us x := by
  have h0 := codC_0 h hx
  refine ⟨h0, ?_⟩
  unfold biaV biaB
  rw [cofL_0 h0]
theorem fit_same {ts : List Ti} {us : List ByteArray} {l : L3} (h : okK ts us = true) (hl : okP l = true) : fitC ts us (clr (biaB ts us) l) = 0 ∧ fitV ts us (clr (biaB ts us) l) = fitV ts us l := by
  have h2 := clr_ok (B := biaB ts us) l hl
  have hc := clr_cnt (B := biaB ts us) l hl
  have e : (fun x => !biaB ts us x) = (fun x => decide ((cauL us x ts).length = 0)) := by
    funext x
    unfold biaB
    by_cases c : (cauL us x ts).length = 0
    · rw [decide_eq_true c, decide_eq_false (by omega)]; rfl
    · rw [decide_eq_false c, decide_eq_true (by omega)]; rfl
  constructor
  · unfold fitC; rw [if_pos ⟨h, h2⟩]
  · unfold fitV
    rw [if_pos ⟨h, h2⟩, if_pos ⟨h, hl⟩]
    unfold fitK
    rw [← List.countP_eq_length_filter, ← List.countP_eq_length_filter, ← e, hc]
/-- everyone told by BiasedOf is biased -/
theorem bof_at {ts : List Ti} {us : List ByteArray} (h : okK ts us = true) {k : Nat} {x : Int} (hk : (bofL ts us)[k]? = some x) : codC ts us x = 0 ∧ biaV ts us x = true := by
  have hm := List.mem_of_getElem? hk
  unfold bofL at hm
  rw [if_pos h] at hm
  have hm2 : x ∈ biN us ts ts.length := by
    unfold setS at hm
    rw [fold_mem] at hm
    rcases hm with hm | hm
    · cases hm
    · exact hm
  unfold biN at hm2
  rw [List.take_length] at hm2
  obtain ⟨t, ht, rfl⟩ := List.mem_map.1 hm2
  obtain ⟨htm, hc⟩ := List.mem_filter.1 ht
  obtain ⟨j, hj⟩ := List.getElem?_of_mem htm
  have hok := tieB_ok (okK_tie h) hj
  have hin : inB t.n 1 1000000 = true := by unfold okT at hok; exact (Bool.and_eq_true_iff.1 hok).1
  obtain ⟨h1, h2⟩ := biaV_at h hin
  refine ⟨h1, ?_⟩
  rw [h2]
  unfold biaB
  rw [decide_eq_true_eq]
  have hjl := (List.getElem?_eq_some_iff.1 hj).1
  have hmem : (j : Int) ∈ cauL us t.n ts := by
    unfold cauL cauK
    refine List.mem_map.2 ⟨j, List.mem_filter.2 ⟨List.mem_range.2 hjl, ?_⟩, rfl⟩
    rw [cauP_at hj, hc]
    simp
  exact List.length_pos_of_mem hmem
end Go.Proofs.Ytmcnnbjgehmmoaa.mem
