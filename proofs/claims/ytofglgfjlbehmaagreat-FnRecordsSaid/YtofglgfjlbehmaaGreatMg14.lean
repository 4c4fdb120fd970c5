/-
  Plain laws for records: whom a side strikes.
  Small contracts for the law of records: hasInt, CommitmentOf.
  From the form's reading of an argument to my words: a slice of bytes, a code; is a code too long.
-/
import Derived.Test.YtofglgfjlbehmaaGreatSt
import Derived.Test.YtofglgfjlbehmaaGreatRec
import Derived.Test.YtofglgfjlbehmaaGreatList
import Derived.Test.YtofglgfjlbehmaaGreatDrA
import Derived.ChangeSlices
namespace Go.Proofs.YtofglgfjlbehmaaGreat.mem
set_option linter.unusedVariables false
theorem okS_six {y : SelL} (h : okS y = true) : okP y.p = true ∧ y.s.length = 2 ∧ (0 ≤ y.s.getD 0 0 ∧ y.s.getD 0 0 ≤ 10) ∧ (0 ≤ y.s.getD 1 0 ∧ y.s.getD 1 0 ≤ 10) ∧ (0 ≤ y.t ∧ y.t ≤ 1) ∧ (0 ≤ y.q ∧ y.q ≤ 2) := by
  unfold okS areB at h
  simp only [Bool.and_eq_true, decide_eq_true_eq, inB_iff] at h
  obtain ⟨a, ⟨b, c, d⟩, e, f⟩ := h
  exact ⟨a, b, c, d, e, f⟩
/-- whoever sits or waits -/
def now (l : L3) : List Int := nz l.x ++ l.y
theorem allP_now (l : L3) : allP l = now l ++ l.z := by unfold allP now; rw [List.append_assoc]
theorem now_emp {l : L3} {k : Nat} {u : Int} (h : l.x[k]? = some u) (hu : u ≠ 0) (hy : ∀ y0, l.y[0]? = some y0 → y0 ≠ 0) : (u :: now (empL l k)).Perm (now l) := by
  have n1 : nz [u] = [u] := by unfold nz; simp [hu]
  unfold now empL
  cases hl : l.y with
  | nil =>
    have n0 : nz [(0 : Int)] = [] := rfl
    have hp := List.perm_iff_count.1 (nz_set 0 u l.x k h)
    rw [n1, n0] at hp
    rw [List.perm_iff_count]
    intro x
    have := hp x
    simp only [List.headD_nil, List.tail_nil, List.count_append, List.count_cons, List.count_nil] at this ⊢
    omega
  | cons y0 ys =>
    have hy0 : y0 ≠ 0 := hy y0 (by rw [hl]; rfl)
    have n2 : nz [y0] = [y0] := by unfold nz; simp [hy0]
    have hp := List.perm_iff_count.1 (nz_set y0 u l.x k h)
    rw [n1, n2] at hp
    rw [List.perm_iff_count]
    intro x
    have := hp x
    simp only [List.headD_cons, List.tail_cons, List.count_append, List.count_cons, List.count_nil] at this ⊢
    omega
theorem okP_y0 {l : L3} (h : okP l = true) : ∀ y0, l.y[0]? = some y0 → y0 ≠ 0 := fun y0 e e0 => by
  have hm : y0 ∈ allP l := by
    unfold allP
    exact List.mem_append_right _ (List.mem_append_left _ (List.mem_of_getElem? e))
  have := ((okP_iff.1 h).2.2.1.1 y0 hm).1
  omega
theorem okP_nodup {l : L3} (h : okP l = true) : (now l).Nodup ∧ ∀ u ∈ now l, u ∉ l.z := by
  have h3 := (okP_iff.1 h).2.2.1.2
  rw [allP_now] at h3
  obtain ⟨a, b, c⟩ := List.nodup_append.1 h3
  exact ⟨a, fun u hu hz => c u hu u hz rfl⟩
theorem stk_facts (sd : Int) (hsd : sd = 0 ∨ sd = 1) : ∀ (ms : List Int) (y : SelL), okS y = true →
    (∀ u ∈ stk sd y ms, u ∈ now y.p) ∧ (stk sd y ms).Nodup ∧ ((stk sd y ms).length : Int) ≤ y.s.getD sd.toNat 0
  | [], y, hok => by
    obtain ⟨_, _, a, b, _, _⟩ := okS_six hok
    refine ⟨fun u hu => (by cases hu), List.nodup_nil, ?_⟩
    show (0 : Int) ≤ _
    rcases hsd with rfl | rfl
    · exact a.1
    · exact b.1
  | m :: ms, y, hok => by
    obtain ⟨hp, hl2, a, b, ht, _⟩ := okS_six hok
    unfold stk
    by_cases hc : mvC y m = 0
    · rw [if_pos hc]
      have ho := okS_mv hok hc
      obtain ⟨i1, i2, i3⟩ := stk_facts sd hsd ms (mvV y m) ho
      by_cases hm : m = -1
      · rw [if_neg (by intro h; exact h.1 hm), List.nil_append]
        have e : mvV y m = passL y := by
          unfold mvV mvC at *
          rw [if_pos hm] at hc ⊢
          unfold passC at hc
          unfold passV
          by_cases c : overB y = true
          · rw [if_pos c] at hc; cases hc
          · rw [if_neg c]
        rw [e] at i1 i2 i3 ⊢
        exact ⟨i1, i2, i3⟩
      · have hs : strC y m = 0 := by unfold mvC at hc; rw [if_neg hm] at hc; exact hc
        have e : mvV y m = strL y m := by
          unfold mvV strV
          rw [if_neg hm, if_pos hs]
        obtain ⟨h1, h2, h3, h4⟩ := strC_0 hs
        have hk := inB_iff.1 h2
        have hkl : m.toNat < y.p.x.length := by omega
        have hx : y.p.x[m.toNat]? = some (y.p.x.getD m.toNat 0) := by
          rw [List.getD_eq_getElem?_getD, List.getElem?_eq_getElem hkl]; rfl
        have hP := now_emp hx h3 (okP_y0 hp)
        have hN := (hP.nodup_iff).2 (okP_nodup hp).1
        rw [e] at i1 i2 i3 ⊢
        have i1' : ∀ u ∈ stk sd (strL y m) ms, u ∈ now (empL y.p m.toNat) := i1
        obtain ⟨n1, n2⟩ := List.nodup_cons.1 hN
        by_cases hts : y.t = sd
        · rw [if_pos ⟨hm, hts⟩, List.singleton_append]
          refine ⟨fun u hu => ?_, List.nodup_cons.2 ⟨fun hu => n1 (i1' _ hu), i2⟩, ?_⟩
          · rcases List.mem_cons.1 hu with rfl | hu
            · exact hP.mem_iff.1 List.mem_cons_self
            · exact hP.mem_iff.1 (List.mem_cons_of_mem _ (i1' u hu))
          · have e3 : (strL y m).s.getD sd.toNat 0 = y.s.getD sd.toNat 0 - 1 := by
              show (y.s.set y.t.toNat (y.s.getD y.t.toNat 0 - 1)).getD sd.toNat 0 = _
              rw [hts, List.getD_eq_getElem?_getD, List.getElem?_set_self (by rcases hsd with rfl | rfl <;> simp [hl2])]
              rfl
            rw [e3] at i3
            rw [List.length_cons]
            omega
        · rw [if_neg (fun h => hts h.2), List.nil_append]
          refine ⟨fun u hu => hP.mem_iff.1 (List.mem_cons_of_mem _ (i1' u hu)), i2, ?_⟩
          have e3 : (strL y m).s.getD sd.toNat 0 = y.s.getD sd.toNat 0 := by
            show (y.s.set y.t.toNat (y.s.getD y.t.toNat 0 - 1)).getD sd.toNat 0 = _
            rw [List.getD_eq_getElem?_getD, List.getElem?_set_ne (by rcases hsd with rfl | rfl <;> omega), ← List.getD_eq_getElem?_getD]
          rw [e3] at i3
          exact i3
    · rw [if_neg hc]
      refine ⟨fun u hu => (by cases hu), List.nodup_nil, ?_⟩
      show (0 : Int) ≤ _
      rcases hsd with rfl | rfl
      · exact a.1
      · exact b.1
theorem clr_perm (B : Int → Bool) : ∀ (n : Nat) (l : L3), mz l ≤ n → okP l = true → (allP (clr B l)).Perm (allP l) := by
  intro n
  induction n with
  | zero =>
    intro l hn h
    cases hf : fb B l.x with
    | none => rw [clr_none hf]
    | some k =>
      obtain ⟨y, hy, hy0, _⟩ := fb_some hf
      have := mz_emp hy hy0
      omega
  | succ n ih =>
    intro l hn h
    cases hf : fb B l.x with
    | none => rw [clr_none hf]
    | some k =>
      obtain ⟨y, hy, hy0, _⟩ := fb_some hf
      have := mz_emp hy hy0
      rw [clr_some hf]
      exact (ih _ (by omega) (okP_emp h hy hy0)).trans (allP_emp hy hy0 (okP_y0 h))
theorem mkL_sub (xs : List Int) (n : Nat) : ∀ u ∈ allP (mkL xs n), u ∈ xs := by
  intro u hu
  unfold allP mkL at hu
  rcases List.mem_append.1 hu with hu | hu
  · unfold nz at hu
    obtain ⟨h1, h2⟩ := List.mem_filter.1 hu
    rcases List.mem_append.1 h1 with h1 | h1
    · exact List.mem_of_mem_take h1
    · have h3 := List.mem_of_mem_drop h1
      rw [List.mem_replicate] at h3
      rw [h3.2] at h2
      exact absurd h2 (by decide)
  · rcases List.mem_append.1 hu with hu | hu
    · exact List.mem_of_mem_drop hu
    · cases hu
theorem pr_sub {ts : List Ti} {us : List ByteArray} {y : RecL} (h : okR y = true) (hk : okK ts us = true) : ∀ u ∈ allP (prV ts us y), u ∈ y.p.x := by
  obtain ⟨hb, hl, hi, hd, _⟩ := okR_parts h
  have hp := rpL_perm (y := y) (by omega) (by omega)
  have hD : distP (rpL y) := (distP_perm hp).2 (incB_dist hi)
  have hm : okP (mkL (rpL y) y.d.toNat) = true := okP_mk hD (by rw [rpL_len]; exact hl) (by omega) (by omega)
  have e : (mkR (rpL y) y.d).1 = mkL (rpL y) y.d.toNat := by
    unfold mkR
    rw [if_pos (inB_iff.2 hd), hasB_dist hD, hm]
    rfl
  intro u hu
  unfold prV at hu
  rw [e, clrV_yes (by unfold fitC; rw [if_pos ⟨hk, hm⟩])] at hu
  exact hp.mem_iff.1 (mkL_sub _ _ u ((clr_perm _ _ _ (Nat.le_refl _) hm).mem_iff.1 hu))
/-- whom a side has struck: they are in the record, each once, none of them gone before the first move; no more than the side may strike -/
theorem sb_facts {ts : List Ti} {us : List ByteArray} {y : RecL} {sd : Int} (h : sbC ts us y sd = 0) :
    poC ts us y = 0 ∧ (sd = 0 ∨ sd = 1) ∧ (∀ u ∈ sbV ts us y sd, u ∈ y.p.x ∧ u ∉ (poV ts us y).z) ∧ (sbV ts us y sd).Nodup ∧ ((sbV ts us y sd).length : Int) ≤ y.p.y.getD sd.toNat 0 := by
  have hpo : poC ts us y = 0 := by
    unfold sbC at h
    by_cases c : poC ts us y = 0
    · exact c
    · rw [if_neg c] at h; cases h
  have hin : inB sd 0 1 = true := by
    unfold sbC at h
    rw [if_pos hpo] at h
    by_cases c : inB sd 0 1 = true
    · exact c
    · rw [if_neg c] at h; cases h
  have hsd : sd = 0 ∨ sd = 1 := by have := inB_iff.1 hin; omega
  obtain ⟨hok, hkk⟩ : okR y = true ∧ okK ts us = true := by
    rcases poC_or ts us y with ⟨h1, _⟩ | ⟨_, h2⟩
    · rw [hpo] at h1; cases h1
    · exact h2
  rw [(sb_0 hpo hin).2, poV_yes hpo]
  obtain ⟨f1, f2, f3⟩ := stk_facts sd hsd y.p.z (bgL ts us y) (okS_bg hok hkk)
  have hnd := okP_nodup (okP_pr hok hkk)
  refine ⟨hpo, hsd, fun u hu => ?_, f2, f3⟩
  have hn : u ∈ now (prV ts us y) := f1 u hu
  exact ⟨pr_sub hok hkk u (by rw [allP_now]; exact List.mem_append_left _ hn), hnd.2 u hn⟩
end Go.Proofs.YtofglgfjlbehmaaGreat.mem
namespace Go.Proofs.YtofglgfjlbehmaaGreat.mem
open Go.ChangeShapes Go.WideShapes Go.ChangeAt Go.RowKit
set_option linter.unusedVariables false
theorem hasInt_any (s : Sl) (xs : List Int) (x : Int) (w : World) (hr : Rd w s.A s.n xs) :
    Calls Tryz.prog 22 #[.slice s.A s.n s.c, .int .i64 x] w fun e w' => e = .returned (.bool (hasB xs x)) ∧ w = w' := by
  obtain ⟨A, n, c⟩ := s
  simp only at hr ⊢
  have hn := hr.le
  go_enter Tryz.func22, Tryz.ntmps22
  go_wp2
  go_loop [5] (fun i => ∃ k : Nat, k ≤ n ∧ i = .int .i64 k ∧ Hid (∀ (j : Nat) (y : Int), j < k → xs[j]? = some y → x ≠ y)) (fun i => n - (intOf i).toNat)
  case atStart => exact ⟨0, by omega, rfl, hide fun j y h => absurd h (by omega)⟩
  case round =>
    obtain ⟨k, hk, rfl, hno⟩ := hrel
    by_cases hlt : k < n
    · obtain ⟨b, off, y, rfl, hbl, hc1, hy⟩ := hr.el hlt
      by_cases he : y = x
      · subst he
        go_wp2
        go_ret
        exact ⟨by rw [hasB_yes hy.out]; rfl, rfl⟩
      · have hne : (y == x) = false := by simpa using he
        go_wp2
        go_round
        case rel => exact ⟨k + 1, by omega, by go_num, hide fun j z hj hz => by
          rcases Nat.lt_or_ge j k with h | h
          · exact hno.out j z h hz
          · obtain rfl : j = k := by omega
            have := hy.out
            rw [this] at hz
            injection hz with hz
            exact hz ▸ fun e => he e.symm⟩
        case measure => simp [intOf]; omega
    · go_wp2
      go_ret
      have e : k = n := by omega
      subst e
      have hl := hr.1
      exact ⟨by rw [hasB_no fun j y hy => hno.out j y (by rw [hl]; exact (List.getElem?_eq_some_iff.1 hy).1) hy]; rfl, rfl⟩
theorem impl.CommitmentOf_in (b c : Int) (w : World) (hb : 1 ≤ b ∧ b ≤ 2147483646) (hc : 0 ≤ c ∧ c ≤ 2147483646) :
    Calls Tryz.prog 21 #[.int .i64 b, .int .i64 c] w fun e w' => e = .returned (.tuple #[.int .i64 (cmt b c), .int .i64 0]) ∧ w = w' := by
  have h1 := fun W => impl.isState_any b W
  have h2 := fun W => impl.isSalt_any c W
  have h3 := fun W => impl.commitment_any b c W hb hc
  rw [inB_iff.2 hb] at h1
  rw [inB_iff.2 hc] at h2
  go_enter Tryz.func21, Tryz.ntmps21
  go_wp2_with (first | (go_at_call 51; refine (h1 _).mono ?_; rintro e w' ⟨rfl, rfl⟩) | (go_at_call 50; refine (h2 _).mono ?_; rintro e w' ⟨rfl, rfl⟩) | (go_at_call 58; refine (h3 _).mono ?_; rintro e w' ⟨rfl, rfl⟩))
  go_ret2
  exact ⟨rfl, rfl⟩
theorem okR_bc {y : RecL} (h : okR y = true) : (1 ≤ y.b ∧ y.b ≤ 2147483646) ∧ (0 ≤ y.c ∧ y.c ≤ 2147483646) := by
  unfold okR at h
  simp only [Bool.and_eq_true, inB_iff] at h
  exact ⟨h.2.1, h.2.2.1⟩
end Go.Proofs.YtofglgfjlbehmaaGreat.mem
namespace Go.Proofs.YtofglgfjlbehmaaGreat.mem
open Go.ChangeShapes Go.WideShapes Go.ChangeAt Go.RowKit

section
variable {H : Type} {enc : TypeId × Value → H} {w : World} {spare : Nat → Bool} {held : Bool}
set_option maxRecDepth 20000 in
theorem open_code {v : Value} {d : DataW H} {ps : List MemPlace} {r : Reach} {b0 : Nat} (hv : Value.okWide Tryz.prog w r b0 22 v) (h : DataW.Trod enc Tryz.prog w 0 spare held 22 v d ps) (hsp : ∀ b, spare b = true) :
    ∃ s : Sl, v = .slice s.A s.n s.c ∧ RdB w s.A s.n ∧ cap1 s := by
  obtain ⟨a0, len, cap, rfl⟩ := okWide_slice Tryz.underlying22 hv
  obtain ⟨fuel, hf⟩ := h
  rcases open_ints Tryz.underlying22 Tryz.underlying5 (by kernel_rfl) hf with ⟨hcs, _⟩ | ⟨a, len', cap', zs, hcs, _, hl, hm, hz, _, hcell, hwf⟩
  · injection hcs with hcs
    exact ⟨⟨none, 0, 0⟩, hcs, fun h => absurd h (Nat.lt_irrefl 0), by simp [cap1]⟩
  · injection hcs with hcs
    rw [hsp, if_pos rfl] at hz
    refine ⟨⟨some a, len', cap'⟩, hcs, fun hn => ?_, by unfold maxLen at hm; exact ⟨hl, by simp only; omega⟩⟩
    simp only at hn ⊢
    have h0 := hcell 0 (by omega)
    obtain ⟨b, off, spot⟩ := a
    have hspot : spot = none := by simpa [Addr.add] using World.cell?_spot h0
    subst hspot
    refine ⟨b, off, rfl, ?_, fun j hj => ?_⟩
    · have := World.block_lt_of_cell? w _ h0
      simpa [Go.WideShapes.add_plain] using this
    · have hj' : j < zs.length := by omega
      have := hcell j hj'
      rw [Go.WideShapes.add_plain] at this
      have e : zs.getD j 0 = zs[j] := by simp [List.getElem?_eq_getElem hj']
      have hw := hwf zs[j] (List.getElem_mem hj')
      simp [Lit.wf, IntKind.min, IntKind.max, IntKind.signed, IntKind.bits] at hw
      exact ⟨zs[j], by rw [this, e], by omega, by omega⟩
end
theorem laws.big_any (s : Sl) (w : World) (hc : cap1 s) : Calls Tryz.prog 4 #[.slice s.A s.n s.c] w fun e w' => e = .returned (.bool (decide (4096 < s.n))) ∧ w = w' := by
  obtain ⟨A, n, c⟩ := s
  unfold cap1 at hc
  simp only at hc ⊢
  by_cases h : 4096 < n
  · have h' : (4096 : Int) < (n : Int) := by omega
    go_enter Tryz.func4, Tryz.ntmps4
    go_wp2
    go_ret
    exact ⟨by first | rfl | (rw [decide_eq_true h]; rfl), rfl⟩
  · have h' : ¬ (4096 : Int) < (n : Int) := by omega
    go_enter Tryz.func4, Tryz.ntmps4
    go_wp2
    go_ret
    exact ⟨by first | rfl | (rw [decide_eq_false h]; rfl), rfl⟩
end Go.Proofs.YtofglgfjlbehmaaGreat.mem
