/-
  Drawn numbers, in the reference.
  Contracts of both programs' IsJury: it answers what a jury is.
  The contracts of the reference's l15Members and IsJury.
  Contracts of both programs' functions on juries that only look: MembersOf, MayGoOn, LossesBorne, RoleOf.
-/
import Derived.Test.YtofglgfjlbehmaaGreatDrA
import Derived.Test.YtofglgfjlbehmaaGreatMg5
import Derived.Test.YtofglgfjlbehmaaGreatShf
import Derived.Test.YtofglgfjlbehmaaGreatList
import Derived.Deep.RegionWith
import Derived.Deep.RegionHeld3
namespace Go.Proofs.YtofglgfjlbehmaaGreat.mem
open Go.ChangeShapes Go.WideShapes Go.ChangeAt Go.RowKit

/-- the numbers as far as they have been raised -/
def upI (ys : List Int) (k : Nat) : List Int := (ys.take k).map (fun x => x + 1) ++ ys.drop k
theorem upI_0 (ys : List Int) : upI ys 0 = ys := by simp [upI]
theorem upI_len (ys : List Int) (k : Nat) : (upI ys k).length = ys.length := by simp [upI, List.length_take, List.length_drop]; omega
theorem upI_end (ys : List Int) : upI ys ys.length = ys.map (fun x => x + 1) := by simp [upI]
theorem upI_at {ys : List Int} {k : Nat} (hk : k < ys.length) : (upI ys k)[k]? = some ys[k] := by
  unfold upI
  rw [List.getElem?_append_right (by simp [List.length_take]; omega)]
  simp [List.length_take, Nat.min_eq_left (Nat.le_of_lt hk), List.getElem?_eq_getElem hk]
theorem upI_set {ys : List Int} {k : Nat} (hk : k < ys.length) : (upI ys k).set k (ys[k] + 1) = upI ys (k + 1) := by
  unfold upI
  have hl : ((ys.take k).map (fun x => x + 1)).length = k := by simp [List.length_take]; omega
  rw [List.set_append_right _ _ (by omega), hl, Nat.sub_self, List.drop_eq_getElem_cons hk, List.set_cons_zero, List.take_succ_eq_append_getElem hk, List.map_append]
  simp
def DnP (w0 w : World) (g : Nat) (s : Sl) (n : Nat) (e : Ending) (w' : World) : Prop :=
  ∃ (t : Sl) (xs : List Int), e = .returned (.slice t.A t.n t.c) ∧ Own w' w.heap.size (.slice t.A t.n t.c) xs ∧ xs.length = n ∧ distP xs ∧ Dr w0 w' g s ∧ Only g w w'
set_option maxHeartbeats 2500000 in
theorem spec.l12Numbers_any (g : Nat) (s : Sl) (n : Nat) (w0 w : World) (h : Dr w0 w g s) (hn : n ≤ 100) :
    Calls Tryz.prog 61 #[.pointer (some ⟨g, 0, none⟩), .int .i64 (n : Int)] w fun e w' => DnP w0 w g s n e w' := by
  have hk := fun W h => spec.l01Next_any g s 2000000000 w0 W h (by omega)
  go_enter Tryz.func61, Tryz.ntmps61
  go_wp2_with fail
  refine (hk _ h).mono ?_
  rintro e w1 ⟨x, rfl, ⟨x0, x1⟩, hD, hO⟩
  have hx : x < 2000000000 := by omega
  have hg := h.lt
  have hz1 := hO.size
  clear x1 hk
  have hw1 : IntKind.i64.wrap (1 + x) = 1 + x := Go.IntWalk.i64_in _ (by omega)
  have hw2 : IntKind.i64.wrap (2 * (n : Int)) = 2 * (n : Int) := Go.IntWalk.i64_in _ (by omega)
  have hw3 : IntKind.i64.wrap (2 * (n : Int) + 4) = ((2 * n + 4 : Nat) : Int) := by rw [Go.IntWalk.i64_in _ (by omega)]; simp
  have hk := fun W => spec.l03Shuffle_any (1 + x) (2 * n + 4) W (by omega) (by omega) (by omega)
  have hnum := hide (numL_ok (N := 2 * n + 4) (n := n) (s := 1 + x) (by omega) (by omega) (by omega) (by omega))
  have hsh := hide (shI_ok (n := 2 * n + 4) (s := 1 + x) (by omega) (by omega) (2 * n + 4 - 1) (Nat.le_refl _))
  unfold numL at hnum
  obtain ⟨ys, hys⟩ : ∃ ys, Hid (ys = (shI (2 * n + 4) (1 + x) (2 * n + 4 - 1)).1) := ⟨_, rfl⟩
  rw [← hys.out] at hnum hsh
  simp only [← hys.out] at hk
  clear hys
  obtain ⟨N, hN⟩ : ∃ N, Hid (N = 2 * n + 4) := ⟨_, rfl⟩
  simp only [← hN.out] at hk hw3 hsh
  go_wp2_with (go_at_call 77; refine (hk _).mono ?_; rintro e w2 ⟨t, rfl, ho, hx2⟩; have hcap : n ≤ t.c := (by have h1 := ho.cap; have h2 := ho.rd.1; have h3 := hsh.out.1; have h4 := hN.out; unfold cap1 at h1; omega); clear hw1 hw2 hw3)
  have htn : t.n = N := by have h2 := ho.rd.1; have h3 := hsh.out.1; omega
  obtain ⟨A, tn, c⟩ := t
  simp only at htn hcap ho
  subst htn
  have hN0 := hN.out
  obtain ⟨b, rfl, hb1, hb2, _⟩ := ho.put (show 0 < tn by omega)
  have ho2 := ho.to_ (show n ≤ tn by omega)
  obtain ⟨zs, hzs⟩ : ∃ zs, Hid (zs = ys.take n) := ⟨_, rfl⟩
  rw [← hzs.out] at ho2 hnum
  have hzl := hide (show zs.length = n from ho2.rd.1.symm)
  have hzb := hide (show ∀ z ∈ zs, 0 ≤ z ∧ z < 1000 from fun z hz => by
    have h1 := hsh.out.2.1 z (List.mem_of_mem_take (by rw [← hzs.out]; exact hz))
    omega)
  clear ho hsh hzs
  go_loopw [6] (fun i wr => ∃ k : Nat, k ≤ n ∧ i = .int .i64 k ∧ Own wr w1.heap.size (.slice (some ⟨b, 0, none⟩) n c) (upI zs k) ∧ Dr w0 wr g s ∧ Only g w wr) (fun i _ => n - (intOf i).toNat)
  case atStart => exact ⟨0, by omega, rfl, by rw [upI_0]; exact ho2, hD.more hx2, hO.more hx2⟩
  case round =>
    obtain ⟨k, hk, rfl, ho, hDr, hOr⟩ := hrel
    by_cases hlt : k < n
    · have hkz : k < zs.length := by have := hzl.out; omega
      obtain ⟨b', e1, hb1', hb2', ⟨u, hu⟩, hfz, hput⟩ := ho.put hlt
      injection e1 with e1
      injection e1 with e1
      subst e1
      obtain ⟨bb, oo, y, e2, hbb, hcy, hy⟩ := ho.rd.el hlt
      injection e2 with e2
      injection e2 with e2 e3
      subst e2 e3
      rw [Nat.zero_add] at hcy
      have hyk : y = zs[k] := by have := hy.out; rw [upI_at hkz] at this; injection this with this; exact this.symm
      have hyb := hzb.out zs[k] (List.getElem_mem hkz)
      rw [← hyk] at hyb
      have hset := hide (show (upI zs k).set k (y + 1) = upI zs (k + 1) by rw [hyk]; exact upI_set hkz)
      have ho' := hput (y + 1)
      rw [hset.out] at ho'
      have hwy : IntKind.i64.wrap (y + 1) = y + 1 := Go.IntWalk.i64_in _ (by omega)
      have hwk : IntKind.i64.wrap ((k : Int) + 1) = (k : Int) + 1 := Go.IntWalk.i64_in _ (by omega)
      have hltI : (k : Int) < (n : Int) := by omega
      have hk0 : (0 : Int) ≤ (k : Int) := by omega
      have hD' := hDr.off b k (by omega) (.int .i64 (y + 1))
      have hO' := hOr.off b k (by omega) (.int .i64 (y + 1))
      clear hu hput hyk
      go_wp2_with fail
      go_roundw
      case rel => exact ⟨k + 1, by omega, by go_num, ho', hD', hO'⟩
      case measure => simp [intOf]; omega
    · obtain rfl : k = n := by omega
      have hlt' : ¬ (k : Int) < (k : Int) := by omega
      go_wp2_with fail
      go_ret
      refine ⟨⟨_, _, _⟩, _, rfl, ho.mono hz1, ?_, ?_, hDr, hOr⟩
      · rw [upI_len]; exact hzl.out
      · rw [← hzl.out, upI_end]; exact hnum.out.2
end Go.Proofs.YtofglgfjlbehmaaGreat.mem
namespace Go.Proofs.YtofglgfjlbehmaaGreat.mem
open Go.ChangeShapes Go.WideShapes Go.ChangeAt Go.RowKit

end Go.Proofs.YtofglgfjlbehmaaGreat.mem
namespace Go.Proofs.YtofglgfjlbehmaaGreat.mem
open Go.ChangeShapes Go.WideShapes Go.ChangeAt Go.RowKit

end Go.Proofs.YtofglgfjlbehmaaGreat.mem
namespace Go.Proofs.YtofglgfjlbehmaaGreat.mem
open Go.ChangeShapes Go.WideShapes Go.ChangeAt Go.RowKit

def okJC (l : L3) : Int := if okJ l = true then 0 else 1
def membersV (l : L3) : List Int := if okJ l = true then nz l.x else []
def codeC (ok b : Bool) : Int := if ok = true then (if b = true then 0 else 2) else 1
def mayV (l : L3) (m : Int) : Bool := okJ l && inB m 1 12 && decide (m ≤ ((nz l.x).length : Int))
def lossV (l : L3) (m : Int) : Int := if okJ l = true ∧ inB m 1 12 = true then (if ((nz l.x).length : Int) < m then -1 else (nz l.x).length - m + l.y.length) else 0
def roleV (l : L3) (x : Int) : Int := if okJ l = true ∧ inB x 1 1000000 = true then (if hasB l.x x = true then 1 else if hasB l.y x = true then 2 else if hasB l.z x = true then 3 else 0) else 0

theorem okJ_bd {l : L3} (h : okJ l = true) : l.x.length ≤ 12 ∧ l.y.length ≤ 6 := by
  unfold okJ at h
  simp only [Bool.and_eq_true, decide_eq_true_eq] at h
  have := inB_iff.1 h.1
  omega

end Go.Proofs.YtofglgfjlbehmaaGreat.mem
