/-
  Marks on a list of texts that is a result: the text of a mark, marking a list, holding it.
-/
import Derived.Test.YtmcnnbjgehmmoaaStw
import Derived.Test.YtmcnnbjgehmmoaaTieB
namespace Go.Proofs.Ytmcnnbjgehmmoaa.mem
open Go.ChangeShapes Go.WideShapes Go.ChangeAt Go.RowKit
set_option linter.unusedVariables false
theorem OwS.fr {S : Nat → Prop} {w w' : World} {lo : Nat} {v : Value} {xs : List ByteArray} (h : OwS w lo v xs) (hf : Fr S w w') (hs : ∀ k, v.ownBlock = some k → ¬ S k) : OwS w' lo v xs := h.keep fun k hk => hf.block k (h.lt k hk).2 (hs k hk)
def mtR (j : Nat) (y : ByteArray) : ByteArray := if h : j = 0 then y else mtR (j / 10) (strOfNums [48 + (j : Int) % 10] ++ y)
termination_by j
decreasing_by omega
theorem mtR_0 (y : ByteArray) : mtR 0 y = y := by rw [mtR]; simp
theorem mtR_s {j : Nat} (h : j ≠ 0) (y : ByteArray) : mtR j y = mtR (j / 10) (strOfNums [48 + (j : Int) % 10] ++ y) := by rw [mtR, dif_neg h]
def mtx (k : Int) : ByteArray := if k = 0 then ⟨#[109, 48]⟩ else ⟨#[109]⟩ ++ mtR k.toNat ⟨#[]⟩
theorem mtR_size (j : Nat) : ∀ y : ByteArray, (mtR j y).size ≤ y.size + j := by
  induction j using Nat.strongRecOn with
  | ind j ih =>
    intro y
    by_cases h : j = 0
    · subst h; rw [mtR_0]; omega
    · rw [mtR_s h]
      have h1 := ih (j / 10) (by omega) (strOfNums [48 + (j : Int) % 10] ++ y)
      have h2 : (strOfNums [48 + (j : Int) % 10] ++ y).size = 1 + y.size := by rw [ByteArray.size_append]; rfl
      omega
theorem mtx_size {k : Int} (h0 : 0 ≤ k) : (mtx k).size ≤ k + 2 := by
  unfold mtx
  by_cases h : k = 0
  · rw [if_pos h]; subst h; decide
  · rw [if_neg h, ByteArray.size_append]
    have h1 := mtR_size k.toNat ⟨#[]⟩
    have h2 : (⟨#[]⟩ : ByteArray).size = 0 := rfl
    have h3 : (⟨#[109]⟩ : ByteArray).size = 1 := rfl
    omega
set_option maxRecDepth 20000 in
theorem markText_is (k : Int) (w : World) (h0 : 0 ≤ k) (h1 : k ≤ 1000000000) :
    Calls Try.prog 65 #[.int .i64 k] w fun e w' => e = .returned (.string (mtx k)) ∧ Ext w w' := by
  obtain ⟨m, rfl⟩ : ∃ m : Nat, k = m := ⟨k.toNat, by omega⟩
  by_cases hz : m = 0
  · subst hz
    go_enter Try.func65, Try.ntmps65
    go_wp2
    go_ret
    exact ⟨rfl, Ext.refl _⟩
  · have hq := hide (show mtx (m : Int) = ⟨#[109]⟩ ++ mtR m ⟨#[]⟩ by unfold mtx; rw [if_neg (by omega)]; rfl)
    go_enter Try.func65, Try.ntmps65
    go_wp2
    go_loopw [0, 3] (fun a x wr => ∃ (j : Nat) (y : ByteArray), a = .int .i64 j ∧ x = .string y ∧ y.size + j ≤ m ∧ Hid (mtR j y = mtR m ⟨#[]⟩) ∧ Ext w wr) (fun a _ _ => (intOf a).toNat)
    case atStart => exact ⟨m, _, rfl, rfl, by show 0 + m ≤ m; omega, hide rfl, Ext.refl _⟩
    case round =>
      obtain ⟨j, y, rfl, rfl, hj, hmt, hx⟩ := hrel
      by_cases hp : j = 0
      · subst hp
        have hmt' := hide (hmt.out.symm.trans (mtR_0 y))
        go_wp2
        go_ret
        exact ⟨by rw [hq.out, hmt'.out]; rfl, hx⟩
      · have hmt' := hide ((mtR_s hp y).symm.trans hmt.out)
        have kc : (convert 22 9 (.slice (some ⟨wr.heap.size, 0, none⟩) 1 1)).run Try.prog (wr.alloc (.cells #[.int .u8 (48 + (j : Int) % 10)] 5)) = .ok (.string (strOfNums [48 + (j : Int) % 10])) (wr.alloc (.cells #[.int .u8 (48 + (j : Int) % 10)] 5)) :=
          run_convert_bytes_arg _ 22 5 Try.underlying22 Try.underlying5 wr.heap.size 0 1 1 [48 + (j : Int) % 10] rfl (fun i hi => by
            obtain rfl : i = 0 := by omega
            exact (Blk.new wr 5 #[.int .u8 (48 + (j : Int) % 10)]).get 0 _ rfl) 9 Try.underlying9
        have hz : (strOfNums [48 + (j : Int) % 10]).size = 1 := rfl
        clear hmt
        revert kc hz hmt'
        generalize strOfNums [48 + (j : Int) % 10] = z
        intro hmt' kc hz
        have hzy : (z ++ y).size = 1 + y.size := by rw [ByteArray.size_append, hz]
        go_wp2
        clear kc
        go_roundw
        case rel => exact ⟨j / 10, z ++ y, by go_num, rfl, by omega, hmt', hx.alloc _⟩
        case measure => simp [intOf]; omega
/-- the marks k, k+1, .. -/
def mtL (k : Int) (n : Nat) : List ByteArray := (List.range n).map (fun (i : Nat) => mtx (k + (i : Int)))
theorem mtL_len (k : Int) (n : Nat) : (mtL k n).length = n := by simp [mtL]
theorem mtL_get (k : Int) (n j : Nat) (h : j < n) : (mtL k n)[j]? = some (mtx (k + j)) := by
  unfold mtL
  rw [List.getElem?_map, List.getElem?_range h]; rfl
theorem mtL_size {k : Int} {n : Nat} (h0 : 0 ≤ k) (h1 : k ≤ 100000000) (hn : n ≤ 16777216) : ∀ x ∈ mtL k n, x.size ≤ maxLen := by
  intro x hx
  unfold mtL at hx
  obtain ⟨i, hi, rfl⟩ := List.mem_map.1 hx
  have h2 := mtx_size (k := k + (i : Int)) (by omega)
  have h3 := List.mem_range.1 hi
  unfold maxLen
  omega
set_option maxHeartbeats 1000000 in
theorem markStringS_own (s : Sl) (lo : Nat) (k0 : Int) (xs : List ByteArray) (w : World) (ho : OwS w lo (.slice s.A s.n s.c) xs) (h0 : 0 ≤ k0) (h1 : k0 ≤ 100000000) :
    Calls Try.prog 28 #[.slice s.A s.n s.c, .int .i64 k0] w fun e w' => e = .returned (.int .i64 (k0 + s.n)) ∧ OwS w' lo (.slice s.A s.n s.c) (mtL k0 s.n) ∧ Fr (fun k => Value.ownBlock (.slice s.A s.n s.c) = some k) w w' := by
  obtain ⟨A, n, c⟩ := s
  simp only at ho ⊢
  have hn : n = xs.length := by
    rcases ho.2.2 with ⟨e, hn0⟩ | ⟨g, cap, cur, e, _⟩
    · injection e with e1 e2 e3; omega
    · injection e with e1 e2 e3
  have hn1 : n ≤ 16777216 := by have := ho.1; omega
  rcases ho.2.2 with ⟨e, hn0⟩ | ⟨g, cap, cur, e, hg, hh, hcap, hm, hs, ht⟩
  · injection e with e1 e2 e3
    subst e1 e2 e3
    clear hn hn0 ho
    go_enter Try.func28, Try.ntmps28
    go_wp2
    go_loopw [1, 5] (fun a i wr => a = .int .i64 k0 ∧ i = .int .i64 0 ∧ wr = w) (fun _ i _ => 0 - (intOf i).toNat)
    case atStart => exact ⟨rfl, rfl, rfl⟩
    case round =>
      obtain ⟨rfl, rfl, rfl⟩ := hrel
      go_wp2
      go_ret
      exact ⟨by simp, OwS.nil_ _ _, Fr.refl _ _⟩
  · injection e with e1 e2 e3
    subst e1 e3
    have hn2 : n ≤ c := by omega
    have HS := hide (show cur.size = c by omega)
    clear ht hcap hs e2 hn ho
    have hgl : g < w.heap.size := Blk.lt (t := 9) (cs := cur) hh
    go_enter Try.func28, Try.ntmps28
    go_wp2
    go_loopw [1, 5] (fun a i wr => ∃ k : Nat, k ≤ n ∧ a = .int .i64 (k0 + k) ∧ i = .int .i64 k ∧ Fr (fun j => j = g) w wr ∧ ∃ cs : Array Value, Blk wr g 9 cs ∧ cs.size = c ∧ Hid (∀ j, j < k → cs[j]? = some (Value.string (mtx (k0 + j))))) (fun _ i _ => n - (intOf i).toNat)
    case atStart => exact ⟨0, by omega, by go_num, rfl, Fr.refl _ _, cur, hh, HS.out, hide fun j h => absurd h (by omega)⟩
    case round =>
      obtain ⟨k, hk, rfl, rfl, hgr, cs, hb, hsz, hcs⟩ := hrel
      by_cases hlt : k < n
      · go_wp2_with fail
        refine (markText_is _ _ (by omega) (by omega)).mono ?_
        rintro e w1 ⟨rfl, hx1⟩
        have hb1 := hb.ext hx1
        have hc2 := hb1.cell k
        have hc3 := hb1.frozen k
        rw [Array.getElem?_eq_getElem (by omega)] at hc2
        go_wp2
        go_roundw
        case rel =>
          refine ⟨k + 1, by omega, by go_num, by go_num, ?_, _, hb1.set_ k _, by simpa using hsz, hide fun j hj => ?_⟩
          · exact (hgr.trans hx1.fr).set_ rfl k _
          · rw [Array.getElem?_setIfInBounds]
            by_cases e : k = j
            · subst e; rw [if_pos rfl, if_pos (by omega)]
            · rw [if_neg e]; exact hcs.out j (by omega)
        case measure => simp [intOf]; omega
      · go_wp2
        go_ret
        have e : k = n := by omega
        subst e
        refine ⟨rfl, OwS.of_blk hb hg k c (mtL_len _ _).symm hn2 hm hsz hn1 ?_, hgr.mono fun j _ e => by rw [e]; rfl⟩
        apply List.ext_getElem?
        intro j
        rcases Nat.lt_or_ge j k with hj | hj
        · rw [List.getElem?_take_of_lt hj, Array.getElem?_toList, hcs.out j hj, List.getElem?_map, mtL_get _ _ _ hj]; rfl
        · rw [List.getElem?_eq_none (by simp; omega), List.getElem?_eq_none (by simp [mtL_len]; omega)]
theorem heldStringS_any (s : Sl) (k0 : Int) (w : World) (hr : RdW w s.A s.n (mtL k0 s.n)) (h0 : 0 ≤ k0) (h1 : k0 ≤ 100000000) :
    Calls Try.prog 31 #[.slice s.A s.n s.c, .int .i64 k0] w fun e w' => e = .returned (.int .i64 (k0 + s.n)) ∧ Ext w w' := by
  obtain ⟨A, n, c⟩ := s
  simp only at hr ⊢
  have hn := hr.2.1
  go_enter Try.func31, Try.ntmps31
  go_wp2
  go_loopw [1, 5] (fun a i wr => ∃ k : Nat, k ≤ n ∧ a = .int .i64 (k0 + k) ∧ i = .int .i64 k ∧ Ext w wr) (fun _ i _ => n - (intOf i).toNat)
  case atStart => exact ⟨0, by omega, by go_num, rfl, Ext.refl _⟩
  case round =>
    obtain ⟨k, hk, rfl, rfl, hx0⟩ := hrel
    by_cases hlt : k < n
    · obtain ⟨b, off, x, rfl, hbl, hc1, hxs, hx⟩ := (hr.ext hx0).el hlt
      have hx1 := hx.out
      rw [mtL_get _ _ _ hlt] at hx1
      injection hx1 with hx1
      subst hx1
      clear hx hxs
      have hsm : ((mtx (k0 + k)).toList != (mtx (k0 + k)).toList) = false := by simp
      have hm1 := fun W => markText_is (k0 + k) W (by omega) (by omega)
      go_upto_region 4 with fail
      go_region_held3 (fun w' => w'.cell? ⟨b, off + k, none⟩ = some (Value.string (mtx (k0 + k)))) (first | exact k1 | exact hc1 | go_keep | fail) (first | (go_at_call 65; refine (hm1 _).mono ?_; rintro e w1 ⟨rfl, hx1⟩; have k1 := (hx1.cell (p := ⟨b, off + k, none⟩) hbl).trans hc1; have hx01 := hx0.drew.trans hx1) | fail)
      go_wp2
      go_roundw
      case rel => exact ⟨k + 1, by omega, by go_num, by go_num, hx01⟩
      case measure => simp [intOf]; omega
    · go_wp2
      go_ret
      obtain rfl : k = n := by omega
      exact ⟨rfl, hx0⟩
end Go.Proofs.Ytmcnnbjgehmmoaa.mem
