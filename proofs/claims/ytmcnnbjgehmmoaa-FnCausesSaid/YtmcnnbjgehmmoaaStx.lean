/-
  The library's sort and compact at texts.
-/
import Derived.Test.YtmcnnbjgehmmoaaStw
namespace Go.Proofs.Ytmcnnbjgehmmoaa.mem
open Go.ChangeShapes Go.WideShapes Go.ChangeAt Go.RowKit
open Go.Sort Go.Lib
set_option linter.unusedVariables false
def bs (x : ByteArray) : List UInt8 := x.data.toList
def mkB (l : List UInt8) : ByteArray := ⟨l.toArray⟩
theorem mk_bs (x : ByteArray) : mkB (bs x) = x := by cases x; simp [mkB, bs]
theorem bs_mk (l : List UInt8) : bs (mkB l) = l := by simp [mkB, bs]
theorem map_mk_bs (xs : List ByteArray) : (xs.map bs).map mkB = xs := by
  rw [List.map_map]
  exact List.map_id'' (fun x => mk_bs x) xs
theorem map_enc (ls : List (List UInt8)) : (ls.map mkB).map Value.string = ls.map encStr := by
  rw [List.map_map]; rfl
theorem str_enc (xs : List ByteArray) : xs.map Value.string = (xs.map bs).map encStr := by
  rw [← map_enc, map_mk_bs]
abbrev ltS : ByteArray → ByteArray → Prop := fun a b => Op.bytesLess a.toList b.toList = true
theorem ltS_iff (a b : ByteArray) : ltS a b ↔ bs a < bs b := by
  unfold ltS bs
  rw [ByteArray.toList_eq, ByteArray.toList_eq, bytesLess_eq, decide_eq_true_eq]
theorem bs_inj {a b : ByteArray} (h : bs a = bs b) : a = b := by rw [← mk_bs a, h, mk_bs]
theorem eqW_iff (a b : ByteArray) : eqW a b = true ↔ a = b := by
  unfold eqW
  rw [beq_iff_eq, ByteArray.toList_eq, ByteArray.toList_eq]
  exact ⟨fun h => bs_inj h, fun h => by rw [h]⟩
theorem insS_bs (x : ByteArray) (ys : List ByteArray) : insS ltB (bs x) (ys.map bs) = (insS ltS x ys).map bs := by
  induction ys with
  | nil => rfl
  | cons y ys ih =>
    rw [List.map_cons]
    unfold insS
    by_cases c1 : ltS y x
    · rw [if_pos c1, if_pos ((ltS_iff _ _).1 c1), ih, List.map_cons]
    · rw [if_neg c1, if_neg (fun h => c1 ((ltS_iff _ _).2 h))]
      by_cases c2 : y = x
      · rw [if_pos c2, if_pos (by rw [c2]), List.map_cons]
      · rw [if_neg c2, if_neg (fun h => c2 (bs_inj h)), List.map_cons, List.map_cons]
theorem fold_bs (xs : List ByteArray) : ∀ l : List ByteArray, (xs.map bs).foldl (fun l n => insS ltB n l) (l.map bs) = (xs.foldl (fun l n => insS ltS n l) l).map bs := by
  induction xs with
  | nil => intro l; rfl
  | cons x xs ih => intro l; rw [List.map_cons, List.foldl_cons, List.foldl_cons, insS_bs, ih]
theorem setS_bs (xs : List ByteArray) : (setS ltB (xs.map bs)).map mkB = setS ltS xs := by
  have h := fold_bs xs []
  rw [List.map_nil] at h
  unfold setS
  rw [h, map_mk_bs]
theorem linS : LinO ltS := ⟨fun a h => linB.irr _ ((ltS_iff _ _).1 h), fun a b c h1 h2 => (ltS_iff _ _).2 (linB.tr _ _ _ ((ltS_iff _ _).1 h1) ((ltS_iff _ _).1 h2)), fun a b h => by
  rcases linB.to (bs a) (bs b) (fun e => h (bs_inj e)) with c | c
  · exact .inl ((ltS_iff _ _).2 c)
  · exact .inr ((ltS_iff _ _).2 c)⟩
theorem OwS.blk {w : World} {lo g n c : Nat} {xs : List ByteArray} (h : OwS w lo (.slice (some ⟨g, 0, none⟩) n c) xs) : ∃ cur, w.heap[g]? = some (.cells cur 9 (0, 0)) ∧ lo ≤ g ∧ n = xs.length ∧ n ≤ c ∧ c ≤ maxLen ∧ cur.size = c ∧ n ≤ 16777216 ∧ cur.toList.take n = xs.map (Value.string) := by
  rcases h.2.2 with ⟨e, _⟩ | ⟨g', cap, cur, e, hg, hh, h1, h2, h3, ht⟩
  · cases e
  · injection e with e1 e2 e3
    injection e1 with e1
    injection e1 with e1 _ _
    subst e1 e2 e3
    exact ⟨cur, hh, hg, rfl, h1, h2, by simpa using h3, h.1, by simpa using ht⟩
theorem OwS.srt {w : World} {lo g n c q : Nat} {os : Array Obj} {xs : List ByteArray} {ys : List (List UInt8)} (h : OwS w lo (.slice (some ⟨g, 0, none⟩) n c) xs) (hl : ys.length = n) (m : Nat) (hm : m ≤ n) :
    OwS (grow (putRow encStr (Sort.ahead w q) g 0 ys.toArray) os) lo (.slice (some ⟨g, 0, none⟩) m c) ((ys.take m).map mkB) ∧ Fr (fun k => k = g) w (grow (putRow encStr (Sort.ahead w q) g 0 ys.toArray) os) := by
  obtain ⟨cur, hh, hlo, hn, hc, hc2, hsz, h24, ht⟩ := h.blk
  constructor
  · have hb := heap_sorted (n := q) (os := os) ys.toArray hh
    refine OwS.of_blk (cs := putCells encStr 0 ys.toArray cur) hb hlo m c (by simp; omega) (by omega) hc2 (by simp [putCells, hsz]) (by omega) ?_
    have h1 := take_putCells cur ys (by omega)
    have h2 : (putCells encStr 0 ys.toArray cur).toList.take m = ((putCells encStr 0 ys.toArray cur).toList.take ys.length).take m := by rw [List.take_take]; congr 1; omega
    rw [h2, h1, map_enc, List.map_take]
  · exact (Fr.of_grown (grownBy_sorted ys.toArray)).mono fun k _ e => by injection e with e; exact e.symm
set_option maxHeartbeats 1000000 in
theorem sortS_any (g n c lo : Nat) (xs : List ByteArray) (w : World) (ho : OwS w lo (.slice (some ⟨g, 0, none⟩) n c) xs) :
    Calls Try.prog 55 #[.slice (some ⟨g, 0, none⟩) n c] w fun e w' => e = .returned (.tuple #[]) ∧ OwS w' lo (.slice (some ⟨g, 0, none⟩) n c) (((xs.map bs).mergeSort fun x y => decide (x ≤ y)).map mkB) ∧ Fr (fun k => k = g) w w' := by
  obtain ⟨cur, hh, hlo, hn, hc, hc2, hsz, h24, ht⟩ := ho.blk
  subst hn
  have hlen : (xs.map bs).length = xs.length := by simp
  have h0 := Try.slices_Sort_string g 0 c (xs.map bs) w (holds_of_block hh (by rw [hlen, ht, str_enc])) (Blk.lt (t := 9) (cs := cur) hh) (by omega)
  rw [hlen] at h0
  refine h0.mono ?_
  rintro e w' ⟨rfl, q, os, rfl⟩
  have hl : ((xs.map bs).mergeSort fun x y => decide (x ≤ y)).length = xs.length := by rw [List.length_mergeSort]; exact hlen
  obtain ⟨h1, h2⟩ := ho.srt (q := q) (os := os) hl xs.length (Nat.le_refl _)
  rw [List.take_of_length_le (by omega)] at h1
  exact ⟨rfl, h1, h2⟩
theorem eq_mk (x y : List UInt8) : ((mkB x).toList == (mkB y).toList) = decide (x = y) := by
  rw [ByteArray.toList_eq, ByteArray.toList_eq, show (mkB x).data.toList = x from bs_mk x, show (mkB y).data.toList = y from bs_mk y]
  by_cases h : x = y
  · rw [h]; simp
  · simp [h]
theorem eqlS (T : TypeId) : EqlAt Try.prog T encStr (fun x y => decide (x = y)) := ⟨fun x y w => by have h0 := (EqlAt.string Try.prog T).1 (mkB x) (mkB y) w; have e := eq_mk x y; simp only [e] at h0; exact h0, fun op a b x y => (EqlAt.string Try.prog T).2 op a b (mkB x) (mkB y)⟩
theorem neqS (T : TypeId) : NeqAt Try.prog T encStr (fun x y => decide (x = y)) := ⟨fun x y w => by have h0 := (NeqAt.string Try.prog T).1 (mkB x) (mkB y) w; have e := eq_mk x y; simp only [e] at h0; exact h0, fun op a b x y => (NeqAt.string Try.prog T).2 op a b (mkB x) (mkB y)⟩
set_option maxHeartbeats 1000000 in
theorem compactS_any (g n c lo : Nat) (ys : List (List UInt8)) (w : World) (ho : OwS w lo (.slice (some ⟨g, 0, none⟩) n c) (ys.map mkB)) :
    Calls Try.prog 56 #[.slice (some ⟨g, 0, none⟩) n c] w fun e w' => ∃ m, e = .returned (.slice (some ⟨g, 0, none⟩) m c) ∧ OwS w' lo (.slice (some ⟨g, 0, none⟩) m c) ((compactUpTo ys.toArray ys.toArray.size).map mkB) ∧ Fr (fun k => k = g) w w' := by
  obtain ⟨cur, hh, hlo, hn, hc, hc2, hsz, h24, ht⟩ := ho.blk
  subst hn
  have hlen : (ys.map mkB).length = ys.length := by simp
  have h0 := Try.slices_Compact_f56 encStr (fun _ => rfl) (eqlS _) (neqS _) [] Try.zeroValue9 g 0 c ys.toArray w (holds_of_block hh (by rw [hlen] at ht; rw [ht, map_enc])) (by simp; omega) (by simpa using hc)
  rw [show ys.toArray.size = ys.length by simp] at h0 ⊢
  rw [hlen] at ho ⊢
  refine h0.mono ?_
  rintro e w' ⟨rfl, q, rfl⟩
  have hcl : (compactUpTo ys.toArray ys.length).length ≤ ys.length := by
    unfold compactUpTo
    rw [List.length_map]
    exact Nat.le_trans (List.length_filter_le _ _) (by simp)
  obtain ⟨h1, h2⟩ := ho.srt (q := q) (os := #[]) (ys := compactUpTo ys.toArray ys.length ++ List.replicate (ys.length - (compactUpTo ys.toArray ys.length).length) []) (by rw [List.length_append, List.length_replicate]; omega) _ hcl
  rw [List.take_left' rfl, grow0] at h1
  rw [grow0] at h2
  exact ⟨_, rfl, h1, h2⟩
theorem sortS_set (xs : List ByteArray) : (compactUpTo ((xs.map bs).mergeSort fun x y => decide (x ≤ y)).toArray ((xs.map bs).mergeSort fun x y => decide (x ≤ y)).toArray.size).map mkB = setS ltS xs := by
  rw [sortB, setS_bs]
end Go.Proofs.Ytmcnnbjgehmmoaa.mem
