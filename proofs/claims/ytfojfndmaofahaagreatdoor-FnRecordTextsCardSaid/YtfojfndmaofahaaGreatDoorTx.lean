/-
  Texts of numbers in the reference: digits, words with something between them.
-/
import Derived.Test.YtfojfndmaofahaaGreatDoorUs
import Derived.Test.YtfojfndmaofahaaGreatDoorWord
import Derived.Test.YtfojfndmaofahaaGreatDoorReg
import Derived.Deep.DeepFit
import Derived.Lib.ItoaNum
import Derived.Lib.Join
import Derived.Laws.BytesArg
namespace Go.Proofs.YtfojfndmaofahaaGreatDoor.mem
open Go.ChangeShapes Go.WideShapes Go.ChangeAt Go.RowKit

/-- the digits of a number, in decimal -/
def decW (n : Nat) : ByteArray := ⟨(Lib.decDigits n).toArray⟩
theorem decW_one {n : Nat} (h : n < 10) : strOfNums [48 + (n : Int)] = decW n := by
  unfold decW strOfNums
  rw [Lib.decDigits_one h]
  simp only [List.map_cons, List.map_nil]
  rw [show (48 + (n : Int)).toNat = 48 + n by omega]
theorem decW_more {n : Nat} (h : ¬ n < 10) : decW (n / 10) ++ strOfNums [48 + (n : Int) % 10] = decW n := by
  unfold decW strOfNums
  rw [show Lib.decDigits n = Lib.decDigits (n / 10) ++ [UInt8.ofNat (48 + n % 10)] by rw [Lib.decDigits, dif_neg h]]
  apply ByteArray.ext
  simp only [ByteArray.data_append, List.map_cons, List.map_nil]
  rw [show (48 + (n : Int) % 10).toNat = 48 + n % 10 by omega]
  simp
theorem decDigits_le : ∀ n : Nat, (Lib.decDigits n).length ≤ n + 1 := fun n => by
  induction n using Nat.strongRecOn with
  | _ n ih =>
    by_cases h : n < 10
    · rw [Lib.decDigits_one h]; simp
    · rw [Lib.decDigits, dif_neg h, List.length_append]
      have := ih (n / 10) (by omega)
      simp only [List.length_singleton]
      omega
theorem decW_le (n : Nat) : (decW n).size ≤ n + 1 := by
  have := decDigits_le n
  simpa [decW, ByteArray.size] using this
theorem conv_byte (w : World) (b : Nat) (c : Int) (h : Blk w b 5 #[.int .u8 c]) : (convert 22 9 (.slice (some ⟨b, 0, none⟩) 1 1)).run Tryz.prog w = .ok (.string (strOfNums [c])) w :=
  run_convert_bytes_arg _ 22 5 Tryz.underlying22 Tryz.underlying5 b 0 1 1 [c] rfl (fun i hi => by
    obtain rfl : i = 0 := by omega
    exact h.get 0 _ rfl) 9 Tryz.underlying9
set_option maxRecDepth 20000 in
set_option maxHeartbeats 1000000 in
theorem spec.l01Dec_any (n : Nat) : ∀ (w : World), n ≤ 9223372036854775000 →
    Calls Tryz.prog 83 #[.int .i64 (n : Int)] w fun e w' => e = .returned (.string (decW n)) ∧ Ext w w' := by
  induction n using Nat.strongRecOn with
  | _ n ih =>
    intro w hn
    by_cases h : n < 10
    · have kc : (convert 22 9 (.slice (some ⟨w.heap.size, 0, none⟩) 1 1)).run Tryz.prog (w.alloc (.cells #[.int .u8 (48 + (n : Int))] 5)) = .ok (.string (strOfNums [48 + (n : Int)])) (w.alloc (.cells #[.int .u8 (48 + (n : Int))] 5)) :=
          run_convert_bytes_arg _ 22 5 Tryz.underlying22 Tryz.underlying5 w.heap.size 0 1 1 [48 + (n : Int)] rfl (fun i hi => by
            obtain rfl : i = 0 := by omega
            exact (Blk.new w 5 #[.int .u8 (48 + (n : Int))]).get 0 _ rfl) 9 Tryz.underlying9
      rw [decW_one h] at kc
      go_enter Tryz.func83, Tryz.ntmps83
      go_wp2
      go_ret
      exact ⟨rfl, (Ext.refl w).alloc _⟩
    · have e10 : ((n / 10 : Nat) : Int) = (n : Int) / 10 := by omega
      have hc := fun W => ih (n / 10) (by omega) W (by omega)
      simp only [e10] at hc
      clear e10
      have hm := hide (decW_more h)
      have hl := decW_le (n / 10)
      have hz : (strOfNums [48 + (n : Int) % 10]).size = 1 := rfl
      have hzy : (decW (n / 10) ++ strOfNums [48 + (n : Int) % 10]).size = (decW (n / 10)).size + 1 := by rw [ByteArray.size_append, hz]
      have hzz : ¬ 9223372036854775807 < (decW (n / 10)).size + 1 := by omega
      have f1 : IntKind.i64.wrap ((n : Int) / 10) = (n : Int) / 10 := Go.IntWalk.i64_in _ (by omega)
      have f2 : (n : Int).tmod 10 = (n : Int) % 10 := Int.tmod_eq_emod_of_nonneg (by omega)
      have f3 : IntKind.i64.wrap (48 + (n : Int) % 10) = 48 + (n : Int) % 10 := Go.IntWalk.i64_in _ (by omega)
      have f4 : IntKind.u8.wrap (48 + (n : Int) % 10) = 48 + (n : Int) % 10 := Go.IntWalk.u8_in _ (by omega)
      go_enter Tryz.func83, Tryz.ntmps83
      go_upto_region 10 with fail
      have hW := (Ext.refl w).drew
      refine wp_region_sink (S := fun _ => True) 10 (by kernel_rfl) ?_
      change wpAnyT _ _ _ _ _ _ _ _ _ (World.drew _)
      generalize hwd : World.drew _ = wd at hW ⊢
      clear hwd
      refine wpAnyT_takeL (i := 0) 6 (v := ?_) rfl (by kernel_rfl) (by kernel_rfl) (by kernel_rfl) (by kernel_rfl) (by kernel_rfl) (fun _ _ _ h => h) (Or.inl ⟨by rfl, ?_⟩) trivial ?_
      rotate_left 1
      · (intro W hSw; (try dsimp only at hSw); go_simp) <;> with_reducible rfl
      try simp only [Act.put, List.setIfInBounds_toArray, List.set_cons_zero, List.set_cons_succ]
      refine wpAnyT_takeL (i := 1) 6 (v := ?_) rfl (by kernel_rfl) (by kernel_rfl) (by kernel_rfl) (by kernel_rfl) (by kernel_rfl) (fun _ _ _ h => h) (Or.inl ⟨by rfl, ?_⟩) trivial ?_
      rotate_left 1
      · (intro W hSw; (try dsimp only at hSw); go_simp) <;> with_reducible rfl
      try simp only [Act.put, List.setIfInBounds_toArray, List.set_cons_zero, List.set_cons_succ]
      refine wpAnyT_takeL (i := 3) 6 (v := ?_) rfl (by kernel_rfl) (by kernel_rfl) (by kernel_rfl) (by kernel_rfl) (by kernel_rfl) (fun _ _ _ h => h) (Or.inl ⟨by rfl, ?_⟩) trivial ?_
      rotate_left 1
      · (intro W hSw; (try dsimp only at hSw); go_simp) <;> with_reducible rfl
      try simp only [Act.put, List.setIfInBounds_toArray, List.set_cons_zero, List.set_cons_succ]
      refine wpAnyT_takeL (i := 4) 6 (v := ?_) rfl (by kernel_rfl) (by kernel_rfl) (by kernel_rfl) (by kernel_rfl) (by kernel_rfl) (fun _ _ _ h => h) (Or.inl ⟨by rfl, ?_⟩) trivial ?_
      rotate_left 1
      · (intro W hSw; (try dsimp only at hSw); go_simp) <;> with_reducible rfl
      try simp only [Act.put, List.setIfInBounds_toArray, List.set_cons_zero, List.set_cons_succ]
      refine wpAnyT_takeL (i := 5) 6 (v := ?_) rfl (by kernel_rfl) (by kernel_rfl) (by kernel_rfl) (by kernel_rfl) (by kernel_rfl) (fun _ _ _ h => h) (Or.inl ⟨by rfl, ?_⟩) trivial ?_
      rotate_left 1
      · (intro W hSw; (try dsimp only at hSw); go_simp) <;> with_reducible rfl
      try simp only [Act.put, List.setIfInBounds_toArray, List.set_cons_zero, List.set_cons_succ]
      refine wpAnyT_takeL (i := 6) 6 (v := ?_) rfl (by kernel_rfl) (by kernel_rfl) (by kernel_rfl) (by kernel_rfl) (by kernel_rfl) (fun _ _ _ h => h) (Or.inl ⟨by rfl, ?_⟩) trivial ?_
      rotate_left 1
      · (intro W hSw; (try dsimp only at hSw); go_simp) <;> with_reducible rfl
      try simp only [Act.put, List.setIfInBounds_toArray, List.set_cons_zero, List.set_cons_succ]
      refine wpAnyT_go2 (i := 2) (j := 7) rfl rfl (by kernel_rfl) (fun K hK => ?_) (fun K hK => ?_)
      · skip
        go_simp
        go_at_call 83
        go_fit (hc _)
        rintro e w1 ⟨rfl, hx⟩
        go_simp
        replace hW := hW.trans hx
        try replace hb := hb.ext hx
        refine hK _ _ ⟨fun _ => trivial, ?_⟩
        clear hK K hx
        refine wpAnyT_go (i := 7) rfl (by kernel_rfl) fun K hK => ?_
        go_simp
        have hx := (Ext.refl w1).alloc (.cells #[.int .u8 (48 + (n : Int) % 10)] 5)
        have hb := Blk.new w1 5 (#[.int .u8 (48 + (n : Int) % 10)])
        obtain ⟨b, hbb⟩ : ∃ b, b = w1.heap.size := ⟨_, rfl⟩
        generalize hw : World.alloc w1 (.cells #[.int .u8 (48 + (n : Int) % 10)] 5) = w2 at hx hb ⊢
        rw [← hbb] at hb ⊢
        replace hW := hW.trans hx
        refine hK _ _ ⟨fun _ => trivial, ?_⟩
        clear hK K hx hbb hw
        refine wpAnyT_go (i := 8) rfl (by kernel_rfl) fun K hK => ?_
        have kc := conv_byte _ _ _ hb
        go_simp
        refine hK _ _ ⟨fun _ => trivial, ?_⟩
        clear hK K kc
        refine wpAnyT_go (i := 9) rfl (by kernel_rfl) fun K hK => ?_
        go_simp
        refine hK _ _ ⟨fun _ => trivial, ?_⟩
        clear hK K
        refine wpAnyT_go (i := 10) rfl (by kernel_rfl) fun K hK => ?_
        go_simp
        refine hK _ _ ⟨fun h => absurd rfl h, ?_⟩
        clear hK K
        refine wpAnyT_done (by kernel_rfl) ?_ _
        go_wp2
        go_ret
        exact ⟨by rw [hm.out]; rfl, hW⟩
      · skip
        go_simp
        have hx := (Ext.refl wd).alloc (.cells #[.int .u8 (48 + (n : Int) % 10)] 5)
        have hb := Blk.new wd 5 (#[.int .u8 (48 + (n : Int) % 10)])
        obtain ⟨b, hbb⟩ : ∃ b, b = wd.heap.size := ⟨_, rfl⟩
        generalize hw : World.alloc wd (.cells #[.int .u8 (48 + (n : Int) % 10)] 5) = w1 at hx hb ⊢
        rw [← hbb] at hb ⊢
        replace hW := hW.trans hx
        refine hK _ _ ⟨fun _ => trivial, ?_⟩
        clear hK K hx hbb hw
        refine wpAnyT_go2 (i := 2) (j := 8) rfl rfl (by kernel_rfl) (fun K hK => ?_) (fun K hK => ?_)
        · skip
          go_simp
          go_at_call 83
          go_fit (hc _)
          rintro e w2 ⟨rfl, hx⟩
          go_simp
          replace hW := hW.trans hx
          try replace hb := hb.ext hx
          refine hK _ _ ⟨fun _ => trivial, ?_⟩
          clear hK K hx
          refine wpAnyT_go (i := 8) rfl (by kernel_rfl) fun K hK => ?_
          have kc := conv_byte _ _ _ hb
          go_simp
          refine hK _ _ ⟨fun _ => trivial, ?_⟩
          clear hK K kc
          refine wpAnyT_go (i := 9) rfl (by kernel_rfl) fun K hK => ?_
          go_simp
          refine hK _ _ ⟨fun _ => trivial, ?_⟩
          clear hK K
          refine wpAnyT_go (i := 10) rfl (by kernel_rfl) fun K hK => ?_
          go_simp
          refine hK _ _ ⟨fun h => absurd rfl h, ?_⟩
          clear hK K
          refine wpAnyT_done (by kernel_rfl) ?_ _
          go_wp2
          go_ret
          exact ⟨by rw [hm.out]; rfl, hW⟩
        · skip
          have kc := conv_byte _ _ _ hb
          go_simp
          refine hK _ _ ⟨fun _ => trivial, ?_⟩
          clear hK K kc
          refine wpAnyT_go (i := 2) rfl (by kernel_rfl) fun K hK => ?_
          go_simp
          go_at_call 83
          go_fit (hc _)
          rintro e w2 ⟨rfl, hx⟩
          go_simp
          replace hW := hW.trans hx
          try replace hb := hb.ext hx
          refine hK _ _ ⟨fun _ => trivial, ?_⟩
          clear hK K hx
          refine wpAnyT_go (i := 9) rfl (by kernel_rfl) fun K hK => ?_
          go_simp
          refine hK _ _ ⟨fun _ => trivial, ?_⟩
          clear hK K
          refine wpAnyT_go (i := 10) rfl (by kernel_rfl) fun K hK => ?_
          go_simp
          refine hK _ _ ⟨fun h => absurd rfl h, ?_⟩
          clear hK K
          refine wpAnyT_done (by kernel_rfl) ?_ _
          go_wp2
          go_ret
          exact ⟨by rw [hm.out]; rfl, hW⟩
/-- words with something between them -/
def joinW (ss : List ByteArray) (sep : ByteArray) : ByteArray := ⟨(Lib.join (ss.map (·.data.toList)) sep.data.toList).toArray⟩
theorem joinW_nil (sep : ByteArray) : joinW [] sep = ⟨#[]⟩ := rfl
theorem joinW_one (s sep : ByteArray) : joinW [s] sep = s := by
  unfold joinW
  simp [Lib.join_one]
theorem joinW_snoc {ss : List ByteArray} (h : ss ≠ []) (s sep : ByteArray) : joinW (ss ++ [s]) sep = (joinW ss sep ++ sep) ++ s := by
  match ss, h with
  | x :: r, _ =>
    unfold joinW
    simp only [List.cons_append, List.map_cons, List.map_append, List.map_nil, Lib.join_cons]
    apply ByteArray.ext
    simp [Lib.joinTail, List.append_assoc]
theorem joinW_size {ss : List ByteArray} {sep : ByteArray} {b c : Nat} (hs : ∀ s ∈ ss, s.size ≤ b) (hc : sep.size ≤ c) : ∀ k, k ≤ ss.length → (joinW (ss.take k) sep).size ≤ k * (b + c)
  | 0, _ => by simp [joinW_nil, ByteArray.size]
  | k + 1, hk => by
    have ih := joinW_size hs hc k (by omega)
    have hm : ss[k]? = some ss[k] := List.getElem?_eq_getElem (by omega)
    have h1 := hs ss[k] (List.getElem_mem _)
    rw [List.take_add_one, hm]
    simp only [Option.toList_some]
    by_cases h0 : ss.take k = []
    · rw [h0, List.nil_append, joinW_one, Nat.add_mul]
      omega
    · rw [joinW_snoc h0, ByteArray.size_append, ByteArray.size_append, Nat.add_mul]
      omega
end Go.Proofs.YtfojfndmaofahaaGreatDoor.mem
