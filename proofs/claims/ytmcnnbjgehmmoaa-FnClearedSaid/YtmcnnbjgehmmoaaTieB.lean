/-
  Ties and lists of texts in the laws: comparing and marking.
-/
import Derived.Test.YtmcnnbjgehmmoaaTis
import Derived.Deep.RegionHeld3
import Derived.Laws.BytesArg
import Derived.Deep.Strs
import Derived.Lib.SmallJoins
namespace Go.Proofs.Ytmcnnbjgehmmoaa.mem
open Go.ChangeShapes Go.WideShapes Go.ChangeAt Go.RowKit Go.Joins

theorem eqStringS_yes (s s' : Sl) (ss : List ByteArray) (w : World) (hr : RdW w s.A s.n ss) (hr' : RdW w s'.A s'.n ss) :
    Calls Try.prog 26 #[.slice s.A s.n s.c, .slice s'.A s'.n s'.c] w fun e w' => e = .returned (.bool true) ∧ Ext w w' := by
  obtain ⟨A, n, c⟩ := s
  obtain ⟨A', n', c'⟩ := s'
  simp only at hr hr' ⊢
  have hn := hr.2.1
  obtain rfl : n = n' := hr.1.trans hr'.1.symm
  have hl2 : ((n : Int) != n) = false := by simp
  go_enter Try.func26, Try.ntmps26
  go_wp2
  go_loopw [5] (fun i wr => ∃ k q : Nat, k ≤ n ∧ i = .int .i64 k ∧ wr = w.drewN q) (fun i _ => n - (intOf i).toNat)
  case atStart => exact ⟨0, 0, by omega, rfl, rfl⟩
  case round =>
    obtain ⟨k, q, hk, rfl, rfl⟩ := hrel
    by_cases hlt : k < n
    · obtain ⟨b, off, x, rfl, hbl, hc1, hxs, hx⟩ := hr.el hlt
      obtain ⟨b', off', y, rfl, hbl', hc1', hys, hy⟩ := hr'.el hlt
      obtain rfl : x = y := by
        have h1 := hx.out
        rw [hy.out] at h1
        injection h1 with h1
        exact h1.symm
      have hne : (x.toList == x.toList) = true := beq_self_eq_true _
      have hne2 : (x.toList != x.toList) = false := by simp
      go_wp2
      go_region
      all_goals go_wp2
      all_goals go_roundw
      all_goals first | (case rel => exact ⟨k + 1, q + 1, by omega, by go_num, by simp⟩) | (case measure => simp [intOf]; omega)
    · go_wp2
      go_ret
      exact ⟨rfl, (Ext.refl w).drewN q⟩
set_option maxHeartbeats 2000000 in
theorem eqTieS_yes (s s' : Sl) (ts : List Ti) (w : World) (hr : RdT w s.A s.n ts) (hr' : RdT w s'.A s'.n ts) :
    Calls Try.prog 25 #[.slice s.A s.n s.c, .slice s'.A s'.n s'.c] w fun e w' => e = .returned (.bool true) ∧ Ext w w' := by
  obtain ⟨A, n, c⟩ := s
  obtain ⟨A', n', c'⟩ := s'
  simp only at hr hr' ⊢
  have hn := hr.2.1
  obtain rfl : n = n' := hr.1.trans hr'.1.symm
  have hl2 : ((n : Int) != n) = false := by simp
  go_enter Try.func25, Try.ntmps25
  go_wp2
  go_loopw [5] (fun i wr => ∃ k : Nat, k ≤ n ∧ i = .int .i64 k ∧ Ext w wr) (fun i _ => n - (intOf i).toNat)
  case atStart => exact ⟨0, by omega, rfl, Ext.refl _⟩
  case round =>
    obtain ⟨k, hk, rfl, hx⟩ := hrel
    by_cases hlt : k < n
    · obtain ⟨b, off, t, rfl, hbl, ⟨c0, c1, c2, c3⟩, hts, ht⟩ := (hr.ext hx).el hlt
      obtain ⟨b', off', t', rfl, hbl', ⟨d0, d1, d2, d3⟩, hts', ht'⟩ := (hr'.ext hx).el hlt
      obtain rfl : t = t' := by
        have h1 := ht.out
        rw [ht'.out] at h1
        injection h1 with h1
        exact h1.symm
      go_wp2
      go_region_held3 (fun w' => w'.cell? ⟨b, off + k * 4, none⟩ = some (.int .i64 t.n) ∧ w'.cell? ⟨b, off + k * 4 + 1, none⟩ = some (.string t.s) ∧ w'.cell? ⟨b, off + k * 4 + 2, none⟩ = some (.int .i64 t.k) ∧ w'.cell? ⟨b, off + k * 4 + 3, none⟩ = some (.bool t.f) ∧ w'.cell? ⟨b', off' + k * 4, none⟩ = some (.int .i64 t.n) ∧ w'.cell? ⟨b', off' + k * 4 + 1, none⟩ = some (.string t.s) ∧ w'.cell? ⟨b', off' + k * 4 + 2, none⟩ = some (.int .i64 t.k) ∧ w'.cell? ⟨b', off' + k * 4 + 3, none⟩ = some (.bool t.f)) (first | trivial | go_keep) (first | (go_at_call 64; refine (eqTie_yes t _).mono ?_; rintro e w1 ⟨rfl, hx1⟩; have kk := And.intro trivial (show w1.cell? ⟨b, off + k * 4, none⟩ = some (.int .i64 t.n) ∧ w1.cell? ⟨b, off + k * 4 + 1, none⟩ = some (.string t.s) ∧ w1.cell? ⟨b, off + k * 4 + 2, none⟩ = some (.int .i64 t.k) ∧ w1.cell? ⟨b, off + k * 4 + 3, none⟩ = some (.bool t.f) ∧ w1.cell? ⟨b', off' + k * 4, none⟩ = some (.int .i64 t.n) ∧ w1.cell? ⟨b', off' + k * 4 + 1, none⟩ = some (.string t.s) ∧ w1.cell? ⟨b', off' + k * 4 + 2, none⟩ = some (.int .i64 t.k) ∧ w1.cell? ⟨b', off' + k * 4 + 3, none⟩ = some (.bool t.f) from ⟨(hx1.cell (p := ⟨b, _, none⟩) hbl).trans c0, (hx1.cell (p := ⟨b, _, none⟩) hbl).trans c1, (hx1.cell (p := ⟨b, _, none⟩) hbl).trans c2, (hx1.cell (p := ⟨b, _, none⟩) hbl).trans c3, (hx1.cell (p := ⟨b', _, none⟩) hbl').trans d0, (hx1.cell (p := ⟨b', _, none⟩) hbl').trans d1, (hx1.cell (p := ⟨b', _, none⟩) hbl').trans d2, (hx1.cell (p := ⟨b', _, none⟩) hbl').trans d3⟩)))
      all_goals
        go_wp2
        go_roundw
        case rel => exact ⟨k + 1, by omega, by go_num, hx.drew.trans hx1⟩
        case measure => simp [intOf]; omega
    · go_wp2
      go_ret
      exact ⟨rfl, hx⟩
theorem Fr.set_ {S : Nat → Prop} {w w' : World} (h : Fr S w w') {g : Nat} (hg : S g) (i : Nat) (u : Value) : Fr S w (w'.setCell ⟨g, i, none⟩ u) :=
  ⟨h.os, h.tape, h.output, by rw [size_off]; exact h.size, fun k hk hn => (Below.heap_setCell w' ⟨g, i, none⟩ u k (fun e => hn (by subst e; exact hg))).trans (h.block k hk hn)⟩
set_option maxRecDepth 20000 in
theorem markText_any (k : Int) (w : World) (h0 : 0 ≤ k) (h1 : k ≤ 1000000000) :
    Calls Try.prog 65 #[.int .i64 k] w fun e w' => ∃ x : ByteArray, e = .returned (.string x) ∧ Ext w w' := by
  obtain ⟨m, rfl⟩ : ∃ m : Nat, k = m := ⟨k.toNat, by omega⟩
  by_cases hz : m = 0
  · subst hz
    go_enter Try.func65, Try.ntmps65
    go_wp2
    go_ret
    exact ⟨_, rfl, Ext.refl _⟩
  · go_enter Try.func65, Try.ntmps65
    go_wp2
    go_loopw [0, 3] (fun a x wr => ∃ (j : Nat) (y : ByteArray), a = .int .i64 j ∧ x = .string y ∧ y.size + j ≤ m ∧ Ext w wr) (fun a _ _ => (intOf a).toNat)
    case atStart => exact ⟨m, _, rfl, rfl, by show 0 + m ≤ m; omega, Ext.refl _⟩
    case round =>
      obtain ⟨j, y, rfl, rfl, hj, hx⟩ := hrel
      by_cases hp : j = 0
      · subst hp
        go_wp2
        go_ret
        exact ⟨_, rfl, hx⟩
      · have kc : (convert 22 9 (.slice (some ⟨wr.heap.size, 0, none⟩) 1 1)).run Try.prog (wr.alloc (.cells #[.int .u8 (48 + (j : Int) % 10)] 5)) = .ok (.string (strOfNums [48 + (j : Int) % 10])) (wr.alloc (.cells #[.int .u8 (48 + (j : Int) % 10)] 5)) :=
          run_convert_bytes_arg _ 22 5 Try.underlying22 Try.underlying5 wr.heap.size 0 1 1 [48 + (j : Int) % 10] rfl (fun i hi => by
            obtain rfl : i = 0 := by omega
            exact (Blk.new wr 5 #[.int .u8 (48 + (j : Int) % 10)]).get 0 _ rfl) 9 Try.underlying9
        have hz : (strOfNums [48 + (j : Int) % 10]).size = 1 := rfl
        revert kc hz
        generalize strOfNums [48 + (j : Int) % 10] = z
        intro kc hz
        have hzy : (z ++ y).size = 1 + y.size := by rw [ByteArray.size_append, hz]
        go_wp2
        clear kc
        go_roundw
        case rel => exact ⟨j / 10, z ++ y, by go_num, rfl, by omega, hx.alloc _⟩
        case measure => simp [intOf]; omega
set_option maxHeartbeats 1000000 in
theorem markStringS_any (s : Sl) (lo : Nat) (k0 : Int) (ss : List ByteArray) (w : World) (ho : OwnW w lo s ss) (h0 : 0 ≤ k0) (h1 : k0 ≤ 100000000) :
    Calls Try.prog 28 #[.slice s.A s.n s.c, .int .i64 k0] w fun e w' => e = .returned (.int .i64 (k0 + s.n)) ∧ Fr (fun k => Value.ownBlock (.slice s.A s.n s.c) = some k ∨ w.heap.size ≤ k) w w' := by
  obtain ⟨A, n, c⟩ := s
  obtain ⟨hl, hn, _, hcap, b, cs, hA, hlo, hb, hsz, _⟩ := ho
  simp only at hA hn hsz hl
  subst hA
  clear hl hcap hlo
  have hbs := hb.lt
  go_enter Try.func28, Try.ntmps28
  go_wp2
  go_loopw [1, 5] (fun a i wr => ∃ k : Nat, k ≤ n ∧ a = .int .i64 (k0 + k) ∧ i = .int .i64 k ∧ Fr (fun j => Value.ownBlock (.slice (some ⟨b, 0, none⟩) n c) = some j ∨ w.heap.size ≤ j) w wr ∧ ∃ cs : Array Value, Blk wr b 9 cs ∧ cs.size = n) (fun _ i _ => n - (intOf i).toNat)
  case atStart => exact ⟨0, by omega, by go_num, rfl, Fr.refl _ _, cs, hb, hsz⟩
  case round =>
    obtain ⟨k, hk, rfl, rfl, hf, cs', hb', hsz'⟩ := hrel
    by_cases hlt : k < n
    · go_wp2_with fail
      refine (markText_any _ _ (by omega) (by omega)).mono ?_
      rintro e w1 ⟨x, rfl, hx1⟩
      have hb1 := hb'.ext hx1
      have c2 := hb1.cell k
      have c3 := hb1.frozen k
      rw [Array.getElem?_eq_getElem (by omega)] at c2
      go_wp2
      go_roundw
      case rel => exact ⟨k + 1, by omega, by go_num, by go_num, (hf.trans (hx1.fr.mono (fun j hj hs => hs))).set_ (.inl rfl) k _, _, hb1.set_ k _, by simpa using hsz'⟩
      case measure => simp [intOf]; omega
    · go_wp2
      go_ret
      have e : k = n := by omega
      subst e
      exact ⟨rfl, hf⟩
set_option maxHeartbeats 2000000 in
theorem markTieS_any (s : Sl) (lo : Nat) (k0 : Int) (ts : List Ti) (w : World) (ho : OwnT w lo s ts) (h0 : 0 ≤ k0) (h1 : k0 ≤ 100000000) :
    Calls Try.prog 27 #[.slice s.A s.n s.c, .int .i64 k0] w fun e w' => e = .returned (.int .i64 (k0 + 4 * s.n)) ∧ Fr (fun k => Value.ownBlock (.slice s.A s.n s.c) = some k ∨ w.heap.size ≤ k) w w' := by
  obtain ⟨A, n, c⟩ := s
  obtain ⟨hl, hn, _, hcap, b, cs, hA, hlo, hb, hsz, _⟩ := ho
  simp only at hA hn hsz hl
  subst hA
  clear hl hcap hlo
  have hbs := hb.lt
  go_enter Try.func27, Try.ntmps27
  go_wp2
  go_loopw [1, 5] (fun a i wr => ∃ k : Nat, k ≤ n ∧ a = .int .i64 (k0 + 4 * k) ∧ i = .int .i64 k ∧ Fr (fun j => Value.ownBlock (.slice (some ⟨b, 0, none⟩) n c) = some j ∨ w.heap.size ≤ j) w wr ∧ ∃ cs : Array Value, Blk wr b 68 cs ∧ cs.size = n * 4) (fun _ i _ => n - (intOf i).toNat)
  case atStart => exact ⟨0, by omega, by go_num, rfl, Fr.refl _ _, cs, hb, hsz⟩
  case round =>
    obtain ⟨k, hk, rfl, rfl, hf, cs', hb', hsz'⟩ := hrel
    by_cases hlt : k < n
    · have c0 := hb'.cell (k * 4)
      have z0 := hb'.frozen (k * 4)
      rw [Array.getElem?_eq_getElem (by omega)] at c0
      go_wp2_with fail
      refine (markText_any _ _ (by omega) (by omega)).mono ?_
      rintro e w1 ⟨x, rfl, hx1⟩
      clear c0 z0
      have hf0 := hf.set_ (g := b) (.inl rfl) (k * 4) (.int .i64 (k0 + 4 * k))
      have hb0 := hb'.set_ (k * 4) (.int .i64 (k0 + 4 * k))
      have hb1 := hb0.ext hx1
      have s1 : (cs'.setIfInBounds (k * 4) (.int .i64 (k0 + 4 * k))).size = n * 4 := by simpa using hsz'
      have hf1 := hf0.trans hx1.fr
      revert hb1 s1
      generalize cs'.setIfInBounds (k * 4) (.int .i64 (k0 + 4 * k)) = ds
      intro hb1 s1
      have c1 := hb1.cell (k * 4 + 1)
      have c2 := hb1.cell (k * 4 + 2)
      have c3 := hb1.cell (k * 4 + 3)
      rw [Array.getElem?_eq_getElem (by omega)] at c1 c2 c3
      have z1 := hb1.frozen (k * 4 + 1)
      have z2 := hb1.frozen (k * 4 + 2)
      have z3 := hb1.frozen (k * 4 + 3)
      go_wp2
      go_roundw
      case rel => exact ⟨k + 1, by omega, by go_num, by go_num, ((hf1.set_ (.inl rfl) (k * 4 + 1) _).set_ (.inl rfl) (k * 4 + 2) _).set_ (.inl rfl) (k * 4 + 3) _, _, ((hb1.set_ (k * 4 + 1) _).set_ (k * 4 + 2) _).set_ (k * 4 + 3) _, by simpa using s1⟩
      case measure => simp [intOf]; omega
    · go_wp2
      go_ret
      have e : k = n := by omega
      subst e
      exact ⟨rfl, hf⟩
section
variable {H : Type} {enc : TypeId × Value → H} {w : World} {spare : Nat → Bool} {held : Bool}
set_option maxRecDepth 20000 in
theorem open_strs_arg {v : Value} {d : DataW H} {ps : List MemPlace} {r : Reach} {b0 : Nat} (hv : Value.okWide Try.prog w r b0 25 v) (h : DataW.Trod enc Try.prog w 0 spare held 25 v d ps) (hsp : ∀ b, spare b = true) :
    ∃ (s : Sl) (ss : List ByteArray), v = .slice s.A s.n s.c ∧ InW w s ss := by
  obtain ⟨a0, len0, cap0, rfl⟩ := okWide_slice Try.underlying25 hv
  obtain ⟨fuel, hf⟩ := h
  rcases Go.Deep.open_strs Try.underlying25 Try.underlying9 (by kernel_rfl) hf with ⟨hcs, _⟩ | ⟨a, len, cap, m, Sx, hcs, _, hl, hm, hmm, _, hcell⟩
  · injection hcs with hcs
    exact ⟨⟨none, 0, 0⟩, [], hcs, rfl, by simp [cap1], fun _ => ⟨rfl, by omega, by simp, fun h => absurd h (by simp)⟩⟩
  · injection hcs with hcs
    rw [hsp, if_pos rfl] at hmm
    refine ⟨⟨some a, len, cap⟩, (List.range len).map Sx, hcs, by simp, by unfold maxLen at hm; exact ⟨hl, hm⟩, fun hn => ⟨by simp, hn, ?_, fun hn0 => ?_⟩⟩
    · intro x hx
      obtain ⟨i, hi, rfl⟩ := List.mem_map.1 hx
      exact (hcell i (by have := List.mem_range.1 hi; omega)).2
    · simp only at hn0 ⊢
      have h0 := (hcell 0 (by omega)).1
      obtain ⟨b, off, spot⟩ := a
      have hspot : spot = none := by simpa [Addr.add] using World.cell?_spot h0
      subst hspot
      refine ⟨b, off, rfl, ?_, fun j x hj => ?_⟩
      · have := World.block_lt_of_cell? w _ h0
        simpa [Go.WideShapes.add_plain] using this
      · rw [List.getElem?_map] at hj
        obtain ⟨i, hi, rfl⟩ := Option.map_eq_some_iff.1 hj
        have hi2 := List.getElem?_eq_some_iff.1 hi
        have hjl : j < len := by simpa using hi2.1
        have e : i = j := by have := hi2.2; simpa using this.symm
        subst e
        have := (hcell i (by omega)).1
        rw [Go.WideShapes.add_plain] at this
        exact this
end
end Go.Proofs.Ytmcnnbjgehmmoaa.mem
