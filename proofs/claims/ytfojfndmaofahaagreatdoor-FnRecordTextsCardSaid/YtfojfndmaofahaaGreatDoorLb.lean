/-
  What the library's variables hold, kept by every call that turns nothing old; reading a number; splitting a text.
-/
import Derived.Test.YtfojfndmaofahaaGreatDoorRdR
import Derived.Stop.LaidErr
namespace Go.Proofs.YtfojfndmaofahaaGreatDoor.mem
open Go.ChangeShapes Go.WideShapes Go.ChangeAt Go.RowKit

theorem cell_lt {w : World} {a : Addr} {u : Value} (h : w.cell? a = some u) : a.block < w.heap.size := by
  rcases Nat.lt_or_ge a.block w.heap.size with hlt | hge
  · exact hlt
  · unfold World.cell? at h; rw [Array.getElem?_eq_none hge] at h; cases h
theorem cell_ext {w w' : World} {a : Addr} {u : Value} (hx : Ext w w') (h : w.cell? a = some u) : w'.cell? a = some u := (hx.cell (cell_lt h)).trans h
/-- the library's variables: the table of powers of ten, the two errors, the longest needle -/
structure Lb (w : World) : Prop where
  tab : Tab w
  syn : ∃ ev, w.cell? ⟨4, 0, none⟩ = some ev ∧ (ev = .nilIface ∨ ∃ te pe, ev = .iface te pe)
  rng : ∃ ev, w.cell? ⟨5, 0, none⟩ = some ev ∧ (ev = .nilIface ∨ ∃ te pe, ev = .iface te pe)
  max : ∃ m, w.cell? ⟨0, 0, none⟩ = some (.int .i64 m)
theorem Lb.ext {w w' : World} (h : Lb w) (hx : Ext w w') : Lb w' := by
  refine ⟨h.tab.ext hx, ?_, ?_, ?_⟩
  · obtain ⟨ev, h1, h2⟩ := h.syn; exact ⟨ev, cell_ext hx h1, h2⟩
  · obtain ⟨ev, h1, h2⟩ := h.rng; exact ⟨ev, cell_ext hx h1, h2⟩
  · obtain ⟨m, h1⟩ := h.max; exact ⟨m, cell_ext hx h1⟩
theorem impl.decimal_all (n : Int) (w : World) (h0 : -9223372036854775808 ≤ n) (h1 : n ≤ 9223372036854775807) (hT : Tab w) : Calls Tryz.prog 56 #[.int .i64 n] w fun e w' => e = .returned (.string (itoaW n)) ∧ Ext w w' := by
  have hf := fun W h => Tryz.strconv_FormatInt_10 n h0 h1 W h
  go_enter Tryz.func56, Tryz.ntmps56
  go_wp2_with fail
  go_fit (hf _ (hT _ (Ext.refl _)))
  rintro e w' ⟨rfl, k, os, rfl⟩
  go_wp2
  go_ret
  exact ⟨rfl, Lib.below_grow _ _ (Nat.le_refl _) _ _⟩
/-- strconv.ParseInt at a text that is no numeral -/
theorem parse_bad (s : ByteArray) (hlim : s.size ≤ 1048576) (h1 : ∀ v, Lib.parseIntB 64 s.data.toList ≠ .ok v) (h2 : Lib.parseIntB 64 s.data.toList ≠ .range) (ev : Value) (w : World) (hv : w.cell? ⟨4, 0, none⟩ = some ev) (hev : ev = .nilIface ∨ ∃ te pe, ev = .iface te pe) :
    Calls Tryz.prog 97 #[.string s, .int .i64 10, .int .i64 64] w fun e w' => ∃ N, e = .returned (.tuple #[.int .i64 0, .iface 127 (.pointer (some ⟨N, 0, none⟩))]) ∧ w.heap.size ≤ N ∧ w'.heap[N]? = some (.cells #[.string ⟨#[80, 97, 114, 115, 101, 73, 110, 116]⟩, .string s, ev] 145 (0, 0)) ∧ Below w.heap.size w w' :=
  Any.strconv_ParseInt_10_at64_syntax Tryz.laysC174 s (by omega) (by
    cases e : Lib.parseIntB 64 s.data.toList
    case ok v => exact absurd e (h1 v)
    case range => exact absurd e h2
    all_goals rfl) ev w hv hev
def PwP (s : ByteArray) (e : Ending) : Prop := ∃ (n : Int) (b : Bool), e = .returned (.tuple #[.int .i64 n, .bool b]) ∧ (b = true → pw s = some n) ∧ (b = false → pw s = none)
set_option maxHeartbeats 1000000 in
theorem impl.readDecimal_any (s : ByteArray) (w : World) (hs : s.size ≤ 1048576) (hL : Lb w) :
    Calls Tryz.prog 74 #[.string s] w fun e w' => PwP s e ∧ Ext w w' := by
  rcases Classical.em (∃ v, Lib.parseIntB 64 s.data.toList = .ok v) with ⟨v, hp⟩ | hno
  · skip
    have hb := Lib.parseIntB_bounds hp
    have hc := fun W => Tryz.strconv_ParseInt_10_at64_ok s (by omega) v hp W
    have hd := fun W h => impl.decimal_all v W (by omega) (by omega) h
    have hE := hide (show pw s = if itoaW v = s then some v else none by unfold pw; rw [hp])
    go_enter Tryz.func74, Tryz.ntmps74
    go_wp2_with fail
    go_fit (hc _)
    rintro e w1 ⟨rfl, hw1⟩
    have hx1 : Ext w w1 := by
      rcases hw1 with rfl | ⟨t, rfl⟩
      · exact Ext.refl _
      · exact Lib.bytesWorld_below _ _ _
    clear hw1
    go_wp2_with fail
    go_fit (hd _ (hL.tab.ext hx1))
    rintro e w2 ⟨rfl, hx2⟩
    by_cases he : itoaW v = s
    · have hu : ((itoaW v).toList == s.toList) = true := by rw [toW_inj]; exact decide_eq_true he
      have hF := hide (hE.out.trans (if_pos he))
      replace he := hide he
      go_wp2
      go_ret2
      exact ⟨⟨v, true, rfl, fun _ => hF.out, fun h => (by cases h)⟩, hx1.trans hx2⟩
    · have hu : ((itoaW v).toList == s.toList) = false := by rw [toW_inj]; exact decide_eq_false he
      have hF := hide (hE.out.trans (if_neg he))
      replace he := hide he
      go_wp2
      go_ret2
      exact ⟨⟨0, false, rfl, fun h => (by cases h), fun _ => hF.out⟩, hx1.trans hx2⟩
  rcases Classical.em (Lib.parseIntB 64 s.data.toList = .range) with hp | hnr
  · skip
    obtain ⟨ev, hv, hev⟩ := hL.rng
    have hc := Tryz.strconv_ParseInt_10_at64_range s (by omega) hp ev w hv hev
    have hE := hide (show pw s = none by unfold pw; rw [hp])
    clear hv hev
    go_enter Tryz.func74, Tryz.ntmps74
    go_wp2_with fail
    go_fit hc
    rintro e w1 ⟨N, rfl, hN, hb, hx1⟩
    clear hb hN
    go_wp2
    go_ret2
    exact ⟨⟨0, false, rfl, fun h => (by cases h), fun _ => hE.out⟩, hx1⟩
  · skip
    obtain ⟨ev, hv, hev⟩ := hL.syn
    have hc := parse_bad s hs (fun v h => hno ⟨v, h⟩) hnr ev w hv hev
    have hE := hide (show pw s = none by
      unfold pw
      cases e : Lib.parseIntB 64 s.data.toList
      case ok v => exact absurd ⟨v, e⟩ hno
      all_goals rfl)
    clear hv hev
    go_enter Tryz.func74, Tryz.ntmps74
    go_wp2_with fail
    go_fit hc
    rintro e w1 ⟨N, rfl, hN, hb, hx1⟩
    clear hb hN
    go_wp2
    go_ret2
    exact ⟨⟨0, false, rfl, fun h => (by cases h), fun _ => hE.out⟩, hx1⟩
theorem split_one (s : ByteArray) (c : UInt8) (w : World) (hs : s.size ≤ 1048576) (hL : Lb w) :
    Calls Tryz.prog 34 #[.string s, .string ⟨#[c]⟩] w fun e w' => ∃ v : Sl, e = .returned (.slice v.A v.n v.c) ∧ OwnU w' w.heap.size (.slice v.A v.n v.c) (splitW c s) ∧ Ext w w' := by
  obtain ⟨m, hm⟩ := hL.max
  have hc := Tryz.strings_Split s ⟨#[c]⟩ m w (by omega) hm (Nat.le_refl _)
  refine hc.mono fun e w' h => ?_
  obtain ⟨he, rfl⟩ := h
  subst he
  have hlen : (splitW c s).length = Lib.countB s ⟨#[c]⟩ + 1 := by
    rw [← splitW_lib]
    exact Lib.splitB_all ⟨#[c]⟩ (Nat.le_refl _) 0 _ s rfl
  have hcn := Lib.countB_le ⟨#[c]⟩ (Nat.le_refl _) s.size s (Nat.le_refl _)
  refine ⟨⟨_, _, _⟩, rfl, ?_, (Ext.refl w).alloc _⟩
  rw [splitW_lib]
  exact OwnU.of_blk (Blk.new w 9 _) (Nat.le_refl _) _ _ hlen.symm (Nat.le_refl _) (by show Lib.countB s ⟨#[c]⟩ + 1 ≤ maxLen; unfold maxLen; omega) (by simp [hlen]) (by show Lib.countB s ⟨#[c]⟩ + 1 ≤ 16777216; omega) (by show ((splitW c s).map Value.string).toArray.toList.take (Lib.countB s ⟨#[c]⟩ + 1) = _; rw [← hlen]; exact List.take_of_length_le (by simp))
end Go.Proofs.YtfojfndmaofahaaGreatDoor.mem
