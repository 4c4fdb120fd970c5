/-
  Plain laws for the text of a record: what is read is its text, and back.
-/
import Derived.Test.YtfojfndmaofahaaGreatDoorInw
import Derived.Test.YtfojfndmaofahaaGreatDoorTr
namespace Go.Proofs.YtfojfndmaofahaaGreatDoor.mem
open Go.ChangeShapes Go.WideShapes Go.ChangeAt Go.RowKit

def mkRec (a b c d e f : Int) (x y z : List Int) : RecL := ⟨a, b, c, ⟨x, y, z⟩, d, e, f⟩
/-- six numbers and three lists as a record, if it is as described -/
def rrOf (ns : Option (List Int)) (x y z : Option (List Int)) : Option RecL := match ns, x, y, z with
  | some [a, b, c, d, e, f], some x, some y, some z => if okR (mkRec a b c d e f x y z) = true then some (mkRec a b c d e f x y z) else none
  | _, _, _, _ => none
def rrO (s : ByteArray) : Option RecL := match splitW 47 s with
  | [a, b, c, d, e, f, g, h, i] => rrOf (mp pw [a, b, c, e, h, i]) (rlO d) (rlO f) (rmO g)
  | _ => none
theorem list_nine {α : Type} {l : List α} (h : l.length = 9) : ∃ a b c d e f g h i, l = [a, b, c, d, e, f, g, h, i] := by
  match l, h with
  | [a, b, c, d, e, f, g, h, i], _ => exact ⟨a, b, c, d, e, f, g, h, i, rfl⟩
theorem rrO_len {s : ByteArray} (h : (splitW 47 s).length ≠ 9) : rrO s = none := by
  unfold rrO
  split
  · rename_i e; rw [e] at h; exact absurd rfl h
  · rfl
theorem rrO_nine {s a b c d e f g h i : ByteArray} (hs : splitW 47 s = [a, b, c, d, e, f, g, h, i]) : rrO s = rrOf (mp pw [a, b, c, e, h, i]) (rlO d) (rlO f) (rmO g) := by
  unfold rrO
  rw [hs]
theorem rrOf_none {ns x y z : Option (List Int)} (h : ns = none ∨ x = none ∨ y = none ∨ z = none) : rrOf ns x y z = none := by
  unfold rrOf
  split
  · rcases h with h | h | h | h <;> cases h
  · rfl
theorem rrOf_some {a b c d e f : Int} {x y z : List Int} : rrOf (some [a, b, c, d, e, f]) (some x) (some y) (some z) = if okR (mkRec a b c d e f x y z) = true then some (mkRec a b c d e f x y z) else none := rfl
theorem mp_len {f : ByteArray → Option Int} : ∀ {ws : List ByteArray} {xs : List Int}, mp f ws = some xs → xs.length = ws.length
  | [], xs, h => by injection h with h; subst h; rfl
  | w :: r, xs, h => by
    obtain ⟨x, t, _, h2, rfl⟩ := (mp_cons _ _ _).1 h
    simp [mp_len h2]
theorem list_six {α : Type} {l : List α} (h : l.length = 6) : ∃ a b c d e f, l = [a, b, c, d, e, f] := by
  match l, h with
  | [a, b, c, d, e, f], _ => exact ⟨a, b, c, d, e, f, rfl⟩
theorem mp_six {f : ByteArray → Option Int} {a b c d e g : ByteArray} {n1 n2 n3 n4 n5 n6 : Int} (h : mp f [a, b, c, d, e, g] = some [n1, n2, n3, n4, n5, n6]) :
    f a = some n1 ∧ f b = some n2 ∧ f c = some n3 ∧ f d = some n4 ∧ f e = some n5 ∧ f g = some n6 := by
  obtain ⟨x1, t1, h1, k1, e1⟩ := (mp_cons _ _ _).1 h
  obtain ⟨x2, t2, h2, k2, e2⟩ := (mp_cons _ _ _).1 k1
  obtain ⟨x3, t3, h3, k3, e3⟩ := (mp_cons _ _ _).1 k2
  obtain ⟨x4, t4, h4, k4, e4⟩ := (mp_cons _ _ _).1 k3
  obtain ⟨x5, t5, h5, k5, e5⟩ := (mp_cons _ _ _).1 k4
  obtain ⟨x6, t6, h6, k6, e6⟩ := (mp_cons _ _ _).1 k5
  subst e6 e5 e4 e3 e2
  simp only [List.cons.injEq] at e1
  obtain ⟨rfl, rfl, rfl, rfl, rfl, rfl, _⟩ := e1
  exact ⟨h1, h2, h3, h4, h5, h6⟩
/-- what is read as a record is that record's text -/
theorem rrO_text {s : ByteArray} {y : RecL} (h : rrO s = some y) : s = recT y ∧ okR y = true := by
  unfold rrO at h
  split at h
  · rename_i a b c d e f g k i hs
    unfold rrOf at h
    split at h
    · rename_i n1 n2 n3 n4 n5 n6 x y' z e1 e2 e3 e4
      split at h
      · rename_i ho
        injection h with h
        subst h
        refine ⟨?_, ho⟩
        obtain ⟨h1, h2, h3, h4, h5, h6⟩ := mp_six e1
        show s = joinW [itoaW n1, itoaW n2, itoaW n3, numT x, itoaW n4, numT y', mvsT z, itoaW n5, itoaW n6] slW
        rw [← (pw_some h1).1, ← (pw_some h2).1, ← (pw_some h3).1, ← (pw_some h4).1, ← (pw_some h5).1, ← (pw_some h6).1, ← rlO_text e2, ← rlO_text e3, ← rmO_text e4, ← hs]
        exact (join_splitW 47 s).symm
      · cases h
    · cases h
  · cases h
theorem okR_parts {y : RecL} (h : okR y = true) : okL y.p.x = true ∧ okL y.p.y = true ∧ movB y.p.z = true ∧ y.p.z.length ≤ 40 ∧
    ((0 ≤ y.a ∧ y.a ≤ 2147483646) ∧ (1 ≤ y.b ∧ y.b ≤ 2147483646) ∧ (0 ≤ y.c ∧ y.c ≤ 2147483646) ∧ (1 ≤ y.d ∧ y.d ≤ 12) ∧ (1 ≤ y.e ∧ y.e ≤ 12) ∧ (0 ≤ y.f ∧ y.f ≤ 6)) := by
  unfold okR at h
  simp only [Bool.and_eq_true, decide_eq_true_eq] at h
  obtain ⟨ha, hb, hc, hl, hi, hd, hs, hm, hv, he, hf⟩ := h
  have hlist : ∀ (xs : List Int), (∀ x ∈ xs, valB x = true) → xs.length ≤ 60 → okL xs = true := fun xs h1 h2 => by
    unfold okL
    rw [Bool.and_eq_true, List.all_eq_true]
    exact ⟨h1, decide_eq_true h2⟩
  refine ⟨hlist _ (fun x hx => ?_) hl, hlist _ (fun x hx => ?_) ?_, hv, hm, inB_iff.1 ha, inB_iff.1 hb, inB_iff.1 hc, inB_iff.1 hd, inB_iff.1 he, inB_iff.1 hf⟩
  · unfold incB at hi
    rw [List.all_eq_true] at hi
    obtain ⟨k, hk⟩ := List.mem_iff_getElem?.1 hx
    have hu := hi k (List.mem_range.2 (List.getElem?_eq_some_iff.1 hk).1)
    unfold upAt at hu
    rw [Bool.and_eq_true, getD_of hk] at hu
    have := inB_iff.1 hu.1
    exact decide_eq_true (by omega)
  · unfold strB at hs
    simp only [Bool.and_eq_true, decide_eq_true_eq] at hs
    obtain ⟨h2, i0, i1⟩ := hs
    have i0 := inB_iff.1 i0
    have i1 := inB_iff.1 i1
    obtain ⟨k, hk⟩ := List.mem_iff_getElem?.1 hx
    have hl := (List.getElem?_eq_some_iff.1 hk).1
    have hg := getD_of hk
    refine decide_eq_true ?_
    rcases (show k = 0 ∨ k = 1 by omega) with rfl | rfl
    · rw [hg] at i0; omega
    · rw [hg] at i1; omega
  · unfold strB at hs
    simp only [Bool.and_eq_true, decide_eq_true_eq] at hs
    omega
theorem rrO_recT {y : RecL} (h : okR y = true) : rrO (recT y) = some y := by
  obtain ⟨h1, h2, h3, h4, ⟨a0, a1⟩, ⟨b0, b1⟩, ⟨c0, c1⟩, ⟨d0, d1⟩, ⟨e0, e1⟩, ⟨f0, f1⟩⟩ := okR_parts h
  have hs : splitW 47 (recT y) = [itoaW y.a, itoaW y.b, itoaW y.c, numT y.p.x, itoaW y.d, numT y.p.y, mvsT y.p.z, itoaW y.e, itoaW y.f] := by
    refine splitW_join 47 (by simp) (fun x hx => ?_)
    simp only [List.mem_cons, List.not_mem_nil, or_false] at hx
    rcases hx with rfl | rfl | rfl | rfl | rfl | rfl | rfl | rfl | rfl
    · exact itoa_far far47 _
    · exact itoa_far far47 _
    · exact itoa_far far47 _
    · exact numT_far
    · exact itoa_far far47 _
    · exact numT_far
    · exact mvsT_far h3
    · exact itoa_far far47 _
    · exact itoa_far far47 _
  have hp : mp pw [itoaW y.a, itoaW y.b, itoaW y.c, itoaW y.d, itoaW y.e, itoaW y.f] = some [y.a, y.b, y.c, y.d, y.e, y.f] := by
    have := mp_of_map (f := pw) (g := itoaW) (xs := [y.a, y.b, y.c, y.d, y.e, y.f]) (fun x hx => by
      simp only [List.mem_cons, List.not_mem_nil, or_false] at hx
      exact pw_itoa (by omega) (by omega))
    simpa using this
  rw [rrO_nine hs, hp, rlO_numT h1, rlO_numT h2, rmO_mvsT h3 h4, rrOf_some]
  have e : mkRec y.a y.b y.c y.d y.e y.f y.p.x y.p.y y.p.z = y := by cases y; rfl
  rw [e, if_pos h]
/-- the reference reads signed numbers of at most thirteen digits: no record is lost by it -/
theorem rrOf_sg {ws : List ByteArray} {x y z : Option (List Int)} (hl : ws.length = 6) : rrOf (mp sg ws) x y z = rrOf (mp pw ws) x y z := by
  cases hsg : mp sg ws with
  | some ns => rw [mp_sg_pw hsg]
  | none =>
    rw [rrOf_none (.inl rfl)]
    cases hp : mp pw ws with
    | none => rw [rrOf_none (.inl rfl)]
    | some ns =>
      obtain ⟨a, b, c, d, e, f, rfl⟩ := list_six ((mp_len hp).trans hl)
      match x, y, z with
      | none, _, _ => rw [rrOf_none (.inr (.inl rfl))]
      | some x, none, _ => rw [rrOf_none (.inr (.inr (.inl rfl)))]
      | some x, some y, none => rw [rrOf_none (.inr (.inr (.inr rfl)))]
      | some x, some y, some z =>
        rw [rrOf_some]
        split
        · rename_i ho
          obtain ⟨_, _, _, _, ⟨a0, a1⟩, ⟨b0, b1⟩, ⟨c0, c1⟩, ⟨d0, d1⟩, ⟨e0, e1⟩, ⟨f0, f1⟩⟩ := okR_parts ho
          simp only [mkRec] at a0 a1 b0 b1 c0 c1 d0 d1 e0 e1 f0 f1
          have := mp_pw_sg hp (by
            simp only [List.all_cons, List.all_nil, Bool.and_true, Bool.and_eq_true]
            unfold valB
            simp only [decide_eq_true_eq]
            omega)
          rw [hsg] at this
          cases this
        · rfl
end Go.Proofs.YtfojfndmaofahaaGreatDoor.mem
