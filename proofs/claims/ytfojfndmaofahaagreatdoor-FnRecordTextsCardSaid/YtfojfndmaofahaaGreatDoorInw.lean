/-
  Plain laws: a text that was made of a list, of moves, is read as that list.
-/
import Derived.Test.YtfojfndmaofahaaGreatDoorInv
import Derived.Test.YtfojfndmaofahaaGreatDoorRpn
namespace Go.Proofs.YtfojfndmaofahaaGreatDoor.mem
open Go.ChangeShapes Go.WideShapes Go.ChangeAt Go.RowKit

theorem splitL_one (c : UInt8) : ∀ (p : List UInt8), c ∉ p → splitL c p = [p]
  | [], _ => rfl
  | b :: p, h => by
    have hb : b ≠ c := fun e => h (by rw [e]; exact List.mem_cons_self)
    rw [splitL_cons c b p hb, splitL_one c p (fun hm => h (List.mem_cons_of_mem _ hm))]
    rfl
theorem splitL_app (c : UInt8) (r : List UInt8) : ∀ (p : List UInt8), c ∉ p → splitL c (p ++ c :: r) = p :: splitL c r
  | [], _ => by rw [List.nil_append, splitL, if_pos rfl]
  | b :: p, h => by
    have hb : b ≠ c := fun e => h (by rw [e]; exact List.mem_cons_self)
    rw [List.cons_append, splitL_cons c b _ hb, splitL_app c r p (fun hm => h (List.mem_cons_of_mem _ hm))]
    rfl
theorem splitL_join (c : UInt8) : ∀ (x : List (List UInt8)), x ≠ [] → (∀ p ∈ x, c ∉ p) → splitL c (Lib.join x [c]) = x
  | [a], _, h => by
    rw [show Lib.join [a] [c] = a by simp [Lib.join]]
    exact splitL_one c a (h a List.mem_cons_self)
  | a :: b :: t, _, h => by
    rw [show Lib.join (a :: b :: t) [c] = a ++ c :: Lib.join (b :: t) [c] by simp [Lib.join], splitL_app c _ a (h a List.mem_cons_self), splitL_join c (b :: t) (by simp) (fun p hp => h p (List.mem_cons_of_mem _ hp))]
theorem splitW_join (c : UInt8) {ws : List ByteArray} (h : ws ≠ []) (hc : ∀ x ∈ ws, c ∉ x.data.toList) : splitW c (joinW ws ⟨#[c]⟩) = ws := by
  unfold splitW joinW
  rw [show (⟨#[c]⟩ : ByteArray).data.toList = [c] from rfl, show (⟨(Lib.join (ws.map (·.data.toList)) [c]).toArray⟩ : ByteArray).data.toList = Lib.join (ws.map (·.data.toList)) [c] by simp,
    splitL_join c _ (by simpa using h) (fun p hp => by obtain ⟨x, hx, rfl⟩ := List.mem_map.1 hp; exact hc x hx), List.map_map]
  conv => rhs; rw [← List.map_id ws]
  apply List.map_congr_left
  intro a _
  simp
theorem mp_of_map {f : ByteArray → Option Int} {g : Int → ByteArray} : ∀ {xs : List Int}, (∀ x ∈ xs, f (g x) = some x) → mp f (xs.map g) = some xs
  | [], _ => rfl
  | x :: t, h => (mp_cons _ _ _).2 ⟨x, t, h x List.mem_cons_self, mp_of_map (fun y hy => h y (List.mem_cons_of_mem _ hy)), rfl⟩
/-- no digit and no minus sign -/
def farB (c : UInt8) : Prop := c.toNat < 48 ∧ c ≠ 45
theorem dec_far {c : UInt8} (hc : farB c) (u : Nat) : c ∉ Lib.decDigits u := fun h => by
  have := List.all_eq_true.1 (dec_all u).1 c h
  have := of_decide_eq_true this
  have := hc.1
  omega
theorem itoa_far {c : UInt8} (hc : farB c) (n : Int) : c ∉ (itoaW n).data.toList := by
  by_cases h : 0 ≤ n
  · rw [itoaW_pos h, decW_data]
    exact dec_far hc _
  · rw [itoaW_min (by omega)]
    intro hm
    have hm' : c ∈ [45] ++ (decW (-n).toNat).data.toList := by simpa [ByteArray.data_append] using hm
    rcases List.mem_append.1 hm' with h1 | h1
    · exact hc.2 (by simpa using h1)
    · rw [decW_data] at h1
      exact dec_far hc _ h1
theorem far44 : farB 44 := ⟨by decide, by decide⟩
theorem far47 : farB 47 := ⟨by decide, by decide⟩
theorem join_mem {c d : UInt8} : ∀ {x : List (List UInt8)}, c ∈ Lib.join x [d] → c = d ∨ ∃ p ∈ x, c ∈ p
  | [], h => by simp [Lib.join] at h
  | [a], h => .inr ⟨a, List.mem_cons_self, by simpa [Lib.join] using h⟩
  | a :: b :: t, h => by
    rw [show Lib.join (a :: b :: t) [d] = a ++ d :: Lib.join (b :: t) [d] by simp [Lib.join]] at h
    rcases List.mem_append.1 h with h | h
    · exact .inr ⟨a, List.mem_cons_self, h⟩
    · rcases List.mem_cons.1 h with h | h
      · exact .inl h
      · rcases join_mem h with h | ⟨p, hp, h⟩
        · exact .inl h
        · exact .inr ⟨p, List.mem_cons_of_mem _ hp, h⟩
theorem joinW_far {c d : UInt8} (hcd : c ≠ d) {ws : List ByteArray} (h : ∀ x ∈ ws, c ∉ x.data.toList) : c ∉ (joinW ws ⟨#[d]⟩).data.toList := by
  intro hm
  have hm' : c ∈ Lib.join (ws.map (·.data.toList)) [d] := by simpa [joinW] using hm
  rcases join_mem hm' with e | ⟨p, hp, hc⟩
  · exact hcd e
  · obtain ⟨x, hx, rfl⟩ := List.mem_map.1 hp
    exact h x hx hc
theorem pw_minus : pw ⟨#[45]⟩ = none := by decide +kernel
theorem pw_pass : pw passW = none := by decide +kernel
theorem val_itoa {x : Int} (h : valB x = true) : pw (itoaW x) = some x := by
  have := of_decide_eq_true h
  exact pw_itoa (by omega) (by omega)
theorem numT_far {xs : List Int} : (47 : UInt8) ∉ (numT xs).data.toList := by
  unfold numT
  split
  · decide
  · exact joinW_far (by decide) (fun x hx => by obtain ⟨n, _, rfl⟩ := List.mem_map.1 hx; exact itoa_far far47 n)
theorem split_ne_minus {ws : List ByteArray} (h : ws ≠ []) (hc : ∀ x ∈ ws, (44 : UInt8) ∉ x.data.toList) (hm : ∀ x ∈ ws, x ≠ ⟨#[45]⟩) : joinW ws ⟨#[44]⟩ ≠ ⟨#[45]⟩ := by
  intro e
  have h1 := splitW_join 44 h hc
  rw [e] at h1
  have h2 : splitW 44 ⟨#[45]⟩ = [⟨#[45]⟩] := by decide +kernel
  rw [h2] at h1
  rw [← h1] at hm
  exact hm _ List.mem_cons_self rfl
theorem rlO_numT {xs : List Int} (h : okL xs = true) : rlO (numT xs) = some xs := by
  unfold okL at h
  have hv : ∀ x ∈ xs, valB x = true := List.all_eq_true.1 (Bool.and_eq_true_iff.1 h).1
  by_cases h0 : xs = []
  · subst h0; exact rlO_minus
  · have hc : ∀ x ∈ xs.map itoaW, (44 : UInt8) ∉ x.data.toList := fun x hx => by obtain ⟨n, _, rfl⟩ := List.mem_map.1 hx; exact itoa_far far44 n
    have hn : xs.map itoaW ≠ [] := by simpa using h0
    unfold numT
    rw [if_neg h0]
    refine rlO_some (split_ne_minus hn hc fun x hx e => ?_) (by rw [splitW_join 44 hn hc]; exact mp_of_map fun x hx => val_itoa (hv x hx)) h
    obtain ⟨n, hn, rfl⟩ := List.mem_map.1 hx
    have := val_itoa (hv n hn)
    rw [e, pw_minus] at this
    cases this
theorem mv_all {n : Int} (h : -1 ≤ n ∧ n ≤ 11) : pm (mvT n) = some n ∧ (44 : UInt8) ∉ (mvT n).data.toList ∧ (47 : UInt8) ∉ (mvT n).data.toList ∧ mvT n ≠ ⟨#[45]⟩ := by
  by_cases h1 : n = -1
  · subst h1
    exact ⟨by rw [mvT_p]; unfold pm; rw [if_pos rfl], by decide +kernel, by decide +kernel, by decide +kernel⟩
  · have e : mvT n = itoaW n := by rw [mvT_n h1, itoaW_pos (by omega)]
    have hp := pw_itoa (n := n) (by omega) (by omega)
    rw [e]
    refine ⟨?_, itoa_far far44 n, itoa_far far47 n, fun e2 => by rw [e2, pw_minus] at hp; cases hp⟩
    unfold pm
    rw [if_neg (fun e2 => by rw [e2, pw_pass] at hp; cases hp), hp]
    simp only
    rw [if_pos (by omega)]
theorem rmO_mvsT {xs : List Int} (h : movB xs = true) (hl : xs.length ≤ 40) : rmO (mvsT xs) = some xs := by
  have hv : ∀ x ∈ xs, -1 ≤ x ∧ x ≤ 11 := fun x hx => by
    obtain ⟨k, hk⟩ := List.getElem?_of_mem hx
    exact movB_in h hk
  by_cases h0 : xs = []
  · subst h0; exact rmO_minus
  · have hc : ∀ x ∈ xs.map mvT, (44 : UInt8) ∉ x.data.toList := fun x hx => by obtain ⟨n, hn, rfl⟩ := List.mem_map.1 hx; exact (mv_all (hv n hn)).2.1
    have hn : xs.map mvT ≠ [] := by simpa using h0
    unfold mvsT
    rw [if_neg h0]
    refine rmO_some (split_ne_minus hn hc fun x hx e => ?_) (by rw [splitW_join 44 hn hc]; exact mp_of_map fun x hx => (mv_all (hv x hx)).1) hl
    obtain ⟨n, hn, rfl⟩ := List.mem_map.1 hx
    exact (mv_all (hv n hn)).2.2.2 e
theorem mvsT_far {xs : List Int} (h : movB xs = true) : (47 : UInt8) ∉ (mvsT xs).data.toList := by
  have hv : ∀ x ∈ xs, -1 ≤ x ∧ x ≤ 11 := fun x hx => by
    obtain ⟨k, hk⟩ := List.getElem?_of_mem hx
    exact movB_in h hk
  unfold mvsT
  split
  · decide
  · exact joinW_far (by decide) (fun x hx => by obtain ⟨n, hn, rfl⟩ := List.mem_map.1 hx; exact (mv_all (hv n hn)).2.2.1)
/-- what is read as moves are moves -/
theorem rmO_ok {s : ByteArray} {xs : List Int} (h : rmO s = some xs) : movB xs = true ∧ xs.length ≤ 40 := by
  unfold rmO at h
  split at h
  · injection h with h; subst h; exact ⟨rfl, by simp⟩
  · split at h
    · rename_i ys hm
      split at h
      · rename_i hl
        injection h with h
        subst h
        refine ⟨?_, hl⟩
        have key : ∀ {ws : List ByteArray} {zs : List Int}, mp pm ws = some zs → ∀ x ∈ zs, -1 ≤ x ∧ x ≤ 11 := by
          intro ws
          induction ws with
          | nil => intro zs e x hx; injection e with e; subst e; cases hx
          | cons w r ih =>
            intro zs e x hx
            obtain ⟨y, t, h1, h2, rfl⟩ := (mp_cons _ _ _).1 e
            rcases List.mem_cons.1 hx with rfl | hx
            · unfold pm at h1
              split at h1
              · injection h1 with h1; omega
              · split at h1
                · split at h1
                  · rename_i hb; injection h1 with h1; omega
                  · cases h1
                · cases h1
            · exact ih h2 x hx
        have := key hm
        unfold movB
        rw [List.all_eq_true]
        exact fun x hx => inB_yes (this x hx)
      · cases h
    · cases h
theorem panT_join (l : L3) : panT l = joinW [numT l.x, numT l.y, numT l.z] ⟨#[47]⟩ := by
  have h1 := joinW_snoc (ss := [numT l.x, numT l.y]) (by simp) (numT l.z) ⟨#[47]⟩
  have h2 := joinW_snoc (ss := [numT l.x]) (by simp) (numT l.y) ⟨#[47]⟩
  simp only [List.cons_append, List.nil_append] at h1 h2
  rw [h1, h2, joinW_one]
  rfl
theorem okP_okL {l : L3} (h : okP l = true) : okL l.x = true ∧ okL l.y = true ∧ okL l.z = true := by
  obtain ⟨⟨a, b⟩, c, d, e⟩ := okP_iff.1 h
  have hv : ∀ x ∈ allP l, valB x = true := fun x hx => decide_eq_true (by have := d.1 x hx; omega)
  have hlen : (nz l.x).length + (l.y.length + l.z.length) ≤ 60 := by simpa [allP] using c
  have hx : ∀ x ∈ l.x, valB x = true := fun x hx => by
    by_cases h0 : x = 0
    · subst h0; exact decide_eq_true (by omega)
    · exact hv x (List.mem_append_left _ (List.mem_filter.2 ⟨hx, by simpa using h0⟩))
  refine ⟨?_, ?_, ?_⟩ <;> (unfold okL; rw [Bool.and_eq_true, List.all_eq_true])
  · exact ⟨hx, decide_eq_true (by omega)⟩
  · exact ⟨fun x hx => hv x (List.mem_append_right _ (List.mem_append_left _ hx)), decide_eq_true (by omega)⟩
  · exact ⟨fun x hx => hv x (List.mem_append_right _ (List.mem_append_right _ hx)), decide_eq_true (by omega)⟩
theorem rpO_panT {l : L3} (h : okP l = true) : rpO (panT l) = some l := by
  obtain ⟨h1, h2, h3⟩ := okP_okL h
  rw [rpO_three (l := l) (a := numT l.x) (b := numT l.y) (c := numT l.z) (by
    rw [panT_join]
    exact splitW_join 47 (by simp) (fun x hx => by
      rcases List.mem_cons.1 hx with rfl | hx
      · exact numT_far
      · rcases List.mem_cons.1 hx with rfl | hx
        · exact numT_far
        · rcases List.mem_cons.1 hx with rfl | hx
          · exact numT_far
          · cases hx)) (rlO_numT h1) (rlO_numT h2) (rlO_numT h3), if_pos h]
theorem rpO_text {s : ByteArray} {l : L3} (h : rpO s = some l) : s = panT l ∧ okP l = true := by
  unfold rpO at h
  split at h
  · rename_i a b c e
    split at h
    · rename_i x y z e1 e2 e3
      split at h
      · rename_i ho
        injection h with h
        subst h
        refine ⟨?_, ho⟩
        rw [panT_join, ← rlO_text e1, ← rlO_text e2, ← rlO_text e3, ← e, join_splitW]
      · cases h
    · cases h
  · cases h
end Go.Proofs.YtfojfndmaofahaaGreatDoor.mem
