/-
  Contracts of both programs' functions on panels that only look: SeatedOf, IsFull, SeatOf, GoneBefore.
  A region's walk with a held condition that isn't asked behind its last operation (the sink).
-/
import Derived.Test.YtofglgfjlbehmaaGreatPan
import Derived.OrdersHeld
import Derived.Tactics
namespace Go.Proofs.YtofglgfjlbehmaaGreat.mem
open Go.ChangeShapes Go.WideShapes Go.ChangeAt Go.RowKit

theorem spec.l12Seated_any (p : S3) (l : L3) (w : World) (hr : Rd3 w p l) :
    Calls Tryz.prog 98 #[.agg #[.slice p.x.A p.x.n p.x.c, .slice p.y.A p.y.n p.y.c, .slice p.z.A p.z.n p.z.c]] w fun e w' => ∃ t : Sl, e = .returned (.slice t.A t.n t.c) ∧ Own w' w.heap.size (.slice t.A t.n t.c) (nz l.x) ∧ Ext w w' := by
  obtain ⟨⟨A1, n1, c1⟩, ⟨A2, n2, c2⟩, ⟨A3, n3, c3⟩⟩ := p
  obtain ⟨rx, ry, rz, hs, cx, cy, cz⟩ := hr
  simp only at rx ry rz hs ⊢
  have hn := rx.le
  have hX0 := (Ext.refl w).alloc (.cells #[.slice A1 n1 c1, .slice A2 n2 c2, .slice A3 n3 c3] 40)
  have hB0 := Blk.new w 40 (#[.slice A1 n1 c1, .slice A2 n2 c2, .slice A3 n3 c3])
  have hn0 := Own.new0 (w.alloc (.cells #[.slice A1 n1 c1, .slice A2 n2 c2, .slice A3 n3 c3] 40)) (w.heap.size + 1) (by simp)
  rw [World.size_alloc] at hn0
  have hBn := hB0.alloc (.cells #[] 2)
  go_enter Tryz.func98, Tryz.ntmps98
  go_wp2
  go_loopw [3, 4] (fun v i wr => ∃ k : Nat, k ≤ n1 ∧ i = .int .i64 k ∧ (∃ t : Sl, v = .slice t.A t.n t.c ∧ Own wr (w.heap.size + 1) (.slice t.A t.n t.c) (nz (l.x.take k))) ∧ Ext w wr ∧ w.heap.size + 1 ≤ wr.heap.size ∧ Blk wr w.heap.size 40 (#[.slice A1 n1 c1, .slice A2 n2 c2, .slice A3 n3 c3])) (fun _ i _ => n1 - (intOf i).toNat)
  case atStart => exact ⟨0, by omega, rfl, ⟨⟨_, _, _⟩, rfl, hn0⟩, hX0.alloc _, by simp, hBn⟩
  case round =>
    obtain ⟨k, hk, rfl, ⟨t, rfl, ho⟩, hx, hz, hB⟩ := hrel
    have hc0 := hB.get 0 _ rfl
    by_cases hlt : k < n1
    · obtain ⟨b, off, y, rfl, hbl, hc1, hy⟩ := (rx.ext hx).el hlt
      have hl1 : (nz (l.x.take k)).length ≤ k := Nat.le_trans (nz_le _) (List.length_take_le _ _)
      have hB' := hB.alloc (.cells #[.int .i64 y] 2)
      by_cases he : y = 0
      · have hne : (y != 0) = false := by simpa using he
        have hn1 := hide (nz_snoc0 l.x k (he ▸ hy.out))
        clear he
        go_wp2
        go_roundw
        case rel => exact ⟨k + 1, by omega, by go_num, ⟨t, rfl, by rw [hn1.out]; exact ho⟩, hx, hz, hB⟩
        case measure => simp [intOf]; omega
      · have hne : (y != 0) = true := by simpa using he
        have hn1 := hide (nz_snoc l.x k y hy.out he)
        clear he
        go_wp2_with (at_builtin; refine wpList_app _ rfl (.tmp 19) (.tmp 25) rfl (w.heap.size + 1) _ _ rfl (ho.alloc _) _ _ _ [y] rfl (Rd.one wr y) (by omega) (by first | (simp; done) | (simp; omega)) ?_; intro t1 w3 ho1 hg1 hb2)
        go_roundw
        case rel => exact ⟨k + 1, by omega, by go_num, ⟨t1, rfl, by rw [hn1.out]; exact ho1⟩, (hx.alloc _).grow hg1 (fun g hg => by have := (ho.lt g hg).1; omega), by have := hg1.size; simp at this; omega, hB'.fr (Fr.of_grown hg1) (fun e => by have := (ho.lt _ e).1; omega)⟩
        case measure => simp [intOf]; omega
    · go_wp2
      go_ret
      have e : k = n1 := by omega
      subst e
      exact ⟨t, rfl, by rw [List.take_of_length_le (by rw [← rx.1]; omega)] at ho; exact ho.mono (by omega), hx⟩

/-! ### what they answer -/
def fullV (l : L3) : Bool := okP l && !hasB l.x 0
def okC (l : L3) : Int := if okP l = true then 0 else 1
def plcV (ok : Bool) (xs : List Int) (x : Int) : Int := if ok = true then (if plc xs x < 0 then 0 else plc xs x) else 0
def plcC (ok : Bool) (xs : List Int) (x : Int) : Int := if ok = true then (if plc xs x < 0 then 4 else 0) else 1
def seatV (ok : Bool) (xs : List Int) (x : Int) : Int := if ok = true then (if plc xs x < 0 ∨ x = 0 then 0 else plc xs x) else 0
def seatC (ok : Bool) (xs : List Int) (x : Int) : Int := if ok = true then (if plc xs x < 0 ∨ x = 0 then 4 else 0) else 1
def seatedV (l : L3) : List Int := if okP l = true then nz l.x else []
end Go.Proofs.YtofglgfjlbehmaaGreat.mem
namespace Go.Proofs.YtofglgfjlbehmaaGreat.mem
open Go

section
variable {P : Program} {ops : Array Oper} {Q : Exit → Act → World → Prop} {md : Region.Mode} {S : World → Prop}

def wpAnyT (P : Program) (md : Region.Mode) (ops : Array Oper) (Q : Exit → Act → World → Prop) (S : World → Prop) (n : Nat) : Nat → Array Bool → Act → World → Prop
  | 0, listed, a, w => Region.ready md ops listed = [] ∧ Q .normal a w
  | fuel + 1, listed, a, w =>
    (Region.ready md ops listed = [] → Q .normal a w) ∧
    ∀ i ∈ Region.ready md ops listed, wpOp P ops Q i (fun a' w' => (i ≠ n → S w') ∧ wpAnyT P md ops Q S n fuel (listed.setIfInBounds i true) a' w') a w

theorem wpAny_of_sink {n : Nat} : ∀ (fuel : Nat) (listed : Array Bool) (a : Act) (w : World), wpAnyT P md ops Q S n fuel listed a w → wpAny P md ops Q fuel listed a w
  | 0, _, _, _, h => h
  | fuel + 1, _, _, _, h => ⟨h.1, fun i hi => wpOp_mono (fun a' w' h' => wpAny_of_sink fuel _ a' w' h'.2) (h.2 i hi)⟩

def waitsOn (md : Region.Mode) (ops : Array Oper) (j i : Nat) : Bool :=
  (ops[j]?.map fun oj => oj.after.any fun e => Region.binds md e && e.on == i).getD false

theorem waitsOn_spec {j i : Nat} (h : waitsOn md ops j i = true) : ∃ oj, ops[j]? = some oj ∧ ∃ e ∈ oj.after, Region.binds md e = true ∧ e.on = i := by
  unfold waitsOn at h
  cases hj : ops[j]? with
  | none => rw [hj] at h; cases h
  | some oj =>
    rw [hj] at h
    obtain ⟨e, he, hb⟩ := Array.any_eq_true'.1 (show (oj.after.any fun e => Region.binds md e && e.on == i) = true from h)
    simp only [Bool.and_eq_true, beq_iff_eq] at hb
    exact ⟨oj, rfl, e, he, hb.1, hb.2⟩

theorem getD_unlisted {listed : Array Bool} {i : Nat} (h : listed.getD i true = false) : listed.getD i false = false := by
  rcases Nat.lt_or_ge i listed.size with h' | h'
  · simp [h'] at h ⊢; exact h
  · simp [Array.getElem?_eq_none h'] at h

def ClosedL (md : Region.Mode) (ops : Array Oper) (listed : Array Bool) : Prop :=
  ∀ (j : Nat) (oj : Oper), ops[j]? = some oj → listed.getD j false = true → ∀ e ∈ oj.after, Region.binds md e = true → listed.getD e.on false = true

def closedB (md : Region.Mode) (ops : Array Oper) (listed : Array Bool) : Bool :=
  (List.range ops.size).all fun j => match ops[j]? with
    | some oj => !(listed.getD j false) || oj.after.all fun e => !(Region.binds md e) || listed.getD e.on false
    | none => true

theorem closedB_spec {listed : Array Bool} (h : closedB md ops listed = true) : ClosedL md ops listed := by
  intro j oj hj hl e he hb
  have hlt : j < ops.size := (Array.getElem?_eq_some_iff.1 hj).1
  have h1 := List.all_eq_true.1 h j (List.mem_range.2 hlt)
  simp only [hj, hl, Bool.not_true, Bool.false_or] at h1
  have h2 := Array.all_eq_true'.1 h1 e he
  simpa [hb] using h2

theorem ClosedL.set {i : Nat} {listed : Array Bool} (inv : ClosedL md ops listed) (hi : i ∈ Region.ready md ops listed) : ClosedL md ops (listed.setIfInBounds i true) := by
  obtain ⟨_, oi, hoi, hall⟩ := mem_ready.1 hi
  intro j oj hj hl e he hb
  by_cases hij : i = j
  · subst hij
    have : oj = oi := Option.some.inj (hj.symm.trans hoi)
    subst this
    exact getD_set_true (hall e he hb)
  · rw [getD_set_ne false hij] at hl
    exact getD_set_true (inv j oj hj hl e he hb)

def waitsIn (md : Region.Mode) (ops : Array Oper) : Nat → Nat → Nat → Bool
  | 0, j, i => waitsOn md ops j i
  | d + 1, j, i => waitsOn md ops j i || (List.range ops.size).any fun k => waitsOn md ops j k && waitsIn md ops d k i

theorem waitsIn_spec {listed : Array Bool} (inv : ClosedL md ops listed) : ∀ (d j i : Nat), waitsIn md ops d j i = true →
    (∀ oj, ops[j]? = some oj → ∀ e ∈ oj.after, Region.binds md e = true → listed.getD e.on false = true) → listed.getD i false = true
  | 0, j, i, h, hj => by
    obtain ⟨oj, hoj, e, he, hb, hon⟩ := waitsOn_spec h
    rw [← hon]; exact hj oj hoj e he hb
  | d + 1, j, i, h, hj => by
    unfold waitsIn at h
    rcases Bool.or_eq_true .. ▸ h with h1 | h1
    · obtain ⟨oj, hoj, e, he, hb, hon⟩ := waitsOn_spec h1
      rw [← hon]; exact hj oj hoj e he hb
    · obtain ⟨k, _, hk⟩ := List.any_eq_true.1 h1
      rw [Bool.and_eq_true] at hk
      obtain ⟨oj, hoj, e, he, hb, hon⟩ := waitsOn_spec hk.1
      have hl := hj oj hoj e he hb
      rw [hon] at hl
      exact waitsIn_spec inv d k i hk.2 (fun ok hok => inv k ok hok hl)

theorem wpAnyT_first {n d i : Nat} {oi : Oper} {v : Value} (hi : ops[i]? = some oi) (hsel : ∀ (j : Nat) (o : Oper) cs b, ops[j]? = some o → o.op ≠ .select cs b)
    (hQ : ∀ c a w, Q (.panic c) (a.put oi.dst v) w → Q (.panic c) a w) (hn : waitsIn md ops d n i = true) :
    ∀ (fuel : Nat) (listed : Array Bool) (a : Act) (w : World), ClosedL md ops listed →
      (∀ j oj, ops[j]? = some oj → j ≠ i → listed.getD j true = false → (∀ e ∈ oj.after, Region.binds md e = true → e.on ≠ i) → oi.apart ops oj = true) →
      i ∈ Region.ready md ops listed → YieldsIf P ops S oi v a → S w →
      wpAnyT P md ops Q S n fuel (listed.setIfInBounds i true) (a.put oi.dst v) w → wpAnyT P md ops Q S n (fuel + 1) listed a w := by
  intro fuel
  induction fuel with
  | zero =>
    intro listed a w _ _ hr hy hS H
    refine ⟨fun h => (by rw [h] at hr; cases hr), fun j hj => ?_⟩
    by_cases hji : j = i
    · subst hji; exact hy.wpOp hi hS ⟨fun _ => hS, H⟩
    · have := ready_mono hj hji
      rw [H.1] at this
      cases this
  | succ fuel ih =>
    intro listed a w inv hfree hr hy hS H
    refine ⟨fun h => (by rw [h] at hr; cases hr), fun j hj => ?_⟩
    by_cases hji : j = i
    · subst hji; exact hy.wpOp hi hS ⟨fun _ => hS, H⟩
    · have h1 := H.2 j (ready_mono hj hji)
      obtain ⟨hjun, oj, hoj, hall⟩ := mem_ready.1 hj
      have hun := getD_unlisted (mem_ready.1 hr).1
      have hjn : j ≠ n := by
        rintro rfl
        have := waitsIn_spec inv d j i hn (fun o' ho' => by have : o' = oj := Option.some.inj (ho'.symm.trans hoj); subst this; exact hall)
        rw [hun] at this; cases this
      have hnot : ∀ e ∈ oj.after, Region.binds md e = true → e.on ≠ i := fun e he hb heq => by
        have h1 := hall e he hb
        rw [heq, hun] at h1
        cases h1
      have h2 := wpOp_putIf hoj (hfree j oj hoj hji hjun hnot) (fun cs b => hsel i oi cs b hi) (fun cs b => hsel j oj cs b hoj) hQ hy h1
      have hfree' : ∀ k ok, ops[k]? = some ok → k ≠ i → (listed.setIfInBounds j true).getD k true = false →
          (∀ e ∈ ok.after, Region.binds md e = true → e.on ≠ i) → oi.apart ops ok = true := fun k ok hk hki hun hno => by
        refine hfree k ok hk hki ?_ hno
        by_cases hjk : j = k
        · subst hjk; exact hjun
        · rw [getD_set_ne true hjk] at hun; exact hun
      refine wpOp_mono (fun a' w' h3 => ⟨h3.2.1, ih (listed.setIfInBounds j true) a' w' (inv.set hj) hfree' (ready_mono hr (Ne.symm hji)) h3.1 (h3.2.1 hjn) ?_⟩) h2
      rw [Array.setIfInBounds_comm _ _ hji]
      exact h3.2.2

theorem wpAnyT_take {n i : Nat} (d : Nat) {oi : Oper} {v : Value} {fuel : Nat} {listed : Array Bool} {a : Act} {w : World} (hi : ops[i]? = some oi)
    (hs : Region.noSelect ops = true) (hf : Region.free md ops listed i = true) (hr : (Region.ready md ops listed).contains i = true) (hc : closedB md ops listed = true) (hn : waitsIn md ops d n i = true)
    (hQ : ∀ c a w, Q (.panic c) (a.put oi.dst v) w → Q (.panic c) a w) (hy : YieldsIf P ops S oi v a) (hS : S w)
    (h : wpAnyT P md ops Q S n fuel (listed.setIfInBounds i true) (a.put oi.dst v) w) : wpAnyT P md ops Q S n (fuel + 1) listed a w :=
  wpAnyT_first hi (Region.noSelect_spec hs) hQ hn fuel listed a w (closedB_spec hc) (Region.free_spec hi hf) (by simpa using hr) hy hS h

theorem wpAnyT_one {n i : Nat} {fuel : Nat} {listed : Array Bool} {a : Act} {w : World} (hr : Region.ready md ops listed = [i])
    (h : wpOp P ops Q i (fun a' w' => (i ≠ n → S w') ∧ wpAnyT P md ops Q S n fuel (listed.setIfInBounds i true) a' w') a w) : wpAnyT P md ops Q S n (fuel + 1) listed a w :=
  ⟨fun h0 => (by rw [hr] at h0; cases h0), fun j hj => by rw [hr, List.mem_singleton] at hj; subst hj; exact h⟩

theorem wpAnyT_two {n i k : Nat} {fuel : Nat} {listed : Array Bool} {a : Act} {w : World} (hr : Region.ready md ops listed = [i, k])
    (h : wpOp P ops Q i (fun a' w' => (i ≠ n → S w') ∧ wpAnyT P md ops Q S n fuel (listed.setIfInBounds i true) a' w') a w)
    (h2 : wpOp P ops Q k (fun a' w' => (k ≠ n → S w') ∧ wpAnyT P md ops Q S n fuel (listed.setIfInBounds k true) a' w') a w) : wpAnyT P md ops Q S n (fuel + 1) listed a w :=
  ⟨fun h0 => (by rw [hr] at h0; cases h0), fun j hj => by
    rw [hr] at hj
    rcases List.mem_cons.1 hj with rfl | hj
    · exact h
    · rw [List.mem_singleton] at hj; subst hj; exact h2⟩

/-- take operation i first, its text read off the list -/
theorem wpAnyT_takeL {n i : Nat} (d : Nat) {oi : Oper} {v : Value} {fuel : Nat} {listed : Array Bool} {a : Act} {w : World} (hi : ops.toList[i]? = some oi)
    (hs : Region.noSelect ops = true) (hf : Region.free md ops listed i = true) (hr : (Region.ready md ops listed).contains i = true) (hc : closedB md ops listed = true) (hn : waitsIn md ops d n i = true)
    (hQ : ∀ c a w, Q (.panic c) (a.put oi.dst v) w → Q (.panic c) a w) (hy : YieldsIf P ops S oi v a) (hS : S w)
    (h : wpAnyT P md ops Q S n fuel (listed.setIfInBounds i true) (a.put oi.dst v) w) : wpAnyT P md ops Q S n (fuel + 1) listed a w :=
  wpAnyT_take d (by simpa using hi) hs hf hr hc hn hQ hy hS h

theorem wpOp_stepT {i : Nat} {o : Oper} {K : Act → World → Prop} {a : Act} {w : World} (ho : ops[i]? = some o)
    (h : ∀ K' : Act → World → Prop, (∀ a w, K a w → K' a w) → if Region.wanted o (yielded ops a.tmps) = true then Oper.wp P o a w K' Q else K' (a.put o.dst undef) w) : wpOp P ops Q i K a w := by
  have := h K (fun _ _ h => h)
  unfold wpOp
  rw [ho]
  show if Region.wanted o (yielded ops a.tmps) = true then _ else _
  split
  · rename_i hw; rw [if_pos hw] at this; exact .inl this
  · rename_i hw; rw [if_neg hw] at this; exact this

/-- operation i alone may come up -/
theorem wpAnyT_go {n i : Nat} {o : Oper} {fuel : Nat} {listed : Array Bool} {a : Act} {w : World} (ho : ops.toList[i]? = some o) (hr : Region.ready md ops listed = [i])
    (h : ∀ K' : Act → World → Prop, (∀ a w, ((i ≠ n → S w) ∧ wpAnyT P md ops Q S n fuel (listed.setIfInBounds i true) a w) → K' a w) → if Region.wanted o (yielded ops a.tmps) = true then Oper.wp P o a w K' Q else K' (a.put o.dst undef) w) :
    wpAnyT P md ops Q S n (fuel + 1) listed a w :=
  wpAnyT_one hr (wpOp_stepT (by simpa using ho) h)

theorem wpAnyT_done {n : Nat} {listed : Array Bool} {a : Act} {w : World} (hr : Region.ready md ops listed = []) (h : Q .normal a w) :
    ∀ fuel, wpAnyT P md ops Q S n fuel listed a w
  | 0 => ⟨hr, h⟩
  | _ + 1 => ⟨fun _ => h, by rw [hr]; simp⟩

theorem wp_region_sink (n : Nat) {id : Nat} {a : Act} {w : World} (hm : P.follows .mixedOrders = true)
    (h : wpAnyT P .any ops Q S n ops.size (Array.replicate ops.size false) a { w with drawn := w.drawn + 1 }) : (Code.region id ops true).wp P Q a w :=
  wp_region_any hm (wpAny_of_sink _ _ _ _ h)

end
end Go.Proofs.YtofglgfjlbehmaaGreat.mem
