/-
  The law FnExactClearPanel holds of the given program for every input: it returns true, and each argument reads as it did.
-/
import Derived.Test.YtalhnkobkhiofaaCauOpen
import Derived.Test.YtalhnkobkhiofaaOpen
import Derived.Test.YtalhnkobkhiofaaClr
namespace Go.Proofs.Ytalhnkobkhiofaa.mem
open Go.ChangeShapes Go.WideShapes Go.ChangeAt Go.RowKit
set_option linter.unusedVariables false
/-- what the call on copies has brought: its result in a block of its own -/
def LawP (wp : World) (l' : L3) (c : Int) (s8 s9 : Value) (wx : World) : Prop :=
  ∃ (g : Nat) (t : S3), s8 = .pointer (some ⟨g, 0, none⟩) ∧ s9 = .int .i64 c ∧ Blk wx g 30 #[.slice t.x.A t.x.n t.x.c, .slice t.y.A t.y.n t.y.c, .slice t.z.A t.z.n t.z.c] ∧ Own3 wx wp.heap.size t l' ∧ Ext wp wx ∧ wp.heap.size ≤ g ∧ ∀ k, blks t k → k ≠ g
theorem Own3.aw {w : World} {lo g : Nat} {p : S3} {l : L3} (h : Own3 w lo p l) (hg : ∀ k, blks p k → k ≠ g) (i : Nat) (u : Value) : Own3 (w.setCell ⟨g, i, none⟩ u) lo p l :=
  ⟨h.1.away (fun e => hg g (.inl e) rfl) i u, h.2.1.away (fun e => hg g (.inr (.inl e)) rfl) i u, h.2.2.1.away (fun e => hg g (.inr (.inr e)) rfl) i u, h.2.2.2⟩
set_option maxRecDepth 20000
set_option maxHeartbeats 4000000 in
theorem law_ClearPanel (s : Sl) (ts : List Ti) (u : Sl) (us : List ByteArray) (p : S3) (l : L3) (w : World) (is : InT w s ts) (iu : InW w u us) (ip : In3 w p l) :
    Calls Try.prog 3 #[.slice s.A s.n s.c, .slice u.A u.n u.c, .agg #[.slice p.x.A p.x.n p.x.c, .slice p.y.A p.y.n p.y.c, .slice p.z.A p.z.n p.z.c]] w fun e w' => e = .returned (.bool true) ∧ Ext w w' := by
  have hX := Ext.refl w
  have hPp := Blk.new w 26 (#[.slice p.x.A p.x.n p.x.c, .slice p.y.A p.y.n p.y.c, .slice p.z.A p.z.n p.z.c])
  replace hX := hX.alloc (.cells #[.slice p.x.A p.x.n p.x.c, .slice p.y.A p.y.n p.y.c, .slice p.z.A p.z.n p.z.c] 26)
  by_cases hss : 0 ≤ szLs 1048576 (lensT ts)
  case neg =>
    go_enter Try.func3, Try.ntmps3
    obtain ⟨qhPp0, qhPp1, qhPp2⟩ := hPp.c3
    go_wp2_with fail
    refine (szTieS_any s ts _ _ (by omega) (by omega) is hX).mono ?_
    rintro e w1 ⟨rfl, hx⟩
    clear qhPp0 qhPp1 qhPp2
    replace hX := hX.trans hx
    have z1 : w.heap.size + 1 ≤ w1.heap.size := (by have := hx.size; simpa using this)
    replace hPp := hPp.ext hx
    clear hx
    obtain ⟨qhPp0, qhPp1, qhPp2⟩ := hPp.c3
    go_wp2
    go_ret
    exact ⟨rfl, hX⟩
  have rs := is.rds hss (by omega)
  have hls := (szLt_pos hss (by omega)).2
  by_cases hsu : 0 ≤ szLs (szLs 1048576 (lensT ts)) (lensW us)
  case neg =>
    go_enter Try.func3, Try.ntmps3
    obtain ⟨qhPp0, qhPp1, qhPp2⟩ := hPp.c3
    go_wp2_with fail
    refine (szTieS_any s ts _ _ (by omega) (by omega) is hX).mono ?_
    rintro e w1 ⟨rfl, hx⟩
    clear qhPp0 qhPp1 qhPp2
    replace hX := hX.trans hx
    have z1 : w.heap.size + 1 ≤ w1.heap.size := (by have := hx.size; simpa using this)
    replace hPp := hPp.ext hx
    clear hx
    obtain ⟨qhPp0, qhPp1, qhPp2⟩ := hPp.c3
    go_wp2_with fail
    refine (szStringS_any u us _ _ (by omega) (by omega) iu hX).mono ?_
    rintro e w2 ⟨rfl, hx⟩
    clear qhPp0 qhPp1 qhPp2
    replace hX := hX.trans hx
    have z2 : w1.heap.size ≤ w2.heap.size := (by have := hx.size; simpa using this)
    replace hPp := hPp.ext hx
    clear hx
    obtain ⟨qhPp0, qhPp1, qhPp2⟩ := hPp.c3
    go_wp2
    go_ret
    exact ⟨rfl, hX⟩
  have ru := iu.rds hsu (by omega)
  have hlu := (szLt_pos hsu (by omega)).2
  by_cases hsp : 0 ≤ sz3 (szLs (szLs 1048576 (lensT ts)) (lensW us)) p
  case neg =>
    go_enter Try.func3, Try.ntmps3
    obtain ⟨qhPp0, qhPp1, qhPp2⟩ := hPp.c3
    go_wp2_with fail
    refine (szTieS_any s ts _ _ (by omega) (by omega) is hX).mono ?_
    rintro e w1 ⟨rfl, hx⟩
    clear qhPp0 qhPp1 qhPp2
    replace hX := hX.trans hx
    have z1 : w.heap.size + 1 ≤ w1.heap.size := (by have := hx.size; simpa using this)
    replace hPp := hPp.ext hx
    clear hx
    obtain ⟨qhPp0, qhPp1, qhPp2⟩ := hPp.c3
    go_wp2_with fail
    refine (szStringS_any u us _ _ (by omega) (by omega) iu hX).mono ?_
    rintro e w2 ⟨rfl, hx⟩
    clear qhPp0 qhPp1 qhPp2
    replace hX := hX.trans hx
    have z2 : w1.heap.size ≤ w2.heap.size := (by have := hx.size; simpa using this)
    replace hPp := hPp.ext hx
    clear hx
    obtain ⟨qhPp0, qhPp1, qhPp2⟩ := hPp.c3
    go_wp2_with fail
    refine (szPanel_any p _ _ (by omega) (by omega) ip.1.max ip.2.1.max ip.2.2.max).mono ?_
    rintro e w3 ⟨rfl, hx⟩
    clear qhPp0 qhPp1 qhPp2
    replace hX := hX.trans hx
    have z3 : w2.heap.size ≤ w3.heap.size := (by have := hx.size; simpa using this)
    replace hPp := hPp.ext hx
    clear hx
    obtain ⟨qhPp0, qhPp1, qhPp2⟩ := hPp.c3
    go_wp2
    go_ret
    exact ⟨rfl, hX⟩
  have rp := ip.rds hsp (by omega)
  have hlp := (sz3_pos hsp (by omega)).2
  go_enter Try.func3, Try.ntmps3
  obtain ⟨qhPp0, qhPp1, qhPp2⟩ := hPp.c3
  go_wp2_with fail
  refine (szTieS_any s ts _ _ (by omega) (by omega) is hX).mono ?_
  rintro e w1 ⟨rfl, hx⟩
  clear qhPp0 qhPp1 qhPp2
  replace hX := hX.trans hx
  have z1 : w.heap.size + 1 ≤ w1.heap.size := (by have := hx.size; simpa using this)
  replace hPp := hPp.ext hx
  clear hx
  obtain ⟨qhPp0, qhPp1, qhPp2⟩ := hPp.c3
  go_wp2_with fail
  refine (szStringS_any u us _ _ (by omega) (by omega) iu hX).mono ?_
  rintro e w2 ⟨rfl, hx⟩
  clear qhPp0 qhPp1 qhPp2
  replace hX := hX.trans hx
  have z2 : w1.heap.size ≤ w2.heap.size := (by have := hx.size; simpa using this)
  replace hPp := hPp.ext hx
  clear hx
  obtain ⟨qhPp0, qhPp1, qhPp2⟩ := hPp.c3
  go_wp2_with fail
  refine (szPanel_any p _ _ (by omega) (by omega) ip.1.max ip.2.1.max ip.2.2.max).mono ?_
  rintro e w3 ⟨rfl, hx⟩
  clear qhPp0 qhPp1 qhPp2
  replace hX := hX.trans hx
  have z3 : w2.heap.size ≤ w3.heap.size := (by have := hx.size; simpa using this)
  replace hPp := hPp.ext hx
  clear hx
  obtain ⟨qhPp0, qhPp1, qhPp2⟩ := hPp.c3
  clear qhPp0 qhPp1 qhPp2
  go_wp2_with fail
  go_cut [8, 9] (fun s8 s9 wx => LawP w3 (clrV ts us l) (fitC ts us l) s8 s9 wx)
  case first =>
    have hW := (Ext.refl w3).drew
    have hPd := hPp.drew
    refine wp_region_sink (S := fun w' => w'.cell? ⟨w.heap.size, 0, none⟩ = some (.slice p.x.A p.x.n p.x.c) ∧ w'.cell? ⟨w.heap.size, 1, none⟩ = some (.slice p.y.A p.y.n p.y.c) ∧ w'.cell? ⟨w.heap.size, 2, none⟩ = some (.slice p.z.A p.z.n p.z.c)) 12 (by kernel_rfl) ?_
    change wpAnyT _ _ _ _ _ _ _ _ _ (World.drew _)
    generalize hwd : World.drew w3 = wd at hW hPd ⊢
    clear hwd
    have kk := hPd.c3
    refine wpAnyT_takeL (i := 0) 8 (v := ?_) rfl (by kernel_rfl) (by kernel_rfl) (by kernel_rfl) (by kernel_rfl) (by kernel_rfl) (fun _ _ _ h => h) (Or.inl ⟨by rfl, ?_⟩) kk ?_
    rotate_left 1
    · (intro W hSw; (try dsimp only at hSw); go_simp) <;> with_reducible rfl
    clear kk
    try simp only [Act.put, List.setIfInBounds_toArray, List.set_cons_zero, List.set_cons_succ]
    have kk := hPd.c3
    refine wpAnyT_takeL (i := 2) 8 (v := ?_) rfl (by kernel_rfl) (by kernel_rfl) (by kernel_rfl) (by kernel_rfl) (by kernel_rfl) (fun _ _ _ h => h) (Or.inl ⟨by rfl, ?_⟩) kk ?_
    rotate_left 1
    · (intro W hSw; (try dsimp only at hSw); go_simp) <;> with_reducible rfl
    clear kk
    try simp only [Act.put, List.setIfInBounds_toArray, List.set_cons_zero, List.set_cons_succ]
    have kk := hPd.c3
    refine wpAnyT_takeL (i := 4) 8 (v := ?_) rfl (by kernel_rfl) (by kernel_rfl) (by kernel_rfl) (by kernel_rfl) (by kernel_rfl) (fun _ _ _ h => h) (Or.inl ⟨by rfl, ?_⟩) kk ?_
    rotate_left 1
    · (intro W hSw; (try dsimp only at hSw); go_simp) <;> with_reducible rfl
    clear kk
    try simp only [Act.put, List.setIfInBounds_toArray, List.set_cons_zero, List.set_cons_succ]
    refine wpAnyT_go2 (i := 1) (j := 10) rfl rfl (by kernel_rfl) (fun K hK => ?_) (fun K hK => ?_)
    go_simp
    go_at_call 10
    refine (toTieS_any s ts _ ((rs.ext hX).ext hW)).mono ?_
    rintro e w_4n ⟨tsa, rfl, osa, hx⟩
    go_simp
    replace osa := osa.rd
    replace hPd := hPd.ext hx
    replace hW := hW.trans hx
    refine hK _ _ ⟨fun _ => hPd.c3, ?_⟩
    clear hK K hx
    revert osa; revert hPd; revert hW; revert tsa; revert w_4n
    refine ?nw_1
    rotate_left 1
    go_simp
    have hx := (Ext.refl wd).alloc (.cells #[.slice none 0 0, .slice none 0 0, .slice none 0 0] 30)
    have BP := Blk.new wd 30 (#[.slice none 0 0, .slice none 0 0, .slice none 0 0])
    obtain ⟨bP, hb⟩ : ∃ b, b = wd.heap.size := ⟨_, rfl⟩
    generalize hw : World.alloc wd (.cells #[.slice none 0 0, .slice none 0 0, .slice none 0 0] 30) = w_4n at hx BP ⊢
    rw [← hb] at BP ⊢
    have lP : w3.heap.size ≤ bP := by have := hW.size; omega
    replace hPd := hPd.ext hx
    replace hW := hW.trans hx
    refine hK _ _ ⟨fun _ => hPd.c3, ?_⟩
    clear hK K hx hb hw
    revert lP; revert BP; revert hPd; revert hW; revert bP; revert w_4n
    refine ?nw_2
    rotate_left 1
    -- nw_1
    intro w_4 tsa hW hPd osa
    refine wpAnyT_go2 (i := 3) (j := 10) rfl rfl (by kernel_rfl) (fun K hK => ?_) (fun K hK => ?_)
    go_simp
    go_at_call 11
    refine (toStringS_any u us _ ((ru.ext hX).ext hW)).mono ?_
    rintro e w_5n ⟨tua, rfl, oua, hx⟩
    go_simp
    replace oua := oua.rd
    replace hPd := hPd.ext hx
    replace osa := osa.ext hx
    replace hW := hW.trans hx
    refine hK _ _ ⟨fun _ => hPd.c3, ?_⟩
    clear hK K hx
    revert oua; revert osa; revert hPd; revert hW; revert tua; revert tsa; revert w_5n
    clear w_4
    refine ?nw_3
    rotate_left 1
    go_simp
    have hx := (Ext.refl w_4).alloc (.cells #[.slice none 0 0, .slice none 0 0, .slice none 0 0] 30)
    have BP := Blk.new w_4 30 (#[.slice none 0 0, .slice none 0 0, .slice none 0 0])
    obtain ⟨bP, hb⟩ : ∃ b, b = w_4.heap.size := ⟨_, rfl⟩
    generalize hw : World.alloc w_4 (.cells #[.slice none 0 0, .slice none 0 0, .slice none 0 0] 30) = w_5n at hx BP ⊢
    rw [← hb] at BP ⊢
    have lP : w3.heap.size ≤ bP := by have := hW.size; omega
    replace hPd := hPd.ext hx
    replace osa := osa.ext hx
    replace hW := hW.trans hx
    refine hK _ _ ⟨fun _ => hPd.c3, ?_⟩
    clear hK K hx hb hw
    revert lP; revert BP; revert osa; revert hPd; revert hW; revert bP; revert tsa; revert w_5n
    clear w_4
    refine ?nw_4
    rotate_left 1
    -- nw_2
    intro w_4 bP hW hPd BP lP
    refine wpAnyT_go (i := 1) rfl (by kernel_rfl) fun K hK => ?_
    go_simp
    go_at_call 10
    refine (toTieS_any s ts _ ((rs.ext hX).ext hW)).mono ?_
    rintro e w_5n ⟨tsa, rfl, osa, hx⟩
    go_simp
    replace osa := osa.rd
    replace hPd := hPd.ext hx
    replace BP := BP.ext hx
    replace hW := hW.trans hx
    refine hK _ _ ⟨fun _ => hPd.c3, ?_⟩
    clear hK K hx
    revert lP; revert BP; revert osa; revert hPd; revert hW; revert bP; revert tsa; revert w_5n
    clear w_4
    exact ?nw_4
    -- nw_3
    intro w_5 tsa tua hW hPd osa oua
    refine wpAnyT_go2 (i := 5) (j := 10) rfl rfl (by kernel_rfl) (fun K hK => ?_) (fun K hK => ?_)
    go_simp
    go_at_call 12
    refine (toPanel_any p l _ ((rp.ext hX).ext hW)).mono ?_
    rintro e w_6n ⟨tpa, rfl, opa, hx⟩
    go_simp
    replace opa := opa.rd
    replace hPd := hPd.ext hx
    replace osa := osa.ext hx
    replace oua := oua.ext hx
    replace hW := hW.trans hx
    refine hK _ _ ⟨fun _ => hPd.c3, ?_⟩
    clear hK K hx
    revert oua; revert osa; revert opa; revert hPd; revert hW; revert tua; revert tsa; revert tpa; revert w_6n
    clear w_5
    refine ?nw_5
    rotate_left 1
    go_simp
    have hx := (Ext.refl w_5).alloc (.cells #[.slice none 0 0, .slice none 0 0, .slice none 0 0] 30)
    have BP := Blk.new w_5 30 (#[.slice none 0 0, .slice none 0 0, .slice none 0 0])
    obtain ⟨bP, hb⟩ : ∃ b, b = w_5.heap.size := ⟨_, rfl⟩
    generalize hw : World.alloc w_5 (.cells #[.slice none 0 0, .slice none 0 0, .slice none 0 0] 30) = w_6n at hx BP ⊢
    rw [← hb] at BP ⊢
    have lP : w3.heap.size ≤ bP := by have := hW.size; omega
    replace hPd := hPd.ext hx
    replace osa := osa.ext hx
    replace oua := oua.ext hx
    replace hW := hW.trans hx
    refine hK _ _ ⟨fun _ => hPd.c3, ?_⟩
    clear hK K hx hb hw
    revert lP; revert BP; revert oua; revert osa; revert hPd; revert hW; revert bP; revert tua; revert tsa; revert w_6n
    clear w_5
    refine ?nw_6
    rotate_left 1
    -- nw_4
    intro w_5 tsa bP hW hPd osa BP lP
    refine wpAnyT_go (i := 3) rfl (by kernel_rfl) fun K hK => ?_
    go_simp
    go_at_call 11
    refine (toStringS_any u us _ ((ru.ext hX).ext hW)).mono ?_
    rintro e w_6n ⟨tua, rfl, oua, hx⟩
    go_simp
    replace oua := oua.rd
    replace hPd := hPd.ext hx
    replace osa := osa.ext hx
    replace BP := BP.ext hx
    replace hW := hW.trans hx
    refine hK _ _ ⟨fun _ => hPd.c3, ?_⟩
    clear hK K hx
    revert lP; revert BP; revert oua; revert osa; revert hPd; revert hW; revert bP; revert tua; revert tsa; revert w_6n
    clear w_5
    exact ?nw_6
    -- nw_5
    intro w_6 tpa tsa tua hW hPd opa osa oua
    refine wpAnyT_go2 (i := 6) (j := 10) rfl rfl (by kernel_rfl) (fun K hK => ?_) (fun K hK => ?_)
    go_simp
    go_at_call 9
    refine (spec.ClearPanel_any tsa ts tua us tpa l _ osa oua opa ).mono ?_
    rintro e w_7n ⟨tR, rfl, oR, hx⟩
    go_simp
    replace oR := Own3.mono (lo' := w3.heap.size) oR (by have := hW.size; omega)
    replace hPd := hPd.ext hx
    replace opa := opa.ext hx
    replace osa := osa.ext hx
    replace oua := oua.ext hx
    replace hW := hW.trans hx
    refine hK _ _ ⟨fun _ => hPd.c3, ?_⟩
    clear hK K hx
    have kk := hPd.c3
    refine wpAnyT_takeL (i := 7) 8 (v := ?_) rfl (by kernel_rfl) (by kernel_rfl) (by kernel_rfl) (by kernel_rfl) (by kernel_rfl) (fun _ _ _ h => h) (Or.inl ⟨by rfl, ?_⟩) kk ?_
    rotate_left 1
    · (intro W hSw; (try dsimp only at hSw); go_simp) <;> with_reducible rfl
    clear kk
    try simp only [Act.put, List.setIfInBounds_toArray, List.set_cons_zero, List.set_cons_succ]
    have kk := hPd.c3
    refine wpAnyT_takeL (i := 8) 8 (v := ?_) rfl (by kernel_rfl) (by kernel_rfl) (by kernel_rfl) (by kernel_rfl) (by kernel_rfl) (fun _ _ _ h => h) (Or.inl ⟨by rfl, ?_⟩) kk ?_
    rotate_left 1
    · (intro W hSw; (try dsimp only at hSw); go_simp) <;> with_reducible rfl
    clear kk
    try simp only [Act.put, List.setIfInBounds_toArray, List.set_cons_zero, List.set_cons_succ]
    have kk := hPd.c3
    refine wpAnyT_takeL (i := 9) 8 (v := ?_) rfl (by kernel_rfl) (by kernel_rfl) (by kernel_rfl) (by kernel_rfl) (by kernel_rfl) (fun _ _ _ h => h) (Or.inl ⟨by rfl, ?_⟩) kk ?_
    rotate_left 1
    · (intro W hSw; (try dsimp only at hSw); go_simp) <;> with_reducible rfl
    clear kk
    try simp only [Act.put, List.setIfInBounds_toArray, List.set_cons_zero, List.set_cons_succ]
    revert oua; revert osa; revert opa; revert oR; revert hPd; revert hW; revert tua; revert tsa; revert tpa; revert tR; revert w_7n
    clear w_6
    refine ?nw_7
    rotate_left 1
    go_simp
    have hx := (Ext.refl w_6).alloc (.cells #[.slice none 0 0, .slice none 0 0, .slice none 0 0] 30)
    have BP := Blk.new w_6 30 (#[.slice none 0 0, .slice none 0 0, .slice none 0 0])
    obtain ⟨bP, hb⟩ : ∃ b, b = w_6.heap.size := ⟨_, rfl⟩
    generalize hw : World.alloc w_6 (.cells #[.slice none 0 0, .slice none 0 0, .slice none 0 0] 30) = w_7n at hx BP ⊢
    rw [← hb] at BP ⊢
    have lP : w3.heap.size ≤ bP := by have := hW.size; omega
    replace hPd := hPd.ext hx
    replace opa := opa.ext hx
    replace osa := osa.ext hx
    replace oua := oua.ext hx
    replace hW := hW.trans hx
    refine hK _ _ ⟨fun _ => hPd.c3, ?_⟩
    clear hK K hx hb hw
    revert lP; revert BP; revert oua; revert osa; revert opa; revert hPd; revert hW; revert bP; revert tua; revert tsa; revert tpa; revert w_7n
    clear w_6
    refine ?nw_8
    rotate_left 1
    -- nw_6
    intro w_6 tsa tua bP hW hPd osa oua BP lP
    refine wpAnyT_go (i := 5) rfl (by kernel_rfl) fun K hK => ?_
    go_simp
    go_at_call 12
    refine (toPanel_any p l _ ((rp.ext hX).ext hW)).mono ?_
    rintro e w_7n ⟨tpa, rfl, opa, hx⟩
    go_simp
    replace opa := opa.rd
    replace hPd := hPd.ext hx
    replace osa := osa.ext hx
    replace oua := oua.ext hx
    replace BP := BP.ext hx
    replace hW := hW.trans hx
    refine hK _ _ ⟨fun _ => hPd.c3, ?_⟩
    clear hK K hx
    revert lP; revert BP; revert oua; revert osa; revert opa; revert hPd; revert hW; revert bP; revert tua; revert tsa; revert tpa; revert w_7n
    clear w_6
    exact ?nw_8
    -- nw_7
    intro w_10 tR tpa tsa tua hW hPd oR opa osa oua
    refine wpAnyT_go (i := 10) rfl (by kernel_rfl) fun K hK => ?_
    go_simp
    have hx := (Ext.refl w_10).alloc (.cells #[.slice none 0 0, .slice none 0 0, .slice none 0 0] 30)
    have BP := Blk.new w_10 30 (#[.slice none 0 0, .slice none 0 0, .slice none 0 0])
    obtain ⟨bP, hb⟩ : ∃ b, b = w_10.heap.size := ⟨_, rfl⟩
    generalize hw : World.alloc w_10 (.cells #[.slice none 0 0, .slice none 0 0, .slice none 0 0] 30) = w_11n at hx BP ⊢
    rw [← hb] at BP ⊢
    have lP : w3.heap.size ≤ bP := by have := hW.size; omega
    have p_R_P : ∀ k, blks tR k → k ≠ bP := fun k hk e => by have a1 := (oR.lt hk).2; omega
    replace hPd := hPd.ext hx
    replace oR := oR.ext hx
    replace opa := opa.ext hx
    replace osa := osa.ext hx
    replace oua := oua.ext hx
    replace hW := hW.trans hx
    refine hK _ _ ⟨fun _ => hPd.c3, ?_⟩
    clear hK K hx hb hw
    revert p_R_P; revert lP; revert BP; revert oua; revert osa; revert opa; revert oR; revert hPd; revert hW; revert bP; revert tua; revert tsa; revert tpa; revert tR; revert w_11n
    clear w_10
    refine ?nw_9
    rotate_left 1
    -- nw_8
    intro w_7 tpa tsa tua bP hW hPd opa osa oua BP lP
    refine wpAnyT_go (i := 6) rfl (by kernel_rfl) fun K hK => ?_
    go_simp
    go_at_call 9
    refine (spec.ClearPanel_any tsa ts tua us tpa l _ osa oua opa ).mono ?_
    rintro e w_8n ⟨tR, rfl, oR, hx⟩
    go_simp
    have p_R_P : ∀ k, blks tR k → k ≠ bP := fun k hk e => by have a1 := (oR.lt hk).1; have a2 := BP.lt; omega
    replace oR := Own3.mono (lo' := w3.heap.size) oR (by have := hW.size; omega)
    replace hPd := hPd.ext hx
    replace opa := opa.ext hx
    replace osa := osa.ext hx
    replace oua := oua.ext hx
    replace BP := BP.ext hx
    replace hW := hW.trans hx
    refine hK _ _ ⟨fun _ => hPd.c3, ?_⟩
    clear hK K hx
    have kk := hPd.c3
    refine wpAnyT_takeL (i := 7) 8 (v := ?_) rfl (by kernel_rfl) (by kernel_rfl) (by kernel_rfl) (by kernel_rfl) (by kernel_rfl) (fun _ _ _ h => h) (Or.inl ⟨by rfl, ?_⟩) kk ?_
    rotate_left 1
    · (intro W hSw; (try dsimp only at hSw); go_simp) <;> with_reducible rfl
    clear kk
    try simp only [Act.put, List.setIfInBounds_toArray, List.set_cons_zero, List.set_cons_succ]
    have kk := hPd.c3
    refine wpAnyT_takeL (i := 8) 8 (v := ?_) rfl (by kernel_rfl) (by kernel_rfl) (by kernel_rfl) (by kernel_rfl) (by kernel_rfl) (fun _ _ _ h => h) (Or.inl ⟨by rfl, ?_⟩) kk ?_
    rotate_left 1
    · (intro W hSw; (try dsimp only at hSw); go_simp) <;> with_reducible rfl
    clear kk
    try simp only [Act.put, List.setIfInBounds_toArray, List.set_cons_zero, List.set_cons_succ]
    have kk := hPd.c3
    refine wpAnyT_takeL (i := 9) 8 (v := ?_) rfl (by kernel_rfl) (by kernel_rfl) (by kernel_rfl) (by kernel_rfl) (by kernel_rfl) (fun _ _ _ h => h) (Or.inl ⟨by rfl, ?_⟩) kk ?_
    rotate_left 1
    · (intro W hSw; (try dsimp only at hSw); go_simp) <;> with_reducible rfl
    clear kk
    try simp only [Act.put, List.setIfInBounds_toArray, List.set_cons_zero, List.set_cons_succ]
    revert p_R_P; revert lP; revert BP; revert oua; revert osa; revert opa; revert oR; revert hPd; revert hW; revert bP; revert tua; revert tsa; revert tpa; revert tR; revert w_8n
    clear w_7
    exact ?nw_9
    -- nw_9
    intro w_11 tR tpa tsa tua bP hW hPd oR opa osa oua BP lP p_R_P
    obtain ⟨e0, e1, e2, e3, e4, e5⟩ := res3 BP
    refine wpAnyT_go (i := 11) rfl (by kernel_rfl) fun K hK => ?_
    go_simp
    have hne : bP ≠ w.heap.size := by have := hX.size; have := hPp.lt; omega
    refine hK _ _ ⟨fun _ => (((hPd.off bP 0 (Ne.symm hne) _).off bP 1 (Ne.symm hne) _).off bP 2 (Ne.symm hne) _).c3, ?_⟩
    clear hK K
    refine wpAnyT_go (i := 12) rfl (by kernel_rfl) fun K hK => ?_
    go_simp
    refine hK _ _ ⟨fun h => (by first | exact absurd rfl h | exact (((hPd.off bP 0 (Ne.symm hne) _).off bP 1 (Ne.symm hne) _).off bP 2 (Ne.symm hne) _).c3), ?_⟩
    clear hK K
    refine wpAnyT_done (by kernel_rfl) ?_ _
    go_wp2_with fail
    go_meet
    exact ⟨bP, tR, rfl, rfl, ((BP.set_ 0 _).set_ 1 _).set_ 2 _, Own3.aw (Own3.aw (Own3.aw oR p_R_P 0 _) p_R_P 1 _) p_R_P 2 _, ((hW.off bP 0 lP _).off bP 1 lP _).off bP 2 lP _, lP, p_R_P⟩
  case rest =>
    obtain ⟨gw, tw0, rfl, rfl, hTw0, otw0, hx, hgw, hnw⟩ := hcut
    replace hX := hX.trans hx
    have z4 : w3.heap.size ≤ wc.heap.size := (by have := hx.size; simpa using this)
    replace hPp := hPp.ext hx
    obtain ⟨w4, hwc⟩ : ∃ w, w = wc := ⟨_, rfl⟩
    subst hwc
    have rgotw0 : ∀ k, blks tw0 k → w3.heap.size ≤ k ∧ k < w4.heap.size := (fun k hk => by have := otw0.lt hk; simpa using this)
    have hlw := hTw0.lt
    clear hx
    obtain ⟨qhPp0, qhPp1, qhPp2⟩ := hPp.c3
    obtain ⟨qhTw00, qhTw01, qhTw02⟩ := hTw0.c3
    go_wp2_with fail
    refine (toTieS_any s ts _ (rs.ext hX)).mono ?_
    rintro e w5 ⟨sb, rfl, osb, hx⟩
    clear qhPp0 qhPp1 qhPp2 qhTw00 qhTw01 qhTw02
    replace hX := hX.trans hx
    have z5 : w4.heap.size ≤ w5.heap.size := (by have := hx.size; simpa using this)
    replace hPp := hPp.ext hx
    replace hTw0 := hTw0.ext hx
    replace otw0 := otw0.ext hx
    have rgosb : ∀ k, Value.ownBlock (.slice sb.A sb.n sb.c) = some k → w4.heap.size ≤ k ∧ k < w5.heap.size := (fun k hk => by have := osb.lt k hk; simpa using this)
    clear hx
    obtain ⟨qhPp0, qhPp1, qhPp2⟩ := hPp.c3
    obtain ⟨qhTw00, qhTw01, qhTw02⟩ := hTw0.c3
    go_wp2_with fail
    refine (toStringS_any u us _ (ru.ext hX)).mono ?_
    rintro e w6 ⟨ub, rfl, oub, hx⟩
    clear qhPp0 qhPp1 qhPp2 qhTw00 qhTw01 qhTw02
    replace hX := hX.trans hx
    have z6 : w5.heap.size ≤ w6.heap.size := (by have := hx.size; simpa using this)
    replace hPp := hPp.ext hx
    replace hTw0 := hTw0.ext hx
    replace otw0 := otw0.ext hx
    replace osb := osb.ext hx
    have rgoub : ∀ k, Value.ownBlock (.slice ub.A ub.n ub.c) = some k → w5.heap.size ≤ k ∧ k < w6.heap.size := (fun k hk => by have := oub.lt k hk; simpa using this)
    clear hx
    obtain ⟨qhPp0, qhPp1, qhPp2⟩ := hPp.c3
    obtain ⟨qhTw00, qhTw01, qhTw02⟩ := hTw0.c3
    go_wp2_with fail
    refine (toPanel_any p l _ (rp.ext hX)).mono ?_
    rintro e w7 ⟨pb, rfl, opb, hx⟩
    clear qhPp0 qhPp1 qhPp2 qhTw00 qhTw01 qhTw02
    replace hX := hX.trans hx
    have z7 : w6.heap.size ≤ w7.heap.size := (by have := hx.size; simpa using this)
    replace hPp := hPp.ext hx
    replace hTw0 := hTw0.ext hx
    replace otw0 := otw0.ext hx
    replace osb := osb.ext hx
    replace oub := oub.ext hx
    have rgopb : ∀ k, blks pb k → w6.heap.size ≤ k ∧ k < w7.heap.size := (fun k hk => by have := opb.lt hk; simpa using this)
    clear hx
    have hxpb := Blk.new w7 30 (#[.slice pb.x.A pb.x.n pb.x.c, .slice pb.y.A pb.y.n pb.y.c, .slice pb.z.A pb.z.n pb.z.c])
    replace hPp := hPp.alloc (.cells #[.slice pb.x.A pb.x.n pb.x.c, .slice pb.y.A pb.y.n pb.y.c, .slice pb.z.A pb.z.n pb.z.c] 30)
    replace hTw0 := hTw0.alloc (.cells #[.slice pb.x.A pb.x.n pb.x.c, .slice pb.y.A pb.y.n pb.y.c, .slice pb.z.A pb.z.n pb.z.c] 30)
    replace otw0 := otw0.alloc (.cells #[.slice pb.x.A pb.x.n pb.x.c, .slice pb.y.A pb.y.n pb.y.c, .slice pb.z.A pb.z.n pb.z.c] 30)
    replace osb := osb.alloc (.cells #[.slice pb.x.A pb.x.n pb.x.c, .slice pb.y.A pb.y.n pb.y.c, .slice pb.z.A pb.z.n pb.z.c] 30)
    replace oub := oub.alloc (.cells #[.slice pb.x.A pb.x.n pb.x.c, .slice pb.y.A pb.y.n pb.y.c, .slice pb.z.A pb.z.n pb.z.c] 30)
    replace opb := opb.alloc (.cells #[.slice pb.x.A pb.x.n pb.x.c, .slice pb.y.A pb.y.n pb.y.c, .slice pb.z.A pb.z.n pb.z.c] 30)
    replace hX := hX.alloc (.cells #[.slice pb.x.A pb.x.n pb.x.c, .slice pb.y.A pb.y.n pb.y.c, .slice pb.z.A pb.z.n pb.z.c] 30)
    obtain ⟨qhPp0, qhPp1, qhPp2⟩ := hPp.c3
    obtain ⟨qhTw00, qhTw01, qhTw02⟩ := hTw0.c3
    obtain ⟨qhxpb0, qhxpb1, qhxpb2⟩ := hxpb.c3
    go_wp2_with fail
    refine (impl.ClearPanel_any sb ts ub us pb l _ osb.rd oub.rd opb.rd osb.cap).mono ?_
    rintro e w8 ⟨tg0, rfl, otg0, hx⟩
    clear qhPp0 qhPp1 qhPp2 qhTw00 qhTw01 qhTw02 qhxpb0 qhxpb1 qhxpb2
    replace hX := hX.trans hx
    have z8 : w7.heap.size + 1 ≤ w8.heap.size := (by have := hx.size; simpa using this)
    replace hPp := hPp.ext hx
    replace hTw0 := hTw0.ext hx
    replace hxpb := hxpb.ext hx
    replace otw0 := otw0.ext hx
    replace osb := osb.ext hx
    replace oub := oub.ext hx
    replace opb := opb.ext hx
    have rgotg0 : ∀ k, blks tg0 k → w7.heap.size + 1 ≤ k ∧ k < w8.heap.size := (fun k hk => by have := otg0.lt hk; simpa using this)
    clear hx
    have hTg0 := Blk.new w8 30 (#[.slice tg0.x.A tg0.x.n tg0.x.c, .slice tg0.y.A tg0.y.n tg0.y.c, .slice tg0.z.A tg0.z.n tg0.z.c])
    replace hPp := hPp.alloc (.cells #[.slice tg0.x.A tg0.x.n tg0.x.c, .slice tg0.y.A tg0.y.n tg0.y.c, .slice tg0.z.A tg0.z.n tg0.z.c] 30)
    replace hTw0 := hTw0.alloc (.cells #[.slice tg0.x.A tg0.x.n tg0.x.c, .slice tg0.y.A tg0.y.n tg0.y.c, .slice tg0.z.A tg0.z.n tg0.z.c] 30)
    replace hxpb := hxpb.alloc (.cells #[.slice tg0.x.A tg0.x.n tg0.x.c, .slice tg0.y.A tg0.y.n tg0.y.c, .slice tg0.z.A tg0.z.n tg0.z.c] 30)
    replace otw0 := otw0.alloc (.cells #[.slice tg0.x.A tg0.x.n tg0.x.c, .slice tg0.y.A tg0.y.n tg0.y.c, .slice tg0.z.A tg0.z.n tg0.z.c] 30)
    replace osb := osb.alloc (.cells #[.slice tg0.x.A tg0.x.n tg0.x.c, .slice tg0.y.A tg0.y.n tg0.y.c, .slice tg0.z.A tg0.z.n tg0.z.c] 30)
    replace oub := oub.alloc (.cells #[.slice tg0.x.A tg0.x.n tg0.x.c, .slice tg0.y.A tg0.y.n tg0.y.c, .slice tg0.z.A tg0.z.n tg0.z.c] 30)
    replace opb := opb.alloc (.cells #[.slice tg0.x.A tg0.x.n tg0.x.c, .slice tg0.y.A tg0.y.n tg0.y.c, .slice tg0.z.A tg0.z.n tg0.z.c] 30)
    replace otg0 := otg0.alloc (.cells #[.slice tg0.x.A tg0.x.n tg0.x.c, .slice tg0.y.A tg0.y.n tg0.y.c, .slice tg0.z.A tg0.z.n tg0.z.c] 30)
    replace hX := hX.alloc (.cells #[.slice tg0.x.A tg0.x.n tg0.x.c, .slice tg0.y.A tg0.y.n tg0.y.c, .slice tg0.z.A tg0.z.n tg0.z.c] 30)
    obtain ⟨qhPp0, qhPp1, qhPp2⟩ := hPp.c3
    obtain ⟨qhTw00, qhTw01, qhTw02⟩ := hTw0.c3
    obtain ⟨qhxpb0, qhxpb1, qhxpb2⟩ := hxpb.c3
    obtain ⟨qhTg00, qhTg01, qhTg02⟩ := hTg0.c3
    go_wp2_with fail
    refine (eqPanel_yes tg0 tw0 _ _ otg0.rd otw0.rd).mono ?_
    rintro e w9 ⟨rfl, hx⟩
    clear qhPp0 qhPp1 qhPp2 qhTw00 qhTw01 qhTw02 qhxpb0 qhxpb1 qhxpb2 qhTg00 qhTg01 qhTg02
    replace hX := hX.trans hx
    have z9 : w8.heap.size + 1 ≤ w9.heap.size := (by have := hx.size; simpa using this)
    replace hPp := hPp.ext hx
    replace hTw0 := hTw0.ext hx
    replace hxpb := hxpb.ext hx
    replace hTg0 := hTg0.ext hx
    replace otw0 := otw0.ext hx
    replace osb := osb.ext hx
    replace oub := oub.ext hx
    replace opb := opb.ext hx
    replace otg0 := otg0.ext hx
    clear hx
    obtain ⟨qhPp0, qhPp1, qhPp2⟩ := hPp.c3
    obtain ⟨qhTw00, qhTw01, qhTw02⟩ := hTw0.c3
    obtain ⟨qhxpb0, qhxpb1, qhxpb2⟩ := hxpb.c3
    obtain ⟨qhTg00, qhTg01, qhTg02⟩ := hTg0.c3
    go_wp2_with fail
    refine (toTieS_any s ts _ (rs.ext hX)).mono ?_
    rintro e w10 ⟨sbc, rfl, osbc, hx⟩
    clear qhPp0 qhPp1 qhPp2 qhTw00 qhTw01 qhTw02 qhxpb0 qhxpb1 qhxpb2 qhTg00 qhTg01 qhTg02
    replace hX := hX.trans hx
    have z10 : w9.heap.size ≤ w10.heap.size := (by have := hx.size; simpa using this)
    replace hPp := hPp.ext hx
    replace hTw0 := hTw0.ext hx
    replace hxpb := hxpb.ext hx
    replace hTg0 := hTg0.ext hx
    replace otw0 := otw0.ext hx
    replace osb := osb.ext hx
    replace oub := oub.ext hx
    replace opb := opb.ext hx
    replace otg0 := otg0.ext hx
    clear hx
    obtain ⟨qhPp0, qhPp1, qhPp2⟩ := hPp.c3
    obtain ⟨qhTw00, qhTw01, qhTw02⟩ := hTw0.c3
    obtain ⟨qhxpb0, qhxpb1, qhxpb2⟩ := hxpb.c3
    obtain ⟨qhTg00, qhTg01, qhTg02⟩ := hTg0.c3
    go_wp2_with fail
    refine (eqTieS_yes sb sbc _ _ osb.rd (osbc.ext (Ext.refl _)).rd).mono ?_
    rintro e w11 ⟨rfl, hx⟩
    clear qhPp0 qhPp1 qhPp2 qhTw00 qhTw01 qhTw02 qhxpb0 qhxpb1 qhxpb2 qhTg00 qhTg01 qhTg02
    replace hX := hX.trans hx
    have z11 : w10.heap.size ≤ w11.heap.size := (by have := hx.size; simpa using this)
    replace hPp := hPp.ext hx
    replace hTw0 := hTw0.ext hx
    replace hxpb := hxpb.ext hx
    replace hTg0 := hTg0.ext hx
    replace otw0 := otw0.ext hx
    replace osb := osb.ext hx
    replace oub := oub.ext hx
    replace opb := opb.ext hx
    replace otg0 := otg0.ext hx
    clear hx
    obtain ⟨qhPp0, qhPp1, qhPp2⟩ := hPp.c3
    obtain ⟨qhTw00, qhTw01, qhTw02⟩ := hTw0.c3
    obtain ⟨qhxpb0, qhxpb1, qhxpb2⟩ := hxpb.c3
    obtain ⟨qhTg00, qhTg01, qhTg02⟩ := hTg0.c3
    go_wp2_with fail
    refine (toStringS_any u us _ (ru.ext hX)).mono ?_
    rintro e w12 ⟨ubc, rfl, oubc, hx⟩
    clear qhPp0 qhPp1 qhPp2 qhTw00 qhTw01 qhTw02 qhxpb0 qhxpb1 qhxpb2 qhTg00 qhTg01 qhTg02
    replace hX := hX.trans hx
    have z12 : w11.heap.size ≤ w12.heap.size := (by have := hx.size; simpa using this)
    replace hPp := hPp.ext hx
    replace hTw0 := hTw0.ext hx
    replace hxpb := hxpb.ext hx
    replace hTg0 := hTg0.ext hx
    replace otw0 := otw0.ext hx
    replace osb := osb.ext hx
    replace oub := oub.ext hx
    replace opb := opb.ext hx
    replace otg0 := otg0.ext hx
    clear hx
    obtain ⟨qhPp0, qhPp1, qhPp2⟩ := hPp.c3
    obtain ⟨qhTw00, qhTw01, qhTw02⟩ := hTw0.c3
    obtain ⟨qhxpb0, qhxpb1, qhxpb2⟩ := hxpb.c3
    obtain ⟨qhTg00, qhTg01, qhTg02⟩ := hTg0.c3
    go_wp2_with fail
    refine (eqStringS_yes ub ubc _ _ oub.rd (oubc.ext (Ext.refl _)).rd).mono ?_
    rintro e w13 ⟨rfl, hx⟩
    clear qhPp0 qhPp1 qhPp2 qhTw00 qhTw01 qhTw02 qhxpb0 qhxpb1 qhxpb2 qhTg00 qhTg01 qhTg02
    replace hX := hX.trans hx
    have z13 : w12.heap.size ≤ w13.heap.size := (by have := hx.size; simpa using this)
    replace hPp := hPp.ext hx
    replace hTw0 := hTw0.ext hx
    replace hxpb := hxpb.ext hx
    replace hTg0 := hTg0.ext hx
    replace otw0 := otw0.ext hx
    replace osb := osb.ext hx
    replace oub := oub.ext hx
    replace opb := opb.ext hx
    replace otg0 := otg0.ext hx
    clear hx
    obtain ⟨qhPp0, qhPp1, qhPp2⟩ := hPp.c3
    obtain ⟨qhTw00, qhTw01, qhTw02⟩ := hTw0.c3
    obtain ⟨qhxpb0, qhxpb1, qhxpb2⟩ := hxpb.c3
    obtain ⟨qhTg00, qhTg01, qhTg02⟩ := hTg0.c3
    replace hPp := hPp.drew
    replace hTw0 := hTw0.drew
    replace hxpb := hxpb.drew
    replace hTg0 := hTg0.drew
    replace otw0 := otw0.drew
    replace osb := osb.drew
    replace oub := oub.drew
    replace opb := opb.drew
    replace otg0 := otg0.drew
    replace hX := hX.drew
    go_wp2_with fail
    go_region_held3 (fun w' => w'.cell? ⟨w.heap.size, 0, none⟩ = some (.slice p.x.A p.x.n p.x.c) ∧ w'.cell? ⟨w.heap.size, 1, none⟩ = some (.slice p.y.A p.y.n p.y.c) ∧ w'.cell? ⟨w.heap.size, 2, none⟩ = some (.slice p.z.A p.z.n p.z.c) ∧ w'.cell? ⟨w7.heap.size, 0, none⟩ = some (.slice pb.x.A pb.x.n pb.x.c) ∧ w'.cell? ⟨w7.heap.size, 1, none⟩ = some (.slice pb.y.A pb.y.n pb.y.c) ∧ w'.cell? ⟨w7.heap.size, 2, none⟩ = some (.slice pb.z.A pb.z.n pb.z.c)) (first | exact kk2.2 | exact kk1.2 | go_keep) (first | (go_at_call 12; refine (toPanel_any p l _ (rp.ext hX)).mono ?_; rintro e w14 ⟨pbc, rfl, opbc, hx⟩; replace hX := hX.trans hx; have z14 : w13.heap.size ≤ w14.heap.size := (by have := hx.size; simpa using this); replace hPp := hPp.ext hx; replace hTw0 := hTw0.ext hx; replace hxpb := hxpb.ext hx; replace hTg0 := hTg0.ext hx; replace otw0 := otw0.ext hx; replace osb := osb.ext hx; replace oub := oub.ext hx; replace opb := opb.ext hx; replace otg0 := otg0.ext hx; have kk1 := And.intro trivial (show w14.cell? ⟨w.heap.size, 0, none⟩ = some (.slice p.x.A p.x.n p.x.c) ∧ w14.cell? ⟨w.heap.size, 1, none⟩ = some (.slice p.y.A p.y.n p.y.c) ∧ w14.cell? ⟨w.heap.size, 2, none⟩ = some (.slice p.z.A p.z.n p.z.c) ∧ w14.cell? ⟨w7.heap.size, 0, none⟩ = some (.slice pb.x.A pb.x.n pb.x.c) ∧ w14.cell? ⟨w7.heap.size, 1, none⟩ = some (.slice pb.y.A pb.y.n pb.y.c) ∧ w14.cell? ⟨w7.heap.size, 2, none⟩ = some (.slice pb.z.A pb.z.n pb.z.c) from ⟨hPp.c3.1, hPp.c3.2.1, hPp.c3.2.2, hxpb.c3.1, hxpb.c3.2.1, hxpb.c3.2.2⟩); clear hx) | (go_at_call 14; refine (eqPanel_yes pb pbc _ _ opb.rd opbc.rd).mono ?_; rintro e w15 ⟨rfl, hx⟩; replace hX := hX.trans hx; have z15 : w14.heap.size ≤ w15.heap.size := (by have := hx.size; simpa using this); replace hPp := hPp.ext hx; replace hTw0 := hTw0.ext hx; replace hxpb := hxpb.ext hx; replace hTg0 := hTg0.ext hx; replace otw0 := otw0.ext hx; replace osb := osb.ext hx; replace oub := oub.ext hx; replace opb := opb.ext hx; replace otg0 := otg0.ext hx; have kk2 := And.intro trivial (show w15.cell? ⟨w.heap.size, 0, none⟩ = some (.slice p.x.A p.x.n p.x.c) ∧ w15.cell? ⟨w.heap.size, 1, none⟩ = some (.slice p.y.A p.y.n p.y.c) ∧ w15.cell? ⟨w.heap.size, 2, none⟩ = some (.slice p.z.A p.z.n p.z.c) ∧ w15.cell? ⟨w7.heap.size, 0, none⟩ = some (.slice pb.x.A pb.x.n pb.x.c) ∧ w15.cell? ⟨w7.heap.size, 1, none⟩ = some (.slice pb.y.A pb.y.n pb.y.c) ∧ w15.cell? ⟨w7.heap.size, 2, none⟩ = some (.slice pb.z.A pb.z.n pb.z.c) from ⟨hPp.c3.1, hPp.c3.2.1, hPp.c3.2.2, hxpb.c3.1, hxpb.c3.2.1, hxpb.c3.2.2⟩); clear hx))
    clear kk1 kk2
    clear qhPp0 qhPp1 qhPp2 qhTw00 qhTw01 qhTw02 qhxpb0 qhxpb1 qhxpb2 qhTg00 qhTg01 qhTg02
    obtain ⟨qhPp0, qhPp1, qhPp2⟩ := hPp.c3
    obtain ⟨qhTw00, qhTw01, qhTw02⟩ := hTw0.c3
    obtain ⟨qhxpb0, qhxpb1, qhxpb2⟩ := hxpb.c3
    obtain ⟨qhTg00, qhTg01, qhTg02⟩ := hTg0.c3
    -- what came in is marked: the result is its own
    have leosb := osb.2.1
    go_wp2_with fail
    refine (markTieS_any sb _ 1 _ _ osb (by omega) (by omega)).mono ?_
    rintro e w16 ⟨rfl, hf⟩
    clear qhPp0 qhPp1 qhPp2 qhTw00 qhTw01 qhTw02 qhxpb0 qhxpb1 qhxpb2 qhTg00 qhTg01 qhTg02
    replace hX := hX.fr_trans hf (fun k hk => Or.elim hk (fun hk => by have := rgosb k hk; omega) (fun hk => by have := hX.size; (try simp at this hk); omega))
    have z16 : w15.heap.size ≤ w16.heap.size := by have := hf.size; simpa using this
    replace hPp := hPp.fr hf (fun hk => Or.elim hk (fun hk => by have := rgosb _ hk; omega) (fun hk => by have := hPp.lt; omega))
    replace hTw0 := hTw0.fr hf (fun hk => Or.elim hk (fun hk => by have := rgosb _ hk; omega) (fun hk => by have := hTw0.lt; omega))
    replace hxpb := hxpb.fr hf (fun hk => Or.elim hk (fun hk => by have := rgosb _ hk; omega) (fun hk => by have := hxpb.lt; omega))
    replace hTg0 := hTg0.fr hf (fun hk => Or.elim hk (fun hk => by have := rgosb _ hk; omega) (fun hk => by have := hTg0.lt; omega))
    replace otw0 := otw0.fr hf (fun k h1 h2 => Or.elim h2 (fun h2 => by have a1 := rgotw0 k h1; have a2 := rgosb k h2; omega) (fun h2 => by have a1 := rgotw0 k h1; (try simp at h2); omega))
    replace oub := oub.fr hf (fun k h1 h2 => Or.elim h2 (fun h2 => by have a1 := rgoub k h1; have a2 := rgosb k h2; omega) (fun h2 => by have a1 := rgoub k h1; (try simp at h2); omega))
    replace opb := opb.fr hf (fun k h1 h2 => Or.elim h2 (fun h2 => by have a1 := rgopb k h1; have a2 := rgosb k h2; omega) (fun h2 => by have a1 := rgopb k h1; (try simp at h2); omega))
    replace otg0 := otg0.fr hf (fun k h1 h2 => Or.elim h2 (fun h2 => by have a1 := rgotg0 k h1; have a2 := rgosb k h2; omega) (fun h2 => by have a1 := rgotg0 k h1; (try simp at h2); omega))
    clear hf osb
    obtain ⟨qhPp0, qhPp1, qhPp2⟩ := hPp.c3
    obtain ⟨qhTw00, qhTw01, qhTw02⟩ := hTw0.c3
    obtain ⟨qhxpb0, qhxpb1, qhxpb2⟩ := hxpb.c3
    obtain ⟨qhTg00, qhTg01, qhTg02⟩ := hTg0.c3
    have leoub := oub.2.1
    go_wp2_with fail
    refine (markStringS_any ub _ (1 + 4 * (sb.n : Int)) _ _ oub (by omega) (by omega)).mono ?_
    rintro e w17 ⟨rfl, hf⟩
    clear qhPp0 qhPp1 qhPp2 qhTw00 qhTw01 qhTw02 qhxpb0 qhxpb1 qhxpb2 qhTg00 qhTg01 qhTg02
    replace hX := hX.fr_trans hf (fun k hk => Or.elim hk (fun hk => by have := rgoub k hk; omega) (fun hk => by have := hX.size; (try simp at this hk); omega))
    have z17 : w16.heap.size ≤ w17.heap.size := by have := hf.size; simpa using this
    replace hPp := hPp.fr hf (fun hk => Or.elim hk (fun hk => by have := rgoub _ hk; omega) (fun hk => by have := hPp.lt; omega))
    replace hTw0 := hTw0.fr hf (fun hk => Or.elim hk (fun hk => by have := rgoub _ hk; omega) (fun hk => by have := hTw0.lt; omega))
    replace hxpb := hxpb.fr hf (fun hk => Or.elim hk (fun hk => by have := rgoub _ hk; omega) (fun hk => by have := hxpb.lt; omega))
    replace hTg0 := hTg0.fr hf (fun hk => Or.elim hk (fun hk => by have := rgoub _ hk; omega) (fun hk => by have := hTg0.lt; omega))
    replace otw0 := otw0.fr hf (fun k h1 h2 => Or.elim h2 (fun h2 => by have a1 := rgotw0 k h1; have a2 := rgoub k h2; omega) (fun h2 => by have a1 := rgotw0 k h1; (try simp at h2); omega))
    replace opb := opb.fr hf (fun k h1 h2 => Or.elim h2 (fun h2 => by have a1 := rgopb k h1; have a2 := rgoub k h2; omega) (fun h2 => by have a1 := rgopb k h1; (try simp at h2); omega))
    replace otg0 := otg0.fr hf (fun k h1 h2 => Or.elim h2 (fun h2 => by have a1 := rgotg0 k h1; have a2 := rgoub k h2; omega) (fun h2 => by have a1 := rgotg0 k h1; (try simp at h2); omega))
    clear hf oub
    obtain ⟨qhPp0, qhPp1, qhPp2⟩ := hPp.c3
    obtain ⟨qhTw00, qhTw01, qhTw02⟩ := hTw0.c3
    obtain ⟨qhxpb0, qhxpb1, qhxpb2⟩ := hxpb.c3
    obtain ⟨qhTg00, qhTg01, qhTg02⟩ := hTg0.c3
    have leopb := len3_le opb
    go_wp2_with fail
    refine (markPanel_any pb _ _ ((1 + 4 * (sb.n : Int)) + (ub.n : Int)) _ opb (by omega) (by omega)).mono ?_
    rintro e w18 ⟨rfl, opb', hf⟩
    clear qhPp0 qhPp1 qhPp2 qhTw00 qhTw01 qhTw02 qhxpb0 qhxpb1 qhxpb2 qhTg00 qhTg01 qhTg02
    replace hX := hX.fr_trans hf (fun k hk => by have := rgopb k hk; omega)
    have z18 : w17.heap.size ≤ w18.heap.size := by have := hf.size; simpa using this
    replace hPp := hPp.fr hf (fun hk => by have := rgopb _ hk; omega)
    replace hTw0 := hTw0.fr hf (fun hk => by have := rgopb _ hk; omega)
    replace hxpb := hxpb.fr hf (fun hk => by have := rgopb _ hk; omega)
    replace hTg0 := hTg0.fr hf (fun hk => by have := rgopb _ hk; omega)
    replace otw0 := otw0.fr hf (fun k h1 h2 => by have a1 := rgotw0 k h1; have a2 := rgopb k h2; omega)
    replace otg0 := otg0.fr hf (fun k h1 h2 => by have a1 := rgotg0 k h1; have a2 := rgopb k h2; omega)
    clear hf opb
    have opb := opb'
    clear opb'
    obtain ⟨qhPp0, qhPp1, qhPp2⟩ := hPp.c3
    obtain ⟨qhTw00, qhTw01, qhTw02⟩ := hTw0.c3
    obtain ⟨qhxpb0, qhxpb1, qhxpb2⟩ := hxpb.c3
    obtain ⟨qhTg00, qhTg01, qhTg02⟩ := hTg0.c3
    go_wp2_with fail
    refine (eqPanel_yes tg0 tw0 _ _ otg0.rd otw0.rd).mono ?_
    rintro e w19 ⟨rfl, hx⟩
    clear qhPp0 qhPp1 qhPp2 qhTw00 qhTw01 qhTw02 qhxpb0 qhxpb1 qhxpb2 qhTg00 qhTg01 qhTg02
    replace hX := hX.trans hx
    have z19 : w18.heap.size ≤ w19.heap.size := (by have := hx.size; simpa using this)
    replace hPp := hPp.ext hx
    replace hTw0 := hTw0.ext hx
    replace hxpb := hxpb.ext hx
    replace hTg0 := hTg0.ext hx
    replace otw0 := otw0.ext hx
    replace opb := opb.ext hx
    replace otg0 := otg0.ext hx
    clear hx
    obtain ⟨qhPp0, qhPp1, qhPp2⟩ := hPp.c3
    obtain ⟨qhTw00, qhTw01, qhTw02⟩ := hTw0.c3
    obtain ⟨qhxpb0, qhxpb1, qhxpb2⟩ := hxpb.c3
    obtain ⟨qhTg00, qhTg01, qhTg02⟩ := hTg0.c3
    have leotg0 := len3_le otg0
    go_wp2_with fail
    refine (markPanel_any tg0 _ _ 1 _ otg0 (by omega) (by omega)).mono ?_
    rintro e w20 ⟨rfl, otg0', hf⟩
    clear qhPp0 qhPp1 qhPp2 qhTw00 qhTw01 qhTw02 qhxpb0 qhxpb1 qhxpb2 qhTg00 qhTg01 qhTg02
    replace hX := hX.fr_trans hf (fun k hk => by have := rgotg0 k hk; omega)
    have z20 : w19.heap.size ≤ w20.heap.size := by have := hf.size; simpa using this
    replace hPp := hPp.fr hf (fun hk => by have := rgotg0 _ hk; omega)
    replace hTw0 := hTw0.fr hf (fun hk => by have := rgotg0 _ hk; omega)
    replace hxpb := hxpb.fr hf (fun hk => by have := rgotg0 _ hk; omega)
    replace hTg0 := hTg0.fr hf (fun hk => by have := rgotg0 _ hk; omega)
    replace otw0 := otw0.fr hf (fun k h1 h2 => by have a1 := rgotw0 k h1; have a2 := rgotg0 k h2; omega)
    replace opb := opb.fr hf (fun k h1 h2 => by have a1 := rgopb k h1; have a2 := rgotg0 k h2; omega)
    clear hf otg0
    have otg0 := otg0'
    clear otg0'
    obtain ⟨qhPp0, qhPp1, qhPp2⟩ := hPp.c3
    obtain ⟨qhTw00, qhTw01, qhTw02⟩ := hTw0.c3
    obtain ⟨qhxpb0, qhxpb1, qhxpb2⟩ := hxpb.c3
    obtain ⟨qhTg00, qhTg01, qhTg02⟩ := hTg0.c3
    go_wp2_with fail
    refine (heldPanel_any tg0 1 _ otg0.rd (by omega) (by omega)).mono ?_
    rintro e w21 ⟨rfl, hx⟩
    clear qhPp0 qhPp1 qhPp2 qhTw00 qhTw01 qhTw02 qhxpb0 qhxpb1 qhxpb2 qhTg00 qhTg01 qhTg02
    replace hX := hX.trans hx
    have z21 : w20.heap.size ≤ w21.heap.size := (by have := hx.size; simpa using this)
    replace hPp := hPp.ext hx
    replace hTw0 := hTw0.ext hx
    replace hxpb := hxpb.ext hx
    replace hTg0 := hTg0.ext hx
    replace otw0 := otw0.ext hx
    replace opb := opb.ext hx
    replace otg0 := otg0.ext hx
    clear hx
    obtain ⟨qhPp0, qhPp1, qhPp2⟩ := hPp.c3
    obtain ⟨qhTw00, qhTw01, qhTw02⟩ := hTw0.c3
    obtain ⟨qhxpb0, qhxpb1, qhxpb2⟩ := hxpb.c3
    obtain ⟨qhTg00, qhTg01, qhTg02⟩ := hTg0.c3
    clear qhPp0 qhPp1 qhPp2 qhTw00 qhTw01 qhTw02 qhxpb0 qhxpb1 qhxpb2 qhTg00 qhTg01 qhTg02
    go_wp2_with fail
    go_cut [18, 19] (fun s18 s19 wx => LawP w21 (clrV ts us l) (fitC ts us l) s18 s19 wx)
    case first =>
      have hW := (Ext.refl w21).drew
      have hPd := hPp.drew
      refine wp_region_sink (S := fun w' => w'.cell? ⟨w.heap.size, 0, none⟩ = some (.slice p.x.A p.x.n p.x.c) ∧ w'.cell? ⟨w.heap.size, 1, none⟩ = some (.slice p.y.A p.y.n p.y.c) ∧ w'.cell? ⟨w.heap.size, 2, none⟩ = some (.slice p.z.A p.z.n p.z.c)) 12 (by kernel_rfl) ?_
      change wpAnyT _ _ _ _ _ _ _ _ _ (World.drew _)
      generalize hwd : World.drew w21 = wd at hW hPd ⊢
      clear hwd
      have kk := hPd.c3
      refine wpAnyT_takeL (i := 0) 8 (v := ?_) rfl (by kernel_rfl) (by kernel_rfl) (by kernel_rfl) (by kernel_rfl) (by kernel_rfl) (fun _ _ _ h => h) (Or.inl ⟨by rfl, ?_⟩) kk ?_
      rotate_left 1
      · (intro W hSw; (try dsimp only at hSw); go_simp) <;> with_reducible rfl
      clear kk
      try simp only [Act.put, List.setIfInBounds_toArray, List.set_cons_zero, List.set_cons_succ]
      have kk := hPd.c3
      refine wpAnyT_takeL (i := 2) 8 (v := ?_) rfl (by kernel_rfl) (by kernel_rfl) (by kernel_rfl) (by kernel_rfl) (by kernel_rfl) (fun _ _ _ h => h) (Or.inl ⟨by rfl, ?_⟩) kk ?_
      rotate_left 1
      · (intro W hSw; (try dsimp only at hSw); go_simp) <;> with_reducible rfl
      clear kk
      try simp only [Act.put, List.setIfInBounds_toArray, List.set_cons_zero, List.set_cons_succ]
      have kk := hPd.c3
      refine wpAnyT_takeL (i := 4) 8 (v := ?_) rfl (by kernel_rfl) (by kernel_rfl) (by kernel_rfl) (by kernel_rfl) (by kernel_rfl) (fun _ _ _ h => h) (Or.inl ⟨by rfl, ?_⟩) kk ?_
      rotate_left 1
      · (intro W hSw; (try dsimp only at hSw); go_simp) <;> with_reducible rfl
      clear kk
      try simp only [Act.put, List.setIfInBounds_toArray, List.set_cons_zero, List.set_cons_succ]
      refine wpAnyT_go2 (i := 1) (j := 10) rfl rfl (by kernel_rfl) (fun K hK => ?_) (fun K hK => ?_)
      go_simp
      go_at_call 10
      refine (toTieS_any s ts _ ((rs.ext hX).ext hW)).mono ?_
      rintro e w_4n ⟨tsd, rfl, osd, hx⟩
      go_simp
      have csd := osd.cap
      replace osd := osd.rd
      replace hPd := hPd.ext hx
      replace hW := hW.trans hx
      refine hK _ _ ⟨fun _ => hPd.c3, ?_⟩
      clear hK K hx
      revert csd; revert osd; revert hPd; revert hW; revert tsd; revert w_4n
      refine ?nh_1
      rotate_left 1
      go_simp
      have hx := (Ext.refl wd).alloc (.cells #[.slice none 0 0, .slice none 0 0, .slice none 0 0] 30)
      have BP := Blk.new wd 30 (#[.slice none 0 0, .slice none 0 0, .slice none 0 0])
      obtain ⟨bP, hb⟩ : ∃ b, b = wd.heap.size := ⟨_, rfl⟩
      generalize hw : World.alloc wd (.cells #[.slice none 0 0, .slice none 0 0, .slice none 0 0] 30) = w_4n at hx BP ⊢
      rw [← hb] at BP ⊢
      have lP : w21.heap.size ≤ bP := by have := hW.size; omega
      replace hPd := hPd.ext hx
      replace hW := hW.trans hx
      refine hK _ _ ⟨fun _ => hPd.c3, ?_⟩
      clear hK K hx hb hw
      revert lP; revert BP; revert hPd; revert hW; revert bP; revert w_4n
      refine ?nh_2
      rotate_left 1
      -- nh_1
      intro w_4 tsd hW hPd osd csd
      refine wpAnyT_go2 (i := 3) (j := 10) rfl rfl (by kernel_rfl) (fun K hK => ?_) (fun K hK => ?_)
      go_simp
      go_at_call 11
      refine (toStringS_any u us _ ((ru.ext hX).ext hW)).mono ?_
      rintro e w_5n ⟨tud, rfl, oud, hx⟩
      go_simp
      replace oud := oud.rd
      replace hPd := hPd.ext hx
      replace osd := osd.ext hx
      replace hW := hW.trans hx
      refine hK _ _ ⟨fun _ => hPd.c3, ?_⟩
      clear hK K hx
      revert csd; revert oud; revert osd; revert hPd; revert hW; revert tud; revert tsd; revert w_5n
      clear w_4
      refine ?nh_3
      rotate_left 1
      go_simp
      have hx := (Ext.refl w_4).alloc (.cells #[.slice none 0 0, .slice none 0 0, .slice none 0 0] 30)
      have BP := Blk.new w_4 30 (#[.slice none 0 0, .slice none 0 0, .slice none 0 0])
      obtain ⟨bP, hb⟩ : ∃ b, b = w_4.heap.size := ⟨_, rfl⟩
      generalize hw : World.alloc w_4 (.cells #[.slice none 0 0, .slice none 0 0, .slice none 0 0] 30) = w_5n at hx BP ⊢
      rw [← hb] at BP ⊢
      have lP : w21.heap.size ≤ bP := by have := hW.size; omega
      replace hPd := hPd.ext hx
      replace osd := osd.ext hx
      replace hW := hW.trans hx
      refine hK _ _ ⟨fun _ => hPd.c3, ?_⟩
      clear hK K hx hb hw
      revert csd; revert lP; revert BP; revert osd; revert hPd; revert hW; revert bP; revert tsd; revert w_5n
      clear w_4
      refine ?nh_4
      rotate_left 1
      -- nh_2
      intro w_4 bP hW hPd BP lP
      refine wpAnyT_go (i := 1) rfl (by kernel_rfl) fun K hK => ?_
      go_simp
      go_at_call 10
      refine (toTieS_any s ts _ ((rs.ext hX).ext hW)).mono ?_
      rintro e w_5n ⟨tsd, rfl, osd, hx⟩
      go_simp
      have csd := osd.cap
      replace osd := osd.rd
      replace hPd := hPd.ext hx
      replace BP := BP.ext hx
      replace hW := hW.trans hx
      refine hK _ _ ⟨fun _ => hPd.c3, ?_⟩
      clear hK K hx
      revert csd; revert lP; revert BP; revert osd; revert hPd; revert hW; revert bP; revert tsd; revert w_5n
      clear w_4
      exact ?nh_4
      -- nh_3
      intro w_5 tsd tud hW hPd osd oud csd
      refine wpAnyT_go2 (i := 5) (j := 10) rfl rfl (by kernel_rfl) (fun K hK => ?_) (fun K hK => ?_)
      go_simp
      go_at_call 12
      refine (toPanel_any p l _ ((rp.ext hX).ext hW)).mono ?_
      rintro e w_6n ⟨tpd, rfl, opd, hx⟩
      go_simp
      replace opd := opd.rd
      replace hPd := hPd.ext hx
      replace osd := osd.ext hx
      replace oud := oud.ext hx
      replace hW := hW.trans hx
      refine hK _ _ ⟨fun _ => hPd.c3, ?_⟩
      clear hK K hx
      revert csd; revert oud; revert osd; revert opd; revert hPd; revert hW; revert tud; revert tsd; revert tpd; revert w_6n
      clear w_5
      refine ?nh_5
      rotate_left 1
      go_simp
      have hx := (Ext.refl w_5).alloc (.cells #[.slice none 0 0, .slice none 0 0, .slice none 0 0] 30)
      have BP := Blk.new w_5 30 (#[.slice none 0 0, .slice none 0 0, .slice none 0 0])
      obtain ⟨bP, hb⟩ : ∃ b, b = w_5.heap.size := ⟨_, rfl⟩
      generalize hw : World.alloc w_5 (.cells #[.slice none 0 0, .slice none 0 0, .slice none 0 0] 30) = w_6n at hx BP ⊢
      rw [← hb] at BP ⊢
      have lP : w21.heap.size ≤ bP := by have := hW.size; omega
      replace hPd := hPd.ext hx
      replace osd := osd.ext hx
      replace oud := oud.ext hx
      replace hW := hW.trans hx
      refine hK _ _ ⟨fun _ => hPd.c3, ?_⟩
      clear hK K hx hb hw
      revert csd; revert lP; revert BP; revert oud; revert osd; revert hPd; revert hW; revert bP; revert tud; revert tsd; revert w_6n
      clear w_5
      refine ?nh_6
      rotate_left 1
      -- nh_4
      intro w_5 tsd bP hW hPd osd BP lP csd
      refine wpAnyT_go (i := 3) rfl (by kernel_rfl) fun K hK => ?_
      go_simp
      go_at_call 11
      refine (toStringS_any u us _ ((ru.ext hX).ext hW)).mono ?_
      rintro e w_6n ⟨tud, rfl, oud, hx⟩
      go_simp
      replace oud := oud.rd
      replace hPd := hPd.ext hx
      replace osd := osd.ext hx
      replace BP := BP.ext hx
      replace hW := hW.trans hx
      refine hK _ _ ⟨fun _ => hPd.c3, ?_⟩
      clear hK K hx
      revert csd; revert lP; revert BP; revert oud; revert osd; revert hPd; revert hW; revert bP; revert tud; revert tsd; revert w_6n
      clear w_5
      exact ?nh_6
      -- nh_5
      intro w_6 tpd tsd tud hW hPd opd osd oud csd
      refine wpAnyT_go2 (i := 6) (j := 10) rfl rfl (by kernel_rfl) (fun K hK => ?_) (fun K hK => ?_)
      go_simp
      go_at_call 13
      refine (impl.ClearPanel_any tsd ts tud us tpd l _ osd oud opd csd).mono ?_
      rintro e w_7n ⟨tR, rfl, oR, hx⟩
      go_simp
      replace oR := Own3.mono (lo' := w21.heap.size) oR (by have := hW.size; omega)
      replace hPd := hPd.ext hx
      replace opd := opd.ext hx
      replace osd := osd.ext hx
      replace oud := oud.ext hx
      replace hW := hW.trans hx
      refine hK _ _ ⟨fun _ => hPd.c3, ?_⟩
      clear hK K hx
      have kk := hPd.c3
      refine wpAnyT_takeL (i := 7) 8 (v := ?_) rfl (by kernel_rfl) (by kernel_rfl) (by kernel_rfl) (by kernel_rfl) (by kernel_rfl) (fun _ _ _ h => h) (Or.inl ⟨by rfl, ?_⟩) kk ?_
      rotate_left 1
      · (intro W hSw; (try dsimp only at hSw); go_simp) <;> with_reducible rfl
      clear kk
      try simp only [Act.put, List.setIfInBounds_toArray, List.set_cons_zero, List.set_cons_succ]
      have kk := hPd.c3
      refine wpAnyT_takeL (i := 8) 8 (v := ?_) rfl (by kernel_rfl) (by kernel_rfl) (by kernel_rfl) (by kernel_rfl) (by kernel_rfl) (fun _ _ _ h => h) (Or.inl ⟨by rfl, ?_⟩) kk ?_
      rotate_left 1
      · (intro W hSw; (try dsimp only at hSw); go_simp) <;> with_reducible rfl
      clear kk
      try simp only [Act.put, List.setIfInBounds_toArray, List.set_cons_zero, List.set_cons_succ]
      have kk := hPd.c3
      refine wpAnyT_takeL (i := 9) 8 (v := ?_) rfl (by kernel_rfl) (by kernel_rfl) (by kernel_rfl) (by kernel_rfl) (by kernel_rfl) (fun _ _ _ h => h) (Or.inl ⟨by rfl, ?_⟩) kk ?_
      rotate_left 1
      · (intro W hSw; (try dsimp only at hSw); go_simp) <;> with_reducible rfl
      clear kk
      try simp only [Act.put, List.setIfInBounds_toArray, List.set_cons_zero, List.set_cons_succ]
      revert csd; revert oud; revert osd; revert opd; revert oR; revert hPd; revert hW; revert tud; revert tsd; revert tpd; revert tR; revert w_7n
      clear w_6
      refine ?nh_7
      rotate_left 1
      go_simp
      have hx := (Ext.refl w_6).alloc (.cells #[.slice none 0 0, .slice none 0 0, .slice none 0 0] 30)
      have BP := Blk.new w_6 30 (#[.slice none 0 0, .slice none 0 0, .slice none 0 0])
      obtain ⟨bP, hb⟩ : ∃ b, b = w_6.heap.size := ⟨_, rfl⟩
      generalize hw : World.alloc w_6 (.cells #[.slice none 0 0, .slice none 0 0, .slice none 0 0] 30) = w_7n at hx BP ⊢
      rw [← hb] at BP ⊢
      have lP : w21.heap.size ≤ bP := by have := hW.size; omega
      replace hPd := hPd.ext hx
      replace opd := opd.ext hx
      replace osd := osd.ext hx
      replace oud := oud.ext hx
      replace hW := hW.trans hx
      refine hK _ _ ⟨fun _ => hPd.c3, ?_⟩
      clear hK K hx hb hw
      revert csd; revert lP; revert BP; revert oud; revert osd; revert opd; revert hPd; revert hW; revert bP; revert tud; revert tsd; revert tpd; revert w_7n
      clear w_6
      refine ?nh_8
      rotate_left 1
      -- nh_6
      intro w_6 tsd tud bP hW hPd osd oud BP lP csd
      refine wpAnyT_go (i := 5) rfl (by kernel_rfl) fun K hK => ?_
      go_simp
      go_at_call 12
      refine (toPanel_any p l _ ((rp.ext hX).ext hW)).mono ?_
      rintro e w_7n ⟨tpd, rfl, opd, hx⟩
      go_simp
      replace opd := opd.rd
      replace hPd := hPd.ext hx
      replace osd := osd.ext hx
      replace oud := oud.ext hx
      replace BP := BP.ext hx
      replace hW := hW.trans hx
      refine hK _ _ ⟨fun _ => hPd.c3, ?_⟩
      clear hK K hx
      revert csd; revert lP; revert BP; revert oud; revert osd; revert opd; revert hPd; revert hW; revert bP; revert tud; revert tsd; revert tpd; revert w_7n
      clear w_6
      exact ?nh_8
      -- nh_7
      intro w_10 tR tpd tsd tud hW hPd oR opd osd oud csd
      refine wpAnyT_go (i := 10) rfl (by kernel_rfl) fun K hK => ?_
      go_simp
      have hx := (Ext.refl w_10).alloc (.cells #[.slice none 0 0, .slice none 0 0, .slice none 0 0] 30)
      have BP := Blk.new w_10 30 (#[.slice none 0 0, .slice none 0 0, .slice none 0 0])
      obtain ⟨bP, hb⟩ : ∃ b, b = w_10.heap.size := ⟨_, rfl⟩
      generalize hw : World.alloc w_10 (.cells #[.slice none 0 0, .slice none 0 0, .slice none 0 0] 30) = w_11n at hx BP ⊢
      rw [← hb] at BP ⊢
      have lP : w21.heap.size ≤ bP := by have := hW.size; omega
      have p_R_P : ∀ k, blks tR k → k ≠ bP := fun k hk e => by have a1 := (oR.lt hk).2; omega
      replace hPd := hPd.ext hx
      replace oR := oR.ext hx
      replace opd := opd.ext hx
      replace osd := osd.ext hx
      replace oud := oud.ext hx
      replace hW := hW.trans hx
      refine hK _ _ ⟨fun _ => hPd.c3, ?_⟩
      clear hK K hx hb hw
      revert csd; revert p_R_P; revert lP; revert BP; revert oud; revert osd; revert opd; revert oR; revert hPd; revert hW; revert bP; revert tud; revert tsd; revert tpd; revert tR; revert w_11n
      clear w_10
      refine ?nh_9
      rotate_left 1
      -- nh_8
      intro w_7 tpd tsd tud bP hW hPd opd osd oud BP lP csd
      refine wpAnyT_go (i := 6) rfl (by kernel_rfl) fun K hK => ?_
      go_simp
      go_at_call 13
      refine (impl.ClearPanel_any tsd ts tud us tpd l _ osd oud opd csd).mono ?_
      rintro e w_8n ⟨tR, rfl, oR, hx⟩
      go_simp
      have p_R_P : ∀ k, blks tR k → k ≠ bP := fun k hk e => by have a1 := (oR.lt hk).1; have a2 := BP.lt; omega
      replace oR := Own3.mono (lo' := w21.heap.size) oR (by have := hW.size; omega)
      replace hPd := hPd.ext hx
      replace opd := opd.ext hx
      replace osd := osd.ext hx
      replace oud := oud.ext hx
      replace BP := BP.ext hx
      replace hW := hW.trans hx
      refine hK _ _ ⟨fun _ => hPd.c3, ?_⟩
      clear hK K hx
      have kk := hPd.c3
      refine wpAnyT_takeL (i := 7) 8 (v := ?_) rfl (by kernel_rfl) (by kernel_rfl) (by kernel_rfl) (by kernel_rfl) (by kernel_rfl) (fun _ _ _ h => h) (Or.inl ⟨by rfl, ?_⟩) kk ?_
      rotate_left 1
      · (intro W hSw; (try dsimp only at hSw); go_simp) <;> with_reducible rfl
      clear kk
      try simp only [Act.put, List.setIfInBounds_toArray, List.set_cons_zero, List.set_cons_succ]
      have kk := hPd.c3
      refine wpAnyT_takeL (i := 8) 8 (v := ?_) rfl (by kernel_rfl) (by kernel_rfl) (by kernel_rfl) (by kernel_rfl) (by kernel_rfl) (fun _ _ _ h => h) (Or.inl ⟨by rfl, ?_⟩) kk ?_
      rotate_left 1
      · (intro W hSw; (try dsimp only at hSw); go_simp) <;> with_reducible rfl
      clear kk
      try simp only [Act.put, List.setIfInBounds_toArray, List.set_cons_zero, List.set_cons_succ]
      have kk := hPd.c3
      refine wpAnyT_takeL (i := 9) 8 (v := ?_) rfl (by kernel_rfl) (by kernel_rfl) (by kernel_rfl) (by kernel_rfl) (by kernel_rfl) (fun _ _ _ h => h) (Or.inl ⟨by rfl, ?_⟩) kk ?_
      rotate_left 1
      · (intro W hSw; (try dsimp only at hSw); go_simp) <;> with_reducible rfl
      clear kk
      try simp only [Act.put, List.setIfInBounds_toArray, List.set_cons_zero, List.set_cons_succ]
      revert csd; revert p_R_P; revert lP; revert BP; revert oud; revert osd; revert opd; revert oR; revert hPd; revert hW; revert bP; revert tud; revert tsd; revert tpd; revert tR; revert w_8n
      clear w_7
      exact ?nh_9
      -- nh_9
      intro w_11 tR tpd tsd tud bP hW hPd oR opd osd oud BP lP p_R_P csd
      obtain ⟨e0, e1, e2, e3, e4, e5⟩ := res3 BP
      refine wpAnyT_go (i := 11) rfl (by kernel_rfl) fun K hK => ?_
      go_simp
      have hne : bP ≠ w.heap.size := by have := hX.size; have := hPp.lt; omega
      refine hK _ _ ⟨fun _ => (((hPd.off bP 0 (Ne.symm hne) _).off bP 1 (Ne.symm hne) _).off bP 2 (Ne.symm hne) _).c3, ?_⟩
      clear hK K
      refine wpAnyT_go (i := 12) rfl (by kernel_rfl) fun K hK => ?_
      go_simp
      refine hK _ _ ⟨fun h => (by first | exact absurd rfl h | exact (((hPd.off bP 0 (Ne.symm hne) _).off bP 1 (Ne.symm hne) _).off bP 2 (Ne.symm hne) _).c3), ?_⟩
      clear hK K
      refine wpAnyT_done (by kernel_rfl) ?_ _
      go_wp2_with fail
      go_meet
      exact ⟨bP, tR, rfl, rfl, ((BP.set_ 0 _).set_ 1 _).set_ 2 _, Own3.aw (Own3.aw (Own3.aw oR p_R_P 0 _) p_R_P 1 _) p_R_P 2 _, ((hW.off bP 0 lP _).off bP 1 lP _).off bP 2 lP _, lP, p_R_P⟩
    case rest =>
      obtain ⟨gh, th0, rfl, rfl, hTh0, oth0, hx, hgh, hnh⟩ := hcut
      replace hX := hX.trans hx
      have z22 : w21.heap.size ≤ wc.heap.size := (by have := hx.size; simpa using this)
      replace hPp := hPp.ext hx
      replace hTw0 := hTw0.ext hx
      replace hxpb := hxpb.ext hx
      replace hTg0 := hTg0.ext hx
      replace otw0 := otw0.ext hx
      replace opb := opb.ext hx
      replace otg0 := otg0.ext hx
      obtain ⟨w22, hwc⟩ : ∃ w, w = wc := ⟨_, rfl⟩
      subst hwc
      have rgoth0 : ∀ k, blks th0 k → w21.heap.size ≤ k ∧ k < w22.heap.size := (fun k hk => by have := oth0.lt hk; simpa using this)
      have hlh := hTh0.lt
      clear hx
      obtain ⟨qhPp0, qhPp1, qhPp2⟩ := hPp.c3
      obtain ⟨qhTw00, qhTw01, qhTw02⟩ := hTw0.c3
      obtain ⟨qhxpb0, qhxpb1, qhxpb2⟩ := hxpb.c3
      obtain ⟨qhTg00, qhTg01, qhTg02⟩ := hTg0.c3
      obtain ⟨qhTh00, qhTh01, qhTh02⟩ := hTh0.c3
      go_wp2_with fail
      refine (eqPanel_yes th0 tw0 _ _ oth0.rd otw0.rd).mono ?_
      rintro e w23 ⟨rfl, hx⟩
      clear qhPp0 qhPp1 qhPp2 qhTw00 qhTw01 qhTw02 qhxpb0 qhxpb1 qhxpb2 qhTg00 qhTg01 qhTg02 qhTh00 qhTh01 qhTh02
      replace hX := hX.trans hx
      have z23 : w22.heap.size ≤ w23.heap.size := (by have := hx.size; simpa using this)
      replace hPp := hPp.ext hx
      replace hTw0 := hTw0.ext hx
      replace hxpb := hxpb.ext hx
      replace hTg0 := hTg0.ext hx
      replace hTh0 := hTh0.ext hx
      replace otw0 := otw0.ext hx
      replace opb := opb.ext hx
      replace otg0 := otg0.ext hx
      replace oth0 := oth0.ext hx
      clear hx
      obtain ⟨qhPp0, qhPp1, qhPp2⟩ := hPp.c3
      obtain ⟨qhTw00, qhTw01, qhTw02⟩ := hTw0.c3
      obtain ⟨qhxpb0, qhxpb1, qhxpb2⟩ := hxpb.c3
      obtain ⟨qhTg00, qhTg01, qhTg02⟩ := hTg0.c3
      obtain ⟨qhTh00, qhTh01, qhTh02⟩ := hTh0.c3
      go_wp2_with fail
      refine (heldPanel_any tg0 1 _ otg0.rd (by omega) (by omega)).mono ?_
      rintro e w24 ⟨rfl, hx⟩
      clear qhPp0 qhPp1 qhPp2 qhTw00 qhTw01 qhTw02 qhxpb0 qhxpb1 qhxpb2 qhTg00 qhTg01 qhTg02 qhTh00 qhTh01 qhTh02
      replace hX := hX.trans hx
      have z24 : w23.heap.size ≤ w24.heap.size := (by have := hx.size; simpa using this)
      replace hPp := hPp.ext hx
      replace hTw0 := hTw0.ext hx
      replace hxpb := hxpb.ext hx
      replace hTg0 := hTg0.ext hx
      replace hTh0 := hTh0.ext hx
      replace otw0 := otw0.ext hx
      replace opb := opb.ext hx
      replace otg0 := otg0.ext hx
      replace oth0 := oth0.ext hx
      clear hx
      obtain ⟨qhPp0, qhPp1, qhPp2⟩ := hPp.c3
      obtain ⟨qhTw00, qhTw01, qhTw02⟩ := hTw0.c3
      obtain ⟨qhxpb0, qhxpb1, qhxpb2⟩ := hxpb.c3
      obtain ⟨qhTg00, qhTg01, qhTg02⟩ := hTg0.c3
      obtain ⟨qhTh00, qhTh01, qhTh02⟩ := hTh0.c3
      go_wp2
      go_ret
      exact ⟨rfl, hX⟩
theorem own_ClearPanel : ownKnob Try.prog.godebug = none := by kernel_rfl
set_option maxRecDepth 100000 in
theorem lifted_ClearPanel (os : Os) (started : os.Started) (H : Type) (enc : TypeId × Value → H) :
    ReturnsInHanded {} Try.checked os 3 .any (Rows.fnExactClearPanelSpec.pre6 enc Try.prog Try.f3 Rows.fnExactClearPanelRow.domain false) (Rows.fnExactClearPanelSpec.post enc Try.prog Try.f3 false true false false) := by
  refine returnsInHanded_of_change (C := Try.checked) own_ClearPanel started (by kernel_rfl) Try.func3
    (ChangeSpec.witness6 (enc := enc) (C := Try.checked) false ⟨#[], #[.slice none 0 0, .slice none 0 0, .agg #[.slice none 0 0, .slice none 0 0, .slice none 0 0]], []⟩ 8 (by kernel_rfl) (by kernel_rfl) (by kernel_rfl) (by kernel_rfl)) ?_
  intro W base args ds gs before hval0 hW hcnd _
  have hval : ∀ (j : Nat) t v, Try.f3.params[j]? = some t → args[j]? = some v → Value.okWide Try.prog W .any base t v := hval0
  have hW' := hW
  obtain ⟨p, q, hA0, hV, rfl, hfz, hnd⟩ := hW
  have hA : DataW.TrodAll enc Try.prog W 0 (fun _ => true) true Try.f3.params.toList args.toList ds p := hA0
  rw [Try.params3] at hA hval
  obtain ⟨v0, vs0, d0, ds0, p0, q0, hargs, rfl, rfl, h0, r0⟩ := trodAll_cons hA
  obtain ⟨v1, vs1, d1, ds1, p1, q1, rfl, rfl, rfl, h1, r1⟩ := trodAll_cons r0
  obtain ⟨v2, vs2, d2, ds2, p2, q2, rfl, rfl, rfl, h2, r2⟩ := trodAll_cons r1
  obtain ⟨rfl, rfl, rfl⟩ := trodAll_nil r2
  obtain rfl : args = #[v0, v1, v2] := by cases args; simp_all
  obtain ⟨rfl, rfl⟩ := trodVars_none hV
  have k0 := h0
  have lt0 : ∀ x ∈ p0, x.block < W.heap.size := by obtain ⟨m, hm⟩ := k0; exact DataW.trod_lt m _ _ _ hm
  obtain ⟨s0, x0, rfl, i0⟩ := open_ties_arg (hval 0 22 v0 rfl rfl) h0 (fun _ => rfl)
  have k1 := h1
  have lt1 : ∀ x ∈ p1, x.block < W.heap.size := by obtain ⟨m, hm⟩ := k1; exact DataW.trod_lt m _ _ _ hm
  obtain ⟨s1, x1, rfl, i1⟩ := open_strs_arg (hval 1 23 v1 rfl rfl) h1 (fun _ => rfl)
  have k2 := h2
  have lt2 : ∀ x ∈ p2, x.block < W.heap.size := by obtain ⟨m, hm⟩ := k2; exact DataW.trod_lt m _ _ _ hm
  obtain ⟨s2, x2, rfl, i2⟩ := open_Panel (hval 2 26 v2 rfl rfl) h2 (fun _ => rfl)
  clear hA0 hval0
  refine (law_ClearPanel s0 x0 s1 x1 s2 x2 W i0 i1 i2).mono fun e W' ⟨he, bel⟩ => ?_
  subst he
  exact ⟨_, rfl, _, _, _, [], _, [], hW', trodAll_mk1 (shut_bool Try.underlying4 _), (trodAll_cons_mk (Below.trod laidOut (by kernel_rfl) (of_decide_eq_true (by kernel_rfl)) k0 bel lt0) (trodAll_cons_mk (Below.trod laidOut (by kernel_rfl) (of_decide_eq_true (by kernel_rfl)) k1 bel lt1) (trodAll_cons_mk (Below.trod laidOut (by kernel_rfl) (of_decide_eq_true (by kernel_rfl)) k2 bel lt2) trodAll_mk0))), rfl, Below.frame bel _, fun h => by cases h⟩
theorem over_ClearPanel : Rows.fnExactClearPanelRow.holds Try.pinned (OpenSpec.ofChange Rows.fnExactClearPanelSpec) :=
  OpenClaim.holds_of_wide 3 Try.f3 rfl rfl rfl rfl rfl rfl rfl ⟨rfl, rfl, rfl, rfl, rfl⟩ rfl rfl rfl rfl rfl (by kernel_rfl) Try.func3 (by kernel_rfl)
    (of_decide_eq_true (by kernel_rfl)) (by unfold Func.isWrapper; first | (rw [if_pos (by decide +kernel)]; kernel_rfl) | (rw [if_neg (by decide +kernel)]; exact ⟨rfl, rfl⟩))
    (fun os started H enc _ => lifted_ClearPanel os started H enc)
/-- the statement -/
theorem proved_ClearPanel : Rows.FnExactClearPanelSaid := over_ClearPanel
#print axioms proved_ClearPanel
end Go.Proofs.Ytalhnkobkhiofaa.mem
