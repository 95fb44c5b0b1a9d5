/- The contract of order.Less. -/
import Derived.Test.YtamhdpllmhafhaaPureBelow2
import Derived.Test.YtamhdpllmhafhaaHKeep
import Derived.RegionTactic
import Derived.ChangeAlike
import Derived.BigRegion
import Derived.StillTailTactics
namespace Go.Proofs.Ytamhdpllmhafhaa.X
open Go.RowKit Go.Proofs.YtamhdpllmhafhaaW.PrintWords Go.Proofs.YtamhdpllmhafhaaW.PrintLast Go.Proofs.YtamhdpllmhafhaaW.PrintMore
set_option linter.unusedVariables false
set_option linter.unusedSimpArgs false

/-- At that place of the memory a type is read. -/
def PT (w : World) (p : Addr) (t : S26) : Prop := ∃ A c, w.cell? p = some (.int .i8 t.f0) ∧ w.cell? ⟨p.block, p.off + 1, none⟩ = some (.slice A t.f1.length c) ∧ IsT w (.agg #[.int .i8 t.f0, .slice A t.f1.length c]) t
theorem PT.below {w w' : World} {p : Addr} {t : S26} (h : PT w p t) (hB : Below w.heap.size w w') : PT w' p t := by
  obtain ⟨A, c, h1, h2, h3⟩ := h
  exact ⟨A, c, pw_cell_below hB h1, pw_cell_below hB h2, h3.below hB⟩
theorem stop_z (p q : Addr) (k0 : Int) (w : World) (h : w.cell? p = some (.int .i8 k0)) (z : (k0 == 0) = true) :
    Calls Try.prog 99 #[.pointer (some p), .pointer (some q)] w fun e w' => e = .returned (.tuple #[.bool true, .bool true]) ∧ Below w.heap.size w w' := by
  go_enter Try.func99, Try.ntmps99
  go_wp2_with fail
  exact bodyPost_ret (v := .tuple #[.bool true, .bool true]) (by simp [results, Try.results99, go_sem]) rfl ⟨rfl, Below.refl _ _⟩
theorem stop_n (p q : Addr) (k0 k1 : Int) (r : Bool) (w : World) (h : w.cell? p = some (.int .i8 k0)) (h' : w.cell? q = some (.int .i8 k1)) (z : (k0 == 0) = false) (d : (k0 != k1) = r) :
    Calls Try.prog 99 #[.pointer (some p), .pointer (some q)] w fun e w' => e = .returned (.tuple #[.bool false, .bool r]) ∧ Below w.heap.size w w' := by
  go_enter Try.func99, Try.ntmps99
  go_wp2_with fail
  go_region
  go_wp2_with fail
  exact bodyPost_ret (v := .tuple #[.bool false, .bool r]) (by simp [results, Try.results99, go_sem]) rfl ⟨rfl, (Below.refl _ _).drew⟩
theorem down_z (p q : Addr) (k0 : Int) (w : World) (h : w.cell? p = some (.int .i8 k0)) (z : (k0 == 0) = true) :
    Calls Try.prog 98 #[.pointer (some p), .pointer (some q), .func (Fn.func 99) #[] #[]] w (BPost true w) := by
  go_enter Try.func98, Try.ntmps98
  go_wp2_with fail
  refine (stop_z p q k0 _ h z).mono ?_
  rintro e w1 ⟨rfl, hB⟩
  have HB := Aside0.mk hB
  clear hB
  go_wp2_with fail
  go_ret
  exact ⟨rfl, HB.out⟩
theorem down_ne (p q : Addr) (k0 k1 : Int) (w : World) (h : w.cell? p = some (.int .i8 k0)) (h' : w.cell? q = some (.int .i8 k1)) (z : (k0 == 0) = false) (d : (k0 != k1) = true) :
    Calls Try.prog 98 #[.pointer (some p), .pointer (some q), .func (Fn.func 99) #[] #[]] w (BPost false w) := by
  go_enter Try.func98, Try.ntmps98
  go_wp2_with fail
  refine (stop_n p q k0 k1 true _ h h' z d).mono ?_
  rintro e w1 ⟨rfl, hB⟩
  have HB := Aside0.mk hB
  clear hB
  go_wp2_with fail
  go_ret
  exact ⟨rfl, HB.out⟩
theorem down_leaf (p q : Addr) (k : Int) (A : Option Addr) (c : Nat) (w : World) (h : w.cell? p = some (.int .i8 k)) (h1 : w.cell? ⟨p.block, p.off + 1, none⟩ = some (.slice A 0 c)) (h' : w.cell? q = some (.int .i8 k)) (z : (k == 0) = false) :
    Calls Try.prog 98 #[.pointer (some p), .pointer (some q), .func (Fn.func 99) #[] #[]] w (BPost true w) := by
  go_enter Try.func98, Try.ntmps98
  go_wp2_with fail
  refine (stop_n p q k k false _ h h' z (by simp)).mono ?_
  rintro e w1 ⟨rfl, hB⟩
  have HB := Aside0.mk hB
  replace h1 := pw_cell_below hB h1
  clear hB h h'
  go_wp2_with fail
  go_loopw [24] (fun i wr => i = .int .i64 0 ∧ Below w.heap.size w wr) (fun i _ => 0)
  case atStart => exact ⟨rfl, HB.out⟩
  case round =>
    obtain ⟨rfl, hB⟩ := hrel
    have HB2 := Aside0.mk hB
    clear hB
    go_wp2_with fail
    go_ret
    exact ⟨rfl, HB2.out⟩
def remB (k : Nat) (x y x' y' : S26) : Bool := if k = 0 then lessB x x' && lessB y y' else if k = 1 then lessB y y' else true
set_option maxRecDepth 100000 in
set_option maxHeartbeats 1600000 in
theorem down_two (k : Int) (x y x' y' : S26) (p q ad bd : Addr) (c d : Nat) (Bx By Bx' By' : Option Addr) (dx dy dx' dy' : Nat) (w : World)
    (IHX : Aside0 (∀ (p q : Addr) (w : World), PT w p x → PT w q x' → Calls Try.prog 98 #[.pointer (some p), .pointer (some q), .func (Fn.func 99) #[] #[]] w (BPost (lessB x x') w)))
    (IHY : Aside0 (∀ (p q : Addr) (w : World), PT w p y → PT w q y' → Calls Try.prog 98 #[.pointer (some p), .pointer (some q), .func (Fn.func 99) #[] #[]] w (BPost (lessB y y') w)))
    (h : w.cell? p = some (.int .i8 k)) (h1 : w.cell? ⟨p.block, p.off + 1, none⟩ = some (.slice (some ad) 2 c)) (h' : w.cell? q = some (.int .i8 k)) (h1' : w.cell? ⟨q.block, q.off + 1, none⟩ = some (.slice (some bd) 2 d)) (z : (k == 0) = false)
    (PX : Aside0 (PT w ad x)) (PX' : Aside0 (PT w bd x')) (PY : Aside0 (PT w ⟨ad.block, ad.off + 2, none⟩ y)) (PY' : Aside0 (PT w ⟨bd.block, bd.off + 2, none⟩ y')) :
    Calls Try.prog 98 #[.pointer (some p), .pointer (some q), .func (Fn.func 99) #[] #[]] w (BPost (lessB x x' && lessB y y') w) := by
  have E1 := Aside0.mk h1
  have E2 := Aside0.mk h1'
  go_enter Try.func98, Try.ntmps98
  go_wp2_with fail
  refine (stop_n p q k k false _ h h' z (by simp)).mono ?_
  rintro e w1 ⟨rfl, hB⟩
  have HB := Aside0.mk hB
  replace h1 := pw_cell_below hB h1
  clear hB h h' h1'
  go_wp2_with fail
  clear h1
  go_loopw [24] (fun i wr => ∃ j : Nat, i = .int .i64 j ∧ j ≤ 2 ∧ remB j x y x' y' = (lessB x x' && lessB y y') ∧ Below w.heap.size w wr) (fun i _ => 2 - (intOf i).toNat)
  case atStart => exact ⟨0, rfl, by omega, rfl, HB.out⟩
  case round =>
    obtain ⟨j, rfl, hj, hr, hB⟩ := hrel
    have g1 := pw_cell_below hB E1.out
    have g2 := pw_cell_below hB E2.out
    have HB2 := Aside0.mk hB
    have hj3 : j = 0 ∨ j = 1 ∨ j = 2 := by omega
    have HR := Aside0.mk hr
    clear hB hr
    rcases hj3 with rfl | rfl | rfl
    · go_wp2_with fail
      go_still_tail 13, (by kernel_rfl)
      go_wp2_with fail
      refine (IHX.out _ _ _ (PX.out.below HB2.out.drew) (PX'.out.below HB2.out.drew)).mono ?_
      rintro e w2 ⟨rfl, hB⟩
      have HB3 := Aside0.mk (below_then HB2.out.drew HB2.out.drew.size hB)
      clear hB g1 g2
      cases hl : lessB x x' with
      | false =>
        have HL := Aside0.mk hl
        clear hl
        go_wp2_with fail
        go_ret
        exact ⟨(by rw [← HR.out]; simp [remB, HL.out]), HB3.out⟩
      | true =>
        have HL := Aside0.mk hl
        clear hl
        go_wp2_with fail
        go_roundw
        case rel => exact ⟨1, by go_num, by omega, (by rw [← HR.out]; simp [remB, HL.out]), HB3.out⟩
        case measure => simp [intOf]
    · go_wp2_with fail
      go_still_tail 13, (by kernel_rfl)
      go_wp2_with fail
      refine (IHY.out _ _ _ (PY.out.below HB2.out.drew) (PY'.out.below HB2.out.drew)).mono ?_
      rintro e w2 ⟨rfl, hB⟩
      have HB3 := Aside0.mk (below_then HB2.out.drew HB2.out.drew.size hB)
      clear hB g1 g2
      cases hl : lessB y y' with
      | false =>
        have HL := Aside0.mk hl
        clear hl
        go_wp2_with fail
        go_ret
        exact ⟨(by rw [← HR.out]; simp [remB, HL.out]), HB3.out⟩
      | true =>
        have HL := Aside0.mk hl
        clear hl
        go_wp2_with fail
        go_roundw
        case rel => exact ⟨2, by go_num, by omega, (by rw [← HR.out]; simp [remB, HL.out]), HB3.out⟩
        case measure => simp [intOf]
    · go_wp2_with fail
      go_ret
      exact ⟨by rw [← HR.out]; rfl, HB2.out⟩
theorem down_calls (n : Nat) : ∀ (a b : S26) (p q : Addr) (w : World), nodes a < n → rightB a = true → rightB b = true → PT w p a → PT w q b → Calls Try.prog 98 #[.pointer (some p), .pointer (some q), .func (Fn.func 99) #[] #[]] w (BPost (lessB a b) w) := by
  induction n with
  | zero => intro a b p q w h; omega
  | succ n ih =>
    intro a b p q w hn ha hb hp hq
    obtain ⟨A, c, p0, p1, tA⟩ := hp
    obtain ⟨B, d, q0, q1, tB⟩ := hq
    refine two_cases ha hb _ ?_ ?_ ?_ ?_ ?_ ?_
    · rintro rfl rfl; rw [less_z]; exact down_z p q _ w p0 rfl
    · rintro rfl h; rw [less_z]; exact down_z p q _ w p0 rfl
    · rintro h rfl; rw [less_to_z h]; exact down_ne p q _ _ w p0 q0 (by simpa using h) (by simpa [z26_f0] using h)
    · intro h h' hne; rw [less_ne h hne]; exact down_ne p q _ _ w p0 q0 (by simpa using h) (by simpa using hne)
    · rintro k hk h0 rfl rfl; rw [less_leaf]; exact down_leaf p q k A c w p0 p1 q0 (by simpa using h0)
    · rintro k x y x' y' hk hx hy hx' hy' rfl rfl
      rw [nodes_two] at hn
      have n1 := nodes_pos x
      have n2 := nodes_pos y
      obtain ⟨ad, c1, Bx, dx, By, dy, ev, hEA, hTX, hTY, _⟩ := tA.open2
      obtain ⟨bd, d1, Bx', dx', By', dy', ev', hEB, hTX', hTY', _⟩ := tB.open2
      obtain ⟨rfl, rfl⟩ : A = some ad ∧ c = c1 := by simpa using ev
      obtain ⟨rfl, rfl⟩ : B = some bd ∧ d = d1 := by simpa using ev'
      rw [less_two hk]
      exact down_two k x y x' y' p q ad bd c d Bx By Bx' By' dx dy dx' dy' w (.mk fun p q w h h' => ih x x' p q w (by omega) hx hx' h h') (.mk fun p q w h h' => ih y y' p q w (by omega) hy hy' h h') p0 p1 q0 q1 (by simpa using node_ne_zero hk)
        (.mk ⟨_, _, hEA.1, hEA.2.1, hTX⟩) (.mk ⟨_, _, hEB.1, hEB.2.1, hTX'⟩) (.mk ⟨_, _, hEA.2.2.1, hEA.2.2.2, hTY⟩) (.mk ⟨_, _, hEB.2.2.1, hEB.2.2.2, hTY'⟩)
theorem less87_calls {a b : S26} {p q : Addr} {w : World} (ha : rightB a = true) (hb : rightB b = true) (hp : PT w p a) (hq : PT w q b) : Calls Try.prog 87 #[.pointer (some p), .pointer (some q)] w (BPost (lessB a b) w) := by
  have HP := Aside0.mk hp
  have HQ := Aside0.mk hq
  have RA := Aside0.mk ha
  have RB := Aside0.mk hb
  clear hp hq ha hb
  go_enter Try.func87, Try.ntmps87
  go_wp2_with fail
  refine (down_calls _ a b p q _ (Nat.lt_succ_self _) RA.out RB.out HP.out HQ.out).mono ?_
  rintro e w1 ⟨rfl, hB⟩
  have HB := Aside0.mk hB
  clear hB
  go_wp2_with fail
  go_ret
  exact ⟨rfl, HB.out⟩
theorem PT_of {w : World} {g : Nat} {A : Option Addr} {c : Nat} {t : S26} {u : TypeId} (hb : w.heap[g]? = some (.cells #[.int .i8 t.f0, .slice A t.f1.length c] u (0, 0))) (h : IsT w (.agg #[.int .i8 t.f0, .slice A t.f1.length c]) t) : PT w ⟨g, 0, none⟩ t :=
  ⟨A, c, (blk_cell hb 0).trans rfl, (blk_cell hb 1).trans rfl, h⟩
set_option maxRecDepth 100000 in
set_option maxHeartbeats 1600000 in
theorem Less_calls {a b : S26} {va vb : Value} {w : World} (ha : IsT w va a) (hb : IsT w vb b) : Calls Try.prog 55 #[va, vb] w (BPost (lessR a b) w) := by
  have T0 := Aside0.mk ha
  have T1 := Aside0.mk hb
  obtain ⟨A, c, rfl, _, _⟩ := ha
  obtain ⟨B, d, rfl, _, _⟩ := hb
  by_cases h1 : checkI a = 0
  · by_cases h2 : checkI b = 0
    · have HV : Aside0 (lessR a b = lessB a b) := .mk (by simp [lessR, h1, h2])
      rw [HV.out]
      have C0 := Aside0.mk h1
      have C1 := Aside0.mk h2
      clear h1 h2
      go_enter Try.func55, Try.ntmps55
      go_wp2_with fail
      refine (Check_calls (T0.out.below (below2 ..))).mono ?_
      rw [C0.out]
      rintro e w1 ⟨rfl, hB⟩
      obtain ⟨b1, b2, hB1⟩ := two_blocks hB
      have K1 := Aside0.mk b1
      have K2 := Aside0.mk b2
      have HB := Aside0.mk hB1
      replace T0 := Aside0.mk (IsT.below T0.out hB1)
      replace T1 := Aside0.mk (IsT.below T1.out hB1)
      clear hB hB1 b1 b2
      obtain ⟨e20, e21⟩ := c26_of K2.out (Below.refl _ _)
      go_wp2_with fail
      refine (Check_calls T1.out).mono ?_
      rw [C1.out]
      rintro e w2 ⟨rfl, hB⟩
      replace K1 := Aside0.mk (blk_below K1.out hB)
      replace K2 := Aside0.mk (blk_below K2.out hB)
      replace T0 := Aside0.mk (IsT.below T0.out hB)
      replace T1 := Aside0.mk (IsT.below T1.out hB)
      replace HB := Aside0.mk (below_then HB.out HB.out.size hB)
      clear hB e20 e21
      go_wp2_with fail
      refine (less87_calls (check_nodes C0.out).2.2 (check_nodes C1.out).2.2 (PT_of K1.out T0.out) (PT_of K2.out T1.out)).mono ?_
      rintro e w3 ⟨rfl, hB⟩
      replace HB := Aside0.mk (below_then HB.out HB.out.size hB)
      clear hB
      go_wp2_with fail
      go_ret
      exact ⟨rfl, HB.out⟩
    · have HV : Aside0 (lessR a b = false) := .mk (by simp [lessR, h2])
      rw [HV.out]
      have C0 := Aside0.mk h1
      have d2 : (checkI b == 0) = false := by simp [h2]
      clear h1 h2
      go_enter Try.func55, Try.ntmps55
      go_wp2_with fail
      refine (Check_calls (T0.out.below (below2 ..))).mono ?_
      rw [C0.out]
      rintro e w1 ⟨rfl, hB⟩
      obtain ⟨b1, b2, hB1⟩ := two_blocks hB
      have K2 := Aside0.mk b2
      have HB := Aside0.mk hB1
      replace T0 := Aside0.mk (IsT.below T0.out hB1)
      replace T1 := Aside0.mk (IsT.below T1.out hB1)
      clear hB hB1 b1 b2
      obtain ⟨e20, e21⟩ := c26_of K2.out (Below.refl _ _)
      go_wp2_with fail
      refine (Check_calls T1.out).mono ?_
      rintro e w2 ⟨rfl, hB⟩
      replace HB := Aside0.mk (below_then HB.out HB.out.size hB)
      clear hB e20 e21
      go_wp2_with fail
      go_ret
      exact ⟨rfl, HB.out⟩
  · have HV : Aside0 (lessR a b = false) := .mk (by simp [lessR, h1])
    rw [HV.out]
    have d1 : (checkI a == 0) = false := by simp [h1]
    clear h1
    go_enter Try.func55, Try.ntmps55
    go_wp2_with fail
    refine (Check_calls (T0.out.below (below2 ..))).mono ?_
    rintro e w1 ⟨rfl, hB⟩
    have HB := Aside0.mk (below_then (below2 ..) (below2 ..).size hB)
    clear hB
    go_wp2_with fail
    go_ret
    exact ⟨rfl, HB.out⟩
end Go.Proofs.Ytamhdpllmhafhaa.X
