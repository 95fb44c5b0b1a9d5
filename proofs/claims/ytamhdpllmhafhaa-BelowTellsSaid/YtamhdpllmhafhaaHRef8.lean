/- The contracts of the document's below, pos, neg (layer 8). -/
import Derived.Test.YtamhdpllmhafhaaPureBelow
import Derived.Test.YtamhdpllmhafhaaHTake
import Derived.Test.YtamhdpllmhafhaaHKeep
import Derived.Test.YtamhdpllmhafhaaHGround
import Derived.Test.YtamhdpllmhafhaaFR8
import Derived.RegionTactic
import Derived.ChangeAlike
import Derived.BigRegion
namespace Go.Proofs.Ytamhdpllmhafhaa.X
open Go.RowKit Go.Proofs.YtamhdpllmhafhaaW.PrintWords Go.Proofs.YtamhdpllmhafhaaW.PrintLast Go.Proofs.YtamhdpllmhafhaaW.PrintMore
set_option linter.unusedVariables false
set_option linter.unusedSimpArgs false

theorem r8ground_calls {t : S26} {v : Value} {w : World} (hc : checkI t = 0) (h0 : t.f0 ≠ 0) (h : IsT w v t) : Calls Try.prog 90 #[v] w fun e w' => ∃ vg, e = .returned vg ∧ IsT w' vg (groundS t) ∧ Below w.heap.size w w' := by
  obtain ⟨A, c, rfl, h1, h2⟩ := h
  have hev := refGround_ev t
  rw [ground_eq hc h0] at hev
  have hev2 : Ev (fun f => lychgateref08_ground.f f t.f0 t.f1) ((groundS t).f0, (groundS t).f1) := by
    unfold lychgateref08_ground.f
    exact Ev.bind hev (Ev.now _)
  obtain ⟨k, hk⟩ := hev2.rounds
  refine (lychgateref08_ground.calls k t.f0 A c t.f1 _ _ w h2 h1 hk).mono ?_
  rintro e w' ⟨v1, rfl, hR, hB⟩
  obtain ⟨B, d, rfl, h3, h4⟩ := Kd.N_reads hR
  exact ⟨_, rfl, ⟨B, d, rfl, h3, h4⟩, hB⟩
theorem r8right_calls {a b : S26} {va vb : Value} {w : World} (ha : IsT w va a) (hb : IsT w vb b) : Calls Try.prog 68 #[va, vb] w fun e w' => e = .returned (.bool (decide (checkI a = 0) && decide (checkI b = 0))) ∧ Below w.heap.size w w' := by
  obtain ⟨A, c, rfl, h1, h2⟩ := ha
  obtain ⟨B, d, rfl, h3, h4⟩ := hb
  have hev : Ev (fun f => lychgateref08_right.f f a.f0 a.f1 b.f0 b.f1) (decide (checkI a = 0) && decide (checkI b = 0)) := by
    unfold lychgateref08_right.f
    refine Ev.bind (Ev_eq (refCheck_ev a.f0 a.f1) (by rw [S26.eta])) ?_
    by_cases e1 : checkI a = 0
    · simp only [e1, if_true, decide_true, Bool.true_and]
      refine Ev.bind (Ev_eq (refCheck_ev b.f0 b.f1) (by rw [S26.eta])) ?_
      exact Ev_eq (Ev.now _) (by by_cases e2 : checkI b = 0 <;> simp [e2])
    · simpa [e1] using Ev.now _
  obtain ⟨k, hk⟩ := hev.rounds
  exact lychgateref08_right.calls k a.f0 A c a.f1 b.f0 B d b.f1 _ w h2 h1 h4 h3 hk

def R3 (n : Nat) : Prop := ∀ a b va vb w, mu a b < n → checkI a = 0 → checkI b = 0 → IsT w va a → IsT w vb b →
  Calls Try.prog 69 #[va, vb] w (BPost (bel 0 a b) w) ∧ Calls Try.prog 71 #[va, vb] w (BPost (bel 1 a b) w) ∧ Calls Try.prog 73 #[va, vb] w (BPost (bel 2 a b) w)

set_option maxHeartbeats 800000 in
theorem b69_zz (k0 k1 : Int) (A0 A1 : Option Addr) (n0 n1 c0 c1 : Nat) (w : World) (z0 : (k0 == 0) = true) (z1 : (k1 == 0) = true) :
    Calls Try.prog 69 #[.agg #[.int .i8 k0, .slice A0 n0 c0], .agg #[.int .i8 k1, .slice A1 n1 c1]] w (BPost true w) := by
  go_enter Try.func69, Try.ntmps69
  go_wp2_with fail
  go_ret
  exact ⟨rfl, below2 ..⟩
set_option maxHeartbeats 800000 in
theorem b69_z (k0 k1 : Int) (A0 A1 : Option Addr) (n0 n1 c0 c1 : Nat) (w : World) (z0 : (k0 == 0) = true) (z1 : (k1 == 0) = false) :
    Calls Try.prog 69 #[.agg #[.int .i8 k0, .slice A0 n0 c0], .agg #[.int .i8 k1, .slice A1 n1 c1]] w (BPost false w) := by
  go_enter Try.func69, Try.ntmps69
  go_wp2_with fail
  go_ret
  exact ⟨rfl, below2 ..⟩
set_option maxHeartbeats 800000 in
theorem b69_ne (k0 k1 : Int) (A0 A1 : Option Addr) (n0 n1 c0 c1 : Nat) (w : World) (z0 : (k0 == 0) = false) (z1 : (k1 == 0) = false) (ne : (k0 != k1) = true) :
    Calls Try.prog 69 #[.agg #[.int .i8 k0, .slice A0 n0 c0], .agg #[.int .i8 k1, .slice A1 n1 c1]] w (BPost false w) := by
  go_enter Try.func69, Try.ntmps69
  go_wp2_with fail
  go_ret
  exact ⟨rfl, below2 ..⟩
set_option maxHeartbeats 800000 in
theorem b69_1 (k0 k1 : Int) (A0 A1 : Option Addr) (n0 n1 c0 c1 : Nat) (w : World) (z0 : (k0 == 0) = false) (z1 : (k1 == 0) = false) (ne : (k0 != k1) = false) (e1 : (k0 == 1) = true) :
    Calls Try.prog 69 #[.agg #[.int .i8 k0, .slice A0 n0 c0], .agg #[.int .i8 k1, .slice A1 n1 c1]] w (BPost true w) := by
  go_enter Try.func69, Try.ntmps69
  go_wp2_with fail
  go_ret
  exact ⟨rfl, below2 ..⟩
set_option maxHeartbeats 800000 in
theorem b69_2 (k0 k1 : Int) (A0 A1 : Option Addr) (n0 n1 c0 c1 : Nat) (w : World) (z0 : (k0 == 0) = false) (z1 : (k1 == 0) = false) (ne : (k0 != k1) = false) (e1 : (k0 == 1) = false) (e2 : (k0 == 2) = true) :
    Calls Try.prog 69 #[.agg #[.int .i8 k0, .slice A0 n0 c0], .agg #[.int .i8 k1, .slice A1 n1 c1]] w (BPost true w) := by
  go_enter Try.func69, Try.ntmps69
  go_wp2_with fail
  go_ret
  exact ⟨rfl, below2 ..⟩
set_option maxHeartbeats 800000 in
theorem b71_u (k0 k1 : Int) (A0 A1 : Option Addr) (n0 n1 c0 c1 : Nat) (w : World) (z1 : (k1 == 0) = true) :
    Calls Try.prog 71 #[.agg #[.int .i8 k0, .slice A0 n0 c0], .agg #[.int .i8 k1, .slice A1 n1 c1]] w (BPost true w) := by
  go_enter Try.func71, Try.ntmps71
  go_wp2_with fail
  go_ret
  exact ⟨rfl, below2 ..⟩
set_option maxHeartbeats 800000 in
theorem b71_z (k0 k1 : Int) (A0 A1 : Option Addr) (n0 n1 c0 c1 : Nat) (w : World) (z1 : (k1 == 0) = false) (z0 : (k0 == 0) = true) :
    Calls Try.prog 71 #[.agg #[.int .i8 k0, .slice A0 n0 c0], .agg #[.int .i8 k1, .slice A1 n1 c1]] w (BPost false w) := by
  go_enter Try.func71, Try.ntmps71
  go_wp2_with fail
  go_ret
  exact ⟨rfl, below2 ..⟩
set_option maxHeartbeats 800000 in
theorem b71_ne (k0 k1 : Int) (A0 A1 : Option Addr) (n0 n1 c0 c1 : Nat) (w : World) (z1 : (k1 == 0) = false) (z0 : (k0 == 0) = false) (ne : (k0 != k1) = true) :
    Calls Try.prog 71 #[.agg #[.int .i8 k0, .slice A0 n0 c0], .agg #[.int .i8 k1, .slice A1 n1 c1]] w (BPost false w) := by
  go_enter Try.func71, Try.ntmps71
  go_wp2_with fail
  go_ret
  exact ⟨rfl, below2 ..⟩
set_option maxHeartbeats 800000 in
theorem b71_1 (k0 k1 : Int) (A0 A1 : Option Addr) (n0 n1 c0 c1 : Nat) (w : World) (z0 : (k0 == 0) = false) (z1 : (k1 == 0) = false) (ne : (k0 != k1) = false) (e1 : (k0 == 1) = true) :
    Calls Try.prog 71 #[.agg #[.int .i8 k0, .slice A0 n0 c0], .agg #[.int .i8 k1, .slice A1 n1 c1]] w (BPost true w) := by
  go_enter Try.func71, Try.ntmps71
  go_wp2_with fail
  go_ret
  exact ⟨rfl, below2 ..⟩
set_option maxHeartbeats 800000 in
theorem b71_2 (k0 k1 : Int) (A0 A1 : Option Addr) (n0 n1 c0 c1 : Nat) (w : World) (z0 : (k0 == 0) = false) (z1 : (k1 == 0) = false) (ne : (k0 != k1) = false) (e1 : (k0 == 1) = false) (e2 : (k0 == 2) = true) :
    Calls Try.prog 71 #[.agg #[.int .i8 k0, .slice A0 n0 c0], .agg #[.int .i8 k1, .slice A1 n1 c1]] w (BPost true w) := by
  go_enter Try.func71, Try.ntmps71
  go_wp2_with fail
  go_ret
  exact ⟨rfl, below2 ..⟩
set_option maxHeartbeats 800000 in
theorem b73_z (k0 k1 : Int) (A0 A1 : Option Addr) (n0 n1 c0 c1 : Nat) (w : World) (z0 : (k0 == 0) = true) :
    Calls Try.prog 73 #[.agg #[.int .i8 k0, .slice A0 n0 c0], .agg #[.int .i8 k1, .slice A1 n1 c1]] w (BPost true w) := by
  go_enter Try.func73, Try.ntmps73
  go_wp2_with fail
  go_ret
  exact ⟨rfl, below2 ..⟩
set_option maxHeartbeats 800000 in
theorem b73_ne (k0 k1 : Int) (A0 A1 : Option Addr) (n0 n1 c0 c1 : Nat) (w : World) (z1 : (k1 == 0) = false) (z0 : (k0 == 0) = false) (ne : (k0 != k1) = true) :
    Calls Try.prog 73 #[.agg #[.int .i8 k0, .slice A0 n0 c0], .agg #[.int .i8 k1, .slice A1 n1 c1]] w (BPost false w) := by
  go_enter Try.func73, Try.ntmps73
  go_wp2_with fail
  go_ret
  exact ⟨rfl, below2 ..⟩
set_option maxHeartbeats 800000 in
theorem b73_1 (k0 k1 : Int) (A0 A1 : Option Addr) (n0 n1 c0 c1 : Nat) (w : World) (z0 : (k0 == 0) = false) (z1 : (k1 == 0) = false) (ne : (k0 != k1) = false) (e1 : (k0 == 1) = true) :
    Calls Try.prog 73 #[.agg #[.int .i8 k0, .slice A0 n0 c0], .agg #[.int .i8 k1, .slice A1 n1 c1]] w (BPost true w) := by
  go_enter Try.func73, Try.ntmps73
  go_wp2_with fail
  go_ret
  exact ⟨rfl, below2 ..⟩
set_option maxHeartbeats 800000 in
theorem b73_2 (k0 k1 : Int) (A0 A1 : Option Addr) (n0 n1 c0 c1 : Nat) (w : World) (z0 : (k0 == 0) = false) (z1 : (k1 == 0) = false) (ne : (k0 != k1) = false) (e1 : (k0 == 1) = false) (e2 : (k0 == 2) = true) :
    Calls Try.prog 73 #[.agg #[.int .i8 k0, .slice A0 n0 c0], .agg #[.int .i8 k1, .slice A1 n1 c1]] w (BPost true w) := by
  go_enter Try.func73, Try.ntmps73
  go_wp2_with fail
  go_ret
  exact ⟨rfl, below2 ..⟩
set_option maxRecDepth 100000 in
set_option maxHeartbeats 1600000 in
theorem b69_u (n : Nat) (a : S26) (A0 A1 : Option Addr) (c0 n1 c1 : Nat) (k1 : Int) (w : World) (IH : Aside0 (R3 n)) (HM : Aside0 (mu a (groundS a) < n)) (HC : Aside0 (checkI a = 0)) (HZ : Aside0 (a.f0 ≠ 0))
    (T0 : Aside0 (IsT w (.agg #[.int .i8 a.f0, .slice A0 a.f1.length c0]) a)) (z0 : (a.f0 == 0) = false) (z1 : (k1 == 0) = true) :
    Calls Try.prog 69 #[.agg #[.int .i8 a.f0, .slice A0 a.f1.length c0], .agg #[.int .i8 k1, .slice A1 n1 c1]] w (BPost (bel 0 a (groundS a)) w) := by
  go_enter Try.func69, Try.ntmps69
  go_wp2_with fail
  have hW := below2 w #[.int .i8 a.f0, .slice A0 a.f1.length c0] #[.int .i8 k1, .slice A1 n1 c1] 26 26
  have K1 := Aside0.mk (blk_alloc (heap_alloc_new w (.cells #[.int .i8 a.f0, .slice A0 a.f1.length c0] 26)) (.cells #[.int .i8 k1, .slice A1 n1 c1] 26))
  generalize (w.alloc (.cells #[.int .i8 a.f0, .slice A0 a.f1.length c0] 26)).alloc (.cells #[.int .i8 k1, .slice A1 n1 c1] 26) = W at *
  replace T0 := Aside0.mk (IsT.below T0.out hW)
  have HB := Aside0.mk hW
  have OK := Aside0.mk (fun w' (h : Below W.heap.size W w') => c26_of K1.out h)
  have HBW := Aside0.mk (Below.refl W.heap.size W)
  clear K1 hW
  go_region_held3 (fun w' => (w'.cell? ⟨w.heap.size, 0, none⟩ = some (.int .i8 a.f0) ∧ w'.cell? ⟨w.heap.size, 1, none⟩ = some (.slice A0 a.f1.length c0)))
    (first | exact OK.out _ HBW.out | exact OK.out _ HBW.out.drew | exact OK.out _ HB2.out | exact OK.out _ HB3.out)
    (first
      | (go_at_call 90; refine (r8ground_calls HC.out HZ.out (T0.out.below HBW.out.drew)).mono ?_; rintro e w2 ⟨v2, rfl, ht, hB⟩; have HB2 := Aside0.mk (below_then HBW.out.drew HBW.out.drew.size hB); have TG := Aside0.mk ht; clear hB ht)
      | (go_at_call 69; refine (IH.out _ _ _ _ _ HM.out HC.out (check_ground HC.out) (T0.out.below HB2.out) TG.out).1.mono ?_; rintro e w3 ⟨rfl, hB⟩; have HB3 := Aside0.mk (below_then HB2.out HB2.out.size hB); clear hB))
  go_wp2_with fail
  go_ret
  exact ⟨rfl, below_then HB.out HB.out.size HB3.out⟩
set_option maxRecDepth 100000 in
set_option maxHeartbeats 1600000 in
theorem b73_u (n : Nat) (a : S26) (A0 A1 : Option Addr) (c0 n1 c1 : Nat) (k1 : Int) (w : World) (IH : Aside0 (R3 n)) (HM : Aside0 (mu a (groundS a) < n)) (HC : Aside0 (checkI a = 0)) (HZ : Aside0 (a.f0 ≠ 0))
    (T0 : Aside0 (IsT w (.agg #[.int .i8 a.f0, .slice A0 a.f1.length c0]) a)) (z0 : (a.f0 == 0) = false) (z1 : (k1 == 0) = true) :
    Calls Try.prog 73 #[.agg #[.int .i8 a.f0, .slice A0 a.f1.length c0], .agg #[.int .i8 k1, .slice A1 n1 c1]] w (BPost (bel 2 a (groundS a)) w) := by
  go_enter Try.func73, Try.ntmps73
  go_wp2_with fail
  have hW := below2 w #[.int .i8 a.f0, .slice A0 a.f1.length c0] #[.int .i8 k1, .slice A1 n1 c1] 26 26
  have K1 := Aside0.mk (blk_alloc (heap_alloc_new w (.cells #[.int .i8 a.f0, .slice A0 a.f1.length c0] 26)) (.cells #[.int .i8 k1, .slice A1 n1 c1] 26))
  generalize (w.alloc (.cells #[.int .i8 a.f0, .slice A0 a.f1.length c0] 26)).alloc (.cells #[.int .i8 k1, .slice A1 n1 c1] 26) = W at *
  replace T0 := Aside0.mk (IsT.below T0.out hW)
  have HB := Aside0.mk hW
  have OK := Aside0.mk (fun w' (h : Below W.heap.size W w') => c26_of K1.out h)
  have HBW := Aside0.mk (Below.refl W.heap.size W)
  clear K1 hW
  go_region_held3 (fun w' => (w'.cell? ⟨w.heap.size, 0, none⟩ = some (.int .i8 a.f0) ∧ w'.cell? ⟨w.heap.size, 1, none⟩ = some (.slice A0 a.f1.length c0)))
    (first | exact OK.out _ HBW.out | exact OK.out _ HBW.out.drew | exact OK.out _ HB2.out | exact OK.out _ HB3.out)
    (first
      | (go_at_call 90; refine (r8ground_calls HC.out HZ.out (T0.out.below HBW.out.drew)).mono ?_; rintro e w2 ⟨v2, rfl, ht, hB⟩; have HB2 := Aside0.mk (below_then HBW.out.drew HBW.out.drew.size hB); have TG := Aside0.mk ht; clear hB ht)
      | (go_at_call 73; refine (IH.out _ _ _ _ _ HM.out HC.out (check_ground HC.out) (T0.out.below HB2.out) TG.out).2.2.mono ?_; rintro e w3 ⟨rfl, hB⟩; have HB3 := Aside0.mk (below_then HB2.out HB2.out.size hB); clear hB))
  go_wp2_with fail
  go_ret
  exact ⟨rfl, below_then HB.out HB.out.size HB3.out⟩
end Go.Proofs.Ytamhdpllmhafhaa.X
