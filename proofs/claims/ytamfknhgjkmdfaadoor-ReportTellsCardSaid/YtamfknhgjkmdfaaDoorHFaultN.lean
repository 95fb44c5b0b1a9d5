/- report.Fault by its contract, at an error in which errors.As finds no fault but a number. -/
import Derived.Test.YtamfknhgjkmdfaaDoorHAsX
import Derived.Test.YtamfknhgjkmdfaaDoorHFault
namespace Go.Proofs.YtamfknhgjkmdfaaDoor.X
open Go.RowKit Go.Proofs.YtamfknhgjkmdfaaDoorW.PrintWords Go.Proofs.YtamfknhgjkmdfaaDoorW.PrintLast Go.Proofs.YtamfknhgjkmdfaaDoorW.PrintMore
set_option linter.unusedVariables false
set_option linter.unusedSimpArgs false
/-- errors.As finds no fault in an error. -/
def AsNo (e : Value) (w : World) : Prop := ∀ t, Calls Tryd.prog 16 #[e, .iface 52 (.pointer (some t))] w fun ev w' => ev = .returned (.bool false) ∧ Below w.heap.size w w'
/-- errors.As finds this number in an error, and lays it down. -/
def AsNum (e : Value) (n : Int) (w : World) : Prop := ∀ t old, w.cell? t = some old → w.frozen? t = false →
  Calls Tryd.prog 16 #[e, .iface 55 (.pointer (some t))] w fun ev w' => ev = .returned (.bool true) ∧ ∃ w1, Below w.heap.size w w1 ∧ w' = w1.setCell t (.int .i64 n)
set_option maxRecDepth 100000 in
set_option maxHeartbeats 3200000 in
theorem fault_num (s : ByteArray) (T : TypeId) (x : Value) (n : Int) (w : World) (h0 : -9223372036854775808 ≤ n) (h1 : n ≤ 9223372036854775807) (hE : Env w)
    (hA : ∀ w', Below w.heap.size w w' → AsNo (.iface T x) w') (hN : ∀ w', Below w.heap.size w w' → AsNum (.iface T x) n w') :
    Calls Tryd.prog 6 #[.string s, .iface T x] w fun en w' => en = .returned (.string ⟨(wordsB n).toArray⟩) ∧ Below w.heap.size w w' := by
  have he : ∀ W : World, (binOp .eql 47 (.iface T x) .nilIface).run Tryd.prog W = .ok (.bool false) W := fun W => run_eql_held_nil W 47 T _ (by kernel_rfl)
  have hB0 := rbelow2 w #[.pointer none] #[.int .i64 0] 34 22
  have HB := Aside0.mk hB0
  have K0 := Aside0.mk (blk_alloc (heap_alloc_new w (.cells #[.pointer none] 34)) (.cells #[.int .i64 0] 22))
  have K1 := Aside0.mk (rnew2 w (.cells #[.pointer none] 34) #[.int .i64 0] 22)
  have HA := Aside0.mk (hA _ hB0)
  have HN := Aside0.mk hN
  have HE := Aside0.mk hE
  clear hB0 hA hN hE
  go_enter Tryd.func6, Tryd.ntmps6
  go_wp2_with fail
  generalize ((w.alloc (.cells #[.pointer none] 34)).alloc (.cells #[.int .i64 0] 22)) = wa at *
  refine (HA.out ⟨w.heap.size, 0, none⟩).mono ?_
  rintro en w1 ⟨rfl, hb⟩
  replace K0 := Aside0.mk (blk_below K0.out hb)
  replace K1 := Aside0.mk (blk_below K1.out hb)
  replace HB := Aside0.mk (below_then HB.out HB.out.size hb)
  clear hb HA
  have c0 : w1.cell? ⟨w.heap.size, 0, none⟩ = some (.pointer none) := bcl K0.out
  go_wp2_with fail
  refine (HN.out w1 HB.out ⟨w.heap.size + 1, 0, none⟩ (.int .i64 0) (bcl K1.out) (blk_frozen K1.out 0)).mono ?_
  rintro en w2 ⟨rfl, wx, hbx, rfl⟩
  have k1 : (wx.setCell ⟨w.heap.size + 1, 0, none⟩ (.int .i64 n)).heap[w.heap.size + 1]? = some (.cells #[.int .i64 n] 22 (0, 0)) := blk_put (cs := #[.int .i64 0]) (blk_below K1.out hbx) 0 _ rfl
  have hb2 := (below_then HB.out HB.out.size hbx).setCell (p := ⟨w.heap.size + 1, 0, none⟩) (by show w.heap.size ≤ w.heap.size + 1; omega) (.int .i64 n)
  have HE2 := Aside0.mk (HE.out.below hb2)
  replace K1 := Aside0.mk k1
  replace HB := Aside0.mk hb2
  clear k1 hb2 hbx HN HE c0 K0
  generalize wx.setCell ⟨w.heap.size + 1, 0, none⟩ (.int .i64 n) = w3 at *
  have c1 : w3.cell? ⟨w.heap.size + 1, 0, none⟩ = some (.int .i64 n) := bcl K1.out
  go_wp2_with fail
  refine (words_calls n w3 h0 h1 HE2.out).mono ?_
  rintro en w4 ⟨rfl, hb⟩
  go_wp2_with fail
  go_ret
  exact ⟨rfl, below_then HB.out HB.out.size hb⟩
/-- At a number itself. -/
theorem fault_errno (s : ByteArray) (n : Int) (w : World) (h0 : -9223372036854775808 ≤ n) (h1 : n ≤ 9223372036854775807) (hE : Env w) :
    Calls Tryd.prog 6 #[.string s, .iface 22 (.int .i64 n)] w fun en w' => en = .returned (.string ⟨(wordsB n).toArray⟩) ∧ Below w.heap.size w w' :=
  fault_num s 22 _ n w h0 h1 hE (fun w' hb t => as_errno_no n t w' (hE.below hb).err) (fun w' hb t old ht hf => as_errno n t old w' (hE.below hb).err ht hf)
end Go.Proofs.YtamfknhgjkmdfaaDoor.X
