/- Texts of this claim, joined: X0, HNodes, FCheck, HLevel, HSpec, HTy, HTight, HRow2, HIs, HRow, HKeep, HText, HTake, HCallH, HText2, FSign. -/
import Derived.Test.YtamhdpllmhafhaaProg
import Derived.Below
import Derived.Deep.Draws
import Derived.Deep.AppendLies
import Derived.Maps.AppendAt
import Derived.OwnWalk
import Derived.Laws.BytesArg
import Derived.Laws.MakeOwn
import Derived.Laws.OwnMore
import Derived.Deep.OwnRows
import Derived.Tactics
import Derived.Lib.ConvBytes
import Derived.Laws.Slices
import Derived.WalkKit
import Derived.KernelRfl
import Derived.RowKit3
import Derived.Deep.LoopGhost
import Derived.Deep.QuietTactic
import Derived.BigQuiet
import Derived.WideLaws
import Derived.Deep.DeepCutAuto
import Derived.Deep.CutBlock
import Derived.Deep.RegionHeld3
import Derived.Laws.Rows
import Derived.Lib.AppendStr
import Derived.ArgAppend
import Derived.Laws.IdiomCopy
import Derived.OrdersHeld
import Derived.Laws.BitsLemmas
import Derived.RowKit
import Derived.Test.YtamhdpllmhafhaaWWords
import Derived.Test.YtamhdpllmhafhaaWLast
import Derived.Test.YtamhdpllmhafhaaWTab
import Derived.Test.YtamhdpllmhafhaaWFour
import Derived.Test.YtamhdpllmhafhaaWQPut
import Derived.Test.YtamhdpllmhafhaaWApart
import Derived.Test.YtamhdpllmhafhaaWArr
import Derived.Test.YtamhdpllmhafhaaWZeros
import Derived.Test.YtamhdpllmhafhaaWFoot
import Derived.Test.YtamhdpllmhafhaaWKept
import Derived.Test.YtamhdpllmhafhaaWShare
import Derived.Test.YtamhdpllmhafhaaWN
import Derived.Test.YtamhdpllmhafhaaWFootNe
import Derived.Test.YtamhdpllmhafhaaWAt
import Derived.Test.YtamhdpllmhafhaaWEqStruct
import Derived.Test.YtamhdpllmhafhaaWRepsOne
import Derived.Test.YtamhdpllmhafhaaWInv
import Derived.Test.YtamhdpllmhafhaaWInvWords
import Derived.Test.YtamhdpllmhafhaaWGuard
import Derived.Test.YtamhdpllmhafhaaWNEv
import Derived.Test.YtamhdpllmhafhaaWMore
import Derived.Defers
import Derived.Recover
import Derived.Laws.Pointers
import Derived.Outline
import Derived.WalkLawsBesides
import Derived.StillTailTactics
import Derived.Laws.IdiomStrings
import Derived.ProofKit
import Derived.OpenShut
import Derived.ChangeOld
import Derived.SizedLaws
import Derived.ChangeArms
import Derived.RegionTactic
import Derived.ChangeAlike
import Derived.BigRegion
-- Written by xprint.py, a program of this session that drives the kit's print beside contracts proved by hand. Lean checks it.
namespace Go.Proofs.Ytamhdpllmhafhaa.X
open Go.RowKit Go.Proofs.YtamhdpllmhafhaaW.PrintWords Go.Proofs.YtamhdpllmhafhaaW.PrintLast Go.Proofs.YtamhdpllmhafhaaW.PrintMore
attribute [local go_sem] max2_int min2_int max_two min_two max_three min_three max_four min_four   -- for this text's walks alone
set_option linter.unusedVariables false
set_option linter.unusedSimpArgs false



def errW : Option Int → Value
  | none => .nilIface
  | some c => .iface 0 (.int .i64 c)
theorem errW_none : errW none = .nilIface := rfl
theorem errW_some (c : Int) : errW (some c) = .iface 0 (.int .i64 c) := rfl

theorem info26 : (Try.prog.info? 26).map (fun i => (i.zero, i.size, i.bytes)) = some (some (.agg #[(.int .i8 0), (.slice none 0 0)]), 2, 32) := by kernel_rfl
-- the values' own types
/-! #### struct type 26, nested in itself -/
structure S26 where
  f0 : Int
  f1 : (List S26)
def z26 : S26 := ⟨(0 : Int), ([] : List S26)⟩
def F26 (d : Kd S26) : Kd S26 := Kd.iso (Kd.pair (Kd.int .i8) (Kd.slice 26 d)) (fun x : S26 => (x.f0, x.f1))
theorem mono26 : Kd.Mono F26 := Kd.mono_iso _ (Kd.mono_pair (Kd.mono_const _) (Kd.mono_slice 26 Kd.mono_id))
theorem sub26 : Kd.Sub F26 [26] := Kd.sub_iso _ (Kd.sub_pair (Kd.sub_const _ (by decide)) (Kd.sub_slice 26 (by decide) Kd.sub_id))
theorem sz26 : ∀ n, (Kd.upto F26 2 [26] n).sz = 2 := Kd.upto_sz (fun _ => rfl)
def k26 : Kd S26 := Kd.fix F26 2 [26] sz26 (Kd.upto_E sub26)
theorem k26_open {w : World} {x : S26} {cs : List Value} (h : k26.K w x cs) : ∃ A1 c1, cs = [.int .i8 x.f0, .slice A1 x.f1.length c1] ∧ x.f1.length ≤ c1 ∧ k26.C w A1 x.f1.length x.f1 := by
  obtain ⟨n, h⟩ := h
  cases n with
  | zero => exact h.elim
  | succ n =>
    obtain ⟨_, _, rfl, rfl, ⟨A1, c1, rfl, l1, g1⟩⟩ := h
    exact ⟨A1, c1, rfl, l1, Kd.fix_C g1⟩
theorem k26_openM {w : World} {base : Nat} {ok : Nat → Prop} {x : S26} {cs : List Value} (h : k26.M w base ok x cs) : ∃ v1, cs = [.int .i8 x.f0, v1] ∧ k26.R 26 w base ok v1 x.f1 := by
  obtain ⟨n, h⟩ := h
  cases n with
  | zero => exact h.elim
  | succ n =>
    obtain ⟨_, _, rfl, rfl, ⟨v1, rfl, g1⟩⟩ := h
    exact ⟨v1, rfl, Kd.fix_R g1⟩
theorem k26_mk (w : World) (x : S26) {A1 : Option Addr} {c1 : Nat} (l1 : x.f1.length ≤ c1) (g1 : k26.C w A1 x.f1.length x.f1) : k26.K w x [.int .i8 x.f0, .slice A1 x.f1.length c1] := by
  obtain ⟨n1, q1⟩ := Kd.fix_C_back mono26 g1
  have r1 := Kd.upto_C_le mono26 sz26 (show n1 ≤ n1 by omega) q1
  exact ⟨n1 + 1, ⟨[.int .i8 x.f0], [.slice A1 x.f1.length c1], rfl, rfl, ⟨A1, c1, rfl, l1, r1⟩⟩⟩
theorem k26_mkM (w : World) (base : Nat) (ok : Nat → Prop) (x : S26) {v1 : Value} (g1 : k26.R 26 w base ok v1 x.f1) : k26.M w base ok x [.int .i8 x.f0, v1] := by
  obtain ⟨n1, q1⟩ := Kd.fix_R_back mono26 g1
  have r1 := Kd.upto_R_le mono26 sz26 (show n1 ≤ n1 by omega) q1
  exact ⟨n1 + 1, ⟨[.int .i8 x.f0], [v1], rfl, rfl, ⟨v1, rfl, r1⟩⟩⟩
theorem k26_openF {W : World} {ok : Nat → Prop} {x : S26} {cs : List Value} (h : Kd.FK k26 W ok x cs) : ∃ A1 c1, cs = [.int .i8 x.f0, .slice A1 x.f1.length c1] ∧ x.f1.length ≤ c1 ∧ Kd.F k26 W ok A1 x.f1.length x.f1 := by
  obtain ⟨A1, c1, rfl, l1, _⟩ := k26_open (Kd.FK_now h)
  exact ⟨A1, c1, rfl, l1, (fun W' hW => by obtain ⟨A1_, c1_, he, l1_, g1_⟩ := k26_open (h W' hW); injection (Option.some.inj (show some (Value.slice A1 x.f1.length c1) = some (Value.slice A1_ x.f1.length c1_) from congrArg (fun l => l[1]?) he)) with ha_ _ _; rw [ha_]; exact g1_)⟩
theorem k26_mkF (W : World) (ok : Nat → Prop) (x : S26) {A1 : Option Addr} {c1 : Nat} (l1 : x.f1.length ≤ c1) (g1 : Kd.F k26 W ok A1 x.f1.length x.f1) : Kd.FK k26 W ok x [.int .i8 x.f0, .slice A1 x.f1.length c1] := fun W2 hW => k26_mk W2 x l1 (g1 W2 hW)
def rd_T26 (xs : List S26) (i : Int) : S26 := xs.getD i.toNat z26
theorem at_T26 {w : World} {A : Option Addr} {n : Nat} {xs : List S26} (h : Kd.C k26 w A n xs) (i : Int) (h0 : 0 ≤ i) (h1 : i < n) : ∃ ad A1 c1, A = some ad ∧ w.cell? (ad.add (i.toNat * 2)) = some (.int .i8 (rd_T26 xs i).f0) ∧ w.cell? ⟨(ad.add (i.toNat * 2)).block, (ad.add (i.toNat * 2)).off + 1, none⟩ = some (.slice A1 (rd_T26 xs i).f1.length c1) ∧ (rd_T26 xs i).f1.length ≤ c1 ∧ k26.C w A1 (rd_T26 xs i).f1.length (rd_T26 xs i).f1 := by
  obtain ⟨ad, c, e, _, hK, hc0⟩ := Kd.C_get h z26 i h0 h1
  have hc : ∀ j u, c[j]? = some u → w.cell? (ad.add (i.toNat * 2 + j)) = some u := hc0
  obtain ⟨A1, c1, rfl, l1, g1⟩ := k26_open hK
  exact ⟨ad, A1, c1, e, hc 0 _ rfl, by rw [← add_field _ _ 1 (by omega)]; exact hc 1 _ rfl, l1, g1⟩

/-! #### struct type 28 -/
structure S28 where
  f0 : Int
  f1 : Bool
def z28 : S28 := ⟨(0 : Int), false⟩
def k28 : Kd S28 := Kd.iso (Kd.pair (Kd.int .i64) Kd.bool) (fun x : S28 => (x.f0, x.f1))
theorem k28_open {w : World} {x : S28} {cs : List Value} (h : k28.K w x cs) : cs = [.int .i64 x.f0, .bool x.f1] := by
  obtain ⟨_, _, rfl, rfl, rfl⟩ := h
  exact rfl
theorem k28_openM {w : World} {base : Nat} {ok : Nat → Prop} {x : S28} {cs : List Value} (h : k28.M w base ok x cs) : cs = [.int .i64 x.f0, .bool x.f1] := by
  obtain ⟨_, _, rfl, rfl, rfl⟩ := h
  exact rfl
theorem k28_mk (w : World) (x : S28)  : k28.K w x [.int .i64 x.f0, .bool x.f1] := ⟨[.int .i64 x.f0], [.bool x.f1], rfl, rfl, rfl⟩
theorem k28_mkM (w : World) (base : Nat) (ok : Nat → Prop) (x : S28)  : k28.M w base ok x [.int .i64 x.f0, .bool x.f1] := ⟨[.int .i64 x.f0], [.bool x.f1], rfl, rfl, rfl⟩
theorem k28_mkF (W : World) (ok : Nat → Prop) (x : S28) : Kd.FK k28 W ok x [.int .i64 x.f0, .bool x.f1] := fun W2 _ => k28_mk W2 x
def rd_T28 (xs : List S28) (i : Int) : S28 := xs.getD i.toNat z28
theorem at_T28 {w : World} {A : Option Addr} {n : Nat} {xs : List S28} (h : Kd.C k28 w A n xs) (i : Int) (h0 : 0 ≤ i) (h1 : i < n) : ∃ ad , A = some ad ∧ w.cell? (ad.add (i.toNat * 2)) = some (.int .i64 (rd_T28 xs i).f0) ∧ w.cell? ⟨(ad.add (i.toNat * 2)).block, (ad.add (i.toNat * 2)).off + 1, none⟩ = some (.bool (rd_T28 xs i).f1) := by
  obtain ⟨ad, c, e, _, hK, hc0⟩ := Kd.C_get h z28 i h0 h1
  have hc : ∀ j u, c[j]? = some u → w.cell? (ad.add (i.toNat * 2 + j)) = some u := hc0
  obtain rfl := k28_open hK
  exact ⟨ad, e, hc 0 _ rfl, by rw [← add_field _ _ 1 (by omega)]; exact hc 1 _ rfl⟩

/-! #### struct type 30 -/
structure S30 where
  f0 : Int
  f1 : Int
  f2 : ByteArray
  f3 : Bool
  f4 : S26
  f5 : S28
def z30 : S30 := ⟨(0 : Int), (0 : Int), (⟨#[]⟩ : ByteArray), false, z26, z28⟩
def k30 : Kd S30 := Kd.iso (Kd.pair (Kd.int .i64) (Kd.pair (Kd.int .i64) (Kd.pair Kd.string (Kd.pair Kd.bool (Kd.pair k26 k28))))) (fun x : S30 => (x.f0, x.f1, x.f2, x.f3, x.f4, x.f5))
theorem k30_open {w : World} {x : S30} {cs : List Value} (h : k30.K w x cs) : ∃ A5 c5, cs = [.int .i64 x.f0, .int .i64 x.f1, .string x.f2, .bool x.f3, .int .i8 x.f4.f0, .slice A5 x.f4.f1.length c5, .int .i64 x.f5.f0, .bool x.f5.f1] ∧ x.f4.f1.length ≤ c5 ∧ k26.C w A5 x.f4.f1.length x.f4.f1 := by
  obtain ⟨_, _, rfl, rfl, ⟨_, _, rfl, rfl, ⟨_, _, rfl, rfl, ⟨_, _, rfl, rfl, ⟨_, _, rfl, s4, s6⟩⟩⟩⟩⟩ := h
  obtain ⟨A5, c5, rfl, l5, g5⟩ := k26_open s4
  obtain rfl := k28_open s6
  exact ⟨A5, c5, rfl, l5, g5⟩
theorem k30_openM {w : World} {base : Nat} {ok : Nat → Prop} {x : S30} {cs : List Value} (h : k30.M w base ok x cs) : ∃ v5, cs = [.int .i64 x.f0, .int .i64 x.f1, .string x.f2, .bool x.f3, .int .i8 x.f4.f0, v5, .int .i64 x.f5.f0, .bool x.f5.f1] ∧ k26.R 26 w base ok v5 x.f4.f1 := by
  obtain ⟨_, _, rfl, rfl, ⟨_, _, rfl, rfl, ⟨_, _, rfl, rfl, ⟨_, _, rfl, rfl, ⟨_, _, rfl, s4, s6⟩⟩⟩⟩⟩ := h
  obtain ⟨v5, rfl, g5⟩ := k26_openM s4
  obtain rfl := k28_openM s6
  exact ⟨v5, rfl, g5⟩
theorem k30_mk (w : World) (x : S30) {A5 : Option Addr} {c5 : Nat} (l5 : x.f4.f1.length ≤ c5) (g5 : k26.C w A5 x.f4.f1.length x.f4.f1) : k30.K w x [.int .i64 x.f0, .int .i64 x.f1, .string x.f2, .bool x.f3, .int .i8 x.f4.f0, .slice A5 x.f4.f1.length c5, .int .i64 x.f5.f0, .bool x.f5.f1] := ⟨[.int .i64 x.f0], [.int .i64 x.f1, .string x.f2, .bool x.f3, .int .i8 x.f4.f0, .slice A5 x.f4.f1.length c5, .int .i64 x.f5.f0, .bool x.f5.f1], rfl, rfl, ⟨[.int .i64 x.f1], [.string x.f2, .bool x.f3, .int .i8 x.f4.f0, .slice A5 x.f4.f1.length c5, .int .i64 x.f5.f0, .bool x.f5.f1], rfl, rfl, ⟨[.string x.f2], [.bool x.f3, .int .i8 x.f4.f0, .slice A5 x.f4.f1.length c5, .int .i64 x.f5.f0, .bool x.f5.f1], rfl, rfl, ⟨[.bool x.f3], [.int .i8 x.f4.f0, .slice A5 x.f4.f1.length c5, .int .i64 x.f5.f0, .bool x.f5.f1], rfl, rfl, ⟨[.int .i8 x.f4.f0, .slice A5 x.f4.f1.length c5], [.int .i64 x.f5.f0, .bool x.f5.f1], rfl, (k26_mk w x.f4 l5 g5), (k28_mk w x.f5 )⟩⟩⟩⟩⟩
theorem k30_mkM (w : World) (base : Nat) (ok : Nat → Prop) (x : S30) {v5 : Value} (g5 : k26.R 26 w base ok v5 x.f4.f1) : k30.M w base ok x [.int .i64 x.f0, .int .i64 x.f1, .string x.f2, .bool x.f3, .int .i8 x.f4.f0, v5, .int .i64 x.f5.f0, .bool x.f5.f1] := ⟨[.int .i64 x.f0], [.int .i64 x.f1, .string x.f2, .bool x.f3, .int .i8 x.f4.f0, v5, .int .i64 x.f5.f0, .bool x.f5.f1], rfl, rfl, ⟨[.int .i64 x.f1], [.string x.f2, .bool x.f3, .int .i8 x.f4.f0, v5, .int .i64 x.f5.f0, .bool x.f5.f1], rfl, rfl, ⟨[.string x.f2], [.bool x.f3, .int .i8 x.f4.f0, v5, .int .i64 x.f5.f0, .bool x.f5.f1], rfl, rfl, ⟨[.bool x.f3], [.int .i8 x.f4.f0, v5, .int .i64 x.f5.f0, .bool x.f5.f1], rfl, rfl, ⟨[.int .i8 x.f4.f0, v5], [.int .i64 x.f5.f0, .bool x.f5.f1], rfl, (k26_mkM w base ok x.f4 g5), (k28_mkM w base ok x.f5 )⟩⟩⟩⟩⟩
theorem k30_openF {W : World} {ok : Nat → Prop} {x : S30} {cs : List Value} (h : Kd.FK k30 W ok x cs) : ∃ A5 c5, cs = [.int .i64 x.f0, .int .i64 x.f1, .string x.f2, .bool x.f3, .int .i8 x.f4.f0, .slice A5 x.f4.f1.length c5, .int .i64 x.f5.f0, .bool x.f5.f1] ∧ x.f4.f1.length ≤ c5 ∧ Kd.F k26 W ok A5 x.f4.f1.length x.f4.f1 := by
  obtain ⟨A5, c5, rfl, l5, _⟩ := k30_open (Kd.FK_now h)
  exact ⟨A5, c5, rfl, l5, (fun W' hW => by obtain ⟨A5_, c5_, he, l5_, g5_⟩ := k30_open (h W' hW); injection (Option.some.inj (show some (Value.slice A5 x.f4.f1.length c5) = some (Value.slice A5_ x.f4.f1.length c5_) from congrArg (fun l => l[5]?) he)) with ha_ _ _; rw [ha_]; exact g5_)⟩
theorem k30_mkF (W : World) (ok : Nat → Prop) (x : S30) {A5 : Option Addr} {c5 : Nat} (l5 : x.f4.f1.length ≤ c5) (g5 : Kd.F k26 W ok A5 x.f4.f1.length x.f4.f1) : Kd.FK k30 W ok x [.int .i64 x.f0, .int .i64 x.f1, .string x.f2, .bool x.f3, .int .i8 x.f4.f0, .slice A5 x.f4.f1.length c5, .int .i64 x.f5.f0, .bool x.f5.f1] := fun W2 hW => k30_mk W2 x l5 (g5 W2 hW)
def rd_T30 (xs : List S30) (i : Int) : S30 := xs.getD i.toNat z30
theorem at_T30 {w : World} {A : Option Addr} {n : Nat} {xs : List S30} (h : Kd.C k30 w A n xs) (i : Int) (h0 : 0 ≤ i) (h1 : i < n) : ∃ ad A5 c5, A = some ad ∧ w.cell? (ad.add (i.toNat * 8)) = some (.int .i64 (rd_T30 xs i).f0) ∧ w.cell? ⟨(ad.add (i.toNat * 8)).block, (ad.add (i.toNat * 8)).off + 1, none⟩ = some (.int .i64 (rd_T30 xs i).f1) ∧ w.cell? ⟨(ad.add (i.toNat * 8)).block, (ad.add (i.toNat * 8)).off + 2, none⟩ = some (.string (rd_T30 xs i).f2) ∧ w.cell? ⟨(ad.add (i.toNat * 8)).block, (ad.add (i.toNat * 8)).off + 3, none⟩ = some (.bool (rd_T30 xs i).f3) ∧ w.cell? ⟨(ad.add (i.toNat * 8)).block, (ad.add (i.toNat * 8)).off + 4, none⟩ = some (.int .i8 (rd_T30 xs i).f4.f0) ∧ w.cell? ⟨(ad.add (i.toNat * 8)).block, (ad.add (i.toNat * 8)).off + 5, none⟩ = some (.slice A5 (rd_T30 xs i).f4.f1.length c5) ∧ w.cell? ⟨(ad.add (i.toNat * 8)).block, (ad.add (i.toNat * 8)).off + 6, none⟩ = some (.int .i64 (rd_T30 xs i).f5.f0) ∧ w.cell? ⟨(ad.add (i.toNat * 8)).block, (ad.add (i.toNat * 8)).off + 7, none⟩ = some (.bool (rd_T30 xs i).f5.f1) ∧ (rd_T30 xs i).f4.f1.length ≤ c5 ∧ k26.C w A5 (rd_T30 xs i).f4.f1.length (rd_T30 xs i).f4.f1 := by
  obtain ⟨ad, c, e, _, hK, hc0⟩ := Kd.C_get h z30 i h0 h1
  have hc : ∀ j u, c[j]? = some u → w.cell? (ad.add (i.toNat * 8 + j)) = some u := hc0
  obtain ⟨A5, c5, rfl, l5, g5⟩ := k30_open hK
  exact ⟨ad, A5, c5, e, hc 0 _ rfl, by rw [← add_field _ _ 1 (by omega)]; exact hc 1 _ rfl, by rw [← add_field _ _ 2 (by omega)]; exact hc 2 _ rfl, by rw [← add_field _ _ 3 (by omega)]; exact hc 3 _ rfl, by rw [← add_field _ _ 4 (by omega)]; exact hc 4 _ rfl, by rw [← add_field _ _ 5 (by omega)]; exact hc 5 _ rfl, by rw [← add_field _ _ 6 (by omega)]; exact hc 6 _ rfl, by rw [← add_field _ _ 7 (by omega)]; exact hc 7 _ rfl, l5, g5⟩

/-! #### struct type 54 -/
structure S54 where
  f0 : Int
  f1 : S28
  f2 : Bool
  f3 : ByteArray
def z54 : S54 := ⟨(0 : Int), z28, false, (⟨#[]⟩ : ByteArray)⟩
def k54 : Kd S54 := Kd.iso (Kd.pair (Kd.int .i64) (Kd.pair k28 (Kd.pair Kd.bool Kd.string))) (fun x : S54 => (x.f0, x.f1, x.f2, x.f3))
theorem k54_open {w : World} {x : S54} {cs : List Value} (h : k54.K w x cs) : cs = [.int .i64 x.f0, .int .i64 x.f1.f0, .bool x.f1.f1, .bool x.f2, .string x.f3] := by
  obtain ⟨_, _, rfl, rfl, ⟨_, _, rfl, s1, ⟨_, _, rfl, rfl, rfl⟩⟩⟩ := h
  obtain rfl := k28_open s1
  exact rfl
theorem k54_openM {w : World} {base : Nat} {ok : Nat → Prop} {x : S54} {cs : List Value} (h : k54.M w base ok x cs) : cs = [.int .i64 x.f0, .int .i64 x.f1.f0, .bool x.f1.f1, .bool x.f2, .string x.f3] := by
  obtain ⟨_, _, rfl, rfl, ⟨_, _, rfl, s1, ⟨_, _, rfl, rfl, rfl⟩⟩⟩ := h
  obtain rfl := k28_openM s1
  exact rfl
theorem k54_mk (w : World) (x : S54)  : k54.K w x [.int .i64 x.f0, .int .i64 x.f1.f0, .bool x.f1.f1, .bool x.f2, .string x.f3] := ⟨[.int .i64 x.f0], [.int .i64 x.f1.f0, .bool x.f1.f1, .bool x.f2, .string x.f3], rfl, rfl, ⟨[.int .i64 x.f1.f0, .bool x.f1.f1], [.bool x.f2, .string x.f3], rfl, (k28_mk w x.f1 ), ⟨[.bool x.f2], [.string x.f3], rfl, rfl, rfl⟩⟩⟩
theorem k54_mkM (w : World) (base : Nat) (ok : Nat → Prop) (x : S54)  : k54.M w base ok x [.int .i64 x.f0, .int .i64 x.f1.f0, .bool x.f1.f1, .bool x.f2, .string x.f3] := ⟨[.int .i64 x.f0], [.int .i64 x.f1.f0, .bool x.f1.f1, .bool x.f2, .string x.f3], rfl, rfl, ⟨[.int .i64 x.f1.f0, .bool x.f1.f1], [.bool x.f2, .string x.f3], rfl, (k28_mkM w base ok x.f1 ), ⟨[.bool x.f2], [.string x.f3], rfl, rfl, rfl⟩⟩⟩
theorem k54_mkF (W : World) (ok : Nat → Prop) (x : S54) : Kd.FK k54 W ok x [.int .i64 x.f0, .int .i64 x.f1.f0, .bool x.f1.f1, .bool x.f2, .string x.f3] := fun W2 _ => k54_mk W2 x
def rd_T54 (xs : List S54) (i : Int) : S54 := xs.getD i.toNat z54
theorem at_T54 {w : World} {A : Option Addr} {n : Nat} {xs : List S54} (h : Kd.C k54 w A n xs) (i : Int) (h0 : 0 ≤ i) (h1 : i < n) : ∃ ad , A = some ad ∧ w.cell? (ad.add (i.toNat * 5)) = some (.int .i64 (rd_T54 xs i).f0) ∧ w.cell? ⟨(ad.add (i.toNat * 5)).block, (ad.add (i.toNat * 5)).off + 1, none⟩ = some (.int .i64 (rd_T54 xs i).f1.f0) ∧ w.cell? ⟨(ad.add (i.toNat * 5)).block, (ad.add (i.toNat * 5)).off + 2, none⟩ = some (.bool (rd_T54 xs i).f1.f1) ∧ w.cell? ⟨(ad.add (i.toNat * 5)).block, (ad.add (i.toNat * 5)).off + 3, none⟩ = some (.bool (rd_T54 xs i).f2) ∧ w.cell? ⟨(ad.add (i.toNat * 5)).block, (ad.add (i.toNat * 5)).off + 4, none⟩ = some (.string (rd_T54 xs i).f3) := by
  obtain ⟨ad, c, e, _, hK, hc0⟩ := Kd.C_get h z54 i h0 h1
  have hc : ∀ j u, c[j]? = some u → w.cell? (ad.add (i.toNat * 5 + j)) = some u := hc0
  obtain rfl := k54_open hK
  exact ⟨ad, e, hc 0 _ rfl, by rw [← add_field _ _ 1 (by omega)]; exact hc 1 _ rfl, by rw [← add_field _ _ 2 (by omega)]; exact hc 2 _ rfl, by rw [← add_field _ _ 3 (by omega)]; exact hc 3 _ rfl, by rw [← add_field _ _ 4 (by omega)]; exact hc 4 _ rfl⟩

end Go.Proofs.Ytamhdpllmhafhaa.X
/- The contract of types.Nodes: it answers how many types a type holds, at most 8193. -/
namespace Go.Proofs.Ytamhdpllmhafhaa.X
open Go.RowKit Go.Proofs.YtamhdpllmhafhaaW.PrintWords Go.Proofs.YtamhdpllmhafhaaW.PrintLast Go.Proofs.YtamhdpllmhafhaaW.PrintMore
set_option linter.unusedVariables false
set_option linter.unusedSimpArgs false

mutual
def nodes : S26 → Nat
  | ⟨_, l⟩ => 1 + nodesL l
def nodesL : List S26 → Nat
  | [] => 0
  | x :: l => nodes x + nodesL l
end
theorem nodes_eq (x : S26) : nodes x = 1 + nodesL x.f1 := by cases x; rw [nodes]
theorem nodesL_append (l m : List S26) : nodesL (l ++ m) = nodesL l + nodesL m := by
  induction l with
  | nil => simp [nodesL]
  | cons x l ih => simp only [List.cons_append, nodesL, ih]; omega
theorem nodesL_take (l : List S26) (i : Nat) (h : i < l.length) : nodesL (l.take (i + 1)) = nodesL (l.take i) + nodes (rd_T26 l i) := by
  rw [List.take_succ_eq_append_getElem h, nodesL_append]
  simp [nodesL, rd_T26, List.getD_eq_getElem?_getD, h]
theorem nodesL_take_le (l : List S26) (i : Nat) : nodesL (l.take i) ≤ nodesL l := by
  have := nodesL_append (l.take i) (l.drop i)
  rw [List.take_append_drop] at this
  omega
def types_Nodes.f (a0_0 : Int) (l0_1 : List S26) : Option Int := some ((min (1 + nodesL l0_1) 8193 : Nat) : Int)

/-- What a call of count leaves. -/
def CountPost (w0 w : World) (g : Nat) (v s : Int) (e : Ending) (w' : World) : Prop :=
  Below w0.heap.size w0 w' ∧ KeepBut w w' g none ∧
  ((v + s ≤ 8192 ∧ e = .returned (.tuple #[]) ∧ w'.heap[g]? = some (.cells #[.int .i64 (v + s)] 71 (0, 0))) ∨
   (8192 < v + s ∧ e = .panicked [{ v := .iface 73 (.agg #[]), recovered := false }]))

set_option maxRecDepth 100000 in
set_option maxHeartbeats 1600000 in
theorem count_calls (m : Nat) : ∀ (a0 : Int) (A : Option Addr) (c : Nat) (l : List S26) (g : Nat) (v : Int) (w0 w : World),
    nodesL l < m → 0 ≤ v → v ≤ 8192 → Below w0.heap.size w0 w → w0.heap.size ≤ g → w.heap[g]? = some (.cells #[.int .i64 v] 71 (0, 0)) →
    Kd.C k26 w0 A l.length l → l.length ≤ c →
    Calls Try.prog 81 #[.pointer (some ⟨g, 0, none⟩), .agg #[.int .i8 a0, .slice A l.length c]] w (CountPost w0 w g v (1 + nodesL l)) := by
  induction m with
  | zero => intro a0 A c l g v w0 w hm; omega
  | succ m ih =>
  intro a0 A c l g v w0 w hm hv0 hv1 HB0 hg hb0 hr hc
  have IH := Aside0.mk ih
  have HR := Aside0.mk hr
  have hL : l.length ≤ 9223372036854775807 := hr.2.1
  have HB := Aside0.mk HB0
  have HG := Aside0.mk hb0
  have hglt := blk_lt hb0
  have hcell := blk_cell hb0 0
  have hfz := blk_frozen hb0 0
  simp at hcell
  have HW1 : Aside0 (Below w0.heap.size w0 ((w.setCell ⟨g, 0, none⟩ (.int .i64 (v + 1))).alloc (.cells #[.int .i8 a0, .slice A l.length c] 26))) := ⟨(HB0.setCell hg _).alloc (by have := HB0.size; simp; omega) _⟩
  have HK1 : Aside0 (KeepBut w ((w.setCell ⟨g, 0, none⟩ (.int .i64 (v + 1))).alloc (.cells #[.int .i8 a0, .slice A l.length c] 26)) g none) := ⟨keep_alloc ((KeepBut.refl _ _ _).set_ 0 _) _⟩
  have HG1 : Aside0 (((w.setCell ⟨g, 0, none⟩ (.int .i64 (v + 1))).alloc (.cells #[.int .i8 a0, .slice A l.length c] 26)).heap[g]? = some (.cells #[.int .i64 (v + 1)] 71 (0, 0))) := ⟨by
    have := blk_alloc (blk_set hb0 0 (.int .i64 (v + 1))) (.cells #[.int .i8 a0, .slice A l.length c] 26)
    simpa using this⟩
  clear hb0 ih hr HB0
  by_cases h8 : v + 1 ≤ 8192
  · go_enter Try.func81, Try.ntmps81
    go_wp2_with fail
    go_loopw [23] (fun i wr => ∃ k : Nat, i = .int .i64 k ∧ k ≤ l.length ∧ Below w0.heap.size w0 wr ∧ KeepBut w wr g none ∧ v + 1 + (nodesL (l.take k) : Int) ≤ 8192 ∧ wr.heap[g]? = some (.cells #[.int .i64 (v + 1 + (nodesL (l.take k) : Int))] 71 (0, 0))) (fun i _ => l.length - (intOf i).toNat)
    case atStart => exact ⟨0, rfl, Nat.zero_le _, HW1.out, HK1.out, by simp [nodesL]; omega, by simpa [nodesL] using HG1.out⟩
    case round =>
      obtain ⟨k, rfl, hk, hB, hK, h8k, hG⟩ := hrel
      by_cases hlt : k < l.length
      · obtain ⟨ad, A1, c1, hA, hx0, hx1, hl1, hi1⟩ := at_T26 HR.out (k : Int) (by omega) (by omega)
        cases hA
        have hy0 := (hB.cell (World.block_lt_of_cell? w0 _ hx0)).trans hx0
        have hy1 := (hB.cell (World.block_lt_of_cell? w0 _ hx1)).trans hx1
        have hs := nodesL_take l k hlt
        rw [nodes_eq] at hs
        have hsl := nodesL_take_le l (k + 1)
        generalize hel : rd_T26 l (k : Int) = x at *
        have HS := Aside0.mk hs
        have HB := Aside0.mk hB
        have HK := Aside0.mk hK
        have HG := Aside0.mk hG
        have HI := Aside0.mk hi1
        have hbs := hB.size
        have hgl := blk_lt hG
        simp only [Int.toNat_natCast] at hy0 hy1
        clear hx0 hx1 hB hK hG hi1 hel hs
        go_wp2_with fail
        refine (IH.out _ _ _ x.f1 g (v + 1 + (nodesL (l.take k) : Int)) w0 _ (by have := HS.out; omega) (by omega) h8k (HB.out.alloc hbs _) hg (blk_alloc HG.out _) HI.out hl1).mono ?_
        rintro e w' ⟨hB2, hK2, hpost⟩
        have HB2 := Aside0.mk hB2
        have HK2 := Aside0.mk (KeepBut.trans (keep_alloc HK.out (.cells #[.int .i8 x.f0, .slice A1 x.f1.length c1] 26)) hK2 (.inl rfl))
        clear hB2 hK2
        rcases hpost with ⟨hle, rfl, hG2⟩ | ⟨hgt, rfl⟩
        · have hsum : v + 1 + ((nodesL (l.take k) : Nat) : Int) + (1 + ((nodesL x.f1 : Nat) : Int)) = v + 1 + ((nodesL (l.take (k + 1)) : Nat) : Int) := by have := HS.out; omega
          rw [hsum] at hG2 hle
          have HG2 := Aside0.mk hG2
          clear hG2 hsum
          go_wp2_with fail
          go_roundw
          case rel => exact ⟨k + 1, by go_num, by omega, HB2.out, HK2.out, hle, HG2.out⟩
          case measure => simp [intOf]; omega
        · refine ⟨rfl, HB2.out, HK2.out, .inr ⟨?_, rfl⟩⟩
          have := HS.out
          omega
      · obtain rfl : k = l.length := by omega
        have HB := Aside0.mk hB
        have HK := Aside0.mk hK
        have HG := Aside0.mk hG
        clear hB hK hG
        go_wp2_with fail
        rw [List.take_length] at *
        go_end0
        refine ⟨HB.out, HK.out, .inl ⟨by omega, rfl, ?_⟩⟩
        have := HG.out
        rw [this]
        congr 5
        omega
  · go_enter Try.func81, Try.ntmps81
    go_wp2_with fail
    refine ⟨rfl, HW1.out, HK1.out, .inr ⟨?_, rfl⟩⟩
    omega

/-- The deferred closure of Nodes behind a return: nothing. -/
theorem nodes_idle (p : Addr) (w : World) :
    CallsD Try.prog 80 #[.pointer (some p)] .returning w fun e u' w' => e = .returned (.tuple #[]) ∧ u' = .returning ∧ w' = w := by
  refine callsD_of_wpS Try.func80 rfl fun c₀ cs hu => ?_
  apply wpS_seq
  apply wpS_region
  simp [wpOpsS, go_sem, recoverD, hu, Try.ntmps80, Exit.thenS]
  refine wpS_of_wp ?_
  have hu20 := Try.underlying20
  have he : ∀ W : World, (binOp .eql 20 .nilIface .nilIface).run Try.prog W = .ok (.bool true) W := fun W => run_eql_nil_nil W 20 (by kernel_rfl)
  go_wp2
  cases c₀
  simp_all [bodyPostS, results, Try.results80]

theorem nodes_catch (g : Nat) (x : Int) (w : World) (hb : w.heap[g]? = some (.cells #[.int .i64 x] 3 (0, 0))) :
    CallsD Try.prog 80 #[.pointer (some ⟨g, 0, none⟩)] (.panicking [{ v := .iface 73 (.agg #[]), recovered := false }]) w fun e u' w' =>
      e = .returned (.tuple #[]) ∧ u' = .panicking [{ v := .iface 73 (.agg #[]), recovered := true }] ∧ w' = (w.alloc (.cells #[] 73)).setCell ⟨g, 0, none⟩ (.int .i64 8193) := by
  have hc := blk_cell (blk_alloc hb (.cells #[] 73)) 0
  have hz := blk_frozen (blk_alloc hb (.cells #[] 73)) 0
  simp at hc
  refine callsD_of_wpS Try.func80 rfl fun c₀ cs hu => ?_
  apply wpS_seq
  apply wpS_region
  simp [wpOpsS, go_sem, recoverD, hu, Try.ntmps80, Exit.thenS]
  refine wpS_of_wp ?_
  have hu20 := Try.underlying20
  have he : ∀ W : World, (binOp .eql 20 (.iface 73 (.agg #[])) .nilIface).run Try.prog W = .ok (.bool false) W := fun W => run_eql_held_nil W 20 73 _ (by kernel_rfl)
  have hta : ∀ W : World, (Instr.typeAssert (.iface 73 (.agg #[])) 20 73 true).run Try.prog W = .ok (.tuple #[.agg #[], .bool true]) W := fun W => by kernel_rfl
  go_wp2
  simp [bodyPostS, results, Try.results80]

set_option maxRecDepth 100000 in
set_option maxHeartbeats 1600000 in
theorem types_Nodes.calls (a0_0 : Int) (A0_1 : Option Addr) (c0_1 : Nat) (l0_1 : List S26) (r : Int) (w : World) (hr0_1 : Kd.C k26 w A0_1 l0_1.length l0_1) (hc0_1 : l0_1.length ≤ c0_1) (h : types_Nodes.f a0_0 l0_1 = some r) :
    Calls Try.prog 46 #[.agg #[.int .i8 a0_0, .slice A0_1 l0_1.length c0_1]] w fun e w' => e = .returned (.int .i64 r) ∧ Below w.heap.size w w' := by
  unfold types_Nodes.f at h
  have HV := Aside0.mk (Option.some.inj h)
  have HR := Aside0.mk hr0_1
  clear hr0_1 h
  have hmf : ∀ (fn : Fn) (first cap : Array Value) (w : World), (Instr.makeFunc fn first cap).run Try.prog w = .ok (.func fn first cap) w := fun _ _ _ _ => rfl
  generalize hO : Obj.cells #[.int .i8 a0_0, .slice A0_1 l0_1.length c0_1] 26 = O
  have hB3 : Below w.heap.size w (((w.alloc O).alloc (.cells #[.int .i64 0] 3)).alloc (.cells #[.int .i64 0] 71)) := (((Below.refl _ _).alloc (Nat.le_refl _) _).alloc (by simp) _).alloc (by simp; omega) _
  have hg3 : (((w.alloc O).alloc (.cells #[.int .i64 0] 3)).alloc (.cells #[.int .i64 0] 71)).heap[w.heap.size + 1 + 1]? = some (.cells #[.int .i64 0] 71 (0, 0)) := by
    have := heap_alloc_new ((w.alloc O).alloc (.cells #[.int .i64 0] 3)) (.cells #[.int .i64 0] 71)
    simpa using this
  have hn3 : (((w.alloc O).alloc (.cells #[.int .i64 0] 3)).alloc (.cells #[.int .i64 0] 71)).heap[w.heap.size + 1]? = some (.cells #[.int .i64 0] 3 (0, 0)) := by
    have := heap_alloc_new (w.alloc O) (.cells #[.int .i64 0] 3)
    exact blk_alloc (by simpa using this) _
  subst hO
  have HB3 := Aside0.mk hB3
  have HG3 := Aside0.mk hg3
  have HN3 := Aside0.mk hn3
  clear hB3 hg3 hn3
  go_enter_defers Try.func46, Try.ntmps46
  go_wp2_with fail
  refine (count_calls (nodesL l0_1 + 1) a0_0 A0_1 c0_1 l0_1 (w.heap.size + 1 + 1) 0 w _ (by omega) (by omega) (by omega) HB3.out (by omega) HG3.out HR.out hc0_1).mono ?_
  rintro e w' ⟨hB, hK, hpost⟩
  have HB := Aside0.mk hB
  have hn : w'.heap[w.heap.size + 1]? = some (.cells #[.int .i64 0] 3 (0, 0)) := hK.blk HN3.out (by omega) (by simp)
  have hnc := blk_cell hn 0
  have hnz := blk_frozen hn 0
  simp at hnc
  have HN := Aside0.mk hn
  have hsz := blk_lt hn
  clear hB hK hn
  rcases hpost with ⟨hle, rfl, hG⟩ | ⟨hgt, rfl⟩
  · have hgc := blk_cell hG 0
    simp at hgc
    have hv : (1 : Int) + ((nodesL l0_1 : Nat) : Int) = r := by have := HV.out; omega
    rw [hv] at hgc
    clear hG hv hle
    go_wp2_with fail
    refine leaves_cons (f := 80) (args := #[.pointer (some ⟨w.heap.size + 1, 0, none⟩)]) (by simp) (by simp [go_sem]) ?_
    refine (nodes_idle _ _).mono ?_
    rintro e u' w'' ⟨rfl, rfl, rfl⟩
    have hc2 : (w'.setCell ⟨w.heap.size + 1, 0, none⟩ (.int .i64 r)).cell? ⟨w.heap.size + 1, 0, none⟩ = some (.int .i64 r) := World.cell?_setCell_same _ _ _ hnc
    exact ⟨.int .i64 r, by simp [results, Try.results46, go_sem, hc2], rfl, HB.out.setCell (by simp) _⟩
  · have hv : r = 8193 := by have := HV.out; omega
    clear hgt
    refine leaves_cons (f := 80) (args := #[.pointer (some ⟨w.heap.size + 1, 0, none⟩)]) (by simp) (by simp [go_sem]) ?_
    refine (nodes_catch _ _ _ HN.out).mono ?_
    rintro e u' w'' ⟨rfl, rfl, rfl⟩
    have hc2 : ((w'.alloc (.cells #[] 73)).setCell ⟨w.heap.size + 1, 0, none⟩ (.int .i64 8193)).cell? ⟨w.heap.size + 1, 0, none⟩ = some (.int .i64 8193) := World.cell?_setCell_same _ _ _ ((blk_cell (blk_alloc HN.out _) 0).trans rfl)
    simp [Leaves, settle]
    exact ⟨.int .i64 8193, by simp [results, Try.results46, go_sem, hc2], by rw [hv], (HB.out.alloc (by omega) _).setCell (by simp) _⟩
end Go.Proofs.Ytamhdpllmhafhaa.X
-- Written by xprint.py, a program of this session that drives the kit's print beside contracts proved by hand; parted by split1.py. Lean checks it.
namespace Go.Proofs.Ytamhdpllmhafhaa.X
open Go.RowKit Go.Proofs.YtamhdpllmhafhaaW.PrintWords Go.Proofs.YtamhdpllmhafhaaW.PrintLast Go.Proofs.YtamhdpllmhafhaaW.PrintMore
attribute [local go_sem] max2_int min2_int max_two min_two max_three min_three max_four min_four   -- for this text's walks alone
set_option linter.unusedVariables false
set_option linter.unusedSimpArgs false

/-! ### types_deep: function 83 -/
mutual
def types_deep.l0 : Nat → Int → Int → List (S26) → Int → Int → Option (Int)
  | 0, _, _, _, _, _ => none
  | k + 1, x1, x5, x12, x13, x14 => if x14 < x13 then (if 0 ≤ x14 then (if x14 < (x12.length : Int) then ((types_deep.f k ((rd_T26 x12 x14).f0) ((rd_T26 x12 x14).f1) (wrap64 (x1 - 1))).bind fun t134 => (types_deep.l0 k x1 (mx x5 t134) x12 x13 (wrap64 (x14 + 1)))) else (none)) else (none)) else (some (wrap64 (x5 + 1)))
def types_deep.f : Nat → Int → List (S26) → Int → Option (Int)
  | 0, _, _, _ => none
  | k + 1, a0_0, l0_1, a1 => if a1 ≤ 1 then (some a1) else (types_deep.l0 k a1 0 l0_1 (l0_1.length : Int) 0)
end
theorem types_deep.mono_l : ∀ k, (∀ y0 y1 y2, LeO (types_deep.f k y0 y1 y2) (types_deep.f (k + 1) y0 y1 y2)) ∧ (∀ y0 y1 y2 y3 y4, LeO (types_deep.l0 k y0 y1 y2 y3 y4) (types_deep.l0 (k + 1) y0 y1 y2 y3 y4))
  | 0 => ⟨fun _ _ _ r h => by simp [types_deep.f] at h, fun _ _ _ _ _ r h => by simp [types_deep.l0] at h⟩
  | k + 1 => by
    obtain ⟨ih0, ih1⟩ := types_deep.mono_l k
    refine ⟨?_, ?_⟩
    · intro y0 y1 y2
      unfold types_deep.f
      repeat' first
      | (with_reducible exact ih0 _ _ _)
      | (with_reducible exact ih1 _ _ _ _ _)
      | (with_reducible exact LeO.refl _)
      | (with_reducible exact LeO.none _)
      | (with_reducible refine LeO.ite ?_ ?_)
      | (with_reducible refine LeO.bind ?_ (fun _ => ?_))
      | exact ih0 _ _ _
      | exact ih1 _ _ _ _ _
      | exact LeO.none _
      | refine LeO.ite ?_ ?_
      | refine LeO.bind ?_ (fun _ => ?_)
    · intro y0 y1 y2 y3 y4
      unfold types_deep.l0
      repeat' first
      | (with_reducible exact ih0 _ _ _)
      | (with_reducible exact ih1 _ _ _ _ _)
      | (with_reducible exact LeO.refl _)
      | (with_reducible exact LeO.none _)
      | (with_reducible refine LeO.ite ?_ ?_)
      | (with_reducible refine LeO.bind ?_ (fun _ => ?_))
      | exact ih0 _ _ _
      | exact ih1 _ _ _ _ _
      | exact LeO.none _
      | refine LeO.ite ?_ ?_
      | refine LeO.bind ?_ (fun _ => ?_)
theorem types_deep.mono : ∀ a0 a1 a2 k, LeO (types_deep.f k a0 a1 a2) (types_deep.f (k + 1) a0 a1 a2) := by
  intro a0 a1 a2 k
  obtain ⟨ih0, ih1⟩ := types_deep.mono_l k
  exact ih0 a0 a1 a2
set_option maxHeartbeats 8000000 in
set_option maxRecDepth 100000 in
theorem types_deep.calls (k : Nat) : ∀ (a0_0 : Int) (A0_1 : Option Addr) (c0_1 : Nat) (l0_1 : List (S26)) (a1 : Int) (r : Int) (w : World) (hr0_1 : Kd.C k26 w A0_1 l0_1.length l0_1) (hc0_1 : l0_1.length ≤ c0_1) (h : types_deep.f k a0_0 l0_1 a1 = some r),
    Calls Try.prog 83 #[.agg #[.int .i8 a0_0, .slice A0_1 l0_1.length c0_1], .int .i64 a1] w fun e w' => e = .returned (.int .i64 r) ∧ Below w.heap.size w w' := by
  induction k using Nat.strongRecOn with
  | _ k ih =>
  intro a0_0 A0_1 c0_1 l0_1 a1 r w hr0_1 hc0_1 h
  cases k with
  | zero => exact absurd h (by simp [types_deep.f])
  | succ k =>
  simp only [types_deep.f] at h
  have hu26 := Try.underlying26
  have HR0_1 := Aside0.mk hr0_1
  have HC0_1 := Aside0.mk hc0_1
  clear hr0_1 hc0_1
  have HB := Aside0.mk (Below.refl w.heap.size w)
  have H : (if a1 ≤ 1 then (some a1) else (types_deep.l0 k a1 0 l0_1 (l0_1.length : Int) 0)) = some r := h
  clear h
  by_cases c3 : a1 ≤ 1
  · rw [if_pos c3] at H
    have c3b0 : decide (a1 ≤ 1) = true := decide_eq_true c3
    clear c3
    obtain rfl := Option.some.inj H
    go_enter Try.func83, Try.ntmps83
    go_wp2_with (first | ((with_reducible refine gate_dst (N := 2) rfl ?_); refine box_event ?hg (N := 2) ?hd (cs := #[.int .i8 a0_0, .slice A0_1 l0_1.length c0_1]) (t := 26) ?hr ?_; (case hd => rfl); (case hg => rfl); (case hr => first | (go_simp; done) | (go_simp; rfl)); intro gb131 hg w4 hbox hb; have n0_ := Aside0.mk (below_step (by repeat (first | (with_reducible first | exact HB.out | apply below_alloc | apply pw_below_drewN | apply below_drew1) | exact HB.out)) hb); have n1_ := Aside0.mk (hbox); have n2_ := Aside0.mk ((by rw [hg]; exact (below_size (by repeat (first | (with_reducible first | exact HB.out | apply below_alloc | apply pw_below_drewN | apply below_drew1) | exact HB.out))) : w.heap.size ≤ gb131)); have n3_ := Aside0.mk ((by rw [hg]; exact (below_size (by repeat (first | (with_reducible first | exact HB.out | apply below_alloc | apply pw_below_drewN | apply below_drew1) | exact HB.out))) : w.heap.size ≤ gb131)); clear HB; have HB := n0_; have BK131 := n1_; have GW131 := n2_; have GE131 := n3_; clear n0_ n1_ n2_ n3_; clear hb hbox hg))
    go_ret
    exact ⟨by first | rfl | (simp [errW_none, errW_some] <;> rfl) | (simp [*, errW_none, errW_some] <;> rfl), by repeat (first | (with_reducible first | exact HB.out | apply below_alloc | apply pw_below_drewN | apply below_drew1 | refine below_set ?_ GE131.out) | exact HB.out)⟩
  · rw [if_neg c3] at H
    have c3b0 : decide (a1 ≤ 1) = false := decide_eq_false c3
    clear c3
    have H' := Aside0.mk H
    clear H
    go_enter Try.func83, Try.ntmps83
    go_wp2_with (first | ((with_reducible refine gate_dst (N := 2) rfl ?_); refine box_event ?hg (N := 2) ?hd (cs := #[.int .i8 a0_0, .slice A0_1 l0_1.length c0_1]) (t := 26) ?hr ?_; (case hd => rfl); (case hg => rfl); (case hr => first | (go_simp; done) | (go_simp; rfl)); intro gb131 hg w5 hbox hb; have n0_ := Aside0.mk (below_step (by repeat (first | (with_reducible first | exact HB.out | apply below_alloc | apply pw_below_drewN | apply below_drew1) | exact HB.out)) hb); have n1_ := Aside0.mk (hbox); have n2_ := Aside0.mk ((by rw [hg]; exact (below_size (by repeat (first | (with_reducible first | exact HB.out | apply below_alloc | apply pw_below_drewN | apply below_drew1) | exact HB.out))) : w.heap.size ≤ gb131)); have n3_ := Aside0.mk ((by rw [hg]; exact (below_size (by repeat (first | (with_reducible first | exact HB.out | apply below_alloc | apply pw_below_drewN | apply below_drew1) | exact HB.out))) : w.heap.size ≤ gb131)); clear HB; have HB := n0_; have BK131 := n1_; have GW131 := n2_; have GE131 := n3_; clear n0_ n1_ n2_ n3_; clear hb hbox hg; have hcz6_0 : w5.cell? ⟨gb131, 0, none⟩ = some (.int .i8 a0_0) := (blk_cell BK131.out 0).trans rfl; have hcz6_1 : w5.cell? ⟨gb131, 1, none⟩ = some (.slice A0_1 l0_1.length c0_1) := (blk_cell BK131.out 1).trans rfl; have hfz6_0 := blk_frozen BK131.out 0; have hfz6_1 := blk_frozen BK131.out 1))
    go_loopg [5, 14] k (fun kq v5 v14 w' => ∃ (x5_1 : Int) (x14_1 : Int), v5 = .int .i64 x5_1 ∧ v14 = .int .i64 x14_1 ∧ Aside0 (types_deep.l0 kq a1 x5_1 l0_1 (l0_1.length : Int) x14_1 = some r) ∧ Aside0 (kq ≤ k) ∧ Aside0 (w'.heap[gb131]? = some (.cells #[.int .i8 a0_0, (.slice A0_1 l0_1.length c0_1)] 26 (0, 0))) ∧ Aside0 (Below w.heap.size w w'))
    case atStart => exact ⟨(0), (0), (by first | rfl | (simp; done) | (simp [*]; done)), (by first | rfl | (simp; done) | (simp [*]; done)), H', ⟨Nat.le_refl _⟩, ⟨by (with_reducible repeat (first | refine blk_drewN ?_ _ | refine blk_drew ?_ | refine blk_alloc ?_ _)); exact BK131.out⟩, ⟨by repeat (first | (with_reducible first | exact HB.out | apply below_alloc | apply pw_below_drewN | apply below_drew1 | refine below_set ?_ GE131.out) | exact HB.out)⟩⟩
    case round =>
      clear H'
      try clear p2
      try clear c3
      try clear c3b0
      try clear hcz6_0
      try clear hcz6_1
      try clear hfz6_0
      try clear hfz6_1
      obtain ⟨x5_1, x14_1, rfl, rfl, HA, HK1, BK131, HB⟩ := hrel
      cases gk with
      | zero => exact absurd HA.out (by simp [types_deep.l0])
      | succ k1 =>
        have H := HA.out
        clear HA
        simp only [types_deep.l0] at H
        by_cases c7 : x14_1 < (l0_1.length : Int)
        · rw [if_pos c7] at H
          have c7b0 : decide (x14_1 < (l0_1.length : Int)) = true := decide_eq_true c7
          clear c7
          by_cases c8 : 0 ≤ x14_1
          · rw [if_pos c8] at H
            have c8b0 : decide (0 ≤ x14_1) = true := decide_eq_true c8
            clear c8
            by_cases c9 : x14_1 < (l0_1.length : Int)
            · rw [if_pos c9] at H
              have c9b0 : decide (x14_1 < (l0_1.length : Int)) = true := decide_eq_true c9
              clear c9
              replace H := Option.bind_eq_some_iff.mp H
              obtain ⟨t134, A100, H⟩ := H
              replace H : (types_deep.l0 k1 a1 (mx x5_1 t134) l0_1 (l0_1.length : Int) (wrap64 (x14_1 + 1))) = some r := H
              have A10 := Aside0.mk A100
              clear A100
              obtain ⟨ji11, hji11⟩ : ∃ j_ : Int, (mx x5_1 t134) = j_ := ⟨_, rfl⟩
              replace H : (types_deep.l0 k1 a1 ji11 l0_1 (l0_1.length : Int) (wrap64 (x14_1 + 1))) = some r := by first | (rw [hji11] at H; exact H) | (simp only [hji11] at H ⊢; exact H)
              (try rw [hji11] at A10)
              have hji11_ : (if x5_1 < t134 then t134 else x5_1) = ji11 := hji11
              have H' := Aside0.mk H
              clear H
              have p132 : 0 ≤ (x14_1 : Int) := of_decide_eq_true (by first | (with_reducible assumption) | assumption)
              have q132 : x14_1 < (l0_1.length : Int) := of_decide_eq_true (by first | (with_reducible assumption) | assumption)
              obtain ⟨ad132, A132_1, c132_1, e132, hx132_0, hx132_1, hl132_1, hi132_1⟩ := at_T26 HR0_1.out x14_1 p132 q132
              cases e132
              replace hx132_0 := (HB.out.cell (World.block_lt_of_cell? w _ hx132_0)).trans hx132_0
              replace hx132_1 := (HB.out.cell (World.block_lt_of_cell? w _ hx132_1)).trans hx132_1
              have HR132_1 := Aside0.mk hi132_1
              have HC132_1 := Aside0.mk hl132_1
              clear hi132_1 hl132_1
              replace p132 := eq_true p132
              replace q132 := eq_true q132
              go_wp2_with (first | ((with_reducible refine gate_dst (N := 7) rfl ?_); refine box_event ?hg (N := 7) ?hd (cs := #[.int .i8 0, .slice none 0 0]) (t := 26) ?hr ?_; (case hd => rfl); (case hg => rfl); (case hr => first | (go_simp; done) | (go_simp; rfl)); intro gb133 hg w12 hbox hb; have n0_ := Aside0.mk (blk_below (g := gb131) (o := .cells #[.int .i8 a0_0, .slice (some ad132) l0_1.length c0_1] 26 (0, 0)) (by (with_reducible repeat (first | refine blk_drewN ?_ _ | refine blk_drew ?_ | refine blk_alloc ?_ _)); exact BK131.out) hb); have n1_ := Aside0.mk (below_step (by repeat (first | (with_reducible first | exact HB.out | apply below_alloc | apply pw_below_drewN | apply below_drew1 | refine below_set ?_ GE131.out) | exact HB.out)) hb); have n2_ := Aside0.mk (hbox); have n3_ := Aside0.mk ((by rw [hg]; exact (below_size (by repeat (first | (with_reducible first | exact HB.out | apply below_alloc | apply pw_below_drewN | apply below_drew1 | refine below_set ?_ GE131.out) | exact HB.out))) : w.heap.size ≤ gb133)); have n4_ := Aside0.mk ((by rw [hg]; exact (below_size (by repeat (first | (with_reducible first | exact HB.out | apply below_alloc | apply pw_below_drewN | apply below_drew1 | refine below_set ?_ GE131.out) | exact HB.out))) : w.heap.size ≤ gb133)); have n5_ := Aside0.mk ((by rw [hg]; exact Nat.ne_of_lt (blk_lt (g := gb131) (o := .cells #[.int .i8 a0_0, .slice (some ad132) l0_1.length c0_1] 26 (0, 0)) (by (with_reducible repeat (first | refine blk_drewN ?_ _ | refine blk_drew ?_ | refine blk_alloc ?_ _)); exact BK131.out)) : gb131 ≠ gb133)); have n6_ := Aside0.mk ((by rw [hg]; exact Nat.ne_of_gt (blk_lt (g := gb131) (o := .cells #[.int .i8 a0_0, .slice (some ad132) l0_1.length c0_1] 26 (0, 0)) (by (with_reducible repeat (first | refine blk_drewN ?_ _ | refine blk_drew ?_ | refine blk_alloc ?_ _)); exact BK131.out)) : gb133 ≠ gb131)); clear BK131; clear HB; have BK131 := n0_; have HB := n1_; have BK133 := n2_; have GW133 := n3_; have GE133 := n4_; have NB131_133 := n5_; have NB133_131 := n6_; clear n0_ n1_ n2_ n3_ n4_ n5_ n6_; clear hb hbox hg; have hnb13 := NB133_131.out; have hnc13 := NB131_133.out; have hcz14_0 : w12.cell? ⟨gb133, 0, none⟩ = some (.int .i8 0) := (blk_cell BK133.out 0).trans rfl; have hcz14_1 : w12.cell? ⟨gb133, 1, none⟩ = some (.slice none 0 0) := (blk_cell BK133.out 1).trans rfl; have hfz14_0 := blk_frozen BK133.out 0; have hfz14_1 := blk_frozen BK133.out 1) | ((with_reducible refine gate_callee (f := 83) rfl ?_); refine goesL_ (some 22) rfl rfl Try.func83 (by kernel_rfl) rfl #[.agg #[.int .i8 ((rd_T26 l0_1 x14_1).f0), .slice A132_1 ((rd_T26 l0_1 x14_1).f1).length c132_1], .int .i64 (wrap64 (a1 - 1))] rfl (by (try simp only [List.map_toArray, List.map_cons, List.map_nil]); first | done | rfl | (simp only [List.length_drop, List.length_take]; rfl)) ?_; (with_reducible refine (ih k1 (by have := HK1.out; omega) ((rd_T26 l0_1 x14_1).f0) _ _ ((rd_T26 l0_1 x14_1).f1) (wrap64 (a1 - 1)) t134 _ ?side1 ?side2 A10.out).mono ?_); (case side1 => exact Kd.C_below HR132_1.out (by repeat (first | (with_reducible first | exact HB.out | apply below_alloc | apply pw_below_drewN | apply below_drew1 | refine below_set ?_ GE131.out | refine below_set ?_ GE133.out) | exact HB.out))); (case side2 => exact HC132_1.out); rintro e w15 ⟨rfl, hb⟩; refine ⟨_, rfl, ?_⟩; have n0_ := Aside0.mk (blk_below (g := gb131) (o := .cells #[.int .i8 a0_0, .slice (some ad132) l0_1.length c0_1] 26 (0, 0)) (by (with_reducible repeat (first | refine blk_drewN ?_ _ | refine blk_drew ?_ | refine blk_alloc ?_ _)); refine blk_far ?_ NB131_133.out _; (with_reducible repeat (first | refine blk_drewN ?_ _ | refine blk_drew ?_ | refine blk_alloc ?_ _)); refine blk_far ?_ NB131_133.out _; (with_reducible repeat (first | refine blk_drewN ?_ _ | refine blk_drew ?_ | refine blk_alloc ?_ _)); exact BK131.out) hb); have n1_ := Aside0.mk (blk_below (g := gb133) (o := .cells #[.int .i8 ((rd_T26 l0_1 x14_1).f0), .slice A132_1 ((rd_T26 l0_1 x14_1).f1).length c132_1] 26 (0, 0)) (by (with_reducible repeat (first | refine blk_drewN ?_ _ | refine blk_drew ?_ | refine blk_alloc ?_ _)); refine blk_put (cs := #[.int .i8 ((rd_T26 l0_1 x14_1).f0), .slice none 0 0]) ?_ 1 _ rfl; (with_reducible repeat (first | refine blk_drewN ?_ _ | refine blk_drew ?_ | refine blk_alloc ?_ _)); refine blk_put (cs := #[.int .i8 0, .slice none 0 0]) ?_ 0 _ rfl; (with_reducible repeat (first | refine blk_drewN ?_ _ | refine blk_drew ?_ | refine blk_alloc ?_ _)); exact BK133.out) hb); have n2_ := Aside0.mk (below_step (by repeat (first | (with_reducible first | exact HB.out | apply below_alloc | apply pw_below_drewN | apply below_drew1 | refine below_set ?_ GE131.out | refine below_set ?_ GE133.out) | exact HB.out)) hb); clear BK131; clear BK133; clear HB; have BK131 := n0_; have BK133 := n1_; have HB := n2_; clear n0_ n1_ n2_; (try clear hb); (try clear hb2); (try clear hk); (try clear hi)))
              go_roundg k1
              case measure => have := HK1.out; omega
              case rel => exact ⟨(ji11), (wrap64 (x14_1 + 1)), (by first | rfl | (simp; done) | (simp only [← hji11] <;> (first | rfl | simp)) | (simp [*]; done)), (by first | rfl | (simp; done) | (simp [*]; done)), H', ⟨by have := HK1.out; omega⟩, ⟨by (with_reducible repeat (first | refine blk_drewN ?_ _ | refine blk_drew ?_ | refine blk_alloc ?_ _)); exact BK131.out⟩, ⟨by repeat (first | (with_reducible first | exact HB.out | apply below_alloc | apply pw_below_drewN | apply below_drew1 | refine below_set ?_ GE131.out | refine below_set ?_ GE133.out) | exact HB.out)⟩⟩
            · rw [if_neg c9] at H
              exact absurd H (by simp)
          · rw [if_neg c8] at H
            exact absurd H (by simp)
        · rw [if_neg c7] at H
          have c7b0 : decide (x14_1 < (l0_1.length : Int)) = false := decide_eq_false c7
          clear c7
          obtain rfl := Option.some.inj H
          go_wp2
          go_ret
          exact ⟨by first | rfl | (simp [errW_none, errW_some] <;> rfl) | (simp [*, errW_none, errW_some] <;> rfl), by repeat (first | (with_reducible first | exact HB.out | apply below_alloc | apply pw_below_drewN | apply below_drew1 | refine below_set ?_ GE131.out) | exact HB.out)⟩

/-! ### types_Depth: function 48 -/
def types_Depth.f (k : Nat) (a0_0 : Int) (l0_1 : List (S26)) : Option (Int) := (types_Nodes.f a0_0 l0_1).bind fun t136 => (if t136 > 8192 then (some 201) else ((types_deep.f k a0_0 l0_1 201).bind fun t137 => (some t137)))
theorem types_Depth.mono : ∀ a0 a1 k, LeO (types_Depth.f k a0 a1) (types_Depth.f (k + 1) a0 a1) := by
  intro a0 a1 k
  unfold types_Depth.f
  repeat' first
      | (with_reducible exact types_deep.mono _ _ _ _)
      | (with_reducible exact LeO.refl _)
      | (with_reducible exact LeO.none _)
      | (with_reducible refine LeO.ite ?_ ?_)
      | (with_reducible refine LeO.bind ?_ (fun _ => ?_))
      | exact types_deep.mono _ _ _ _
      | exact LeO.none _
      | refine LeO.ite ?_ ?_
      | refine LeO.bind ?_ (fun _ => ?_)
set_option maxHeartbeats 8000000 in
set_option maxRecDepth 100000 in
theorem types_Depth.calls (k : Nat) (a0_0 : Int) (A0_1 : Option Addr) (c0_1 : Nat) (l0_1 : List (S26)) (r : Int) (w : World) (hr0_1 : Kd.C k26 w A0_1 l0_1.length l0_1) (hc0_1 : l0_1.length ≤ c0_1) (h : types_Depth.f k a0_0 l0_1 = some r) :
    Calls Try.prog 48 #[.agg #[.int .i8 a0_0, .slice A0_1 l0_1.length c0_1]] w fun e w' => e = .returned (.int .i64 r) ∧ Below w.heap.size w w' := by
  have hu26 := Try.underlying26
  have HR0_1 := Aside0.mk hr0_1
  have HC0_1 := Aside0.mk hc0_1
  clear hr0_1 hc0_1
  have HB := Aside0.mk (Below.refl w.heap.size w)
  have H : ((types_Nodes.f a0_0 l0_1).bind fun t136 => (if t136 > 8192 then (some 201) else ((types_deep.f k a0_0 l0_1 201).bind fun t137 => (some t137)))) = some r := h
  clear h
  replace H := Option.bind_eq_some_iff.mp H
  obtain ⟨t136, A20, H⟩ := H
  replace H : (if t136 > 8192 then (some 201) else ((types_deep.f k a0_0 l0_1 201).bind fun t137 => (some t137))) = some r := H
  have A2 := Aside0.mk A20
  clear A20
  by_cases c3 : t136 > 8192
  · rw [if_pos c3] at H
    have c3b0 : decide (8192 < t136) = true := decide_eq_true c3
    clear c3
    obtain rfl := Option.some.inj H
    go_enter Try.func48, Try.ntmps48
    go_wp2_with (first | ((with_reducible refine gate_dst (N := 1) rfl ?_); refine box_event ?hg (N := 1) ?hd (cs := #[.int .i8 a0_0, .slice A0_1 l0_1.length c0_1]) (t := 26) ?hr ?_; (case hd => rfl); (case hg => rfl); (case hr => first | (go_simp; done) | (go_simp; rfl)); intro gb135 hg w4 hbox hb; have n0_ := Aside0.mk (below_step (by repeat (first | (with_reducible first | exact HB.out | apply below_alloc | apply pw_below_drewN | apply below_drew1) | exact HB.out)) hb); have n1_ := Aside0.mk (hbox); have n2_ := Aside0.mk ((by rw [hg]; exact (below_size (by repeat (first | (with_reducible first | exact HB.out | apply below_alloc | apply pw_below_drewN | apply below_drew1) | exact HB.out))) : w.heap.size ≤ gb135)); have n3_ := Aside0.mk ((by rw [hg]; exact (below_size (by repeat (first | (with_reducible first | exact HB.out | apply below_alloc | apply pw_below_drewN | apply below_drew1) | exact HB.out))) : w.heap.size ≤ gb135)); clear HB; have HB := n0_; have BK135 := n1_; have GW135 := n2_; have GE135 := n3_; clear n0_ n1_ n2_ n3_; clear hb hbox hg; have hcz5_0 : w4.cell? ⟨gb135, 0, none⟩ = some (.int .i8 a0_0) := (blk_cell BK135.out 0).trans rfl; have hcz5_1 : w4.cell? ⟨gb135, 1, none⟩ = some (.slice A0_1 l0_1.length c0_1) := (blk_cell BK135.out 1).trans rfl; have hfz5_0 := blk_frozen BK135.out 0; have hfz5_1 := blk_frozen BK135.out 1) | ((with_reducible refine gate_callee (f := 46) rfl ?_); refine goesL_ (some 4) rfl rfl Try.func46 (by kernel_rfl) rfl #[.agg #[.int .i8 a0_0, .slice A0_1 l0_1.length c0_1]] rfl (by (try simp only [List.map_toArray, List.map_cons, List.map_nil]); first | done | rfl | (simp only [List.length_drop, List.length_take]; rfl)) ?_; (with_reducible refine (types_Nodes.calls a0_0 _ _ l0_1 t136 _ ?side1 ?side2 A2.out).mono ?_); (case side1 => repeat (first | exact (Kd.C_below HR0_1.out HB.out) | (with_reducible refine Kd.C_alloc ?_ _) | (with_reducible refine Kd.C_drewN ?_ _) | (with_reducible refine Kd.C_drew ?_))); (case side2 => exact HC0_1.out); rintro e w6 ⟨rfl, hb⟩; refine ⟨_, rfl, ?_⟩; have n0_ := Aside0.mk (blk_below (g := gb135) (o := .cells #[.int .i8 a0_0, .slice A0_1 l0_1.length c0_1] 26 (0, 0)) (by (with_reducible repeat (first | refine blk_drewN ?_ _ | refine blk_drew ?_ | refine blk_alloc ?_ _)); exact BK135.out) hb); have n1_ := Aside0.mk (below_step (by repeat (first | (with_reducible first | exact HB.out | apply below_alloc | apply pw_below_drewN | apply below_drew1 | refine below_set ?_ GE135.out) | exact HB.out)) hb); clear BK135; clear HB; have BK135 := n0_; have HB := n1_; clear n0_ n1_; (try clear hb); (try clear hb2); (try clear hk); (try clear hi)))
    go_ret
    exact ⟨by first | rfl | (simp [errW_none, errW_some] <;> rfl) | (simp [*, errW_none, errW_some] <;> rfl), by repeat (first | (with_reducible first | exact HB.out | apply below_alloc | apply pw_below_drewN | apply below_drew1 | refine below_set ?_ GE135.out) | exact HB.out)⟩
  · rw [if_neg c3] at H
    have c3b0 : decide (8192 < t136) = false := decide_eq_false c3
    clear c3
    replace H := Option.bind_eq_some_iff.mp H
    obtain ⟨t137, A70, H⟩ := H
    replace H : (some t137) = some r := H
    have A7 := Aside0.mk A70
    clear A70
    obtain rfl := Option.some.inj H
    go_enter Try.func48, Try.ntmps48
    go_wp2_with (first | ((with_reducible refine gate_dst (N := 1) rfl ?_); refine box_event ?hg (N := 1) ?hd (cs := #[.int .i8 a0_0, .slice A0_1 l0_1.length c0_1]) (t := 26) ?hr ?_; (case hd => rfl); (case hg => rfl); (case hr => first | (go_simp; done) | (go_simp; rfl)); intro gb135 hg w8 hbox hb; have n0_ := Aside0.mk (below_step (by repeat (first | (with_reducible first | exact HB.out | apply below_alloc | apply pw_below_drewN | apply below_drew1) | exact HB.out)) hb); have n1_ := Aside0.mk (hbox); have n2_ := Aside0.mk ((by rw [hg]; exact (below_size (by repeat (first | (with_reducible first | exact HB.out | apply below_alloc | apply pw_below_drewN | apply below_drew1) | exact HB.out))) : w.heap.size ≤ gb135)); have n3_ := Aside0.mk ((by rw [hg]; exact (below_size (by repeat (first | (with_reducible first | exact HB.out | apply below_alloc | apply pw_below_drewN | apply below_drew1) | exact HB.out))) : w.heap.size ≤ gb135)); clear HB; have HB := n0_; have BK135 := n1_; have GW135 := n2_; have GE135 := n3_; clear n0_ n1_ n2_ n3_; clear hb hbox hg; have hcz9_0 : w8.cell? ⟨gb135, 0, none⟩ = some (.int .i8 a0_0) := (blk_cell BK135.out 0).trans rfl; have hcz9_1 : w8.cell? ⟨gb135, 1, none⟩ = some (.slice A0_1 l0_1.length c0_1) := (blk_cell BK135.out 1).trans rfl; have hfz9_0 := blk_frozen BK135.out 0; have hfz9_1 := blk_frozen BK135.out 1) | ((with_reducible refine gate_callee (f := 46) rfl ?_); refine goesL_ (some 4) rfl rfl Try.func46 (by kernel_rfl) rfl #[.agg #[.int .i8 a0_0, .slice A0_1 l0_1.length c0_1]] rfl (by (try simp only [List.map_toArray, List.map_cons, List.map_nil]); first | done | rfl | (simp only [List.length_drop, List.length_take]; rfl)) ?_; (with_reducible refine (types_Nodes.calls a0_0 _ _ l0_1 t136 _ ?side1 ?side2 A2.out).mono ?_); (case side1 => repeat (first | exact (Kd.C_below HR0_1.out HB.out) | (with_reducible refine Kd.C_alloc ?_ _) | (with_reducible refine Kd.C_drewN ?_ _) | (with_reducible refine Kd.C_drew ?_))); (case side2 => exact HC0_1.out); rintro e w10 ⟨rfl, hb⟩; refine ⟨_, rfl, ?_⟩; have n0_ := Aside0.mk (blk_below (g := gb135) (o := .cells #[.int .i8 a0_0, .slice A0_1 l0_1.length c0_1] 26 (0, 0)) (by (with_reducible repeat (first | refine blk_drewN ?_ _ | refine blk_drew ?_ | refine blk_alloc ?_ _)); exact BK135.out) hb); have n1_ := Aside0.mk (below_step (by repeat (first | (with_reducible first | exact HB.out | apply below_alloc | apply pw_below_drewN | apply below_drew1 | refine below_set ?_ GE135.out) | exact HB.out)) hb); clear BK135; clear HB; have BK135 := n0_; have HB := n1_; clear n0_ n1_; (try clear hb); (try clear hb2); (try clear hk); (try clear hi); have hcz11_0 : w10.cell? ⟨gb135, 0, none⟩ = some (.int .i8 a0_0) := (blk_cell BK135.out 0).trans rfl; have hcz11_1 : w10.cell? ⟨gb135, 1, none⟩ = some (.slice A0_1 l0_1.length c0_1) := (blk_cell BK135.out 1).trans rfl; have hfz11_0 := blk_frozen BK135.out 0; have hfz11_1 := blk_frozen BK135.out 1) | ((with_reducible refine gate_callee (f := 83) rfl ?_); refine goesL_ (some 7) rfl rfl Try.func83 (by kernel_rfl) rfl #[.agg #[.int .i8 a0_0, .slice A0_1 l0_1.length c0_1], .int .i64 201] rfl (by (try simp only [List.map_toArray, List.map_cons, List.map_nil]); first | done | rfl | (simp only [List.length_drop, List.length_take]; rfl)) ?_; (with_reducible refine (types_deep.calls k a0_0 _ _ l0_1 201 t137 _ ?side1 ?side2 A7.out).mono ?_); (case side1 => repeat (first | exact (Kd.C_below HR0_1.out HB.out) | (with_reducible refine Kd.C_alloc ?_ _) | (with_reducible refine Kd.C_drewN ?_ _) | (with_reducible refine Kd.C_drew ?_))); (case side2 => exact HC0_1.out); rintro e w12 ⟨rfl, hb⟩; refine ⟨_, rfl, ?_⟩; have n0_ := Aside0.mk (blk_below (g := gb135) (o := .cells #[.int .i8 a0_0, .slice A0_1 l0_1.length c0_1] 26 (0, 0)) (by (with_reducible repeat (first | refine blk_drewN ?_ _ | refine blk_drew ?_ | refine blk_alloc ?_ _)); exact BK135.out) hb); have n1_ := Aside0.mk (below_step (by repeat (first | (with_reducible first | exact HB.out | apply below_alloc | apply pw_below_drewN | apply below_drew1 | refine below_set ?_ GE135.out) | exact HB.out)) hb); clear BK135; clear HB; have BK135 := n0_; have HB := n1_; clear n0_ n1_; (try clear hb); (try clear hb2); (try clear hk); (try clear hi)))
    go_ret
    exact ⟨by first | rfl | (simp [errW_none, errW_some] <;> rfl) | (simp [*, errW_none, errW_some] <;> rfl), by repeat (first | (with_reducible first | exact HB.out | apply below_alloc | apply pw_below_drewN | apply below_drew1 | refine below_set ?_ GE135.out) | exact HB.out)⟩

/-! ### types_parts: function 76 -/
def types_parts.j0 : Nat → Int → Bool → Option (Int)
  | 0, _, _ => none
  | k + 1, x3, x4 => if x4 = true then (some 0) else (if x3 = 3 then (some 2) else (if x3 = 4 then (some 2) else (if x3 = 5 then (some 2) else (some (-1)))))
def types_parts.f (k : Nat) (a0 : Int) : Option (Int) := if a0 = 0 then (types_parts.j0 k a0 (a0 == 0)) else (if a0 = 1 then (types_parts.j0 k a0 (a0 == 1)) else (types_parts.j0 k a0 (a0 == 2)))
theorem types_parts.mono_l : ∀ k, (∀ y0 y1, LeO (types_parts.j0 k y0 y1) (types_parts.j0 (k + 1) y0 y1))
  | 0 => fun _ _ r h => by simp [types_parts.j0] at h
  | k + 1 => by
    have ih0 := types_parts.mono_l k
    · intro y0 y1
      unfold types_parts.j0
      repeat' first
      | (with_reducible exact ih0 _ _)
      | (with_reducible exact LeO.refl _)
      | (with_reducible exact LeO.none _)
      | (with_reducible refine LeO.ite ?_ ?_)
      | (with_reducible refine LeO.bind ?_ (fun _ => ?_))
      | exact ih0 _ _
      | exact LeO.none _
      | refine LeO.ite ?_ ?_
      | refine LeO.bind ?_ (fun _ => ?_)
theorem types_parts.mono : ∀ a0 k, LeO (types_parts.f k a0) (types_parts.f (k + 1) a0) := by
  intro a0 k
  have ih0 := types_parts.mono_l k
  unfold types_parts.f
  repeat' first
      | (with_reducible exact ih0 _ _)
      | (with_reducible exact LeO.refl _)
      | (with_reducible exact LeO.none _)
      | (with_reducible refine LeO.ite ?_ ?_)
      | (with_reducible refine LeO.bind ?_ (fun _ => ?_))
      | exact ih0 _ _
      | exact LeO.none _
      | refine LeO.ite ?_ ?_
      | refine LeO.bind ?_ (fun _ => ?_)
set_option maxHeartbeats 8000000 in
set_option maxRecDepth 100000 in
theorem types_parts.calls (k : Nat) (a0 : Int) (r : Int) (w : World) (h : types_parts.f k a0 = some r) :
    Calls Try.prog 76 #[.int .i8 a0] w fun e w' => e = .returned (.int .i64 r) ∧ Drawn0 w w' := by
  have H : (if a0 = 0 then (types_parts.j0 k a0 (a0 == 0)) else (if a0 = 1 then (types_parts.j0 k a0 (a0 == 1)) else (types_parts.j0 k a0 (a0 == 2)))) = some r := h
  clear h
  have HC2 := Aside0.mk H
  clear H
  go_enter Try.func76, Try.ntmps76
  go_upto_if 4 with (fail)
  go_cut [4] (fun v4 wc => ∃ (kq : Nat) (x4_1 : Bool), v4 = .bool x4_1 ∧ Aside0 (types_parts.j0 kq a0 x4_1 = some r) ∧ Aside0 (kq ≤ k) ∧ Drawn0 w wc)
  case first =>
    have H := HC2.out
    clear HC2
    by_cases c3 : a0 = 0
    · rw [if_pos c3] at H
      have c3b0 : (a0 == 0) = true := beq_iff_eq.mpr c3
      have c3b1 : (a0 != 0) = false := bne_eq_false_iff_eq.mpr c3
      clear c3
      (first | rw [c3b0] | (simp only [i64_w, i32_w]; rw [c3b0]) | skip)
      have H' := Aside0.mk H
      clear H
      go_wp2
      go_meet
      case rel => exact ⟨_, ((a0 == 0)), (by first | rfl | (simp; done) | (simp [*]; done)), H', ⟨by first | omega | exact Nat.le_refl _⟩, by repeat (first | exact Drawn0.refl _ | apply Drawn0.step)⟩
    · rw [if_neg c3] at H
      have c3b0 : (a0 == 0) = false := beq_eq_false_iff_ne.mpr c3
      have c3b1 : (a0 != 0) = true := bne_iff_ne.mpr c3
      (first | rw [c3b0] | (simp only [i64_w, i32_w]; rw [c3b0]) | skip)
      by_cases c4 : a0 = 1
      · rw [if_pos c4] at H
        have c4b0 : (a0 == 1) = true := beq_iff_eq.mpr c4
        have c4b1 : (a0 != 1) = false := bne_eq_false_iff_eq.mpr c4
        clear c4
        have H' := Aside0.mk H
        clear H
        go_wp2
        go_meet
        case rel => exact ⟨_, ((a0 == 1)), (by first | rfl | (simp; done) | (simp [*]; done)), H', ⟨by first | omega | exact Nat.le_refl _⟩, by repeat (first | exact Drawn0.refl _ | apply Drawn0.step)⟩
      · rw [if_neg c4] at H
        have c4b0 : (a0 == 1) = false := beq_eq_false_iff_ne.mpr c4
        have c4b1 : (a0 != 1) = true := bne_iff_ne.mpr c4
        have H' := Aside0.mk H
        clear H
        go_wp2
        go_meet
        case rel => exact ⟨_, ((a0 == 2)), (by first | rfl | (simp; done) | (simp [*]; done)), H', ⟨by first | omega | exact Nat.le_refl _⟩, by repeat (first | exact Drawn0.refl _ | apply Drawn0.step)⟩
  case rest =>
    clear HC2
    try clear p2
    try clear c3
    try clear c3b0
    try clear c3b1
    try clear c4
    try clear c4b0
    try clear c4b1
    obtain ⟨kq, x4_1, rfl, HA, HJ1, ⟨mc1, rfl⟩⟩ := hcut
    cases kq with
    | zero => exact absurd HA.out (by simp [types_parts.j0])
    | succ kj1 =>
      have H := HA.out
      clear HA
      simp only [types_parts.j0] at H
      by_cases c5 : x4_1 = true
      · subst c5
        have H1 : (some 0) = some r := by rw [if_pos rfl] at H; exact H
        clear H
        have H := H1
        clear H1
        obtain rfl := Option.some.inj H
        go_wp2
        go_ret
        exact ⟨by first | rfl | (simp; done) | (simp [*]; done), by repeat (first | exact Drawn0.refl _ | apply Drawn0.step)⟩
      · replace c5 := Bool.eq_false_iff.mpr c5
        subst c5
        have H1 : (if a0 = 3 then (some 2) else (if a0 = 4 then (some 2) else (if a0 = 5 then (some 2) else (some (-1))))) = some r := by rw [if_neg (show ¬ (false = true) by decide)] at H; exact H
        clear H
        have H := H1
        clear H1
        by_cases c6 : a0 = 3
        · rw [if_pos c6] at H
          have c6b0 : (a0 == 3) = true := beq_iff_eq.mpr c6
          have c6b1 : (a0 != 3) = false := bne_eq_false_iff_eq.mpr c6
          clear c6
          obtain rfl := Option.some.inj H
          go_wp2
          go_ret
          exact ⟨by first | rfl | (simp; done) | (simp [*]; done), by repeat (first | exact Drawn0.refl _ | apply Drawn0.step)⟩
        · rw [if_neg c6] at H
          have c6b0 : (a0 == 3) = false := beq_eq_false_iff_ne.mpr c6
          have c6b1 : (a0 != 3) = true := bne_iff_ne.mpr c6
          by_cases c7 : a0 = 4
          · rw [if_pos c7] at H
            have c7b0 : (a0 == 4) = true := beq_iff_eq.mpr c7
            have c7b1 : (a0 != 4) = false := bne_eq_false_iff_eq.mpr c7
            clear c7
            obtain rfl := Option.some.inj H
            go_wp2
            go_ret
            exact ⟨by first | rfl | (simp; done) | (simp [*]; done), by repeat (first | exact Drawn0.refl _ | apply Drawn0.step)⟩
          · rw [if_neg c7] at H
            have c7b0 : (a0 == 4) = false := beq_eq_false_iff_ne.mpr c7
            have c7b1 : (a0 != 4) = true := bne_iff_ne.mpr c7
            by_cases c8 : a0 = 5
            · rw [if_pos c8] at H
              have c8b0 : (a0 == 5) = true := beq_iff_eq.mpr c8
              have c8b1 : (a0 != 5) = false := bne_eq_false_iff_eq.mpr c8
              clear c8
              obtain rfl := Option.some.inj H
              go_wp2
              go_ret
              exact ⟨by first | rfl | (simp; done) | (simp [*]; done), by repeat (first | exact Drawn0.refl _ | apply Drawn0.step)⟩
            · rw [if_neg c8] at H
              have c8b0 : (a0 == 5) = false := beq_eq_false_iff_ne.mpr c8
              have c8b1 : (a0 != 5) = true := bne_iff_ne.mpr c8
              obtain rfl := Option.some.inj H
              go_wp2
              go_ret
              exact ⟨by first | rfl | (simp; done) | (simp [*]; done), by repeat (first | exact Drawn0.refl _ | apply Drawn0.step)⟩

/-! ### types_right: function 74 -/
mutual
def types_right.l0 : Nat → List (S26) → Int → Int → Option (Bool)
  | 0, _, _, _ => none
  | k + 1, x13, x14, x15 => if x15 < x14 then (if 0 ≤ x15 then (if x15 < (x13.length : Int) then ((types_right.f k ((rd_T26 x13 x15).f0) ((rd_T26 x13 x15).f1)).bind fun t142 => (if t142 = true then (types_right.l0 k x13 x14 (wrap64 (x15 + 1))) else (some false))) else (none)) else (none)) else (some true)
def types_right.f : Nat → Int → List (S26) → Option (Bool)
  | 0, _, _ => none
  | k + 1, a0_0, l0_1 => (types_parts.f k a0_0).bind fun t139 => (if t139 = (l0_1.length : Int) then (types_right.l0 k l0_1 (l0_1.length : Int) 0) else (some false))
end
theorem types_right.mono_l : ∀ k, (∀ y0 y1, LeO (types_right.f k y0 y1) (types_right.f (k + 1) y0 y1)) ∧ (∀ y0 y1 y2, LeO (types_right.l0 k y0 y1 y2) (types_right.l0 (k + 1) y0 y1 y2))
  | 0 => ⟨fun _ _ r h => by simp [types_right.f] at h, fun _ _ _ r h => by simp [types_right.l0] at h⟩
  | k + 1 => by
    obtain ⟨ih0, ih1⟩ := types_right.mono_l k
    refine ⟨?_, ?_⟩
    · intro y0 y1
      unfold types_right.f
      repeat' first
      | (with_reducible exact ih0 _ _)
      | (with_reducible exact ih1 _ _ _)
      | (with_reducible exact types_parts.mono _ _)
      | (with_reducible exact LeO.refl _)
      | (with_reducible exact LeO.none _)
      | (with_reducible refine LeO.ite ?_ ?_)
      | (with_reducible refine LeO.bind ?_ (fun _ => ?_))
      | exact ih0 _ _
      | exact ih1 _ _ _
      | exact types_parts.mono _ _
      | exact LeO.none _
      | refine LeO.ite ?_ ?_
      | refine LeO.bind ?_ (fun _ => ?_)
    · intro y0 y1 y2
      unfold types_right.l0
      repeat' first
      | (with_reducible exact ih0 _ _)
      | (with_reducible exact ih1 _ _ _)
      | (with_reducible exact types_parts.mono _ _)
      | (with_reducible exact LeO.refl _)
      | (with_reducible exact LeO.none _)
      | (with_reducible refine LeO.ite ?_ ?_)
      | (with_reducible refine LeO.bind ?_ (fun _ => ?_))
      | exact ih0 _ _
      | exact ih1 _ _ _
      | exact types_parts.mono _ _
      | exact LeO.none _
      | refine LeO.ite ?_ ?_
      | refine LeO.bind ?_ (fun _ => ?_)
theorem types_right.mono : ∀ a0 a1 k, LeO (types_right.f k a0 a1) (types_right.f (k + 1) a0 a1) := by
  intro a0 a1 k
  obtain ⟨ih0, ih1⟩ := types_right.mono_l k
  exact ih0 a0 a1
set_option maxHeartbeats 8000000 in
set_option maxRecDepth 100000 in
theorem types_right.calls (k : Nat) : ∀ (a0_0 : Int) (A0_1 : Option Addr) (c0_1 : Nat) (l0_1 : List (S26)) (r : Bool) (w : World) (hr0_1 : Kd.C k26 w A0_1 l0_1.length l0_1) (hc0_1 : l0_1.length ≤ c0_1) (h : types_right.f k a0_0 l0_1 = some r),
    Calls Try.prog 74 #[.agg #[.int .i8 a0_0, .slice A0_1 l0_1.length c0_1]] w fun e w' => e = .returned (.bool r) ∧ Below w.heap.size w w' := by
  induction k using Nat.strongRecOn with
  | _ k ih =>
  intro a0_0 A0_1 c0_1 l0_1 r w hr0_1 hc0_1 h
  cases k with
  | zero => exact absurd h (by simp [types_right.f])
  | succ k =>
  simp only [types_right.f] at h
  have hu26 := Try.underlying26
  have HR0_1 := Aside0.mk hr0_1
  have HC0_1 := Aside0.mk hc0_1
  clear hr0_1 hc0_1
  have HB := Aside0.mk (Below.refl w.heap.size w)
  have H : ((types_parts.f k a0_0).bind fun t139 => (if t139 = (l0_1.length : Int) then (types_right.l0 k l0_1 (l0_1.length : Int) 0) else (some false))) = some r := h
  clear h
  replace H := Option.bind_eq_some_iff.mp H
  obtain ⟨t139, A20, H⟩ := H
  replace H : (if t139 = (l0_1.length : Int) then (types_right.l0 k l0_1 (l0_1.length : Int) 0) else (some false)) = some r := H
  have A2 := Aside0.mk A20
  clear A20
  by_cases c3 : t139 = (l0_1.length : Int)
  · rw [if_pos c3] at H
    have c3b0 : (t139 == (l0_1.length : Int)) = true := beq_iff_eq.mpr c3
    have c3b1 : (t139 != (l0_1.length : Int)) = false := bne_eq_false_iff_eq.mpr c3
    clear c3
    have H' := Aside0.mk H
    clear H
    go_enter Try.func74, Try.ntmps74
    go_wp2_with (first | ((with_reducible refine gate_dst (N := 1) rfl ?_); refine box_event ?hg (N := 1) ?hd (cs := #[.int .i8 a0_0, .slice A0_1 l0_1.length c0_1]) (t := 26) ?hr ?_; (case hd => rfl); (case hg => rfl); (case hr => first | (go_simp; done) | (go_simp; rfl)); intro gb138 hg w4 hbox hb; have n0_ := Aside0.mk (below_step (by repeat (first | (with_reducible first | exact HB.out | apply below_alloc | apply pw_below_drewN | apply below_drew1) | exact HB.out)) hb); have n1_ := Aside0.mk (hbox); have n2_ := Aside0.mk ((by rw [hg]; exact (below_size (by repeat (first | (with_reducible first | exact HB.out | apply below_alloc | apply pw_below_drewN | apply below_drew1) | exact HB.out))) : w.heap.size ≤ gb138)); have n3_ := Aside0.mk ((by rw [hg]; exact (below_size (by repeat (first | (with_reducible first | exact HB.out | apply below_alloc | apply pw_below_drewN | apply below_drew1) | exact HB.out))) : w.heap.size ≤ gb138)); clear HB; have HB := n0_; have BK138 := n1_; have GW138 := n2_; have GE138 := n3_; clear n0_ n1_ n2_ n3_; clear hb hbox hg; have hcz5_0 : w4.cell? ⟨gb138, 0, none⟩ = some (.int .i8 a0_0) := (blk_cell BK138.out 0).trans rfl; have hcz5_1 : w4.cell? ⟨gb138, 1, none⟩ = some (.slice A0_1 l0_1.length c0_1) := (blk_cell BK138.out 1).trans rfl; have hfz5_0 := blk_frozen BK138.out 0; have hfz5_1 := blk_frozen BK138.out 1) | (go_at_call 76; (with_reducible refine (types_parts.calls k a0_0 t139 _ A2.out).mono ?_); rintro e w' ⟨rfl, ⟨nd, rfl⟩⟩; (try first | exact ⟨rfl, _, World.drewN_drewN _ _ _⟩ | exact ⟨rfl, _, Eq.trans (World.drewN_drewN _ _ _) (congrArg (World.drewN _) (Nat.add_assoc _ _ _))⟩)))
    repeat (go_quiet (first | ((with_reducible refine gate_dst (N := 1) rfl ?_); refine box_event ?hg (N := 1) ?hd (cs := #[.int .i8 a0_0, .slice A0_1 l0_1.length c0_1]) (t := 26) ?hr ?_; (case hd => rfl); (case hg => rfl); (case hr => first | (go_simp; done) | (go_simp; rfl)); intro gb138 hg w4 hbox hb; have n0_ := Aside0.mk (below_step (by repeat (first | (with_reducible first | exact HB.out | apply below_alloc | apply pw_below_drewN | apply below_drew1) | exact HB.out)) hb); have n1_ := Aside0.mk (hbox); have n2_ := Aside0.mk ((by rw [hg]; exact (below_size (by repeat (first | (with_reducible first | exact HB.out | apply below_alloc | apply pw_below_drewN | apply below_drew1) | exact HB.out))) : w.heap.size ≤ gb138)); have n3_ := Aside0.mk ((by rw [hg]; exact (below_size (by repeat (first | (with_reducible first | exact HB.out | apply below_alloc | apply pw_below_drewN | apply below_drew1) | exact HB.out))) : w.heap.size ≤ gb138)); clear HB; have HB := n0_; have BK138 := n1_; have GW138 := n2_; have GE138 := n3_; clear n0_ n1_ n2_ n3_; clear hb hbox hg; have hcz5_0 : w4.cell? ⟨gb138, 0, none⟩ = some (.int .i8 a0_0) := (blk_cell BK138.out 0).trans rfl; have hcz5_1 : w4.cell? ⟨gb138, 1, none⟩ = some (.slice A0_1 l0_1.length c0_1) := (blk_cell BK138.out 1).trans rfl; have hfz5_0 := blk_frozen BK138.out 0; have hfz5_1 := blk_frozen BK138.out 1) | (go_at_call 76; (with_reducible refine (types_parts.calls k a0_0 t139 _ A2.out).mono ?_); rintro e w' ⟨rfl, ⟨nd, rfl⟩⟩; (try first | exact ⟨rfl, _, World.drewN_drewN _ _ _⟩ | exact ⟨rfl, _, Eq.trans (World.drewN_drewN _ _ _) (congrArg (World.drewN _) (Nat.add_assoc _ _ _))⟩))); try go_wp2_with (first | ((with_reducible refine gate_dst (N := 1) rfl ?_); refine box_event ?hg (N := 1) ?hd (cs := #[.int .i8 a0_0, .slice A0_1 l0_1.length c0_1]) (t := 26) ?hr ?_; (case hd => rfl); (case hg => rfl); (case hr => first | (go_simp; done) | (go_simp; rfl)); intro gb138 hg w4 hbox hb; have n0_ := Aside0.mk (below_step (by repeat (first | (with_reducible first | exact HB.out | apply below_alloc | apply pw_below_drewN | apply below_drew1) | exact HB.out)) hb); have n1_ := Aside0.mk (hbox); have n2_ := Aside0.mk ((by rw [hg]; exact (below_size (by repeat (first | (with_reducible first | exact HB.out | apply below_alloc | apply pw_below_drewN | apply below_drew1) | exact HB.out))) : w.heap.size ≤ gb138)); have n3_ := Aside0.mk ((by rw [hg]; exact (below_size (by repeat (first | (with_reducible first | exact HB.out | apply below_alloc | apply pw_below_drewN | apply below_drew1) | exact HB.out))) : w.heap.size ≤ gb138)); clear HB; have HB := n0_; have BK138 := n1_; have GW138 := n2_; have GE138 := n3_; clear n0_ n1_ n2_ n3_; clear hb hbox hg; have hcz5_0 : w4.cell? ⟨gb138, 0, none⟩ = some (.int .i8 a0_0) := (blk_cell BK138.out 0).trans rfl; have hcz5_1 : w4.cell? ⟨gb138, 1, none⟩ = some (.slice A0_1 l0_1.length c0_1) := (blk_cell BK138.out 1).trans rfl; have hfz5_0 := blk_frozen BK138.out 0; have hfz5_1 := blk_frozen BK138.out 1) | (go_at_call 76; (with_reducible refine (types_parts.calls k a0_0 t139 _ A2.out).mono ?_); rintro e w' ⟨rfl, ⟨nd, rfl⟩⟩; (try first | exact ⟨rfl, _, World.drewN_drewN _ _ _⟩ | exact ⟨rfl, _, Eq.trans (World.drewN_drewN _ _ _) (congrArg (World.drewN _) (Nat.add_assoc _ _ _))⟩))))
    go_loopg [15] k (fun kq v15 w' => ∃ (x15_1 : Int), v15 = .int .i64 x15_1 ∧ Aside0 (types_right.l0 kq l0_1 (l0_1.length : Int) x15_1 = some r) ∧ Aside0 (kq ≤ k) ∧ Aside0 (w'.heap[gb138]? = some (.cells #[.int .i8 a0_0, (.slice A0_1 l0_1.length c0_1)] 26 (0, 0))) ∧ Aside0 (Below w.heap.size w w'))
    case atStart => exact ⟨(0), (by first | rfl | (simp; done) | (simp [*]; done)), H', ⟨Nat.le_refl _⟩, ⟨by (with_reducible repeat (first | refine blk_drewN ?_ _ | refine blk_drew ?_ | refine blk_alloc ?_ _)); exact BK138.out⟩, ⟨by repeat (first | (with_reducible first | exact HB.out | apply below_alloc | apply pw_below_drewN | apply below_drew1 | refine below_set ?_ GE138.out) | exact HB.out)⟩⟩
    case round =>
      clear H'
      try clear p2
      try clear c3
      try clear c3b0
      try clear c3b1
      try clear hcz5_0
      try clear hcz5_1
      try clear hfz5_0
      try clear hfz5_1
      obtain ⟨x15_1, rfl, HA, HK1, BK138, HB⟩ := hrel
      cases gk with
      | zero => exact absurd HA.out (by simp [types_right.l0])
      | succ k1 =>
        have H := HA.out
        clear HA
        simp only [types_right.l0] at H
        by_cases c6 : x15_1 < (l0_1.length : Int)
        · rw [if_pos c6] at H
          have c6b0 : decide (x15_1 < (l0_1.length : Int)) = true := decide_eq_true c6
          clear c6
          by_cases c7 : 0 ≤ x15_1
          · rw [if_pos c7] at H
            have c7b0 : decide (0 ≤ x15_1) = true := decide_eq_true c7
            clear c7
            by_cases c8 : x15_1 < (l0_1.length : Int)
            · rw [if_pos c8] at H
              have c8b0 : decide (x15_1 < (l0_1.length : Int)) = true := decide_eq_true c8
              clear c8
              replace H := Option.bind_eq_some_iff.mp H
              obtain ⟨t142, A90, H⟩ := H
              replace H : (if t142 = true then (types_right.l0 k1 l0_1 (l0_1.length : Int) (wrap64 (x15_1 + 1))) else (some false)) = some r := H
              have A9 := Aside0.mk A90
              clear A90
              by_cases c10 : t142 = true
              · subst c10
                have H1 : (types_right.l0 k1 l0_1 (l0_1.length : Int) (wrap64 (x15_1 + 1))) = some r := by rw [if_pos rfl] at H; exact H
                clear H
                have H := H1
                clear H1
                have H' := Aside0.mk H
                clear H
                have p140 : 0 ≤ (x15_1 : Int) := of_decide_eq_true (by first | (with_reducible assumption) | assumption)
                have q140 : x15_1 < (l0_1.length : Int) := of_decide_eq_true (by first | (with_reducible assumption) | assumption)
                obtain ⟨ad140, A140_1, c140_1, e140, hx140_0, hx140_1, hl140_1, hi140_1⟩ := at_T26 HR0_1.out x15_1 p140 q140
                cases e140
                replace hx140_0 := (HB.out.cell (World.block_lt_of_cell? w _ hx140_0)).trans hx140_0
                replace hx140_1 := (HB.out.cell (World.block_lt_of_cell? w _ hx140_1)).trans hx140_1
                have HR140_1 := Aside0.mk hi140_1
                have HC140_1 := Aside0.mk hl140_1
                clear hi140_1 hl140_1
                replace p140 := eq_true p140
                replace q140 := eq_true q140
                go_wp2_with (first | ((with_reducible refine gate_dst (N := 4) rfl ?_); refine box_event ?hg (N := 4) ?hd (cs := #[.int .i8 0, .slice none 0 0]) (t := 26) ?hr ?_; (case hd => rfl); (case hg => rfl); (case hr => first | (go_simp; done) | (go_simp; rfl)); intro gb141 hg w11 hbox hb; have n0_ := Aside0.mk (blk_below (g := gb138) (o := .cells #[.int .i8 a0_0, .slice (some ad140) l0_1.length c0_1] 26 (0, 0)) (by (with_reducible repeat (first | refine blk_drewN ?_ _ | refine blk_drew ?_ | refine blk_alloc ?_ _)); exact BK138.out) hb); have n1_ := Aside0.mk (below_step (by repeat (first | (with_reducible first | exact HB.out | apply below_alloc | apply pw_below_drewN | apply below_drew1 | refine below_set ?_ GE138.out) | exact HB.out)) hb); have n2_ := Aside0.mk (hbox); have n3_ := Aside0.mk ((by rw [hg]; exact (below_size (by repeat (first | (with_reducible first | exact HB.out | apply below_alloc | apply pw_below_drewN | apply below_drew1 | refine below_set ?_ GE138.out) | exact HB.out))) : w.heap.size ≤ gb141)); have n4_ := Aside0.mk ((by rw [hg]; exact (below_size (by repeat (first | (with_reducible first | exact HB.out | apply below_alloc | apply pw_below_drewN | apply below_drew1 | refine below_set ?_ GE138.out) | exact HB.out))) : w.heap.size ≤ gb141)); have n5_ := Aside0.mk ((by rw [hg]; exact Nat.ne_of_lt (blk_lt (g := gb138) (o := .cells #[.int .i8 a0_0, .slice (some ad140) l0_1.length c0_1] 26 (0, 0)) (by (with_reducible repeat (first | refine blk_drewN ?_ _ | refine blk_drew ?_ | refine blk_alloc ?_ _)); exact BK138.out)) : gb138 ≠ gb141)); have n6_ := Aside0.mk ((by rw [hg]; exact Nat.ne_of_gt (blk_lt (g := gb138) (o := .cells #[.int .i8 a0_0, .slice (some ad140) l0_1.length c0_1] 26 (0, 0)) (by (with_reducible repeat (first | refine blk_drewN ?_ _ | refine blk_drew ?_ | refine blk_alloc ?_ _)); exact BK138.out)) : gb141 ≠ gb138)); clear BK138; clear HB; have BK138 := n0_; have HB := n1_; have BK141 := n2_; have GW141 := n3_; have GE141 := n4_; have NB138_141 := n5_; have NB141_138 := n6_; clear n0_ n1_ n2_ n3_ n4_ n5_ n6_; clear hb hbox hg; have hnb12 := NB141_138.out; have hnc12 := NB138_141.out; have hcz13_0 : w11.cell? ⟨gb141, 0, none⟩ = some (.int .i8 0) := (blk_cell BK141.out 0).trans rfl; have hcz13_1 : w11.cell? ⟨gb141, 1, none⟩ = some (.slice none 0 0) := (blk_cell BK141.out 1).trans rfl; have hfz13_0 := blk_frozen BK141.out 0; have hfz13_1 := blk_frozen BK141.out 1) | (go_at_call 74; (with_reducible refine (ih k1 (by have := HK1.out; omega) ((rd_T26 l0_1 x15_1).f0) _ _ ((rd_T26 l0_1 x15_1).f1) true _ ?side1 ?side2 A9.out).mono ?_); (case side1 => exact Kd.C_below HR140_1.out (by repeat (first | (with_reducible first | exact HB.out | apply below_alloc | apply pw_below_drewN | apply below_drew1 | refine below_set ?_ GE138.out | refine below_set ?_ GE141.out) | exact HB.out))); (case side2 => exact HC140_1.out); rintro e w14 ⟨rfl, hb⟩; have n0_ := Aside0.mk (blk_below (g := gb138) (o := .cells #[.int .i8 a0_0, .slice (some ad140) l0_1.length c0_1] 26 (0, 0)) (by (with_reducible repeat (first | refine blk_drewN ?_ _ | refine blk_drew ?_ | refine blk_alloc ?_ _)); refine blk_far ?_ NB138_141.out _; (with_reducible repeat (first | refine blk_drewN ?_ _ | refine blk_drew ?_ | refine blk_alloc ?_ _)); refine blk_far ?_ NB138_141.out _; (with_reducible repeat (first | refine blk_drewN ?_ _ | refine blk_drew ?_ | refine blk_alloc ?_ _)); exact BK138.out) hb); have n1_ := Aside0.mk (blk_below (g := gb141) (o := .cells #[.int .i8 ((rd_T26 l0_1 x15_1).f0), .slice A140_1 ((rd_T26 l0_1 x15_1).f1).length c140_1] 26 (0, 0)) (by (with_reducible repeat (first | refine blk_drewN ?_ _ | refine blk_drew ?_ | refine blk_alloc ?_ _)); refine blk_put (cs := #[.int .i8 ((rd_T26 l0_1 x15_1).f0), .slice none 0 0]) ?_ 1 _ rfl; (with_reducible repeat (first | refine blk_drewN ?_ _ | refine blk_drew ?_ | refine blk_alloc ?_ _)); refine blk_put (cs := #[.int .i8 0, .slice none 0 0]) ?_ 0 _ rfl; (with_reducible repeat (first | refine blk_drewN ?_ _ | refine blk_drew ?_ | refine blk_alloc ?_ _)); exact BK141.out) hb); have n2_ := Aside0.mk (below_step (by repeat (first | (with_reducible first | exact HB.out | apply below_alloc | apply pw_below_drewN | apply below_drew1 | refine below_set ?_ GE138.out | refine below_set ?_ GE141.out) | exact HB.out)) hb); clear BK138; clear BK141; clear HB; have BK138 := n0_; have BK141 := n1_; have HB := n2_; clear n0_ n1_ n2_; (try clear hb); (try clear hb2); (try clear hk); (try clear hi)))
                repeat (go_quiet (first | ((with_reducible refine gate_dst (N := 4) rfl ?_); refine box_event ?hg (N := 4) ?hd (cs := #[.int .i8 0, .slice none 0 0]) (t := 26) ?hr ?_; (case hd => rfl); (case hg => rfl); (case hr => first | (go_simp; done) | (go_simp; rfl)); intro gb141 hg w11 hbox hb; have n0_ := Aside0.mk (blk_below (g := gb138) (o := .cells #[.int .i8 a0_0, .slice (some ad140) l0_1.length c0_1] 26 (0, 0)) (by (with_reducible repeat (first | refine blk_drewN ?_ _ | refine blk_drew ?_ | refine blk_alloc ?_ _)); exact BK138.out) hb); have n1_ := Aside0.mk (below_step (by repeat (first | (with_reducible first | exact HB.out | apply below_alloc | apply pw_below_drewN | apply below_drew1 | refine below_set ?_ GE138.out) | exact HB.out)) hb); have n2_ := Aside0.mk (hbox); have n3_ := Aside0.mk ((by rw [hg]; exact (below_size (by repeat (first | (with_reducible first | exact HB.out | apply below_alloc | apply pw_below_drewN | apply below_drew1 | refine below_set ?_ GE138.out) | exact HB.out))) : w.heap.size ≤ gb141)); have n4_ := Aside0.mk ((by rw [hg]; exact (below_size (by repeat (first | (with_reducible first | exact HB.out | apply below_alloc | apply pw_below_drewN | apply below_drew1 | refine below_set ?_ GE138.out) | exact HB.out))) : w.heap.size ≤ gb141)); have n5_ := Aside0.mk ((by rw [hg]; exact Nat.ne_of_lt (blk_lt (g := gb138) (o := .cells #[.int .i8 a0_0, .slice (some ad140) l0_1.length c0_1] 26 (0, 0)) (by (with_reducible repeat (first | refine blk_drewN ?_ _ | refine blk_drew ?_ | refine blk_alloc ?_ _)); exact BK138.out)) : gb138 ≠ gb141)); have n6_ := Aside0.mk ((by rw [hg]; exact Nat.ne_of_gt (blk_lt (g := gb138) (o := .cells #[.int .i8 a0_0, .slice (some ad140) l0_1.length c0_1] 26 (0, 0)) (by (with_reducible repeat (first | refine blk_drewN ?_ _ | refine blk_drew ?_ | refine blk_alloc ?_ _)); exact BK138.out)) : gb141 ≠ gb138)); clear BK138; clear HB; have BK138 := n0_; have HB := n1_; have BK141 := n2_; have GW141 := n3_; have GE141 := n4_; have NB138_141 := n5_; have NB141_138 := n6_; clear n0_ n1_ n2_ n3_ n4_ n5_ n6_; clear hb hbox hg; have hnb12 := NB141_138.out; have hnc12 := NB138_141.out; have hcz13_0 : w11.cell? ⟨gb141, 0, none⟩ = some (.int .i8 0) := (blk_cell BK141.out 0).trans rfl; have hcz13_1 : w11.cell? ⟨gb141, 1, none⟩ = some (.slice none 0 0) := (blk_cell BK141.out 1).trans rfl; have hfz13_0 := blk_frozen BK141.out 0; have hfz13_1 := blk_frozen BK141.out 1) | (go_at_call 74; (with_reducible refine (ih k1 (by have := HK1.out; omega) ((rd_T26 l0_1 x15_1).f0) _ _ ((rd_T26 l0_1 x15_1).f1) true _ ?side1 ?side2 A9.out).mono ?_); (case side1 => exact Kd.C_below HR140_1.out (by repeat (first | (with_reducible first | exact HB.out | apply below_alloc | apply pw_below_drewN | apply below_drew1 | refine below_set ?_ GE138.out | refine below_set ?_ GE141.out) | exact HB.out))); (case side2 => exact HC140_1.out); rintro e w14 ⟨rfl, hb⟩; have n0_ := Aside0.mk (blk_below (g := gb138) (o := .cells #[.int .i8 a0_0, .slice (some ad140) l0_1.length c0_1] 26 (0, 0)) (by (with_reducible repeat (first | refine blk_drewN ?_ _ | refine blk_drew ?_ | refine blk_alloc ?_ _)); refine blk_far ?_ NB138_141.out _; (with_reducible repeat (first | refine blk_drewN ?_ _ | refine blk_drew ?_ | refine blk_alloc ?_ _)); refine blk_far ?_ NB138_141.out _; (with_reducible repeat (first | refine blk_drewN ?_ _ | refine blk_drew ?_ | refine blk_alloc ?_ _)); exact BK138.out) hb); have n1_ := Aside0.mk (blk_below (g := gb141) (o := .cells #[.int .i8 ((rd_T26 l0_1 x15_1).f0), .slice A140_1 ((rd_T26 l0_1 x15_1).f1).length c140_1] 26 (0, 0)) (by (with_reducible repeat (first | refine blk_drewN ?_ _ | refine blk_drew ?_ | refine blk_alloc ?_ _)); refine blk_put (cs := #[.int .i8 ((rd_T26 l0_1 x15_1).f0), .slice none 0 0]) ?_ 1 _ rfl; (with_reducible repeat (first | refine blk_drewN ?_ _ | refine blk_drew ?_ | refine blk_alloc ?_ _)); refine blk_put (cs := #[.int .i8 0, .slice none 0 0]) ?_ 0 _ rfl; (with_reducible repeat (first | refine blk_drewN ?_ _ | refine blk_drew ?_ | refine blk_alloc ?_ _)); exact BK141.out) hb); have n2_ := Aside0.mk (below_step (by repeat (first | (with_reducible first | exact HB.out | apply below_alloc | apply pw_below_drewN | apply below_drew1 | refine below_set ?_ GE138.out | refine below_set ?_ GE141.out) | exact HB.out)) hb); clear BK138; clear BK141; clear HB; have BK138 := n0_; have BK141 := n1_; have HB := n2_; clear n0_ n1_ n2_; (try clear hb); (try clear hb2); (try clear hk); (try clear hi))); try go_wp2_with (first | ((with_reducible refine gate_dst (N := 4) rfl ?_); refine box_event ?hg (N := 4) ?hd (cs := #[.int .i8 0, .slice none 0 0]) (t := 26) ?hr ?_; (case hd => rfl); (case hg => rfl); (case hr => first | (go_simp; done) | (go_simp; rfl)); intro gb141 hg w11 hbox hb; have n0_ := Aside0.mk (blk_below (g := gb138) (o := .cells #[.int .i8 a0_0, .slice (some ad140) l0_1.length c0_1] 26 (0, 0)) (by (with_reducible repeat (first | refine blk_drewN ?_ _ | refine blk_drew ?_ | refine blk_alloc ?_ _)); exact BK138.out) hb); have n1_ := Aside0.mk (below_step (by repeat (first | (with_reducible first | exact HB.out | apply below_alloc | apply pw_below_drewN | apply below_drew1 | refine below_set ?_ GE138.out) | exact HB.out)) hb); have n2_ := Aside0.mk (hbox); have n3_ := Aside0.mk ((by rw [hg]; exact (below_size (by repeat (first | (with_reducible first | exact HB.out | apply below_alloc | apply pw_below_drewN | apply below_drew1 | refine below_set ?_ GE138.out) | exact HB.out))) : w.heap.size ≤ gb141)); have n4_ := Aside0.mk ((by rw [hg]; exact (below_size (by repeat (first | (with_reducible first | exact HB.out | apply below_alloc | apply pw_below_drewN | apply below_drew1 | refine below_set ?_ GE138.out) | exact HB.out))) : w.heap.size ≤ gb141)); have n5_ := Aside0.mk ((by rw [hg]; exact Nat.ne_of_lt (blk_lt (g := gb138) (o := .cells #[.int .i8 a0_0, .slice (some ad140) l0_1.length c0_1] 26 (0, 0)) (by (with_reducible repeat (first | refine blk_drewN ?_ _ | refine blk_drew ?_ | refine blk_alloc ?_ _)); exact BK138.out)) : gb138 ≠ gb141)); have n6_ := Aside0.mk ((by rw [hg]; exact Nat.ne_of_gt (blk_lt (g := gb138) (o := .cells #[.int .i8 a0_0, .slice (some ad140) l0_1.length c0_1] 26 (0, 0)) (by (with_reducible repeat (first | refine blk_drewN ?_ _ | refine blk_drew ?_ | refine blk_alloc ?_ _)); exact BK138.out)) : gb141 ≠ gb138)); clear BK138; clear HB; have BK138 := n0_; have HB := n1_; have BK141 := n2_; have GW141 := n3_; have GE141 := n4_; have NB138_141 := n5_; have NB141_138 := n6_; clear n0_ n1_ n2_ n3_ n4_ n5_ n6_; clear hb hbox hg; have hnb12 := NB141_138.out; have hnc12 := NB138_141.out; have hcz13_0 : w11.cell? ⟨gb141, 0, none⟩ = some (.int .i8 0) := (blk_cell BK141.out 0).trans rfl; have hcz13_1 : w11.cell? ⟨gb141, 1, none⟩ = some (.slice none 0 0) := (blk_cell BK141.out 1).trans rfl; have hfz13_0 := blk_frozen BK141.out 0; have hfz13_1 := blk_frozen BK141.out 1) | (go_at_call 74; (with_reducible refine (ih k1 (by have := HK1.out; omega) ((rd_T26 l0_1 x15_1).f0) _ _ ((rd_T26 l0_1 x15_1).f1) true _ ?side1 ?side2 A9.out).mono ?_); (case side1 => exact Kd.C_below HR140_1.out (by repeat (first | (with_reducible first | exact HB.out | apply below_alloc | apply pw_below_drewN | apply below_drew1 | refine below_set ?_ GE138.out | refine below_set ?_ GE141.out) | exact HB.out))); (case side2 => exact HC140_1.out); rintro e w14 ⟨rfl, hb⟩; have n0_ := Aside0.mk (blk_below (g := gb138) (o := .cells #[.int .i8 a0_0, .slice (some ad140) l0_1.length c0_1] 26 (0, 0)) (by (with_reducible repeat (first | refine blk_drewN ?_ _ | refine blk_drew ?_ | refine blk_alloc ?_ _)); refine blk_far ?_ NB138_141.out _; (with_reducible repeat (first | refine blk_drewN ?_ _ | refine blk_drew ?_ | refine blk_alloc ?_ _)); refine blk_far ?_ NB138_141.out _; (with_reducible repeat (first | refine blk_drewN ?_ _ | refine blk_drew ?_ | refine blk_alloc ?_ _)); exact BK138.out) hb); have n1_ := Aside0.mk (blk_below (g := gb141) (o := .cells #[.int .i8 ((rd_T26 l0_1 x15_1).f0), .slice A140_1 ((rd_T26 l0_1 x15_1).f1).length c140_1] 26 (0, 0)) (by (with_reducible repeat (first | refine blk_drewN ?_ _ | refine blk_drew ?_ | refine blk_alloc ?_ _)); refine blk_put (cs := #[.int .i8 ((rd_T26 l0_1 x15_1).f0), .slice none 0 0]) ?_ 1 _ rfl; (with_reducible repeat (first | refine blk_drewN ?_ _ | refine blk_drew ?_ | refine blk_alloc ?_ _)); refine blk_put (cs := #[.int .i8 0, .slice none 0 0]) ?_ 0 _ rfl; (with_reducible repeat (first | refine blk_drewN ?_ _ | refine blk_drew ?_ | refine blk_alloc ?_ _)); exact BK141.out) hb); have n2_ := Aside0.mk (below_step (by repeat (first | (with_reducible first | exact HB.out | apply below_alloc | apply pw_below_drewN | apply below_drew1 | refine below_set ?_ GE138.out | refine below_set ?_ GE141.out) | exact HB.out)) hb); clear BK138; clear BK141; clear HB; have BK138 := n0_; have BK141 := n1_; have HB := n2_; clear n0_ n1_ n2_; (try clear hb); (try clear hb2); (try clear hk); (try clear hi))))
                go_roundg k1
                case measure => have := HK1.out; omega
                case rel => exact ⟨(wrap64 (x15_1 + 1)), (by first | rfl | (simp; done) | (simp [*]; done)), H', ⟨by have := HK1.out; omega⟩, ⟨by (with_reducible repeat (first | refine blk_drewN ?_ _ | refine blk_drew ?_ | refine blk_alloc ?_ _)); exact BK138.out⟩, ⟨by repeat (first | (with_reducible first | exact HB.out | apply below_alloc | apply pw_below_drewN | apply below_drew1 | refine below_set ?_ GE138.out | refine below_set ?_ GE141.out) | exact HB.out)⟩⟩
              · replace c10 := Bool.eq_false_iff.mpr c10
                subst c10
                have H1 : (some false) = some r := by rw [if_neg (show ¬ (false = true) by decide)] at H; exact H
                clear H
                have H := H1
                clear H1
                obtain rfl := Option.some.inj H
                have p140 : 0 ≤ (x15_1 : Int) := of_decide_eq_true (by first | (with_reducible assumption) | assumption)
                have q140 : x15_1 < (l0_1.length : Int) := of_decide_eq_true (by first | (with_reducible assumption) | assumption)
                obtain ⟨ad140, A140_1, c140_1, e140, hx140_0, hx140_1, hl140_1, hi140_1⟩ := at_T26 HR0_1.out x15_1 p140 q140
                cases e140
                replace hx140_0 := (HB.out.cell (World.block_lt_of_cell? w _ hx140_0)).trans hx140_0
                replace hx140_1 := (HB.out.cell (World.block_lt_of_cell? w _ hx140_1)).trans hx140_1
                have HR140_1 := Aside0.mk hi140_1
                have HC140_1 := Aside0.mk hl140_1
                clear hi140_1 hl140_1
                replace p140 := eq_true p140
                replace q140 := eq_true q140
                go_wp2_with (first | ((with_reducible refine gate_dst (N := 4) rfl ?_); refine box_event ?hg (N := 4) ?hd (cs := #[.int .i8 0, .slice none 0 0]) (t := 26) ?hr ?_; (case hd => rfl); (case hg => rfl); (case hr => first | (go_simp; done) | (go_simp; rfl)); intro gb141 hg w15 hbox hb; have n0_ := Aside0.mk (blk_below (g := gb138) (o := .cells #[.int .i8 a0_0, .slice (some ad140) l0_1.length c0_1] 26 (0, 0)) (by (with_reducible repeat (first | refine blk_drewN ?_ _ | refine blk_drew ?_ | refine blk_alloc ?_ _)); exact BK138.out) hb); have n1_ := Aside0.mk (below_step (by repeat (first | (with_reducible first | exact HB.out | apply below_alloc | apply pw_below_drewN | apply below_drew1 | refine below_set ?_ GE138.out) | exact HB.out)) hb); have n2_ := Aside0.mk (hbox); have n3_ := Aside0.mk ((by rw [hg]; exact (below_size (by repeat (first | (with_reducible first | exact HB.out | apply below_alloc | apply pw_below_drewN | apply below_drew1 | refine below_set ?_ GE138.out) | exact HB.out))) : w.heap.size ≤ gb141)); have n4_ := Aside0.mk ((by rw [hg]; exact (below_size (by repeat (first | (with_reducible first | exact HB.out | apply below_alloc | apply pw_below_drewN | apply below_drew1 | refine below_set ?_ GE138.out) | exact HB.out))) : w.heap.size ≤ gb141)); have n5_ := Aside0.mk ((by rw [hg]; exact Nat.ne_of_lt (blk_lt (g := gb138) (o := .cells #[.int .i8 a0_0, .slice (some ad140) l0_1.length c0_1] 26 (0, 0)) (by (with_reducible repeat (first | refine blk_drewN ?_ _ | refine blk_drew ?_ | refine blk_alloc ?_ _)); exact BK138.out)) : gb138 ≠ gb141)); have n6_ := Aside0.mk ((by rw [hg]; exact Nat.ne_of_gt (blk_lt (g := gb138) (o := .cells #[.int .i8 a0_0, .slice (some ad140) l0_1.length c0_1] 26 (0, 0)) (by (with_reducible repeat (first | refine blk_drewN ?_ _ | refine blk_drew ?_ | refine blk_alloc ?_ _)); exact BK138.out)) : gb141 ≠ gb138)); clear BK138; clear HB; have BK138 := n0_; have HB := n1_; have BK141 := n2_; have GW141 := n3_; have GE141 := n4_; have NB138_141 := n5_; have NB141_138 := n6_; clear n0_ n1_ n2_ n3_ n4_ n5_ n6_; clear hb hbox hg; have hnb16 := NB141_138.out; have hnc16 := NB138_141.out; have hcz17_0 : w15.cell? ⟨gb141, 0, none⟩ = some (.int .i8 0) := (blk_cell BK141.out 0).trans rfl; have hcz17_1 : w15.cell? ⟨gb141, 1, none⟩ = some (.slice none 0 0) := (blk_cell BK141.out 1).trans rfl; have hfz17_0 := blk_frozen BK141.out 0; have hfz17_1 := blk_frozen BK141.out 1) | (go_at_call 74; (with_reducible refine (ih k1 (by have := HK1.out; omega) ((rd_T26 l0_1 x15_1).f0) _ _ ((rd_T26 l0_1 x15_1).f1) false _ ?side1 ?side2 A9.out).mono ?_); (case side1 => exact Kd.C_below HR140_1.out (by repeat (first | (with_reducible first | exact HB.out | apply below_alloc | apply pw_below_drewN | apply below_drew1 | refine below_set ?_ GE138.out | refine below_set ?_ GE141.out) | exact HB.out))); (case side2 => exact HC140_1.out); rintro e w18 ⟨rfl, hb⟩; have n0_ := Aside0.mk (blk_below (g := gb138) (o := .cells #[.int .i8 a0_0, .slice (some ad140) l0_1.length c0_1] 26 (0, 0)) (by (with_reducible repeat (first | refine blk_drewN ?_ _ | refine blk_drew ?_ | refine blk_alloc ?_ _)); refine blk_far ?_ NB138_141.out _; (with_reducible repeat (first | refine blk_drewN ?_ _ | refine blk_drew ?_ | refine blk_alloc ?_ _)); refine blk_far ?_ NB138_141.out _; (with_reducible repeat (first | refine blk_drewN ?_ _ | refine blk_drew ?_ | refine blk_alloc ?_ _)); exact BK138.out) hb); have n1_ := Aside0.mk (blk_below (g := gb141) (o := .cells #[.int .i8 ((rd_T26 l0_1 x15_1).f0), .slice A140_1 ((rd_T26 l0_1 x15_1).f1).length c140_1] 26 (0, 0)) (by (with_reducible repeat (first | refine blk_drewN ?_ _ | refine blk_drew ?_ | refine blk_alloc ?_ _)); refine blk_put (cs := #[.int .i8 ((rd_T26 l0_1 x15_1).f0), .slice none 0 0]) ?_ 1 _ rfl; (with_reducible repeat (first | refine blk_drewN ?_ _ | refine blk_drew ?_ | refine blk_alloc ?_ _)); refine blk_put (cs := #[.int .i8 0, .slice none 0 0]) ?_ 0 _ rfl; (with_reducible repeat (first | refine blk_drewN ?_ _ | refine blk_drew ?_ | refine blk_alloc ?_ _)); exact BK141.out) hb); have n2_ := Aside0.mk (below_step (by repeat (first | (with_reducible first | exact HB.out | apply below_alloc | apply pw_below_drewN | apply below_drew1 | refine below_set ?_ GE138.out | refine below_set ?_ GE141.out) | exact HB.out)) hb); clear BK138; clear BK141; clear HB; have BK138 := n0_; have BK141 := n1_; have HB := n2_; clear n0_ n1_ n2_; (try clear hb); (try clear hb2); (try clear hk); (try clear hi)))
                repeat (go_quiet (first | ((with_reducible refine gate_dst (N := 4) rfl ?_); refine box_event ?hg (N := 4) ?hd (cs := #[.int .i8 0, .slice none 0 0]) (t := 26) ?hr ?_; (case hd => rfl); (case hg => rfl); (case hr => first | (go_simp; done) | (go_simp; rfl)); intro gb141 hg w15 hbox hb; have n0_ := Aside0.mk (blk_below (g := gb138) (o := .cells #[.int .i8 a0_0, .slice (some ad140) l0_1.length c0_1] 26 (0, 0)) (by (with_reducible repeat (first | refine blk_drewN ?_ _ | refine blk_drew ?_ | refine blk_alloc ?_ _)); exact BK138.out) hb); have n1_ := Aside0.mk (below_step (by repeat (first | (with_reducible first | exact HB.out | apply below_alloc | apply pw_below_drewN | apply below_drew1 | refine below_set ?_ GE138.out) | exact HB.out)) hb); have n2_ := Aside0.mk (hbox); have n3_ := Aside0.mk ((by rw [hg]; exact (below_size (by repeat (first | (with_reducible first | exact HB.out | apply below_alloc | apply pw_below_drewN | apply below_drew1 | refine below_set ?_ GE138.out) | exact HB.out))) : w.heap.size ≤ gb141)); have n4_ := Aside0.mk ((by rw [hg]; exact (below_size (by repeat (first | (with_reducible first | exact HB.out | apply below_alloc | apply pw_below_drewN | apply below_drew1 | refine below_set ?_ GE138.out) | exact HB.out))) : w.heap.size ≤ gb141)); have n5_ := Aside0.mk ((by rw [hg]; exact Nat.ne_of_lt (blk_lt (g := gb138) (o := .cells #[.int .i8 a0_0, .slice (some ad140) l0_1.length c0_1] 26 (0, 0)) (by (with_reducible repeat (first | refine blk_drewN ?_ _ | refine blk_drew ?_ | refine blk_alloc ?_ _)); exact BK138.out)) : gb138 ≠ gb141)); have n6_ := Aside0.mk ((by rw [hg]; exact Nat.ne_of_gt (blk_lt (g := gb138) (o := .cells #[.int .i8 a0_0, .slice (some ad140) l0_1.length c0_1] 26 (0, 0)) (by (with_reducible repeat (first | refine blk_drewN ?_ _ | refine blk_drew ?_ | refine blk_alloc ?_ _)); exact BK138.out)) : gb141 ≠ gb138)); clear BK138; clear HB; have BK138 := n0_; have HB := n1_; have BK141 := n2_; have GW141 := n3_; have GE141 := n4_; have NB138_141 := n5_; have NB141_138 := n6_; clear n0_ n1_ n2_ n3_ n4_ n5_ n6_; clear hb hbox hg; have hnb16 := NB141_138.out; have hnc16 := NB138_141.out; have hcz17_0 : w15.cell? ⟨gb141, 0, none⟩ = some (.int .i8 0) := (blk_cell BK141.out 0).trans rfl; have hcz17_1 : w15.cell? ⟨gb141, 1, none⟩ = some (.slice none 0 0) := (blk_cell BK141.out 1).trans rfl; have hfz17_0 := blk_frozen BK141.out 0; have hfz17_1 := blk_frozen BK141.out 1) | (go_at_call 74; (with_reducible refine (ih k1 (by have := HK1.out; omega) ((rd_T26 l0_1 x15_1).f0) _ _ ((rd_T26 l0_1 x15_1).f1) false _ ?side1 ?side2 A9.out).mono ?_); (case side1 => exact Kd.C_below HR140_1.out (by repeat (first | (with_reducible first | exact HB.out | apply below_alloc | apply pw_below_drewN | apply below_drew1 | refine below_set ?_ GE138.out | refine below_set ?_ GE141.out) | exact HB.out))); (case side2 => exact HC140_1.out); rintro e w18 ⟨rfl, hb⟩; have n0_ := Aside0.mk (blk_below (g := gb138) (o := .cells #[.int .i8 a0_0, .slice (some ad140) l0_1.length c0_1] 26 (0, 0)) (by (with_reducible repeat (first | refine blk_drewN ?_ _ | refine blk_drew ?_ | refine blk_alloc ?_ _)); refine blk_far ?_ NB138_141.out _; (with_reducible repeat (first | refine blk_drewN ?_ _ | refine blk_drew ?_ | refine blk_alloc ?_ _)); refine blk_far ?_ NB138_141.out _; (with_reducible repeat (first | refine blk_drewN ?_ _ | refine blk_drew ?_ | refine blk_alloc ?_ _)); exact BK138.out) hb); have n1_ := Aside0.mk (blk_below (g := gb141) (o := .cells #[.int .i8 ((rd_T26 l0_1 x15_1).f0), .slice A140_1 ((rd_T26 l0_1 x15_1).f1).length c140_1] 26 (0, 0)) (by (with_reducible repeat (first | refine blk_drewN ?_ _ | refine blk_drew ?_ | refine blk_alloc ?_ _)); refine blk_put (cs := #[.int .i8 ((rd_T26 l0_1 x15_1).f0), .slice none 0 0]) ?_ 1 _ rfl; (with_reducible repeat (first | refine blk_drewN ?_ _ | refine blk_drew ?_ | refine blk_alloc ?_ _)); refine blk_put (cs := #[.int .i8 0, .slice none 0 0]) ?_ 0 _ rfl; (with_reducible repeat (first | refine blk_drewN ?_ _ | refine blk_drew ?_ | refine blk_alloc ?_ _)); exact BK141.out) hb); have n2_ := Aside0.mk (below_step (by repeat (first | (with_reducible first | exact HB.out | apply below_alloc | apply pw_below_drewN | apply below_drew1 | refine below_set ?_ GE138.out | refine below_set ?_ GE141.out) | exact HB.out)) hb); clear BK138; clear BK141; clear HB; have BK138 := n0_; have BK141 := n1_; have HB := n2_; clear n0_ n1_ n2_; (try clear hb); (try clear hb2); (try clear hk); (try clear hi))); try go_wp2_with (first | ((with_reducible refine gate_dst (N := 4) rfl ?_); refine box_event ?hg (N := 4) ?hd (cs := #[.int .i8 0, .slice none 0 0]) (t := 26) ?hr ?_; (case hd => rfl); (case hg => rfl); (case hr => first | (go_simp; done) | (go_simp; rfl)); intro gb141 hg w15 hbox hb; have n0_ := Aside0.mk (blk_below (g := gb138) (o := .cells #[.int .i8 a0_0, .slice (some ad140) l0_1.length c0_1] 26 (0, 0)) (by (with_reducible repeat (first | refine blk_drewN ?_ _ | refine blk_drew ?_ | refine blk_alloc ?_ _)); exact BK138.out) hb); have n1_ := Aside0.mk (below_step (by repeat (first | (with_reducible first | exact HB.out | apply below_alloc | apply pw_below_drewN | apply below_drew1 | refine below_set ?_ GE138.out) | exact HB.out)) hb); have n2_ := Aside0.mk (hbox); have n3_ := Aside0.mk ((by rw [hg]; exact (below_size (by repeat (first | (with_reducible first | exact HB.out | apply below_alloc | apply pw_below_drewN | apply below_drew1 | refine below_set ?_ GE138.out) | exact HB.out))) : w.heap.size ≤ gb141)); have n4_ := Aside0.mk ((by rw [hg]; exact (below_size (by repeat (first | (with_reducible first | exact HB.out | apply below_alloc | apply pw_below_drewN | apply below_drew1 | refine below_set ?_ GE138.out) | exact HB.out))) : w.heap.size ≤ gb141)); have n5_ := Aside0.mk ((by rw [hg]; exact Nat.ne_of_lt (blk_lt (g := gb138) (o := .cells #[.int .i8 a0_0, .slice (some ad140) l0_1.length c0_1] 26 (0, 0)) (by (with_reducible repeat (first | refine blk_drewN ?_ _ | refine blk_drew ?_ | refine blk_alloc ?_ _)); exact BK138.out)) : gb138 ≠ gb141)); have n6_ := Aside0.mk ((by rw [hg]; exact Nat.ne_of_gt (blk_lt (g := gb138) (o := .cells #[.int .i8 a0_0, .slice (some ad140) l0_1.length c0_1] 26 (0, 0)) (by (with_reducible repeat (first | refine blk_drewN ?_ _ | refine blk_drew ?_ | refine blk_alloc ?_ _)); exact BK138.out)) : gb141 ≠ gb138)); clear BK138; clear HB; have BK138 := n0_; have HB := n1_; have BK141 := n2_; have GW141 := n3_; have GE141 := n4_; have NB138_141 := n5_; have NB141_138 := n6_; clear n0_ n1_ n2_ n3_ n4_ n5_ n6_; clear hb hbox hg; have hnb16 := NB141_138.out; have hnc16 := NB138_141.out; have hcz17_0 : w15.cell? ⟨gb141, 0, none⟩ = some (.int .i8 0) := (blk_cell BK141.out 0).trans rfl; have hcz17_1 : w15.cell? ⟨gb141, 1, none⟩ = some (.slice none 0 0) := (blk_cell BK141.out 1).trans rfl; have hfz17_0 := blk_frozen BK141.out 0; have hfz17_1 := blk_frozen BK141.out 1) | (go_at_call 74; (with_reducible refine (ih k1 (by have := HK1.out; omega) ((rd_T26 l0_1 x15_1).f0) _ _ ((rd_T26 l0_1 x15_1).f1) false _ ?side1 ?side2 A9.out).mono ?_); (case side1 => exact Kd.C_below HR140_1.out (by repeat (first | (with_reducible first | exact HB.out | apply below_alloc | apply pw_below_drewN | apply below_drew1 | refine below_set ?_ GE138.out | refine below_set ?_ GE141.out) | exact HB.out))); (case side2 => exact HC140_1.out); rintro e w18 ⟨rfl, hb⟩; have n0_ := Aside0.mk (blk_below (g := gb138) (o := .cells #[.int .i8 a0_0, .slice (some ad140) l0_1.length c0_1] 26 (0, 0)) (by (with_reducible repeat (first | refine blk_drewN ?_ _ | refine blk_drew ?_ | refine blk_alloc ?_ _)); refine blk_far ?_ NB138_141.out _; (with_reducible repeat (first | refine blk_drewN ?_ _ | refine blk_drew ?_ | refine blk_alloc ?_ _)); refine blk_far ?_ NB138_141.out _; (with_reducible repeat (first | refine blk_drewN ?_ _ | refine blk_drew ?_ | refine blk_alloc ?_ _)); exact BK138.out) hb); have n1_ := Aside0.mk (blk_below (g := gb141) (o := .cells #[.int .i8 ((rd_T26 l0_1 x15_1).f0), .slice A140_1 ((rd_T26 l0_1 x15_1).f1).length c140_1] 26 (0, 0)) (by (with_reducible repeat (first | refine blk_drewN ?_ _ | refine blk_drew ?_ | refine blk_alloc ?_ _)); refine blk_put (cs := #[.int .i8 ((rd_T26 l0_1 x15_1).f0), .slice none 0 0]) ?_ 1 _ rfl; (with_reducible repeat (first | refine blk_drewN ?_ _ | refine blk_drew ?_ | refine blk_alloc ?_ _)); refine blk_put (cs := #[.int .i8 0, .slice none 0 0]) ?_ 0 _ rfl; (with_reducible repeat (first | refine blk_drewN ?_ _ | refine blk_drew ?_ | refine blk_alloc ?_ _)); exact BK141.out) hb); have n2_ := Aside0.mk (below_step (by repeat (first | (with_reducible first | exact HB.out | apply below_alloc | apply pw_below_drewN | apply below_drew1 | refine below_set ?_ GE138.out | refine below_set ?_ GE141.out) | exact HB.out)) hb); clear BK138; clear BK141; clear HB; have BK138 := n0_; have BK141 := n1_; have HB := n2_; clear n0_ n1_ n2_; (try clear hb); (try clear hb2); (try clear hk); (try clear hi))))
                go_ret
                exact ⟨by first | rfl | (simp [errW_none, errW_some] <;> rfl) | (simp [*, errW_none, errW_some] <;> rfl), by repeat (first | (with_reducible first | exact HB.out | apply below_alloc | apply pw_below_drewN | apply below_drew1 | refine below_set ?_ GE138.out | refine below_set ?_ GE141.out) | exact HB.out)⟩
            · rw [if_neg c8] at H
              exact absurd H (by simp)
          · rw [if_neg c7] at H
            exact absurd H (by simp)
        · rw [if_neg c6] at H
          have c6b0 : decide (x15_1 < (l0_1.length : Int)) = false := decide_eq_false c6
          clear c6
          obtain rfl := Option.some.inj H
          go_wp2
          repeat (go_quiet (fail); try go_wp2)
          go_ret
          exact ⟨by first | rfl | (simp [errW_none, errW_some] <;> rfl) | (simp [*, errW_none, errW_some] <;> rfl), by repeat (first | (with_reducible first | exact HB.out | apply below_alloc | apply pw_below_drewN | apply below_drew1 | refine below_set ?_ GE138.out) | exact HB.out)⟩
  · rw [if_neg c3] at H
    have c3b0 : (t139 == (l0_1.length : Int)) = false := beq_eq_false_iff_ne.mpr c3
    have c3b1 : (t139 != (l0_1.length : Int)) = true := bne_iff_ne.mpr c3
    obtain rfl := Option.some.inj H
    go_enter Try.func74, Try.ntmps74
    go_wp2_with (first | ((with_reducible refine gate_dst (N := 1) rfl ?_); refine box_event ?hg (N := 1) ?hd (cs := #[.int .i8 a0_0, .slice A0_1 l0_1.length c0_1]) (t := 26) ?hr ?_; (case hd => rfl); (case hg => rfl); (case hr => first | (go_simp; done) | (go_simp; rfl)); intro gb138 hg w19 hbox hb; have n0_ := Aside0.mk (below_step (by repeat (first | (with_reducible first | exact HB.out | apply below_alloc | apply pw_below_drewN | apply below_drew1) | exact HB.out)) hb); have n1_ := Aside0.mk (hbox); have n2_ := Aside0.mk ((by rw [hg]; exact (below_size (by repeat (first | (with_reducible first | exact HB.out | apply below_alloc | apply pw_below_drewN | apply below_drew1) | exact HB.out))) : w.heap.size ≤ gb138)); have n3_ := Aside0.mk ((by rw [hg]; exact (below_size (by repeat (first | (with_reducible first | exact HB.out | apply below_alloc | apply pw_below_drewN | apply below_drew1) | exact HB.out))) : w.heap.size ≤ gb138)); clear HB; have HB := n0_; have BK138 := n1_; have GW138 := n2_; have GE138 := n3_; clear n0_ n1_ n2_ n3_; clear hb hbox hg; have hcz20_0 : w19.cell? ⟨gb138, 0, none⟩ = some (.int .i8 a0_0) := (blk_cell BK138.out 0).trans rfl; have hcz20_1 : w19.cell? ⟨gb138, 1, none⟩ = some (.slice A0_1 l0_1.length c0_1) := (blk_cell BK138.out 1).trans rfl; have hfz20_0 := blk_frozen BK138.out 0; have hfz20_1 := blk_frozen BK138.out 1) | (go_at_call 76; (with_reducible refine (types_parts.calls k a0_0 t139 _ A2.out).mono ?_); rintro e w' ⟨rfl, ⟨nd, rfl⟩⟩; (try first | exact ⟨rfl, _, World.drewN_drewN _ _ _⟩ | exact ⟨rfl, _, Eq.trans (World.drewN_drewN _ _ _) (congrArg (World.drewN _) (Nat.add_assoc _ _ _))⟩)))
    repeat (go_quiet (first | ((with_reducible refine gate_dst (N := 1) rfl ?_); refine box_event ?hg (N := 1) ?hd (cs := #[.int .i8 a0_0, .slice A0_1 l0_1.length c0_1]) (t := 26) ?hr ?_; (case hd => rfl); (case hg => rfl); (case hr => first | (go_simp; done) | (go_simp; rfl)); intro gb138 hg w19 hbox hb; have n0_ := Aside0.mk (below_step (by repeat (first | (with_reducible first | exact HB.out | apply below_alloc | apply pw_below_drewN | apply below_drew1) | exact HB.out)) hb); have n1_ := Aside0.mk (hbox); have n2_ := Aside0.mk ((by rw [hg]; exact (below_size (by repeat (first | (with_reducible first | exact HB.out | apply below_alloc | apply pw_below_drewN | apply below_drew1) | exact HB.out))) : w.heap.size ≤ gb138)); have n3_ := Aside0.mk ((by rw [hg]; exact (below_size (by repeat (first | (with_reducible first | exact HB.out | apply below_alloc | apply pw_below_drewN | apply below_drew1) | exact HB.out))) : w.heap.size ≤ gb138)); clear HB; have HB := n0_; have BK138 := n1_; have GW138 := n2_; have GE138 := n3_; clear n0_ n1_ n2_ n3_; clear hb hbox hg; have hcz20_0 : w19.cell? ⟨gb138, 0, none⟩ = some (.int .i8 a0_0) := (blk_cell BK138.out 0).trans rfl; have hcz20_1 : w19.cell? ⟨gb138, 1, none⟩ = some (.slice A0_1 l0_1.length c0_1) := (blk_cell BK138.out 1).trans rfl; have hfz20_0 := blk_frozen BK138.out 0; have hfz20_1 := blk_frozen BK138.out 1) | (go_at_call 76; (with_reducible refine (types_parts.calls k a0_0 t139 _ A2.out).mono ?_); rintro e w' ⟨rfl, ⟨nd, rfl⟩⟩; (try first | exact ⟨rfl, _, World.drewN_drewN _ _ _⟩ | exact ⟨rfl, _, Eq.trans (World.drewN_drewN _ _ _) (congrArg (World.drewN _) (Nat.add_assoc _ _ _))⟩))); try go_wp2_with (first | ((with_reducible refine gate_dst (N := 1) rfl ?_); refine box_event ?hg (N := 1) ?hd (cs := #[.int .i8 a0_0, .slice A0_1 l0_1.length c0_1]) (t := 26) ?hr ?_; (case hd => rfl); (case hg => rfl); (case hr => first | (go_simp; done) | (go_simp; rfl)); intro gb138 hg w19 hbox hb; have n0_ := Aside0.mk (below_step (by repeat (first | (with_reducible first | exact HB.out | apply below_alloc | apply pw_below_drewN | apply below_drew1) | exact HB.out)) hb); have n1_ := Aside0.mk (hbox); have n2_ := Aside0.mk ((by rw [hg]; exact (below_size (by repeat (first | (with_reducible first | exact HB.out | apply below_alloc | apply pw_below_drewN | apply below_drew1) | exact HB.out))) : w.heap.size ≤ gb138)); have n3_ := Aside0.mk ((by rw [hg]; exact (below_size (by repeat (first | (with_reducible first | exact HB.out | apply below_alloc | apply pw_below_drewN | apply below_drew1) | exact HB.out))) : w.heap.size ≤ gb138)); clear HB; have HB := n0_; have BK138 := n1_; have GW138 := n2_; have GE138 := n3_; clear n0_ n1_ n2_ n3_; clear hb hbox hg; have hcz20_0 : w19.cell? ⟨gb138, 0, none⟩ = some (.int .i8 a0_0) := (blk_cell BK138.out 0).trans rfl; have hcz20_1 : w19.cell? ⟨gb138, 1, none⟩ = some (.slice A0_1 l0_1.length c0_1) := (blk_cell BK138.out 1).trans rfl; have hfz20_0 := blk_frozen BK138.out 0; have hfz20_1 := blk_frozen BK138.out 1) | (go_at_call 76; (with_reducible refine (types_parts.calls k a0_0 t139 _ A2.out).mono ?_); rintro e w' ⟨rfl, ⟨nd, rfl⟩⟩; (try first | exact ⟨rfl, _, World.drewN_drewN _ _ _⟩ | exact ⟨rfl, _, Eq.trans (World.drewN_drewN _ _ _) (congrArg (World.drewN _) (Nat.add_assoc _ _ _))⟩))))
    go_ret
    exact ⟨by first | rfl | (simp [errW_none, errW_some] <;> rfl) | (simp [*, errW_none, errW_some] <;> rfl), by repeat (first | (with_reducible first | exact HB.out | apply below_alloc | apply pw_below_drewN | apply below_drew1 | refine below_set ?_ GE138.out) | exact HB.out)⟩

/-! ### types_Check: function 38 -/
def types_Check.f (k : Nat) (a0_0 : Int) (l0_1 : List (S26)) : Option (Int) := (types_Nodes.f a0_0 l0_1).bind fun t144 => (if t144 > 8192 then (some 32) else ((types_Depth.f k a0_0 l0_1).bind fun t145 => (if t145 > 200 then (some 31) else ((types_right.f k a0_0 l0_1).bind fun t146 => (if t146 = true then (some 0) else (some 20))))))
theorem types_Check.mono : ∀ a0 a1 k, LeO (types_Check.f k a0 a1) (types_Check.f (k + 1) a0 a1) := by
  intro a0 a1 k
  unfold types_Check.f
  repeat' first
      | (with_reducible exact types_Depth.mono _ _ _)
      | (with_reducible exact types_right.mono _ _ _)
      | (with_reducible exact LeO.refl _)
      | (with_reducible exact LeO.none _)
      | (with_reducible refine LeO.ite ?_ ?_)
      | (with_reducible refine LeO.bind ?_ (fun _ => ?_))
      | exact types_Depth.mono _ _ _
      | exact types_right.mono _ _ _
      | exact LeO.none _
      | refine LeO.ite ?_ ?_
      | refine LeO.bind ?_ (fun _ => ?_)
set_option maxHeartbeats 8000000 in
set_option maxRecDepth 100000 in
theorem types_Check.calls (k : Nat) (a0_0 : Int) (A0_1 : Option Addr) (c0_1 : Nat) (l0_1 : List (S26)) (r : Int) (w : World) (hr0_1 : Kd.C k26 w A0_1 l0_1.length l0_1) (hc0_1 : l0_1.length ≤ c0_1) (h : types_Check.f k a0_0 l0_1 = some r) :
    Calls Try.prog 38 #[.agg #[.int .i8 a0_0, .slice A0_1 l0_1.length c0_1]] w fun e w' => e = .returned (.int .i64 r) ∧ Below w.heap.size w w' := by
  have hu26 := Try.underlying26
  have HR0_1 := Aside0.mk hr0_1
  have HC0_1 := Aside0.mk hc0_1
  clear hr0_1 hc0_1
  have HB := Aside0.mk (Below.refl w.heap.size w)
  have H : ((types_Nodes.f a0_0 l0_1).bind fun t144 => (if t144 > 8192 then (some 32) else ((types_Depth.f k a0_0 l0_1).bind fun t145 => (if t145 > 200 then (some 31) else ((types_right.f k a0_0 l0_1).bind fun t146 => (if t146 = true then (some 0) else (some 20))))))) = some r := h
  clear h
  replace H := Option.bind_eq_some_iff.mp H
  obtain ⟨t144, A20, H⟩ := H
  replace H : (if t144 > 8192 then (some 32) else ((types_Depth.f k a0_0 l0_1).bind fun t145 => (if t145 > 200 then (some 31) else ((types_right.f k a0_0 l0_1).bind fun t146 => (if t146 = true then (some 0) else (some 20)))))) = some r := H
  have A2 := Aside0.mk A20
  clear A20
  by_cases c3 : t144 > 8192
  · rw [if_pos c3] at H
    have c3b0 : decide (8192 < t144) = true := decide_eq_true c3
    clear c3
    obtain rfl := Option.some.inj H
    go_enter Try.func38, Try.ntmps38
    go_wp2_with (first | ((with_reducible refine gate_dst (N := 1) rfl ?_); refine box_event ?hg (N := 1) ?hd (cs := #[.int .i8 a0_0, .slice A0_1 l0_1.length c0_1]) (t := 26) ?hr ?_; (case hd => rfl); (case hg => rfl); (case hr => first | (go_simp; done) | (go_simp; rfl)); intro gb143 hg w4 hbox hb; have n0_ := Aside0.mk (below_step (by repeat (first | (with_reducible first | exact HB.out | apply below_alloc | apply pw_below_drewN | apply below_drew1) | exact HB.out)) hb); have n1_ := Aside0.mk (hbox); have n2_ := Aside0.mk ((by rw [hg]; exact (below_size (by repeat (first | (with_reducible first | exact HB.out | apply below_alloc | apply pw_below_drewN | apply below_drew1) | exact HB.out))) : w.heap.size ≤ gb143)); have n3_ := Aside0.mk ((by rw [hg]; exact (below_size (by repeat (first | (with_reducible first | exact HB.out | apply below_alloc | apply pw_below_drewN | apply below_drew1) | exact HB.out))) : w.heap.size ≤ gb143)); clear HB; have HB := n0_; have BK143 := n1_; have GW143 := n2_; have GE143 := n3_; clear n0_ n1_ n2_ n3_; clear hb hbox hg; have hcz5_0 : w4.cell? ⟨gb143, 0, none⟩ = some (.int .i8 a0_0) := (blk_cell BK143.out 0).trans rfl; have hcz5_1 : w4.cell? ⟨gb143, 1, none⟩ = some (.slice A0_1 l0_1.length c0_1) := (blk_cell BK143.out 1).trans rfl; have hfz5_0 := blk_frozen BK143.out 0; have hfz5_1 := blk_frozen BK143.out 1) | ((with_reducible refine gate_callee (f := 46) rfl ?_); refine goesL_ (some 5) rfl rfl Try.func46 (by kernel_rfl) rfl #[.agg #[.int .i8 a0_0, .slice A0_1 l0_1.length c0_1]] rfl (by (try simp only [List.map_toArray, List.map_cons, List.map_nil]); first | done | rfl | (simp only [List.length_drop, List.length_take]; rfl)) ?_; (with_reducible refine (types_Nodes.calls a0_0 _ _ l0_1 t144 _ ?side1 ?side2 A2.out).mono ?_); (case side1 => repeat (first | exact (Kd.C_below HR0_1.out HB.out) | (with_reducible refine Kd.C_alloc ?_ _) | (with_reducible refine Kd.C_drewN ?_ _) | (with_reducible refine Kd.C_drew ?_))); (case side2 => exact HC0_1.out); rintro e w6 ⟨rfl, hb⟩; refine ⟨_, rfl, ?_⟩; have n0_ := Aside0.mk (blk_below (g := gb143) (o := .cells #[.int .i8 a0_0, .slice A0_1 l0_1.length c0_1] 26 (0, 0)) (by (with_reducible repeat (first | refine blk_drewN ?_ _ | refine blk_drew ?_ | refine blk_alloc ?_ _)); exact BK143.out) hb); have n1_ := Aside0.mk (below_step (by repeat (first | (with_reducible first | exact HB.out | apply below_alloc | apply pw_below_drewN | apply below_drew1 | refine below_set ?_ GE143.out) | exact HB.out)) hb); clear BK143; clear HB; have BK143 := n0_; have HB := n1_; clear n0_ n1_; (try clear hb); (try clear hb2); (try clear hk); (try clear hi)))
    go_ret
    exact ⟨by first | rfl | (simp [errW_none, errW_some] <;> rfl) | (simp [*, errW_none, errW_some] <;> rfl), by repeat (first | (with_reducible first | exact HB.out | apply below_alloc | apply pw_below_drewN | apply below_drew1 | refine below_set ?_ GE143.out) | exact HB.out)⟩
  · rw [if_neg c3] at H
    have c3b0 : decide (8192 < t144) = false := decide_eq_false c3
    clear c3
    replace H := Option.bind_eq_some_iff.mp H
    obtain ⟨t145, A70, H⟩ := H
    replace H : (if t145 > 200 then (some 31) else ((types_right.f k a0_0 l0_1).bind fun t146 => (if t146 = true then (some 0) else (some 20)))) = some r := H
    have A7 := Aside0.mk A70
    clear A70
    by_cases c8 : t145 > 200
    · rw [if_pos c8] at H
      have c8b0 : decide (200 < t145) = true := decide_eq_true c8
      clear c8
      obtain rfl := Option.some.inj H
      go_enter Try.func38, Try.ntmps38
      go_wp2_with (first | ((with_reducible refine gate_dst (N := 1) rfl ?_); refine box_event ?hg (N := 1) ?hd (cs := #[.int .i8 a0_0, .slice A0_1 l0_1.length c0_1]) (t := 26) ?hr ?_; (case hd => rfl); (case hg => rfl); (case hr => first | (go_simp; done) | (go_simp; rfl)); intro gb143 hg w9 hbox hb; have n0_ := Aside0.mk (below_step (by repeat (first | (with_reducible first | exact HB.out | apply below_alloc | apply pw_below_drewN | apply below_drew1) | exact HB.out)) hb); have n1_ := Aside0.mk (hbox); have n2_ := Aside0.mk ((by rw [hg]; exact (below_size (by repeat (first | (with_reducible first | exact HB.out | apply below_alloc | apply pw_below_drewN | apply below_drew1) | exact HB.out))) : w.heap.size ≤ gb143)); have n3_ := Aside0.mk ((by rw [hg]; exact (below_size (by repeat (first | (with_reducible first | exact HB.out | apply below_alloc | apply pw_below_drewN | apply below_drew1) | exact HB.out))) : w.heap.size ≤ gb143)); clear HB; have HB := n0_; have BK143 := n1_; have GW143 := n2_; have GE143 := n3_; clear n0_ n1_ n2_ n3_; clear hb hbox hg; have hcz10_0 : w9.cell? ⟨gb143, 0, none⟩ = some (.int .i8 a0_0) := (blk_cell BK143.out 0).trans rfl; have hcz10_1 : w9.cell? ⟨gb143, 1, none⟩ = some (.slice A0_1 l0_1.length c0_1) := (blk_cell BK143.out 1).trans rfl; have hfz10_0 := blk_frozen BK143.out 0; have hfz10_1 := blk_frozen BK143.out 1) | ((with_reducible refine gate_callee (f := 46) rfl ?_); refine goesL_ (some 5) rfl rfl Try.func46 (by kernel_rfl) rfl #[.agg #[.int .i8 a0_0, .slice A0_1 l0_1.length c0_1]] rfl (by (try simp only [List.map_toArray, List.map_cons, List.map_nil]); first | done | rfl | (simp only [List.length_drop, List.length_take]; rfl)) ?_; (with_reducible refine (types_Nodes.calls a0_0 _ _ l0_1 t144 _ ?side1 ?side2 A2.out).mono ?_); (case side1 => repeat (first | exact (Kd.C_below HR0_1.out HB.out) | (with_reducible refine Kd.C_alloc ?_ _) | (with_reducible refine Kd.C_drewN ?_ _) | (with_reducible refine Kd.C_drew ?_))); (case side2 => exact HC0_1.out); rintro e w11 ⟨rfl, hb⟩; refine ⟨_, rfl, ?_⟩; have n0_ := Aside0.mk (blk_below (g := gb143) (o := .cells #[.int .i8 a0_0, .slice A0_1 l0_1.length c0_1] 26 (0, 0)) (by (with_reducible repeat (first | refine blk_drewN ?_ _ | refine blk_drew ?_ | refine blk_alloc ?_ _)); exact BK143.out) hb); have n1_ := Aside0.mk (below_step (by repeat (first | (with_reducible first | exact HB.out | apply below_alloc | apply pw_below_drewN | apply below_drew1 | refine below_set ?_ GE143.out) | exact HB.out)) hb); clear BK143; clear HB; have BK143 := n0_; have HB := n1_; clear n0_ n1_; (try clear hb); (try clear hb2); (try clear hk); (try clear hi); have hcz12_0 : w11.cell? ⟨gb143, 0, none⟩ = some (.int .i8 a0_0) := (blk_cell BK143.out 0).trans rfl; have hcz12_1 : w11.cell? ⟨gb143, 1, none⟩ = some (.slice A0_1 l0_1.length c0_1) := (blk_cell BK143.out 1).trans rfl; have hfz12_0 := blk_frozen BK143.out 0; have hfz12_1 := blk_frozen BK143.out 1) | ((with_reducible refine gate_callee (f := 48) rfl ?_); refine goesL_ (some 9) rfl rfl Try.func48 (by kernel_rfl) rfl #[.agg #[.int .i8 a0_0, .slice A0_1 l0_1.length c0_1]] rfl (by (try simp only [List.map_toArray, List.map_cons, List.map_nil]); first | done | rfl | (simp only [List.length_drop, List.length_take]; rfl)) ?_; (with_reducible refine (types_Depth.calls k a0_0 _ _ l0_1 t145 _ ?side1 ?side2 A7.out).mono ?_); (case side1 => repeat (first | exact (Kd.C_below HR0_1.out HB.out) | (with_reducible refine Kd.C_alloc ?_ _) | (with_reducible refine Kd.C_drewN ?_ _) | (with_reducible refine Kd.C_drew ?_))); (case side2 => exact HC0_1.out); rintro e w13 ⟨rfl, hb⟩; refine ⟨_, rfl, ?_⟩; have n0_ := Aside0.mk (blk_below (g := gb143) (o := .cells #[.int .i8 a0_0, .slice A0_1 l0_1.length c0_1] 26 (0, 0)) (by (with_reducible repeat (first | refine blk_drewN ?_ _ | refine blk_drew ?_ | refine blk_alloc ?_ _)); exact BK143.out) hb); have n1_ := Aside0.mk (below_step (by repeat (first | (with_reducible first | exact HB.out | apply below_alloc | apply pw_below_drewN | apply below_drew1 | refine below_set ?_ GE143.out) | exact HB.out)) hb); clear BK143; clear HB; have BK143 := n0_; have HB := n1_; clear n0_ n1_; (try clear hb); (try clear hb2); (try clear hk); (try clear hi)))
      go_ret
      exact ⟨by first | rfl | (simp [errW_none, errW_some] <;> rfl) | (simp [*, errW_none, errW_some] <;> rfl), by repeat (first | (with_reducible first | exact HB.out | apply below_alloc | apply pw_below_drewN | apply below_drew1 | refine below_set ?_ GE143.out) | exact HB.out)⟩
    · rw [if_neg c8] at H
      have c8b0 : decide (200 < t145) = false := decide_eq_false c8
      clear c8
      replace H := Option.bind_eq_some_iff.mp H
      obtain ⟨t146, A140, H⟩ := H
      replace H : (if t146 = true then (some 0) else (some 20)) = some r := H
      have A14 := Aside0.mk A140
      clear A140
      by_cases c15 : t146 = true
      · subst c15
        have H1 : (some 0) = some r := by rw [if_pos rfl] at H; exact H
        clear H
        have H := H1
        clear H1
        obtain rfl := Option.some.inj H
        go_enter Try.func38, Try.ntmps38
        go_wp2_with (first | ((with_reducible refine gate_dst (N := 1) rfl ?_); refine box_event ?hg (N := 1) ?hd (cs := #[.int .i8 a0_0, .slice A0_1 l0_1.length c0_1]) (t := 26) ?hr ?_; (case hd => rfl); (case hg => rfl); (case hr => first | (go_simp; done) | (go_simp; rfl)); intro gb143 hg w16 hbox hb; have n0_ := Aside0.mk (below_step (by repeat (first | (with_reducible first | exact HB.out | apply below_alloc | apply pw_below_drewN | apply below_drew1) | exact HB.out)) hb); have n1_ := Aside0.mk (hbox); have n2_ := Aside0.mk ((by rw [hg]; exact (below_size (by repeat (first | (with_reducible first | exact HB.out | apply below_alloc | apply pw_below_drewN | apply below_drew1) | exact HB.out))) : w.heap.size ≤ gb143)); have n3_ := Aside0.mk ((by rw [hg]; exact (below_size (by repeat (first | (with_reducible first | exact HB.out | apply below_alloc | apply pw_below_drewN | apply below_drew1) | exact HB.out))) : w.heap.size ≤ gb143)); clear HB; have HB := n0_; have BK143 := n1_; have GW143 := n2_; have GE143 := n3_; clear n0_ n1_ n2_ n3_; clear hb hbox hg; have hcz17_0 : w16.cell? ⟨gb143, 0, none⟩ = some (.int .i8 a0_0) := (blk_cell BK143.out 0).trans rfl; have hcz17_1 : w16.cell? ⟨gb143, 1, none⟩ = some (.slice A0_1 l0_1.length c0_1) := (blk_cell BK143.out 1).trans rfl; have hfz17_0 := blk_frozen BK143.out 0; have hfz17_1 := blk_frozen BK143.out 1) | ((with_reducible refine gate_callee (f := 46) rfl ?_); refine goesL_ (some 5) rfl rfl Try.func46 (by kernel_rfl) rfl #[.agg #[.int .i8 a0_0, .slice A0_1 l0_1.length c0_1]] rfl (by (try simp only [List.map_toArray, List.map_cons, List.map_nil]); first | done | rfl | (simp only [List.length_drop, List.length_take]; rfl)) ?_; (with_reducible refine (types_Nodes.calls a0_0 _ _ l0_1 t144 _ ?side1 ?side2 A2.out).mono ?_); (case side1 => repeat (first | exact (Kd.C_below HR0_1.out HB.out) | (with_reducible refine Kd.C_alloc ?_ _) | (with_reducible refine Kd.C_drewN ?_ _) | (with_reducible refine Kd.C_drew ?_))); (case side2 => exact HC0_1.out); rintro e w18 ⟨rfl, hb⟩; refine ⟨_, rfl, ?_⟩; have n0_ := Aside0.mk (blk_below (g := gb143) (o := .cells #[.int .i8 a0_0, .slice A0_1 l0_1.length c0_1] 26 (0, 0)) (by (with_reducible repeat (first | refine blk_drewN ?_ _ | refine blk_drew ?_ | refine blk_alloc ?_ _)); exact BK143.out) hb); have n1_ := Aside0.mk (below_step (by repeat (first | (with_reducible first | exact HB.out | apply below_alloc | apply pw_below_drewN | apply below_drew1 | refine below_set ?_ GE143.out) | exact HB.out)) hb); clear BK143; clear HB; have BK143 := n0_; have HB := n1_; clear n0_ n1_; (try clear hb); (try clear hb2); (try clear hk); (try clear hi); have hcz19_0 : w18.cell? ⟨gb143, 0, none⟩ = some (.int .i8 a0_0) := (blk_cell BK143.out 0).trans rfl; have hcz19_1 : w18.cell? ⟨gb143, 1, none⟩ = some (.slice A0_1 l0_1.length c0_1) := (blk_cell BK143.out 1).trans rfl; have hfz19_0 := blk_frozen BK143.out 0; have hfz19_1 := blk_frozen BK143.out 1) | ((with_reducible refine gate_callee (f := 48) rfl ?_); refine goesL_ (some 9) rfl rfl Try.func48 (by kernel_rfl) rfl #[.agg #[.int .i8 a0_0, .slice A0_1 l0_1.length c0_1]] rfl (by (try simp only [List.map_toArray, List.map_cons, List.map_nil]); first | done | rfl | (simp only [List.length_drop, List.length_take]; rfl)) ?_; (with_reducible refine (types_Depth.calls k a0_0 _ _ l0_1 t145 _ ?side1 ?side2 A7.out).mono ?_); (case side1 => repeat (first | exact (Kd.C_below HR0_1.out HB.out) | (with_reducible refine Kd.C_alloc ?_ _) | (with_reducible refine Kd.C_drewN ?_ _) | (with_reducible refine Kd.C_drew ?_))); (case side2 => exact HC0_1.out); rintro e w20 ⟨rfl, hb⟩; refine ⟨_, rfl, ?_⟩; have n0_ := Aside0.mk (blk_below (g := gb143) (o := .cells #[.int .i8 a0_0, .slice A0_1 l0_1.length c0_1] 26 (0, 0)) (by (with_reducible repeat (first | refine blk_drewN ?_ _ | refine blk_drew ?_ | refine blk_alloc ?_ _)); exact BK143.out) hb); have n1_ := Aside0.mk (below_step (by repeat (first | (with_reducible first | exact HB.out | apply below_alloc | apply pw_below_drewN | apply below_drew1 | refine below_set ?_ GE143.out) | exact HB.out)) hb); clear BK143; clear HB; have BK143 := n0_; have HB := n1_; clear n0_ n1_; (try clear hb); (try clear hb2); (try clear hk); (try clear hi); have hcz21_0 : w20.cell? ⟨gb143, 0, none⟩ = some (.int .i8 a0_0) := (blk_cell BK143.out 0).trans rfl; have hcz21_1 : w20.cell? ⟨gb143, 1, none⟩ = some (.slice A0_1 l0_1.length c0_1) := (blk_cell BK143.out 1).trans rfl; have hfz21_0 := blk_frozen BK143.out 0; have hfz21_1 := blk_frozen BK143.out 1) | ((with_reducible refine gate_callee (f := 74) rfl ?_); refine goesL_ (some 13) rfl rfl Try.func74 (by kernel_rfl) rfl #[.agg #[.int .i8 a0_0, .slice A0_1 l0_1.length c0_1]] rfl (by (try simp only [List.map_toArray, List.map_cons, List.map_nil]); first | done | rfl | (simp only [List.length_drop, List.length_take]; rfl)) ?_; (with_reducible refine (types_right.calls k a0_0 _ _ l0_1 true _ ?side1 ?side2 A14.out).mono ?_); (case side1 => repeat (first | exact (Kd.C_below HR0_1.out HB.out) | (with_reducible refine Kd.C_alloc ?_ _) | (with_reducible refine Kd.C_drewN ?_ _) | (with_reducible refine Kd.C_drew ?_))); (case side2 => exact HC0_1.out); rintro e w22 ⟨rfl, hb⟩; refine ⟨_, rfl, ?_⟩; have n0_ := Aside0.mk (blk_below (g := gb143) (o := .cells #[.int .i8 a0_0, .slice A0_1 l0_1.length c0_1] 26 (0, 0)) (by (with_reducible repeat (first | refine blk_drewN ?_ _ | refine blk_drew ?_ | refine blk_alloc ?_ _)); exact BK143.out) hb); have n1_ := Aside0.mk (below_step (by repeat (first | (with_reducible first | exact HB.out | apply below_alloc | apply pw_below_drewN | apply below_drew1 | refine below_set ?_ GE143.out) | exact HB.out)) hb); clear BK143; clear HB; have BK143 := n0_; have HB := n1_; clear n0_ n1_; (try clear hb); (try clear hb2); (try clear hk); (try clear hi)))
        go_ret
        exact ⟨by first | rfl | (simp [errW_none, errW_some] <;> rfl) | (simp [*, errW_none, errW_some] <;> rfl), by repeat (first | (with_reducible first | exact HB.out | apply below_alloc | apply pw_below_drewN | apply below_drew1 | refine below_set ?_ GE143.out) | exact HB.out)⟩
      · replace c15 := Bool.eq_false_iff.mpr c15
        subst c15
        have H1 : (some 20) = some r := by rw [if_neg (show ¬ (false = true) by decide)] at H; exact H
        clear H
        have H := H1
        clear H1
        obtain rfl := Option.some.inj H
        go_enter Try.func38, Try.ntmps38
        go_wp2_with (first | ((with_reducible refine gate_dst (N := 1) rfl ?_); refine box_event ?hg (N := 1) ?hd (cs := #[.int .i8 a0_0, .slice A0_1 l0_1.length c0_1]) (t := 26) ?hr ?_; (case hd => rfl); (case hg => rfl); (case hr => first | (go_simp; done) | (go_simp; rfl)); intro gb143 hg w23 hbox hb; have n0_ := Aside0.mk (below_step (by repeat (first | (with_reducible first | exact HB.out | apply below_alloc | apply pw_below_drewN | apply below_drew1) | exact HB.out)) hb); have n1_ := Aside0.mk (hbox); have n2_ := Aside0.mk ((by rw [hg]; exact (below_size (by repeat (first | (with_reducible first | exact HB.out | apply below_alloc | apply pw_below_drewN | apply below_drew1) | exact HB.out))) : w.heap.size ≤ gb143)); have n3_ := Aside0.mk ((by rw [hg]; exact (below_size (by repeat (first | (with_reducible first | exact HB.out | apply below_alloc | apply pw_below_drewN | apply below_drew1) | exact HB.out))) : w.heap.size ≤ gb143)); clear HB; have HB := n0_; have BK143 := n1_; have GW143 := n2_; have GE143 := n3_; clear n0_ n1_ n2_ n3_; clear hb hbox hg; have hcz24_0 : w23.cell? ⟨gb143, 0, none⟩ = some (.int .i8 a0_0) := (blk_cell BK143.out 0).trans rfl; have hcz24_1 : w23.cell? ⟨gb143, 1, none⟩ = some (.slice A0_1 l0_1.length c0_1) := (blk_cell BK143.out 1).trans rfl; have hfz24_0 := blk_frozen BK143.out 0; have hfz24_1 := blk_frozen BK143.out 1) | ((with_reducible refine gate_callee (f := 46) rfl ?_); refine goesL_ (some 5) rfl rfl Try.func46 (by kernel_rfl) rfl #[.agg #[.int .i8 a0_0, .slice A0_1 l0_1.length c0_1]] rfl (by (try simp only [List.map_toArray, List.map_cons, List.map_nil]); first | done | rfl | (simp only [List.length_drop, List.length_take]; rfl)) ?_; (with_reducible refine (types_Nodes.calls a0_0 _ _ l0_1 t144 _ ?side1 ?side2 A2.out).mono ?_); (case side1 => repeat (first | exact (Kd.C_below HR0_1.out HB.out) | (with_reducible refine Kd.C_alloc ?_ _) | (with_reducible refine Kd.C_drewN ?_ _) | (with_reducible refine Kd.C_drew ?_))); (case side2 => exact HC0_1.out); rintro e w25 ⟨rfl, hb⟩; refine ⟨_, rfl, ?_⟩; have n0_ := Aside0.mk (blk_below (g := gb143) (o := .cells #[.int .i8 a0_0, .slice A0_1 l0_1.length c0_1] 26 (0, 0)) (by (with_reducible repeat (first | refine blk_drewN ?_ _ | refine blk_drew ?_ | refine blk_alloc ?_ _)); exact BK143.out) hb); have n1_ := Aside0.mk (below_step (by repeat (first | (with_reducible first | exact HB.out | apply below_alloc | apply pw_below_drewN | apply below_drew1 | refine below_set ?_ GE143.out) | exact HB.out)) hb); clear BK143; clear HB; have BK143 := n0_; have HB := n1_; clear n0_ n1_; (try clear hb); (try clear hb2); (try clear hk); (try clear hi); have hcz26_0 : w25.cell? ⟨gb143, 0, none⟩ = some (.int .i8 a0_0) := (blk_cell BK143.out 0).trans rfl; have hcz26_1 : w25.cell? ⟨gb143, 1, none⟩ = some (.slice A0_1 l0_1.length c0_1) := (blk_cell BK143.out 1).trans rfl; have hfz26_0 := blk_frozen BK143.out 0; have hfz26_1 := blk_frozen BK143.out 1) | ((with_reducible refine gate_callee (f := 48) rfl ?_); refine goesL_ (some 9) rfl rfl Try.func48 (by kernel_rfl) rfl #[.agg #[.int .i8 a0_0, .slice A0_1 l0_1.length c0_1]] rfl (by (try simp only [List.map_toArray, List.map_cons, List.map_nil]); first | done | rfl | (simp only [List.length_drop, List.length_take]; rfl)) ?_; (with_reducible refine (types_Depth.calls k a0_0 _ _ l0_1 t145 _ ?side1 ?side2 A7.out).mono ?_); (case side1 => repeat (first | exact (Kd.C_below HR0_1.out HB.out) | (with_reducible refine Kd.C_alloc ?_ _) | (with_reducible refine Kd.C_drewN ?_ _) | (with_reducible refine Kd.C_drew ?_))); (case side2 => exact HC0_1.out); rintro e w27 ⟨rfl, hb⟩; refine ⟨_, rfl, ?_⟩; have n0_ := Aside0.mk (blk_below (g := gb143) (o := .cells #[.int .i8 a0_0, .slice A0_1 l0_1.length c0_1] 26 (0, 0)) (by (with_reducible repeat (first | refine blk_drewN ?_ _ | refine blk_drew ?_ | refine blk_alloc ?_ _)); exact BK143.out) hb); have n1_ := Aside0.mk (below_step (by repeat (first | (with_reducible first | exact HB.out | apply below_alloc | apply pw_below_drewN | apply below_drew1 | refine below_set ?_ GE143.out) | exact HB.out)) hb); clear BK143; clear HB; have BK143 := n0_; have HB := n1_; clear n0_ n1_; (try clear hb); (try clear hb2); (try clear hk); (try clear hi); have hcz28_0 : w27.cell? ⟨gb143, 0, none⟩ = some (.int .i8 a0_0) := (blk_cell BK143.out 0).trans rfl; have hcz28_1 : w27.cell? ⟨gb143, 1, none⟩ = some (.slice A0_1 l0_1.length c0_1) := (blk_cell BK143.out 1).trans rfl; have hfz28_0 := blk_frozen BK143.out 0; have hfz28_1 := blk_frozen BK143.out 1) | ((with_reducible refine gate_callee (f := 74) rfl ?_); refine goesL_ (some 13) rfl rfl Try.func74 (by kernel_rfl) rfl #[.agg #[.int .i8 a0_0, .slice A0_1 l0_1.length c0_1]] rfl (by (try simp only [List.map_toArray, List.map_cons, List.map_nil]); first | done | rfl | (simp only [List.length_drop, List.length_take]; rfl)) ?_; (with_reducible refine (types_right.calls k a0_0 _ _ l0_1 false _ ?side1 ?side2 A14.out).mono ?_); (case side1 => repeat (first | exact (Kd.C_below HR0_1.out HB.out) | (with_reducible refine Kd.C_alloc ?_ _) | (with_reducible refine Kd.C_drewN ?_ _) | (with_reducible refine Kd.C_drew ?_))); (case side2 => exact HC0_1.out); rintro e w29 ⟨rfl, hb⟩; refine ⟨_, rfl, ?_⟩; have n0_ := Aside0.mk (blk_below (g := gb143) (o := .cells #[.int .i8 a0_0, .slice A0_1 l0_1.length c0_1] 26 (0, 0)) (by (with_reducible repeat (first | refine blk_drewN ?_ _ | refine blk_drew ?_ | refine blk_alloc ?_ _)); exact BK143.out) hb); have n1_ := Aside0.mk (below_step (by repeat (first | (with_reducible first | exact HB.out | apply below_alloc | apply pw_below_drewN | apply below_drew1 | refine below_set ?_ GE143.out) | exact HB.out)) hb); clear BK143; clear HB; have BK143 := n0_; have HB := n1_; clear n0_ n1_; (try clear hb); (try clear hb2); (try clear hk); (try clear hi)))
        go_ret
        exact ⟨by first | rfl | (simp [errW_none, errW_some] <;> rfl) | (simp [*, errW_none, errW_some] <;> rfl), by repeat (first | (with_reducible first | exact HB.out | apply below_alloc | apply pw_below_drewN | apply below_drew1 | refine below_set ?_ GE143.out) | exact HB.out)⟩

-- left out: function 22 (agree_As)

end Go.Proofs.Ytamhdpllmhafhaa.X
/- The contract of agree.level: whether two types agree, as far as both are known. -/
namespace Go.Proofs.Ytamhdpllmhafhaa.X
open Go.RowKit Go.Proofs.YtamhdpllmhafhaaW.PrintWords Go.Proofs.YtamhdpllmhafhaaW.PrintLast Go.Proofs.YtamhdpllmhafhaaW.PrintMore
set_option linter.unusedVariables false
set_option linter.unusedSimpArgs false

mutual
def lev : S26 → S26 → Option Bool
  | ⟨k, l⟩, b => if k = 0 then some true else if b.f0 = 0 then some true else if k = b.f0 then levL l b.f1 else some false
def levL : List S26 → List S26 → Option Bool
  | [], _ => some true
  | x :: l, m => match m with
    | [] => none
    | y :: m => match lev x y with
      | none => none
      | some false => some false
      | some true => levL l m
end
theorem lev_eq (x b : S26) : lev x b = if x.f0 = 0 then some true else if b.f0 = 0 then some true else if x.f0 = b.f0 then levL x.f1 b.f1 else some false := by cases x; rw [lev]
theorem lev_eta (x y : S26) : lev ⟨x.f0, x.f1⟩ ⟨y.f0, y.f1⟩ = lev x y := by cases x; cases y; rfl
theorem drop_rd (l : List S26) (i : Nat) (h : i < l.length) : l.drop i = rd_T26 l i :: l.drop (i + 1) := by
  rw [List.drop_eq_getElem_cons h]
  congr 1
  simp [rd_T26, List.getD_eq_getElem?_getD, h]
theorem levL_drop {l m : List S26} {i : Nat} {r : Bool} (h : i < l.length) (hr : levL (l.drop i) (m.drop i) = some r) :
    i < m.length ∧ ((lev (rd_T26 l i) (rd_T26 m i) = some false ∧ r = false) ∨ (lev (rd_T26 l i) (rd_T26 m i) = some true ∧ levL (l.drop (i + 1)) (m.drop (i + 1)) = some r)) := by
  rw [drop_rd l i h] at hr
  rcases Nat.lt_or_ge i m.length with hm | hm
  · refine ⟨hm, ?_⟩
    rw [drop_rd m i hm, levL] at hr
    revert hr
    cases lev (rd_T26 l i) (rd_T26 m i) with
    | none => simp
    | some b => cases b <;> simp <;> intro h <;> simp [h]
  · rw [List.drop_eq_nil_of_le hm, levL] at hr
    simp at hr
theorem nodesL_rd (l : List S26) (i : Nat) (h : i < l.length) : nodesL (rd_T26 l i).f1 < nodesL l := by
  have := nodesL_take l i h
  rw [nodes_eq] at this
  have := nodesL_take_le l (i + 1)
  omega
def agree_level.f (a0_0 : Int) (l0_1 : List S26) (a1_0 : Int) (l1_1 : List S26) : Option Bool := lev ⟨a0_0, l0_1⟩ ⟨a1_0, l1_1⟩

set_option maxRecDepth 100000 in
set_option maxHeartbeats 1600000 in
theorem level_calls (n : Nat) : ∀ (a0_0 : Int) (A0_1 : Option Addr) (c0_1 : Nat) (l0_1 : List S26) (a1_0 : Int) (A1_1 : Option Addr) (c1_1 : Nat) (l1_1 : List S26) (r : Bool) (w : World)
    (hn : nodesL l0_1 < n) (hr0_1 : Kd.C k26 w A0_1 l0_1.length l0_1) (hc0_1 : l0_1.length ≤ c0_1) (hr1_1 : Kd.C k26 w A1_1 l1_1.length l1_1) (hc1_1 : l1_1.length ≤ c1_1) (h : lev ⟨a0_0, l0_1⟩ ⟨a1_0, l1_1⟩ = some r),
    Calls Try.prog 61 #[.agg #[.int .i8 a0_0, .slice A0_1 l0_1.length c0_1], .agg #[.int .i8 a1_0, .slice A1_1 l1_1.length c1_1]] w fun e w' => e = .returned (.bool r) ∧ Below w.heap.size w w' := by
  induction n with
  | zero => intro a0 A0 c0 l0 a1 A1 c1 l1 r w hn; omega
  | succ n ih =>
  intro a0 A0 c0 l0 a1 A1 c1 l1 r w hn hr0 hc0 hr1 hc1 h
  have IH := Aside0.mk ih
  have HR0 := Aside0.mk hr0
  have HR1 := Aside0.mk hr1
  have hL0 : l0.length ≤ 9223372036854775807 := hr0.2.1
  rw [lev] at h
  clear ih hr0 hr1
  by_cases k0 : a0 = 0
  · rw [if_pos k0] at h
    obtain rfl := Option.some.inj h
    subst k0
    go_enter Try.func61, Try.ntmps61
    go_wp2_with fail
    go_ret
    exact ⟨rfl, ((((Below.refl _ _).alloc (Nat.le_refl _) _).alloc (by simp) _).alloc (by simp; omega) _)⟩
  rw [if_neg k0] at h
  have d0 : (a0 == 0) = false := beq_eq_false_iff_ne.mpr k0
  by_cases k1 : a1 = 0
  · rw [if_pos k1] at h
    obtain rfl := Option.some.inj h
    subst k1
    go_enter Try.func61, Try.ntmps61
    go_wp2_with fail
    go_ret
    exact ⟨rfl, ((((Below.refl _ _).alloc (Nat.le_refl _) _).alloc (by simp) _).alloc (by simp; omega) _)⟩
  rw [if_neg k1] at h
  have d1 : (a1 == 0) = false := beq_eq_false_iff_ne.mpr k1
  by_cases k2 : a0 = a1
  · rw [if_pos k2] at h
    subst k2
    go_enter Try.func61, Try.ntmps61
    go_wp2_with fail
    have hB3 : Below w.heap.size w (((w.alloc (.cells #[.int .i8 a0, .slice A0 l0.length c0] 26)).alloc (.cells #[.int .i8 a0, .slice A1 l1.length c1] 26)).alloc (.cells #[.int .i8 a0, .int .i8 a0] 76)) := (((Below.refl _ _).alloc (Nat.le_refl _) _).alloc (by simp) _).alloc (by simp; omega) _
    have hb0 : (((w.alloc (.cells #[.int .i8 a0, .slice A0 l0.length c0] 26)).alloc (.cells #[.int .i8 a0, .slice A1 l1.length c1] 26)).alloc (.cells #[.int .i8 a0, .int .i8 a0] 76)).heap[w.heap.size]? = some (.cells #[.int .i8 a0, .slice A0 l0.length c0] 26 (0, 0)) := blk_alloc (blk_alloc (heap_alloc_new w _) _) _
    have hb1 : (((w.alloc (.cells #[.int .i8 a0, .slice A0 l0.length c0] 26)).alloc (.cells #[.int .i8 a0, .slice A1 l1.length c1] 26)).alloc (.cells #[.int .i8 a0, .int .i8 a0] 76)).heap[w.heap.size + 1]? = some (.cells #[.int .i8 a0, .slice A1 l1.length c1] 26 (0, 0)) := blk_alloc (by simpa using heap_alloc_new (w.alloc (.cells #[.int .i8 a0, .slice A0 l0.length c0] 26)) (.cells #[.int .i8 a0, .slice A1 l1.length c1] 26)) _
    generalize (((w.alloc (.cells #[.int .i8 a0, .slice A0 l0.length c0] 26)).alloc (.cells #[.int .i8 a0, .slice A1 l1.length c1] 26)).alloc (.cells #[.int .i8 a0, .int .i8 a0] 76)) = W3 at *
    have HB3 := Aside0.mk hB3
    have HK0 := Aside0.mk hb0
    have HK1 := Aside0.mk hb1
    have HH := Aside0.mk h
    clear hB3 hb0 hb1 h
    go_loopw [28] (fun i wr => ∃ k : Nat, i = .int .i64 k ∧ k ≤ l0.length ∧ levL (l0.drop k) (l1.drop k) = some r ∧ Below w.heap.size w wr ∧ wr.heap[w.heap.size]? = some (.cells #[.int .i8 a0, .slice A0 l0.length c0] 26 (0, 0)) ∧ wr.heap[w.heap.size + 1]? = some (.cells #[.int .i8 a0, .slice A1 l1.length c1] 26 (0, 0))) (fun i _ => l0.length - (intOf i).toNat)
    case atStart => exact ⟨0, rfl, Nat.zero_le _, HH.out, HB3.out, HK0.out, HK1.out⟩
    case round =>
      obtain ⟨k, rfl, hk, hr, hB, hb0, hb1⟩ := hrel
      by_cases hlt : k < l0.length
      · obtain ⟨hlt1, hcase⟩ := levL_drop hlt hr
        obtain ⟨ad, B1, d1_, hA, hx0, hx1, hl1, hi1⟩ := at_T26 HR0.out (k : Int) (by omega) (by omega)
        obtain ⟨bd, B2, d2_, hA2, hy0, hy1, hl2, hi2⟩ := at_T26 HR1.out (k : Int) (by omega) (by omega)
        cases hA
        cases hA2
        have hx0 := (hB.cell (World.block_lt_of_cell? w _ hx0)).trans hx0
        have hx1 := (hB.cell (World.block_lt_of_cell? w _ hx1)).trans hx1
        have hy0 := (hB.cell (World.block_lt_of_cell? w _ hy0)).trans hy0
        have hy1 := (hB.cell (World.block_lt_of_cell? w _ hy1)).trans hy1
        have hz0 := blk_cell hb0 1
        have hz1 := blk_cell hb1 1
        have hm := nodesL_rd l0 k hlt
        generalize rd_T26 l0 (k : Int) = x at *
        generalize rd_T26 l1 (k : Int) = y at *
        have hk0 : (k : Int) < (l0.length : Int) := by omega
        have hk1 : (k : Int) < (l1.length : Int) := by omega
        have HC := Aside0.mk hcase
        have HB := Aside0.mk hB
        have HK0 := Aside0.mk hb0
        have HK1 := Aside0.mk hb1
        have HI1 := Aside0.mk hi1
        have HI2 := Aside0.mk hi2
        simp only [Int.toNat_natCast] at hx0 hx1 hy0 hy1
        simp at hz0 hz1
        clear hB hb0 hb1 hi1 hi2 hcase hr
        go_wp2_with fail
        go_still_tail 10, (by kernel_rfl)
        rcases HC.out with ⟨hlev, rfl⟩ | ⟨hlev, hrest⟩
        · have HLV := Aside0.mk (show lev ⟨x.f0, x.f1⟩ ⟨y.f0, y.f1⟩ = some false from (lev_eta x y).trans hlev)
          clear hlev
          go_wp2_with fail
          refine (IH.out x.f0 B1 d1_ x.f1 y.f0 B2 d2_ y.f1 false _ (by omega) (Kd.C_below HI1.out HB.out.drew) hl1 (Kd.C_below HI2.out HB.out.drew) hl2 HLV.out).mono ?_
          rintro e w' ⟨rfl, hB2⟩
          have HB2 := Aside0.mk (below_then HB.out.drew HB.out.drew.size hB2)
          clear hB2
          go_wp2_with fail
          go_ret
          exact ⟨rfl, HB2.out⟩
        · have HLV := Aside0.mk (show lev ⟨x.f0, x.f1⟩ ⟨y.f0, y.f1⟩ = some true from (lev_eta x y).trans hlev)
          have HRS := Aside0.mk hrest
          clear hlev hrest
          go_wp2_with fail
          refine (IH.out x.f0 B1 d1_ x.f1 y.f0 B2 d2_ y.f1 true _ (by omega) (Kd.C_below HI1.out HB.out.drew) hl1 (Kd.C_below HI2.out HB.out.drew) hl2 HLV.out).mono ?_
          rintro e w' ⟨rfl, hB2⟩
          have HB2 := Aside0.mk (below_then HB.out.drew HB.out.drew.size hB2)
          have HK02 := Aside0.mk (blk_below (blk_drew HK0.out) hB2)
          have HK12 := Aside0.mk (blk_below (blk_drew HK1.out) hB2)
          clear hB2
          go_wp2_with fail
          go_roundw
          case rel => exact ⟨k + 1, by go_num, by omega, HRS.out, HB2.out, HK02.out, HK12.out⟩
          case measure => simp [intOf]; omega
      · have hkl : k = l0.length := by omega
        subst hkl
        rw [List.drop_length, levL] at hr
        obtain rfl := Option.some.inj hr
        have HB := Aside0.mk hB
        clear hB hb0 hb1 hr
        go_wp2_with fail
        go_ret
        exact ⟨rfl, HB.out⟩
  · rw [if_neg k2] at h
    obtain rfl := Option.some.inj h
    have d2 : (a0 != a1) = true := bne_iff_ne.mpr k2
    clear k0 k1 k2
    go_enter Try.func61, Try.ntmps61
    go_wp2_with fail
    go_ret
    exact ⟨rfl, ((((Below.refl _ _).alloc (Nat.le_refl _) _).alloc (by simp) _).alloc (by simp; omega) _)⟩
theorem agree_level.calls (a0_0 : Int) (A0_1 : Option Addr) (c0_1 : Nat) (l0_1 : List S26) (a1_0 : Int) (A1_1 : Option Addr) (c1_1 : Nat) (l1_1 : List S26) (r : Bool) (w : World)
    (hr0_1 : Kd.C k26 w A0_1 l0_1.length l0_1) (hc0_1 : l0_1.length ≤ c0_1) (hr1_1 : Kd.C k26 w A1_1 l1_1.length l1_1) (hc1_1 : l1_1.length ≤ c1_1) (h : agree_level.f a0_0 l0_1 a1_0 l1_1 = some r) :
    Calls Try.prog 61 #[.agg #[.int .i8 a0_0, .slice A0_1 l0_1.length c0_1], .agg #[.int .i8 a1_0, .slice A1_1 l1_1.length c1_1]] w fun e w' => e = .returned (.bool r) ∧ Below w.heap.size w w' :=
  level_calls (nodesL l0_1 + 1) _ _ _ _ _ _ _ _ _ _ (Nat.lt_succ_self _) hr0_1 hc0_1 hr1_1 hc1_1 h
end Go.Proofs.Ytamhdpllmhafhaa.X
/- Hand texts of round 1, parted: HSpec. -/
namespace Go.Proofs.Ytamhdpllmhafhaa.X
open Go.RowKit Go.Proofs.YtamhdpllmhafhaaW.PrintWords Go.Proofs.YtamhdpllmhafhaaW.PrintLast Go.Proofs.YtamhdpllmhafhaaW.PrintMore
set_option linter.unusedVariables false
set_option linter.unusedSimpArgs false


theorem S26.eta (x : S26) : (⟨x.f0, x.f1⟩ : S26) = x := by cases x; rfl
theorem Ev_eq {α : Type} {g : Nat → Option α} {r r' : α} (h : Ev g r) (e : r = r') : Ev g r' := e ▸ h
theorem w64 (i : Int) (h0 : -9223372036854775808 ≤ i) (h1 : i ≤ 9223372036854775807) : wrap64 i = i := by unfold wrap64; omega

theorem length_le_nodesL (l : List S26) : l.length ≤ nodesL l := by
  induction l with
  | nil => simp
  | cons x l ih => simp only [List.length_cons, nodesL]; have := nodes_eq x; omega
theorem nodesL_drop (l : List S26) (i : Nat) (h : i < l.length) : nodesL (l.drop i) = nodes (rd_T26 l i) + nodesL (l.drop (i + 1)) := by
  rw [drop_rd l i h, nodesL]
theorem nodesL_drop_le (l : List S26) (i : Nat) : nodesL (l.drop i) ≤ nodesL l := by
  have := nodesL_append (l.take i) (l.drop i)
  rw [List.take_append_drop] at this
  omega
theorem nodes_rd_le (l : List S26) (i : Nat) (h : i < l.length) : nodes (rd_T26 l i) ≤ nodesL l := by
  have := nodesL_drop l i h
  have := nodesL_drop_le l i
  omega

/-! ### depth -/
mutual
def depth : S26 → Nat
  | ⟨_, l⟩ => 1 + depthL l
def depthL : List S26 → Nat
  | [] => 0
  | x :: l => max (depth x) (depthL l)
end
theorem depth_eq (x : S26) : depth x = 1 + depthL x.f1 := by cases x; rw [depth]
theorem depthL_drop (l : List S26) (i : Nat) (h : i < l.length) : depthL (l.drop i) = max (depth (rd_T26 l i)) (depthL (l.drop (i + 1))) := by
  rw [drop_rd l i h, depthL]

theorem deep_ev (n : Nat) : ∀ (k : Int) (l : List S26) (left : Int), nodesL l < n → nodesL l ≤ 8192 → 1 ≤ left → left ≤ 201 →
    Ev (fun f => types_deep.f f k l left) (min ((1 + depthL l : Nat) : Int) left) := by
  induction n with
  | zero => intro k l left h; omega
  | succ n ih =>
  intro k l left hn h8 h1 h2
  have hlen := length_le_nodesL l
  by_cases hl : left ≤ 1
  · refine Ev.step (f := fun _ => some left) (fun f => by simp only [types_deep.f]; rw [if_pos hl]) (Ev_eq (Ev.now _) ?_)
    omega
  · have loop : ∀ (d i : Nat) (acc : Int), i ≤ l.length → l.length - i = d → 0 ≤ acc → acc ≤ 200 →
        Ev (fun f => types_deep.l0 f left acc l (l.length : Int) (i : Int)) (max acc (min ((depthL (l.drop i) : Nat) : Int) (left - 1)) + 1) := by
      intro d
      induction d with
      | zero =>
        intro i acc hi hd h0 h200
        refine Ev.step (f := fun _ => some (acc + 1)) (fun f => by simp only [types_deep.l0]; rw [if_neg (by omega), w64 _ (by omega) (by omega)]) (Ev_eq (Ev.now _) ?_)
        rw [List.drop_eq_nil_of_le (by omega), depthL]
        simp
        omega
      | succ d ihd =>
        intro i acc hi hd h0 h200
        have hlt : i < l.length := by omega
        have hr := nodesL_rd l i hlt
        have hdr := depthL_drop l i hlt
        have e1 := ih (rd_T26 l i).f0 (rd_T26 l i).f1 (left - 1) (by omega) (by omega) (by omega) (by omega)
        rw [← depth_eq] at e1
        have e2 := ihd (i + 1) (mx acc (min ((depth (rd_T26 l i) : Nat) : Int) (left - 1))) (by omega) (by omega) (by unfold mx; split <;> omega) (by unfold mx; split <;> omega)
        refine Ev.step (f := fun f => (types_deep.f f (rd_T26 l i).f0 (rd_T26 l i).f1 (left - 1)).bind fun t => types_deep.l0 f left (mx acc t) l (l.length : Int) ((i + 1 : Nat) : Int)) (fun f => ?_) (Ev.bind e1 (Ev_eq e2 ?_))
        · simp only [types_deep.l0]
          rw [if_pos (by omega), if_pos (by omega), if_pos (by omega), w64 (left - 1) (by omega) (by omega), w64 ((i : Int) + 1) (by omega) (by omega)]
          rfl
        · rw [hdr]
          unfold mx
          split <;> omega
    refine Ev.step (f := fun f => types_deep.l0 f left 0 l (l.length : Int) 0) (fun f => by simp only [types_deep.f]; rw [if_neg hl]) (Ev_eq (loop l.length 0 0 (by omega) rfl (by omega) (by omega)) ?_)
    rw [List.drop_zero]
    omega

/-! ### right -/
def partsI (k : Int) : Int := if k = 0 ∨ k = 1 ∨ k = 2 then 0 else if k = 3 ∨ k = 4 ∨ k = 5 then 2 else -1
theorem parts_is (f : Nat) (k : Int) : types_parts.f (f + 1) k = some (partsI k) := by
  unfold types_parts.f partsI
  simp only [types_parts.j0]
  by_cases h0 : k = 0
  · simp [h0]
  by_cases h1 : k = 1
  · simp [h1]
  by_cases h2 : k = 2
  · simp [h2]
  by_cases h3 : k = 3
  · simp [h3]
  by_cases h4 : k = 4
  · simp [h4]
  by_cases h5 : k = 5
  · simp [h5]
  simp [h0, h1, h2, h3, h4, h5]
theorem parts_ev (k : Int) : Ev (fun f => types_parts.f f k) (partsI k) := Ev.step (f := fun _ => some (partsI k)) (fun f => parts_is f k) (Ev.now _)
mutual
def rightB : S26 → Bool
  | ⟨k, l⟩ => decide (partsI k = (l.length : Int)) && rightL l
def rightL : List S26 → Bool
  | [] => true
  | x :: l => rightB x && rightL l
end
theorem rightB_eq (x : S26) : rightB x = (decide (partsI x.f0 = (x.f1.length : Int)) && rightL x.f1) := by cases x; rw [rightB]
theorem rightL_drop (l : List S26) (i : Nat) (h : i < l.length) : rightL (l.drop i) = (rightB (rd_T26 l i) && rightL (l.drop (i + 1))) := by
  rw [drop_rd l i h, rightL]
theorem right_ev (n : Nat) : ∀ (k : Int) (l : List S26), nodesL l < n → nodesL l ≤ 8192 → Ev (fun f => types_right.f f k l) (rightB ⟨k, l⟩) := by
  induction n with
  | zero => intro k l h; omega
  | succ n ih =>
  intro k l hn h8
  have hlen := length_le_nodesL l
  have loop : ∀ (d i : Nat), i ≤ l.length → l.length - i = d → Ev (fun f => types_right.l0 f l (l.length : Int) (i : Int)) (rightL (l.drop i)) := by
    intro d
    induction d with
    | zero =>
      intro i hi hd
      refine Ev.step (f := fun _ => some true) (fun f => by simp only [types_right.l0]; rw [if_neg (by omega)]) (Ev_eq (Ev.now _) ?_)
      rw [List.drop_eq_nil_of_le (by omega), rightL]
    | succ d ihd =>
      intro i hi hd
      have hlt : i < l.length := by omega
      have hr := nodesL_rd l i hlt
      have e1 := ih (rd_T26 l i).f0 (rd_T26 l i).f1 (by omega) (by omega)
      rw [S26.eta] at e1
      refine Ev.step (f := fun f => (types_right.f f (rd_T26 l i).f0 (rd_T26 l i).f1).bind fun t => if t = true then types_right.l0 f l (l.length : Int) ((i + 1 : Nat) : Int) else some false) (fun f => ?_) (Ev.bind e1 ?_)
      · simp only [types_right.l0]
        rw [if_pos (by omega), if_pos (by omega), if_pos (by omega), w64 ((i : Int) + 1) (by omega) (by omega)]
        rfl
      · rw [rightL_drop l i hlt]
        cases rightB (rd_T26 l i) with
        | true => simpa using ihd (i + 1) (by omega) (by omega)
        | false => simpa using Ev.now _
  refine Ev.step (f := fun f => (types_parts.f f k).bind fun t => if t = (l.length : Int) then types_right.l0 f l (l.length : Int) 0 else some false) (fun f => by simp only [types_right.f]) (Ev.bind (parts_ev k) ?_)
  rw [rightB]
  by_cases hp : partsI k = (l.length : Int)
  · simp only [hp, if_true, decide_true, Bool.true_and]
    exact Ev_eq (loop l.length 0 (by omega) rfl) (by rw [List.drop_zero])
  · simpa [hp] using Ev.now _

/-! ### Check -/
def checkI (t : S26) : Int := if 8192 < nodes t then 32 else if 200 < depth t then 31 else if rightB t = true then 0 else 20
theorem Check_ev (k : Int) (l : List S26) : Ev (fun f => types_Check.f f k l) (checkI ⟨k, l⟩) := by
  unfold checkI types_Check.f types_Nodes.f types_Depth.f types_Nodes.f
  rw [nodes, depth]
  by_cases h8 : 8192 < 1 + nodesL l
  · rw [if_pos h8]
    have : ((min (1 + nodesL l) 8193 : Nat) : Int) > 8192 := by omega
    simpa [this] using Ev.now _
  · rw [if_neg h8]
    have h9 : ¬ ((min (1 + nodesL l) 8193 : Nat) : Int) > 8192 := by omega
    simp only [Option.bind_some, h9, if_false]
    have e1 := deep_ev (nodesL l + 1) k l 201 (by omega) (by omega) (by omega) (by omega)
    refine Ev.bind (a := (min ((1 + depthL l : Nat) : Int) 201)) (Ev_eq (Ev.bind e1 (Ev.now _)) rfl) ?_
    by_cases h2 : 200 < 1 + depthL l
    · rw [if_pos h2]
      have h3 : (min ((1 + depthL l : Nat) : Int) 201) > 200 := by omega
      simp only [h3, if_true]
      exact Ev.now _
    · rw [if_neg h2]
      have h3 : ¬ (min ((1 + depthL l : Nat) : Int) 201) > 200 := by omega
      simp only [h3, if_false]
      refine Ev.bind (right_ev (nodesL l + 1) k l (by omega) (by omega)) ?_
      cases rightB ⟨k, l⟩ <;> simpa using Ev.now _
theorem check_nodes {t : S26} (h : checkI t = 0) : nodes t ≤ 8192 ∧ depth t ≤ 200 ∧ rightB t = true := by
  unfold checkI at h
  split at h
  · omega
  split at h
  · omega
  split at h
  · exact ⟨by omega, by omega, by assumption⟩
  · omega
theorem check_of {t : S26} (h1 : nodes t ≤ 8192) (h2 : depth t ≤ 200) (h3 : rightB t = true) : checkI t = 0 := by
  unfold checkI
  rw [if_neg (by omega), if_neg (by omega), if_pos h3]
end Go.Proofs.Ytamhdpllmhafhaa.X
/- Hand texts of round 1, parted: HTy. -/
namespace Go.Proofs.Ytamhdpllmhafhaa.X
open Go.RowKit Go.Proofs.YtamhdpllmhafhaaW.PrintWords Go.Proofs.YtamhdpllmhafhaaW.PrintLast Go.Proofs.YtamhdpllmhafhaaW.PrintMore
set_option linter.unusedVariables false
set_option linter.unusedSimpArgs false


def leafK (k : Int) : Prop := k = 0 ∨ k = 1 ∨ k = 2
def nodeK (k : Int) : Prop := k = 3 ∨ k = 4 ∨ k = 5
theorem right_cases {t : S26} (h : rightB t = true) : (∃ k, leafK k ∧ t = ⟨k, []⟩) ∨ (∃ k a b, nodeK k ∧ rightB a = true ∧ rightB b = true ∧ t = ⟨k, [a, b]⟩) := by
  obtain ⟨k, l⟩ := t
  rw [rightB] at h
  simp only [Bool.and_eq_true, decide_eq_true_eq] at h
  obtain ⟨h1, h2⟩ := h
  by_cases hl : k = 0 ∨ k = 1 ∨ k = 2
  · have : partsI k = 0 := by unfold partsI; rw [if_pos hl]
    rw [this] at h1
    have : l = [] := List.eq_nil_of_length_eq_zero (by omega)
    exact .inl ⟨k, hl, by rw [this]⟩
  · by_cases hn : k = 3 ∨ k = 4 ∨ k = 5
    · have : partsI k = 2 := by unfold partsI; rw [if_neg hl, if_pos hn]
      rw [this] at h1
      match l, h1, h2 with
      | [a, b], _, h2 =>
        simp only [rightL, Bool.and_eq_true] at h2
        exact .inr ⟨k, a, b, hn, h2.1, h2.2.1, rfl⟩
    · have : partsI k = -1 := by unfold partsI; rw [if_neg hl, if_neg hn]
      omega
theorem nodes_two (k : Int) (a b : S26) : nodes ⟨k, [a, b]⟩ = 1 + nodes a + nodes b := by simp only [nodes, nodesL]; omega
theorem nodes_leaf (k : Int) : nodes ⟨k, []⟩ = 1 := by simp only [nodes, nodesL]
theorem nodes_pos (t : S26) : 0 < nodes t := by rw [nodes_eq]; omega
theorem depth_two (k : Int) (a b : S26) : depth ⟨k, [a, b]⟩ = 1 + max (depth a) (depth b) := by simp only [depth, depthL]; omega
theorem right_two (k : Int) (a b : S26) (hk : nodeK k) : rightB ⟨k, [a, b]⟩ = (rightB a && rightB b) := by
  have : partsI k = 2 := by rcases hk with rfl | rfl | rfl <;> rfl
  simp [rightB, rightL, this]
theorem right_leaf (k : Int) (hk : leafK k) : rightB ⟨k, []⟩ = true := by
  have : partsI k = 0 := by rcases hk with rfl | rfl | rfl <;> rfl
  simp [rightB, rightL, this]
theorem right_ind {P : S26 → Prop} (leaf : ∀ k, leafK k → P ⟨k, []⟩) (node : ∀ k a b, nodeK k → rightB a = true → rightB b = true → P a → P b → P ⟨k, [a, b]⟩) : ∀ t, rightB t = true → P t := by
  suffices h : ∀ n t, nodes t < n → rightB t = true → P t from fun t ht => h (nodes t + 1) t (by omega) ht
  intro n
  induction n with
  | zero => intro t h; omega
  | succ n ih =>
    intro t hn ht
    rcases right_cases ht with ⟨k, hk, rfl⟩ | ⟨k, a, b, hk, ha, hb, rfl⟩
    · exact leaf k hk
    · rw [nodes_two] at hn
      have := nodes_pos a
      have := nodes_pos b
      exact node k a b hk ha hb (ih a (by omega) ha) (ih b (by omega) hb)
theorem leaf_ne_node {k : Int} (h : leafK k) : ¬ nodeK k := by rcases h with rfl | rfl | rfl <;> simp [nodeK]
theorem check_two {k : Int} {a b : S26} (h : checkI ⟨k, [a, b]⟩ = 0) : checkI a = 0 ∧ checkI b = 0 ∧ nodeK k := by
  obtain ⟨h1, h2, h3⟩ := check_nodes h
  rw [nodes_two] at h1
  rw [depth_two] at h2
  have hk : nodeK k := by
    rcases right_cases h3 with ⟨k', hk, e⟩ | ⟨k', a', b', hk, _, _, e⟩
    · injection e with _ e2; simp at e2
    · injection e with e1 _; rw [e1]; exact hk
  rw [right_two k a b hk] at h3
  simp only [Bool.and_eq_true] at h3
  exact ⟨check_of (by omega) (by omega) h3.1, check_of (by omega) (by omega) h3.2, hk⟩

/-! ### two trees are the same -/
mutual
def likeB : S26 → S26 → Bool
  | ⟨k, l⟩, b => decide (k = b.f0) && likeL l b.f1
def likeL : List S26 → List S26 → Bool
  | [], m => match m with
    | [] => true
    | _ :: _ => false
  | x :: l, m => match m with
    | [] => false
    | y :: m => likeB x y && likeL l m
end
theorem likeB_eq (a b : S26) : likeB a b = (decide (a.f0 = b.f0) && likeL a.f1 b.f1) := by cases a; rw [likeB]
theorem like_iff_aux (n : Nat) : (∀ a b : S26, nodes a < n → (likeB a b = true ↔ a = b)) ∧ (∀ l m : List S26, nodesL l < n → (likeL l m = true ↔ l = m)) := by
  induction n with
  | zero => exact ⟨fun _ _ h => by omega, fun _ _ h => by omega⟩
  | succ n ih =>
    have hL : ∀ l m : List S26, nodesL l < n + 1 → (likeL l m = true ↔ l = m) := by
      intro l
      induction l with
      | nil => intro m _; cases m <;> simp [likeL]
      | cons x l ihl =>
        intro m hn
        rw [nodesL] at hn
        have := nodes_pos x
        cases m with
        | nil => simp [likeL]
        | cons y m =>
          rw [likeL, Bool.and_eq_true, ihl m (by omega)]
          by_cases hx : nodes x < n
          · rw [(ih.1 x y hx)]; simp
          · have hl0 : nodesL l = 0 := by omega
            obtain ⟨k, lx⟩ := x
            rw [nodes] at hn hx
            have := (ih.2 lx y.f1 (by omega))
            rw [likeB, Bool.and_eq_true, this, decide_eq_true_eq]
            cases y
            simp
    refine ⟨fun a b hn => ?_, hL⟩
    obtain ⟨k, l⟩ := a
    rw [nodes] at hn
    rw [likeB, Bool.and_eq_true, hL l b.f1 (by omega), decide_eq_true_eq]
    cases b
    simp
theorem like_iff (a b : S26) : likeB a b = true ↔ a = b := (like_iff_aux (nodes a + 1)).1 a b (by omega)
theorem like_refl (a : S26) : likeB a a = true := (like_iff a a).2 rfl
theorem like_two {k k' : Int} {a b a' b' : S26} : likeB ⟨k, [a, b]⟩ ⟨k', [a', b']⟩ = (decide (k = k') && (likeB a a' && likeB b b')) := by
  simp [likeB, likeL]
theorem node_ne_zero {k : Int} (h : nodeK k) : ¬ k = 0 := by rcases h with rfl | rfl | rfl <;> omega
theorem z26_eq {t : S26} (h : rightB t = true) (h0 : t.f0 = 0) : t = z26 := by
  rcases right_cases h with ⟨k, hk, rfl⟩ | ⟨k, a, b, hk, _, _, rfl⟩
  · obtain rfl : k = 0 := h0
    rfl
  · exact absurd h0 (node_ne_zero hk)
theorem check_z26 : checkI z26 = 0 := by kernel_rfl
theorem check_made {kind : Int} (h : nodeK kind) : checkI ⟨kind, [z26, z26]⟩ = 0 := by
  rcases h with rfl | rfl | rfl <;> kernel_rfl
end Go.Proofs.Ytamhdpllmhafhaa.X
/- The contracts of types.tight and types.sign. -/
namespace Go.Proofs.Ytamhdpllmhafhaa.X
open Go.RowKit Go.Proofs.YtamhdpllmhafhaaW.PrintWords Go.Proofs.YtamhdpllmhafhaaW.PrintLast Go.Proofs.YtamhdpllmhafhaaW.PrintMore
set_option linter.unusedVariables false
set_option linter.unusedSimpArgs false

def tightI (k : Int) : Int := if k = 3 then 1 else if k = 4 then 3 else if k = 5 then 2 else 4
def signL (k : Int) : List UInt8 := if k = 0 then [63] else if k = 1 then [105, 110, 116] else if k = 2 then [98, 111, 111, 108] else if k = 3 then [32, 45, 62, 32] else if k = 4 then [32, 42, 32] else [32, 43, 32]
def signS (k : Int) : ByteArray := ⟨(signL k).toArray⟩
theorem signS_list (k : Int) : (signS k).data.toList = signL k := rfl
theorem kind_cases {k : Int} (h : leafK k ∨ nodeK k) : k = 0 ∨ k = 1 ∨ k = 2 ∨ k = 3 ∨ k = 4 ∨ k = 5 := by
  rcases h with h | h <;> rcases h with rfl | rfl | rfl <;> simp
theorem tight_calls {k : Int} (h : leafK k ∨ nodeK k) (w : World) : Calls Try.prog 93 #[.int .i8 k] w fun e w' => e = .returned (.int .i64 (tightI k)) ∧ Below w.heap.size w w' := by
  rcases kind_cases h with rfl | rfl | rfl | rfl | rfl | rfl
  all_goals
    go_enter Try.func93, Try.ntmps93
    go_wp2_with fail
    go_ret
    exact ⟨rfl, (Below.refl _ _).alloc (Nat.le_refl _) _⟩
theorem sign_calls {k : Int} (h : leafK k ∨ nodeK k) (w : World) : Calls Try.prog 94 #[.int .i8 k] w fun e w' => e = .returned (.string (signS k)) ∧ Below w.heap.size w w' := by
  rcases kind_cases h with rfl | rfl | rfl | rfl | rfl | rfl
  all_goals
    go_enter Try.func94, Try.ntmps94
    go_wp2_with fail
    go_ret
    exact ⟨rfl, (Below.refl _ _).alloc (Nat.le_refl _) _⟩
end Go.Proofs.Ytamhdpllmhafhaa.X
/- A slice of bytes that a call owns, carried from append to append: what the walks of types.write say of it. -/
namespace Go.Proofs.Ytamhdpllmhafhaa.X
open Go.RowKit Go.Proofs.YtamhdpllmhafhaaW.PrintWords Go.Proofs.YtamhdpllmhafhaaW.PrintLast Go.Proofs.YtamhdpllmhafhaaW.PrintMore
set_option linter.unusedVariables false
set_option linter.unusedSimpArgs false

def cellsU (l : List UInt8) : List Value := l.map fun b => Value.int .u8 b.toNat
theorem cellsU_append (l m : List UInt8) : cellsU (l ++ m) = cellsU l ++ cellsU m := List.map_append
/-- From (v, w) to (v', w'): old blocks but v's own are as they were; v' lies in v's own block or in a new one. -/
structure Grew (v : Value) (w : World) (v' : Value) (w' : World) : Prop where
  by_ : w.grownBy w' v.ownBlock
  at_ : v'.ownBlock = v.ownBlock ∨ ∃ g, v'.ownBlock = some g ∧ w.heap.size ≤ g
theorem Grew.refl (v : Value) (w : World) : Grew v w v w := ⟨⟨rfl, rfl, rfl, Nat.le_refl _, fun _ _ _ => rfl⟩, .inl rfl⟩
theorem Grew.trans {v w v1 w1 v2 w2} (h : Grew v w v1 w1) (k : Grew v1 w1 v2 w2) : Grew v w v2 w2 := by
  refine ⟨⟨k.by_.os.trans h.by_.os, k.by_.tape.trans h.by_.tape, k.by_.output.trans h.by_.output, Nat.le_trans h.by_.size k.by_.size, fun i hi hne => ?_⟩, ?_⟩
  · rw [k.by_.block i (Nat.lt_of_lt_of_le hi h.by_.size) ?_, h.by_.block i hi hne]
    rcases h.at_ with e | ⟨g, e, hg⟩
    · rw [e]; exact hne
    · rw [e]; intro he; injection he with he; omega
  · rcases k.at_ with e | ⟨g, e, hg⟩
    · rw [e]; exact h.at_
    · exact .inr ⟨g, e, Nat.le_trans h.by_.size hg⟩
theorem Grew.below {v : Value} {w w' : World} (h : Below w.heap.size w w') : Grew v w v w' :=
  ⟨⟨h.os, h.tape, h.output, h.size, fun i hi _ => h.block i hi⟩, .inl rfl⟩
theorem Grew.keep {v : Value} {w : World} {v' : Value} {w' : World} (h : Grew v w v' w') {g : Nat} {b : Obj} (hg : w.heap[g]? = some b) (hne : v.ownBlock ≠ some g) : w'.heap[g]? = some b ∧ v'.ownBlock ≠ some g := by
  have hlt : g < w.heap.size := (Array.getElem?_eq_some_iff.1 hg).1
  refine ⟨(h.by_.block g hlt (fun e => hne e.symm)).trans hg, ?_⟩
  rcases h.at_ with e | ⟨k, e, hk⟩
  · rw [e]; exact hne
  · rw [e]; intro he; injection he with he; omega
/-- v holds the bytes l in a row that lies behind W0; what is in W0 is as it was. -/
structure OwnB (W0 : World) (v : Value) (l : List UInt8) (w : World) : Prop where
  row : w.ownsRow W0.heap.size 5 1 v l.length (cellsU l)
  below : Below W0.heap.size W0 w
theorem OwnB.nil (w : World) : OwnB w (.slice none 0 0) [] w := ⟨World.ownsRow_nil _ _ _ _, Below.refl _ _⟩
theorem ownsRow_below {w w' : World} {base e size n : Nat} {v : Value} {xs : List Value} (h : w.ownsRow base e size v n xs) (hb : Below w.heap.size w w') : w'.ownsRow base e size v n xs :=
  ⟨h.1, h.2.imp id fun ⟨g, cap, cur, h1, h2, h3, h4⟩ => ⟨g, cap, cur, h1, h2, (hb.block g (Array.getElem?_eq_some_iff.1 h3).1).trans h3, h4⟩⟩
theorem OwnB.after {W0 : World} {v : Value} {l : List UInt8} {w w' : World} (h : OwnB W0 v l w) (hb : Below w.heap.size w w') : OwnB W0 v l w' :=
  ⟨ownsRow_below h.row hb, below_then h.below h.below.size hb⟩
theorem OwnB.grown {W0 : World} {v v' : Value} {l l' : List UInt8} {w w' : World} (h : OwnB W0 v l w) (ho : w'.ownsRow W0.heap.size 5 1 v' l'.length (cellsU l')) (hg : w.grownBy w' v.ownBlock) : OwnB W0 v' l' w' :=
  ⟨ho, h.below.grown hg h.below.size (fun k hk => (h.row.lt k hk).1)⟩
theorem info5 : (Try.prog.info? 5).map (fun i => (i.zero, i.size, i.bytes)) = some (some (.int .u8 0), 1, 1) := by kernel_rfl
/-- Where an appended string's bytes lie. -/
theorem text_at {w : World} {base : Nat} {v : Value} {n : Nat} {xs : List Value} {ty : TypeId} (hown : w.ownsRow base 5 1 v n xs) (s : ByteArray) (hlen : n + s.size ≤ 1000000000) {v' : Value} {w' : World}
    (hr : (Builtin.append_ #[57, 9] ty #[v, .string s]).run Try.prog w = .ok v' w') : v'.ownBlock = v.ownBlock ∨ v'.ownBlock = some w.heap.size := by
  obtain ⟨i0, hi, hz, hz1, hz2⟩ := info_parts info5
  have hxl : xs.length = n := by simpa using hown.1
  rcases hown.2 with ⟨rfl, rfl⟩ | ⟨g, cap, cur, rfl, hbg, hg, hnc, hcm, hcs, htake⟩
  · by_cases hm : s.size = 0
    · obtain ⟨v2, w2, h2, _, _, h4⟩ := Lib.run_append_own_string (P := Try.prog) w 0 57 9 ty 5 i0 Try.underlying57 Try.underlying9 hi hz hz1 hz2 _ 0 xs ⟨by simpa using hxl, .inl ⟨rfl, rfl⟩⟩ s (by unfold maxLen; omega) (by omega) (Nat.zero_le _)
      rw [hr] at h2
      injection h2 with h2 h3
      subst h2
      rw [h4.2 ⟨rfl, hm⟩]
      exact .inl rfl
    · have h2 := run_append_nil_string (P := Try.prog) w 57 9 ty 5 i0 (.int .u8 0) Try.underlying57 Try.underlying9 hi hz s (by omega) (by omega) (by rw [hz2]; omega)
      rw [hr] at h2
      injection h2 with h2 h3
      subst h2
      exact .inr rfl
  · by_cases hroom : n + s.size ≤ cap
    · have h2 := Lib.run_append_room_string (P := Try.prog) w 57 9 ty 5 i0 Try.underlying57 Try.underlying9 hi hz1 g n cap cur hg s hroom (by omega)
      rw [hr] at h2
      injection h2 with h2 h3
      subst h2
      exact .inl rfl
    · have h2 := Lib.run_append_grow_string (P := Try.prog) w 57 9 ty 5 i0 (.int .u8 0) Try.underlying57 Try.underlying9 hi hz ⟨g, 0, none⟩ n cap xs (by rw [hz1]; simpa using hxl) (hown.cells (g := g) rfl) s (by omega) (by omega) (by rw [hz2]; exact growslice_fits (by omega) (by omega))
      rw [hr] at h2
      injection h2 with h2 h3
      subst h2
      exact .inr rfl
theorem wpList_text {ops : Array Oper} {rest : List Oper} {o : Oper} {a : Act} {Q : Exit → Act → World → Prop} {w : World} (hgd : o.guard = none) (sl x : Operand)
    (ho : o.op = .call { callee := .builtin .append, args := #[sl, x], argTypes := #[57, 9] })
    {W0 : World} {v : Value} {l : List UInt8} (hs : a.eval sl = v) (hb : OwnB W0 v l w) (s : ByteArray) (hx : a.eval x = .string s) (hlen : l.length + s.size ≤ 1000000000)
    (h : ∀ v' w', OwnB W0 v' (l ++ s.data.toList) w' → Grew v w v' w' → wpList Try.prog ops Q rest (a.put o.dst v') w') : wpList Try.prog ops Q (o :: rest) a w := by
  obtain ⟨i0, hi, hz, hz1, hz2⟩ := info_parts info5
  refine wpList_plain hgd fun K hK => ?_
  obtain ⟨v', w', hr, h2, h3, h4⟩ := Lib.run_append_own_string (P := Try.prog) w W0.heap.size 57 9 o.type 5 i0 Try.underlying57 Try.underlying9 hi hz hz1 hz2 v l.length (cellsU l) hb.row s (by unfold maxLen; omega) (by omega) hb.below.size
  have hat := text_at hb.row s hlen hr
  unfold Oper.wp execOp
  simp only [ho, resolve, invoke, builtin, Sem.run_bind, Sem.run_pure, Result.andThen_ok, List.map_toArray, List.map_cons, List.map_nil, hs, hx, hr]
  refine hK _ _ (h v' w' (hb.grown ?_ h3) ⟨h3, hat.imp id fun e => ⟨_, e, Nat.le_refl _⟩⟩)
  have e1 : (l ++ s.data.toList).length = l.length + s.size := by simp
  rw [e1, cellsU_append]
  exact h2
theorem wp_byte {o : Oper} {a : Act} {K : Act → World → Prop} {Q : Exit → Act → World → Prop} {w : World} (sl x : Operand) {d : Option Tmp} (hd : o.dst = d)
    (ho : o.op = .call { callee := .builtin .append, args := #[sl, x], argTypes := #[57, 57] })
    {W0 : World} {v : Value} {l : List UInt8} (hs : a.eval sl = v) (hb : OwnB W0 v l w) (g : Nat) (c : UInt8) (hx : a.eval x = .slice (some ⟨g, 0, none⟩) 1 1) (hg : w.heap[g]? = some (.cells #[.int .u8 c.toNat] 5 (0, 0))) (hlen : l.length + 1 ≤ 1000000000)
    (h : ∀ v' w', OwnB W0 v' (l ++ [c]) w' → Grew v w v' w' → K (a.put d v') w') : o.wp Try.prog a w K Q := by
  subst hd
  obtain ⟨i0, hi, hz, hz1, hz2⟩ := info_parts info5
  obtain ⟨v', w', hr, h2, h3, h4, h5⟩ := run_append_own_at (P := Try.prog) w W0.heap.size 57 o.type 5 i0 (.int .u8 0) 1 1 Try.underlying57 hi hz hz1 hz2 rfl (by omega) v l.length (cellsU l) hb.row ⟨g, 0, none⟩ 1 1 [.int .u8 c.toNat] rfl
    (by intro j u hj; match j, hj with
        | 0, hj => simp at hj; subst hj; simpa [Addr.add] using (blk_cell hg 0)
        | (j + 1), hj => simp at hj)
    (by intro u hu; simp at hu; subst hu; rfl) (by unfold maxLen; omega) (by omega) hb.below.size
  unfold Oper.wp execOp
  simp only [ho, resolve, invoke, builtin, Sem.run_bind, Sem.run_pure, Result.andThen_ok, List.map_toArray, List.map_cons, List.map_nil, hs, hx, hr]
  refine h v' w' (hb.grown ?_ h3) ⟨h3, h5.imp id fun e => ⟨_, e, Nat.le_refl _⟩⟩
  have e1 : (l ++ [c]).length = l.length + 1 := by simp
  rw [e1, cellsU_append]
  exact h2
theorem bytes_back {W0 w : World} {v : Value} {l : List UInt8} (hb : OwnB W0 v l w) (hl : l ≠ []) : (convert 57 9 v).run Try.prog w = .ok (.string ⟨l.toArray⟩) w := by
  rcases hb.row.2 with ⟨rfl, h0⟩ | ⟨g, cap, cur, rfl, hbg, hg, hnc, hcm, hcs, htake⟩
  · exact absurd (List.eq_nil_of_length_eq_zero h0) hl
  · refine run_convert_bytes_back w 57 9 5 ⟨g, 0, none⟩ cap l Try.underlying57 Try.underlying5 Try.underlying9 (fun j hj => ?_)
    refine hb.row.cells (g := g) rfl j _ ?_
    simp [cellsU, List.getElem?_eq_getElem hj]
end Go.Proofs.Ytamhdpllmhafhaa.X
/- Hand texts of round 1, parted: HIs. -/
namespace Go.Proofs.Ytamhdpllmhafhaa.X
open Go.RowKit Go.Proofs.YtamhdpllmhafhaaW.PrintWords Go.Proofs.YtamhdpllmhafhaaW.PrintLast Go.Proofs.YtamhdpllmhafhaaW.PrintMore
set_option linter.unusedVariables false
set_option linter.unusedSimpArgs false


/-- A value that reads as a type. -/
def IsT (w : World) (v : Value) (t : S26) : Prop := ∃ A c, v = .agg #[.int .i8 t.f0, .slice A t.f1.length c] ∧ t.f1.length ≤ c ∧ Kd.C k26 w A t.f1.length t.f1
theorem IsT.below {w w' : World} {v : Value} {t : S26} (h : IsT w v t) (hb : Below w.heap.size w w') : IsT w' v t := by
  obtain ⟨A, c, e, h1, h2⟩ := h
  exact ⟨A, c, e, h1, Kd.C_below h2 hb⟩
theorem IsT.zero (w : World) : IsT w (.agg #[.int .i8 0, .slice none 0 0]) z26 := ⟨none, 0, rfl, Nat.le_refl _, rfl, by simp [z26], fun h => absurd h (by simp [z26])⟩
theorem IsT.mk {w : World} {k : Int} {A : Option Addr} {l : List S26} {c : Nat} (h1 : l.length ≤ c) (h2 : Kd.C k26 w A l.length l) : IsT w (.agg #[.int .i8 k, .slice A l.length c]) ⟨k, l⟩ := ⟨A, c, rfl, h1, h2⟩

theorem Check_calls {t : S26} {v : Value} {w : World} (h : IsT w v t) : Calls Try.prog 38 #[v] w fun e w' => e = .returned (.int .i64 (checkI t)) ∧ Below w.heap.size w w' := by
  obtain ⟨A, c, rfl, h1, h2⟩ := h
  obtain ⟨k, hk⟩ := (Check_ev t.f0 t.f1).rounds
  rw [S26.eta] at hk
  exact types_Check.calls k t.f0 A c t.f1 _ w h2 h1 hk

/-- Three new blocks, and what a later world holds of them. -/
theorem three_blocks {w : World} {a b c : Array Value} {ta tb tc : TypeId} {w1 : World} (hB : Below (((w.alloc (.cells a ta)).alloc (.cells b tb)).alloc (.cells c tc)).heap.size (((w.alloc (.cells a ta)).alloc (.cells b tb)).alloc (.cells c tc)) w1) :
    w1.heap[w.heap.size]? = some (.cells a ta (0, 0)) ∧ w1.heap[w.heap.size + 1]? = some (.cells b tb (0, 0)) ∧ w1.heap[w.heap.size + 1 + 1]? = some (.cells c tc (0, 0)) ∧ Below w.heap.size w w1 := by
  have h1 := heap_alloc_new w (.cells a ta)
  have h2 := heap_alloc_new (w.alloc (.cells a ta)) (.cells b tb)
  have h3 := heap_alloc_new ((w.alloc (.cells a ta)).alloc (.cells b tb)) (.cells c tc)
  have hb : Below w.heap.size w (((w.alloc (.cells a ta)).alloc (.cells b tb)).alloc (.cells c tc)) := (((Below.refl _ _).alloc (Nat.le_refl _) _).alloc (by simp) _).alloc (by simp; omega) _
  refine ⟨blk_below (blk_alloc (blk_alloc h1 _) _) hB, blk_below (blk_alloc (by simpa using h2) _) hB, blk_below (by simpa using h3) hB, below_then hb hb.size hB⟩
theorem below3 (w : World) (a b c : Array Value) (ta tb tc : TypeId) : Below w.heap.size w (((w.alloc (.cells a ta)).alloc (.cells b tb)).alloc (.cells c tc)) := (((Below.refl _ _).alloc (Nat.le_refl _) _).alloc (by simp) _).alloc (by simp; omega) _
end Go.Proofs.Ytamhdpllmhafhaa.X
/- How arguments of the type api.Type, read as data, are values that the print's kinds tell. -/
namespace Go.Proofs.Ytamhdpllmhafhaa.X
open Go.ChangeShapes Go.WideShapes Go.ChangeAt Go.RowKit Go.Proofs.YtamhdpllmhafhaaW.PrintWords
set_option linter.unusedVariables false

theorem agg_of_cells {v : Value} {cs : List Value} (h : v.cells.toList = cs) (hl : cs.length ≠ 1) : v = .agg cs.toArray := by
  subst h
  cases v <;> simp_all [Value.cells]

theorem list_of_lt {α : Type} {n : Nat} {p : Nat → α → Prop} (h : ∀ i, i < n → ∃ x, p i x) : ∃ l : List α, l.length = n ∧ ∀ i x, l[i]? = some x → p i x := by
  induction n with
  | zero => exact ⟨[], rfl, fun i x h => by simp at h⟩
  | succ n ih =>
    obtain ⟨l, hl, hp⟩ := ih (fun i hi => h i (by omega))
    obtain ⟨x, hx⟩ := h n (by omega)
    refine ⟨l ++ [x], by simp [hl], fun i y hy => ?_⟩
    rcases Nat.lt_or_ge i n with hi | hi
    · rw [List.getElem?_append_left (by omega)] at hy
      exact hp i y hy
    · have hi2 : i = n := by
        have := (List.getElem?_eq_some_iff.1 hy).1
        simp at this
        omega
      subst hi2
      rw [List.getElem?_append_right (by omega)] at hy
      simp [hl] at hy
      subst hy
      exact hx
section
variable {H : Type} {enc : TypeId × Value → H} {P : Program} {w : World} {base : Nat} {spare : Nat → Bool} {held : Bool}
theorem row_of_trod {α : Type} (d : Kd α) {t e : TypeId} (ht : P.underlying t = some (.slice e)) (hc : P.cellsOf e = d.sz) {fuel : Nat} {cs : List Value} {x : DataW H × List MemPlace}
    (ih : ∀ n, n < fuel → ∀ cs x, DataW.trod enc P w base spare held n e cs = some x → ∃ v, d.K w v cs) (h : DataW.trod enc P w base spare held fuel t cs = some x) :
    ∃ A l c, cs = [.slice A l.length c] ∧ l.length ≤ c ∧ c ≤ maxLen ∧ Kd.C d w A l.length l := by
  rcases DataW.trod_slice ht h with ⟨rfl, _⟩ | ⟨a, len, cap, elems, rest, n, rfl, rfl, _, hb, hl, hm, hlen, hel, _, _⟩
  · exact ⟨none, [], 0, rfl, Nat.le_refl _, Nat.zero_le _, rfl, by simp, fun h => absurd h (by simp)⟩
  · have key : ∀ i, i < len → ∃ v cs', cs'.length = d.sz ∧ d.K w v cs' ∧ ∀ j u, cs'[j]? = some u → w.cell? (a.add (i * d.sz + j)) = some u := fun i hi => by
      have h1 := hel i hi
      rw [List.getElem?_eq_getElem (by omega)] at h1
      obtain ⟨cs', h2, h3⟩ := Option.bind_eq_some_iff.1 h1
      obtain ⟨v, hv⟩ := ih n (Nat.lt_succ_self n) _ _ h3
      rw [hc] at h2
      obtain ⟨_, h4, h5⟩ := World.cells?_some h2
      refine ⟨v, cs', h4, hv, fun j u hu => ?_⟩
      have hj : j < d.sz := by rw [← h4]; exact (List.getElem?_eq_some_iff.1 hu).1
      rw [← hu, ← h5 j hj]
      congr 1
      unfold Addr.add
      by_cases h6 : i * d.sz = 0 <;> by_cases h7 : j = 0 <;> simp [h6, h7, Nat.add_assoc] <;> omega
    obtain ⟨l, hll, hp⟩ := list_of_lt key
    subst hll
    exact ⟨some a, l, cap, rfl, hl, hm, rfl, by simp only [maxLen] at hm; omega, fun _ => ⟨a, rfl, fun j p hj => by
      obtain ⟨c, h1, h2, h3⟩ := hp j p hj
      exact ⟨c, h1, h2, h3⟩⟩⟩
end
section
variable {H : Type} {enc : TypeId × Value → H} {w : World} {base : Nat} {spare : Nat → Bool} {held : Bool}
theorem T26_of_trod (fuel : Nat) : ∀ (cs : List Value) (x : DataW H × List MemPlace), DataW.trod enc Try.prog w base spare held fuel 26 cs = some x → ∃ v : S26, k26.K w v cs := by
  induction fuel using Nat.strongRecOn with
  | _ fuel ih =>
  intro cs x h
  obtain ⟨xs, n, rfl, rfl, hl, hx, hf⟩ := DataW.trod_struct Try.underlying26 h
  have h0 := hf 0 _ rfl
  have h1 := hf 1 _ rfl
  have hx2 : xs.length = 2 := hx
  rw [List.getElem?_eq_getElem (by omega)] at h0 h1
  obtain ⟨k, e0, _, wk⟩ := DataW.trod_int Try.underlying23 h0
  obtain ⟨A, l, c, e1, hlc, _, hC⟩ := row_of_trod k26 Try.underlying24 (by kernel_rfl) (fun m hm cs x h => ih m (by omega) cs x h) h1
  have hc2 : cs.length = 2 := hl.trans (by kernel_rfl)
  match cs, hc2 with
  | [a, b], _ =>
    simp at e0 e1
    have ha : a = .int .i8 k := by simpa using (show [a] = [Value.int .i8 k] from e0)
    have hb : b = .slice A l.length c := by simpa using (show [b] = [Value.slice A l.length c] from e1)
    subst ha hb
    exact ⟨⟨k, l⟩, k26_mk w ⟨k, l⟩ hlc hC⟩
/-- An argument of the type api.Type. -/
theorem arg26 {v : Value} {x : DataW H} {ps : List MemPlace} (h : DataW.Trod enc Try.prog w base spare held 26 v x ps) :
    ∃ (k : Int) (A : Option Addr) (l : List S26) (c : Nat), v = .agg #[.int .i8 k, .slice A l.length c] ∧ l.length ≤ c ∧ Kd.C k26 w A l.length l := by
  obtain ⟨fuel, hf⟩ := h
  obtain ⟨t, ht⟩ := T26_of_trod fuel _ _ hf
  obtain ⟨A, c, e, h1, h2⟩ := k26_open ht
  exact ⟨t.f0, A, t.f1, c, by rw [agg_of_cells e (by simp)], h1, h2⟩
end
end Go.Proofs.Ytamhdpllmhafhaa.X
/- Small tools of the walks: what a step keeps. -/
namespace Go.Proofs.Ytamhdpllmhafhaa.X
open Go.ChangeShapes Go.WideShapes Go.ChangeAt Go.RowKit Go.Proofs.YtamhdpllmhafhaaW.PrintWords
set_option linter.unusedVariables false

theorem IsT.leaf (w : World) (k : Int) : IsT w (.agg #[.int .i8 k, .slice none 0 0]) ⟨k, []⟩ := ⟨none, 0, rfl, Nat.le_refl _, rfl, by simp, fun h => absurd h (by simp)⟩
theorem new2 (w : World) (o : Obj) (a : Array Value) (t : TypeId) : ((w.alloc o).alloc (.cells a t)).heap[w.heap.size + 1]? = some (.cells a t (0, 0)) := by
  have := heap_alloc_new (w.alloc o) (.cells a t)
  simpa using this
theorem c26_of {W w' : World} {g : Nat} {t : S26} {A : Option Addr} {c : Nat} {u : TypeId} (h : W.heap[g]? = some (.cells #[.int .i8 t.f0, .slice A t.f1.length c] u (0, 0))) (hB : Below W.heap.size W w') : w'.cell? ⟨g, 0, none⟩ = some (.int .i8 t.f0) ∧ w'.cell? ⟨g, 1, none⟩ = some (.slice A t.f1.length c) :=
  ⟨pw_cell_below hB ((blk_cell h 0).trans rfl), pw_cell_below hB ((blk_cell h 1).trans rfl)⟩
theorem below2 (w : World) (a b : Array Value) (ta tb : TypeId) : Below w.heap.size w ((w.alloc (.cells a ta)).alloc (.cells b tb)) := ((Below.refl _ _).alloc (Nat.le_refl _) _).alloc (by simp) _
theorem below1 (w : World) (a : Array Value) (ta : TypeId) : Below w.heap.size w (w.alloc (.cells a ta)) := (Below.refl _ _).alloc (Nat.le_refl _) _
theorem two_blocks {w : World} {a b : Array Value} {ta tb : TypeId} {w1 : World} (hB : Below ((w.alloc (.cells a ta)).alloc (.cells b tb)).heap.size ((w.alloc (.cells a ta)).alloc (.cells b tb)) w1) :
    w1.heap[w.heap.size]? = some (.cells a ta (0, 0)) ∧ w1.heap[w.heap.size + 1]? = some (.cells b tb (0, 0)) ∧ Below w.heap.size w w1 := by
  have h1 := heap_alloc_new w (.cells a ta)
  have h2 := heap_alloc_new (w.alloc (.cells a ta)) (.cells b tb)
  have hb : Below w.heap.size w ((w.alloc (.cells a ta)).alloc (.cells b tb)) := below2 ..
  exact ⟨blk_below (blk_alloc h1 _) hB, blk_below (by simpa using h2) hB, below_then hb hb.size hB⟩
theorem one_block {w : World} {a : Array Value} {ta : TypeId} {w1 : World} (hB : Below (w.alloc (.cells a ta)).heap.size (w.alloc (.cells a ta)) w1) :
    w1.heap[w.heap.size]? = some (.cells a ta (0, 0)) ∧ Below w.heap.size w w1 := by
  have h1 := heap_alloc_new w (.cells a ta)
  have hb : Below w.heap.size w (w.alloc (.cells a ta)) := (Below.refl _ _).alloc (Nat.le_refl _) _
  exact ⟨blk_below h1 hB, below_then hb hb.size hB⟩

/-- An argument of the type api.Type, as a tree. -/
theorem argT {H : Type} {enc : TypeId × Value → H} {w : World} {base : Nat} {spare : Nat → Bool} {held : Bool} {v : Value} {x : DataW H} {ps : List MemPlace} (h : DataW.Trod enc Try.prog w base spare held 26 v x ps) :
    ∃ t : S26, IsT w v t := by
  obtain ⟨k, A, l, c, rfl, h1, h2⟩ := arg26 h
  exact ⟨⟨k, l⟩, IsT.mk h1 h2⟩
theorem C_four {w : World} {ad : Addr} {a b : S26} {Aa Ab : Option Addr} {ca cb : Nat} (h0 : w.cell? (ad.add 0) = some (.int .i8 a.f0)) (h1 : w.cell? (ad.add 1) = some (.slice Aa a.f1.length ca)) (h2 : w.cell? (ad.add 2) = some (.int .i8 b.f0)) (h3 : w.cell? (ad.add 3) = some (.slice Ab b.f1.length cb))
    (ha1 : a.f1.length ≤ ca) (hb1 : b.f1.length ≤ cb) (hca : Kd.C k26 w Aa a.f1.length a.f1) (hcb : Kd.C k26 w Ab b.f1.length b.f1) : Kd.C k26 w (some ad) 2 [a, b] := by
  refine ⟨rfl, by simp, fun _ => ⟨_, rfl, fun j p hj => ?_⟩⟩
  match j, hj with
  | 0, hj =>
    obtain rfl : a = p := by simpa using hj
    refine ⟨_, rfl, k26_mk w a ha1 hca, fun i u hu => ?_⟩
    match i, hu with
    | 0, hu => exact h0.trans hu
    | 1, hu => exact h1.trans hu
  | 1, hj =>
    obtain rfl : b = p := by simpa using hj
    refine ⟨_, rfl, k26_mk w b hb1 hcb, fun i u hu => ?_⟩
    match i, hu with
    | 0, hu => exact h2.trans hu
    | 1, hu => exact h3.trans hu
theorem IsT.open2 {w : World} {v : Value} {k : Int} {x y : S26} (h : IsT w v ⟨k, [x, y]⟩) : ∃ (ad : Addr) (c : Nat) (Bx : Option Addr) (dx : Nat) (By : Option Addr) (dy : Nat), v = .agg #[.int .i8 k, .slice (some ad) 2 c] ∧
    (w.cell? ad = some (.int .i8 x.f0) ∧ w.cell? ⟨ad.block, ad.off + 1, none⟩ = some (.slice Bx x.f1.length dx) ∧ w.cell? ⟨ad.block, ad.off + 2, none⟩ = some (.int .i8 y.f0) ∧ w.cell? ⟨ad.block, ad.off + 2 + 1, none⟩ = some (.slice By y.f1.length dy)) ∧ IsT w (.agg #[.int .i8 x.f0, .slice Bx x.f1.length dx]) x ∧ IsT w (.agg #[.int .i8 y.f0, .slice By y.f1.length dy]) y ∧ ad.block < w.heap.size := by
  obtain ⟨A, c, rfl, h1, h2⟩ := h
  obtain ⟨ad, B1, d1, hA, hx0, hx1, hl1, hi1⟩ := at_T26 h2 0 (by simp) (by simp)
  obtain ⟨ad', B2, d2, hA', hy0, hy1, hl2, hi2⟩ := at_T26 h2 1 (by simp) (by simp)
  obtain rfl : some ad = A := hA.symm
  obtain rfl : ad = ad' := by simpa using hA'
  have ra : rd_T26 [x, y] 0 = x := rfl
  have rb : rd_T26 [x, y] 1 = y := rfl
  simp only [ra, rb] at hx0 hx1 hy0 hy1 hl1 hl2 hi1 hi2
  have hlt := World.block_lt_of_cell? w _ hx0
  simp [Addr.add] at hx0 hx1 hy0 hy1 hlt
  have TA := IsT.mk (k := x.f0) hl1 hi1
  have TB := IsT.mk (k := y.f0) hl2 hi2
  rw [S26.eta] at TA TB
  exact ⟨ad, c, B1, d1, B2, d2, rfl, ⟨hx0, hx1, hy0, hy1⟩, TA, TB, hlt⟩
theorem four_of {W w' : World} {ad : Addr} {x y : S26} {Bx By : Option Addr} {dx dy : Nat} (h : (W.cell? ad = some (.int .i8 x.f0) ∧ W.cell? ⟨ad.block, ad.off + 1, none⟩ = some (.slice Bx x.f1.length dx) ∧ W.cell? ⟨ad.block, ad.off + 2, none⟩ = some (.int .i8 y.f0) ∧ W.cell? ⟨ad.block, ad.off + 2 + 1, none⟩ = some (.slice By y.f1.length dy))) (hB : Below W.heap.size W w') : (w'.cell? ad = some (.int .i8 x.f0) ∧ w'.cell? ⟨ad.block, ad.off + 1, none⟩ = some (.slice Bx x.f1.length dx) ∧ w'.cell? ⟨ad.block, ad.off + 2, none⟩ = some (.int .i8 y.f0) ∧ w'.cell? ⟨ad.block, ad.off + 2 + 1, none⟩ = some (.slice By y.f1.length dy)) :=
  ⟨pw_cell_below hB h.1, pw_cell_below hB h.2.1, pw_cell_below hB h.2.2.1, pw_cell_below hB h.2.2.2⟩
end Go.Proofs.Ytamhdpllmhafhaa.X
/- The contract of types.write and types.Text: the text of a right type. -/
namespace Go.Proofs.Ytamhdpllmhafhaa.X
open Go.RowKit Go.Proofs.YtamhdpllmhafhaaW.PrintWords Go.Proofs.YtamhdpllmhafhaaW.PrintLast Go.Proofs.YtamhdpllmhafhaaW.PrintMore
set_option linter.unusedVariables false
set_option linter.unusedSimpArgs false

def brk (b : Bool) (t : List UInt8) : List UInt8 := if b then 40 :: (t ++ [41]) else t
def parC (p : Int × List UInt8) (least : Int) : List UInt8 := brk (decide (tightI p.1 < least)) p.2
def leftI (k : Int) : Int := if k = 3 then tightI k + 1 else tightI k
def rightI (k : Int) : Int := if k = 3 then tightI k else tightI k + 1
def joinC (k : Int) : List (Int × List UInt8) → List UInt8
  | [p, q] => parC p (leftI k) ++ signL k ++ parC q (rightI k)
  | _ => signL k
mutual
def core : S26 → List UInt8
  | ⟨k, l⟩ => joinC k (coreL l)
def coreL : List S26 → List (Int × List UInt8)
  | [] => []
  | x :: l => (x.f0, core x) :: coreL l
end
def parT (t : S26) (least : Int) : List UInt8 := brk (decide (tightI t.f0 < least)) (core t)
theorem core_leaf (k : Int) : core ⟨k, []⟩ = signL k := by simp [core, coreL, joinC]
theorem core_two (k : Int) (x y : S26) : core ⟨k, [x, y]⟩ = parT x (leftI k) ++ signL k ++ parT y (rightI k) := by simp [core, coreL, joinC, parC, parT]
theorem brk_len (b : Bool) (t : List UInt8) : (brk b t).length ≤ t.length + 2 := by unfold brk; split <;> simp
theorem signL_len (k : Int) : (signL k).length ≤ 4 ∧ 1 ≤ (signL k).length := by
  unfold signL
  by_cases h0 : k = 0
  · simp [h0]
  by_cases h1 : k = 1
  · simp [h1]
  by_cases h2 : k = 2
  · simp [h2]
  by_cases h3 : k = 3
  · simp [h3]
  by_cases h4 : k = 4 <;> simp [h0, h1, h2, h3, h4]
theorem signS_len {l : List UInt8} (h : l.length ≤ 200000000) (k : Int) : l.length + (signS k).size ≤ 1000000000 := by
  have : (signS k).size = (signL k).length := by simp [signS, ByteArray.size]
  have := (signL_len k).1
  omega
theorem core_len (t : S26) (h : rightB t = true) : (core t).length + 2 ≤ 6 * nodes t := by
  refine right_ind (P := fun t => (core t).length + 2 ≤ 6 * nodes t) (fun k hk => ?_) (fun k a b hk ha hb h1 h2 => ?_) t h
  · rw [core_leaf, nodes_leaf]; have := (signL_len k).1; omega
  · rw [core_two, nodes_two]
    have := (signL_len k).1
    have h3 := brk_len (decide (tightI a.f0 < leftI k)) (core a)
    have h4 := brk_len (decide (tightI b.f0 < rightI k)) (core b)
    simp only [parT, List.length_append]
    omega
theorem parT_len (t : S26) (l : Int) (h : rightB t = true) : (parT t l).length ≤ 6 * nodes t := by
  have h1 := core_len t h
  have h2 := brk_len (decide (tightI t.f0 < l)) (core t)
  unfold parT
  omega
theorem core_ne (t : S26) (h : rightB t = true) : core t ≠ [] := by
  intro e
  rcases right_cases h with ⟨k, hk, rfl⟩ | ⟨k, a, b, hk, ha, hb, rfl⟩
  · rw [core_leaf] at e; have := (signL_len k).2; rw [e] at this; simp at this
  · rw [core_two] at e; have := (signL_len k).2; have h2 := congrArg List.length e; simp only [List.length_append, List.length_nil] at h2; omega
theorem parT_own {t : S26} {l : Int} (h : l ≤ tightI t.f0) : parT t l = core t := by
  unfold parT brk; rw [if_neg]; simp; omega
theorem parT_brk {t : S26} {l : Int} (h : tightI t.f0 < l) : parT t l = 40 :: (core t ++ [41]) := by
  unfold parT brk; rw [if_pos]; simp; omega
def WPost (W0 : World) (v : Value) (w : World) (l : List UInt8) (e : Ending) (w' : World) : Prop := ∃ v', e = .returned v' ∧ OwnB W0 v' l w' ∧ Grew v w v' w'
theorem OwnB.ne {W0 : World} {v : Value} {l : List UInt8} {w : World} (h : OwnB W0 v l w) : v.ownBlock ≠ some w.heap.size := by
  intro e
  have := (h.row.lt _ e).2
  omega
set_option maxRecDepth 100000 in
set_option maxHeartbeats 1600000 in
theorem write_leaf (k : Int) (hk : leafK k) (least : Int) (h4 : least ≤ 4) (h0 : 0 ≤ least) (v : Value) (l : List UInt8) (W0 w : World) (A : Option Addr) (c : Nat) (HO : Aside0 (OwnB W0 v l w)) (HLEN : Aside0 (l.length ≤ 100000000)) :
    Calls Try.prog 77 #[v, .agg #[.int .i8 k, .slice A 0 c], .int .i64 least] w (WPost W0 v w (l ++ signL k)) := by
  rcases hk with rfl | rfl | rfl
  · go_enter Try.func77, Try.ntmps77
    go_wp2_with fail
    refine (tight_calls (k := 0) (by simp [leafK]) _).mono ?_
    rintro e w1 ⟨rfl, hB⟩
    rw [show tightI 0 = 4 from rfl]
    obtain ⟨k1, hB1⟩ := one_block hB
    have K1 := Aside0.mk k1
    have G1 := Aside0.mk (Grew.below (v := v) hB1)
    replace HO := Aside0.mk (HO.out.after hB1)
    clear hB hB1 k1
    have e10 := (blk_cell K1.out 0).trans rfl
    have e11 := (blk_cell K1.out 1).trans rfl
    simp at e10 e11
    go_wp2_with fail
    refine (sign_calls (k := 0) (by simp [leafK]) _).mono ?_
    rintro e w2 ⟨rfl, hB⟩
    replace G1 := Aside0.mk (G1.out.trans (Grew.below hB))
    replace HO := Aside0.mk (HO.out.after hB)
    clear hB e10 e11
    go_wp2_with (at_builtin; refine wpList_text rfl _ _ rfl rfl HO.out _ rfl (signS_len (by have := HLEN.out; omega) _) ?_; intro v' w3 hO3 hG3; replace HO := Aside0.mk hO3; replace G1 := Aside0.mk (G1.out.trans hG3); clear hO3 hG3)
    go_ret
    exact ⟨v', rfl, HO.out, G1.out⟩
  · go_enter Try.func77, Try.ntmps77
    go_wp2_with fail
    refine (tight_calls (k := 1) (by simp [leafK]) _).mono ?_
    rintro e w1 ⟨rfl, hB⟩
    rw [show tightI 1 = 4 from rfl]
    obtain ⟨k1, hB1⟩ := one_block hB
    have K1 := Aside0.mk k1
    have G1 := Aside0.mk (Grew.below (v := v) hB1)
    replace HO := Aside0.mk (HO.out.after hB1)
    clear hB hB1 k1
    have e10 := (blk_cell K1.out 0).trans rfl
    have e11 := (blk_cell K1.out 1).trans rfl
    simp at e10 e11
    go_wp2_with fail
    refine (sign_calls (k := 1) (by simp [leafK]) _).mono ?_
    rintro e w2 ⟨rfl, hB⟩
    replace G1 := Aside0.mk (G1.out.trans (Grew.below hB))
    replace HO := Aside0.mk (HO.out.after hB)
    clear hB e10 e11
    go_wp2_with (at_builtin; refine wpList_text rfl _ _ rfl rfl HO.out _ rfl (signS_len (by have := HLEN.out; omega) _) ?_; intro v' w3 hO3 hG3; replace HO := Aside0.mk hO3; replace G1 := Aside0.mk (G1.out.trans hG3); clear hO3 hG3)
    go_ret
    exact ⟨v', rfl, HO.out, G1.out⟩
  · go_enter Try.func77, Try.ntmps77
    go_wp2_with fail
    refine (tight_calls (k := 2) (by simp [leafK]) _).mono ?_
    rintro e w1 ⟨rfl, hB⟩
    rw [show tightI 2 = 4 from rfl]
    obtain ⟨k1, hB1⟩ := one_block hB
    have K1 := Aside0.mk k1
    have G1 := Aside0.mk (Grew.below (v := v) hB1)
    replace HO := Aside0.mk (HO.out.after hB1)
    clear hB hB1 k1
    have e10 := (blk_cell K1.out 0).trans rfl
    have e11 := (blk_cell K1.out 1).trans rfl
    simp at e10 e11
    go_wp2_with fail
    refine (sign_calls (k := 2) (by simp [leafK]) _).mono ?_
    rintro e w2 ⟨rfl, hB⟩
    replace G1 := Aside0.mk (G1.out.trans (Grew.below hB))
    replace HO := Aside0.mk (HO.out.after hB)
    clear hB e10 e11
    go_wp2_with (at_builtin; refine wpList_text rfl _ _ rfl rfl HO.out _ rfl (signS_len (by have := HLEN.out; omega) _) ?_; intro v' w3 hO3 hG3; replace HO := Aside0.mk hO3; replace G1 := Aside0.mk (G1.out.trans hG3); clear hO3 hG3)
    go_ret
    exact ⟨v', rfl, HO.out, G1.out⟩

def WriteIH (n : Nat) : Prop := ∀ (t : S26) (least : Int) (v : Value) (l : List UInt8) (W0 w : World) (vt : Value), nodes t < n → rightB t = true → IsT W0 vt t → 0 ≤ least → least ≤ 4 → OwnB W0 v l w → l.length + 6 * nodes t ≤ 100000000 →
    Calls Try.prog 77 #[v, vt, .int .i64 least] w (WPost W0 v w (l ++ parT t least))
set_option maxRecDepth 100000 in
set_option maxHeartbeats 1600000 in
theorem write_node (n : Nat) (k : Int) (x y : S26) (hk : nodeK k) (least : Int) (h4 : least ≤ tightI k) (h0 : 0 ≤ least) (v : Value) (l : List UInt8) (W0 w : World) (vt : Value) (IH : Aside0 (WriteIH n)) (HN : Aside0 (nodes ⟨k, [x, y]⟩ < n + 1)) (HX : Aside0 (rightB x = true)) (HY : Aside0 (rightB y = true)) (HT : Aside0 (IsT W0 vt ⟨k, [x, y]⟩)) (HO : Aside0 (OwnB W0 v l w)) (HLEN : Aside0 (l.length + 6 * nodes ⟨k, [x, y]⟩ ≤ 100000001)) :
    Calls Try.prog 77 #[v, vt, .int .i64 least] w (WPost W0 v w (l ++ core ⟨k, [x, y]⟩)) := by
  rcases hk with rfl | rfl | rfl
  · replace h4 : least ≤ 1 := h4
    obtain ⟨ad, c, Bx, dx, By, dy, rfl, hF, hX, hY, _⟩ := HT.out.open2
    have HF := Aside0.mk hF
    have TX := Aside0.mk hX
    have TY := Aside0.mk hY
    have ne := HO.out.ne
    have NE := Aside0.mk ne
    clear HT hF hX hY ne
    go_enter Try.func77, Try.ntmps77
    go_wp2_with fail
    refine (tight_calls (k := 3) (by simp [nodeK]) _).mono ?_
    rintro e w1 ⟨rfl, hB⟩
    rw [show tightI 3 = 1 from rfl]
    obtain ⟨k1, hB1⟩ := one_block hB
    have K1 := Aside0.mk k1
    have G1 := Aside0.mk (Grew.below (v := v) hB1)
    replace HO := Aside0.mk (HO.out.after hB1)
    clear hB hB1 k1
    have e10 := (blk_cell K1.out 0).trans rfl
    have e11 := (blk_cell K1.out 1).trans rfl
    simp at e10 e11
    obtain ⟨c0, c1, c2, c3⟩ := four_of HF.out HO.out.below
    go_wp2_with fail
    refine (IH.out x 2 v l W0 w1 _ (by have := nodes_pos y; have := HN.out; rw [nodes_two] at this; omega) HX.out TX.out (by omega) (by omega) HO.out (by have := HLEN.out; rw [nodes_two] at this; omega)).mono ?_
    rintro e w2 ⟨v2, rfl, hO, hG⟩
    have hk := hG.keep K1.out NE.out
    replace K1 := Aside0.mk hk.1
    replace NE := Aside0.mk hk.2
    replace G1 := Aside0.mk (G1.out.trans hG)
    replace HO := Aside0.mk hO
    clear hO hG hk e10 e11 c0 c1 c2 c3
    have e10 := (blk_cell K1.out 0).trans rfl
    have e11 := (blk_cell K1.out 1).trans rfl
    simp at e10 e11
    go_wp2_with fail
    refine (sign_calls (k := 3) (by simp [nodeK]) _).mono ?_
    rintro e w3 ⟨rfl, hB⟩
    replace K1 := Aside0.mk (blk_below K1.out hB)
    replace G1 := Aside0.mk (G1.out.trans (Grew.below hB))
    replace HO := Aside0.mk (HO.out.after hB)
    clear hB e10 e11
    go_wp2_with (at_builtin; refine wpList_text rfl _ _ rfl rfl HO.out _ rfl (signS_len (by have := HLEN.out; have := parT_len x 2 HX.out; rw [nodes_two] at *; simp only [List.length_append]; omega) _) ?_; intro v3 w4 hO3 hG3; have hk := hG3.keep K1.out NE.out; replace K1 := Aside0.mk hk.1; replace NE := Aside0.mk hk.2; replace HO := Aside0.mk hO3; replace G1 := Aside0.mk (G1.out.trans hG3); clear hO3 hG3 hk; have e10 := (blk_cell K1.out 0).trans rfl; have e11 := (blk_cell K1.out 1).trans rfl; simp at e10 e11; obtain ⟨c0, c1, c2, c3⟩ := four_of HF.out HO.out.below)
    refine (IH.out y 1 v3 _ W0 w4 _ (by have := nodes_pos x; have := HN.out; rw [nodes_two] at this; omega) HY.out TY.out (by omega) (by omega) HO.out (by have := HLEN.out; have := parT_len x 2 HX.out; have := (signL_len 3).1; rw [nodes_two] at *; simp only [List.length_append, signS_list]; omega)).mono ?_
    rintro e w5 ⟨v5, rfl, hO, hG⟩
    replace G1 := Aside0.mk (G1.out.trans hG)
    replace HO := Aside0.mk hO
    clear hO hG e10 e11 c0 c1 c2 c3
    go_wp2_with fail
    go_ret
    refine ⟨v5, rfl, ?_, G1.out⟩
    have hh := HO.out
    rw [signS_list, List.append_assoc, List.append_assoc] at hh
    rw [core_two, List.append_assoc]
    exact hh
  · replace h4 : least ≤ 3 := h4
    obtain ⟨ad, c, Bx, dx, By, dy, rfl, hF, hX, hY, _⟩ := HT.out.open2
    have HF := Aside0.mk hF
    have TX := Aside0.mk hX
    have TY := Aside0.mk hY
    have ne := HO.out.ne
    have NE := Aside0.mk ne
    clear HT hF hX hY ne
    go_enter Try.func77, Try.ntmps77
    go_wp2_with fail
    refine (tight_calls (k := 4) (by simp [nodeK]) _).mono ?_
    rintro e w1 ⟨rfl, hB⟩
    rw [show tightI 4 = 3 from rfl]
    obtain ⟨k1, hB1⟩ := one_block hB
    have K1 := Aside0.mk k1
    have G1 := Aside0.mk (Grew.below (v := v) hB1)
    replace HO := Aside0.mk (HO.out.after hB1)
    clear hB hB1 k1
    have e10 := (blk_cell K1.out 0).trans rfl
    have e11 := (blk_cell K1.out 1).trans rfl
    simp at e10 e11
    obtain ⟨c0, c1, c2, c3⟩ := four_of HF.out HO.out.below
    go_wp2_with fail
    refine (IH.out x 3 v l W0 w1 _ (by have := nodes_pos y; have := HN.out; rw [nodes_two] at this; omega) HX.out TX.out (by omega) (by omega) HO.out (by have := HLEN.out; rw [nodes_two] at this; omega)).mono ?_
    rintro e w2 ⟨v2, rfl, hO, hG⟩
    have hk := hG.keep K1.out NE.out
    replace K1 := Aside0.mk hk.1
    replace NE := Aside0.mk hk.2
    replace G1 := Aside0.mk (G1.out.trans hG)
    replace HO := Aside0.mk hO
    clear hO hG hk e10 e11 c0 c1 c2 c3
    have e10 := (blk_cell K1.out 0).trans rfl
    have e11 := (blk_cell K1.out 1).trans rfl
    simp at e10 e11
    go_wp2_with fail
    refine (sign_calls (k := 4) (by simp [nodeK]) _).mono ?_
    rintro e w3 ⟨rfl, hB⟩
    replace K1 := Aside0.mk (blk_below K1.out hB)
    replace G1 := Aside0.mk (G1.out.trans (Grew.below hB))
    replace HO := Aside0.mk (HO.out.after hB)
    clear hB e10 e11
    go_wp2_with (at_builtin; refine wpList_text rfl _ _ rfl rfl HO.out _ rfl (signS_len (by have := HLEN.out; have := parT_len x 3 HX.out; rw [nodes_two] at *; simp only [List.length_append]; omega) _) ?_; intro v3 w4 hO3 hG3; have hk := hG3.keep K1.out NE.out; replace K1 := Aside0.mk hk.1; replace NE := Aside0.mk hk.2; replace HO := Aside0.mk hO3; replace G1 := Aside0.mk (G1.out.trans hG3); clear hO3 hG3 hk; have e10 := (blk_cell K1.out 0).trans rfl; have e11 := (blk_cell K1.out 1).trans rfl; simp at e10 e11; obtain ⟨c0, c1, c2, c3⟩ := four_of HF.out HO.out.below)
    refine (IH.out y 4 v3 _ W0 w4 _ (by have := nodes_pos x; have := HN.out; rw [nodes_two] at this; omega) HY.out TY.out (by omega) (by omega) HO.out (by have := HLEN.out; have := parT_len x 3 HX.out; have := (signL_len 4).1; rw [nodes_two] at *; simp only [List.length_append, signS_list]; omega)).mono ?_
    rintro e w5 ⟨v5, rfl, hO, hG⟩
    replace G1 := Aside0.mk (G1.out.trans hG)
    replace HO := Aside0.mk hO
    clear hO hG e10 e11 c0 c1 c2 c3
    go_wp2_with fail
    go_ret
    refine ⟨v5, rfl, ?_, G1.out⟩
    have hh := HO.out
    rw [signS_list, List.append_assoc, List.append_assoc] at hh
    rw [core_two, List.append_assoc]
    exact hh
  · replace h4 : least ≤ 2 := h4
    obtain ⟨ad, c, Bx, dx, By, dy, rfl, hF, hX, hY, _⟩ := HT.out.open2
    have HF := Aside0.mk hF
    have TX := Aside0.mk hX
    have TY := Aside0.mk hY
    have ne := HO.out.ne
    have NE := Aside0.mk ne
    clear HT hF hX hY ne
    go_enter Try.func77, Try.ntmps77
    go_wp2_with fail
    refine (tight_calls (k := 5) (by simp [nodeK]) _).mono ?_
    rintro e w1 ⟨rfl, hB⟩
    rw [show tightI 5 = 2 from rfl]
    obtain ⟨k1, hB1⟩ := one_block hB
    have K1 := Aside0.mk k1
    have G1 := Aside0.mk (Grew.below (v := v) hB1)
    replace HO := Aside0.mk (HO.out.after hB1)
    clear hB hB1 k1
    have e10 := (blk_cell K1.out 0).trans rfl
    have e11 := (blk_cell K1.out 1).trans rfl
    simp at e10 e11
    obtain ⟨c0, c1, c2, c3⟩ := four_of HF.out HO.out.below
    go_wp2_with fail
    refine (IH.out x 2 v l W0 w1 _ (by have := nodes_pos y; have := HN.out; rw [nodes_two] at this; omega) HX.out TX.out (by omega) (by omega) HO.out (by have := HLEN.out; rw [nodes_two] at this; omega)).mono ?_
    rintro e w2 ⟨v2, rfl, hO, hG⟩
    have hk := hG.keep K1.out NE.out
    replace K1 := Aside0.mk hk.1
    replace NE := Aside0.mk hk.2
    replace G1 := Aside0.mk (G1.out.trans hG)
    replace HO := Aside0.mk hO
    clear hO hG hk e10 e11 c0 c1 c2 c3
    have e10 := (blk_cell K1.out 0).trans rfl
    have e11 := (blk_cell K1.out 1).trans rfl
    simp at e10 e11
    go_wp2_with fail
    refine (sign_calls (k := 5) (by simp [nodeK]) _).mono ?_
    rintro e w3 ⟨rfl, hB⟩
    replace K1 := Aside0.mk (blk_below K1.out hB)
    replace G1 := Aside0.mk (G1.out.trans (Grew.below hB))
    replace HO := Aside0.mk (HO.out.after hB)
    clear hB e10 e11
    go_wp2_with (at_builtin; refine wpList_text rfl _ _ rfl rfl HO.out _ rfl (signS_len (by have := HLEN.out; have := parT_len x 2 HX.out; rw [nodes_two] at *; simp only [List.length_append]; omega) _) ?_; intro v3 w4 hO3 hG3; have hk := hG3.keep K1.out NE.out; replace K1 := Aside0.mk hk.1; replace NE := Aside0.mk hk.2; replace HO := Aside0.mk hO3; replace G1 := Aside0.mk (G1.out.trans hG3); clear hO3 hG3 hk; have e10 := (blk_cell K1.out 0).trans rfl; have e11 := (blk_cell K1.out 1).trans rfl; simp at e10 e11; obtain ⟨c0, c1, c2, c3⟩ := four_of HF.out HO.out.below)
    refine (IH.out y 3 v3 _ W0 w4 _ (by have := nodes_pos x; have := HN.out; rw [nodes_two] at this; omega) HY.out TY.out (by omega) (by omega) HO.out (by have := HLEN.out; have := parT_len x 2 HX.out; have := (signL_len 5).1; rw [nodes_two] at *; simp only [List.length_append, signS_list]; omega)).mono ?_
    rintro e w5 ⟨v5, rfl, hO, hG⟩
    replace G1 := Aside0.mk (G1.out.trans hG)
    replace HO := Aside0.mk hO
    clear hO hG e10 e11 c0 c1 c2 c3
    go_wp2_with fail
    go_ret
    refine ⟨v5, rfl, ?_, G1.out⟩
    have hh := HO.out
    rw [signS_list, List.append_assoc, List.append_assoc] at hh
    rw [core_two, List.append_assoc]
    exact hh
end Go.Proofs.Ytamhdpllmhafhaa.X
/- Steps of a region that draws its order, with a condition held: an operation taken first, and one that is not wanted. -/
namespace Go.Proofs.Ytamhdpllmhafhaa.X
open Go
section
variable {P : Program} {ops : Array Oper} {Q : Exit → Act → World → Prop} {md : Region.Mode} {S : World → Prop}
theorem takeH {d : Option Tmp} (i : Nat) {oi : Oper} {v : Value} {fuel : Nat} {listed : Array Bool} {a : Act} {w : World} (hi : ops[i]? = some oi) (hd : oi.dst = d)
    (hs : Region.noSelect ops = true) (hf : Region.free md ops listed i = true) (hr : (Region.ready md ops listed).contains i = true)
    (hQ : ∀ c a w, Q (.panic c) (a.put d v) w → Q (.panic c) a w) (hw : Region.wanted oi (yielded ops a.tmps) = true)
    (hy : ∀ w, S w → (execOp a.eval oi).run P w = .ok (.value v) w) (hS : S w)
    (h : wpAnyH P md ops Q S fuel (listed.setIfInBounds i true) (a.put d v) w) : wpAnyH P md ops Q S (fuel + 1) listed a w := by
  subst hd
  exact wpAnyH_take hi hs hf hr hQ (Or.inl ⟨hw, hy⟩) hS h
theorem passH {d : Option Tmp} (i : Nat) {oi : Oper} {fuel : Nat} {listed : Array Bool} {a : Act} {w : World} (hi : ops[i]? = some oi) (hd : oi.dst = d)
    (hs : Region.noSelect ops = true) (hf : Region.free md ops listed i = true) (hr : (Region.ready md ops listed).contains i = true)
    (hQ : ∀ c a w, Q (.panic c) (a.put d undef) w → Q (.panic c) a w) (hw : Region.wanted oi (yielded ops a.tmps) = false) (hS : S w)
    (h : wpAnyH P md ops Q S fuel (listed.setIfInBounds i true) (a.put d undef) w) : wpAnyH P md ops Q S (fuel + 1) listed a w := by
  subst hd
  exact wpAnyH_take hi hs hf hr hQ (Or.inr ⟨hw, rfl⟩) hS h
end
end Go.Proofs.Ytamhdpllmhafhaa.X
/- Steps of a region that draws its order, with a condition held: a call by the callee's contract, the operands read by evaluation; and the steps under a guard that is a variable. -/
namespace Go.Proofs.Ytamhdpllmhafhaa.X
open Go
section
variable {P : Program} {ops : Array Oper} {Q : Exit → Act → World → Prop} {md : Region.Mode} {S : World → Prop}
theorem callH {d : Option Tmp} (i : Nat) {oi : Oper} {fuel : Nat} {listed : Array Bool} {a : Act} {w : World} {f : FuncId} {args : Array Value} {R : Ending → World → Prop}
    (hi : ops[i]? = some oi) (hd : oi.dst = d) (hr : Region.ready md ops listed = [i]) (hw : Region.wanted oi (yielded ops a.tmps) = true)
    (hx : (execOp a.eval oi).run P w = .ok (.enter f args) w) (hc : Calls P f args w R)
    (h : ∀ e w', R e w' → ∃ v, e = .returned v ∧ S w' ∧ (S w' → wpAnyH P md ops Q S fuel (listed.setIfInBounds i true) (a.put d v) w')) :
    wpAnyH P md ops Q S (fuel + 1) listed a w := by
  subst hd
  refine wpAnyH_ready (rs := [i]) hr (by simp) (AllReadyH.cons hi (fun K hK => ?_) AllReadyH.nil)
  rw [if_pos hw]
  unfold Oper.wp
  rw [hx, Oper.upon_enter]
  refine hc.mono fun e w' hR => ?_
  obtain ⟨v, rfl, hS, hW⟩ := h e w' hR
  exact hK.out _ _ hS hW
/-- The same where the guard is a variable: behind it the slot holds the answer, or nothing. -/
theorem callCH {d : Option Tmp} (p : Bool) (i : Nat) {oi : Oper} {fuel : Nat} {listed : Array Bool} {a : Act} {w : World} {f : FuncId} {args : Array Value} {v : Value} {T : World → Prop}
    (hi : ops[i]? = some oi) (hd : oi.dst = d) (hr : Region.ready md ops listed = [i]) (hw : Region.wanted oi (yielded ops a.tmps) = p)
    (hx : p = true → (execOp a.eval oi).run P w = .ok (.enter f args) w) (h0 : T w) (hc : Calls P f args w fun e w' => e = .returned v ∧ T w')
    (h : ∀ w', T w' → S w' ∧ (S w' → wpAnyH P md ops Q S fuel (listed.setIfInBounds i true) (a.put d (bif p then v else undef)) w')) :
    wpAnyH P md ops Q S (fuel + 1) listed a w := by
  subst hd
  refine wpAnyH_ready (rs := [i]) hr (by simp) (AllReadyH.cons hi (fun K hK => ?_) AllReadyH.nil)
  cases p with
  | true =>
    rw [if_pos hw]
    unfold Oper.wp
    rw [hx rfl, Oper.upon_enter]
    refine hc.mono fun e w' ⟨he, hT⟩ => ?_
    subst he
    exact hK.out _ _ (h w' hT).1 (h w' hT).2
  | false =>
    rw [if_neg (by rw [hw]; simp)]
    exact hK.out _ _ (h w h0).1 (h w h0).2
theorem takeCH {d : Option Tmp} (p : Bool) (i : Nat) {oi : Oper} {v : Value} {fuel : Nat} {listed : Array Bool} {a : Act} {w : World} (hi : ops[i]? = some oi) (hd : oi.dst = d)
    (hs : Region.noSelect ops = true) (hf : Region.free md ops listed i = true) (hr : (Region.ready md ops listed).contains i = true)
    (hQ : ∀ c a w, Q (.panic c) (a.put d (bif p then v else undef)) w → Q (.panic c) a w) (hw : Region.wanted oi (yielded ops a.tmps) = p)
    (hy : p = true → ∀ w, S w → (execOp a.eval oi).run P w = .ok (.value v) w) (hS : S w)
    (h : wpAnyH P md ops Q S fuel (listed.setIfInBounds i true) (a.put d (bif p then v else undef)) w) : wpAnyH P md ops Q S (fuel + 1) listed a w := by
  subst hd
  cases p with
  | true => exact wpAnyH_take hi hs hf hr hQ (Or.inl ⟨hw, hy rfl⟩) hS h
  | false => exact wpAnyH_take hi hs hf hr hQ (Or.inr ⟨hw, rfl⟩) hS h
end
end Go.Proofs.Ytamhdpllmhafhaa.X
/- The bracket. -/
namespace Go.Proofs.Ytamhdpllmhafhaa.X
open Go.RowKit Go.Proofs.YtamhdpllmhafhaaW.PrintWords Go.Proofs.YtamhdpllmhafhaaW.PrintLast Go.Proofs.YtamhdpllmhafhaaW.PrintMore
set_option linter.unusedVariables false
set_option linter.unusedSimpArgs false

theorem brk_fits {l : List UInt8} {t : S26} (h : l.length + 6 * nodes t ≤ 100000000) (hr : rightB t = true) : (l ++ [40] ++ core t).length + 1 ≤ 1000000000 := by
  have := core_len t hr
  simp only [List.length_append, List.length_cons, List.length_nil]
  omega
set_option maxRecDepth 100000 in
set_option maxHeartbeats 1600000 in
theorem write_brk (t : S26) (hk : leafK t.f0 ∨ nodeK t.f0) (least : Int) (h4 : tightI t.f0 < least) (v : Value) (l : List UInt8) (W0 w : World) (A : Option Addr) (c : Nat) (HR : Aside0 (rightB t = true)) (HT : Aside0 (IsT W0 (.agg #[.int .i8 t.f0, .slice A t.f1.length c]) t)) (HO : Aside0 (OwnB W0 v l w)) (HLEN : Aside0 (l.length + 6 * nodes t ≤ 100000000))
    (IH : Aside0 (∀ (v : Value) (w : World), OwnB W0 v (l ++ [40]) w → Calls Try.prog 77 #[v, .agg #[.int .i8 t.f0, .slice A t.f1.length c], .int .i64 0] w (WPost W0 v w (l ++ [40] ++ core t)))) :
    Calls Try.prog 77 #[v, .agg #[.int .i8 t.f0, .slice A t.f1.length c], .int .i64 least] w (WPost W0 v w (l ++ (40 :: (core t ++ [41])))) := by
  have hlen := HLEN.out
  have ne := HO.out.ne
  have NE := Aside0.mk ne
  clear ne
  go_enter Try.func77, Try.ntmps77
  go_wp2_with fail
  refine (tight_calls hk _).mono ?_
  rintro e w1 ⟨rfl, hB⟩
  obtain ⟨k1, hB1⟩ := one_block hB
  have K1 := Aside0.mk k1
  have G1 := Aside0.mk (Grew.below (v := v) hB1)
  replace HO := Aside0.mk (HO.out.after hB1)
  clear hB hB1 k1
  go_wp2_with fail
  have OK := Aside0.mk (fun (w' : World) (h : w'.heap[w.heap.size]? = some (.cells #[.int .i8 t.f0, .slice A t.f1.length c] 26 (0, 0))) => (⟨(blk_cell h 0).trans rfl, (blk_cell h 1).trans rfl⟩ : w'.cell? ⟨w.heap.size, 0, none⟩ = some (.int .i8 t.f0) ∧ w'.cell? ⟨w.heap.size, 1, none⟩ = some (.slice A t.f1.length c)))
  refine wp_region_held_drew (S := fun w' => w'.cell? ⟨w.heap.size, 0, none⟩ = some (.int .i8 t.f0) ∧ w'.cell? ⟨w.heap.size, 1, none⟩ = some (.slice A t.f1.length c)) (by kernel_rfl) (OK.out _ (blk_below K1.out (Below.refl _ _).drew)) (fun hHeld => ?_)
  replace K1 := Aside0.mk (blk_below K1.out (Below.refl _ _).drew)
  replace G1 := Aside0.mk (G1.out.trans (Grew.below (Below.refl _ _).drew))
  replace HO := Aside0.mk (HO.out.after (Below.refl _ _).drew)
  generalize w1.drew = wd at *
  refine takeH (d := some 16) (v := ?_) 0 rfl rfl (by kernel_rfl) (by kernel_rfl) (by kernel_rfl) (fun _ _ _ h => h) (by rfl) ?_ hHeld ?_
  rotate_left
  · intro w hSw
    try dsimp only at hSw
    go_simp <;> with_reducible rfl
  try simp only [Act.put, List.setIfInBounds_toArray, List.set_cons_zero, List.set_cons_succ]
  refine takeH (d := some 19) (v := ?_) 3 rfl rfl (by kernel_rfl) (by kernel_rfl) (by kernel_rfl) (fun _ _ _ h => h) (by rfl) ?_ hHeld ?_
  rotate_left
  · intro w hSw
    try dsimp only at hSw
    go_simp <;> with_reducible rfl
  try simp only [Act.put, List.setIfInBounds_toArray, List.set_cons_zero, List.set_cons_succ]
  refine wpAnyH_ready (rs := [1, 5]) (by kernel_rfl) (by simp) ?_
  refine AllReadyH.cons rfl (fun K hK => ?_) (AllReadyH.cons rfl (fun K hK => ?_) AllReadyH.nil)
  · go_simp
    have nx := HO.out.ne
    have hx := heap_alloc_new wd (.cells #[.int .u8 40] 5)
    have hB := below1 wd #[.int .u8 40] 5
    refine hK.out _ _ (OK.out _ (blk_below K1.out hB)) (fun hHeld => ?_)
    clear hK K
    replace K1 := Aside0.mk (blk_below K1.out hB)
    have H40 := Aside0.mk hx
    have N40 := Aside0.mk nx
    replace G1 := Aside0.mk (G1.out.trans (Grew.below hB))
    replace HO := Aside0.mk (HO.out.after hB)
    clear hx nx
    clear hB
    generalize wd.heap.size = g40 at *
    generalize wd.alloc (.cells #[.int .u8 40] 5) = w2 at *
    try simp only [Act.put, List.setIfInBounds_toArray, List.set_cons_zero, List.set_cons_succ]
    refine wpAnyH_ready (rs := [2, 5]) (by kernel_rfl) (by simp) ?_
    refine AllReadyH.cons rfl (fun K hK => ?_) (AllReadyH.cons rfl (fun K hK => ?_) AllReadyH.nil)
    · rw [if_pos (by rfl)]
      refine wp_byte (.tmp 16) (.tmp 17) (d := some 18) rfl rfl (by rfl) HO.out _ 40 (by rfl) H40.out (by omega) ?_
      intro v3 w3 hO hG
      have hk := hG.keep K1.out NE.out
      replace K1 := Aside0.mk hk.1
      replace NE := Aside0.mk hk.2
      clear hk
      refine hK.out _ _ (OK.out _ K1.out) (fun hHeld => ?_)
      clear hK K
      replace G1 := Aside0.mk (G1.out.trans hG)
      replace HO := Aside0.mk hO
      clear hO hG
      try simp only [Act.put, List.setIfInBounds_toArray, List.set_cons_zero, List.set_cons_succ]
      refine wpAnyH_ready (rs := [4, 5]) (by kernel_rfl) (by simp) ?_
      refine AllReadyH.cons rfl (fun K hK => ?_) (AllReadyH.cons rfl (fun K hK => ?_) AllReadyH.nil)
      · go_simp
        refine (IH.out _ _ HO.out).mono ?_
        rintro e w4 ⟨v4, rfl, hO, hG⟩
        have hk := hG.keep K1.out NE.out
        replace K1 := Aside0.mk hk.1
        replace NE := Aside0.mk hk.2
        clear hk
        refine hK.out _ _ (OK.out _ K1.out) (fun hHeld => ?_)
        clear hK K
        replace G1 := Aside0.mk (G1.out.trans hG)
        replace HO := Aside0.mk hO
        clear hO hG
        try simp only [Act.put, List.setIfInBounds_toArray, List.set_cons_zero, List.set_cons_succ]
        refine wpAnyH_ready (rs := [5]) (by kernel_rfl) (by simp) ?_
        refine AllReadyH.cons rfl (fun K hK => ?_) AllReadyH.nil
        go_simp
        have nx := HO.out.ne
        have hx := heap_alloc_new w4 (.cells #[.int .u8 41] 5)
        have hB := below1 w4 #[.int .u8 41] 5
        refine hK.out _ _ (OK.out _ (blk_below K1.out hB)) (fun hHeld => ?_)
        clear hK K
        replace K1 := Aside0.mk (blk_below K1.out hB)
        have H41 := Aside0.mk hx
        have N41 := Aside0.mk nx
        replace G1 := Aside0.mk (G1.out.trans (Grew.below hB))
        replace HO := Aside0.mk (HO.out.after hB)
        clear hx nx
        clear hB
        generalize w4.heap.size = g41 at *
        generalize w4.alloc (.cells #[.int .u8 41] 5) = w5 at *
        try simp only [Act.put, List.setIfInBounds_toArray, List.set_cons_zero, List.set_cons_succ]
        refine wpAnyH_ready (rs := [6]) (by kernel_rfl) (by simp) ?_
        refine AllReadyH.cons rfl (fun K hK => ?_) AllReadyH.nil
        rw [if_pos (by rfl)]
        refine wp_byte (.tmp 20) (.tmp 21) (d := some 22) rfl rfl (by rfl) HO.out _ 41 (by rfl) H41.out (brk_fits HLEN.out HR.out) ?_
        intro v6 w6 hO hG
        have hk := hG.keep K1.out NE.out
        replace K1 := Aside0.mk hk.1
        replace NE := Aside0.mk hk.2
        clear hk
        refine hK.out _ _ (OK.out _ K1.out) (fun hHeld => ?_)
        clear hK K
        replace G1 := Aside0.mk (G1.out.trans hG)
        replace HO := Aside0.mk hO
        clear hO hG
        try simp only [Act.put, List.setIfInBounds_toArray, List.set_cons_zero, List.set_cons_succ]
        refine takeH (d := some 6) (v := ?_) 7 rfl rfl (by kernel_rfl) (by kernel_rfl) (by kernel_rfl) (fun _ _ _ h => h) (by rfl) ?_ hHeld ?_
        rotate_left
        · intro w hSw
          try dsimp only at hSw
          go_simp <;> with_reducible rfl
        try simp only [Act.put, List.setIfInBounds_toArray, List.set_cons_zero, List.set_cons_succ]
        refine wpAnyH_done (by kernel_rfl) ?_ _
        go_wp2_with fail
        go_ret
        refine ⟨_, rfl, ?_, G1.out⟩
        have hh := HO.out
        rwa [List.append_assoc, List.append_assoc] at hh
      · go_simp
        have nx := HO.out.ne
        have hx := heap_alloc_new w3 (.cells #[.int .u8 41] 5)
        have hB := below1 w3 #[.int .u8 41] 5
        refine hK.out _ _ (OK.out _ (blk_below K1.out hB)) (fun hHeld => ?_)
        clear hK K
        replace K1 := Aside0.mk (blk_below K1.out hB)
        have H41 := Aside0.mk hx
        have N41 := Aside0.mk nx
        replace G1 := Aside0.mk (G1.out.trans (Grew.below hB))
        replace HO := Aside0.mk (HO.out.after hB)
        clear hx nx
        clear hB
        generalize w3.heap.size = g41 at *
        generalize w3.alloc (.cells #[.int .u8 41] 5) = w4 at *
        try simp only [Act.put, List.setIfInBounds_toArray, List.set_cons_zero, List.set_cons_succ]
        refine wpAnyH_ready (rs := [4]) (by kernel_rfl) (by simp) ?_
        refine AllReadyH.cons rfl (fun K hK => ?_) AllReadyH.nil
        go_simp
        refine (IH.out _ _ HO.out).mono ?_
        rintro e w5 ⟨v5, rfl, hO, hG⟩
        have hk := hG.keep K1.out NE.out
        replace K1 := Aside0.mk hk.1
        replace NE := Aside0.mk hk.2
        clear hk
        refine hK.out _ _ (OK.out _ K1.out) (fun hHeld => ?_)
        clear hK K
        replace G1 := Aside0.mk (G1.out.trans hG)
        replace HO := Aside0.mk hO
        have hk := hG.keep H41.out N41.out
        replace H41 := Aside0.mk hk.1
        replace N41 := Aside0.mk hk.2
        clear hk
        clear hO hG
        try simp only [Act.put, List.setIfInBounds_toArray, List.set_cons_zero, List.set_cons_succ]
        refine wpAnyH_ready (rs := [6]) (by kernel_rfl) (by simp) ?_
        refine AllReadyH.cons rfl (fun K hK => ?_) AllReadyH.nil
        rw [if_pos (by rfl)]
        refine wp_byte (.tmp 20) (.tmp 21) (d := some 22) rfl rfl (by rfl) HO.out _ 41 (by rfl) H41.out (brk_fits HLEN.out HR.out) ?_
        intro v6 w6 hO hG
        have hk := hG.keep K1.out NE.out
        replace K1 := Aside0.mk hk.1
        replace NE := Aside0.mk hk.2
        clear hk
        refine hK.out _ _ (OK.out _ K1.out) (fun hHeld => ?_)
        clear hK K
        replace G1 := Aside0.mk (G1.out.trans hG)
        replace HO := Aside0.mk hO
        clear hO hG
        try simp only [Act.put, List.setIfInBounds_toArray, List.set_cons_zero, List.set_cons_succ]
        refine takeH (d := some 6) (v := ?_) 7 rfl rfl (by kernel_rfl) (by kernel_rfl) (by kernel_rfl) (fun _ _ _ h => h) (by rfl) ?_ hHeld ?_
        rotate_left
        · intro w hSw
          try dsimp only at hSw
          go_simp <;> with_reducible rfl
        try simp only [Act.put, List.setIfInBounds_toArray, List.set_cons_zero, List.set_cons_succ]
        refine wpAnyH_done (by kernel_rfl) ?_ _
        go_wp2_with fail
        go_ret
        refine ⟨_, rfl, ?_, G1.out⟩
        have hh := HO.out
        rwa [List.append_assoc, List.append_assoc] at hh
    · go_simp
      have nx := HO.out.ne
      have hx := heap_alloc_new w2 (.cells #[.int .u8 41] 5)
      have hB := below1 w2 #[.int .u8 41] 5
      refine hK.out _ _ (OK.out _ (blk_below K1.out hB)) (fun hHeld => ?_)
      clear hK K
      replace K1 := Aside0.mk (blk_below K1.out hB)
      have H41 := Aside0.mk hx
      have N41 := Aside0.mk nx
      replace G1 := Aside0.mk (G1.out.trans (Grew.below hB))
      replace HO := Aside0.mk (HO.out.after hB)
      clear hx nx
      replace H40 := Aside0.mk (blk_below H40.out hB)
      clear hB
      generalize w2.heap.size = g41 at *
      generalize w2.alloc (.cells #[.int .u8 41] 5) = w3 at *
      try simp only [Act.put, List.setIfInBounds_toArray, List.set_cons_zero, List.set_cons_succ]
      refine wpAnyH_ready (rs := [2]) (by kernel_rfl) (by simp) ?_
      refine AllReadyH.cons rfl (fun K hK => ?_) AllReadyH.nil
      rw [if_pos (by rfl)]
      refine wp_byte (.tmp 16) (.tmp 17) (d := some 18) rfl rfl (by rfl) HO.out _ 40 (by rfl) H40.out (by omega) ?_
      intro v4 w4 hO hG
      have hk := hG.keep K1.out NE.out
      replace K1 := Aside0.mk hk.1
      replace NE := Aside0.mk hk.2
      clear hk
      refine hK.out _ _ (OK.out _ K1.out) (fun hHeld => ?_)
      clear hK K
      replace G1 := Aside0.mk (G1.out.trans hG)
      replace HO := Aside0.mk hO
      have hk := hG.keep H41.out N41.out
      replace H41 := Aside0.mk hk.1
      replace N41 := Aside0.mk hk.2
      clear hk
      clear hO hG
      try simp only [Act.put, List.setIfInBounds_toArray, List.set_cons_zero, List.set_cons_succ]
      refine wpAnyH_ready (rs := [4]) (by kernel_rfl) (by simp) ?_
      refine AllReadyH.cons rfl (fun K hK => ?_) AllReadyH.nil
      go_simp
      refine (IH.out _ _ HO.out).mono ?_
      rintro e w5 ⟨v5, rfl, hO, hG⟩
      have hk := hG.keep K1.out NE.out
      replace K1 := Aside0.mk hk.1
      replace NE := Aside0.mk hk.2
      clear hk
      refine hK.out _ _ (OK.out _ K1.out) (fun hHeld => ?_)
      clear hK K
      replace G1 := Aside0.mk (G1.out.trans hG)
      replace HO := Aside0.mk hO
      have hk := hG.keep H41.out N41.out
      replace H41 := Aside0.mk hk.1
      replace N41 := Aside0.mk hk.2
      clear hk
      clear hO hG
      try simp only [Act.put, List.setIfInBounds_toArray, List.set_cons_zero, List.set_cons_succ]
      refine wpAnyH_ready (rs := [6]) (by kernel_rfl) (by simp) ?_
      refine AllReadyH.cons rfl (fun K hK => ?_) AllReadyH.nil
      rw [if_pos (by rfl)]
      refine wp_byte (.tmp 20) (.tmp 21) (d := some 22) rfl rfl (by rfl) HO.out _ 41 (by rfl) H41.out (brk_fits HLEN.out HR.out) ?_
      intro v6 w6 hO hG
      have hk := hG.keep K1.out NE.out
      replace K1 := Aside0.mk hk.1
      replace NE := Aside0.mk hk.2
      clear hk
      refine hK.out _ _ (OK.out _ K1.out) (fun hHeld => ?_)
      clear hK K
      replace G1 := Aside0.mk (G1.out.trans hG)
      replace HO := Aside0.mk hO
      clear hO hG
      try simp only [Act.put, List.setIfInBounds_toArray, List.set_cons_zero, List.set_cons_succ]
      refine takeH (d := some 6) (v := ?_) 7 rfl rfl (by kernel_rfl) (by kernel_rfl) (by kernel_rfl) (fun _ _ _ h => h) (by rfl) ?_ hHeld ?_
      rotate_left
      · intro w hSw
        try dsimp only at hSw
        go_simp <;> with_reducible rfl
      try simp only [Act.put, List.setIfInBounds_toArray, List.set_cons_zero, List.set_cons_succ]
      refine wpAnyH_done (by kernel_rfl) ?_ _
      go_wp2_with fail
      go_ret
      refine ⟨_, rfl, ?_, G1.out⟩
      have hh := HO.out
      rwa [List.append_assoc, List.append_assoc] at hh
  · go_simp
    have nx := HO.out.ne
    have hx := heap_alloc_new wd (.cells #[.int .u8 41] 5)
    have hB := below1 wd #[.int .u8 41] 5
    refine hK.out _ _ (OK.out _ (blk_below K1.out hB)) (fun hHeld => ?_)
    clear hK K
    replace K1 := Aside0.mk (blk_below K1.out hB)
    have H41 := Aside0.mk hx
    have N41 := Aside0.mk nx
    replace G1 := Aside0.mk (G1.out.trans (Grew.below hB))
    replace HO := Aside0.mk (HO.out.after hB)
    clear hx nx
    clear hB
    generalize wd.heap.size = g41 at *
    generalize wd.alloc (.cells #[.int .u8 41] 5) = w2 at *
    try simp only [Act.put, List.setIfInBounds_toArray, List.set_cons_zero, List.set_cons_succ]
    refine wpAnyH_ready (rs := [1]) (by kernel_rfl) (by simp) ?_
    refine AllReadyH.cons rfl (fun K hK => ?_) AllReadyH.nil
    go_simp
    have nx := HO.out.ne
    have hx := heap_alloc_new w2 (.cells #[.int .u8 40] 5)
    have hB := below1 w2 #[.int .u8 40] 5
    refine hK.out _ _ (OK.out _ (blk_below K1.out hB)) (fun hHeld => ?_)
    clear hK K
    replace K1 := Aside0.mk (blk_below K1.out hB)
    have H40 := Aside0.mk hx
    have N40 := Aside0.mk nx
    replace G1 := Aside0.mk (G1.out.trans (Grew.below hB))
    replace HO := Aside0.mk (HO.out.after hB)
    clear hx nx
    replace H41 := Aside0.mk (blk_below H41.out hB)
    clear hB
    generalize w2.heap.size = g40 at *
    generalize w2.alloc (.cells #[.int .u8 40] 5) = w3 at *
    try simp only [Act.put, List.setIfInBounds_toArray, List.set_cons_zero, List.set_cons_succ]
    refine wpAnyH_ready (rs := [2]) (by kernel_rfl) (by simp) ?_
    refine AllReadyH.cons rfl (fun K hK => ?_) AllReadyH.nil
    rw [if_pos (by rfl)]
    refine wp_byte (.tmp 16) (.tmp 17) (d := some 18) rfl rfl (by rfl) HO.out _ 40 (by rfl) H40.out (by omega) ?_
    intro v4 w4 hO hG
    have hk := hG.keep K1.out NE.out
    replace K1 := Aside0.mk hk.1
    replace NE := Aside0.mk hk.2
    clear hk
    refine hK.out _ _ (OK.out _ K1.out) (fun hHeld => ?_)
    clear hK K
    replace G1 := Aside0.mk (G1.out.trans hG)
    replace HO := Aside0.mk hO
    have hk := hG.keep H41.out N41.out
    replace H41 := Aside0.mk hk.1
    replace N41 := Aside0.mk hk.2
    clear hk
    clear hO hG
    try simp only [Act.put, List.setIfInBounds_toArray, List.set_cons_zero, List.set_cons_succ]
    refine wpAnyH_ready (rs := [4]) (by kernel_rfl) (by simp) ?_
    refine AllReadyH.cons rfl (fun K hK => ?_) AllReadyH.nil
    go_simp
    refine (IH.out _ _ HO.out).mono ?_
    rintro e w5 ⟨v5, rfl, hO, hG⟩
    have hk := hG.keep K1.out NE.out
    replace K1 := Aside0.mk hk.1
    replace NE := Aside0.mk hk.2
    clear hk
    refine hK.out _ _ (OK.out _ K1.out) (fun hHeld => ?_)
    clear hK K
    replace G1 := Aside0.mk (G1.out.trans hG)
    replace HO := Aside0.mk hO
    have hk := hG.keep H41.out N41.out
    replace H41 := Aside0.mk hk.1
    replace N41 := Aside0.mk hk.2
    clear hk
    clear hO hG
    try simp only [Act.put, List.setIfInBounds_toArray, List.set_cons_zero, List.set_cons_succ]
    refine wpAnyH_ready (rs := [6]) (by kernel_rfl) (by simp) ?_
    refine AllReadyH.cons rfl (fun K hK => ?_) AllReadyH.nil
    rw [if_pos (by rfl)]
    refine wp_byte (.tmp 20) (.tmp 21) (d := some 22) rfl rfl (by rfl) HO.out _ 41 (by rfl) H41.out (brk_fits HLEN.out HR.out) ?_
    intro v6 w6 hO hG
    have hk := hG.keep K1.out NE.out
    replace K1 := Aside0.mk hk.1
    replace NE := Aside0.mk hk.2
    clear hk
    refine hK.out _ _ (OK.out _ K1.out) (fun hHeld => ?_)
    clear hK K
    replace G1 := Aside0.mk (G1.out.trans hG)
    replace HO := Aside0.mk hO
    clear hO hG
    try simp only [Act.put, List.setIfInBounds_toArray, List.set_cons_zero, List.set_cons_succ]
    refine takeH (d := some 6) (v := ?_) 7 rfl rfl (by kernel_rfl) (by kernel_rfl) (by kernel_rfl) (fun _ _ _ h => h) (by rfl) ?_ hHeld ?_
    rotate_left
    · intro w hSw
      try dsimp only at hSw
      go_simp <;> with_reducible rfl
    try simp only [Act.put, List.setIfInBounds_toArray, List.set_cons_zero, List.set_cons_succ]
    refine wpAnyH_done (by kernel_rfl) ?_ _
    go_wp2_with fail
    go_ret
    refine ⟨_, rfl, ?_, G1.out⟩
    have hh := HO.out
    rwa [List.append_assoc, List.append_assoc] at hh
theorem write_all (n : Nat) : WriteIH n := by
  induction n with
  | zero => intro t least v l W0 w vt h; omega
  | succ n ih =>
    have own : ∀ (t : S26) (least : Int) (v : Value) (l : List UInt8) (W0 w : World) (vt : Value), nodes t < n + 1 → rightB t = true → IsT W0 vt t → 0 ≤ least → least ≤ tightI t.f0 → OwnB W0 v l w → l.length + 6 * nodes t ≤ 100000001 →
        Calls Try.prog 77 #[v, vt, .int .i64 least] w (WPost W0 v w (l ++ core t)) := by
      intro t least v l W0 w vt hn hr hT h0 h4 hO hl
      rcases right_cases hr with ⟨k, hk, rfl⟩ | ⟨k, x, y, hk, hx, hy, rfl⟩
      · obtain ⟨A, c, rfl, _, _⟩ := hT
        rw [core_leaf]
        exact write_leaf k hk least (by have h5 : tightI k ≤ 4 := by (rcases hk with rfl | rfl | rfl <;> decide)
                                        exact Int.le_trans h4 h5) h0 v l W0 w A c (.mk hO) (.mk (by rw [nodes_leaf] at hl; omega))
      · exact write_node n k x y hk least h4 h0 v l W0 w vt (.mk ih) (.mk hn) (.mk hx) (.mk hy) (.mk hT) (.mk hO) (.mk hl)
    intro t least v l W0 w vt hn hr hT h0 h4 hO hl
    by_cases hb : tightI t.f0 < least
    · rw [parT_brk hb]
      have hk : leafK t.f0 ∨ nodeK t.f0 := by
        rcases right_cases hr with ⟨k, hk, rfl⟩ | ⟨k, x, y, hk, hx, hy, rfl⟩
        · exact .inl hk
        · exact .inr hk
      have ht0 : 0 ≤ tightI t.f0 := by unfold tightI; (repeat' split) <;> omega
      have hT2 := hT
      obtain ⟨A, c, rfl, _, _⟩ := hT
      exact write_brk t hk least hb v l W0 w A c (.mk hr) (.mk hT2) (.mk hO) (.mk hl) (.mk fun v' w' hO' => own t 0 v' _ W0 w' _ hn hr hT2 (Int.le_refl _) ht0 hO' (by simp only [List.length_append, List.length_cons, List.length_nil]; omega))
    · rw [parT_own (by omega)]
      exact own t least v l W0 w vt hn hr hT h0 (by omega) hO (by omega)
def textS (t : S26) : ByteArray := if checkI t = 0 then ⟨(core t).toArray⟩ else ⟨#[]⟩
def TPost (t : S26) (w : World) (e : Ending) (w' : World) : Prop := e = .returned (.tuple #[.string (textS t), .int .i64 (checkI t)]) ∧ Below w.heap.size w w'
set_option maxRecDepth 100000 in
set_option maxHeartbeats 1600000 in
theorem Text_calls {t : S26} {v : Value} {w : World} (h : IsT w v t) : Calls Try.prog 43 #[v] w (TPost t w) := by
  have HT := Aside0.mk h
  obtain ⟨A, c, rfl, _, _⟩ := h
  by_cases hc : checkI t = 0
  · have HC := Aside0.mk hc
    have HS : Aside0 (textS t = ⟨(core t).toArray⟩) := .mk (by unfold textS; rw [if_pos hc])
    have HR := Aside0.mk (check_nodes hc).2.2
    have HN := Aside0.mk (check_nodes hc).1
    clear hc
    go_enter Try.func43, Try.ntmps43
    go_wp2_with fail
    refine (Check_calls (HT.out.below (below1 ..))).mono ?_
    rw [HC.out]
    rintro e w1 ⟨rfl, hB⟩
    obtain ⟨k1, hB1⟩ := one_block hB
    have HB := Aside0.mk hB1
    replace HT := Aside0.mk (HT.out.below hB1)
    have e10 := (blk_cell k1 0).trans rfl
    have e11 := (blk_cell k1 1).trans rfl
    simp at e10 e11
    clear hB hB1 k1
    go_wp2_with fail
    refine (write_all (nodes t + 1) t 0 _ [] w1 w1 _ (by omega) HR.out HT.out (by omega) (by omega) (OwnB.nil w1) (by have := HN.out; simp only [List.length_nil]; omega)).mono ?_
    rintro e w2 ⟨v2, rfl, hO, hG⟩
    rw [List.nil_append, parT_own (by unfold tightI; (repeat' split) <;> omega)] at hO
    have hcv := bytes_back hO (core_ne t HR.out)
    have HB2 := Aside0.mk (below_then HB.out HB.out.size hO.below)
    clear hO hG e10 e11
    go_wp2_with fail
    go_ret2
    refine ⟨?_, HB2.out⟩
    rw [HS.out, HC.out]
    rfl
  · have HC : Aside0 ((checkI t != 0) = true) := .mk (by simp [hc])
    have HS : Aside0 (textS t = ⟨#[]⟩) := .mk (by unfold textS; rw [if_neg hc])
    clear hc
    go_enter Try.func43, Try.ntmps43
    go_wp2_with fail
    refine (Check_calls (HT.out.below (below1 ..))).mono ?_
    rintro e w1 ⟨rfl, hB⟩
    obtain ⟨k1, hB1⟩ := one_block hB
    have HB := Aside0.mk hB1
    have hc := HC.out
    clear hB hB1 k1 HC
    go_wp2_with fail
    go_ret2
    refine ⟨?_, HB.out⟩
    rw [HS.out]
    rfl
end Go.Proofs.Ytamhdpllmhafhaa.X
-- Written by xprint.py, a program of this session that drives the kit's print beside contracts proved by hand; parted by split1.py. Lean checks it.
namespace Go.Proofs.Ytamhdpllmhafhaa.X
open Go.RowKit Go.Proofs.YtamhdpllmhafhaaW.PrintWords Go.Proofs.YtamhdpllmhafhaaW.PrintLast Go.Proofs.YtamhdpllmhafhaaW.PrintMore
attribute [local go_sem] max2_int min2_int max_two min_two max_three min_three max_four min_four   -- for this text's walks alone
set_option linter.unusedVariables false
set_option linter.unusedSimpArgs false

/-! ### lychgateref02_strength: function 95 -/
def lychgateref02_strength.f (a0 : Int) : Option (Int) := if a0 = 3 then (some 1) else (if a0 = 5 then (some 2) else (if a0 = 4 then (some 3) else (some 4)))
set_option maxHeartbeats 8000000 in
set_option maxRecDepth 100000 in
theorem lychgateref02_strength.calls (a0 : Int) (r : Int) (w : World) (h : lychgateref02_strength.f a0 = some r) :
    Calls Try.prog 95 #[.int .i8 a0] w fun e w' => e = .returned (.int .i64 r) ∧ Drawn0 w w' := by
  have H : (if a0 = 3 then (some 1) else (if a0 = 5 then (some 2) else (if a0 = 4 then (some 3) else (some 4)))) = some r := h
  clear h
  by_cases c2 : a0 = 3
  · rw [if_pos c2] at H
    have c2b0 : (a0 == 3) = true := beq_iff_eq.mpr c2
    have c2b1 : (a0 != 3) = false := bne_eq_false_iff_eq.mpr c2
    clear c2
    obtain rfl := Option.some.inj H
    go_enter Try.func95, Try.ntmps95
    go_wp2
    go_ret
    exact ⟨by first | rfl | (simp; done) | (simp [*]; done), by repeat (first | exact Drawn0.refl _ | apply Drawn0.step)⟩
  · rw [if_neg c2] at H
    have c2b0 : (a0 == 3) = false := beq_eq_false_iff_ne.mpr c2
    have c2b1 : (a0 != 3) = true := bne_iff_ne.mpr c2
    by_cases c3 : a0 = 5
    · rw [if_pos c3] at H
      have c3b0 : (a0 == 5) = true := beq_iff_eq.mpr c3
      have c3b1 : (a0 != 5) = false := bne_eq_false_iff_eq.mpr c3
      clear c3
      obtain rfl := Option.some.inj H
      go_enter Try.func95, Try.ntmps95
      go_wp2
      go_ret
      exact ⟨by first | rfl | (simp; done) | (simp [*]; done), by repeat (first | exact Drawn0.refl _ | apply Drawn0.step)⟩
    · rw [if_neg c3] at H
      have c3b0 : (a0 == 5) = false := beq_eq_false_iff_ne.mpr c3
      have c3b1 : (a0 != 5) = true := bne_iff_ne.mpr c3
      by_cases c4 : a0 = 4
      · rw [if_pos c4] at H
        have c4b0 : (a0 == 4) = true := beq_iff_eq.mpr c4
        have c4b1 : (a0 != 4) = false := bne_eq_false_iff_eq.mpr c4
        clear c4
        obtain rfl := Option.some.inj H
        go_enter Try.func95, Try.ntmps95
        go_wp2
        go_ret
        exact ⟨by first | rfl | (simp; done) | (simp [*]; done), by repeat (first | exact Drawn0.refl _ | apply Drawn0.step)⟩
      · rw [if_neg c4] at H
        have c4b0 : (a0 == 4) = false := beq_eq_false_iff_ne.mpr c4
        have c4b1 : (a0 != 4) = true := bne_iff_ne.mpr c4
        obtain rfl := Option.some.inj H
        go_enter Try.func95, Try.ntmps95
        go_wp2
        go_ret
        exact ⟨by first | rfl | (simp; done) | (simp [*]; done), by repeat (first | exact Drawn0.refl _ | apply Drawn0.step)⟩

/-! ### lychgateref02_sign: function 96 -/
def lychgateref02_sign.f (a0 : Int) : Option (ByteArray) := if a0 = 3 then (some (⟨#[45, 62]⟩ : ByteArray)) else (if a0 = 5 then (some (⟨#[43]⟩ : ByteArray)) else (some (⟨#[42]⟩ : ByteArray)))
set_option maxHeartbeats 8000000 in
set_option maxRecDepth 100000 in
theorem lychgateref02_sign.calls (a0 : Int) (r : ByteArray) (w : World) (h : lychgateref02_sign.f a0 = some r) :
    Calls Try.prog 96 #[.int .i8 a0] w fun e w' => e = .returned (.string r) ∧ Drawn0 w w' := by
  have H : (if a0 = 3 then (some (⟨#[45, 62]⟩ : ByteArray)) else (if a0 = 5 then (some (⟨#[43]⟩ : ByteArray)) else (some (⟨#[42]⟩ : ByteArray)))) = some r := h
  clear h
  by_cases c2 : a0 = 3
  · rw [if_pos c2] at H
    have c2b0 : (a0 == 3) = true := beq_iff_eq.mpr c2
    have c2b1 : (a0 != 3) = false := bne_eq_false_iff_eq.mpr c2
    clear c2
    obtain rfl := Option.some.inj H
    go_enter Try.func96, Try.ntmps96
    go_wp2
    go_ret
    exact ⟨by first | rfl | (simp; done) | (simp [*]; done), by repeat (first | exact Drawn0.refl _ | apply Drawn0.step)⟩
  · rw [if_neg c2] at H
    have c2b0 : (a0 == 3) = false := beq_eq_false_iff_ne.mpr c2
    have c2b1 : (a0 != 3) = true := bne_iff_ne.mpr c2
    by_cases c3 : a0 = 5
    · rw [if_pos c3] at H
      have c3b0 : (a0 == 5) = true := beq_iff_eq.mpr c3
      have c3b1 : (a0 != 5) = false := bne_eq_false_iff_eq.mpr c3
      clear c3
      obtain rfl := Option.some.inj H
      go_enter Try.func96, Try.ntmps96
      go_wp2
      go_ret
      exact ⟨by first | rfl | (simp; done) | (simp [*]; done), by repeat (first | exact Drawn0.refl _ | apply Drawn0.step)⟩
    · rw [if_neg c3] at H
      have c3b0 : (a0 == 5) = false := beq_eq_false_iff_ne.mpr c3
      have c3b1 : (a0 != 5) = true := bne_iff_ne.mpr c3
      obtain rfl := Option.some.inj H
      go_enter Try.func96, Try.ntmps96
      go_wp2
      go_ret
      exact ⟨by first | rfl | (simp; done) | (simp [*]; done), by repeat (first | exact Drawn0.refl _ | apply Drawn0.step)⟩

-- left out: function 78 (lychgateref02_text)

end Go.Proofs.Ytamhdpllmhafhaa.X
