/- Texts of this claim, joined: X0, PureScan, HSkipPure, X2, HCallH, HTake, HSkip, HPut, HSpan, HNumber, HWord. -/
import Derived.Test.YtjmpejbciniceaaProg
import Derived.Below
import Derived.Deep.Draws
import Derived.Deep.AppendLies
import Derived.Maps.AppendAt
import Derived.OwnWalk
import Derived.Laws.BytesArg
import Derived.Laws.MakeOwn
import Derived.Laws.OwnMore
import Derived.Deep.OwnRows
import Derived.Tactics
import Derived.Lib.ConvBytes
import Derived.Laws.Slices
import Derived.WalkKit
import Derived.KernelRfl
import Derived.RowKit3
import Derived.Deep.LoopGhost
import Derived.Deep.QuietTactic
import Derived.BigQuiet
import Derived.WideLaws
import Derived.Deep.DeepCutAuto
import Derived.Deep.CutBlock
import Derived.Deep.RegionHeld3
import Derived.Laws.Rows
import Derived.Lib.AppendStr
import Derived.ArgAppend
import Derived.Laws.IdiomCopy
import Derived.OrdersHeld
import Derived.Laws.BitsLemmas
import Derived.RowKit
import Derived.Test.YtjmpejbciniceaaWWords
import Derived.Test.YtjmpejbciniceaaWLast
import Derived.Test.YtjmpejbciniceaaWTab
import Derived.Test.YtjmpejbciniceaaWFour
import Derived.Test.YtjmpejbciniceaaWQPut
import Derived.Test.YtjmpejbciniceaaWApart
import Derived.Test.YtjmpejbciniceaaWArr
import Derived.Test.YtjmpejbciniceaaWZeros
import Derived.Test.YtjmpejbciniceaaWFoot
import Derived.Test.YtjmpejbciniceaaWKept
import Derived.Test.YtjmpejbciniceaaWShare
import Derived.Test.YtjmpejbciniceaaWN
import Derived.Test.YtjmpejbciniceaaWFootNe
import Derived.Test.YtjmpejbciniceaaWAt
import Derived.Test.YtjmpejbciniceaaWEqStruct
import Derived.Test.YtjmpejbciniceaaWRepsOne
import Derived.Test.YtjmpejbciniceaaWInv
import Derived.Test.YtjmpejbciniceaaWInvWords
import Derived.Test.YtjmpejbciniceaaWGuard
import Derived.Test.YtjmpejbciniceaaWNEv
import Derived.Test.YtjmpejbciniceaaWMore
import Derived.Laws.RangeAny
import Derived.RegionTactic
import Derived.ChangeAlike
import Derived.BigRegion
import Derived.LoopTactic
-- Written by xprint.py, a program of this session that drives the kit's print beside contracts proved by hand. Lean checks it.
namespace Go.Proofs.Ytjmpejbciniceaa.X
open Go.RowKit Go.Proofs.YtjmpejbciniceaaW.PrintWords Go.Proofs.YtjmpejbciniceaaW.PrintLast Go.Proofs.YtjmpejbciniceaaW.PrintMore
attribute [local go_sem] max2_int min2_int max_two min_two max_three min_three max_four min_four   -- for this text's walks alone
set_option linter.unusedVariables false
set_option linter.unusedSimpArgs false



def errW : Option Int → Value
  | none => .nilIface
  | some c => .iface 0 (.int .i64 c)
theorem errW_none : errW none = .nilIface := rfl
theorem errW_some (c : Int) : errW (some c) = .iface 0 (.int .i64 c) := rfl

theorem info5 : (Try.prog.info? 5).map (fun i => (i.zero, i.size, i.bytes)) = some (some (.int .u8 0), 1, 1) := by kernel_rfl
theorem info35 : (Try.prog.info? 35).map (fun i => (i.zero, i.size, i.bytes)) = some (some (.agg #[(.int .i8 0), (.slice none 0 0)]), 2, 32) := by kernel_rfl
-- the values' own types
/-! #### struct type 29 -/
structure S29 where
  f0 : Int
  f1 : ByteArray
  f2 : Int
  f3 : Int
def z29 : S29 := ⟨(0 : Int), (⟨#[]⟩ : ByteArray), (0 : Int), (0 : Int)⟩
def k29 : Kd S29 := Kd.iso (Kd.pair (Kd.int .i8) (Kd.pair Kd.string (Kd.pair (Kd.int .i64) (Kd.int .i64)))) (fun x : S29 => (x.f0, x.f1, x.f2, x.f3))
theorem k29_open {w : World} {x : S29} {cs : List Value} (h : k29.K w x cs) : cs = [.int .i8 x.f0, .string x.f1, .int .i64 x.f2, .int .i64 x.f3] := by
  obtain ⟨_, _, rfl, rfl, ⟨_, _, rfl, rfl, ⟨_, _, rfl, rfl, rfl⟩⟩⟩ := h
  exact rfl
theorem k29_openM {w : World} {base : Nat} {ok : Nat → Prop} {x : S29} {cs : List Value} (h : k29.M w base ok x cs) : cs = [.int .i8 x.f0, .string x.f1, .int .i64 x.f2, .int .i64 x.f3] := by
  obtain ⟨_, _, rfl, rfl, ⟨_, _, rfl, rfl, ⟨_, _, rfl, rfl, rfl⟩⟩⟩ := h
  exact rfl
theorem k29_mk (w : World) (x : S29)  : k29.K w x [.int .i8 x.f0, .string x.f1, .int .i64 x.f2, .int .i64 x.f3] := ⟨[.int .i8 x.f0], [.string x.f1, .int .i64 x.f2, .int .i64 x.f3], rfl, rfl, ⟨[.string x.f1], [.int .i64 x.f2, .int .i64 x.f3], rfl, rfl, ⟨[.int .i64 x.f2], [.int .i64 x.f3], rfl, rfl, rfl⟩⟩⟩
theorem k29_mkM (w : World) (base : Nat) (ok : Nat → Prop) (x : S29)  : k29.M w base ok x [.int .i8 x.f0, .string x.f1, .int .i64 x.f2, .int .i64 x.f3] := ⟨[.int .i8 x.f0], [.string x.f1, .int .i64 x.f2, .int .i64 x.f3], rfl, rfl, ⟨[.string x.f1], [.int .i64 x.f2, .int .i64 x.f3], rfl, rfl, ⟨[.int .i64 x.f2], [.int .i64 x.f3], rfl, rfl, rfl⟩⟩⟩
theorem k29_mkF (W : World) (ok : Nat → Prop) (x : S29) : Kd.FK k29 W ok x [.int .i8 x.f0, .string x.f1, .int .i64 x.f2, .int .i64 x.f3] := fun W2 _ => k29_mk W2 x
def rd_T29 (xs : List S29) (i : Int) : S29 := xs.getD i.toNat z29
theorem at_T29 {w : World} {A : Option Addr} {n : Nat} {xs : List S29} (h : Kd.C k29 w A n xs) (i : Int) (h0 : 0 ≤ i) (h1 : i < n) : ∃ ad , A = some ad ∧ w.cell? (ad.add (i.toNat * 4)) = some (.int .i8 (rd_T29 xs i).f0) ∧ w.cell? ⟨(ad.add (i.toNat * 4)).block, (ad.add (i.toNat * 4)).off + 1, none⟩ = some (.string (rd_T29 xs i).f1) ∧ w.cell? ⟨(ad.add (i.toNat * 4)).block, (ad.add (i.toNat * 4)).off + 2, none⟩ = some (.int .i64 (rd_T29 xs i).f2) ∧ w.cell? ⟨(ad.add (i.toNat * 4)).block, (ad.add (i.toNat * 4)).off + 3, none⟩ = some (.int .i64 (rd_T29 xs i).f3) := by
  obtain ⟨ad, c, e, _, hK, hc0⟩ := Kd.C_get h z29 i h0 h1
  have hc : ∀ j u, c[j]? = some u → w.cell? (ad.add (i.toNat * 4 + j)) = some u := hc0
  obtain rfl := k29_open hK
  exact ⟨ad, e, hc 0 _ rfl, by rw [← add_field _ _ 1 (by omega)]; exact hc 1 _ rfl, by rw [← add_field _ _ 2 (by omega)]; exact hc 2 _ rfl, by rw [← add_field _ _ 3 (by omega)]; exact hc 3 _ rfl⟩

/-! #### struct type 35, nested in itself -/
structure S35 where
  f0 : Int
  f1 : (List S35)
def z35 : S35 := ⟨(0 : Int), ([] : List S35)⟩
def F35 (d : Kd S35) : Kd S35 := Kd.iso (Kd.pair (Kd.int .i8) (Kd.slice 35 d)) (fun x : S35 => (x.f0, x.f1))
theorem mono35 : Kd.Mono F35 := Kd.mono_iso _ (Kd.mono_pair (Kd.mono_const _) (Kd.mono_slice 35 Kd.mono_id))
theorem sub35 : Kd.Sub F35 [35] := Kd.sub_iso _ (Kd.sub_pair (Kd.sub_const _ (by decide)) (Kd.sub_slice 35 (by decide) Kd.sub_id))
theorem sz35 : ∀ n, (Kd.upto F35 2 [35] n).sz = 2 := Kd.upto_sz (fun _ => rfl)
def k35 : Kd S35 := Kd.fix F35 2 [35] sz35 (Kd.upto_E sub35)
theorem k35_open {w : World} {x : S35} {cs : List Value} (h : k35.K w x cs) : ∃ A1 c1, cs = [.int .i8 x.f0, .slice A1 x.f1.length c1] ∧ x.f1.length ≤ c1 ∧ k35.C w A1 x.f1.length x.f1 := by
  obtain ⟨n, h⟩ := h
  cases n with
  | zero => exact h.elim
  | succ n =>
    obtain ⟨_, _, rfl, rfl, ⟨A1, c1, rfl, l1, g1⟩⟩ := h
    exact ⟨A1, c1, rfl, l1, Kd.fix_C g1⟩
theorem k35_openM {w : World} {base : Nat} {ok : Nat → Prop} {x : S35} {cs : List Value} (h : k35.M w base ok x cs) : ∃ v1, cs = [.int .i8 x.f0, v1] ∧ k35.R 35 w base ok v1 x.f1 := by
  obtain ⟨n, h⟩ := h
  cases n with
  | zero => exact h.elim
  | succ n =>
    obtain ⟨_, _, rfl, rfl, ⟨v1, rfl, g1⟩⟩ := h
    exact ⟨v1, rfl, Kd.fix_R g1⟩
theorem k35_mk (w : World) (x : S35) {A1 : Option Addr} {c1 : Nat} (l1 : x.f1.length ≤ c1) (g1 : k35.C w A1 x.f1.length x.f1) : k35.K w x [.int .i8 x.f0, .slice A1 x.f1.length c1] := by
  obtain ⟨n1, q1⟩ := Kd.fix_C_back mono35 g1
  have r1 := Kd.upto_C_le mono35 sz35 (show n1 ≤ n1 by omega) q1
  exact ⟨n1 + 1, ⟨[.int .i8 x.f0], [.slice A1 x.f1.length c1], rfl, rfl, ⟨A1, c1, rfl, l1, r1⟩⟩⟩
theorem k35_mkM (w : World) (base : Nat) (ok : Nat → Prop) (x : S35) {v1 : Value} (g1 : k35.R 35 w base ok v1 x.f1) : k35.M w base ok x [.int .i8 x.f0, v1] := by
  obtain ⟨n1, q1⟩ := Kd.fix_R_back mono35 g1
  have r1 := Kd.upto_R_le mono35 sz35 (show n1 ≤ n1 by omega) q1
  exact ⟨n1 + 1, ⟨[.int .i8 x.f0], [v1], rfl, rfl, ⟨v1, rfl, r1⟩⟩⟩
theorem k35_openF {W : World} {ok : Nat → Prop} {x : S35} {cs : List Value} (h : Kd.FK k35 W ok x cs) : ∃ A1 c1, cs = [.int .i8 x.f0, .slice A1 x.f1.length c1] ∧ x.f1.length ≤ c1 ∧ Kd.F k35 W ok A1 x.f1.length x.f1 := by
  obtain ⟨A1, c1, rfl, l1, _⟩ := k35_open (Kd.FK_now h)
  exact ⟨A1, c1, rfl, l1, (fun W' hW => by obtain ⟨A1_, c1_, he, l1_, g1_⟩ := k35_open (h W' hW); injection (Option.some.inj (show some (Value.slice A1 x.f1.length c1) = some (Value.slice A1_ x.f1.length c1_) from congrArg (fun l => l[1]?) he)) with ha_ _ _; rw [ha_]; exact g1_)⟩
theorem k35_mkF (W : World) (ok : Nat → Prop) (x : S35) {A1 : Option Addr} {c1 : Nat} (l1 : x.f1.length ≤ c1) (g1 : Kd.F k35 W ok A1 x.f1.length x.f1) : Kd.FK k35 W ok x [.int .i8 x.f0, .slice A1 x.f1.length c1] := fun W2 hW => k35_mk W2 x l1 (g1 W2 hW)
def rd_T35 (xs : List S35) (i : Int) : S35 := xs.getD i.toNat z35
theorem at_T35 {w : World} {A : Option Addr} {n : Nat} {xs : List S35} (h : Kd.C k35 w A n xs) (i : Int) (h0 : 0 ≤ i) (h1 : i < n) : ∃ ad A1 c1, A = some ad ∧ w.cell? (ad.add (i.toNat * 2)) = some (.int .i8 (rd_T35 xs i).f0) ∧ w.cell? ⟨(ad.add (i.toNat * 2)).block, (ad.add (i.toNat * 2)).off + 1, none⟩ = some (.slice A1 (rd_T35 xs i).f1.length c1) ∧ (rd_T35 xs i).f1.length ≤ c1 ∧ k35.C w A1 (rd_T35 xs i).f1.length (rd_T35 xs i).f1 := by
  obtain ⟨ad, c, e, _, hK, hc0⟩ := Kd.C_get h z35 i h0 h1
  have hc : ∀ j u, c[j]? = some u → w.cell? (ad.add (i.toNat * 2 + j)) = some u := hc0
  obtain ⟨A1, c1, rfl, l1, g1⟩ := k35_open hK
  exact ⟨ad, A1, c1, e, hc 0 _ rfl, by rw [← add_field _ _ 1 (by omega)]; exact hc 1 _ rfl, l1, g1⟩

/-! #### struct type 47, nested in itself -/
structure S47 where
  f0 : Int
  f1 : S35
  f2 : S35
  f3 : Int
  f4 : Bool
  f5 : (List S47)
def z47 : S47 := ⟨(0 : Int), z35, z35, (0 : Int), false, ([] : List S47)⟩
def F47 (d : Kd S47) : Kd S47 := Kd.iso (Kd.pair (Kd.int .i8) (Kd.pair k35 (Kd.pair k35 (Kd.pair (Kd.int .i64) (Kd.pair Kd.bool (Kd.slice 47 d)))))) (fun x : S47 => (x.f0, x.f1, x.f2, x.f3, x.f4, x.f5))
theorem mono47 : Kd.Mono F47 := Kd.mono_iso _ (Kd.mono_pair (Kd.mono_const _) (Kd.mono_pair (Kd.mono_const _) (Kd.mono_pair (Kd.mono_const _) (Kd.mono_pair (Kd.mono_const _) (Kd.mono_pair (Kd.mono_const _) (Kd.mono_slice 47 Kd.mono_id))))))
theorem sub47 : Kd.Sub F47 [35, 47] := Kd.sub_iso _ (Kd.sub_pair (Kd.sub_const _ (by decide)) (Kd.sub_pair (Kd.sub_const _ (by decide)) (Kd.sub_pair (Kd.sub_const _ (by decide)) (Kd.sub_pair (Kd.sub_const _ (by decide)) (Kd.sub_pair (Kd.sub_const _ (by decide)) (Kd.sub_slice 47 (by decide) Kd.sub_id))))))
theorem sz47 : ∀ n, (Kd.upto F47 8 [35, 47] n).sz = 8 := Kd.upto_sz (fun _ => rfl)
def k47 : Kd S47 := Kd.fix F47 8 [35, 47] sz47 (Kd.upto_E sub47)
theorem k47_open {w : World} {x : S47} {cs : List Value} (h : k47.K w x cs) : ∃ A2 c2 A4 c4 A7 c7, cs = [.int .i8 x.f0, .int .i8 x.f1.f0, .slice A2 x.f1.f1.length c2, .int .i8 x.f2.f0, .slice A4 x.f2.f1.length c4, .int .i64 x.f3, .bool x.f4, .slice A7 x.f5.length c7] ∧ x.f1.f1.length ≤ c2 ∧ k35.C w A2 x.f1.f1.length x.f1.f1 ∧ x.f2.f1.length ≤ c4 ∧ k35.C w A4 x.f2.f1.length x.f2.f1 ∧ x.f5.length ≤ c7 ∧ k47.C w A7 x.f5.length x.f5 := by
  obtain ⟨n, h⟩ := h
  cases n with
  | zero => exact h.elim
  | succ n =>
    obtain ⟨_, _, rfl, rfl, ⟨_, _, rfl, s1, ⟨_, _, rfl, s3, ⟨_, _, rfl, rfl, ⟨_, _, rfl, rfl, ⟨A7, c7, rfl, l7, g7⟩⟩⟩⟩⟩⟩ := h
    obtain ⟨A2, c2, rfl, l2, g2⟩ := k35_open s1
    obtain ⟨A4, c4, rfl, l4, g4⟩ := k35_open s3
    exact ⟨A2, c2, A4, c4, A7, c7, rfl, l2, g2, l4, g4, l7, Kd.fix_C g7⟩
theorem k47_openM {w : World} {base : Nat} {ok : Nat → Prop} {x : S47} {cs : List Value} (h : k47.M w base ok x cs) : ∃ v2 v4 v7, cs = [.int .i8 x.f0, .int .i8 x.f1.f0, v2, .int .i8 x.f2.f0, v4, .int .i64 x.f3, .bool x.f4, v7] ∧ k35.R 35 w base ok v2 x.f1.f1 ∧ k35.R 35 w base ok v4 x.f2.f1 ∧ k47.R 47 w base ok v7 x.f5 := by
  obtain ⟨n, h⟩ := h
  cases n with
  | zero => exact h.elim
  | succ n =>
    obtain ⟨_, _, rfl, rfl, ⟨_, _, rfl, s1, ⟨_, _, rfl, s3, ⟨_, _, rfl, rfl, ⟨_, _, rfl, rfl, ⟨v7, rfl, g7⟩⟩⟩⟩⟩⟩ := h
    obtain ⟨v2, rfl, g2⟩ := k35_openM s1
    obtain ⟨v4, rfl, g4⟩ := k35_openM s3
    exact ⟨v2, v4, v7, rfl, g2, g4, Kd.fix_R g7⟩
theorem k47_mk (w : World) (x : S47) {A2 : Option Addr} {c2 : Nat} (l2 : x.f1.f1.length ≤ c2) (g2 : k35.C w A2 x.f1.f1.length x.f1.f1) {A4 : Option Addr} {c4 : Nat} (l4 : x.f2.f1.length ≤ c4) (g4 : k35.C w A4 x.f2.f1.length x.f2.f1) {A7 : Option Addr} {c7 : Nat} (l7 : x.f5.length ≤ c7) (g7 : k47.C w A7 x.f5.length x.f5) : k47.K w x [.int .i8 x.f0, .int .i8 x.f1.f0, .slice A2 x.f1.f1.length c2, .int .i8 x.f2.f0, .slice A4 x.f2.f1.length c4, .int .i64 x.f3, .bool x.f4, .slice A7 x.f5.length c7] := by
  obtain ⟨n7, q7⟩ := Kd.fix_C_back mono47 g7
  have r7 := Kd.upto_C_le mono47 sz47 (show n7 ≤ n7 by omega) q7
  exact ⟨n7 + 1, ⟨[.int .i8 x.f0], [.int .i8 x.f1.f0, .slice A2 x.f1.f1.length c2, .int .i8 x.f2.f0, .slice A4 x.f2.f1.length c4, .int .i64 x.f3, .bool x.f4, .slice A7 x.f5.length c7], rfl, rfl, ⟨[.int .i8 x.f1.f0, .slice A2 x.f1.f1.length c2], [.int .i8 x.f2.f0, .slice A4 x.f2.f1.length c4, .int .i64 x.f3, .bool x.f4, .slice A7 x.f5.length c7], rfl, (k35_mk w x.f1 l2 g2), ⟨[.int .i8 x.f2.f0, .slice A4 x.f2.f1.length c4], [.int .i64 x.f3, .bool x.f4, .slice A7 x.f5.length c7], rfl, (k35_mk w x.f2 l4 g4), ⟨[.int .i64 x.f3], [.bool x.f4, .slice A7 x.f5.length c7], rfl, rfl, ⟨[.bool x.f4], [.slice A7 x.f5.length c7], rfl, rfl, ⟨A7, c7, rfl, l7, r7⟩⟩⟩⟩⟩⟩⟩
theorem k47_mkM (w : World) (base : Nat) (ok : Nat → Prop) (x : S47) {v2 : Value} (g2 : k35.R 35 w base ok v2 x.f1.f1) {v4 : Value} (g4 : k35.R 35 w base ok v4 x.f2.f1) {v7 : Value} (g7 : k47.R 47 w base ok v7 x.f5) : k47.M w base ok x [.int .i8 x.f0, .int .i8 x.f1.f0, v2, .int .i8 x.f2.f0, v4, .int .i64 x.f3, .bool x.f4, v7] := by
  obtain ⟨n7, q7⟩ := Kd.fix_R_back mono47 g7
  have r7 := Kd.upto_R_le mono47 sz47 (show n7 ≤ n7 by omega) q7
  exact ⟨n7 + 1, ⟨[.int .i8 x.f0], [.int .i8 x.f1.f0, v2, .int .i8 x.f2.f0, v4, .int .i64 x.f3, .bool x.f4, v7], rfl, rfl, ⟨[.int .i8 x.f1.f0, v2], [.int .i8 x.f2.f0, v4, .int .i64 x.f3, .bool x.f4, v7], rfl, (k35_mkM w base ok x.f1 g2), ⟨[.int .i8 x.f2.f0, v4], [.int .i64 x.f3, .bool x.f4, v7], rfl, (k35_mkM w base ok x.f2 g4), ⟨[.int .i64 x.f3], [.bool x.f4, v7], rfl, rfl, ⟨[.bool x.f4], [v7], rfl, rfl, ⟨v7, rfl, r7⟩⟩⟩⟩⟩⟩⟩
theorem k47_openF {W : World} {ok : Nat → Prop} {x : S47} {cs : List Value} (h : Kd.FK k47 W ok x cs) : ∃ A2 c2 A4 c4 A7 c7, cs = [.int .i8 x.f0, .int .i8 x.f1.f0, .slice A2 x.f1.f1.length c2, .int .i8 x.f2.f0, .slice A4 x.f2.f1.length c4, .int .i64 x.f3, .bool x.f4, .slice A7 x.f5.length c7] ∧ x.f1.f1.length ≤ c2 ∧ Kd.F k35 W ok A2 x.f1.f1.length x.f1.f1 ∧ x.f2.f1.length ≤ c4 ∧ Kd.F k35 W ok A4 x.f2.f1.length x.f2.f1 ∧ x.f5.length ≤ c7 ∧ Kd.F k47 W ok A7 x.f5.length x.f5 := by
  obtain ⟨A2, c2, A4, c4, A7, c7, rfl, l2, _, l4, _, l7, _⟩ := k47_open (Kd.FK_now h)
  exact ⟨A2, c2, A4, c4, A7, c7, rfl, l2, (fun W' hW => by obtain ⟨A2_, c2_, A4_, c4_, A7_, c7_, he, l2_, g2_, l4_, g4_, l7_, g7_⟩ := k47_open (h W' hW); injection (Option.some.inj (show some (Value.slice A2 x.f1.f1.length c2) = some (Value.slice A2_ x.f1.f1.length c2_) from congrArg (fun l => l[2]?) he)) with ha_ _ _; rw [ha_]; exact g2_), l4, (fun W' hW => by obtain ⟨A2_, c2_, A4_, c4_, A7_, c7_, he, l2_, g2_, l4_, g4_, l7_, g7_⟩ := k47_open (h W' hW); injection (Option.some.inj (show some (Value.slice A4 x.f2.f1.length c4) = some (Value.slice A4_ x.f2.f1.length c4_) from congrArg (fun l => l[4]?) he)) with ha_ _ _; rw [ha_]; exact g4_), l7, (fun W' hW => by obtain ⟨A2_, c2_, A4_, c4_, A7_, c7_, he, l2_, g2_, l4_, g4_, l7_, g7_⟩ := k47_open (h W' hW); injection (Option.some.inj (show some (Value.slice A7 x.f5.length c7) = some (Value.slice A7_ x.f5.length c7_) from congrArg (fun l => l[7]?) he)) with ha_ _ _; rw [ha_]; exact g7_)⟩
theorem k47_mkF (W : World) (ok : Nat → Prop) (x : S47) {A2 : Option Addr} {c2 : Nat} (l2 : x.f1.f1.length ≤ c2) (g2 : Kd.F k35 W ok A2 x.f1.f1.length x.f1.f1) {A4 : Option Addr} {c4 : Nat} (l4 : x.f2.f1.length ≤ c4) (g4 : Kd.F k35 W ok A4 x.f2.f1.length x.f2.f1) {A7 : Option Addr} {c7 : Nat} (l7 : x.f5.length ≤ c7) (g7 : Kd.F k47 W ok A7 x.f5.length x.f5) : Kd.FK k47 W ok x [.int .i8 x.f0, .int .i8 x.f1.f0, .slice A2 x.f1.f1.length c2, .int .i8 x.f2.f0, .slice A4 x.f2.f1.length c4, .int .i64 x.f3, .bool x.f4, .slice A7 x.f5.length c7] := fun W2 hW => k47_mk W2 x l2 (g2 W2 hW) l4 (g4 W2 hW) l7 (g7 W2 hW)
def rd_T47 (xs : List S47) (i : Int) : S47 := xs.getD i.toNat z47
theorem at_T47 {w : World} {A : Option Addr} {n : Nat} {xs : List S47} (h : Kd.C k47 w A n xs) (i : Int) (h0 : 0 ≤ i) (h1 : i < n) : ∃ ad A2 c2 A4 c4 A7 c7, A = some ad ∧ w.cell? (ad.add (i.toNat * 8)) = some (.int .i8 (rd_T47 xs i).f0) ∧ w.cell? ⟨(ad.add (i.toNat * 8)).block, (ad.add (i.toNat * 8)).off + 1, none⟩ = some (.int .i8 (rd_T47 xs i).f1.f0) ∧ w.cell? ⟨(ad.add (i.toNat * 8)).block, (ad.add (i.toNat * 8)).off + 2, none⟩ = some (.slice A2 (rd_T47 xs i).f1.f1.length c2) ∧ w.cell? ⟨(ad.add (i.toNat * 8)).block, (ad.add (i.toNat * 8)).off + 3, none⟩ = some (.int .i8 (rd_T47 xs i).f2.f0) ∧ w.cell? ⟨(ad.add (i.toNat * 8)).block, (ad.add (i.toNat * 8)).off + 4, none⟩ = some (.slice A4 (rd_T47 xs i).f2.f1.length c4) ∧ w.cell? ⟨(ad.add (i.toNat * 8)).block, (ad.add (i.toNat * 8)).off + 5, none⟩ = some (.int .i64 (rd_T47 xs i).f3) ∧ w.cell? ⟨(ad.add (i.toNat * 8)).block, (ad.add (i.toNat * 8)).off + 6, none⟩ = some (.bool (rd_T47 xs i).f4) ∧ w.cell? ⟨(ad.add (i.toNat * 8)).block, (ad.add (i.toNat * 8)).off + 7, none⟩ = some (.slice A7 (rd_T47 xs i).f5.length c7) ∧ (rd_T47 xs i).f1.f1.length ≤ c2 ∧ k35.C w A2 (rd_T47 xs i).f1.f1.length (rd_T47 xs i).f1.f1 ∧ (rd_T47 xs i).f2.f1.length ≤ c4 ∧ k35.C w A4 (rd_T47 xs i).f2.f1.length (rd_T47 xs i).f2.f1 ∧ (rd_T47 xs i).f5.length ≤ c7 ∧ k47.C w A7 (rd_T47 xs i).f5.length (rd_T47 xs i).f5 := by
  obtain ⟨ad, c, e, _, hK, hc0⟩ := Kd.C_get h z47 i h0 h1
  have hc : ∀ j u, c[j]? = some u → w.cell? (ad.add (i.toNat * 8 + j)) = some u := hc0
  obtain ⟨A2, c2, A4, c4, A7, c7, rfl, l2, g2, l4, g4, l7, g7⟩ := k47_open hK
  exact ⟨ad, A2, c2, A4, c4, A7, c7, e, hc 0 _ rfl, by rw [← add_field _ _ 1 (by omega)]; exact hc 1 _ rfl, by rw [← add_field _ _ 2 (by omega)]; exact hc 2 _ rfl, by rw [← add_field _ _ 3 (by omega)]; exact hc 3 _ rfl, by rw [← add_field _ _ 4 (by omega)]; exact hc 4 _ rfl, by rw [← add_field _ _ 5 (by omega)]; exact hc 5 _ rfl, by rw [← add_field _ _ 6 (by omega)]; exact hc 6 _ rfl, by rw [← add_field _ _ 7 (by omega)]; exact hc 7 _ rfl, l2, g2, l4, g4, l7, g7⟩

end Go.Proofs.Ytjmpejbciniceaa.X
/- What scan.All answers, over lists of bytes; its two plain laws: what stands behind a blank changes nothing ahead of it, and words with blanks between are the same words again. -/
namespace Go.Proofs.Ytjmpejbciniceaa.X
set_option linter.unusedVariables false
set_option linter.unusedSimpArgs false

def letU (c : UInt8) : Bool := (decide (65 ≤ c) && decide (c ≤ 90)) || (decide (97 ≤ c) && decide (c ≤ 122)) || c == 95
def digU (c : UInt8) : Bool := decide (48 ≤ c) && decide (c ≤ 57)
def blankU (c : UInt8) : Bool := c == 32 || c == 9 || c == 13
def signsU : List UInt8 := [92, 46, 58, 61, 40, 41, 91, 93, 123, 125, 44, 124, 43, 45, 42, 47, 60, 62, 63, 59]
def signU (c : UInt8) : Bool := signsU.contains c
def keysU : List (List UInt8) := [[108, 101, 116], [105, 110], [105, 102], [116, 104, 101, 110], [101, 108, 115, 101], [114, 101, 99], [99, 97, 115, 101], [111, 102], [102, 115, 116], [115, 110, 100], [105, 110, 108], [105, 110, 114], [116, 114, 117, 101], [102, 97, 108, 115, 101], [105, 110, 116], [98, 111, 111, 108]]
def keyU (s : List UInt8) : Bool := keysU.contains s
/-- Digits as a number; none: above 2^63 - 1. -/
def numR : List UInt8 → Nat → Option Nat
  | [], n => some n
  | c :: l, n => if (9223372036854775807 - (c.toNat - 48)) / 10 < n then none else numR l (n * 10 + (c.toNat - 48))
structure SWord where
  kind : Int
  text : List UInt8
  num : Nat
  pos : Nat
inductive SRes where
  | word (kind : Int) (text : List UInt8) (num : Nat)
  | fault (code : Int) (text : List UInt8)
def headLet : List UInt8 → Bool
  | d :: _ => letU d
  | [] => false
def wordR : List UInt8 → SRes
  | [] => .fault 10 []
  | c :: l =>
    if letU c then
      if 64 < (c :: l.takeWhile (fun d => letU d || digU d)).length then .fault 3 (c :: l.takeWhile (fun d => letU d || digU d))
      else .word (if keyU (c :: l.takeWhile (fun d => letU d || digU d)) then 3 else 1) (c :: l.takeWhile (fun d => letU d || digU d)) 0
    else if digU c then
      match numR (c :: l.takeWhile digU) 0 with
      | none => .fault 3 (c :: l.takeWhile digU)
      | some n => if (1 < (c :: l.takeWhile digU).length ∧ c = 48) ∨ headLet (l.dropWhile digU) = true then .fault 10 (c :: l.takeWhile digU) else .word 2 (c :: l.takeWhile digU) n
    else if c = 45 ∧ l.head? = some 62 then .word 4 [45, 62] 0
    else if signU c then .word 4 [c] 0
    else .fault 10 [c]
def skipR : List UInt8 → Bool → List UInt8
  | [], _ => []
  | c :: l, rem => if c = 10 then skipR l false else if rem then skipR l true else if blankU c then skipR l false else if c = 35 then skipR l true else c :: l
/-- From the rest l of a text of N bytes on: the words, or the fault and its place. -/
def scanR : Nat → Nat → List UInt8 → Except (Int × Nat × List UInt8) (List SWord)
  | 0, _, _ => .ok []
  | f + 1, N, l => match skipR l false with
    | [] => .ok []
    | c :: m => match wordR (c :: m) with
      | .fault e s => .error (e, N - (c :: m).length, s)
      | .word k s n => match scanR f N ((c :: m).drop s.length) with
        | .error e => .error e
        | .ok ws => .ok (⟨k, s, n, N - (c :: m).length⟩ :: ws)

theorem skip_suffix (l : List UInt8) : ∀ rem, ∃ p, l = p ++ skipR l rem := by
  induction l with
  | nil => intro rem; exact ⟨[], rfl⟩
  | cons c l ih =>
    intro rem
    rw [skipR]
    have step : ∀ r, ∃ p, c :: l = p ++ skipR l r := fun r => by
      obtain ⟨p, hp⟩ := ih r
      exact ⟨c :: p, by rw [List.cons_append, ← hp]⟩
    split
    · exact step _
    · split
      · exact step _
      · split
        · exact step _
        · split
          · exact step _
          · exact ⟨[], rfl⟩
/-- What skip comes to is no blank and begins no remark. -/
def startU (c : UInt8) : Prop := c ≠ 10 ∧ blankU c = false ∧ c ≠ 35
theorem skip_start (l : List UInt8) : ∀ rem c m, skipR l rem = c :: m → startU c := by
  induction l with
  | nil => intro rem c m h; simp [skipR] at h
  | cons d l ih =>
    intro rem c m h
    rw [skipR] at h
    split at h
    · exact ih _ _ _ h
    · split at h
      · exact ih _ _ _ h
      · split at h
        · exact ih _ _ _ h
        · split at h
          · exact ih _ _ _ h
          · rename_i h1 h2 h3 h4
            injection h with h5 h6
            subst h5
            exact ⟨h1, by simpa using h3, h4⟩
theorem skip_at {c : UInt8} (h : startU c) (l : List UInt8) : skipR (c :: l) false = c :: l := by
  rw [skipR, if_neg h.1, if_neg (by simp), if_neg (by simp [h.2.1]), if_neg h.2.2]
/-- A word is what its rest begins with. -/
theorem word_prefix {l : List UInt8} {k : Int} {s : List UInt8} {n : Nat} (h : wordR l = .word k s n) : ∃ m, l = s ++ m ∧ s ≠ [] := by
  cases l with
  | nil => simp [wordR] at h
  | cons c l =>
    rw [wordR] at h
    split at h
    · split at h
      · simp at h
      · injection h with _ h _
        subst h
        exact ⟨l.dropWhile (fun d => letU d || digU d), by rw [List.cons_append, List.takeWhile_append_dropWhile], by simp⟩
    · split at h
      · split at h
        · simp at h
        · split at h
          · simp at h
          · injection h with _ h _
            subst h
            exact ⟨l.dropWhile digU, by rw [List.cons_append, List.takeWhile_append_dropWhile], by simp⟩
      · split at h
        · rename_i h2
          injection h with _ h _
          subst h
          obtain ⟨rfl, h3⟩ := h2
          cases l with
          | nil => simp at h3
          | cons d l => simp at h3; subst h3; exact ⟨l, rfl, by simp⟩
        · split at h
          · injection h with _ h _
            subst h
            exact ⟨l, rfl, by simp⟩
          · simp at h
theorem take_blank (p : UInt8 → Bool) (hp : p 32 = false) (x y : List UInt8) : (x ++ 32 :: y).takeWhile p = x.takeWhile p := by
  induction x with
  | nil => simp [List.takeWhile, hp]
  | cons c x ih => simp only [List.cons_append, List.takeWhile_cons]; split <;> simp [*]
theorem drop_blank (p : UInt8 → Bool) (hp : p 32 = false) (x y : List UInt8) : (x ++ 32 :: y).dropWhile p = x.dropWhile p ++ 32 :: y := by
  induction x with
  | nil => simp [List.dropWhile, hp]
  | cons c x ih => simp only [List.cons_append, List.dropWhile_cons]; split <;> simp [*]
theorem headLet_blank (x y : List UInt8) : headLet (x ++ 32 :: y) = headLet x := by
  cases x with
  | nil => rfl
  | cons c x => rfl
theorem head_blank (x y : List UInt8) : (x ++ 32 :: y).head? = some 62 ↔ x.head? = some 62 := by
  cases x with
  | nil => simp
  | cons c x => simp
/-- What stands behind a blank is nothing to the word ahead of it. -/
theorem word_blank (c : UInt8) (x y : List UInt8) : wordR (c :: (x ++ 32 :: y)) = wordR (c :: x) := by
  have p1 : (fun d => letU d || digU d) 32 = false := by decide
  have p2 : digU 32 = false := by decide
  rw [wordR, wordR, take_blank _ p1, take_blank _ p2, drop_blank _ p2, headLet_blank]
  simp only [head_blank]
theorem skip_blank (x : List UInt8) : ∀ rem, (∃ c m, skipR x rem = c :: m ∧ ∀ y, skipR (x ++ 32 :: y) rem = c :: (m ++ 32 :: y)) ∨ (skipR x rem = [] ∧ skipR (x ++ [32]) rem = []) := by
  induction x with
  | nil =>
    intro rem
    refine .inr ⟨rfl, ?_⟩
    cases rem <;> rfl
  | cons c x ih =>
    intro rem
    simp only [List.cons_append, skipR]
    by_cases h1 : c = 10
    · simp only [h1, if_true]; exact ih false
    · simp only [h1, if_false]
      by_cases h2 : rem = true
      · simp only [h2, if_true]; exact ih true
      · simp only [h2, if_false]
        by_cases h3 : blankU c = true
        · simp only [h3, if_true]; exact ih false
        · simp only [h3, if_false]
          by_cases h4 : c = 35
          · simp only [h4, if_true]; exact ih true
          · simp only [h4, if_false]
            exact .inl ⟨c, x, rfl, fun y => rfl⟩
/-- Words ahead of a blank: the same, and there, if there are any behind it. -/
theorem scan_ahead (y : List UInt8) : ∀ (f g : Nat) (x : List UInt8) (N M : Nat) (ms : List SWord), x.length < f → (x ++ 32 :: y).length < g → N - (x ++ [32]).length = M - (x ++ 32 :: y).length → (x ++ [32]).length ≤ N → (x ++ 32 :: y).length ≤ M → scanR g M (x ++ 32 :: y) = .ok ms →
    ∃ ls rs, scanR f N (x ++ [32]) = .ok ls ∧ ms = ls ++ rs := by
  intro f
  induction f with
  | zero => intro g x N M ms h; omega
  | succ f ih =>
    intro g x N M ms hf hg hNM hN hM hs
    obtain ⟨g, rfl⟩ : ∃ m, g = m + 1 := ⟨g - 1, by omega⟩
    rw [scanR]
    rcases skip_blank x false with ⟨c, m, h1, h2⟩ | ⟨h1, h2⟩
    · rw [h2 []]
      rw [scanR, h2 y] at hs
      simp only at hs ⊢
      rw [word_blank] at hs ⊢
      obtain ⟨p, hp⟩ := skip_suffix x false
      rw [h1] at hp
      have hlen := congrArg List.length hp
      simp at hlen
      cases hw : wordR (c :: m) with
      | fault e s => rw [hw] at hs; simp at hs
      | word k s n =>
        rw [hw] at hs
        simp only at hs ⊢
        obtain ⟨r, hr, hne⟩ := word_prefix hw
        have e1 : ∀ z : List UInt8, (c :: (m ++ 32 :: z)).drop s.length = r ++ 32 :: z := fun z => by
          rw [← List.cons_append, hr, List.append_assoc, List.drop_left]
        have hs1 : 0 < s.length := List.length_pos_iff.2 hne
        have hl2 := congrArg List.length hr
        simp at hl2
        rw [e1 []]
        rw [e1 y] at hs
        cases hq : scanR g M (r ++ 32 :: y) with
        | error e => rw [hq] at hs; simp at hs
        | ok qs =>
          rw [hq] at hs
          simp only [Except.ok.injEq] at hs
          simp only [List.length_append, List.length_cons, List.length_nil] at hf hg hNM hN hM hl2 hlen
          obtain ⟨ls, rs, h3, h4⟩ := ih g r N M qs (by omega) (by simp only [List.length_append, List.length_cons]; omega) (by simp only [List.length_append, List.length_cons, List.length_nil]; omega) (by simp only [List.length_append, List.length_cons, List.length_nil]; omega) (by simp only [List.length_append, List.length_cons]; omega) hq
          rw [h3]
          refine ⟨_, rs, rfl, ?_⟩
          rw [← hs, h4, List.cons_append]
          congr 2
          simp only [List.length_append, List.length_cons, List.length_nil]
          omega
    · rw [h2]
      exact ⟨[], ms, rfl, rfl⟩
/-! ### parted words -/
theorem takeWhile_idem (p : UInt8 → Bool) (l : List UInt8) : (l.takeWhile p).takeWhile p = l.takeWhile p := by
  induction l with
  | nil => rfl
  | cons c l ih => simp only [List.takeWhile_cons]; split <;> simp [*]
theorem dropWhile_take (p : UInt8 → Bool) (l : List UInt8) : (l.takeWhile p).dropWhile p = [] := by
  induction l with
  | nil => rfl
  | cons c l ih => simp only [List.takeWhile_cons]; split <;> simp [*]
/-- A word alone is the same word. -/
theorem word_again {l : List UInt8} {k : Int} {s : List UInt8} {n : Nat} (h : wordR l = .word k s n) : wordR s = .word k s n := by
  cases l with
  | nil => simp [wordR] at h
  | cons c l =>
    rw [wordR] at h
    by_cases h1 : letU c = true
    · rw [if_pos h1] at h
      split at h
      · simp at h
      · rename_i h2
        injection h with hk hs hn
        subst hk hs hn
        rw [wordR, if_pos h1, takeWhile_idem, if_neg h2]
    · rw [if_neg h1] at h
      by_cases h2 : digU c = true
      · rw [if_pos h2] at h
        split at h
        · simp at h
        · rename_i m hm
          split at h
          · simp at h
          · rename_i h3
            injection h with hk hs hn
            subst hk hs hn
            rw [wordR, if_neg h1, if_pos h2, takeWhile_idem, hm, dropWhile_take]
            simp only
            rw [if_neg]
            intro h4
            rcases h4 with h4 | h4
            · exact h3 (.inl h4)
            · simp [headLet] at h4
      · rw [if_neg h2] at h
        split at h
        · rename_i h3
          injection h with hk hs hn
          subst hk hs hn
          rfl
        · split at h
          · rename_i h3 h4
            injection h with hk hs hn
            subst hk hs hn
            rw [wordR, if_neg h1, if_neg h2, if_neg (by simp), if_pos h4]
          · simp at h
structure GoodW (w : SWord) : Prop where
  word : wordR w.text = .word w.kind w.text w.num
  start : ∃ c m, w.text = c :: m ∧ startU c
def partedR (L : List UInt8) : Nat → List SWord → Prop
  | _, [] => True
  | a, w :: ws => a ≤ w.pos ∧ GoodW w ∧ (∃ m, L.drop w.pos = w.text ++ m) ∧ partedR L (w.pos + w.text.length) ws
theorem scan_parted (L : List UInt8) : ∀ (f : Nat) (p l : List UInt8) (ws : List SWord), L = p ++ l → l.length < f → scanR f L.length l = .ok ws → partedR L p.length ws := by
  intro f
  induction f with
  | zero => intro p l ws _ h; omega
  | succ f ih =>
    intro p l ws hL hf hs
    rw [scanR] at hs
    obtain ⟨q, hq⟩ := skip_suffix l false
    cases h1 : skipR l false with
    | nil => rw [h1] at hs; simp at hs; subst hs; trivial
    | cons c m =>
      rw [h1] at hs hq
      simp only at hs
      cases hw : wordR (c :: m) with
      | fault e s => rw [hw] at hs; simp at hs
      | word k s n =>
        rw [hw] at hs
        simp only at hs
        obtain ⟨r, hr, hne⟩ := word_prefix hw
        cases hz : scanR f L.length ((c :: m).drop s.length) with
        | error e => rw [hz] at hs; simp at hs
        | ok qs =>
          rw [hz] at hs
          simp only [Except.ok.injEq] at hs
          subst hs
          have hlL := congrArg List.length hL
          have hlq := congrArg List.length hq
          have hlr := congrArg List.length hr
          have hs0 : 0 < s.length := List.length_pos_iff.2 hne
          simp only [List.length_append, List.length_cons] at hlL hlq hlr
          have hpos : L.length - (c :: m).length = (p ++ q).length := by simp only [List.length_append, List.length_cons]; omega
          have e1 : (c :: m).drop s.length = r := by rw [hr, List.drop_left]
          rw [e1] at hz
          refine ⟨?_, ⟨word_again hw, ?_⟩, ⟨r, ?_⟩, ?_⟩
          · show p.length ≤ L.length - (c :: m).length
            rw [hpos, List.length_append]; omega
          · show ∃ c m, s = c :: m ∧ startU c
            cases s with
            | nil => exact absurd rfl hne
            | cons d s =>
              injection hr with h5 h6
              subst h5
              exact ⟨_, s, rfl, skip_start _ _ _ _ h1⟩
          · show L.drop (L.length - (c :: m).length) = s ++ r
            have hLe : L = (p ++ q) ++ (c :: m) := by rw [hL, hq, List.append_assoc]
            have e2 : (p ++ q ++ (c :: m)).length - (c :: m).length = (p ++ q).length := by simp only [List.length_append, List.length_cons]; omega
            rw [hLe, e2, List.drop_left, hr]
          · have h9 := ih (p ++ q ++ s) r qs (by rw [hL, hq, hr]; simp [List.append_assoc]) (by omega) hz
            have e3 : (p ++ q ++ s).length = L.length - (c :: m).length + s.length := by rw [hpos]; simp only [List.length_append]
            rwa [e3] at h9
def joinR : List SWord → List UInt8
  | [] => []
  | w :: ws => w.text ++ 32 :: joinR ws
def sameR (a b : SWord) : Prop := a.kind = b.kind ∧ a.text = b.text ∧ a.num = b.num
inductive AllSame : List SWord → List SWord → Prop
  | nil : AllSame [] []
  | cons {a b xs ys} : sameR a b → AllSame xs ys → AllSame (a :: xs) (b :: ys)
theorem skip_one_blank (l : List UInt8) : skipR (32 :: l) false = skipR l false := by rw [skipR]; simp [blankU]
theorem scan_skip (f N : Nat) (l : List UInt8) : scanR (f + 1) N (32 :: l) = scanR (f + 1) N l := by rw [scanR, scanR, skip_one_blank]
theorem scan_join (L : List UInt8) : ∀ (ws : List SWord) (a N f : Nat), partedR L a ws → (joinR ws).length < f → ∃ vs, scanR f N (joinR ws) = .ok vs ∧ AllSame vs ws := by
  intro ws
  induction ws with
  | nil =>
    intro a N f _ hf
    obtain ⟨f, rfl⟩ : ∃ m, f = m + 1 := ⟨f - 1, by omega⟩
    exact ⟨[], rfl, .nil⟩
  | cons w ws ih =>
    intro a N f hp hf
    obtain ⟨f, rfl⟩ : ∃ m, f = m + 1 := ⟨f - 1, by omega⟩
    obtain ⟨_, hg, _, hp2⟩ := hp
    obtain ⟨c, m, hcm, hst⟩ := hg.start
    have hw := hg.word
    simp only [joinR, List.length_append, List.length_cons] at hf ⊢
    rw [hcm] at hw hf ⊢
    rw [scanR, List.cons_append, skip_at hst]
    simp only
    rw [word_blank, hw]
    simp only
    have e1 : (c :: (m ++ 32 :: joinR ws)).drop (c :: m).length = 32 :: joinR ws := by rw [← List.cons_append, List.drop_left]
    rw [e1]
    simp only [List.length_cons] at hf
    obtain ⟨g, rfl⟩ : ∃ g, f = g + 1 := ⟨f - 1, by omega⟩
    rw [scan_skip]
    obtain ⟨vs, h1, h2⟩ := ih _ N (g + 1) hp2 (by omega)
    rw [h1]
    exact ⟨_, rfl, .cons ⟨rfl, hcm.symm, rfl⟩ h2⟩
end Go.Proofs.Ytjmpejbciniceaa.X
/- A step of a range over a string, and what skip makes of it. -/
namespace Go.Proofs.Ytjmpejbciniceaa.X
open Go
set_option linter.unusedVariables false
set_option linter.unusedSimpArgs false

theorem get_in (t : ByteArray) (i : Nat) (h : i < t.size) : t.get! i = t[i]'h := by
  simp [ByteArray.get!, getElem!_pos, h]
  rfl
theorem cont_in {t : ByteArray} {pos k : Nat} (h : (decide (pos + k < t.size) && (t.get! (pos + k)).toNat / 64 == 2) = true) : ∃ h : pos + k < t.size, 128 ≤ (t[pos + k]'h).toNat := by
  simp only [Bool.and_eq_true, decide_eq_true_eq, beq_iff_eq] at h
  obtain ⟨h1, h2⟩ := h
  rw [get_in t _ h1] at h2
  exact ⟨h1, by omega⟩
/-- The bytes of a rune that is no ASCII one are none themselves. -/
theorem decode_bytes (t : ByteArray) (pos : Nat) (h : pos < t.size) (ha : 128 ≤ (t[pos]'h).toNat) : ∀ j, j < (Utf8.decode t pos).2 → ∃ h : pos + j < t.size, 128 ≤ (t[pos + j]'h).toNat := by
  have zero : ∃ h : pos + 0 < t.size, 128 ≤ (t[pos + 0]'h).toNat := ⟨h, ha⟩
  have hn : ¬ (t[pos]'h).toNat < 128 := by omega
  simp only [Utf8.decode, get_at t pos h, hn, if_false]
  intro j hj
  split at hj
  · rename_i h1
    simp only [Bool.and_eq_true] at h1
    have c1 := cont_in (k := 1) (by simpa using h1.2)
    split at hj
    · match j, hj with
      | 0, _ => exact zero
      | 1, _ => exact c1
    · match j, hj with
      | 0, _ => exact zero
  · split at hj
    · rename_i h1
      simp only [Bool.and_eq_true] at h1
      have c1 := cont_in (k := 1) (by simpa using h1.1.2)
      have c2 := cont_in (k := 2) (by simpa using h1.2)
      split at hj
      · match j, hj with
        | 0, _ => exact zero
        | 1, _ => exact c1
        | 2, _ => exact c2
      · match j, hj with
        | 0, _ => exact zero
    · split at hj
      · rename_i h1
        simp only [Bool.and_eq_true] at h1
        have c1 := cont_in (k := 1) (by simpa using h1.1.1.2)
        have c2 := cont_in (k := 2) (by simpa using h1.1.2)
        have c3 := cont_in (k := 3) (by simpa using h1.2)
        split at hj
        · match j, hj with
          | 0, _ => exact zero
          | 1, _ => exact c1
          | 2, _ => exact c2
          | 3, _ => exact c3
        · match j, hj with
          | 0, _ => exact zero
      · match j, hj with
        | 0, _ => exact zero
theorem drop_at (t : ByteArray) (i : Nat) (h : i < t.size) : t.data.toList.drop i = t[i] :: t.data.toList.drop (i + 1) := by
  rw [List.drop_eq_getElem_cons (by simpa using h)]
  rfl
theorem skip_high (t : ByteArray) (pos : Nat) : ∀ n, (∀ j, j < n → ∃ h : pos + j < t.size, 128 ≤ (t[pos + j]'h).toNat) → skipR (t.data.toList.drop pos) true = skipR (t.data.toList.drop (pos + n)) true := by
  intro n
  induction n with
  | zero => intro _; rfl
  | succ n ih =>
    intro h
    rw [ih (fun j hj => h j (by omega))]
    obtain ⟨h1, h2⟩ := h n (by omega)
    rw [drop_at t (pos + n) h1, skipR, if_neg (by intro e; rw [e] at h2; exact absurd h2 (by decide)), if_pos rfl]
    rfl
/-- One round of skip. -/
theorem skip_round (t : ByteArray) (pos : Nat) (h : pos < t.size) (rem : Bool) : ∃ (r : Int) (wd : Nat), ((Utf8.decode t pos).1 : Int) = r ∧ (Utf8.decode t pos).2 = wd ∧ 1 ≤ wd ∧ pos + wd ≤ t.size ∧ 0 ≤ r ∧ r ≤ 2147483647 ∧
    skipR (t.data.toList.drop pos) rem = if r = 10 then skipR (t.data.toList.drop (pos + wd)) false else if rem = true then skipR (t.data.toList.drop (pos + wd)) true else if r = 32 ∨ r = 9 ∨ r = 13 then skipR (t.data.toList.drop (pos + wd)) false else if r = 35 then skipR (t.data.toList.drop (pos + wd)) true else t.data.toList.drop pos := by
  refine ⟨_, _, rfl, rfl, ?_⟩
  by_cases ha : (t[pos]'h).toNat < 128
  · rw [decode_ascii t pos h ha]
    refine ⟨Nat.le_refl _, h, by simp, by simp; omega, ?_⟩
    rw [drop_at t pos h, skipR]
    have e : ∀ n : UInt8, t[pos] = n ↔ (((t[pos]'h).toNat : Nat) : Int) = (n.toNat : Int) := fun n => by
      rw [← UInt8.toNat_inj]; omega
    have hb : blankU t[pos] = true ↔ (((t[pos]'h).toNat : Nat) : Int) = 32 ∨ (((t[pos]'h).toNat : Nat) : Int) = 9 ∨ (((t[pos]'h).toNat : Nat) : Int) = 13 := by
      unfold blankU
      simp only [Bool.or_eq_true, beq_iff_eq, e]
      exact or_assoc
    have e10 : t[pos] = 10 ↔ (((t[pos]'h).toNat : Nat) : Int) = 10 := e 10
    have e35 : t[pos] = 35 ↔ (((t[pos]'h).toNat : Nat) : Int) = 35 := e 35
    dsimp only
    by_cases h1 : t[pos] = 10
    · rw [if_pos h1, if_pos (e10.1 h1)]
    rw [if_neg h1, if_neg (fun q => h1 (e10.2 q))]
    cases rem with
    | true => rfl
    | false =>
      simp only [Bool.false_eq_true, if_false]
      by_cases h2 : blankU t[pos] = true
      · rw [if_pos h2, if_pos (hb.1 h2)]
      rw [if_neg h2, if_neg (fun q => h2 (hb.2 q))]
      by_cases h3 : t[pos] = 35
      · rw [if_pos h3, if_pos (e35.1 h3)]
      · rw [if_neg h3, if_neg (fun q => h3 (e35.2 q))]
  · have hh := decode_high t pos h (by omega)
    have hle := decode_le t pos
    have hb := decode_bytes t pos h (by omega)
    obtain ⟨h9, _⟩ := hb ((Utf8.decode t pos).2 - 1) (by omega)
    refine ⟨hh.2, by omega, by omega, by omega, ?_⟩
    rw [if_neg (by omega)]
    cases rem with
    | true => rw [if_pos rfl]; exact skip_high t pos _ hb
    | false =>
      rw [if_neg (by simp), if_neg (by omega), if_neg (by omega), drop_at t pos h, skipR]
      have hn : ∀ n : UInt8, n.toNat < 128 → t[pos] ≠ n := fun n hn e => by rw [e] at ha; omega
      rw [if_neg (hn 10 (by decide)), if_neg (by simp), if_neg (by unfold blankU; simp [hn 32 (by decide), hn 9 (by decide), hn 13 (by decide)]), if_neg (hn 35 (by decide))]
end Go.Proofs.Ytjmpejbciniceaa.X
-- Written by xprint.py, a program of this session that drives the kit's print beside contracts proved by hand. Lean checks it.
namespace Go.Proofs.Ytjmpejbciniceaa.X
open Go.RowKit Go.Proofs.YtjmpejbciniceaaW.PrintWords Go.Proofs.YtjmpejbciniceaaW.PrintLast Go.Proofs.YtjmpejbciniceaaW.PrintMore
attribute [local go_sem] max2_int min2_int max_two min_two max_three min_three max_four min_four   -- for this text's walks alone
set_option linter.unusedVariables false
set_option linter.unusedSimpArgs false

-- NOT PRINTED: function 16 (scan_reader_skip)

/-! ### scan_letter: function 32 -/
def scan_letter.f (a0 : Int) : Option (Bool) := if a0 ≥ 65 then (if a0 ≤ 90 then (some true) else (if a0 ≥ 97 then (if a0 ≤ 122 then (some true) else (some (a0 == 95))) else (some (a0 == 95)))) else (if a0 ≥ 97 then (if a0 ≤ 122 then (some true) else (some (a0 == 95))) else (some (a0 == 95)))
set_option maxHeartbeats 8000000 in
set_option maxRecDepth 100000 in
theorem scan_letter.calls (a0 : Int) (r : Bool) (w : World) (h : scan_letter.f a0 = some r) :
    Calls Try.prog 32 #[.int .u8 a0] w fun e w' => e = .returned (.bool r) ∧ Drawn0 w w' := by
  have H : (if a0 ≥ 65 then (if a0 ≤ 90 then (some true) else (if a0 ≥ 97 then (if a0 ≤ 122 then (some true) else (some (a0 == 95))) else (some (a0 == 95)))) else (if a0 ≥ 97 then (if a0 ≤ 122 then (some true) else (some (a0 == 95))) else (some (a0 == 95)))) = some r := h
  clear h
  by_cases c2 : a0 ≥ 65
  · rw [if_pos c2] at H
    have c2b0 : decide (65 ≤ a0) = true := decide_eq_true c2
    clear c2
    by_cases c3 : a0 ≤ 90
    · rw [if_pos c3] at H
      have c3b0 : decide (a0 ≤ 90) = true := decide_eq_true c3
      clear c3
      obtain rfl := Option.some.inj H
      go_enter Try.func32, Try.ntmps32
      go_wp2
      go_ret
      exact ⟨by first | rfl | (simp; done) | (simp [*]; done), by repeat (first | exact Drawn0.refl _ | apply Drawn0.step)⟩
    · rw [if_neg c3] at H
      have c3b0 : decide (a0 ≤ 90) = false := decide_eq_false c3
      clear c3
      by_cases c4 : a0 ≥ 97
      · rw [if_pos c4] at H
        have c4b0 : decide (97 ≤ a0) = true := decide_eq_true c4
        clear c4
        by_cases c5 : a0 ≤ 122
        · rw [if_pos c5] at H
          have c5b0 : decide (a0 ≤ 122) = true := decide_eq_true c5
          clear c5
          obtain rfl := Option.some.inj H
          go_enter Try.func32, Try.ntmps32
          go_wp2
          go_ret
          exact ⟨by first | rfl | (simp; done) | (simp [*]; done), by repeat (first | exact Drawn0.refl _ | apply Drawn0.step)⟩
        · rw [if_neg c5] at H
          have c5b0 : decide (a0 ≤ 122) = false := decide_eq_false c5
          clear c5
          obtain rfl := Option.some.inj H
          go_enter Try.func32, Try.ntmps32
          go_wp2
          go_ret
          exact ⟨by first | rfl | (simp; done) | (simp [*]; done), by repeat (first | exact Drawn0.refl _ | apply Drawn0.step)⟩
      · rw [if_neg c4] at H
        have c4b0 : decide (97 ≤ a0) = false := decide_eq_false c4
        clear c4
        obtain rfl := Option.some.inj H
        go_enter Try.func32, Try.ntmps32
        go_wp2
        go_ret
        exact ⟨by first | rfl | (simp; done) | (simp [*]; done), by repeat (first | exact Drawn0.refl _ | apply Drawn0.step)⟩
  · rw [if_neg c2] at H
    have c2b0 : decide (65 ≤ a0) = false := decide_eq_false c2
    clear c2
    by_cases c6 : a0 ≥ 97
    · rw [if_pos c6] at H
      have c6b0 : decide (97 ≤ a0) = true := decide_eq_true c6
      clear c6
      by_cases c7 : a0 ≤ 122
      · rw [if_pos c7] at H
        have c7b0 : decide (a0 ≤ 122) = true := decide_eq_true c7
        clear c7
        obtain rfl := Option.some.inj H
        go_enter Try.func32, Try.ntmps32
        go_wp2
        go_ret
        exact ⟨by first | rfl | (simp; done) | (simp [*]; done), by repeat (first | exact Drawn0.refl _ | apply Drawn0.step)⟩
      · rw [if_neg c7] at H
        have c7b0 : decide (a0 ≤ 122) = false := decide_eq_false c7
        clear c7
        obtain rfl := Option.some.inj H
        go_enter Try.func32, Try.ntmps32
        go_wp2
        go_ret
        exact ⟨by first | rfl | (simp; done) | (simp [*]; done), by repeat (first | exact Drawn0.refl _ | apply Drawn0.step)⟩
    · rw [if_neg c6] at H
      have c6b0 : decide (97 ≤ a0) = false := decide_eq_false c6
      clear c6
      obtain rfl := Option.some.inj H
      go_enter Try.func32, Try.ntmps32
      go_wp2
      go_ret
      exact ⟨by first | rfl | (simp; done) | (simp [*]; done), by repeat (first | exact Drawn0.refl _ | apply Drawn0.step)⟩

/-! ### scan_digit: function 37 -/
def scan_digit.f (a0 : Int) : Option (Bool) := if a0 ≥ 48 then (some (decide (a0 ≤ 57))) else (some false)
set_option maxHeartbeats 8000000 in
set_option maxRecDepth 100000 in
theorem scan_digit.calls (a0 : Int) (r : Bool) (w : World) (h : scan_digit.f a0 = some r) :
    Calls Try.prog 37 #[.int .u8 a0] w fun e w' => e = .returned (.bool r) ∧ Drawn0 w w' := by
  have H : (if a0 ≥ 48 then (some (decide (a0 ≤ 57))) else (some false)) = some r := h
  clear h
  by_cases c2 : a0 ≥ 48
  · rw [if_pos c2] at H
    have c2b0 : decide (48 ≤ a0) = true := decide_eq_true c2
    clear c2
    obtain rfl := Option.some.inj H
    go_enter Try.func37, Try.ntmps37
    go_wp2
    go_ret
    exact ⟨by first | rfl | (simp; done) | (simp [*]; done), by repeat (first | exact Drawn0.refl _ | apply Drawn0.step)⟩
  · rw [if_neg c2] at H
    have c2b0 : decide (48 ≤ a0) = false := decide_eq_false c2
    clear c2
    obtain rfl := Option.some.inj H
    go_enter Try.func37, Try.ntmps37
    go_wp2
    go_ret
    exact ⟨by first | rfl | (simp; done) | (simp [*]; done), by repeat (first | exact Drawn0.refl _ | apply Drawn0.step)⟩

/-- A state of type 54 at block g of W; what its slices lead to came in by w0. -/
def IsS54 (w0 W : World) (g : Nat) (f0 : ByteArray) (f1 : Int) (f2 : List (S29)) : Prop := ∃ A2 c2, W.heap[g]? = some (.cells #[.string f0, .int .i64 f1, .slice A2 f2.length c2] 54 (0, 0)) ∧ w0.heap.size ≤ g ∧ Kd.C k29 w0 A2 f2.length f2
theorem IsS54.grown {w0 W : World} {g : Nat} {f0 : ByteArray} {f1 : Int} {f2 : List (S29)} {W1 : World} {row : Option Nat} (h : IsS54 w0 W g f0 f1 f2) (hw : W.grownBy W1 row) (hne : some g ≠ row) : IsS54 w0 W1 g f0 f1 f2 := by
  obtain ⟨A2, c2, hb, hg, hr2⟩ := h
  exact ⟨A2, c2, blk_grown hb hw hne, hg, hr2⟩
theorem IsS54.own_neN {w0 W : World} {g : Nat} {f0 : ByteArray} {f1 : Int} {f2 : List (S29)} {α : Type} {d : Kd α} {e : Nat} {base : Nat} {ok : Nat → Prop} {v : Value} {xs : List α} (h : IsS54 w0 W g f0 f1 f2) (ho : Kd.N d e W base ok v xs) (ht : e ≠ 54) : some g ≠ v.ownBlock := by
  obtain ⟨A2, c2, hb, hg, hr2⟩ := h
  exact Kd.N_ne ho hb ht
theorem IsS54.fresh {w0 W : World} {g : Nat} {f0 : ByteArray} {f1 : Int} {f2 : List (S29)} (h : IsS54 w0 W g f0 f1 f2) : ∀ k, W.heap.size ≤ k → k ≠ g := by
  obtain ⟨A2, c2, hb, hg, hr2⟩ := h
  exact Kd.freshB hb
theorem IsS54.kept {w0 W : World} {g : Nat} {f0 : ByteArray} {f1 : Int} {f2 : List (S29)} {W1 : World} {S : Nat → Prop} (h : IsS54 w0 W g f0 f1 f2) (hk : Kept W W1 S) (hne : ¬ S g) : IsS54 w0 W1 g f0 f1 f2 := by
  obtain ⟨A2, c2, hb, hg, hr2⟩ := h
  exact ⟨A2, c2, blk_kept hb hk hne, hg, hr2⟩
theorem IsS54.below {w0 W : World} {g : Nat} {f0 : ByteArray} {f1 : Int} {f2 : List (S29)} {W1 : World} (h : IsS54 w0 W g f0 f1 f2) (hw : Below W.heap.size W W1) : IsS54 w0 W1 g f0 f1 f2 := h.grown (grown_of_below hw none) (by simp)
theorem IsS54.alloc {w0 W : World} {g : Nat} {f0 : ByteArray} {f1 : Int} {f2 : List (S29)} (h : IsS54 w0 W g f0 f1 f2) (o : Obj) : IsS54 w0 (W.alloc o) g f0 f1 f2 := h.below (below_alloc (Below.refl _ _) o)
theorem IsS54.drewN {w0 W : World} {g : Nat} {f0 : ByteArray} {f1 : Int} {f2 : List (S29)} (h : IsS54 w0 W g f0 f1 f2) (m : Nat) : IsS54 w0 (W.drewN m) g f0 f1 f2 := h
theorem IsS54.drew {w0 W : World} {g : Nat} {f0 : ByteArray} {f1 : Int} {f2 : List (S29)} (h : IsS54 w0 W g f0 f1 f2) : IsS54 w0 W.drew g f0 f1 f2 := h
theorem IsS54.at_ {w0 W : World} {g : Nat} {f0 : ByteArray} {f1 : Int} {f2 : List (S29)} {w' : World} {m : Nat} (hq : W.drewN m = w') (h : IsS54 w0 W g f0 f1 f2) : IsS54 w0 w' g f0 f1 f2 := by subst hq; exact IsS54.drewN h m
theorem IsS54.apart {w0 W : World} {g : Nat} {f0 : ByteArray} {f1 : Int} {f2 : List (S29)} {α : Type} {d : Kd α} {e : Nat} {base : Nat} {ok : Nat → Prop} {v : Value} {xs : List α} (h : IsS54 w0 W g f0 f1 f2) (ho : d.R e W base ok v xs) (ht : ∀ q, q ∈ e :: d.E → q ≠ 54) : d.R e W base (fun k => ok k ∧ k ≠ g) v xs := by
  obtain ⟨A2, c2, hb, hg, hr2⟩ := h
  exact Kd.R_types ho hb ht
theorem IsS54.own_ne {w0 W : World} {g : Nat} {f0 : ByteArray} {f1 : Int} {f2 : List (S29)} {α : Type} {d : Kd α} {e : Nat} {base : Nat} {ok : Nat → Prop} {v : Value} {xs : List α} (h : IsS54 w0 W g f0 f1 f2) (ho : d.R e W base ok v xs) (ht : e ≠ 54) : some g ≠ v.ownBlock := by
  obtain ⟨A2, c2, hb, hg, hr2⟩ := h
  exact Kd.R_ne ho hb ht
theorem IsS54.apartQ {w0 W : World} {g : Nat} {f0 : ByteArray} {f1 : Int} {f2 : List (S29)} {α : Type} {d : Kd α} {e : Nat} {base : Nat} {ok : Nat → Prop} {v : Value} {xs : List α} (h : IsS54 w0 W g f0 f1 f2) (ho : d.Q e W base ok v xs) (ht : ∀ q, q ∈ e :: d.E → q ≠ 54) : d.Q e W base (fun k => ok k ∧ k ≠ g) v xs := by
  obtain ⟨A2, c2, hb, hg, hr2⟩ := h
  exact Kd.Q_types ho hb ht
theorem IsS54.own_neQ {w0 W : World} {g : Nat} {f0 : ByteArray} {f1 : Int} {f2 : List (S29)} {α : Type} {d : Kd α} {e : Nat} {base : Nat} {ok : Nat → Prop} {v : Value} {xs : List α} (h : IsS54 w0 W g f0 f1 f2) (ho : d.Q e W base ok v xs) (ht : e ≠ 54) : some g ≠ v.ownBlock := by
  obtain ⟨A2, c2, hb, hg, hr2⟩ := h
  exact Kd.Q_ne ho hb ht
theorem IsS54.apartS {w0 W : World} {g : Nat} {f0 : ByteArray} {f1 : Int} {f2 : List (S29)} {α : Type} {d : Kd α} {e : Nat} {base : Nat} {ok : Nat → Prop} {v : Value} {xs : List α} (h : IsS54 w0 W g f0 f1 f2) (ho : d.S e W base ok v xs) (ht : ∀ q, q ∈ e :: d.E → q ≠ 54) : d.S e W base (fun k => ok k ∧ k ≠ g) v xs := by
  obtain ⟨A2, c2, hb, hg, hr2⟩ := h
  exact Kd.S_types ho hb ht
theorem IsS54.own_neS {w0 W : World} {g : Nat} {f0 : ByteArray} {f1 : Int} {f2 : List (S29)} {α : Type} {d : Kd α} {e : Nat} {base : Nat} {ok : Nat → Prop} {v : Value} {xs : List α} (h : IsS54 w0 W g f0 f1 f2) (ho : d.S e W base ok v xs) (ht : e ≠ 54) : some g ≠ v.ownBlock := by
  obtain ⟨A2, c2, hb, hg, hr2⟩ := h
  exact Kd.S_ne ho hb ht
theorem IsS54.lt {w0 W : World} {g : Nat} {f0 : ByteArray} {f1 : Int} {f2 : List (S29)} (h : IsS54 w0 W g f0 f1 f2) : g < W.heap.size := by
  obtain ⟨A2, c2, hb, hg, hr2⟩ := h
  exact blk_lt hb
theorem IsS54.ge {w0 W : World} {g : Nat} {f0 : ByteArray} {f1 : Int} {f2 : List (S29)} (h : IsS54 w0 W g f0 f1 f2) : w0.heap.size ≤ g := by
  obtain ⟨A2, c2, hb, hg, hr2⟩ := h
  exact hg
theorem IsS54.ne_blk {w0 W : World} {g : Nat} {f0 : ByteArray} {f1 : Int} {f2 : List (S29)} {a : Nat} {cs : Array Value} {t : TypeId} {fr : Nat × Nat} (h : IsS54 w0 W g f0 f1 f2) (hb2 : W.heap[a]? = some (.cells cs t fr)) (ht : t ≠ 54) : g ≠ a := by
  obtain ⟨A2, c2, hb, hg, hr2⟩ := h
  rintro rfl
  rw [hb] at hb2
  injection hb2 with hb2
  injection hb2 with _ ht2
  exact ht ht2.symm
theorem IsS54.far {w0 W : World} {g : Nat} {f0 : ByteArray} {f1 : Int} {f2 : List (S29)} {p : Addr} (h : IsS54 w0 W g f0 f1 f2) (hne : g ≠ p.block) (u : Value) : IsS54 w0 (W.setCell p u) g f0 f1 f2 := by
  obtain ⟨A2, c2, hb, hg, hr2⟩ := h
  exact ⟨A2, c2, blk_far hb hne u, hg, hr2⟩
theorem cellS54_0 {W : World} {g : Nat} {A2 : Option Addr} {c2 : Nat} {f0 : ByteArray} {f1 : Int} {f2 : List (S29)} (h : W.heap[g]? = some (.cells #[.string f0, .int .i64 f1, .slice A2 f2.length c2] 54 (0, 0))) : W.cell? ⟨g, 0, none⟩ = some (.string f0) := (blk_cell h 0).trans rfl
theorem IsS54.set_0 {w0 W : World} {g : Nat} {f0 : ByteArray} {f1 : Int} {f2 : List (S29)} (h : IsS54 w0 W g f0 f1 f2) (x : ByteArray) : IsS54 w0 (W.setCell ⟨g, 0, none⟩ (.string x)) g x f1 f2 := by
  obtain ⟨A2, c2, hb, hg, hr2⟩ := h
  exact ⟨A2, c2, by simpa using blk_set hb 0 (.string x), hg, hr2⟩
theorem cellS54_1 {W : World} {g : Nat} {A2 : Option Addr} {c2 : Nat} {f0 : ByteArray} {f1 : Int} {f2 : List (S29)} (h : W.heap[g]? = some (.cells #[.string f0, .int .i64 f1, .slice A2 f2.length c2] 54 (0, 0))) : W.cell? ⟨g, 1, none⟩ = some (.int .i64 f1) := (blk_cell h 1).trans rfl
theorem IsS54.set_1 {w0 W : World} {g : Nat} {f0 : ByteArray} {f1 : Int} {f2 : List (S29)} (h : IsS54 w0 W g f0 f1 f2) (x : Int) : IsS54 w0 (W.setCell ⟨g, 1, none⟩ (.int .i64 x)) g f0 x f2 := by
  obtain ⟨A2, c2, hb, hg, hr2⟩ := h
  exact ⟨A2, c2, by simpa using blk_set hb 1 (.int .i64 x), hg, hr2⟩
theorem cellS54_2 {W : World} {g : Nat} {A2 : Option Addr} {c2 : Nat} {f0 : ByteArray} {f1 : Int} {f2 : List (S29)} (h : W.heap[g]? = some (.cells #[.string f0, .int .i64 f1, .slice A2 f2.length c2] 54 (0, 0))) : W.cell? ⟨g, 2, none⟩ = some (.slice A2 f2.length c2) := (blk_cell h 2).trans rfl
theorem IsS54.new (w0 W : World) (A2 : Option Addr) (c2 : Nat) (f0 : ByteArray) (f1 : Int) (f2 : List (S29)) (hB : Below w0.heap.size w0 W) (hr2 : Kd.C k29 w0 A2 f2.length f2) : IsS54 w0 (W.alloc (.cells #[.string f0, .int .i64 f1, .slice A2 f2.length c2] 54)) W.heap.size f0 f1 f2 := ⟨A2, c2, by simpa using heap_alloc_new W _, hB.size, hr2⟩

/-! ### scan_reader_span: function 33 -/
def scan_reader_span.l0 : Nat → Bool → Int → ByteArray → Int → List (S29) → Option (ByteArray × ByteArray × Int)
  | 0, _, _, _, _, _ => none
  | k + 1, x1, x5, x1000, x1001, x1002 => if x5 < (x1000.size : Int) then (if 0 ≤ x5 then ((scan_digit.f (bt x1000 x5)).bind fun t101 => (if t101 = true then (scan_reader_span.l0 k x1 (wrap64 (x5 + 1)) x1000 x1001 x1002) else (if x1 = true then ((scan_letter.f (bt x1000 x5)).bind fun t102 => (if t102 = true then (scan_reader_span.l0 k x1 (wrap64 (x5 + 1)) x1000 x1001 x1002) else (if 0 ≤ x1001 then (if x1001 ≤ x5 then (if x5 ≤ (x1000.size : Int) then (some (x1000.extract (x1001 : Int).toNat (x5 : Int).toNat, x1000, x1001)) else (none)) else (none)) else (none)))) else (if 0 ≤ x1001 then (if x1001 ≤ x5 then (if x5 ≤ (x1000.size : Int) then (some (x1000.extract (x1001 : Int).toNat (x5 : Int).toNat, x1000, x1001)) else (none)) else (none)) else (none))))) else (none)) else (if 0 ≤ x1001 then (if x1001 ≤ x5 then (if x5 ≤ (x1000.size : Int) then (some (x1000.extract (x1001 : Int).toNat (x5 : Int).toNat, x1000, x1001)) else (none)) else (none)) else (none))
def scan_reader_span.f (k : Nat) (s0_0 : ByteArray) (s0_1 : Int) (s0_2 : List (S29)) (a1 : Bool) : Option (ByteArray × ByteArray × Int) := scan_reader_span.l0 k a1 s0_1 s0_0 s0_1 s0_2
theorem scan_reader_span.mono_l : ∀ k, (∀ y0 y1 y2 y3 y4, LeO (scan_reader_span.l0 k y0 y1 y2 y3 y4) (scan_reader_span.l0 (k + 1) y0 y1 y2 y3 y4))
  | 0 => fun _ _ _ _ _ r h => by simp [scan_reader_span.l0] at h
  | k + 1 => by
    have ih0 := scan_reader_span.mono_l k
    · intro y0 y1 y2 y3 y4
      unfold scan_reader_span.l0
      repeat' first
      | (with_reducible exact ih0 _ _ _ _ _)
      | (with_reducible exact LeO.refl _)
      | (with_reducible exact LeO.none _)
      | (with_reducible refine LeO.ite ?_ ?_)
      | (with_reducible refine LeO.bind ?_ (fun _ => ?_))
      | exact ih0 _ _ _ _ _
      | exact LeO.none _
      | refine LeO.ite ?_ ?_
      | refine LeO.bind ?_ (fun _ => ?_)
theorem scan_reader_span.mono : ∀ a0 a1 a2 a3 k, LeO (scan_reader_span.f k a0 a1 a2 a3) (scan_reader_span.f (k + 1) a0 a1 a2 a3) := by
  intro a0 a1 a2 a3 k
  have ih0 := scan_reader_span.mono_l k
  unfold scan_reader_span.f
  repeat' first
      | (with_reducible exact ih0 _ _ _ _ _)
      | (with_reducible exact LeO.refl _)
      | (with_reducible exact LeO.none _)
      | (with_reducible refine LeO.ite ?_ ?_)
      | (with_reducible refine LeO.bind ?_ (fun _ => ?_))
      | exact ih0 _ _ _ _ _
      | exact LeO.none _
      | refine LeO.ite ?_ ?_
      | refine LeO.bind ?_ (fun _ => ?_)
set_option maxHeartbeats 8000000 in
set_option maxRecDepth 100000 in
theorem scan_reader_span.calls (k : Nat) (g : Nat) (s0_0 : ByteArray) (s0_1 : Int) (s0_2 : List (S29)) (a1 : Bool) (r1 : ByteArray) (r2 : ByteArray) (r3 : Int) (w0 w : World) (hI : IsS54 w0 w g s0_0 s0_1 s0_2) (hB : Below w0.heap.size w0 w) (h : scan_reader_span.f k s0_0 s0_1 s0_2 a1 = some (r1, r2, r3)) :
    Calls Try.prog 33 #[.pointer (some ⟨g, 0, none⟩), .bool a1] w fun e w' => e = .returned (.string r1) ∧ IsS54 w0 w' g r2 r3 s0_2 ∧ Below w0.heap.size w0 w' ∧ KeepBut w w' g none := by
  have HI0 := Aside0.mk hI
  have HK := Aside0.mk (KeepBut.refl w g none)
  have HL := Aside0.mk hB.size
  clear hI
  have HW0 := Aside0.mk hB.size
  have HB := Aside0.mk hB
  clear hB
  have H : (scan_reader_span.l0 k a1 s0_1 s0_0 s0_1 s0_2) = some (r1, r2, r3) := h
  clear h
  have H' := Aside0.mk H
  clear H
  obtain ⟨ASz3_2, cSz3_2, HGz3, hgz3, HSz3_2⟩ := HI0.out
  have hcz3_0 := cellS54_0 HGz3
  have hcz3_1 := cellS54_1 HGz3
  have hcz3_2 := cellS54_2 HGz3
  have hfz3_0 := blk_frozen HGz3 0
  have hfz3_1 := blk_frozen HGz3 1
  clear HGz3 hgz3
  go_enter Try.func33, Try.ntmps33
  go_wp2
  repeat (go_quiet (fail); try go_wp2)
  go_loopg [5] k (fun kq v5 w' => ∃ (x5_1 : Int), v5 = .int .i64 x5_1 ∧ Aside0 (scan_reader_span.l0 kq a1 x5_1 s0_0 s0_1 s0_2 = some (r1, r2, r3)) ∧ Aside0 (kq ≤ k) ∧ Aside0 (IsS54 w0 w' g s0_0 s0_1 s0_2) ∧ Aside0 (KeepBut w w' g none) ∧ Aside0 (Below w0.heap.size w0 w'))
  case atStart => exact ⟨(s0_1), (by first | rfl | (simp; done) | (simp [*]; done)), H', ⟨Nat.le_refl _⟩, ⟨by repeat (first | (with_reducible first | exact HI0.out | apply IsS54.alloc | apply IsS54.drewN | apply IsS54.drew | apply IsS54.set_0 | apply IsS54.set_1) | exact HI0.out)⟩, ⟨by repeat (first | (with_reducible first | exact HK.out | apply KeepBut.set_ | apply keep_drewN | apply keep_drew | apply keep_alloc) | exact HK.out)⟩, ⟨by repeat (first | (with_reducible first | exact HB.out | apply below_alloc | apply pw_below_drewN | apply below_drew1 | refine below_set ?_ (IsS54.ge HI0.out)) | exact HB.out)⟩⟩
  case round =>
    clear H'
    try clear p2
    try clear c3
    try clear hcz3_0
    try clear hcz3_1
    try clear hcz3_2
    try clear hfz3_0
    try clear hfz3_1
    obtain ⟨x5_1, rfl, HA, HK1, HI0, HK, HB⟩ := hrel
    cases gk with
    | zero => exact absurd HA.out (by simp [scan_reader_span.l0])
    | succ k1 =>
      have H := HA.out
      clear HA
      simp only [scan_reader_span.l0] at H
      by_cases c4 : x5_1 < (s0_0.size : Int)
      · rw [if_pos c4] at H
        have c4b0 : decide (x5_1 < (s0_0.size : Int)) = true := decide_eq_true c4
        clear c4
        by_cases c5 : 0 ≤ x5_1
        · rw [if_pos c5] at H
          have c5b0 : decide (0 ≤ x5_1) = true := decide_eq_true c5
          clear c5
          replace H := Option.bind_eq_some_iff.mp H
          obtain ⟨t101, A70, H⟩ := H
          replace H : (if t101 = true then (scan_reader_span.l0 k1 a1 (wrap64 (x5_1 + 1)) s0_0 s0_1 s0_2) else (if a1 = true then ((scan_letter.f (bt s0_0 x5_1)).bind fun t102 => (if t102 = true then (scan_reader_span.l0 k1 a1 (wrap64 (x5_1 + 1)) s0_0 s0_1 s0_2) else (if 0 ≤ s0_1 then (if s0_1 ≤ x5_1 then (if x5_1 ≤ (s0_0.size : Int) then (some (s0_0.extract (s0_1 : Int).toNat (x5_1 : Int).toNat, s0_0, s0_1)) else (none)) else (none)) else (none)))) else (if 0 ≤ s0_1 then (if s0_1 ≤ x5_1 then (if x5_1 ≤ (s0_0.size : Int) then (some (s0_0.extract (s0_1 : Int).toNat (x5_1 : Int).toNat, s0_0, s0_1)) else (none)) else (none)) else (none)))) = some (r1, r2, r3) := H
          have A7 := Aside0.mk A70
          clear A70
          by_cases c8 : t101 = true
          · subst c8
            have H1 : (scan_reader_span.l0 k1 a1 (wrap64 (x5_1 + 1)) s0_0 s0_1 s0_2) = some (r1, r2, r3) := by rw [if_pos rfl] at H; exact H
            clear H
            have H := H1
            clear H1
            have H' := Aside0.mk H
            clear H
            obtain ⟨ASz9_2, cSz9_2, HGz9, hgz9, HSz9_2⟩ := HI0.out
            have hcz9_0 := cellS54_0 HGz9
            have hcz9_1 := cellS54_1 HGz9
            have hcz9_2 := cellS54_2 HGz9
            have hfz9_0 := blk_frozen HGz9 0
            have hfz9_1 := blk_frozen HGz9 1
            clear HGz9 hgz9
            have p6 : 0 ≤ (x5_1 : Int) := of_decide_eq_true (by first | (with_reducible assumption) | assumption)
            have q6 : x5_1 < (s0_0.size : Int) := of_decide_eq_true (by first | (with_reducible assumption) | assumption)
            have hx6 := bt_at s0_0 x5_1
            replace p6 := eq_true p6
            replace q6 := eq_true q6
            go_wp2_with (first | (go_at_call 37; (with_reducible refine (scan_digit.calls (bt s0_0 x5_1) true _ A7.out).mono ?_); rintro e w' ⟨rfl, ⟨nd, rfl⟩⟩; (try first | exact ⟨rfl, _, World.drewN_drewN _ _ _⟩ | exact ⟨rfl, _, Eq.trans (World.drewN_drewN _ _ _) (congrArg (World.drewN _) (Nat.add_assoc _ _ _))⟩)))
            repeat (go_quiet (first | (go_at_call 37; (with_reducible refine (scan_digit.calls (bt s0_0 x5_1) true _ A7.out).mono ?_); rintro e w' ⟨rfl, ⟨nd, rfl⟩⟩; (try first | exact ⟨rfl, _, World.drewN_drewN _ _ _⟩ | exact ⟨rfl, _, Eq.trans (World.drewN_drewN _ _ _) (congrArg (World.drewN _) (Nat.add_assoc _ _ _))⟩))); try go_wp2_with (first | (go_at_call 37; (with_reducible refine (scan_digit.calls (bt s0_0 x5_1) true _ A7.out).mono ?_); rintro e w' ⟨rfl, ⟨nd, rfl⟩⟩; (try first | exact ⟨rfl, _, World.drewN_drewN _ _ _⟩ | exact ⟨rfl, _, Eq.trans (World.drewN_drewN _ _ _) (congrArg (World.drewN _) (Nat.add_assoc _ _ _))⟩))))
            go_roundg k1
            case measure => have := HK1.out; omega
            case rel => exact ⟨(wrap64 (x5_1 + 1)), (by first | rfl | (simp; done) | (simp [*]; done)), H', ⟨by have := HK1.out; omega⟩, ⟨by repeat (first | (with_reducible first | exact HI0.out | apply IsS54.alloc | apply IsS54.drewN | apply IsS54.drew | apply IsS54.set_0 | apply IsS54.set_1) | exact HI0.out)⟩, ⟨by repeat (first | (with_reducible first | exact HK.out | apply KeepBut.set_ | apply keep_drewN | apply keep_drew | apply keep_alloc) | exact HK.out)⟩, ⟨by repeat (first | (with_reducible first | exact HB.out | apply below_alloc | apply pw_below_drewN | apply below_drew1 | refine below_set ?_ (IsS54.ge HI0.out)) | exact HB.out)⟩⟩
          · replace c8 := Bool.eq_false_iff.mpr c8
            subst c8
            have H1 : (if a1 = true then ((scan_letter.f (bt s0_0 x5_1)).bind fun t102 => (if t102 = true then (scan_reader_span.l0 k1 a1 (wrap64 (x5_1 + 1)) s0_0 s0_1 s0_2) else (if 0 ≤ s0_1 then (if s0_1 ≤ x5_1 then (if x5_1 ≤ (s0_0.size : Int) then (some (s0_0.extract (s0_1 : Int).toNat (x5_1 : Int).toNat, s0_0, s0_1)) else (none)) else (none)) else (none)))) else (if 0 ≤ s0_1 then (if s0_1 ≤ x5_1 then (if x5_1 ≤ (s0_0.size : Int) then (some (s0_0.extract (s0_1 : Int).toNat (x5_1 : Int).toNat, s0_0, s0_1)) else (none)) else (none)) else (none))) = some (r1, r2, r3) := by rw [if_neg (show ¬ (false = true) by decide)] at H; exact H
            clear H
            have H := H1
            clear H1
            by_cases c10 : a1 = true
            · subst c10
              have H1 : ((scan_letter.f (bt s0_0 x5_1)).bind fun t102 => (if t102 = true then (scan_reader_span.l0 k1 true (wrap64 (x5_1 + 1)) s0_0 s0_1 s0_2) else (if 0 ≤ s0_1 then (if s0_1 ≤ x5_1 then (if x5_1 ≤ (s0_0.size : Int) then (some (s0_0.extract (s0_1 : Int).toNat (x5_1 : Int).toNat, s0_0, s0_1)) else (none)) else (none)) else (none)))) = some (r1, r2, r3) := by rw [if_pos rfl] at H; exact H
              clear H
              have H := H1
              clear H1
              replace H := Option.bind_eq_some_iff.mp H
              obtain ⟨t102, A120, H⟩ := H
              replace H : (if t102 = true then (scan_reader_span.l0 k1 true (wrap64 (x5_1 + 1)) s0_0 s0_1 s0_2) else (if 0 ≤ s0_1 then (if s0_1 ≤ x5_1 then (if x5_1 ≤ (s0_0.size : Int) then (some (s0_0.extract (s0_1 : Int).toNat (x5_1 : Int).toNat, s0_0, s0_1)) else (none)) else (none)) else (none))) = some (r1, r2, r3) := H
              have A12 := Aside0.mk A120
              clear A120
              by_cases c13 : t102 = true
              · subst c13
                have H1 : (scan_reader_span.l0 k1 true (wrap64 (x5_1 + 1)) s0_0 s0_1 s0_2) = some (r1, r2, r3) := by rw [if_pos rfl] at H; exact H
                clear H
                have H := H1
                clear H1
                have H' := Aside0.mk H
                clear H
                obtain ⟨ASz14_2, cSz14_2, HGz14, hgz14, HSz14_2⟩ := HI0.out
                have hcz14_0 := cellS54_0 HGz14
                have hcz14_1 := cellS54_1 HGz14
                have hcz14_2 := cellS54_2 HGz14
                have hfz14_0 := blk_frozen HGz14 0
                have hfz14_1 := blk_frozen HGz14 1
                clear HGz14 hgz14
                have p6 : 0 ≤ (x5_1 : Int) := of_decide_eq_true (by first | (with_reducible assumption) | assumption)
                have q6 : x5_1 < (s0_0.size : Int) := of_decide_eq_true (by first | (with_reducible assumption) | assumption)
                have hx6 := bt_at s0_0 x5_1
                replace p6 := eq_true p6
                replace q6 := eq_true q6
                go_wp2_with (first | (go_at_call 37; (with_reducible refine (scan_digit.calls (bt s0_0 x5_1) false _ A7.out).mono ?_); rintro e w' ⟨rfl, ⟨nd, rfl⟩⟩; (try first | exact ⟨rfl, _, World.drewN_drewN _ _ _⟩ | exact ⟨rfl, _, Eq.trans (World.drewN_drewN _ _ _) (congrArg (World.drewN _) (Nat.add_assoc _ _ _))⟩); have p11 : 0 ≤ (x5_1 : Int) := of_decide_eq_true (by first | (with_reducible assumption) | assumption); have q11 : x5_1 < (s0_0.size : Int) := of_decide_eq_true (by first | (with_reducible assumption) | assumption); have hx11 := bt_at s0_0 x5_1; replace p11 := eq_true p11; replace q11 := eq_true q11) | (go_at_call 32; (with_reducible refine (scan_letter.calls (bt s0_0 x5_1) true _ A12.out).mono ?_); rintro e w' ⟨rfl, ⟨nd, rfl⟩⟩; (try first | exact ⟨rfl, _, World.drewN_drewN _ _ _⟩ | exact ⟨rfl, _, Eq.trans (World.drewN_drewN _ _ _) (congrArg (World.drewN _) (Nat.add_assoc _ _ _))⟩)))
                repeat (go_quiet (first | (go_at_call 37; (with_reducible refine (scan_digit.calls (bt s0_0 x5_1) false _ A7.out).mono ?_); rintro e w' ⟨rfl, ⟨nd, rfl⟩⟩; (try first | exact ⟨rfl, _, World.drewN_drewN _ _ _⟩ | exact ⟨rfl, _, Eq.trans (World.drewN_drewN _ _ _) (congrArg (World.drewN _) (Nat.add_assoc _ _ _))⟩); have p11 : 0 ≤ (x5_1 : Int) := of_decide_eq_true (by first | (with_reducible assumption) | assumption); have q11 : x5_1 < (s0_0.size : Int) := of_decide_eq_true (by first | (with_reducible assumption) | assumption); have hx11 := bt_at s0_0 x5_1; replace p11 := eq_true p11; replace q11 := eq_true q11) | (go_at_call 32; (with_reducible refine (scan_letter.calls (bt s0_0 x5_1) true _ A12.out).mono ?_); rintro e w' ⟨rfl, ⟨nd, rfl⟩⟩; (try first | exact ⟨rfl, _, World.drewN_drewN _ _ _⟩ | exact ⟨rfl, _, Eq.trans (World.drewN_drewN _ _ _) (congrArg (World.drewN _) (Nat.add_assoc _ _ _))⟩))); try go_wp2_with (first | (go_at_call 37; (with_reducible refine (scan_digit.calls (bt s0_0 x5_1) false _ A7.out).mono ?_); rintro e w' ⟨rfl, ⟨nd, rfl⟩⟩; (try first | exact ⟨rfl, _, World.drewN_drewN _ _ _⟩ | exact ⟨rfl, _, Eq.trans (World.drewN_drewN _ _ _) (congrArg (World.drewN _) (Nat.add_assoc _ _ _))⟩); have p11 : 0 ≤ (x5_1 : Int) := of_decide_eq_true (by first | (with_reducible assumption) | assumption); have q11 : x5_1 < (s0_0.size : Int) := of_decide_eq_true (by first | (with_reducible assumption) | assumption); have hx11 := bt_at s0_0 x5_1; replace p11 := eq_true p11; replace q11 := eq_true q11) | (go_at_call 32; (with_reducible refine (scan_letter.calls (bt s0_0 x5_1) true _ A12.out).mono ?_); rintro e w' ⟨rfl, ⟨nd, rfl⟩⟩; (try first | exact ⟨rfl, _, World.drewN_drewN _ _ _⟩ | exact ⟨rfl, _, Eq.trans (World.drewN_drewN _ _ _) (congrArg (World.drewN _) (Nat.add_assoc _ _ _))⟩))))
                go_roundg k1
                case measure => have := HK1.out; omega
                case rel => exact ⟨(wrap64 (x5_1 + 1)), (by first | rfl | (simp; done) | (simp [*]; done)), H', ⟨by have := HK1.out; omega⟩, ⟨by repeat (first | (with_reducible first | exact HI0.out | apply IsS54.alloc | apply IsS54.drewN | apply IsS54.drew | apply IsS54.set_0 | apply IsS54.set_1) | exact HI0.out)⟩, ⟨by repeat (first | (with_reducible first | exact HK.out | apply KeepBut.set_ | apply keep_drewN | apply keep_drew | apply keep_alloc) | exact HK.out)⟩, ⟨by repeat (first | (with_reducible first | exact HB.out | apply below_alloc | apply pw_below_drewN | apply below_drew1 | refine below_set ?_ (IsS54.ge HI0.out)) | exact HB.out)⟩⟩
              · replace c13 := Bool.eq_false_iff.mpr c13
                subst c13
                have H1 : (if 0 ≤ s0_1 then (if s0_1 ≤ x5_1 then (if x5_1 ≤ (s0_0.size : Int) then (some (s0_0.extract (s0_1 : Int).toNat (x5_1 : Int).toNat, s0_0, s0_1)) else (none)) else (none)) else (none)) = some (r1, r2, r3) := by rw [if_neg (show ¬ (false = true) by decide)] at H; exact H
                clear H
                have H := H1
                clear H1
                by_cases c15 : 0 ≤ s0_1
                · rw [if_pos c15] at H
                  have c15b0 := eq_true c15
                  have c15b1 : decide (0 ≤ s0_1) = true := decide_eq_true c15
                  clear c15
                  by_cases c16 : s0_1 ≤ x5_1
                  · rw [if_pos c16] at H
                    have c16b0 := eq_true c16
                    have c16b1 : decide (s0_1 ≤ x5_1) = true := decide_eq_true c16
                    clear c16
                    by_cases c17 : x5_1 ≤ (s0_0.size : Int)
                    · rw [if_pos c17] at H
                      have c17b0 := eq_true c17
                      have c17b1 : decide (x5_1 ≤ (s0_0.size : Int)) = true := decide_eq_true c17
                      clear c17
                      simp only [Option.some.injEq, Prod.mk.injEq] at H
                      obtain ⟨rfl, rfl, rfl⟩ := H
                      obtain ⟨ASz18_2, cSz18_2, HGz18, hgz18, HSz18_2⟩ := HI0.out
                      have hcz18_0 := cellS54_0 HGz18
                      have hcz18_1 := cellS54_1 HGz18
                      have hcz18_2 := cellS54_2 HGz18
                      have hfz18_0 := blk_frozen HGz18 0
                      have hfz18_1 := blk_frozen HGz18 1
                      clear HGz18 hgz18
                      have p6 : 0 ≤ (x5_1 : Int) := of_decide_eq_true (by first | (with_reducible assumption) | assumption)
                      have q6 : x5_1 < (s0_0.size : Int) := of_decide_eq_true (by first | (with_reducible assumption) | assumption)
                      have hx6 := bt_at s0_0 x5_1
                      replace p6 := eq_true p6
                      replace q6 := eq_true q6
                      go_wp2_with (first | (go_at_call 37; (with_reducible refine (scan_digit.calls (bt s0_0 x5_1) false _ A7.out).mono ?_); rintro e w' ⟨rfl, ⟨nd, rfl⟩⟩; (try first | exact ⟨rfl, _, World.drewN_drewN _ _ _⟩ | exact ⟨rfl, _, Eq.trans (World.drewN_drewN _ _ _) (congrArg (World.drewN _) (Nat.add_assoc _ _ _))⟩); have p11 : 0 ≤ (x5_1 : Int) := of_decide_eq_true (by first | (with_reducible assumption) | assumption); have q11 : x5_1 < (s0_0.size : Int) := of_decide_eq_true (by first | (with_reducible assumption) | assumption); have hx11 := bt_at s0_0 x5_1; replace p11 := eq_true p11; replace q11 := eq_true q11) | (go_at_call 32; (with_reducible refine (scan_letter.calls (bt s0_0 x5_1) false _ A12.out).mono ?_); rintro e w' ⟨rfl, ⟨nd, rfl⟩⟩; (try first | exact ⟨rfl, _, World.drewN_drewN _ _ _⟩ | exact ⟨rfl, _, Eq.trans (World.drewN_drewN _ _ _) (congrArg (World.drewN _) (Nat.add_assoc _ _ _))⟩)))
                      repeat (go_quiet (first | (go_at_call 37; (with_reducible refine (scan_digit.calls (bt s0_0 x5_1) false _ A7.out).mono ?_); rintro e w' ⟨rfl, ⟨nd, rfl⟩⟩; (try first | exact ⟨rfl, _, World.drewN_drewN _ _ _⟩ | exact ⟨rfl, _, Eq.trans (World.drewN_drewN _ _ _) (congrArg (World.drewN _) (Nat.add_assoc _ _ _))⟩); have p11 : 0 ≤ (x5_1 : Int) := of_decide_eq_true (by first | (with_reducible assumption) | assumption); have q11 : x5_1 < (s0_0.size : Int) := of_decide_eq_true (by first | (with_reducible assumption) | assumption); have hx11 := bt_at s0_0 x5_1; replace p11 := eq_true p11; replace q11 := eq_true q11) | (go_at_call 32; (with_reducible refine (scan_letter.calls (bt s0_0 x5_1) false _ A12.out).mono ?_); rintro e w' ⟨rfl, ⟨nd, rfl⟩⟩; (try first | exact ⟨rfl, _, World.drewN_drewN _ _ _⟩ | exact ⟨rfl, _, Eq.trans (World.drewN_drewN _ _ _) (congrArg (World.drewN _) (Nat.add_assoc _ _ _))⟩))); try go_wp2_with (first | (go_at_call 37; (with_reducible refine (scan_digit.calls (bt s0_0 x5_1) false _ A7.out).mono ?_); rintro e w' ⟨rfl, ⟨nd, rfl⟩⟩; (try first | exact ⟨rfl, _, World.drewN_drewN _ _ _⟩ | exact ⟨rfl, _, Eq.trans (World.drewN_drewN _ _ _) (congrArg (World.drewN _) (Nat.add_assoc _ _ _))⟩); have p11 : 0 ≤ (x5_1 : Int) := of_decide_eq_true (by first | (with_reducible assumption) | assumption); have q11 : x5_1 < (s0_0.size : Int) := of_decide_eq_true (by first | (with_reducible assumption) | assumption); have hx11 := bt_at s0_0 x5_1; replace p11 := eq_true p11; replace q11 := eq_true q11) | (go_at_call 32; (with_reducible refine (scan_letter.calls (bt s0_0 x5_1) false _ A12.out).mono ?_); rintro e w' ⟨rfl, ⟨nd, rfl⟩⟩; (try first | exact ⟨rfl, _, World.drewN_drewN _ _ _⟩ | exact ⟨rfl, _, Eq.trans (World.drewN_drewN _ _ _) (congrArg (World.drewN _) (Nat.add_assoc _ _ _))⟩))))
                      go_ret
                      exact ⟨by first | rfl | (simp [errW_none, errW_some] <;> rfl) | (simp [*, errW_none, errW_some] <;> rfl), by repeat (first | (with_reducible first | exact HI0.out | apply IsS54.alloc | apply IsS54.drewN | apply IsS54.drew | apply IsS54.set_0 | apply IsS54.set_1) | exact HI0.out), by repeat (first | (with_reducible first | exact HB.out | apply below_alloc | apply pw_below_drewN | apply below_drew1 | refine below_set ?_ (IsS54.ge HI0.out)) | exact HB.out), by repeat (first | (with_reducible first | exact HK.out | apply KeepBut.set_ | apply keep_drewN | apply keep_drew | apply keep_alloc) | exact HK.out)⟩
                    · rw [if_neg c17] at H
                      exact absurd H (by simp)
                  · rw [if_neg c16] at H
                    exact absurd H (by simp)
                · rw [if_neg c15] at H
                  exact absurd H (by simp)
            · replace c10 := Bool.eq_false_iff.mpr c10
              subst c10
              have H1 : (if 0 ≤ s0_1 then (if s0_1 ≤ x5_1 then (if x5_1 ≤ (s0_0.size : Int) then (some (s0_0.extract (s0_1 : Int).toNat (x5_1 : Int).toNat, s0_0, s0_1)) else (none)) else (none)) else (none)) = some (r1, r2, r3) := by rw [if_neg (show ¬ (false = true) by decide)] at H; exact H
              clear H
              have H := H1
              clear H1
              by_cases c19 : 0 ≤ s0_1
              · rw [if_pos c19] at H
                have c19b0 := eq_true c19
                have c19b1 : decide (0 ≤ s0_1) = true := decide_eq_true c19
                clear c19
                by_cases c20 : s0_1 ≤ x5_1
                · rw [if_pos c20] at H
                  have c20b0 := eq_true c20
                  have c20b1 : decide (s0_1 ≤ x5_1) = true := decide_eq_true c20
                  clear c20
                  by_cases c21 : x5_1 ≤ (s0_0.size : Int)
                  · rw [if_pos c21] at H
                    have c21b0 := eq_true c21
                    have c21b1 : decide (x5_1 ≤ (s0_0.size : Int)) = true := decide_eq_true c21
                    clear c21
                    simp only [Option.some.injEq, Prod.mk.injEq] at H
                    obtain ⟨rfl, rfl, rfl⟩ := H
                    obtain ⟨ASz22_2, cSz22_2, HGz22, hgz22, HSz22_2⟩ := HI0.out
                    have hcz22_0 := cellS54_0 HGz22
                    have hcz22_1 := cellS54_1 HGz22
                    have hcz22_2 := cellS54_2 HGz22
                    have hfz22_0 := blk_frozen HGz22 0
                    have hfz22_1 := blk_frozen HGz22 1
                    clear HGz22 hgz22
                    have p6 : 0 ≤ (x5_1 : Int) := of_decide_eq_true (by first | (with_reducible assumption) | assumption)
                    have q6 : x5_1 < (s0_0.size : Int) := of_decide_eq_true (by first | (with_reducible assumption) | assumption)
                    have hx6 := bt_at s0_0 x5_1
                    replace p6 := eq_true p6
                    replace q6 := eq_true q6
                    go_wp2_with (first | (go_at_call 37; (with_reducible refine (scan_digit.calls (bt s0_0 x5_1) false _ A7.out).mono ?_); rintro e w' ⟨rfl, ⟨nd, rfl⟩⟩; (try first | exact ⟨rfl, _, World.drewN_drewN _ _ _⟩ | exact ⟨rfl, _, Eq.trans (World.drewN_drewN _ _ _) (congrArg (World.drewN _) (Nat.add_assoc _ _ _))⟩)))
                    repeat (go_quiet (first | (go_at_call 37; (with_reducible refine (scan_digit.calls (bt s0_0 x5_1) false _ A7.out).mono ?_); rintro e w' ⟨rfl, ⟨nd, rfl⟩⟩; (try first | exact ⟨rfl, _, World.drewN_drewN _ _ _⟩ | exact ⟨rfl, _, Eq.trans (World.drewN_drewN _ _ _) (congrArg (World.drewN _) (Nat.add_assoc _ _ _))⟩))); try go_wp2_with (first | (go_at_call 37; (with_reducible refine (scan_digit.calls (bt s0_0 x5_1) false _ A7.out).mono ?_); rintro e w' ⟨rfl, ⟨nd, rfl⟩⟩; (try first | exact ⟨rfl, _, World.drewN_drewN _ _ _⟩ | exact ⟨rfl, _, Eq.trans (World.drewN_drewN _ _ _) (congrArg (World.drewN _) (Nat.add_assoc _ _ _))⟩))))
                    go_ret
                    exact ⟨by first | rfl | (simp [errW_none, errW_some] <;> rfl) | (simp [*, errW_none, errW_some] <;> rfl), by repeat (first | (with_reducible first | exact HI0.out | apply IsS54.alloc | apply IsS54.drewN | apply IsS54.drew | apply IsS54.set_0 | apply IsS54.set_1) | exact HI0.out), by repeat (first | (with_reducible first | exact HB.out | apply below_alloc | apply pw_below_drewN | apply below_drew1 | refine below_set ?_ (IsS54.ge HI0.out)) | exact HB.out), by repeat (first | (with_reducible first | exact HK.out | apply KeepBut.set_ | apply keep_drewN | apply keep_drew | apply keep_alloc) | exact HK.out)⟩
                  · rw [if_neg c21] at H
                    exact absurd H (by simp)
                · rw [if_neg c20] at H
                  exact absurd H (by simp)
              · rw [if_neg c19] at H
                exact absurd H (by simp)
        · rw [if_neg c5] at H
          exact absurd H (by simp)
      · rw [if_neg c4] at H
        have c4b0 : decide (x5_1 < (s0_0.size : Int)) = false := decide_eq_false c4
        clear c4
        by_cases c23 : 0 ≤ s0_1
        · rw [if_pos c23] at H
          have c23b0 := eq_true c23
          have c23b1 : decide (0 ≤ s0_1) = true := decide_eq_true c23
          clear c23
          by_cases c24 : s0_1 ≤ x5_1
          · rw [if_pos c24] at H
            have c24b0 := eq_true c24
            have c24b1 : decide (s0_1 ≤ x5_1) = true := decide_eq_true c24
            clear c24
            by_cases c25 : x5_1 ≤ (s0_0.size : Int)
            · rw [if_pos c25] at H
              have c25b0 := eq_true c25
              have c25b1 : decide (x5_1 ≤ (s0_0.size : Int)) = true := decide_eq_true c25
              clear c25
              simp only [Option.some.injEq, Prod.mk.injEq] at H
              obtain ⟨rfl, rfl, rfl⟩ := H
              obtain ⟨ASz26_2, cSz26_2, HGz26, hgz26, HSz26_2⟩ := HI0.out
              have hcz26_0 := cellS54_0 HGz26
              have hcz26_1 := cellS54_1 HGz26
              have hcz26_2 := cellS54_2 HGz26
              have hfz26_0 := blk_frozen HGz26 0
              have hfz26_1 := blk_frozen HGz26 1
              clear HGz26 hgz26
              go_wp2
              repeat (go_quiet (fail); try go_wp2)
              go_ret
              exact ⟨by first | rfl | (simp [errW_none, errW_some] <;> rfl) | (simp [*, errW_none, errW_some] <;> rfl), by repeat (first | (with_reducible first | exact HI0.out | apply IsS54.alloc | apply IsS54.drewN | apply IsS54.drew | apply IsS54.set_0 | apply IsS54.set_1) | exact HI0.out), by repeat (first | (with_reducible first | exact HB.out | apply below_alloc | apply pw_below_drewN | apply below_drew1 | refine below_set ?_ (IsS54.ge HI0.out)) | exact HB.out), by repeat (first | (with_reducible first | exact HK.out | apply KeepBut.set_ | apply keep_drewN | apply keep_drew | apply keep_alloc) | exact HK.out)⟩
            · rw [if_neg c25] at H
              exact absurd H (by simp)
          · rw [if_neg c24] at H
            exact absurd H (by simp)
        · rw [if_neg c23] at H
          exact absurd H (by simp)

-- NOT PRINTED: function 34 (scan_reader_fault)

/-! ### scan_Key: function 35 -/
def scan_Key.j0 : Nat → ByteArray → Bool → Option (Bool)
  | 0, _, _ => none
  | k + 1, x3, x4 => if x4 = true then (some true) else (if x3.toList = ([102, 115, 116] : List UInt8) then (some true) else (if x3.toList = ([115, 110, 100] : List UInt8) then (some true) else (if x3.toList = ([105, 110, 108] : List UInt8) then (some true) else (if x3.toList = ([105, 110, 114] : List UInt8) then (some true) else (if x3.toList = ([116, 114, 117, 101] : List UInt8) then (some true) else (if x3.toList = ([102, 97, 108, 115, 101] : List UInt8) then (some true) else (if x3.toList = ([105, 110, 116] : List UInt8) then (some true) else (if x3.toList = ([98, 111, 111, 108] : List UInt8) then (some true) else (some false)))))))))
def scan_Key.f (k : Nat) (a0 : ByteArray) : Option (Bool) := if a0.toList = ([108, 101, 116] : List UInt8) then (scan_Key.j0 k a0 (a0.toList == ([108, 101, 116] : List UInt8))) else (if a0.toList = ([105, 110] : List UInt8) then (scan_Key.j0 k a0 (a0.toList == ([105, 110] : List UInt8))) else (if a0.toList = ([105, 102] : List UInt8) then (scan_Key.j0 k a0 (a0.toList == ([105, 102] : List UInt8))) else (if a0.toList = ([116, 104, 101, 110] : List UInt8) then (scan_Key.j0 k a0 (a0.toList == ([116, 104, 101, 110] : List UInt8))) else (if a0.toList = ([101, 108, 115, 101] : List UInt8) then (scan_Key.j0 k a0 (a0.toList == ([101, 108, 115, 101] : List UInt8))) else (if a0.toList = ([114, 101, 99] : List UInt8) then (scan_Key.j0 k a0 (a0.toList == ([114, 101, 99] : List UInt8))) else (if a0.toList = ([99, 97, 115, 101] : List UInt8) then (scan_Key.j0 k a0 (a0.toList == ([99, 97, 115, 101] : List UInt8))) else (scan_Key.j0 k a0 (a0.toList == ([111, 102] : List UInt8)))))))))
theorem scan_Key.mono_l : ∀ k, (∀ y0 y1, LeO (scan_Key.j0 k y0 y1) (scan_Key.j0 (k + 1) y0 y1))
  | 0 => fun _ _ r h => by simp [scan_Key.j0] at h
  | k + 1 => by
    have ih0 := scan_Key.mono_l k
    · intro y0 y1
      unfold scan_Key.j0
      repeat' first
      | (with_reducible exact ih0 _ _)
      | (with_reducible exact LeO.refl _)
      | (with_reducible exact LeO.none _)
      | (with_reducible refine LeO.ite ?_ ?_)
      | (with_reducible refine LeO.bind ?_ (fun _ => ?_))
      | exact ih0 _ _
      | exact LeO.none _
      | refine LeO.ite ?_ ?_
      | refine LeO.bind ?_ (fun _ => ?_)
theorem scan_Key.mono : ∀ a0 k, LeO (scan_Key.f k a0) (scan_Key.f (k + 1) a0) := by
  intro a0 k
  have ih0 := scan_Key.mono_l k
  unfold scan_Key.f
  repeat' first
      | (with_reducible exact ih0 _ _)
      | (with_reducible exact LeO.refl _)
      | (with_reducible exact LeO.none _)
      | (with_reducible refine LeO.ite ?_ ?_)
      | (with_reducible refine LeO.bind ?_ (fun _ => ?_))
      | exact ih0 _ _
      | exact LeO.none _
      | refine LeO.ite ?_ ?_
      | refine LeO.bind ?_ (fun _ => ?_)
set_option maxHeartbeats 8000000 in
set_option maxRecDepth 100000 in
theorem scan_Key.calls (k : Nat) (a0 : ByteArray) (r : Bool) (w : World) (h : scan_Key.f k a0 = some r) :
    Calls Try.prog 35 #[.string a0] w fun e w' => e = .returned (.bool r) ∧ Drawn0 w w' := by
  have H : (if a0.toList = ([108, 101, 116] : List UInt8) then (scan_Key.j0 k a0 (a0.toList == ([108, 101, 116] : List UInt8))) else (if a0.toList = ([105, 110] : List UInt8) then (scan_Key.j0 k a0 (a0.toList == ([105, 110] : List UInt8))) else (if a0.toList = ([105, 102] : List UInt8) then (scan_Key.j0 k a0 (a0.toList == ([105, 102] : List UInt8))) else (if a0.toList = ([116, 104, 101, 110] : List UInt8) then (scan_Key.j0 k a0 (a0.toList == ([116, 104, 101, 110] : List UInt8))) else (if a0.toList = ([101, 108, 115, 101] : List UInt8) then (scan_Key.j0 k a0 (a0.toList == ([101, 108, 115, 101] : List UInt8))) else (if a0.toList = ([114, 101, 99] : List UInt8) then (scan_Key.j0 k a0 (a0.toList == ([114, 101, 99] : List UInt8))) else (if a0.toList = ([99, 97, 115, 101] : List UInt8) then (scan_Key.j0 k a0 (a0.toList == ([99, 97, 115, 101] : List UInt8))) else (scan_Key.j0 k a0 (a0.toList == ([111, 102] : List UInt8)))))))))) = some r := h
  clear h
  have HC2 := Aside0.mk H
  clear H
  go_enter Try.func35, Try.ntmps35
  go_upto_if 4 with (fail)
  go_cut [4] (fun v4 wc => ∃ (kq : Nat) (x4_1 : Bool), v4 = .bool x4_1 ∧ Aside0 (scan_Key.j0 kq a0 x4_1 = some r) ∧ Aside0 (kq ≤ k) ∧ Drawn0 w wc)
  case first =>
    have H := HC2.out
    clear HC2
    by_cases c3 : a0.toList = ([108, 101, 116] : List UInt8)
    · rw [if_pos c3] at H
      have c3b0 : (a0.toList == ([108, 101, 116] : List UInt8)) = true := beq_iff_eq.mpr c3
      have c3b1 : (a0.toList != ([108, 101, 116] : List UInt8)) = false := bne_eq_false_iff_eq.mpr c3
      clear c3
      (first | rw [c3b0] | (simp only [i64_w, i32_w]; rw [c3b0]) | skip)
      have H' := Aside0.mk H
      clear H
      go_wp2
      go_meet
      case rel => exact ⟨_, ((a0.toList == ([108, 101, 116] : List UInt8))), (by first | rfl | (simp; done) | (simp [*]; done)), H', ⟨by first | omega | exact Nat.le_refl _⟩, by repeat (first | exact Drawn0.refl _ | apply Drawn0.step)⟩
    · rw [if_neg c3] at H
      have c3b0 : (a0.toList == ([108, 101, 116] : List UInt8)) = false := beq_eq_false_iff_ne.mpr c3
      have c3b1 : (a0.toList != ([108, 101, 116] : List UInt8)) = true := bne_iff_ne.mpr c3
      (first | rw [c3b0] | (simp only [i64_w, i32_w]; rw [c3b0]) | skip)
      by_cases c4 : a0.toList = ([105, 110] : List UInt8)
      · rw [if_pos c4] at H
        have c4b0 : (a0.toList == ([105, 110] : List UInt8)) = true := beq_iff_eq.mpr c4
        have c4b1 : (a0.toList != ([105, 110] : List UInt8)) = false := bne_eq_false_iff_eq.mpr c4
        clear c4
        have H' := Aside0.mk H
        clear H
        go_wp2
        go_meet
        case rel => exact ⟨_, ((a0.toList == ([105, 110] : List UInt8))), (by first | rfl | (simp; done) | (simp [*]; done)), H', ⟨by first | omega | exact Nat.le_refl _⟩, by repeat (first | exact Drawn0.refl _ | apply Drawn0.step)⟩
      · rw [if_neg c4] at H
        have c4b0 : (a0.toList == ([105, 110] : List UInt8)) = false := beq_eq_false_iff_ne.mpr c4
        have c4b1 : (a0.toList != ([105, 110] : List UInt8)) = true := bne_iff_ne.mpr c4
        by_cases c5 : a0.toList = ([105, 102] : List UInt8)
        · rw [if_pos c5] at H
          have c5b0 : (a0.toList == ([105, 102] : List UInt8)) = true := beq_iff_eq.mpr c5
          have c5b1 : (a0.toList != ([105, 102] : List UInt8)) = false := bne_eq_false_iff_eq.mpr c5
          clear c5
          have H' := Aside0.mk H
          clear H
          go_wp2
          go_meet
          case rel => exact ⟨_, ((a0.toList == ([105, 102] : List UInt8))), (by first | rfl | (simp; done) | (simp [*]; done)), H', ⟨by first | omega | exact Nat.le_refl _⟩, by repeat (first | exact Drawn0.refl _ | apply Drawn0.step)⟩
        · rw [if_neg c5] at H
          have c5b0 : (a0.toList == ([105, 102] : List UInt8)) = false := beq_eq_false_iff_ne.mpr c5
          have c5b1 : (a0.toList != ([105, 102] : List UInt8)) = true := bne_iff_ne.mpr c5
          by_cases c6 : a0.toList = ([116, 104, 101, 110] : List UInt8)
          · rw [if_pos c6] at H
            have c6b0 : (a0.toList == ([116, 104, 101, 110] : List UInt8)) = true := beq_iff_eq.mpr c6
            have c6b1 : (a0.toList != ([116, 104, 101, 110] : List UInt8)) = false := bne_eq_false_iff_eq.mpr c6
            clear c6
            have H' := Aside0.mk H
            clear H
            go_wp2
            go_meet
            case rel => exact ⟨_, ((a0.toList == ([116, 104, 101, 110] : List UInt8))), (by first | rfl | (simp; done) | (simp [*]; done)), H', ⟨by first | omega | exact Nat.le_refl _⟩, by repeat (first | exact Drawn0.refl _ | apply Drawn0.step)⟩
          · rw [if_neg c6] at H
            have c6b0 : (a0.toList == ([116, 104, 101, 110] : List UInt8)) = false := beq_eq_false_iff_ne.mpr c6
            have c6b1 : (a0.toList != ([116, 104, 101, 110] : List UInt8)) = true := bne_iff_ne.mpr c6
            by_cases c7 : a0.toList = ([101, 108, 115, 101] : List UInt8)
            · rw [if_pos c7] at H
              have c7b0 : (a0.toList == ([101, 108, 115, 101] : List UInt8)) = true := beq_iff_eq.mpr c7
              have c7b1 : (a0.toList != ([101, 108, 115, 101] : List UInt8)) = false := bne_eq_false_iff_eq.mpr c7
              clear c7
              have H' := Aside0.mk H
              clear H
              go_wp2
              go_meet
              case rel => exact ⟨_, ((a0.toList == ([101, 108, 115, 101] : List UInt8))), (by first | rfl | (simp; done) | (simp [*]; done)), H', ⟨by first | omega | exact Nat.le_refl _⟩, by repeat (first | exact Drawn0.refl _ | apply Drawn0.step)⟩
            · rw [if_neg c7] at H
              have c7b0 : (a0.toList == ([101, 108, 115, 101] : List UInt8)) = false := beq_eq_false_iff_ne.mpr c7
              have c7b1 : (a0.toList != ([101, 108, 115, 101] : List UInt8)) = true := bne_iff_ne.mpr c7
              by_cases c8 : a0.toList = ([114, 101, 99] : List UInt8)
              · rw [if_pos c8] at H
                have c8b0 : (a0.toList == ([114, 101, 99] : List UInt8)) = true := beq_iff_eq.mpr c8
                have c8b1 : (a0.toList != ([114, 101, 99] : List UInt8)) = false := bne_eq_false_iff_eq.mpr c8
                clear c8
                have H' := Aside0.mk H
                clear H
                go_wp2
                go_meet
                case rel => exact ⟨_, ((a0.toList == ([114, 101, 99] : List UInt8))), (by first | rfl | (simp; done) | (simp [*]; done)), H', ⟨by first | omega | exact Nat.le_refl _⟩, by repeat (first | exact Drawn0.refl _ | apply Drawn0.step)⟩
              · rw [if_neg c8] at H
                have c8b0 : (a0.toList == ([114, 101, 99] : List UInt8)) = false := beq_eq_false_iff_ne.mpr c8
                have c8b1 : (a0.toList != ([114, 101, 99] : List UInt8)) = true := bne_iff_ne.mpr c8
                by_cases c9 : a0.toList = ([99, 97, 115, 101] : List UInt8)
                · rw [if_pos c9] at H
                  have c9b0 : (a0.toList == ([99, 97, 115, 101] : List UInt8)) = true := beq_iff_eq.mpr c9
                  have c9b1 : (a0.toList != ([99, 97, 115, 101] : List UInt8)) = false := bne_eq_false_iff_eq.mpr c9
                  clear c9
                  have H' := Aside0.mk H
                  clear H
                  go_wp2
                  go_meet
                  case rel => exact ⟨_, ((a0.toList == ([99, 97, 115, 101] : List UInt8))), (by first | rfl | (simp; done) | (simp [*]; done)), H', ⟨by first | omega | exact Nat.le_refl _⟩, by repeat (first | exact Drawn0.refl _ | apply Drawn0.step)⟩
                · rw [if_neg c9] at H
                  have c9b0 : (a0.toList == ([99, 97, 115, 101] : List UInt8)) = false := beq_eq_false_iff_ne.mpr c9
                  have c9b1 : (a0.toList != ([99, 97, 115, 101] : List UInt8)) = true := bne_iff_ne.mpr c9
                  have H' := Aside0.mk H
                  clear H
                  go_wp2
                  go_meet
                  case rel => exact ⟨_, ((a0.toList == ([111, 102] : List UInt8))), (by first | rfl | (simp; done) | (simp [*]; done)), H', ⟨by first | omega | exact Nat.le_refl _⟩, by repeat (first | exact Drawn0.refl _ | apply Drawn0.step)⟩
  case rest =>
    clear HC2
    try clear p2
    try clear c3
    try clear c3b0
    try clear c3b1
    try clear c4
    try clear c4b0
    try clear c4b1
    try clear c5
    try clear c5b0
    try clear c5b1
    try clear c6
    try clear c6b0
    try clear c6b1
    try clear c7
    try clear c7b0
    try clear c7b1
    try clear c8
    try clear c8b0
    try clear c8b1
    try clear c9
    try clear c9b0
    try clear c9b1
    obtain ⟨kq, x4_1, rfl, HA, HJ1, ⟨mc1, rfl⟩⟩ := hcut
    cases kq with
    | zero => exact absurd HA.out (by simp [scan_Key.j0])
    | succ kj1 =>
      have H := HA.out
      clear HA
      simp only [scan_Key.j0] at H
      by_cases c10 : x4_1 = true
      · subst c10
        have H1 : (some true) = some r := by rw [if_pos rfl] at H; exact H
        clear H
        have H := H1
        clear H1
        obtain rfl := Option.some.inj H
        go_wp2
        go_ret
        exact ⟨by first | rfl | (simp; done) | (simp [*]; done), by repeat (first | exact Drawn0.refl _ | apply Drawn0.step)⟩
      · replace c10 := Bool.eq_false_iff.mpr c10
        subst c10
        have H1 : (if a0.toList = ([102, 115, 116] : List UInt8) then (some true) else (if a0.toList = ([115, 110, 100] : List UInt8) then (some true) else (if a0.toList = ([105, 110, 108] : List UInt8) then (some true) else (if a0.toList = ([105, 110, 114] : List UInt8) then (some true) else (if a0.toList = ([116, 114, 117, 101] : List UInt8) then (some true) else (if a0.toList = ([102, 97, 108, 115, 101] : List UInt8) then (some true) else (if a0.toList = ([105, 110, 116] : List UInt8) then (some true) else (if a0.toList = ([98, 111, 111, 108] : List UInt8) then (some true) else (some false))))))))) = some r := by rw [if_neg (show ¬ (false = true) by decide)] at H; exact H
        clear H
        have H := H1
        clear H1
        by_cases c11 : a0.toList = ([102, 115, 116] : List UInt8)
        · rw [if_pos c11] at H
          have c11b0 : (a0.toList == ([102, 115, 116] : List UInt8)) = true := beq_iff_eq.mpr c11
          have c11b1 : (a0.toList != ([102, 115, 116] : List UInt8)) = false := bne_eq_false_iff_eq.mpr c11
          clear c11
          obtain rfl := Option.some.inj H
          go_wp2
          go_ret
          exact ⟨by first | rfl | (simp; done) | (simp [*]; done), by repeat (first | exact Drawn0.refl _ | apply Drawn0.step)⟩
        · rw [if_neg c11] at H
          have c11b0 : (a0.toList == ([102, 115, 116] : List UInt8)) = false := beq_eq_false_iff_ne.mpr c11
          have c11b1 : (a0.toList != ([102, 115, 116] : List UInt8)) = true := bne_iff_ne.mpr c11
          by_cases c12 : a0.toList = ([115, 110, 100] : List UInt8)
          · rw [if_pos c12] at H
            have c12b0 : (a0.toList == ([115, 110, 100] : List UInt8)) = true := beq_iff_eq.mpr c12
            have c12b1 : (a0.toList != ([115, 110, 100] : List UInt8)) = false := bne_eq_false_iff_eq.mpr c12
            clear c12
            obtain rfl := Option.some.inj H
            go_wp2
            go_ret
            exact ⟨by first | rfl | (simp; done) | (simp [*]; done), by repeat (first | exact Drawn0.refl _ | apply Drawn0.step)⟩
          · rw [if_neg c12] at H
            have c12b0 : (a0.toList == ([115, 110, 100] : List UInt8)) = false := beq_eq_false_iff_ne.mpr c12
            have c12b1 : (a0.toList != ([115, 110, 100] : List UInt8)) = true := bne_iff_ne.mpr c12
            by_cases c13 : a0.toList = ([105, 110, 108] : List UInt8)
            · rw [if_pos c13] at H
              have c13b0 : (a0.toList == ([105, 110, 108] : List UInt8)) = true := beq_iff_eq.mpr c13
              have c13b1 : (a0.toList != ([105, 110, 108] : List UInt8)) = false := bne_eq_false_iff_eq.mpr c13
              clear c13
              obtain rfl := Option.some.inj H
              go_wp2
              go_ret
              exact ⟨by first | rfl | (simp; done) | (simp [*]; done), by repeat (first | exact Drawn0.refl _ | apply Drawn0.step)⟩
            · rw [if_neg c13] at H
              have c13b0 : (a0.toList == ([105, 110, 108] : List UInt8)) = false := beq_eq_false_iff_ne.mpr c13
              have c13b1 : (a0.toList != ([105, 110, 108] : List UInt8)) = true := bne_iff_ne.mpr c13
              by_cases c14 : a0.toList = ([105, 110, 114] : List UInt8)
              · rw [if_pos c14] at H
                have c14b0 : (a0.toList == ([105, 110, 114] : List UInt8)) = true := beq_iff_eq.mpr c14
                have c14b1 : (a0.toList != ([105, 110, 114] : List UInt8)) = false := bne_eq_false_iff_eq.mpr c14
                clear c14
                obtain rfl := Option.some.inj H
                go_wp2
                go_ret
                exact ⟨by first | rfl | (simp; done) | (simp [*]; done), by repeat (first | exact Drawn0.refl _ | apply Drawn0.step)⟩
              · rw [if_neg c14] at H
                have c14b0 : (a0.toList == ([105, 110, 114] : List UInt8)) = false := beq_eq_false_iff_ne.mpr c14
                have c14b1 : (a0.toList != ([105, 110, 114] : List UInt8)) = true := bne_iff_ne.mpr c14
                by_cases c15 : a0.toList = ([116, 114, 117, 101] : List UInt8)
                · rw [if_pos c15] at H
                  have c15b0 : (a0.toList == ([116, 114, 117, 101] : List UInt8)) = true := beq_iff_eq.mpr c15
                  have c15b1 : (a0.toList != ([116, 114, 117, 101] : List UInt8)) = false := bne_eq_false_iff_eq.mpr c15
                  clear c15
                  obtain rfl := Option.some.inj H
                  go_wp2
                  go_ret
                  exact ⟨by first | rfl | (simp; done) | (simp [*]; done), by repeat (first | exact Drawn0.refl _ | apply Drawn0.step)⟩
                · rw [if_neg c15] at H
                  have c15b0 : (a0.toList == ([116, 114, 117, 101] : List UInt8)) = false := beq_eq_false_iff_ne.mpr c15
                  have c15b1 : (a0.toList != ([116, 114, 117, 101] : List UInt8)) = true := bne_iff_ne.mpr c15
                  by_cases c16 : a0.toList = ([102, 97, 108, 115, 101] : List UInt8)
                  · rw [if_pos c16] at H
                    have c16b0 : (a0.toList == ([102, 97, 108, 115, 101] : List UInt8)) = true := beq_iff_eq.mpr c16
                    have c16b1 : (a0.toList != ([102, 97, 108, 115, 101] : List UInt8)) = false := bne_eq_false_iff_eq.mpr c16
                    clear c16
                    obtain rfl := Option.some.inj H
                    go_wp2
                    go_ret
                    exact ⟨by first | rfl | (simp; done) | (simp [*]; done), by repeat (first | exact Drawn0.refl _ | apply Drawn0.step)⟩
                  · rw [if_neg c16] at H
                    have c16b0 : (a0.toList == ([102, 97, 108, 115, 101] : List UInt8)) = false := beq_eq_false_iff_ne.mpr c16
                    have c16b1 : (a0.toList != ([102, 97, 108, 115, 101] : List UInt8)) = true := bne_iff_ne.mpr c16
                    by_cases c17 : a0.toList = ([105, 110, 116] : List UInt8)
                    · rw [if_pos c17] at H
                      have c17b0 : (a0.toList == ([105, 110, 116] : List UInt8)) = true := beq_iff_eq.mpr c17
                      have c17b1 : (a0.toList != ([105, 110, 116] : List UInt8)) = false := bne_eq_false_iff_eq.mpr c17
                      clear c17
                      obtain rfl := Option.some.inj H
                      go_wp2
                      go_ret
                      exact ⟨by first | rfl | (simp; done) | (simp [*]; done), by repeat (first | exact Drawn0.refl _ | apply Drawn0.step)⟩
                    · rw [if_neg c17] at H
                      have c17b0 : (a0.toList == ([105, 110, 116] : List UInt8)) = false := beq_eq_false_iff_ne.mpr c17
                      have c17b1 : (a0.toList != ([105, 110, 116] : List UInt8)) = true := bne_iff_ne.mpr c17
                      by_cases c18 : a0.toList = ([98, 111, 111, 108] : List UInt8)
                      · rw [if_pos c18] at H
                        have c18b0 : (a0.toList == ([98, 111, 111, 108] : List UInt8)) = true := beq_iff_eq.mpr c18
                        have c18b1 : (a0.toList != ([98, 111, 111, 108] : List UInt8)) = false := bne_eq_false_iff_eq.mpr c18
                        clear c18
                        obtain rfl := Option.some.inj H
                        go_wp2
                        go_ret
                        exact ⟨by first | rfl | (simp; done) | (simp [*]; done), by repeat (first | exact Drawn0.refl _ | apply Drawn0.step)⟩
                      · rw [if_neg c18] at H
                        have c18b0 : (a0.toList == ([98, 111, 111, 108] : List UInt8)) = false := beq_eq_false_iff_ne.mpr c18
                        have c18b1 : (a0.toList != ([98, 111, 111, 108] : List UInt8)) = true := bne_iff_ne.mpr c18
                        obtain rfl := Option.some.inj H
                        go_wp2
                        go_ret
                        exact ⟨by first | rfl | (simp; done) | (simp [*]; done), by repeat (first | exact Drawn0.refl _ | apply Drawn0.step)⟩

-- NOT PRINTED: function 36 (scan_reader_put)

-- NOT PRINTED: function 38 (scan_reader_number)

-- NOT PRINTED: function 17 (scan_reader_word)

-- NOT PRINTED: function 7 (scan_All)

-- NOT PRINTED: function 3 (lychgatelaw01_ScanParted)

end Go.Proofs.Ytjmpejbciniceaa.X
/- Steps of a region that draws its order, with a condition held: a call by the callee's contract, the operands read by evaluation; and the steps under a guard that is a variable. -/
namespace Go.Proofs.Ytjmpejbciniceaa.X
open Go
section
variable {P : Program} {ops : Array Oper} {Q : Exit → Act → World → Prop} {md : Region.Mode} {S : World → Prop}
theorem callH {d : Option Tmp} (i : Nat) {oi : Oper} {fuel : Nat} {listed : Array Bool} {a : Act} {w : World} {f : FuncId} {args : Array Value} {R : Ending → World → Prop}
    (hi : ops[i]? = some oi) (hd : oi.dst = d) (hr : Region.ready md ops listed = [i]) (hw : Region.wanted oi (yielded ops a.tmps) = true)
    (hx : (execOp a.eval oi).run P w = .ok (.enter f args) w) (hc : Calls P f args w R)
    (h : ∀ e w', R e w' → ∃ v, e = .returned v ∧ S w' ∧ (S w' → wpAnyH P md ops Q S fuel (listed.setIfInBounds i true) (a.put d v) w')) :
    wpAnyH P md ops Q S (fuel + 1) listed a w := by
  subst hd
  refine wpAnyH_ready (rs := [i]) hr (by simp) (AllReadyH.cons hi (fun K hK => ?_) AllReadyH.nil)
  rw [if_pos hw]
  unfold Oper.wp
  rw [hx, Oper.upon_enter]
  refine hc.mono fun e w' hR => ?_
  obtain ⟨v, rfl, hS, hW⟩ := h e w' hR
  exact hK.out _ _ hS hW
/-- The same where the guard is a variable: behind it the slot holds the answer, or nothing. -/
theorem callCH {d : Option Tmp} (p : Bool) (i : Nat) {oi : Oper} {fuel : Nat} {listed : Array Bool} {a : Act} {w : World} {f : FuncId} {args : Array Value} {v : Value} {T : World → Prop}
    (hi : ops[i]? = some oi) (hd : oi.dst = d) (hr : Region.ready md ops listed = [i]) (hw : Region.wanted oi (yielded ops a.tmps) = p)
    (hx : p = true → (execOp a.eval oi).run P w = .ok (.enter f args) w) (h0 : T w) (hc : Calls P f args w fun e w' => e = .returned v ∧ T w')
    (h : ∀ w', T w' → S w' ∧ (S w' → wpAnyH P md ops Q S fuel (listed.setIfInBounds i true) (a.put d (bif p then v else undef)) w')) :
    wpAnyH P md ops Q S (fuel + 1) listed a w := by
  subst hd
  refine wpAnyH_ready (rs := [i]) hr (by simp) (AllReadyH.cons hi (fun K hK => ?_) AllReadyH.nil)
  cases p with
  | true =>
    rw [if_pos hw]
    unfold Oper.wp
    rw [hx rfl, Oper.upon_enter]
    refine hc.mono fun e w' ⟨he, hT⟩ => ?_
    subst he
    exact hK.out _ _ (h w' hT).1 (h w' hT).2
  | false =>
    rw [if_neg (by rw [hw]; simp)]
    exact hK.out _ _ (h w h0).1 (h w h0).2
theorem takeCH {d : Option Tmp} (p : Bool) (i : Nat) {oi : Oper} {v : Value} {fuel : Nat} {listed : Array Bool} {a : Act} {w : World} (hi : ops[i]? = some oi) (hd : oi.dst = d)
    (hs : Region.noSelect ops = true) (hf : Region.free md ops listed i = true) (hr : (Region.ready md ops listed).contains i = true)
    (hQ : ∀ c a w, Q (.panic c) (a.put d (bif p then v else undef)) w → Q (.panic c) a w) (hw : Region.wanted oi (yielded ops a.tmps) = p)
    (hy : p = true → ∀ w, S w → (execOp a.eval oi).run P w = .ok (.value v) w) (hS : S w)
    (h : wpAnyH P md ops Q S fuel (listed.setIfInBounds i true) (a.put d (bif p then v else undef)) w) : wpAnyH P md ops Q S (fuel + 1) listed a w := by
  subst hd
  cases p with
  | true => exact wpAnyH_take hi hs hf hr hQ (Or.inl ⟨hw, hy rfl⟩) hS h
  | false => exact wpAnyH_take hi hs hf hr hQ (Or.inr ⟨hw, rfl⟩) hS h
end
end Go.Proofs.Ytjmpejbciniceaa.X
/- Steps of a region that draws its order, with a condition held: an operation taken first, and one that is not wanted. -/
namespace Go.Proofs.Ytjmpejbciniceaa.X
open Go
section
variable {P : Program} {ops : Array Oper} {Q : Exit → Act → World → Prop} {md : Region.Mode} {S : World → Prop}
theorem takeH {d : Option Tmp} (i : Nat) {oi : Oper} {v : Value} {fuel : Nat} {listed : Array Bool} {a : Act} {w : World} (hi : ops[i]? = some oi) (hd : oi.dst = d)
    (hs : Region.noSelect ops = true) (hf : Region.free md ops listed i = true) (hr : (Region.ready md ops listed).contains i = true)
    (hQ : ∀ c a w, Q (.panic c) (a.put d v) w → Q (.panic c) a w) (hw : Region.wanted oi (yielded ops a.tmps) = true)
    (hy : ∀ w, S w → (execOp a.eval oi).run P w = .ok (.value v) w) (hS : S w)
    (h : wpAnyH P md ops Q S fuel (listed.setIfInBounds i true) (a.put d v) w) : wpAnyH P md ops Q S (fuel + 1) listed a w := by
  subst hd
  exact wpAnyH_take hi hs hf hr hQ (Or.inl ⟨hw, hy⟩) hS h
theorem passH {d : Option Tmp} (i : Nat) {oi : Oper} {fuel : Nat} {listed : Array Bool} {a : Act} {w : World} (hi : ops[i]? = some oi) (hd : oi.dst = d)
    (hs : Region.noSelect ops = true) (hf : Region.free md ops listed i = true) (hr : (Region.ready md ops listed).contains i = true)
    (hQ : ∀ c a w, Q (.panic c) (a.put d undef) w → Q (.panic c) a w) (hw : Region.wanted oi (yielded ops a.tmps) = false) (hS : S w)
    (h : wpAnyH P md ops Q S fuel (listed.setIfInBounds i true) (a.put d undef) w) : wpAnyH P md ops Q S (fuel + 1) listed a w := by
  subst hd
  exact wpAnyH_take hi hs hf hr hQ (Or.inr ⟨hw, rfl⟩) hS h
end
end Go.Proofs.Ytjmpejbciniceaa.X
/- The reader of scan in memory, and the contract of its method skip. -/
namespace Go.Proofs.Ytjmpejbciniceaa.X
open Go.RowKit Go.Proofs.YtjmpejbciniceaaW.PrintWords Go.Proofs.YtjmpejbciniceaaW.PrintLast Go.Proofs.YtjmpejbciniceaaW.PrintMore
set_option linter.unusedVariables false
set_option linter.unusedSimpArgs false

/-- A reader in block g: its text, its place, its words (of its own). -/
structure Rd (w0 : World) (g : Nat) (s : ByteArray) (a : Nat) (v : Value) (ws : List S29) (w : World) : Prop where
  blk : w.heap[g]? = some (.cells #[.string s, .int .i64 (a : Int), v] 54 (0, 0))
  row : k29.R 29 w w0.heap.size (fun b => b ≠ g) v ws
  low : w0.heap.size ≤ g
  below : Below w0.heap.size w0 w
theorem Rd.after {w0 : World} {g : Nat} {s : ByteArray} {a : Nat} {v : Value} {ws : List S29} {w w' : World} (h : Rd w0 g s a v ws w) (hb : Below w.heap.size w w') : Rd w0 g s a v ws w' :=
  ⟨blk_below h.blk hb, Kd.R_below h.row hb, h.low, below_then h.below h.below.size hb⟩
theorem Rd.move {w0 : World} {g : Nat} {s : ByteArray} {a : Nat} {v : Value} {ws : List S29} {w : World} (h : Rd w0 g s a v ws w) (a' : Nat) : Rd w0 g s a' v ws (w.setCell ⟨g, 1, none⟩ (.int .i64 (a' : Int))) :=
  ⟨blk_put h.blk 1 _ (by simp), Kd.R_far h.row (p := ⟨g, 1, none⟩) (fun b hb => hb) _, h.low, h.below.setCell (p := ⟨g, 1, none⟩) h.low _⟩
def RdPost (w0 : World) (g : Nat) (s : ByteArray) (a : Nat) (v : Value) (ws : List S29) (e : Ending) (w' : World) : Prop := e = .returned (.tuple #[]) ∧ Rd w0 g s a v ws w'
theorem iter_below (w : World) (t : ByteArray) (p : Nat) : Below w.heap.size w (w.iter t p) := (Below.refl _ _).alloc (Nat.le_refl _) _
def skipTo (s : ByteArray) (a : Nat) : Nat := s.size - (skipR (s.data.toList.drop a) false).length
theorem tail_list (s : ByteArray) (a : Nat) (h : a ≤ s.size) : (s.extract a s.size).data.toList = s.data.toList.drop a := by
  simp
  exact List.take_of_length_le (by simp)
theorem tail_size (s : ByteArray) (a : Nat) (h : a ≤ s.size) : (s.extract a s.size).size = s.size - a := by
  simp
set_option maxRecDepth 100000 in
set_option maxHeartbeats 1600000 in
theorem skip_calls (w0 : World) (g : Nat) (s : ByteArray) (a : Nat) (v : Value) (ws : List S29) (w : World) (h : Rd w0 g s a v ws w) (ha : a ≤ s.size) (hs : s.size ≤ 65536) :
    Calls Try.prog 16 #[.pointer (some ⟨g, 0, none⟩)] w (RdPost w0 g s (skipTo s a) v ws) := by
  have HR := Aside0.mk h
  have hT := tail_list s a ha
  have hZ := tail_size s a ha
  obtain ⟨t, ht⟩ : ∃ t, t = s.extract a s.size := ⟨_, rfl⟩
  rw [← ht] at hT hZ
  have HT := Aside0.mk hT
  have HZ := Aside0.mk hZ
  have HTE := Aside0.mk ht
  clear h hT hZ ht
  go_enter Try.func16, Try.ntmps16
  go_wp2_with fail
  have OK := Aside0.mk (fun (w' : World) (h : Below w.heap.size w w') => (⟨(blk_cell (blk_below HR.out.blk h) 0).trans rfl, (blk_cell (blk_below HR.out.blk h) 1).trans rfl⟩ : w'.cell? ⟨g, 0, none⟩ = some (.string s) ∧ w'.cell? ⟨g, 1, none⟩ = some (.int .i64 (a : Int))))
  have HBW := Aside0.mk (Below.refl w.heap.size w)
  refine wp_region_held_drew (S := (fun w' => w'.cell? ⟨g, 0, none⟩ = some (.string s) ∧ w'.cell? ⟨g, 1, none⟩ = some (.int .i64 (a : Int)))) (by kernel_rfl) (OK.out _ HBW.out.drew) (fun hHeld => ?_)
  replace HR := Aside0.mk (HR.out.after HBW.out.drew)
  refine takeH (d := some 5) (v := ?_) 0 rfl rfl (by kernel_rfl) (by kernel_rfl) (by kernel_rfl) (fun _ _ _ h => h) (by rfl) ?_ hHeld ?_
  rotate_left
  · intro w hSw
    try dsimp only at hSw
    go_simp <;> with_reducible rfl
  try simp only [Act.put, List.setIfInBounds_toArray, List.set_cons_zero, List.set_cons_succ]
  refine takeH (d := some 6) (v := ?_) 1 rfl rfl (by kernel_rfl) (by kernel_rfl) (by kernel_rfl) (fun _ _ _ h => h) (by rfl) ?_ hHeld ?_
  rotate_left
  · intro w hSw
    try dsimp only at hSw
    go_simp <;> with_reducible rfl
  try simp only [Act.put, List.setIfInBounds_toArray, List.set_cons_zero, List.set_cons_succ]
  refine takeH (d := some 7) (v := ?_) 2 rfl rfl (by kernel_rfl) (by kernel_rfl) (by kernel_rfl) (fun _ _ _ h => h) (by rfl) ?_ hHeld ?_
  rotate_left
  · intro w hSw
    try dsimp only at hSw
    go_simp <;> with_reducible rfl
  try simp only [Act.put, List.setIfInBounds_toArray, List.set_cons_zero, List.set_cons_succ]
  refine takeH (d := some 8) (v := ?_) 3 rfl rfl (by kernel_rfl) (by kernel_rfl) (by kernel_rfl) (fun _ _ _ h => h) (by rfl) ?_ hHeld ?_
  rotate_left
  · intro w hSw
    try dsimp only at hSw
    go_simp <;> with_reducible rfl
  try simp only [Act.put, List.setIfInBounds_toArray, List.set_cons_zero, List.set_cons_succ]
  refine takeH (d := some 9) (v := ?_) 4 rfl rfl (by kernel_rfl) (by kernel_rfl) (by kernel_rfl) (fun _ _ _ h => h) (by rfl) ?_ hHeld ?_
  rotate_left
  · intro w hSw
    try dsimp only at hSw
    go_simp <;> with_reducible rfl
  try simp only [Act.put, List.setIfInBounds_toArray, List.set_cons_zero, List.set_cons_succ]
  refine takeH (d := some 10) (v := ?_) 5 rfl rfl (by kernel_rfl) (by kernel_rfl) (by kernel_rfl) (fun _ _ _ h => h) (by rfl) ?_ hHeld ?_
  rotate_left
  · intro w hSw
    try dsimp only at hSw
    go_simp <;> with_reducible rfl
  try simp only [Act.put, List.setIfInBounds_toArray, List.set_cons_zero, List.set_cons_succ]
  refine takeH (d := some 11) (v := ?_) 6 rfl rfl (by kernel_rfl) (by kernel_rfl) (by kernel_rfl) (fun _ _ _ h => h) (by rfl) ?_ hHeld ?_
  rotate_left
  · intro w hSw
    try dsimp only at hSw
    go_simp <;> with_reducible rfl
  try simp only [Act.put, List.setIfInBounds_toArray, List.set_cons_zero, List.set_cons_succ]
  refine takeH (d := some 12) (v := ?_) 7 rfl rfl (by kernel_rfl) (by kernel_rfl) (by kernel_rfl) (fun _ _ _ h => h) (by rfl) ?_ hHeld ?_
  rotate_left
  · intro w hSw
    try dsimp only at hSw
    go_simp <;> with_reducible rfl
  try simp only [Act.put, List.setIfInBounds_toArray, List.set_cons_zero, List.set_cons_succ]
  refine takeH (d := some 13) (v := ?_) 8 rfl rfl (by kernel_rfl) (by kernel_rfl) (by kernel_rfl) (fun _ _ _ h => h) (by rfl) ?_ hHeld ?_
  rotate_left
  · intro w hSw
    try dsimp only at hSw
    go_simp <;> with_reducible rfl
  try simp only [Act.put, List.setIfInBounds_toArray, List.set_cons_zero, List.set_cons_succ]
  rw [← HTE.out]
  have hB1 := iter_below w.drew t 0
  refine wpAnyH_ready (rs := [9]) (by kernel_rfl) (by simp) ?_
  refine AllReadyH.cons rfl (fun K hK => ?_) AllReadyH.nil
  go_simp
  refine hK.out _ _ (OK.out _ (below_then HBW.out.drew HBW.out.drew.size hB1)) (fun hHeld => ?_)
  clear hK K
  refine wpAnyH_done (by kernel_rfl) ?_ _
  clear hB1 OK HBW
  go_wp2_with fail
  go_loopw [2] (fun f wr => ∃ (rem : Bool) (pos : Nat), f = .bool rem ∧ wr = w.drew.iter t pos ∧ pos ≤ t.size ∧ skipR (t.data.toList.drop pos) rem = skipR t.data.toList false) (fun _ wr => t.size - wr.iterPos w.heap.size)
  case atStart => exact ⟨false, 0, rfl, rfl, Nat.zero_le _, by simp⟩
  case round =>
    obtain ⟨rem, pos, rfl, rfl, hp, hsk⟩ := hrel
    have HSK := Aside0.mk hsk
    clear hsk
    by_cases hlt : pos < t.size
    · obtain ⟨r, wd, hr, hw, h1, h2, h3, h4, hstep⟩ := skip_round t pos hlt rem
      have hnx : ∀ ty, (Instr.next (.pointer (some ⟨w.heap.size, 0, none⟩)) true ty).run Try.prog (w.drew.iter t pos) = .ok (.tuple #[.bool true, .int .i64 pos, .int .i32 r]) (w.drew.iter t (pos + wd)) := fun ty => by have := run_next_any (P := Try.prog) w.drew t pos ty hlt; rw [hr, hw] at this; exact this
      have HST := Aside0.mk hstep
      clear hstep hr hw
      have HR2 := Aside0.mk (HR.out.after (iter_below w.drew t (pos + wd)))
      clear hHeld
      by_cases c10 : r = 10
      · have hs2 := HST.out
        rw [if_pos c10, HSK.out] at hs2
        have HS2 := Aside0.mk hs2.symm
        subst c10
        clear hs2 HST HR2
        go_wp2_with fail
        go_roundw
        case rel => exact ⟨false, pos + wd, rfl, rfl, h2, HS2.out⟩
        case measure => simp only [show w.heap.size = w.drew.heap.size from rfl, World.iterPos_iter]; omega
      have d10 : (r == 10) = false := by simp [c10]
      cases rem with
      | true =>
        have hs2 := HST.out
        rw [if_neg c10, if_pos rfl, HSK.out] at hs2
        have HS2 := Aside0.mk hs2.symm
        clear hs2 HST HR2 c10
        go_wp2_with fail
        go_roundw
        case rel => exact ⟨true, pos + wd, rfl, rfl, h2, HS2.out⟩
        case measure => simp only [show w.heap.size = w.drew.heap.size from rfl, World.iterPos_iter]; omega
      | false =>
        by_cases c32 : r = 32
        · have hs2 := HST.out
          rw [if_neg c10, if_neg (by simp), if_pos (.inl c32), HSK.out] at hs2
          have HS2 := Aside0.mk hs2.symm
          subst c32
          clear hs2 HST HR2 c10 d10
          go_wp2_with fail
          go_roundw
          case rel => exact ⟨false, pos + wd, rfl, rfl, h2, HS2.out⟩
          case measure => simp only [show w.heap.size = w.drew.heap.size from rfl, World.iterPos_iter]; omega
        have d32 : (r == 32) = false := by simp [c32]
        by_cases c9 : r = 9
        · have hs2 := HST.out
          rw [if_neg c10, if_neg (by simp), if_pos (.inr (.inl c9)), HSK.out] at hs2
          have HS2 := Aside0.mk hs2.symm
          subst c9
          clear hs2 HST HR2 c10 d10 c32 d32
          go_wp2_with fail
          go_roundw
          case rel => exact ⟨false, pos + wd, rfl, rfl, h2, HS2.out⟩
          case measure => simp only [show w.heap.size = w.drew.heap.size from rfl, World.iterPos_iter]; omega
        have d9 : (r == 9) = false := by simp [c9]
        by_cases c13 : r = 13
        · have hs2 := HST.out
          rw [if_neg c10, if_neg (by simp), if_pos (.inr (.inr c13)), HSK.out] at hs2
          have HS2 := Aside0.mk hs2.symm
          subst c13
          clear hs2 HST HR2 c10 d10 c32 d32 c9 d9
          go_wp2_with fail
          go_roundw
          case rel => exact ⟨false, pos + wd, rfl, rfl, h2, HS2.out⟩
          case measure => simp only [show w.heap.size = w.drew.heap.size from rfl, World.iterPos_iter]; omega
        have d13 : (r == 13) = false := by simp [c13]
        have hno : ¬ (r = 32 ∨ r = 9 ∨ r = 13) := fun h => by rcases h with h | h | h <;> contradiction
        by_cases c35 : r = 35
        · have hs2 := HST.out
          rw [if_neg c10, if_neg (by simp), if_neg hno, if_pos c35, HSK.out] at hs2
          have HS2 := Aside0.mk hs2.symm
          subst c35
          clear hs2 HST HR2 c10 d10 c32 d32 c9 d9 c13 d13 hno
          go_wp2_with fail
          go_roundw
          case rel => exact ⟨true, pos + wd, rfl, rfl, h2, HS2.out⟩
          case measure => simp only [show w.heap.size = w.drew.heap.size from rfl, World.iterPos_iter]; omega
        have d35 : (r == 35) = false := by simp [c35]
        have hs2 := HST.out
        rw [if_neg c10, if_neg (by simp), if_neg hno, if_neg c35, HSK.out] at hs2
        have HE : Aside0 (skipTo s a = a + pos) := .mk (by
          unfold skipTo
          rw [← HT.out, hs2, List.length_drop]
          have h8 := HZ.out
          have h9 : t.data.toList.length = t.size := by simp
          omega)
        have HF := Aside0.mk (HR2.out.move (a + pos))
        have e1 := (blk_cell HR2.out.blk 1).trans rfl
        have z1 := blk_frozen HR2.out.blk 1
        simp at e1
        have hz := HZ.out
        clear hs2 HST HR2 c10 c32 c9 c13 hno c35
        go_wp2_with fail
        go_end0
        refine ⟨rfl, ?_⟩
        rw [HE.out]
        exact HF.out
    · obtain rfl : pos = t.size := by omega
      have hnx : ∀ ty, (Instr.next (.pointer (some ⟨w.heap.size, 0, none⟩)) true ty).run Try.prog (w.drew.iter t t.size) = .ok (.tuple #[.bool false]) (w.drew.iter t t.size) := fun ty => run_next_end w.drew t t.size ty hlt
      have HR2 := Aside0.mk (HR.out.after (iter_below w.drew t t.size))
      have HF := Aside0.mk (HR2.out.move s.size)
      have hsk := HSK.out
      have hd : t.data.toList.drop t.size = [] := List.drop_eq_nil_of_le (by simp)
      rw [hd] at hsk
      have HE : Aside0 (skipTo s a = s.size) := .mk (by
        unfold skipTo
        rw [← HT.out, ← hsk]
        cases rem <;> rfl)
      have e0 := (blk_cell HR2.out.blk 0).trans rfl
      have e1 := (blk_cell HR2.out.blk 1).trans rfl
      have z1 := blk_frozen HR2.out.blk 1
      simp at e0 e1
      clear hsk hd hHeld hlt HR2
      go_wp2_with fail
      go_end0
      refine ⟨rfl, ?_⟩
      rw [HE.out]
      exact HF.out
end Go.Proofs.Ytjmpejbciniceaa.X
/- The contracts of scan's methods put and fault. -/
namespace Go.Proofs.Ytjmpejbciniceaa.X
open Go.RowKit Go.Proofs.YtjmpejbciniceaaW.PrintWords Go.Proofs.YtjmpejbciniceaaW.PrintLast Go.Proofs.YtjmpejbciniceaaW.PrintMore
set_option linter.unusedVariables false
set_option linter.unusedSimpArgs false

theorem info29 : (Try.prog.info? 29).map (fun i => (i.zero, i.size, i.bytes)) = some (some (.agg #[.int .i8 0, .string ⟨#[]⟩, .int .i64 0, .int .i64 0]), 4, 40) := by kernel_rfl
/-- A fault in memory. -/
def FaultAt (w : World) (p : Nat) (e : Int) (a : Int) (s : ByteArray) : Prop := w.heap[p]? = some (.cells #[.int .i64 e, .int .i64 a, .string s] 51 (0, 0))
def FaultPost (w : World) (e a : Int) (s : ByteArray) (en : Ending) (w' : World) : Prop := ∃ p, en = .returned (.pointer (some ⟨p, 0, none⟩)) ∧ FaultAt w' p e a s ∧ w.heap.size ≤ p ∧ Below w.heap.size w w'
set_option maxRecDepth 100000 in
set_option maxHeartbeats 1600000 in
theorem fault_calls {w0 : World} {g : Nat} {s : ByteArray} {a : Nat} {v : Value} {ws : List S29} {w : World} (h : Rd w0 g s a v ws w) (e : Int) (t : ByteArray) :
    Calls Try.prog 34 #[.pointer (some ⟨g, 0, none⟩), .int .i64 e, .string t] w (FaultPost w e a t) := by
  have e1 := (blk_cell h.blk 1).trans rfl
  simp at e1
  clear h
  go_enter Try.func34, Try.ntmps34
  go_wp2_with fail
  go_ret
  exact ⟨w.heap.size, rfl, heap_alloc_new w _, Nat.le_refl _, (Below.refl _ _).alloc (Nat.le_refl _) _⟩
theorem Rd.push {w0 : World} {g : Nat} {s : ByteArray} {a : Nat} {v v1 : Value} {ws ws' : List S29} {w w1 : World} (h : Rd w0 g s a v ws w) (hg : w.grownBy w1 v.ownBlock) (hb : Below w0.heap.size w0 w1) (hr : k29.R 29 w1 w0.heap.size (fun b => b ≠ g) v1 ws') :
    w1.heap[g]? = some (.cells #[.string s, .int .i64 (a : Int), v] 54 (0, 0)) ∧ Rd w0 g s a v1 ws' (w1.setCell ⟨g, 2, none⟩ v1) := by
  have hne : some g ≠ v.ownBlock := fun e => (h.row.1 g e.symm) rfl
  have h1 := blk_grown h.blk hg hne
  exact ⟨h1, blk_put h1 2 v1 (by simp), Kd.R_far hr (p := ⟨g, 2, none⟩) (fun b hk => hk) _, h.low, hb.setCell (p := ⟨g, 2, none⟩) h.low _⟩
def PutPost (w0 : World) (g : Nat) (s : ByteArray) (a : Nat) (ws : List S29) (en : Ending) (w' : World) : Prop := en = .returned (.pointer none) ∧ ∃ v, Rd w0 g s a v ws w'
set_option maxRecDepth 100000 in
set_option maxHeartbeats 1600000 in
theorem put_calls {w0 : World} {g : Nat} {s : ByteArray} {a : Nat} {v : Value} {ws : List S29} {w : World} (h : Rd w0 g s a v ws w) (k : Int) (t : ByteArray) (n : Int) (hl : ws.length ≤ 100000) (ha : a ≤ 100000) (ht : t.size ≤ 100000) :
    Calls Try.prog 36 #[.pointer (some ⟨g, 0, none⟩), .int .i8 k, .string t, .int .i64 n] w (PutPost w0 g s (a + t.size) (ws ++ [⟨k, t, n, a⟩])) := by
  have HR := Aside0.mk h
  clear h
  go_enter Try.func36, Try.ntmps36
  go_wp2_with fail
  have OK := Aside0.mk (fun {v' : Value} (w' : World) (h : w'.heap[g]? = some (.cells #[.string s, .int .i64 (a : Int), v'] 54 (0, 0))) => ((blk_cell h 1).trans rfl : w'.cell? ⟨g, 1, none⟩ = some (.int .i64 (a : Int))))
  refine wp_region_held_drew (S := fun w' => w'.cell? ⟨g, 1, none⟩ = some (.int .i64 (a : Int))) (by kernel_rfl) (OK.out _ (blk_below HR.out.blk (Below.refl _ _).drew)) (fun hHeld => ?_)
  replace HR := Aside0.mk (HR.out.after (Below.refl _ _).drew)
  have HX := Aside0.mk HR.out.blk
  have HG := Aside0.mk (blk_lt HR.out.blk)
  generalize w.drew = wd at *
  refine takeH (d := some 9) (v := ?_) 0 rfl rfl (by kernel_rfl) (by kernel_rfl) (by kernel_rfl) (fun _ _ _ h => h) (by rfl) ?_ hHeld ?_
  rotate_left
  · intro w hSw
    try dsimp only at hSw
    go_simp <;> with_reducible rfl
  try simp only [Act.put, List.setIfInBounds_toArray, List.set_cons_zero, List.set_cons_succ]
  refine takeH (d := some 10) (v := ?_) 1 rfl rfl (by kernel_rfl) (by kernel_rfl) (by kernel_rfl) (fun _ _ _ h => h) (by rfl) ?_ hHeld ?_
  rotate_left
  · intro w hSw
    try dsimp only at hSw
    go_simp <;> with_reducible rfl
  try simp only [Act.put, List.setIfInBounds_toArray, List.set_cons_zero, List.set_cons_succ]
  refine takeH (d := some 11) (v := ?_) 2 rfl rfl (by kernel_rfl) (by kernel_rfl) (by kernel_rfl) (fun _ _ _ h => h) (by rfl) ?_ hHeld ?_
  rotate_left
  · intro w hSw
    try dsimp only at hSw
    go_simp <;> with_reducible rfl
  try simp only [Act.put, List.setIfInBounds_toArray, List.set_cons_zero, List.set_cons_succ]
  refine takeH (d := some 12) (v := ?_) 3 rfl rfl (by kernel_rfl) (by kernel_rfl) (by kernel_rfl) (fun _ _ _ h => h) (by rfl) ?_ hHeld ?_
  rotate_left
  · intro w hSw
    try dsimp only at hSw
    go_simp <;> with_reducible rfl
  try simp only [Act.put, List.setIfInBounds_toArray, List.set_cons_zero, List.set_cons_succ]
  refine takeH (d := some 14) (v := ?_) 5 rfl rfl (by kernel_rfl) (by kernel_rfl) (by kernel_rfl) (fun _ _ _ h => h) (by rfl) ?_ hHeld ?_
  rotate_left
  · intro w hSw
    try dsimp only at hSw
    go_simp <;> with_reducible rfl
  try simp only [Act.put, List.setIfInBounds_toArray, List.set_cons_zero, List.set_cons_succ]
  refine takeH (d := some 15) (v := ?_) 6 rfl rfl (by kernel_rfl) (by kernel_rfl) (by kernel_rfl) (fun _ _ _ h => h) (by rfl) ?_ hHeld ?_
  rotate_left
  · intro w hSw
    try dsimp only at hSw
    go_simp <;> with_reducible rfl
  try simp only [Act.put, List.setIfInBounds_toArray, List.set_cons_zero, List.set_cons_succ]
  refine takeH (d := some 16) (v := ?_) 7 rfl rfl (by kernel_rfl) (by kernel_rfl) (by kernel_rfl) (fun _ _ _ h => h) (by rfl) ?_ hHeld ?_
  rotate_left
  · intro w hSw
    try dsimp only at hSw
    go_simp <;> with_reducible rfl
  try simp only [Act.put, List.setIfInBounds_toArray, List.set_cons_zero, List.set_cons_succ]
  refine takeH (d := some 17) (v := ?_) 8 rfl rfl (by kernel_rfl) (by kernel_rfl) (by kernel_rfl) (fun _ _ _ h => h) (by rfl) ?_ hHeld ?_
  rotate_left
  · intro w hSw
    try dsimp only at hSw
    go_simp <;> with_reducible rfl
  try simp only [Act.put, List.setIfInBounds_toArray, List.set_cons_zero, List.set_cons_succ]
  refine takeH (d := some 18) (v := ?_) 9 rfl rfl (by kernel_rfl) (by kernel_rfl) (by kernel_rfl) (fun _ _ _ h => h) (by rfl) ?_ hHeld ?_
  rotate_left
  · intro w hSw
    try dsimp only at hSw
    go_simp <;> with_reducible rfl
  try simp only [Act.put, List.setIfInBounds_toArray, List.set_cons_zero, List.set_cons_succ]
  refine takeH (d := some 19) (v := ?_) 10 rfl rfl (by kernel_rfl) (by kernel_rfl) (by kernel_rfl) (fun _ _ _ h => h) (by rfl) ?_ hHeld ?_
  rotate_left
  · intro w hSw
    try dsimp only at hSw
    go_simp <;> with_reducible rfl
  try simp only [Act.put, List.setIfInBounds_toArray, List.set_cons_zero, List.set_cons_succ]
  refine takeH (d := some 20) (v := ?_) 11 rfl rfl (by kernel_rfl) (by kernel_rfl) (by kernel_rfl) (fun _ _ _ h => h) (by rfl) ?_ hHeld ?_
  rotate_left
  · intro w hSw
    try dsimp only at hSw
    go_simp <;> with_reducible rfl
  try simp only [Act.put, List.setIfInBounds_toArray, List.set_cons_zero, List.set_cons_succ]
  refine takeH (d := some 21) (v := ?_) 12 rfl rfl (by kernel_rfl) (by kernel_rfl) (by kernel_rfl) (fun _ _ _ h => h) (by rfl) ?_ hHeld ?_
  rotate_left
  · intro w hSw
    try dsimp only at hSw
    go_simp <;> with_reducible rfl
  try simp only [Act.put, List.setIfInBounds_toArray, List.set_cons_zero, List.set_cons_succ]
  refine wpAnyH_ready (rs := [4, 13]) (by kernel_rfl) (by simp) ?_
  refine AllReadyH.cons rfl (fun K hK => ?_) (AllReadyH.cons rfl (fun K hK => ?_) AllReadyH.nil)
  · have e2 := (blk_cell HX.out 2).trans rfl
    simp at e2
    go_simp
    clear e2
    refine hK.out _ _ hHeld (fun hHeld => ?_)
    clear hK K
    try simp only [Act.put, List.setIfInBounds_toArray, List.set_cons_zero, List.set_cons_succ]
    refine wpAnyH_ready (rs := [13]) (by kernel_rfl) (by simp) ?_
    refine AllReadyH.cons rfl (fun K hK => ?_) AllReadyH.nil
    go_simp
    replace HX := Aside0.mk (blk_alloc HX.out (.cells #[.int .i8 k, .string t, .int .i64 n, .int .i64 (a : Int)] 29))
    refine hK.out _ _ (OK.out _ HX.out) (fun hHeld => ?_)
    clear hK K
    try simp only [Act.put, List.setIfInBounds_toArray, List.set_cons_zero, List.set_cons_succ]
    refine wpAnyH_ready (rs := [14]) (by kernel_rfl) (by simp) ?_
    refine AllReadyH.cons rfl (fun K hK => ?_) AllReadyH.nil
    refine Kd.R_append_step k29 w0.heap.size (by rfl) (.tmp 13) (.tmp 22) 22 29 (.agg #[.int .i8 0, .string ⟨#[]⟩, .int .i64 0, .int .i64 0]) 40 rfl Try.underlying22 info29 rfl (by decide) (by decide) v ws ⟨k, t, n, a⟩ [.int .i8 k, .string t, .int .i64 n, .int .i64 (a : Int)] (fun b => b ≠ g) (fun _ => False) (by rfl) (by rfl) (k29_mkM _ _ _ ⟨k, t, n, a⟩) (fun b hb => hb.elim) (fun b hb => by have := HG.out; omega) HR.out.row HR.out.below HR.out.below.size (by omega) ?_
    intro v4 w1 hr4 hb4 hg4 hat4
    obtain ⟨A4, c4, e4⟩ := Kd.R_slice hr4
    obtain ⟨n4, hn4⟩ : ∃ m, m = (ws ++ [(⟨k, t, n, a⟩ : S29)]).length := ⟨_, rfl⟩
    rw [← hn4] at e4
    subst e4
    clear hn4
    have hP := HR.out.push hg4 hb4 hr4
    have e2 := (blk_cell hP.1 2).trans rfl
    have z2 := blk_frozen hP.1 2
    simp at e2
    refine hK.out _ _ (OK.out _ hP.1) (fun hHeld => ?_)
    clear hK K
    have HJ := Aside0.mk hP.2
    clear hr4 hb4 hg4 hat4 hP HX
    try simp only [Act.put, List.setIfInBounds_toArray, List.set_cons_zero, List.set_cons_succ]
    refine takeH (d := some 24) (v := ?_) 15 rfl rfl (by kernel_rfl) (by kernel_rfl) (by kernel_rfl) (fun _ _ _ h => h) (by rfl) ?_ hHeld ?_
    rotate_left
    · intro w hSw
      try dsimp only at hSw
      go_simp <;> with_reducible rfl
    try simp only [Act.put, List.setIfInBounds_toArray, List.set_cons_zero, List.set_cons_succ]
    refine takeH (d := some 25) (v := ?_) 16 rfl rfl (by kernel_rfl) (by kernel_rfl) (by kernel_rfl) (fun _ _ _ h => h) (by rfl) ?_ hHeld ?_
    rotate_left
    · intro w hSw
      try dsimp only at hSw
      go_simp <;> with_reducible rfl
    try simp only [Act.put, List.setIfInBounds_toArray, List.set_cons_zero, List.set_cons_succ]
    refine wpAnyH_ready (rs := [17]) (by kernel_rfl) (by simp) ?_
    refine AllReadyH.cons rfl (fun K hK => ?_) AllReadyH.nil
    go_simp
    clear e2 z2
    refine hK.out _ _ (OK.out _ HJ.out.blk) (fun hHeld => ?_)
    clear hK K
    refine wpAnyH_done (by kernel_rfl) ?_ _
    have HF := Aside0.mk (HJ.out.move (a + t.size))
    have e1 := (blk_cell HJ.out.blk 1).trans rfl
    have z1 := blk_frozen HJ.out.blk 1
    simp at e1
    clear OK hHeld
    go_wp2_with fail
    go_ret
    exact ⟨rfl, _, HF.out⟩
  · go_simp
    replace HX := Aside0.mk (blk_alloc HX.out (.cells #[.int .i8 k, .string t, .int .i64 n, .int .i64 (a : Int)] 29))
    refine hK.out _ _ (OK.out _ HX.out) (fun hHeld => ?_)
    clear hK K
    try simp only [Act.put, List.setIfInBounds_toArray, List.set_cons_zero, List.set_cons_succ]
    refine wpAnyH_ready (rs := [4]) (by kernel_rfl) (by simp) ?_
    refine AllReadyH.cons rfl (fun K hK => ?_) AllReadyH.nil
    have e2 := (blk_cell HX.out 2).trans rfl
    simp at e2
    go_simp
    clear e2
    refine hK.out _ _ hHeld (fun hHeld => ?_)
    clear hK K
    try simp only [Act.put, List.setIfInBounds_toArray, List.set_cons_zero, List.set_cons_succ]
    refine wpAnyH_ready (rs := [14]) (by kernel_rfl) (by simp) ?_
    refine AllReadyH.cons rfl (fun K hK => ?_) AllReadyH.nil
    refine Kd.R_append_step k29 w0.heap.size (by rfl) (.tmp 13) (.tmp 22) 22 29 (.agg #[.int .i8 0, .string ⟨#[]⟩, .int .i64 0, .int .i64 0]) 40 rfl Try.underlying22 info29 rfl (by decide) (by decide) v ws ⟨k, t, n, a⟩ [.int .i8 k, .string t, .int .i64 n, .int .i64 (a : Int)] (fun b => b ≠ g) (fun _ => False) (by rfl) (by rfl) (k29_mkM _ _ _ ⟨k, t, n, a⟩) (fun b hb => hb.elim) (fun b hb => by have := HG.out; omega) HR.out.row HR.out.below HR.out.below.size (by omega) ?_
    intro v4 w1 hr4 hb4 hg4 hat4
    obtain ⟨A4, c4, e4⟩ := Kd.R_slice hr4
    obtain ⟨n4, hn4⟩ : ∃ m, m = (ws ++ [(⟨k, t, n, a⟩ : S29)]).length := ⟨_, rfl⟩
    rw [← hn4] at e4
    subst e4
    clear hn4
    have hP := HR.out.push hg4 hb4 hr4
    have e2 := (blk_cell hP.1 2).trans rfl
    have z2 := blk_frozen hP.1 2
    simp at e2
    refine hK.out _ _ (OK.out _ hP.1) (fun hHeld => ?_)
    clear hK K
    have HJ := Aside0.mk hP.2
    clear hr4 hb4 hg4 hat4 hP HX
    try simp only [Act.put, List.setIfInBounds_toArray, List.set_cons_zero, List.set_cons_succ]
    refine takeH (d := some 24) (v := ?_) 15 rfl rfl (by kernel_rfl) (by kernel_rfl) (by kernel_rfl) (fun _ _ _ h => h) (by rfl) ?_ hHeld ?_
    rotate_left
    · intro w hSw
      try dsimp only at hSw
      go_simp <;> with_reducible rfl
    try simp only [Act.put, List.setIfInBounds_toArray, List.set_cons_zero, List.set_cons_succ]
    refine takeH (d := some 25) (v := ?_) 16 rfl rfl (by kernel_rfl) (by kernel_rfl) (by kernel_rfl) (fun _ _ _ h => h) (by rfl) ?_ hHeld ?_
    rotate_left
    · intro w hSw
      try dsimp only at hSw
      go_simp <;> with_reducible rfl
    try simp only [Act.put, List.setIfInBounds_toArray, List.set_cons_zero, List.set_cons_succ]
    refine wpAnyH_ready (rs := [17]) (by kernel_rfl) (by simp) ?_
    refine AllReadyH.cons rfl (fun K hK => ?_) AllReadyH.nil
    go_simp
    clear e2 z2
    refine hK.out _ _ (OK.out _ HJ.out.blk) (fun hHeld => ?_)
    clear hK K
    refine wpAnyH_done (by kernel_rfl) ?_ _
    have HF := Aside0.mk (HJ.out.move (a + t.size))
    have e1 := (blk_cell HJ.out.blk 1).trans rfl
    have z1 := blk_frozen HJ.out.blk 1
    simp at e1
    clear OK hHeld
    go_wp2_with fail
    go_ret
    exact ⟨rfl, _, HF.out⟩
end Go.Proofs.Ytjmpejbciniceaa.X
/- The contract of scan's method span. -/
namespace Go.Proofs.Ytjmpejbciniceaa.X
open Go.RowKit Go.Proofs.YtjmpejbciniceaaW.PrintWords Go.Proofs.YtjmpejbciniceaaW.PrintLast Go.Proofs.YtjmpejbciniceaaW.PrintMore
set_option linter.unusedVariables false
set_option linter.unusedSimpArgs false

theorem digit_is (c : UInt8) : scan_digit.f (c.toNat : Int) = some (digU c) := by
  unfold scan_digit.f digU
  have e1 : ((c.toNat : Int) ≥ 48) ↔ 48 ≤ c := by rw [UInt8.le_iff_toNat_le]; show (c.toNat : Int) ≥ 48 ↔ 48 ≤ c.toNat; omega
  have e2 : ((c.toNat : Int) ≤ 57) ↔ c ≤ 57 := by rw [UInt8.le_iff_toNat_le]; show (c.toNat : Int) ≤ 57 ↔ c.toNat ≤ 57; omega
  by_cases h : 48 ≤ c
  · rw [if_pos (e1.2 h)]; simp [h, e2]
  · rw [if_neg (fun q => h (e1.1 q))]; simp [h]
theorem letter_is (c : UInt8) : scan_letter.f (c.toNat : Int) = some (letU c) := by
  unfold scan_letter.f letU
  have le : ∀ a b : UInt8, a ≤ b ↔ (a.toNat : Int) ≤ (b.toNat : Int) := fun a b => by rw [UInt8.le_iff_toNat_le]; omega
  have eq : (c == 95) = decide ((c.toNat : Int) = 95) := by
    rw [Bool.eq_iff_iff, beq_iff_eq, decide_eq_true_eq, ← UInt8.toNat_inj]
    show c.toNat = 95 ↔ _
    omega
  rw [eq]
  simp only [le]
  show _ = some (decide ((65 : Int) ≤ c.toNat) && decide ((c.toNat : Int) ≤ 90) || decide ((97 : Int) ≤ c.toNat) && decide ((c.toNat : Int) ≤ 122) || decide ((c.toNat : Int) = 95))
  by_cases h1 : (65 : Int) ≤ c.toNat <;> by_cases h2 : (c.toNat : Int) ≤ 90 <;> by_cases h3 : (97 : Int) ≤ c.toNat <;> by_cases h4 : (c.toNat : Int) ≤ 122 <;> by_cases h5 : (c.toNat : Int) = 95 <;> simp [h1, h2, h3, h4, h5] <;> omega
theorem digit_calls (c : UInt8) (w : World) : Calls Try.prog 37 #[.int .u8 (c.toNat : Int)] w fun e w' => e = .returned (.bool (digU c)) ∧ Below w.heap.size w w' := (scan_digit.calls _ _ w (digit_is c)).mono fun e w' h => ⟨h.1, h.2.below⟩
theorem letter_calls (c : UInt8) (w : World) : Calls Try.prog 32 #[.int .u8 (c.toNat : Int)] w fun e w' => e = .returned (.bool (letU c)) ∧ Below w.heap.size w w' := (scan_letter.calls _ _ w (letter_is c)).mono fun e w' h => ⟨h.1, h.2.below⟩
def spanP (b : Bool) (c : UInt8) : Bool := digU c || (b && letU c)
def spanN (s : ByteArray) (a : Nat) (b : Bool) : Nat := ((s.data.toList.drop a).takeWhile (spanP b)).length
set_option maxRecDepth 100000 in
set_option maxHeartbeats 1600000 in
theorem span_calls {w0 : World} {g : Nat} {s : ByteArray} {a : Nat} {v : Value} {ws : List S29} {w : World} (h : Rd w0 g s a v ws w) (b : Bool) (ha : a ≤ s.size) (hs : s.size ≤ 65536) :
    Calls Try.prog 33 #[.pointer (some ⟨g, 0, none⟩), .bool b] w fun e w' => e = .returned (.string (s.extract a (a + spanN s a b))) ∧ Below w.heap.size w w' := by
  have HR := Aside0.mk h
  clear h
  go_enter Try.func33, Try.ntmps33
  have e0 := (blk_cell HR.out.blk 0).trans rfl
  have e1 := (blk_cell HR.out.blk 1).trans rfl
  simp at e0 e1
  go_wp2_with fail
  go_loopw [5] (fun i wr => ∃ p : Nat, i = .int .i64 p ∧ a ≤ p ∧ p ≤ s.size ∧ spanN s a b = (p - a) + spanN s p b ∧ Below w.heap.size w wr) (fun i _ => s.size - (intOf i).toNat)
  case atStart => exact ⟨a, rfl, Nat.le_refl _, ha, by omega, Below.refl _ _⟩
  case round =>
    obtain ⟨p, rfl, h1, h2, h3, hB⟩ := hrel
    have H3 := Aside0.mk h3
    have HB := Aside0.mk hB
    have HR0 := HR
    replace HR := Aside0.mk (HR.out.after hB)
    clear h3 hB e0 e1
    have e0 := (blk_cell HR.out.blk 0).trans rfl
    have e1 := (blk_cell HR.out.blk 1).trans rfl
    simp at e0 e1
    by_cases hlt : p < s.size
    · go_wp2_with fail
      refine (digit_calls _ _).mono ?_
      rintro e w2 ⟨rfl, hB2⟩
      replace HR := Aside0.mk (HR.out.after hB2)
      replace HB := Aside0.mk (below_then HB.out HB.out.size hB2)
      clear hB2 e0 e1
      have hd := drop_at s p hlt
      have HN := Aside0.mk (show spanN s p b = if spanP b s[p] then spanN s (p + 1) b + 1 else 0 from by
        unfold spanN
        rw [hd, List.takeWhile_cons]
        split <;> simp)
      clear hd
      have e0 := (blk_cell HR.out.blk 0).trans rfl
      have e1 := (blk_cell HR.out.blk 1).trans rfl
      simp at e0 e1
      cases hg : digU s[p] with
      | true =>
        have hq := HN.out
        rw [if_pos (by simp [spanP, hg])] at hq
        have HQ := Aside0.mk hq
        clear hq hg
        go_wp2_with fail
        go_roundw
        case rel => exact ⟨p + 1, by go_num, by omega, by omega, by have := H3.out; have := HQ.out; omega, HB.out⟩
        case measure => simp [intOf]; omega
      | false =>
        cases b with
        | false =>
          have hq := HN.out
          rw [if_neg (by simp [spanP, hg])] at hq
          have HQ := Aside0.mk hq
          clear hq hg
          go_wp2_with fail
          have HE : Aside0 (a + spanN s a false = p) := .mk (by have := H3.out; have := HQ.out; omega)
          refine wp_region_held_drew (S := fun w' => w'.cell? ⟨g, 0, none⟩ = some (.string s) ∧ w'.cell? ⟨g, 1, none⟩ = some (.int .i64 (a : Int))) (by kernel_rfl) ⟨e0, e1⟩ (fun hHeld => ?_)
          clear e0 e1
          refine takeH (d := some 40) (v := ?_) 0 rfl rfl (by kernel_rfl) (by kernel_rfl) (by kernel_rfl) (fun _ _ _ h => h) (by rfl) ?_ hHeld ?_
          rotate_left
          · intro w hSw
            try dsimp only at hSw
            go_simp <;> with_reducible rfl
          try simp only [Act.put, List.setIfInBounds_toArray, List.set_cons_zero, List.set_cons_succ]
          refine takeH (d := some 41) (v := ?_) 1 rfl rfl (by kernel_rfl) (by kernel_rfl) (by kernel_rfl) (fun _ _ _ h => h) (by rfl) ?_ hHeld ?_
          rotate_left
          · intro w hSw
            try dsimp only at hSw
            go_simp <;> with_reducible rfl
          try simp only [Act.put, List.setIfInBounds_toArray, List.set_cons_zero, List.set_cons_succ]
          refine takeH (d := some 42) (v := ?_) 2 rfl rfl (by kernel_rfl) (by kernel_rfl) (by kernel_rfl) (fun _ _ _ h => h) (by rfl) ?_ hHeld ?_
          rotate_left
          · intro w hSw
            try dsimp only at hSw
            go_simp <;> with_reducible rfl
          try simp only [Act.put, List.setIfInBounds_toArray, List.set_cons_zero, List.set_cons_succ]
          refine takeH (d := some 43) (v := ?_) 3 rfl rfl (by kernel_rfl) (by kernel_rfl) (by kernel_rfl) (fun _ _ _ h => h) (by rfl) ?_ hHeld ?_
          rotate_left
          · intro w hSw
            try dsimp only at hSw
            go_simp <;> with_reducible rfl
          try simp only [Act.put, List.setIfInBounds_toArray, List.set_cons_zero, List.set_cons_succ]
          refine takeH (d := some 44) (v := ?_) 4 rfl rfl (by kernel_rfl) (by kernel_rfl) (by kernel_rfl) (fun _ _ _ h => h) (by rfl) ?_ hHeld ?_
          rotate_left
          · intro w hSw
            try dsimp only at hSw
            go_simp <;> with_reducible rfl
          try simp only [Act.put, List.setIfInBounds_toArray, List.set_cons_zero, List.set_cons_succ]
          refine takeH (d := some 45) (v := ?_) 5 rfl rfl (by kernel_rfl) (by kernel_rfl) (by kernel_rfl) (fun _ _ _ h => h) (by rfl) ?_ hHeld ?_
          rotate_left
          · intro w hSw
            try dsimp only at hSw
            go_simp <;> with_reducible rfl
          try simp only [Act.put, List.setIfInBounds_toArray, List.set_cons_zero, List.set_cons_succ]
          refine takeH (d := some 46) (v := ?_) 6 rfl rfl (by kernel_rfl) (by kernel_rfl) (by kernel_rfl) (fun _ _ _ h => h) (by rfl) ?_ hHeld ?_
          rotate_left
          · intro w hSw
            try dsimp only at hSw
            go_simp <;> with_reducible rfl
          try simp only [Act.put, List.setIfInBounds_toArray, List.set_cons_zero, List.set_cons_succ]
          refine takeH (d := some 47) (v := ?_) 7 rfl rfl (by kernel_rfl) (by kernel_rfl) (by kernel_rfl) (fun _ _ _ h => h) (by rfl) ?_ hHeld ?_
          rotate_left
          · intro w hSw
            try dsimp only at hSw
            go_simp <;> with_reducible rfl
          try simp only [Act.put, List.setIfInBounds_toArray, List.set_cons_zero, List.set_cons_succ]
          refine takeH (d := some 48) (v := ?_) 8 rfl rfl (by kernel_rfl) (by kernel_rfl) (by kernel_rfl) (fun _ _ _ h => h) (by rfl) ?_ hHeld ?_
          rotate_left
          · intro w hSw
            try dsimp only at hSw
            go_simp <;> with_reducible rfl
          try simp only [Act.put, List.setIfInBounds_toArray, List.set_cons_zero, List.set_cons_succ]
          refine takeH (d := some 49) (v := ?_) 9 rfl rfl (by kernel_rfl) (by kernel_rfl) (by kernel_rfl) (fun _ _ _ h => h) (by rfl) ?_ hHeld ?_
          rotate_left
          · intro w hSw
            try dsimp only at hSw
            go_simp <;> with_reducible rfl
          try simp only [Act.put, List.setIfInBounds_toArray, List.set_cons_zero, List.set_cons_succ]
          refine takeH (d := some 4) (v := ?_) 10 rfl rfl (by kernel_rfl) (by kernel_rfl) (by kernel_rfl) (fun _ _ _ h => h) (by rfl) ?_ hHeld ?_
          rotate_left
          · intro w hSw
            try dsimp only at hSw
            go_simp <;> with_reducible rfl
          try simp only [Act.put, List.setIfInBounds_toArray, List.set_cons_zero, List.set_cons_succ]
          refine wpAnyH_done (by kernel_rfl) ?_ _
          go_wp2_with fail
          go_ret
          refine ⟨?_, below_then HB.out HB.out.size (Below.refl _ _).drew⟩
          rw [HE.out]
          rfl
        | true =>
          go_wp2_with fail
          clear e0 e1
          refine (letter_calls _ _).mono ?_
          rintro e w3 ⟨rfl, hB2⟩
          replace HR := Aside0.mk (HR.out.after hB2)
          replace HB := Aside0.mk (below_then HB.out HB.out.size hB2)
          clear hB2
          have e0 := (blk_cell HR.out.blk 0).trans rfl
          have e1 := (blk_cell HR.out.blk 1).trans rfl
          simp at e0 e1
          cases hl : letU s[p] with
          | true =>
            have hq := HN.out
            rw [if_pos (by simp [spanP, hl])] at hq
            have HQ := Aside0.mk hq
            clear hq hg hl
            go_wp2_with fail
            go_roundw
            case rel => exact ⟨p + 1, by go_num, by omega, by omega, by have := H3.out; have := HQ.out; omega, HB.out⟩
            case measure => simp [intOf]; omega
          | false =>
            have hq := HN.out
            rw [if_neg (by simp [spanP, hg, hl])] at hq
            have HQ := Aside0.mk hq
            clear hq hg hl
            go_wp2_with fail
            have HE : Aside0 (a + spanN s a true = p) := .mk (by have := H3.out; have := HQ.out; omega)
            refine wp_region_held_drew (S := fun w' => w'.cell? ⟨g, 0, none⟩ = some (.string s) ∧ w'.cell? ⟨g, 1, none⟩ = some (.int .i64 (a : Int))) (by kernel_rfl) ⟨e0, e1⟩ (fun hHeld => ?_)
            clear e0 e1
            refine takeH (d := some 40) (v := ?_) 0 rfl rfl (by kernel_rfl) (by kernel_rfl) (by kernel_rfl) (fun _ _ _ h => h) (by rfl) ?_ hHeld ?_
            rotate_left
            · intro w hSw
              try dsimp only at hSw
              go_simp <;> with_reducible rfl
            try simp only [Act.put, List.setIfInBounds_toArray, List.set_cons_zero, List.set_cons_succ]
            refine takeH (d := some 41) (v := ?_) 1 rfl rfl (by kernel_rfl) (by kernel_rfl) (by kernel_rfl) (fun _ _ _ h => h) (by rfl) ?_ hHeld ?_
            rotate_left
            · intro w hSw
              try dsimp only at hSw
              go_simp <;> with_reducible rfl
            try simp only [Act.put, List.setIfInBounds_toArray, List.set_cons_zero, List.set_cons_succ]
            refine takeH (d := some 42) (v := ?_) 2 rfl rfl (by kernel_rfl) (by kernel_rfl) (by kernel_rfl) (fun _ _ _ h => h) (by rfl) ?_ hHeld ?_
            rotate_left
            · intro w hSw
              try dsimp only at hSw
              go_simp <;> with_reducible rfl
            try simp only [Act.put, List.setIfInBounds_toArray, List.set_cons_zero, List.set_cons_succ]
            refine takeH (d := some 43) (v := ?_) 3 rfl rfl (by kernel_rfl) (by kernel_rfl) (by kernel_rfl) (fun _ _ _ h => h) (by rfl) ?_ hHeld ?_
            rotate_left
            · intro w hSw
              try dsimp only at hSw
              go_simp <;> with_reducible rfl
            try simp only [Act.put, List.setIfInBounds_toArray, List.set_cons_zero, List.set_cons_succ]
            refine takeH (d := some 44) (v := ?_) 4 rfl rfl (by kernel_rfl) (by kernel_rfl) (by kernel_rfl) (fun _ _ _ h => h) (by rfl) ?_ hHeld ?_
            rotate_left
            · intro w hSw
              try dsimp only at hSw
              go_simp <;> with_reducible rfl
            try simp only [Act.put, List.setIfInBounds_toArray, List.set_cons_zero, List.set_cons_succ]
            refine takeH (d := some 45) (v := ?_) 5 rfl rfl (by kernel_rfl) (by kernel_rfl) (by kernel_rfl) (fun _ _ _ h => h) (by rfl) ?_ hHeld ?_
            rotate_left
            · intro w hSw
              try dsimp only at hSw
              go_simp <;> with_reducible rfl
            try simp only [Act.put, List.setIfInBounds_toArray, List.set_cons_zero, List.set_cons_succ]
            refine takeH (d := some 46) (v := ?_) 6 rfl rfl (by kernel_rfl) (by kernel_rfl) (by kernel_rfl) (fun _ _ _ h => h) (by rfl) ?_ hHeld ?_
            rotate_left
            · intro w hSw
              try dsimp only at hSw
              go_simp <;> with_reducible rfl
            try simp only [Act.put, List.setIfInBounds_toArray, List.set_cons_zero, List.set_cons_succ]
            refine takeH (d := some 47) (v := ?_) 7 rfl rfl (by kernel_rfl) (by kernel_rfl) (by kernel_rfl) (fun _ _ _ h => h) (by rfl) ?_ hHeld ?_
            rotate_left
            · intro w hSw
              try dsimp only at hSw
              go_simp <;> with_reducible rfl
            try simp only [Act.put, List.setIfInBounds_toArray, List.set_cons_zero, List.set_cons_succ]
            refine takeH (d := some 48) (v := ?_) 8 rfl rfl (by kernel_rfl) (by kernel_rfl) (by kernel_rfl) (fun _ _ _ h => h) (by rfl) ?_ hHeld ?_
            rotate_left
            · intro w hSw
              try dsimp only at hSw
              go_simp <;> with_reducible rfl
            try simp only [Act.put, List.setIfInBounds_toArray, List.set_cons_zero, List.set_cons_succ]
            refine takeH (d := some 49) (v := ?_) 9 rfl rfl (by kernel_rfl) (by kernel_rfl) (by kernel_rfl) (fun _ _ _ h => h) (by rfl) ?_ hHeld ?_
            rotate_left
            · intro w hSw
              try dsimp only at hSw
              go_simp <;> with_reducible rfl
            try simp only [Act.put, List.setIfInBounds_toArray, List.set_cons_zero, List.set_cons_succ]
            refine takeH (d := some 4) (v := ?_) 10 rfl rfl (by kernel_rfl) (by kernel_rfl) (by kernel_rfl) (fun _ _ _ h => h) (by rfl) ?_ hHeld ?_
            rotate_left
            · intro w hSw
              try dsimp only at hSw
              go_simp <;> with_reducible rfl
            try simp only [Act.put, List.setIfInBounds_toArray, List.set_cons_zero, List.set_cons_succ]
            refine wpAnyH_done (by kernel_rfl) ?_ _
            go_wp2_with fail
            go_ret
            refine ⟨?_, below_then HB.out HB.out.size (Below.refl _ _).drew⟩
            rw [HE.out]
            rfl
    · obtain rfl : p = s.size := by omega
      have HQ : Aside0 (spanN s s.size b = 0) := .mk (by
        unfold spanN
        rw [List.drop_eq_nil_of_le (by simp)]
        rfl)
      go_wp2_with fail
      have HE : Aside0 (a + spanN s a b = s.size) := .mk (by have := H3.out; have := HQ.out; omega)
      refine wp_region_held_drew (S := fun w' => w'.cell? ⟨g, 0, none⟩ = some (.string s) ∧ w'.cell? ⟨g, 1, none⟩ = some (.int .i64 (a : Int))) (by kernel_rfl) ⟨e0, e1⟩ (fun hHeld => ?_)
      clear e0 e1
      refine takeH (d := some 40) (v := ?_) 0 rfl rfl (by kernel_rfl) (by kernel_rfl) (by kernel_rfl) (fun _ _ _ h => h) (by rfl) ?_ hHeld ?_
      rotate_left
      · intro w hSw
        try dsimp only at hSw
        go_simp <;> with_reducible rfl
      try simp only [Act.put, List.setIfInBounds_toArray, List.set_cons_zero, List.set_cons_succ]
      refine takeH (d := some 41) (v := ?_) 1 rfl rfl (by kernel_rfl) (by kernel_rfl) (by kernel_rfl) (fun _ _ _ h => h) (by rfl) ?_ hHeld ?_
      rotate_left
      · intro w hSw
        try dsimp only at hSw
        go_simp <;> with_reducible rfl
      try simp only [Act.put, List.setIfInBounds_toArray, List.set_cons_zero, List.set_cons_succ]
      refine takeH (d := some 42) (v := ?_) 2 rfl rfl (by kernel_rfl) (by kernel_rfl) (by kernel_rfl) (fun _ _ _ h => h) (by rfl) ?_ hHeld ?_
      rotate_left
      · intro w hSw
        try dsimp only at hSw
        go_simp <;> with_reducible rfl
      try simp only [Act.put, List.setIfInBounds_toArray, List.set_cons_zero, List.set_cons_succ]
      refine takeH (d := some 43) (v := ?_) 3 rfl rfl (by kernel_rfl) (by kernel_rfl) (by kernel_rfl) (fun _ _ _ h => h) (by rfl) ?_ hHeld ?_
      rotate_left
      · intro w hSw
        try dsimp only at hSw
        go_simp <;> with_reducible rfl
      try simp only [Act.put, List.setIfInBounds_toArray, List.set_cons_zero, List.set_cons_succ]
      refine takeH (d := some 44) (v := ?_) 4 rfl rfl (by kernel_rfl) (by kernel_rfl) (by kernel_rfl) (fun _ _ _ h => h) (by rfl) ?_ hHeld ?_
      rotate_left
      · intro w hSw
        try dsimp only at hSw
        go_simp <;> with_reducible rfl
      try simp only [Act.put, List.setIfInBounds_toArray, List.set_cons_zero, List.set_cons_succ]
      refine takeH (d := some 45) (v := ?_) 5 rfl rfl (by kernel_rfl) (by kernel_rfl) (by kernel_rfl) (fun _ _ _ h => h) (by rfl) ?_ hHeld ?_
      rotate_left
      · intro w hSw
        try dsimp only at hSw
        go_simp <;> with_reducible rfl
      try simp only [Act.put, List.setIfInBounds_toArray, List.set_cons_zero, List.set_cons_succ]
      refine takeH (d := some 46) (v := ?_) 6 rfl rfl (by kernel_rfl) (by kernel_rfl) (by kernel_rfl) (fun _ _ _ h => h) (by rfl) ?_ hHeld ?_
      rotate_left
      · intro w hSw
        try dsimp only at hSw
        go_simp <;> with_reducible rfl
      try simp only [Act.put, List.setIfInBounds_toArray, List.set_cons_zero, List.set_cons_succ]
      refine takeH (d := some 47) (v := ?_) 7 rfl rfl (by kernel_rfl) (by kernel_rfl) (by kernel_rfl) (fun _ _ _ h => h) (by rfl) ?_ hHeld ?_
      rotate_left
      · intro w hSw
        try dsimp only at hSw
        go_simp <;> with_reducible rfl
      try simp only [Act.put, List.setIfInBounds_toArray, List.set_cons_zero, List.set_cons_succ]
      refine takeH (d := some 48) (v := ?_) 8 rfl rfl (by kernel_rfl) (by kernel_rfl) (by kernel_rfl) (fun _ _ _ h => h) (by rfl) ?_ hHeld ?_
      rotate_left
      · intro w hSw
        try dsimp only at hSw
        go_simp <;> with_reducible rfl
      try simp only [Act.put, List.setIfInBounds_toArray, List.set_cons_zero, List.set_cons_succ]
      refine takeH (d := some 49) (v := ?_) 9 rfl rfl (by kernel_rfl) (by kernel_rfl) (by kernel_rfl) (fun _ _ _ h => h) (by rfl) ?_ hHeld ?_
      rotate_left
      · intro w hSw
        try dsimp only at hSw
        go_simp <;> with_reducible rfl
      try simp only [Act.put, List.setIfInBounds_toArray, List.set_cons_zero, List.set_cons_succ]
      refine takeH (d := some 4) (v := ?_) 10 rfl rfl (by kernel_rfl) (by kernel_rfl) (by kernel_rfl) (fun _ _ _ h => h) (by rfl) ?_ hHeld ?_
      rotate_left
      · intro w hSw
        try dsimp only at hSw
        go_simp <;> with_reducible rfl
      try simp only [Act.put, List.setIfInBounds_toArray, List.set_cons_zero, List.set_cons_succ]
      refine wpAnyH_done (by kernel_rfl) ?_ _
      go_wp2_with fail
      go_ret
      refine ⟨?_, below_then HB.out HB.out.size (Below.refl _ _).drew⟩
      rw [HE.out]
      rfl
end Go.Proofs.Ytjmpejbciniceaa.X
/- The contract of scan's method number. -/
namespace Go.Proofs.Ytjmpejbciniceaa.X
open Go.RowKit Go.Proofs.YtjmpejbciniceaaW.PrintWords Go.Proofs.YtjmpejbciniceaaW.PrintLast Go.Proofs.YtjmpejbciniceaaW.PrintMore
set_option linter.unusedVariables false
set_option linter.unusedSimpArgs false

def bytesS (l : List UInt8) : ByteArray := ⟨l.toArray⟩
def WordPost (w0 : World) (g : Nat) (s : ByteArray) (a : Nat) (ws : List S29) (w : World) : SRes → Ending → World → Prop
  | .fault e t => FaultPost w e a (bytesS t)
  | .word k t n => PutPost w0 g s (a + t.length) (ws ++ [⟨k, bytesS t, (n : Int), a⟩])
def numS (t : ByteArray) (more : Bool) : SRes :=
  match numR t.data.toList 0 with
  | none => .fault 3 t.data.toList
  | some n => if (1 < t.data.toList.length ∧ t.data.toList.head? = some 48) ∨ more = true then .fault 10 t.data.toList else .word 2 t.data.toList n
theorem bytes_of (t : ByteArray) : bytesS t.data.toList = t := by
  simp [bytesS]
def bound63 : Int := 9223372036854775807
def numOver (n d : Int) : Bool := decide ((9223372036854775807 - d) / 10 < n)
theorem FaultPost.lift {w wr : World} {e a : Int} {s : ByteArray} {en : Ending} {w' : World} (hb : Below w.heap.size w wr) (h : FaultPost wr e a s en w') : FaultPost w e a s en w' := by
  obtain ⟨p, h1, h2, h3, h4⟩ := h
  exact ⟨p, h1, h2, Nat.le_trans hb.size h3, below_then hb hb.size h4⟩
set_option maxRecDepth 100000 in
set_option maxHeartbeats 1600000 in
theorem number_calls {w0 : World} {g : Nat} {s : ByteArray} {a : Nat} {v : Value} {ws : List S29} {w : World} (h : Rd w0 g s a v ws w) (t : ByteArray) (hd : ∀ c ∈ t.data.toList, digU c = true) (ht : 1 ≤ t.size) (hat : a + t.size ≤ s.size) (hs : s.size ≤ 65536) (hl : ws.length ≤ 100000) :
    Calls Try.prog 38 #[.pointer (some ⟨g, 0, none⟩), .string t] w (WordPost w0 g s a ws w (numS t (headLet (s.data.toList.drop (a + t.size))))) := by
  have HR := Aside0.mk h
  have HD := Aside0.mk hd
  have hcv := fun W : World => Lib.run_convert_string_bytes (P := Try.prog) W 9 56 5 t Try.underlying9 Try.underlying56 Try.underlying5
  clear h hd
  go_enter Try.func38, Try.ntmps38
  go_wp2_with fail
  have hcell : ∀ j, j < t.size → (Lib.bytesWorld w 5 t).cell? ⟨w.heap.size, j, none⟩ = some (.int .u8 ((t.data.toList.getD j 0).toNat : Int)) := fun j hj => Lib.bytesWorld_cell w 5 t j hj
  have hB3 : Below w.heap.size w (Lib.bytesWorld w 5 t) := ⟨rfl, rfl, rfl, by rw [Lib.bytesWorld_size]; omega, fun k hk => Lib.bytesWorld_at_old w 5 t k hk⟩
  have hs3 : w.heap.size < (Lib.bytesWorld w 5 t).heap.size := by rw [Lib.bytesWorld_size]; omega
  clear hcv
  generalize Lib.bytesWorld w 5 t = W3 at *
  have HC := Aside0.mk hcell
  have HB3 := Aside0.mk hB3
  have hl : t.data.toList.length = t.size := by simp
  have HL := Aside0.mk hl
  clear hcell hB3 hl
  go_loopw [5, 13] (fun n i wr => ∃ (j m : Nat), i = .int .i64 j ∧ n = .int .u64 m ∧ j ≤ t.size ∧ m ≤ 9223372036854775807 ∧ numR (t.data.toList.drop j) m = numR t.data.toList 0 ∧ Below W3.heap.size W3 wr) (fun _ i _ => t.size - (intOf i).toNat)
  case atStart => exact ⟨0, 0, rfl, rfl, Nat.zero_le _, Nat.zero_le _, rfl, Below.refl _ _⟩
  case round =>
    obtain ⟨j, m, rfl, rfl, hj, hm, hnum, hB⟩ := hrel
    have HB := Aside0.mk hB
    have HN := Aside0.mk hnum
    clear hB hnum
    by_cases hlt : j < t.size
    · have hx : wr.cell? ⟨w.heap.size, j, none⟩ = some (.int .u8 ((t.data.toList.getD j 0).toNat : Int)) := (HB.out.cell hs3).trans (HC.out j hlt)
      have hn : ((t.data.toList.getD j 0).toNat : Int) = ((t.data.toList[j]'(by rw [HL.out]; exact hlt)).toNat : Int) := by rw [List.getD_eq_getElem?_getD, List.getElem?_eq_getElem]; rfl
      have HT := Aside0.mk (show t.data.toList.drop j = t.data.toList[j]'(by rw [HL.out]; exact hlt) :: t.data.toList.drop (j + 1) from List.drop_eq_getElem_cons (by rw [HL.out]; exact hlt))
      have hdx := HD.out (t.data.toList[j]'(by rw [HL.out]; exact hlt)) (List.getElem_mem _)
      rw [hn] at hx
      generalize t.data.toList[j]'(by rw [HL.out]; exact hlt) = x at *
      have hb : 48 ≤ x.toNat ∧ x.toNat ≤ 57 := by
        unfold digU at hdx
        simp only [Bool.and_eq_true, decide_eq_true_eq, UInt8.le_iff_toNat_le] at hdx
        exact hdx
      obtain ⟨d, hxd, hd9⟩ : ∃ d : Nat, x.toNat = d + 48 ∧ d ≤ 9 := ⟨x.toNat - 48, by omega, by omega⟩
      have HN2 := Aside0.mk (show numR t.data.toList 0 = if (9223372036854775807 - d) / 10 < m then none else numR (t.data.toList.drop (j + 1)) (m * 10 + d) from by
        rw [← HN.out, HT.out, numR, hxd, Nat.add_sub_cancel])
      rw [hxd] at hx
      clear hn hdx hb HN HT hxd
      by_cases hov : (9223372036854775807 - d) / 10 < m
      · go_wp2_with fail
        refine (fault_calls (HR.out.after (below_then HB3.out HB3.out.size HB.out)) 3 t).mono ?_
        intro e w5 hp
        have HV := Aside0.mk (show numR t.data.toList 0 = none from by rw [HN2.out, if_pos hov])
        obtain ⟨p, rfl, hq⟩ := hp.lift (below_then HB3.out HB3.out.size HB.out)
        have HQ := Aside0.mk hq
        clear hp hq hx HN2 hov
        go_wp2_with fail
        go_ret
        unfold numS
        rw [HV.out]
        show FaultPost w 3 a (bytesS t.data.toList) _ _
        rw [bytes_of]
        exact ⟨p, rfl, HQ.out⟩
      · have HN3 := Aside0.mk (show numR (t.data.toList.drop (j + 1)) (m * 10 + d) = numR t.data.toList 0 from by rw [HN2.out, if_neg hov])
        have hov2 : m ≤ (9223372036854775807 - d) / 10 := by omega
        have hov3 : ¬ (9223372036854775807 - (d : Int)) / 10 < (m : Int) := by omega
        clear HN2 hov
        go_wp2_with fail
        go_roundw
        case rel => exact ⟨j + 1, m * 10 + d, by go_num, by go_num, by omega, by omega, HN3.out, HB.out⟩
        case measure => simp [intOf]; omega
    · obtain rfl : j = t.size := by omega
      have HV := Aside0.mk (show numR t.data.toList 0 = some m from by rw [← HN.out, List.drop_eq_nil_of_le (by rw [HL.out]; exact Nat.le_refl _)]; rfl)
      have HBW := Aside0.mk (below_then HB3.out HB3.out.size HB.out)
      replace HR := Aside0.mk (HR.out.after HBW.out)
      have h00 : 0 < t.size := by omega
      have hhd : t.data.toList.head? = some (t[0]'h00) := by
        have := drop_at t 0 h00
        rw [List.drop_zero] at this
        rw [this]
        rfl
      have HHD := Aside0.mk hhd
      have HLL := HL
      have e0 := (blk_cell HR.out.blk 0).trans rfl
      have e1 := (blk_cell HR.out.blk 1).trans rfl
      simp at e0 e1
      clear hhd HN HB hs3 HC HB3 hlt
      by_cases c1 : 1 < t.size ∧ t[0]'h00 = 48
      · obtain ⟨c2, c3⟩ := c1
        have d48 : ((((t[0]'h00).toNat : Nat) : Int) == 48) = true := by rw [c3]; rfl
        have HE : Aside0 (numS t (headLet (s.data.toList.drop (a + t.size))) = .fault 10 t.data.toList) := .mk (by
          unfold numS
          rw [HV.out]
          simp only
          rw [if_pos (.inl ⟨by rw [HLL.out]; exact c2, by rw [HHD.out, c3]⟩)])
        clear c3
        go_wp2_with fail
        clear e0 e1
        refine (fault_calls HR.out 10 t).mono ?_
        intro e w5 hp
        obtain ⟨p, rfl, hq⟩ := hp.lift HBW.out
        have HQ := Aside0.mk hq
        clear hp hq
        go_wp2_with fail
        go_ret
        rw [HE.out]
        show FaultPost w 10 a (bytesS t.data.toList) _ _
        rw [bytes_of]
        exact ⟨p, rfl, HQ.out⟩
      · have hz : ¬ (1 < t.data.toList.length ∧ t.data.toList.head? = some 48) := by
          rw [HLL.out, HHD.out]
          intro h
          exact c1 ⟨h.1, by have := h.2; simpa using this⟩
        have HZ := Aside0.mk hz
        have hd48 : ¬ 1 < t.size ∨ ((((t[0]'h00).toNat : Nat) : Int) == 48) = false := by
          by_cases c2 : 1 < t.size
          · right
            have : t[0]'h00 ≠ 48 := fun e => c1 ⟨c2, e⟩
            rw [beq_eq_false_iff_ne]
            intro e
            apply this
            rw [← UInt8.toNat_inj]
            show (t[0]'h00).toNat = 48
            omega
          · exact .inl c2
        clear c1 hz
        by_cases he : a + t.size < s.size
        · have HLT := Aside0.mk (show headLet (s.data.toList.drop (a + t.size)) = letU (s[a + t.size]'he) from by rw [drop_at s _ he]; rfl)
          rcases hd48 with c2 | d48
          · go_wp2_with fail
            clear e0 e1
            refine (letter_calls _ _).mono ?_
            rintro e w4 ⟨rfl, hB4⟩
            replace HR := Aside0.mk (HR.out.after hB4)
            replace HBW := Aside0.mk (below_then HBW.out HBW.out.size hB4)
            clear hB4
            have e0 := trivial
            have e1 := trivial
            cases hle : letU (s[a + t.size]'he) with
            | true =>
              rw [hle] at HLT
              have HE : Aside0 (numS t (headLet (s.data.toList.drop (a + t.size))) = .fault 10 t.data.toList) := .mk (by
                unfold numS
                rw [HV.out]
                simp only
                rw [if_pos (.inr HLT.out)])
              clear hle
              go_wp2_with fail
              clear e0 e1
              refine (fault_calls HR.out 10 t).mono ?_
              intro e w5 hp
              obtain ⟨p, rfl, hq⟩ := hp.lift HBW.out
              have HQ := Aside0.mk hq
              clear hp hq
              go_wp2_with fail
              go_ret
              rw [HE.out]
              show FaultPost w 10 a (bytesS t.data.toList) _ _
              rw [bytes_of]
              exact ⟨p, rfl, HQ.out⟩
            | false =>
              rw [hle] at HLT
              clear hle
              go_wp2_with fail
              clear e0 e1
              have HE : Aside0 (numS t (headLet (s.data.toList.drop (a + t.size))) = .word 2 t.data.toList m) := .mk (by
                unfold numS
                rw [HV.out]
                simp only
                rw [if_neg]
                intro h
                rcases h with h | h
                · exact HZ.out h
                · rw [HLT.out] at h; exact absurd h (by decide))
              refine (put_calls HR.out 2 t m hl (by omega) (by omega)).mono ?_
              rintro e w5 ⟨rfl, v5, hv⟩
              have HVV := Aside0.mk hv
              clear hv
              go_wp2_with fail
              go_ret
              rw [HE.out]
              show PutPost w0 g s (a + t.data.toList.length) (ws ++ [⟨2, bytesS t.data.toList, (m : Int), a⟩]) _ _
              rw [bytes_of, HLL.out]
              exact ⟨rfl, v5, HVV.out⟩
          · by_cases c2 : 1 < t.size
            · go_wp2_with fail
              clear e0 e1
              refine (letter_calls _ _).mono ?_
              rintro e w4 ⟨rfl, hB4⟩
              replace HR := Aside0.mk (HR.out.after hB4)
              replace HBW := Aside0.mk (below_then HBW.out HBW.out.size hB4)
              clear hB4
              have e0 := trivial
              have e1 := trivial
              cases hle : letU (s[a + t.size]'he) with
              | true =>
                rw [hle] at HLT
                have HE : Aside0 (numS t (headLet (s.data.toList.drop (a + t.size))) = .fault 10 t.data.toList) := .mk (by
                  unfold numS
                  rw [HV.out]
                  simp only
                  rw [if_pos (.inr HLT.out)])
                clear hle
                go_wp2_with fail
                clear e0 e1
                refine (fault_calls HR.out 10 t).mono ?_
                intro e w5 hp
                obtain ⟨p, rfl, hq⟩ := hp.lift HBW.out
                have HQ := Aside0.mk hq
                clear hp hq
                go_wp2_with fail
                go_ret
                rw [HE.out]
                show FaultPost w 10 a (bytesS t.data.toList) _ _
                rw [bytes_of]
                exact ⟨p, rfl, HQ.out⟩
              | false =>
                rw [hle] at HLT
                clear hle
                go_wp2_with fail
                clear e0 e1
                have HE : Aside0 (numS t (headLet (s.data.toList.drop (a + t.size))) = .word 2 t.data.toList m) := .mk (by
                  unfold numS
                  rw [HV.out]
                  simp only
                  rw [if_neg]
                  intro h
                  rcases h with h | h
                  · exact HZ.out h
                  · rw [HLT.out] at h; exact absurd h (by decide))
                refine (put_calls HR.out 2 t m hl (by omega) (by omega)).mono ?_
                rintro e w5 ⟨rfl, v5, hv⟩
                have HVV := Aside0.mk hv
                clear hv
                go_wp2_with fail
                go_ret
                rw [HE.out]
                show PutPost w0 g s (a + t.data.toList.length) (ws ++ [⟨2, bytesS t.data.toList, (m : Int), a⟩]) _ _
                rw [bytes_of, HLL.out]
                exact ⟨rfl, v5, HVV.out⟩
            · clear d48
              go_wp2_with fail
              clear e0 e1
              refine (letter_calls _ _).mono ?_
              rintro e w4 ⟨rfl, hB4⟩
              replace HR := Aside0.mk (HR.out.after hB4)
              replace HBW := Aside0.mk (below_then HBW.out HBW.out.size hB4)
              clear hB4
              have e0 := trivial
              have e1 := trivial
              cases hle : letU (s[a + t.size]'he) with
              | true =>
                rw [hle] at HLT
                have HE : Aside0 (numS t (headLet (s.data.toList.drop (a + t.size))) = .fault 10 t.data.toList) := .mk (by
                  unfold numS
                  rw [HV.out]
                  simp only
                  rw [if_pos (.inr HLT.out)])
                clear hle
                go_wp2_with fail
                clear e0 e1
                refine (fault_calls HR.out 10 t).mono ?_
                intro e w5 hp
                obtain ⟨p, rfl, hq⟩ := hp.lift HBW.out
                have HQ := Aside0.mk hq
                clear hp hq
                go_wp2_with fail
                go_ret
                rw [HE.out]
                show FaultPost w 10 a (bytesS t.data.toList) _ _
                rw [bytes_of]
                exact ⟨p, rfl, HQ.out⟩
              | false =>
                rw [hle] at HLT
                clear hle
                go_wp2_with fail
                clear e0 e1
                have HE : Aside0 (numS t (headLet (s.data.toList.drop (a + t.size))) = .word 2 t.data.toList m) := .mk (by
                  unfold numS
                  rw [HV.out]
                  simp only
                  rw [if_neg]
                  intro h
                  rcases h with h | h
                  · exact HZ.out h
                  · rw [HLT.out] at h; exact absurd h (by decide))
                refine (put_calls HR.out 2 t m hl (by omega) (by omega)).mono ?_
                rintro e w5 ⟨rfl, v5, hv⟩
                have HVV := Aside0.mk hv
                clear hv
                go_wp2_with fail
                go_ret
                rw [HE.out]
                show PutPost w0 g s (a + t.data.toList.length) (ws ++ [⟨2, bytesS t.data.toList, (m : Int), a⟩]) _ _
                rw [bytes_of, HLL.out]
                exact ⟨rfl, v5, HVV.out⟩
        · have HLT := Aside0.mk (show headLet (s.data.toList.drop (a + t.size)) = false from by rw [List.drop_eq_nil_of_le (by simp; omega)]; rfl)
          rcases hd48 with c2 | d48
          · go_wp2_with fail
            clear e0 e1
            have HE : Aside0 (numS t (headLet (s.data.toList.drop (a + t.size))) = .word 2 t.data.toList m) := .mk (by
              unfold numS
              rw [HV.out]
              simp only
              rw [if_neg]
              intro h
              rcases h with h | h
              · exact HZ.out h
              · rw [HLT.out] at h; exact absurd h (by decide))
            refine (put_calls HR.out 2 t m hl (by omega) (by omega)).mono ?_
            rintro e w5 ⟨rfl, v5, hv⟩
            have HVV := Aside0.mk hv
            clear hv
            go_wp2_with fail
            go_ret
            rw [HE.out]
            show PutPost w0 g s (a + t.data.toList.length) (ws ++ [⟨2, bytesS t.data.toList, (m : Int), a⟩]) _ _
            rw [bytes_of, HLL.out]
            exact ⟨rfl, v5, HVV.out⟩
          · by_cases c2 : 1 < t.size
            · go_wp2_with fail
              clear e0 e1
              have HE : Aside0 (numS t (headLet (s.data.toList.drop (a + t.size))) = .word 2 t.data.toList m) := .mk (by
                unfold numS
                rw [HV.out]
                simp only
                rw [if_neg]
                intro h
                rcases h with h | h
                · exact HZ.out h
                · rw [HLT.out] at h; exact absurd h (by decide))
              refine (put_calls HR.out 2 t m hl (by omega) (by omega)).mono ?_
              rintro e w5 ⟨rfl, v5, hv⟩
              have HVV := Aside0.mk hv
              clear hv
              go_wp2_with fail
              go_ret
              rw [HE.out]
              show PutPost w0 g s (a + t.data.toList.length) (ws ++ [⟨2, bytesS t.data.toList, (m : Int), a⟩]) _ _
              rw [bytes_of, HLL.out]
              exact ⟨rfl, v5, HVV.out⟩
            · clear d48
              go_wp2_with fail
              clear e0 e1
              have HE : Aside0 (numS t (headLet (s.data.toList.drop (a + t.size))) = .word 2 t.data.toList m) := .mk (by
                unfold numS
                rw [HV.out]
                simp only
                rw [if_neg]
                intro h
                rcases h with h | h
                · exact HZ.out h
                · rw [HLT.out] at h; exact absurd h (by decide))
              refine (put_calls HR.out 2 t m hl (by omega) (by omega)).mono ?_
              rintro e w5 ⟨rfl, v5, hv⟩
              have HVV := Aside0.mk hv
              clear hv
              go_wp2_with fail
              go_ret
              rw [HE.out]
              show PutPost w0 g s (a + t.data.toList.length) (ws ++ [⟨2, bytesS t.data.toList, (m : Int), a⟩]) _ _
              rw [bytes_of, HLL.out]
              exact ⟨rfl, v5, HVV.out⟩
end Go.Proofs.Ytjmpejbciniceaa.X
/- The contract of scan's method word. -/
namespace Go.Proofs.Ytjmpejbciniceaa.X
open Go.RowKit Go.Proofs.YtjmpejbciniceaaW.PrintWords Go.Proofs.YtjmpejbciniceaaW.PrintLast Go.Proofs.YtjmpejbciniceaaW.PrintMore
set_option linter.unusedVariables false
set_option linter.unusedSimpArgs false

theorem key_yes {l : List UInt8} {k : List UInt8} (h : l = k) (hk : keysU.contains k = true) : some true = some (keysU.contains l) := by rw [h, hk]
theorem key_is (k : Nat) (s : ByteArray) : scan_Key.f (k + 1) s = some (keyU s.toList) := by
  unfold scan_Key.f keyU
  simp only [scan_Key.j0]
  generalize s.toList = l
  by_cases h0 : l = ([108, 101, 116] : List UInt8)
  · rw [if_pos h0, if_pos (beq_iff_eq.2 h0)]; exact key_yes h0 (by decide)
  rw [if_neg h0]
  by_cases h1 : l = ([105, 110] : List UInt8)
  · rw [if_pos h1, if_pos (beq_iff_eq.2 h1)]; exact key_yes h1 (by decide)
  rw [if_neg h1]
  by_cases h2 : l = ([105, 102] : List UInt8)
  · rw [if_pos h2, if_pos (beq_iff_eq.2 h2)]; exact key_yes h2 (by decide)
  rw [if_neg h2]
  by_cases h3 : l = ([116, 104, 101, 110] : List UInt8)
  · rw [if_pos h3, if_pos (beq_iff_eq.2 h3)]; exact key_yes h3 (by decide)
  rw [if_neg h3]
  by_cases h4 : l = ([101, 108, 115, 101] : List UInt8)
  · rw [if_pos h4, if_pos (beq_iff_eq.2 h4)]; exact key_yes h4 (by decide)
  rw [if_neg h4]
  by_cases h5 : l = ([114, 101, 99] : List UInt8)
  · rw [if_pos h5, if_pos (beq_iff_eq.2 h5)]; exact key_yes h5 (by decide)
  rw [if_neg h5]
  by_cases h6 : l = ([99, 97, 115, 101] : List UInt8)
  · rw [if_pos h6, if_pos (beq_iff_eq.2 h6)]; exact key_yes h6 (by decide)
  rw [if_neg h6]
  by_cases h7 : l = ([111, 102] : List UInt8)
  · rw [if_pos (beq_iff_eq.2 h7)]; exact key_yes h7 (by decide)
  rw [if_neg (fun e => h7 (beq_iff_eq.1 e))]
  by_cases h8 : l = ([102, 115, 116] : List UInt8)
  · rw [if_pos h8]; exact key_yes h8 (by decide)
  rw [if_neg h8]
  by_cases h9 : l = ([115, 110, 100] : List UInt8)
  · rw [if_pos h9]; exact key_yes h9 (by decide)
  rw [if_neg h9]
  by_cases h10 : l = ([105, 110, 108] : List UInt8)
  · rw [if_pos h10]; exact key_yes h10 (by decide)
  rw [if_neg h10]
  by_cases h11 : l = ([105, 110, 114] : List UInt8)
  · rw [if_pos h11]; exact key_yes h11 (by decide)
  rw [if_neg h11]
  by_cases h12 : l = ([116, 114, 117, 101] : List UInt8)
  · rw [if_pos h12]; exact key_yes h12 (by decide)
  rw [if_neg h12]
  by_cases h13 : l = ([102, 97, 108, 115, 101] : List UInt8)
  · rw [if_pos h13]; exact key_yes h13 (by decide)
  rw [if_neg h13]
  by_cases h14 : l = ([105, 110, 116] : List UInt8)
  · rw [if_pos h14]; exact key_yes h14 (by decide)
  rw [if_neg h14]
  by_cases h15 : l = ([98, 111, 111, 108] : List UInt8)
  · rw [if_pos h15]; exact key_yes h15 (by decide)
  rw [if_neg h15]
  have : keysU.contains l = false := by simp [keysU, h0, h1, h2, h3, h4, h5, h6, h7, h8, h9, h10, h11, h12, h13, h14, h15]
  rw [this]

theorem bytes_toList (s : ByteArray) : s.toList = s.data.toList := by
  have : ∀ (n i : Nat) (r : List UInt8), s.size - i = n → ByteArray.toList.loop s i r = r.reverse ++ s.data.toList.drop i := by
    intro n
    induction n with
    | zero =>
      intro i r h
      unfold ByteArray.toList.loop
      rw [if_neg (by omega), List.drop_eq_nil_of_le (by simp; omega), List.append_nil]
    | succ n ih =>
      intro i r h
      unfold ByteArray.toList.loop
      rw [if_pos (by omega), ih (i + 1) _ (by omega), drop_at s i (by omega), get_in s i (by omega)]
      simp
  have h := this s.size 0 [] rfl
  simpa [ByteArray.toList] using h
theorem key_calls (t : ByteArray) (w : World) : Calls Try.prog 35 #[.string t] w fun e w' => e = .returned (.bool (keyU t.data.toList)) ∧ Below w.heap.size w w' := (scan_Key.calls 1 t _ w (by rw [key_is, bytes_toList])).mono fun e w' h => ⟨h.1, h.2.below⟩
theorem span_true : spanP true = fun d => letU d || digU d := by funext d; simp [spanP, Bool.or_comm]
theorem span_false : spanP false = digU := by funext d; simp [spanP]
theorem take_while_len (p : UInt8 → Bool) (l : List UInt8) : l.take (l.takeWhile p).length = l.takeWhile p := by
  have := List.takeWhile_append_dropWhile (p := p) (l := l)
  conv => lhs; arg 2; rw [← this]
  exact List.take_left
theorem drop_while_len (p : UInt8 → Bool) (l : List UInt8) : l.drop (l.takeWhile p).length = l.dropWhile p := by
  have := List.takeWhile_append_dropWhile (p := p) (l := l)
  conv => lhs; arg 2; rw [← this]
  exact List.drop_left
theorem span_text (s : ByteArray) (a : Nat) (b : Bool) (ha : a ≤ s.size) : (s.extract a (a + spanN s a b)).data.toList = (s.data.toList.drop a).takeWhile (spanP b) := by
  unfold spanN
  have e : (s.extract a (a + ((s.data.toList.drop a).takeWhile (spanP b)).length)).data.toList = (s.data.toList.drop a).take ((s.data.toList.drop a).takeWhile (spanP b)).length := by
    simp
  rw [e, take_while_len]
theorem one_text (s : ByteArray) (a b : Nat) (hb : b = a + 1) (h : a < s.size) : s.extract a b = bytesS [s[a]'h] := by
  subst hb
  apply ByteArray.ext
  apply Array.ext'
  have e : (s.extract a (a + 1)).data.toList = (s.data.toList.drop a).take 1 := by simp
  rw [e, drop_at s a h]
  rfl
theorem WordPost.of_fault {w0 : World} {g : Nat} {s : ByteArray} {a : Nat} {ws : List S29} {w wr : World} {e : Int} {t : List UInt8} {en : Ending} {w' : World} (hb : Below w.heap.size w wr) (h : WordPost w0 g s a ws wr (.fault e t) en w') : WordPost w0 g s a ws w (.fault e t) en w' := FaultPost.lift hb h
theorem WordPost.of {w0 : World} {g : Nat} {s : ByteArray} {a : Nat} {ws : List S29} {w wr : World} {r : SRes} {en : Ending} {w' : World} (hb : Below w.heap.size w wr) (h : WordPost w0 g s a ws wr r en w') : WordPost w0 g s a ws w r en w' := by
  cases r with
  | fault e t => exact FaultPost.lift hb h
  | word k t n => exact h
/-- A post's ending is a returned value. -/
theorem WordPost.ret {w0 : World} {g : Nat} {s : ByteArray} {a : Nat} {ws : List S29} {w : World} {r : SRes} {en : Ending} {w' : World} (h : WordPost w0 g s a ws w r en w') : ∃ v, en = .returned v := by
  cases r with
  | fault e t => obtain ⟨p, h1, _⟩ := h; exact ⟨_, h1⟩
  | word k t n => exact ⟨_, h.1⟩
theorem letter_q {c : UInt8} {q : Int} (h : (c.toNat : Int) = q) (w : World) : Calls Try.prog 32 #[.int .u8 q] w fun e w' => e = .returned (.bool (letU c)) ∧ Below w.heap.size w w' := by subst h; exact letter_calls c w
theorem digit_q {c : UInt8} {q : Int} (h : (c.toNat : Int) = q) (w : World) : Calls Try.prog 37 #[.int .u8 q] w fun e w' => e = .returned (.bool (digU c)) ∧ Below w.heap.size w w' := by subst h; exact digit_calls c w
theorem takeWhile_all (p : UInt8 → Bool) (l : List UInt8) : ∀ c ∈ l.takeWhile p, p c = true := by
  induction l with
  | nil => simp
  | cons d l ih =>
    rw [List.takeWhile_cons]
    split
    · intro c hc
      rcases List.mem_cons.1 hc with rfl | hc
      · assumption
      · exact ih c hc
    · simp
set_option maxRecDepth 100000 in
set_option maxHeartbeats 3200000 in
theorem word_letter {w0 : World} {g : Nat} {s : ByteArray} {a : Nat} {v : Value} {ws : List S29} {w : World} {q : Int} {c : UInt8} (HR : Aside0 (Rd w0 g s a v ws w)) (ha : a < s.size) (hs : s.size ≤ 65536) (hl : ws.length ≤ 100000) (HC : Aside0 (s[a]'ha = c)) (HQ : Aside0 (((s[a]'ha).toNat : Int) = q)) (HL : Aside0 (letU (s[a]'ha) = true)) (m : List UInt8) (HM : Aside0 ((s.data.toList.drop a).takeWhile (spanP true) = m)) (K : Bool) (HK : Aside0 (keyU m = K)) (r : SRes) (HE : Aside0 (r = (if 64 < m.length then .fault 3 m else .word (if K then 3 else 1) m 0))) :
    Calls Try.prog 17 #[.pointer (some ⟨g, 0, none⟩)] w (WordPost w0 g s a ws w r) := by
  go_enter Try.func17, Try.ntmps17
  go_wp2_with fail
  have e0 := (blk_cell HR.out.blk 0).trans rfl
  have e1 := (blk_cell HR.out.blk 1).trans rfl
  simp at e0 e1
  refine wp_region_held_drew (S := fun w' => w'.cell? ⟨g, 0, none⟩ = some (.string s) ∧ w'.cell? ⟨g, 1, none⟩ = some (.int .i64 (a : Int))) (by kernel_rfl) ⟨e0, e1⟩ (fun hHeld => ?_)
  clear e0 e1
  have HB := Aside0.mk ((Below.refl w.heap.size w).drew)
  replace HR := Aside0.mk (HR.out.after HB.out)
  refine takeH (d := some 5) (v := ?_) 0 rfl rfl (by kernel_rfl) (by kernel_rfl) (by kernel_rfl) (fun _ _ _ h => h) (by rfl) ?_ hHeld ?_
  rotate_left
  · intro w hSw
    try dsimp only at hSw
    go_simp <;> with_reducible rfl
  try simp only [Act.put, List.setIfInBounds_toArray, List.set_cons_zero, List.set_cons_succ]
  refine takeH (d := some 6) (v := ?_) 1 rfl rfl (by kernel_rfl) (by kernel_rfl) (by kernel_rfl) (fun _ _ _ h => h) (by rfl) ?_ hHeld ?_
  rotate_left
  · intro w hSw
    try dsimp only at hSw
    go_simp <;> with_reducible rfl
  try simp only [Act.put, List.setIfInBounds_toArray, List.set_cons_zero, List.set_cons_succ]
  refine takeH (d := some 7) (v := ?_) 2 rfl rfl (by kernel_rfl) (by kernel_rfl) (by kernel_rfl) (fun _ _ _ h => h) (by rfl) ?_ hHeld ?_
  rotate_left
  · intro w hSw
    try dsimp only at hSw
    go_simp <;> with_reducible rfl
  try simp only [Act.put, List.setIfInBounds_toArray, List.set_cons_zero, List.set_cons_succ]
  refine takeH (d := some 8) (v := ?_) 3 rfl rfl (by kernel_rfl) (by kernel_rfl) (by kernel_rfl) (fun _ _ _ h => h) (by rfl) ?_ hHeld ?_
  rotate_left
  · intro w hSw
    try dsimp only at hSw
    go_simp <;> with_reducible rfl
  try simp only [Act.put, List.setIfInBounds_toArray, List.set_cons_zero, List.set_cons_succ]
  refine takeH (d := some 9) (v := ?_) 4 rfl rfl (by kernel_rfl) (by kernel_rfl) (by kernel_rfl) (fun _ _ _ h => h) (by rfl) ?_ hHeld ?_
  rotate_left
  · intro w hSw
    try dsimp only at hSw
    go_simp <;> with_reducible rfl
  try simp only [Act.put, List.setIfInBounds_toArray, List.set_cons_zero, List.set_cons_succ]
  refine takeH (d := some 10) (v := ?_) 5 rfl rfl (by kernel_rfl) (by kernel_rfl) (by kernel_rfl) (fun _ _ _ h => h) (by rfl) ?_ hHeld ?_
  rotate_left
  · intro w hSw
    try dsimp only at hSw
    go_simp <;> with_reducible rfl
  try simp only [Act.put, List.setIfInBounds_toArray, List.set_cons_zero, List.set_cons_succ]
  refine takeH (d := some 11) (v := ?_) 6 rfl rfl (by kernel_rfl) (by kernel_rfl) (by kernel_rfl) (fun _ _ _ h => h) (by rfl) ?_ hHeld ?_
  rotate_left
  · intro w hSw
    try dsimp only at hSw
    go_simp <;> with_reducible rfl
  try simp only [Act.put, List.setIfInBounds_toArray, List.set_cons_zero, List.set_cons_succ]
  refine takeH (d := some 12) (v := ?_) 7 rfl rfl (by kernel_rfl) (by kernel_rfl) (by kernel_rfl) (fun _ _ _ h => h) (by rfl) ?_ hHeld ?_
  rotate_left
  · intro w hSw
    try dsimp only at hSw
    go_simp <;> with_reducible rfl
  try simp only [Act.put, List.setIfInBounds_toArray, List.set_cons_zero, List.set_cons_succ]
  refine takeH (d := some 13) (v := .int .u8 q) 8 rfl rfl (by kernel_rfl) (by kernel_rfl) (by kernel_rfl) (fun _ _ _ h => h) (by rfl) (fun w hSw => by (try dsimp only at hSw); go_simp; rw [HQ.out]) hHeld ?_
  try simp only [Act.put, List.setIfInBounds_toArray, List.set_cons_zero, List.set_cons_succ]
  refine takeH (d := some 3) (v := ?_) 9 rfl rfl (by kernel_rfl) (by kernel_rfl) (by kernel_rfl) (fun _ _ _ h => h) (by rfl) ?_ hHeld ?_
  rotate_left
  · intro w hSw
    try dsimp only at hSw
    go_simp <;> with_reducible rfl
  try simp only [Act.put, List.setIfInBounds_toArray, List.set_cons_zero, List.set_cons_succ]
  refine wpAnyH_done (by kernel_rfl) ?_ _
  clear hHeld
  generalize w.drew = w1 at *
  go_wp2_with fail
  refine (letter_q HQ.out _).mono ?_
  rw [HL.out]
  rintro e w2 ⟨rfl, hB⟩
  replace HR := Aside0.mk (HR.out.after hB)
  replace HB := Aside0.mk (below_then HB.out HB.out.size hB)
  clear hB
  go_wp2_with fail
  refine (span_calls HR.out true (by omega) hs).mono ?_
  rintro e w3 ⟨rfl, hB⟩
  replace HR := Aside0.mk (HR.out.after hB)
  replace HB := Aside0.mk (below_then HB.out HB.out.size hB)
  clear hB
  have hx := span_text s a true (by omega)
  rw [HM.out] at hx
  generalize s.extract a (a + spanN s a true) = t at *
  have HT := Aside0.mk hx
  have hz : t.size = m.length := by rw [← hx]; simp
  have HTB := Aside0.mk (show bytesS m = t by rw [← hx]; exact bytes_of t)
  have hms : m.length ≤ 65536 := by rw [← HM.out]; have := (List.takeWhile_sublist (spanP true) (l := s.data.toList.drop a)).length_le; simp at this; omega
  have HZ := Aside0.mk hz
  clear hx hz
  by_cases hb : 64 < m.length
  · replace HE := Aside0.mk (HE.out.trans (if_pos hb))
    have hb2 : 64 < t.size := by rw [HZ.out]; exact hb
    go_wp2_with fail
    refine (fault_calls HR.out 3 t).mono ?_
    intro e w4 hp
    obtain ⟨p, rfl, hq⟩ := hp.lift HB.out
    have HP := Aside0.mk hq
    clear hp hq
    go_wp2_with fail
    go_ret
    rw [HE.out]
    show FaultPost w 3 a (bytesS m) _ _
    rw [HTB.out]
    exact ⟨p, rfl, HP.out⟩
  · replace HE := Aside0.mk (HE.out.trans (if_neg hb))
    have hb2 : ¬ 64 < t.size := by rw [HZ.out]; exact hb
    go_wp2_with fail
    refine (key_calls t _).mono ?_
    rw [HT.out, HK.out]
    rintro e w4 ⟨rfl, hB⟩
    replace HR := Aside0.mk (HR.out.after hB)
    replace HB := Aside0.mk (below_then HB.out HB.out.size hB)
    clear hB
    cases K with
    | true =>
      go_wp2_with fail
      refine (put_calls HR.out 3 t 0 hl (by omega) (by have := HZ.out; omega)).mono ?_
      rintro e w5 ⟨rfl, v5, hv⟩
      have HV := Aside0.mk hv
      clear hv
      go_wp2_with fail
      go_ret
      rw [HE.out]
      show PutPost w0 g s (a + m.length) (ws ++ [⟨3, bytesS m, ((0 : Nat) : Int), a⟩]) _ _
      rw [HTB.out, ← HZ.out]
      exact ⟨rfl, v5, HV.out⟩
    | false =>
      go_wp2_with fail
      refine (put_calls HR.out 1 t 0 hl (by omega) (by have := HZ.out; omega)).mono ?_
      rintro e w5 ⟨rfl, v5, hv⟩
      have HV := Aside0.mk hv
      clear hv
      go_wp2_with fail
      go_ret
      rw [HE.out]
      show PutPost w0 g s (a + m.length) (ws ++ [⟨1, bytesS m, ((0 : Nat) : Int), a⟩]) _ _
      rw [HTB.out, ← HZ.out]
      exact ⟨rfl, v5, HV.out⟩
set_option maxRecDepth 100000 in
set_option maxHeartbeats 3200000 in
theorem word_digit {w0 : World} {g : Nat} {s : ByteArray} {a : Nat} {v : Value} {ws : List S29} {w : World} {q : Int} {c : UInt8} (HR : Aside0 (Rd w0 g s a v ws w)) (ha : a < s.size) (hs : s.size ≤ 65536) (hl : ws.length ≤ 100000) (HC : Aside0 (s[a]'ha = c)) (HQ : Aside0 (((s[a]'ha).toNat : Int) = q)) (HL : Aside0 (letU (s[a]'ha) = false)) (HD : Aside0 (digU (s[a]'ha) = true)) (m : List UInt8) (HM : Aside0 ((s.data.toList.drop a).takeWhile (spanP false) = m)) (hm1 : 1 ≤ m.length) (h : Bool) (HH : Aside0 (headLet (s.data.toList.drop (a + m.length)) = h)) (r : SRes) (HE : Aside0 (r = (numS (bytesS m) h))) :
    Calls Try.prog 17 #[.pointer (some ⟨g, 0, none⟩)] w (WordPost w0 g s a ws w r) := by
  go_enter Try.func17, Try.ntmps17
  go_wp2_with fail
  have e0 := (blk_cell HR.out.blk 0).trans rfl
  have e1 := (blk_cell HR.out.blk 1).trans rfl
  simp at e0 e1
  refine wp_region_held_drew (S := fun w' => w'.cell? ⟨g, 0, none⟩ = some (.string s) ∧ w'.cell? ⟨g, 1, none⟩ = some (.int .i64 (a : Int))) (by kernel_rfl) ⟨e0, e1⟩ (fun hHeld => ?_)
  clear e0 e1
  have HB := Aside0.mk ((Below.refl w.heap.size w).drew)
  replace HR := Aside0.mk (HR.out.after HB.out)
  refine takeH (d := some 5) (v := ?_) 0 rfl rfl (by kernel_rfl) (by kernel_rfl) (by kernel_rfl) (fun _ _ _ h => h) (by rfl) ?_ hHeld ?_
  rotate_left
  · intro w hSw
    try dsimp only at hSw
    go_simp <;> with_reducible rfl
  try simp only [Act.put, List.setIfInBounds_toArray, List.set_cons_zero, List.set_cons_succ]
  refine takeH (d := some 6) (v := ?_) 1 rfl rfl (by kernel_rfl) (by kernel_rfl) (by kernel_rfl) (fun _ _ _ h => h) (by rfl) ?_ hHeld ?_
  rotate_left
  · intro w hSw
    try dsimp only at hSw
    go_simp <;> with_reducible rfl
  try simp only [Act.put, List.setIfInBounds_toArray, List.set_cons_zero, List.set_cons_succ]
  refine takeH (d := some 7) (v := ?_) 2 rfl rfl (by kernel_rfl) (by kernel_rfl) (by kernel_rfl) (fun _ _ _ h => h) (by rfl) ?_ hHeld ?_
  rotate_left
  · intro w hSw
    try dsimp only at hSw
    go_simp <;> with_reducible rfl
  try simp only [Act.put, List.setIfInBounds_toArray, List.set_cons_zero, List.set_cons_succ]
  refine takeH (d := some 8) (v := ?_) 3 rfl rfl (by kernel_rfl) (by kernel_rfl) (by kernel_rfl) (fun _ _ _ h => h) (by rfl) ?_ hHeld ?_
  rotate_left
  · intro w hSw
    try dsimp only at hSw
    go_simp <;> with_reducible rfl
  try simp only [Act.put, List.setIfInBounds_toArray, List.set_cons_zero, List.set_cons_succ]
  refine takeH (d := some 9) (v := ?_) 4 rfl rfl (by kernel_rfl) (by kernel_rfl) (by kernel_rfl) (fun _ _ _ h => h) (by rfl) ?_ hHeld ?_
  rotate_left
  · intro w hSw
    try dsimp only at hSw
    go_simp <;> with_reducible rfl
  try simp only [Act.put, List.setIfInBounds_toArray, List.set_cons_zero, List.set_cons_succ]
  refine takeH (d := some 10) (v := ?_) 5 rfl rfl (by kernel_rfl) (by kernel_rfl) (by kernel_rfl) (fun _ _ _ h => h) (by rfl) ?_ hHeld ?_
  rotate_left
  · intro w hSw
    try dsimp only at hSw
    go_simp <;> with_reducible rfl
  try simp only [Act.put, List.setIfInBounds_toArray, List.set_cons_zero, List.set_cons_succ]
  refine takeH (d := some 11) (v := ?_) 6 rfl rfl (by kernel_rfl) (by kernel_rfl) (by kernel_rfl) (fun _ _ _ h => h) (by rfl) ?_ hHeld ?_
  rotate_left
  · intro w hSw
    try dsimp only at hSw
    go_simp <;> with_reducible rfl
  try simp only [Act.put, List.setIfInBounds_toArray, List.set_cons_zero, List.set_cons_succ]
  refine takeH (d := some 12) (v := ?_) 7 rfl rfl (by kernel_rfl) (by kernel_rfl) (by kernel_rfl) (fun _ _ _ h => h) (by rfl) ?_ hHeld ?_
  rotate_left
  · intro w hSw
    try dsimp only at hSw
    go_simp <;> with_reducible rfl
  try simp only [Act.put, List.setIfInBounds_toArray, List.set_cons_zero, List.set_cons_succ]
  refine takeH (d := some 13) (v := .int .u8 q) 8 rfl rfl (by kernel_rfl) (by kernel_rfl) (by kernel_rfl) (fun _ _ _ h => h) (by rfl) (fun w hSw => by (try dsimp only at hSw); go_simp; rw [HQ.out]) hHeld ?_
  try simp only [Act.put, List.setIfInBounds_toArray, List.set_cons_zero, List.set_cons_succ]
  refine takeH (d := some 3) (v := ?_) 9 rfl rfl (by kernel_rfl) (by kernel_rfl) (by kernel_rfl) (fun _ _ _ h => h) (by rfl) ?_ hHeld ?_
  rotate_left
  · intro w hSw
    try dsimp only at hSw
    go_simp <;> with_reducible rfl
  try simp only [Act.put, List.setIfInBounds_toArray, List.set_cons_zero, List.set_cons_succ]
  refine wpAnyH_done (by kernel_rfl) ?_ _
  clear hHeld
  generalize w.drew = w1 at *
  go_wp2_with fail
  refine (letter_q HQ.out _).mono ?_
  rw [HL.out]
  rintro e w2 ⟨rfl, hB⟩
  replace HR := Aside0.mk (HR.out.after hB)
  replace HB := Aside0.mk (below_then HB.out HB.out.size hB)
  clear hB
  go_wp2_with fail
  refine (digit_q HQ.out _).mono ?_
  rw [HD.out]
  rintro e w3 ⟨rfl, hB⟩
  replace HR := Aside0.mk (HR.out.after hB)
  replace HB := Aside0.mk (below_then HB.out HB.out.size hB)
  clear hB
  go_wp2_with fail
  refine (span_calls HR.out false (by omega) hs).mono ?_
  rintro e w4 ⟨rfl, hB⟩
  replace HR := Aside0.mk (HR.out.after hB)
  replace HB := Aside0.mk (below_then HB.out HB.out.size hB)
  clear hB
  have hx := span_text s a false (by omega)
  rw [HM.out] at hx
  generalize s.extract a (a + spanN s a false) = t at *
  have hz : t.size = m.length := by rw [← hx]; simp
  have HTB := Aside0.mk (show bytesS m = t by rw [← hx]; exact bytes_of t)
  have hms : a + m.length ≤ s.size := by rw [← HM.out]; have := (List.takeWhile_sublist (spanP false) (l := s.data.toList.drop a)).length_le; simp at this; omega
  have hdg : ∀ c ∈ t.data.toList, digU c = true := by
    intro c hc
    rw [hx, ← HM.out, span_false] at hc
    exact takeWhile_all _ _ c hc
  have HDG := Aside0.mk hdg
  have HZ := Aside0.mk hz
  clear hx hz hdg
  go_wp2_with fail
  refine (number_calls HR.out t HDG.out (by rw [HZ.out]; exact hm1) (by rw [HZ.out]; exact hms) hs hl).mono ?_
  rw [HZ.out, HH.out]
  intro e w5 hp
  rw [← HTB.out, ← HE.out] at hp
  obtain ⟨vv, rfl⟩ := hp.ret
  have HP := Aside0.mk (hp.of HB.out)
  clear hp
  go_wp2_with fail
  go_ret
  exact HP.out
end Go.Proofs.Ytjmpejbciniceaa.X
