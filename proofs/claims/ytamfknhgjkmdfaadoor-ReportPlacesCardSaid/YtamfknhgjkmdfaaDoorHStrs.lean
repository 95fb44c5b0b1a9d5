/- A slice of strings that the call makes: append, load, store. -/
import Derived.Test.YtamfknhgjkmdfaaDoorHWakes
namespace Go.Proofs.YtamfknhgjkmdfaaDoor.X
open Go.RowKit Go.Proofs.YtamfknhgjkmdfaaDoorW.PrintWords Go.Proofs.YtamfknhgjkmdfaaDoorW.PrintLast Go.Proofs.YtamfknhgjkmdfaaDoorW.PrintMore
set_option linter.unusedVariables false
set_option linter.unusedSimpArgs false
theorem info9 : (Tryd.prog.info? 9).map (fun i => (i.zero, i.size, i.bytes)) = some (some (.string ⟨#[]⟩), 1, 16) := by kernel_rfl
/-- A row of strings that the call owns. -/
def OwnS (base : Nat) (v : Value) (xs : List ByteArray) (W : World) : Prop := W.ownsRow base 9 1 v xs.length (xs.map Value.string)
theorem push_strs (base : Nat) (v : Value) (xs : List ByteArray) (W : World) (h : OwnS base v xs W) (y : ByteArray) (hb : base ≤ W.heap.size) (hl : xs.length ≤ 1000000) :
    ∃ v1 w1, (Builtin.append_ #[41, 41] 41 #[v, .slice (some ⟨W.heap.size, 0, none⟩) 1 1]).run Tryd.prog (W.alloc (.cells #[.string y] 9)) = .ok v1 w1 ∧ OwnS base v1 (xs ++ [y]) w1 ∧ (W.alloc (.cells #[.string y] 9)).grownBy w1 v.ownBlock := by
  obtain ⟨i0, hi, hz, hz1, hz2⟩ := info_parts info9
  have hN := heap_alloc_new W (.cells #[.string y] 9)
  obtain ⟨v1, w1, hr, h2, h3, _, h5⟩ := run_append_own_at (P := Tryd.prog) (W.alloc (.cells #[.string y] 9)) base 41 41 9 i0 (.string ⟨#[]⟩) 1 16 Tryd.underlying41 hi hz hz1 hz2 rfl (by omega) v xs.length (xs.map Value.string) (h.alloc _) ⟨W.heap.size, 0, none⟩ 1 1 [.string y] rfl (fun j u hj => by
    rw [show (⟨W.heap.size, 0, none⟩ : Addr).add j = ⟨W.heap.size, j, none⟩ by unfold Addr.add; split <;> simp_all, cell_of_row _ _ _ _ 9 (0, 0) hN]
    simpa using hj) (by intro u hu; simp at hu; subst hu; rfl) (by unfold maxLen; omega) (by omega) (by simp; omega)
  refine ⟨v1, w1, hr, ?_, h3⟩
  unfold OwnS
  rw [List.length_append, List.map_append]; exact h2
theorem push_strs_step {ops : Array Oper} {rest : List Oper} {o : Oper} {a : Act} {Q : Exit → Act → World → Prop} {W : World} (base : Nat) (v : Value) (xs : List ByteArray) (y : ByteArray) (hgd : o.guard = none) (s x : Operand)
    (ho : o.op = .call { callee := .builtin .append, args := #[s, x], argTypes := #[41, 41] }) (hty : o.type = 41) (hs : a.eval s = v) (hx : a.eval x = .slice (some ⟨W.heap.size, 0, none⟩) 1 1)
    (HO : OwnS base v xs W) (hb : base ≤ W.heap.size) (hl : xs.length ≤ 1000000)
    (h : ∀ v1 w1, OwnS base v1 (xs ++ [y]) w1 → (W.alloc (.cells #[.string y] 9)).grownBy w1 v.ownBlock → wpList Tryd.prog ops Q rest (a.put o.dst v1) w1) :
    wpList Tryd.prog ops Q (o :: rest) a (W.alloc (.cells #[.string y] 9)) := by
  refine wpList_plain hgd fun K hK => ?_
  obtain ⟨v', w', hr, h2, h3⟩ := push_strs base v xs W HO y hb hl
  unfold Oper.wp execOp
  simp only [ho, hty, resolve, invoke, builtin, Sem.run_bind, Sem.run_pure, Result.andThen_ok, List.map_toArray, List.map_cons, List.map_nil, hs, hx, hr]
  exact hK _ _ (h v' w' h2 h3)
/-- What holds of the lines made so far. -/
structure LIn (wx : World) (v : Value) (xs : List ByteArray) (wr : World) : Prop where
  own : OwnS wx.heap.size v xs wr
  below : Below wx.heap.size wx wr
theorem LIn.push {wx : World} {v v1 : Value} {xs : List ByteArray} {y : ByteArray} {wr w1 : World} (h : LIn wx v xs wr) (ho : OwnS wx.heap.size v1 (xs ++ [y]) w1) (hg : (wr.alloc (.cells #[.string y] 9)).grownBy w1 v.ownBlock) : LIn wx v1 (xs ++ [y]) w1 :=
  ⟨ho, (h.below.alloc h.below.size _).grown hg (by have := h.below.size; simp; omega) (own_base h.own)⟩
theorem LIn.open_ {wx : World} {v : Value} {xs : List ByteArray} {x : ByteArray} {wr : World} (h : LIn wx v (xs ++ [x]) wr) :
    ∃ g cap, v = .slice (some ⟨g, 0, none⟩) (xs.length + 1) cap ∧ (∀ i y, (xs ++ [x])[i]? = some y → wr.cell? ⟨g, i, none⟩ = some (.string y)) ∧ wr.frozen? ⟨g, xs.length, none⟩ = false ∧
      ∀ w1, (Below wr.heap.size wr w1) → ∀ y, LIn wx v (xs ++ [y]) (w1.setCell ⟨g, xs.length, none⟩ (.string y)) := by
  have h0 := h.own
  rcases h.own.2 with ⟨_, h0⟩ | ⟨g, cap, cur, rfl, hb, hg, hn, hm, hsz, htk⟩
  · simp at h0
  · have hlen : (xs ++ [x]).length = xs.length + 1 := by simp
    refine ⟨g, cap, by rw [hlen], fun i y hy => ?_, blk_frozen hg _, fun w1 hb1 y => ⟨?_, ?_⟩⟩
    · have := h0.cells (g := g) rfl i (.string y) (by rw [List.getElem?_map, hy]; rfl)
      rwa [show (⟨g, 0, none⟩ : Addr).add i = ⟨g, i, none⟩ by unfold Addr.add; split <;> simp_all] at this
    · have hg1 : w1.heap[g]? = some (.cells cur 9 (0, 0)) := blk_below hg hb1
      have hp := blk_put hg1 xs.length (.string y) rfl
      have hc : xs.length < cur.size := by rw [hlen] at hn; omega
      refine ⟨by simp, .inr ⟨g, cap, _, ?_, hb, hp, ?_, hm, by simpa using hsz, ?_⟩⟩
      · rw [hlen]; simp
      · rw [hlen] at hn; simpa using hn
      · rw [hlen] at htk
        simp only [Nat.mul_one] at htk ⊢
        rw [List.length_append, List.length_singleton, Array.toList_setIfInBounds]
        have hl2 : xs.length + 1 ≤ cur.toList.length := by rw [Array.length_toList]; exact hc
        rw [List.map_append] at htk ⊢
        rw [List.take_add_one] at htk ⊢
        have hA : cur.toList.take xs.length = xs.map Value.string := by
          have := congrArg (List.take xs.length) htk
          rw [List.take_left' (by rw [List.length_take]; omega), List.take_left' (by simp)] at this
          exact this
        rw [List.take_set_of_le (by omega), hA, List.getElem?_set_self (by omega)]
        rfl
    · exact (below_then h.below h.below.size hb1).setCell (p := ⟨g, xs.length, none⟩) hb _
end Go.Proofs.YtamfknhgjkmdfaaDoor.X
