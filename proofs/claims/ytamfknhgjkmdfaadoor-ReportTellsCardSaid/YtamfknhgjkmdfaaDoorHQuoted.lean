/- report.quoted by its contract. -/
import Derived.Test.YtamfknhgjkmdfaaDoorHWords
namespace Go.Proofs.YtamfknhgjkmdfaaDoor.X
open Go.RowKit Go.Proofs.YtamfknhgjkmdfaaDoorW.PrintWords Go.Proofs.YtamfknhgjkmdfaaDoorW.PrintLast Go.Proofs.YtamfknhgjkmdfaaDoorW.PrintMore
set_option linter.unusedVariables false
set_option linter.unusedSimpArgs false
def hexB (x : Nat) : UInt8 := ([48, 49, 50, 51, 52, 53, 54, 55, 56, 57, 97, 98, 99, 100, 101, 102] : List UInt8).getD x 0
/-- A byte as it is told. -/
def quoteB (c : UInt8) : List UInt8 := if c = 34 ∨ c = 92 then [92, c] else if c.toNat < 32 ∨ 126 < c.toNat then [92, 120, hexB (c.toNat / 16), hexB (c.toNat % 16)] else [c]
/-- A word as it is told. -/
def quotedB (l : List UInt8) : List UInt8 := [34] ++ l.flatMap quoteB ++ [34]
theorem quote_one (c : UInt8) : (quoteB c).length ≤ 4 := by unfold quoteB; split; simp; split <;> simp
theorem quote_len (l : List UInt8) (j : Nat) (h : l.length ≤ j) : ([34] ++ l.flatMap quoteB).length ≤ 1 + 4 * j := by
  have : ∀ m : List UInt8, (m.flatMap quoteB).length ≤ 4 * m.length := by
    intro m
    induction m with
    | nil => simp
    | cons c m ih => have := quote_one c; rw [List.flatMap_cons, List.length_append, List.length_cons]; omega
  have := this l
  rw [List.length_append]; simp only [List.length_cons, List.length_nil]; omega
theorem info5 : (Tryd.prog.info? 5).map (fun i => (i.zero, i.size, i.bytes)) = some (some (.int .u8 0), 1, 1) := by kernel_rfl
def cellsB (l : List UInt8) : List Value := l.map fun b => Value.int .u8 (b.toNat : Int)
/-- A row of bytes that the call owns. -/
def OwnB (base : Nat) (v : Value) (l : List UInt8) (W : World) : Prop := W.ownsRow base 5 1 v l.length (cellsB l)
theorem push_bytes (base : Nat) (v : Value) (l : List UInt8) (W : World) (h : OwnB base v l W) (news : List UInt8) (hb : base ≤ W.heap.size) (hl : l.length + news.length ≤ 140737488355328) :
    ∃ v1 w1, (Builtin.append_ #[59, 59] 59 #[v, .slice (some ⟨W.heap.size, 0, none⟩) news.length news.length]).run Tryd.prog (W.alloc (.cells (cellsB news).toArray 5)) = .ok v1 w1 ∧ OwnB base v1 (l ++ news) w1 ∧ (W.alloc (.cells (cellsB news).toArray 5)).grownBy w1 v.ownBlock ∧ (v1.ownBlock = v.ownBlock ∨ v1.ownBlock = some (W.heap.size + 1)) := by
  obtain ⟨i0, hi, hz, hz1, hz2⟩ := info_parts info5
  have hN := heap_alloc_new W (.cells (cellsB news).toArray 5)
  obtain ⟨v1, w1, hr, h2, h3, _, h5⟩ := run_append_own_at (P := Tryd.prog) (W.alloc (.cells (cellsB news).toArray 5)) base 59 59 5 i0 (.int .u8 0) 1 1 Tryd.underlying59 hi hz hz1 hz2 rfl (by omega) v l.length (cellsB l) (h.alloc _) ⟨W.heap.size, 0, none⟩ news.length news.length (cellsB news) (by simp [cellsB]) (fun j u hj => by
    rw [show (⟨W.heap.size, 0, none⟩ : Addr).add j = ⟨W.heap.size, j, none⟩ by unfold Addr.add; split <;> simp_all, cell_of_row _ _ _ _ 5 (0, 0) hN]
    simpa using hj) (by intro u hu; simp only [cellsB, List.mem_map] at hu; obtain ⟨b, _, rfl⟩ := hu; rfl) (by unfold maxLen; omega) (by omega) (by simp; omega)
  refine ⟨v1, w1, hr, ?_, h3, by simpa using h5⟩
  unfold OwnB
  have e : cellsB (l ++ news) = cellsB l ++ cellsB news := by simp [cellsB]
  rw [e, List.length_append]; exact h2
theorem push_step {ops : Array Oper} {rest : List Oper} {o : Oper} {a : Act} {Q : Exit → Act → World → Prop} {W : World} (base : Nat) (v : Value) (l news : List UInt8) (C : Array Value) (hgd : o.guard = none) (s x : Operand)
    (ho : o.op = .call { callee := .builtin .append, args := #[s, x], argTypes := #[59, 59] }) (hty : o.type = 59) (hs : a.eval s = v) (hx : a.eval x = .slice (some ⟨W.heap.size, 0, none⟩) news.length news.length) (hC : (cellsB news).toArray = C)
    (HO : OwnB base v l W) (hb : base ≤ W.heap.size) (hl : l.length + news.length ≤ 140737488355328)
    (h : ∀ v1 w1, OwnB base v1 (l ++ news) w1 → (W.alloc (.cells C 5)).grownBy w1 v.ownBlock → (v1.ownBlock = v.ownBlock ∨ v1.ownBlock = some (W.heap.size + 1)) → wpList Tryd.prog ops Q rest (a.put o.dst v1) w1) :
    wpList Tryd.prog ops Q (o :: rest) a (W.alloc (.cells C 5)) := by
  subst hC
  refine wpList_plain hgd fun K hK => ?_
  obtain ⟨v', w', hr, h2, h3, h4⟩ := push_bytes base v l W HO news hb hl
  unfold Oper.wp execOp
  simp only [ho, hty, resolve, invoke, builtin, Sem.run_bind, Sem.run_pure, Result.andThen_ok, List.map_toArray, List.map_cons, List.map_nil, hs, hx, hr]
  exact hK _ _ (h v' w' h2 h3 h4)
theorem push_hold {ops : Array Oper} {Q : Exit → Act → World → Prop} {md : Region.Mode} {S : World → Prop} {W : World} (i d : Nat) (base : Nat) (v : Value) (l news : List UInt8) (C : Array Value) (s x : Operand) {oi : Oper} {fuel : Nat} {listed : Array Bool} {a : Act}
    (hs : a.eval s = v) (hx : a.eval x = .slice (some ⟨W.heap.size, 0, none⟩) news.length news.length) (hC : (cellsB news).toArray = C)
    (HO : OwnB base v l W) (hb : base ≤ W.heap.size) (hl : l.length + news.length ≤ 140737488355328)
    (h : ∀ v1 w1, OwnB base v1 (l ++ news) w1 → (W.alloc (.cells C 5)).grownBy w1 v.ownBlock → (v1.ownBlock = v.ownBlock ∨ v1.ownBlock = some (W.heap.size + 1)) → S w1 ∧ (S w1 → wpAnyH Tryd.prog md ops Q S fuel (listed.setIfInBounds i true) (a.put (some d) v1) w1))
    (hi : ops[i]? = some oi := by rfl) (ho : oi.op = .call { callee := .builtin .append, args := #[s, x], argTypes := #[59, 59] } := by rfl) (hty : oi.type = 59 := by rfl) (hd : oi.dst = some d := by rfl) (hr : Region.ready md ops listed = [i] := by kernel_rfl) (hw : Region.wanted oi (yielded ops a.tmps) = true := by rfl) :
    wpAnyH Tryd.prog md ops Q S (fuel + 1) listed a (W.alloc (.cells C 5)) := by
  subst hC
  refine wpAnyH_ready (rs := [i]) hr (by simp) (AllReadyH.cons hi (fun K hK => ?_) AllReadyH.nil)
  rw [if_pos hw]
  obtain ⟨v', w', hr, h2, h3, h4⟩ := push_bytes base v l W HO news hb hl
  unfold Oper.wp execOp
  simp only [ho, hty, resolve, invoke, builtin, Sem.run_bind, Sem.run_pure, Result.andThen_ok, List.map_toArray, List.map_cons, List.map_nil, hs, hx, hr]
  obtain ⟨hS, hW⟩ := h v' w' h2 h3 h4
  rw [← hd] at hW
  exact hK.out _ _ hS hW
theorem hex_get (k : Nat) (h : k < 16) (h' : k < (⟨#[48, 49, 50, 51, 52, 53, 54, 55, 56, 57, 97, 98, 99, 100, 101, 102]⟩ : ByteArray).size) : (⟨#[48, 49, 50, 51, 52, 53, 54, 55, 56, 57, 97, 98, 99, 100, 101, 102]⟩ : ByteArray)[k]'h' = hexB k := by
  have hk : k = 0 ∨ k = 1 ∨ k = 2 ∨ k = 3 ∨ k = 4 ∨ k = 5 ∨ k = 6 ∨ k = 7 ∨ k = 8 ∨ k = 9 ∨ k = 10 ∨ k = 11 ∨ k = 12 ∨ k = 13 ∨ k = 14 ∨ k = 15 := by omega
  rcases hk with rfl | rfl | rfl | rfl | rfl | rfl | rfl | rfl | rfl | rfl | rfl | rfl | rfl | rfl | rfl | rfl <;> rfl
theorem low_four (x : UInt8) : bits BinOp.and IntKind.u8 (x.toNat : Int) 15 = ((x.toNat % 16 : Nat) : Int) := by
  have h : ∀ n : Fin 256, bits BinOp.and IntKind.u8 (n.val : Int) 15 = ((n.val % 16 : Nat) : Int) := by decide +kernel
  exact h ⟨x.toNat, x.toNat_lt⟩
theorem conv_own {base : Nat} {v : Value} {l : List UInt8} {W : World} (h : OwnB base v l W) (hl : 0 < l.length) : (convert 59 9 v).run Tryd.prog W = .ok (.string ⟨l.toArray⟩) W := by
  have h0 := h
  rcases h.2 with ⟨_, h0⟩ | ⟨g, cap, cur, rfl, hb, hg, hn, hm, hsz, htk⟩
  · omega
  · refine run_convert_bytes_back W 59 9 5 ⟨g, 0, none⟩ cap l Tryd.underlying59 Tryd.underlying5 Tryd.underlying9 (fun j hj => ?_)
    refine h0.cells (g := g) rfl j _ ?_
    simp [cellsB, List.getElem?_map, List.getElem?_eq_getElem hj]
/-- What holds around the loop. -/
structure QIn (w : World) (s : ByteArray) (b : Value) (l : List UInt8) (wr : World) : Prop where
  own : OwnB w.heap.size b l wr
  ne : b.ownBlock ≠ some (w.heap.size + 1)
  size : w.heap.size + 1 < wr.heap.size
  cells : ∀ j, j < s.size → wr.cell? ⟨w.heap.size + 1, j, none⟩ = some (.int .u8 ((s.data.toList.getD j 0).toNat : Int))
  below : Below w.heap.size w wr
theorem QIn.push {w : World} {s : ByteArray} {b v1 : Value} {l news : List UInt8} {wr w3 : World} {C : Array Value} (h : QIn w s b l wr) (ho : OwnB w.heap.size v1 (l ++ news) w3) (hg : (wr.alloc (.cells C 5)).grownBy w3 b.ownBlock) (hv : v1.ownBlock = b.ownBlock ∨ v1.ownBlock = some (wr.heap.size + 1)) :
    QIn w s v1 (l ++ news) w3 := by
  refine ⟨ho, ?_, Nat.lt_of_lt_of_le h.size (Nat.le_trans (by simp) hg.size), fun j hj => ?_, (h.below.alloc h.below.size _).grown hg (by have := h.below.size; simp; omega) (own_base h.own)⟩
  · rcases hv with hv | hv
    · rw [hv]; exact h.ne
    · rw [hv]; have := h.size; simp; omega
  · refine hg.cell ?_ (Ne.symm h.ne)
    rw [World.cell?_alloc_lt _ _ _ h.size]
    exact h.cells j hj
set_option maxRecDepth 100000 in
set_option maxHeartbeats 3200000 in
theorem quoted_calls (s : ByteArray) (w : World) (hs : s.size ≤ 4000000000) :
    Calls Tryd.prog 20 #[.string s] w fun e w' => e = .returned (.string ⟨(quotedB s.data.toList).toArray⟩) ∧ Below w.heap.size w w' := by
  have hcv : ∀ (W : World), (convert 9 59 (.string s)).run Tryd.prog W = .ok (.slice (some ⟨W.heap.size, 0, none⟩) s.size (grownCap W s.size 0 5)) (Lib.bytesWorld W 5 s) := fun W => Lib.run_convert_string_bytes W 9 59 5 s Tryd.underlying9 Tryd.underlying59 Tryd.underlying5
  go_enter Tryd.func20, Tryd.ntmps20
  go_wp2_with fail
  have hB1 : Below w.heap.size w (w.alloc (.cells #[.int .u8 34] 5)) := (Below.refl _ _).alloc (Nat.le_refl _) _
  have K0 := Aside0.mk (heap_alloc_new w (.cells #[.int .u8 34] 5))
  have HSZ : Aside0 ((w.alloc (.cells #[.int .u8 34] 5)).heap.size = w.heap.size + 1) := .mk (by simp)
  generalize w.alloc (.cells #[.int .u8 34] 5) = w1 at *
  have hB2 := bytes_below w1 s
  have HC : Aside0 (∀ j, j < s.size → (Lib.bytesWorld w1 5 s).cell? ⟨w.heap.size + 1, j, none⟩ = some (.int .u8 ((s.data.toList.getD j 0).toNat : Int))) := .mk (fun j hj => by rw [← HSZ.out]; exact Lib.bytesWorld_cell w1 5 s j hj)
  replace K0 := Aside0.mk (blk_below K0.out hB2)
  have hB3 := below_then hB1 hB1.size hB2
  have HB := Aside0.mk hB3
  have HZ2 : Aside0 ((Lib.bytesWorld w1 5 s).heap.size = w.heap.size + 1 + 1) := .mk (by rw [Lib.bytesWorld_size, HSZ.out])
  have htn : Aside0 (s.data.toList.length = s.size) := .mk (by simp)
  clear hB1 hB2 hB3 HSZ hcv
  generalize Lib.bytesWorld w1 5 s = w2 at *
  generalize grownCap w1 s.size 0 5 = cap
  have HO : Aside0 (OwnB w.heap.size (.slice (some ⟨w.heap.size, 0, none⟩) 1 1) [34] w2) := .mk ⟨rfl, .inr ⟨w.heap.size, 1, #[.int .u8 34], rfl, Nat.le_refl _, K0.out, Nat.le_refl _, by decide, rfl, rfl⟩⟩
  have HI := Aside0.mk (show QIn w s (.slice (some ⟨w.heap.size, 0, none⟩) 1 1) [34] w2 from ⟨HO.out, by simp [Value.ownBlock], by rw [HZ2.out]; omega, HC.out, HB.out⟩)
  clear HB K0 HC HZ2 HO
  go_loopw [3, 10] (fun b i wr => ∃ j : Nat, i = .int .i64 j ∧ j ≤ s.size ∧ QIn w s b ([34] ++ (s.data.toList.take j).flatMap quoteB) wr) (fun _ i _ => s.size - (intOf i).toNat)
  case atStart => exact ⟨0, rfl, Nat.zero_le _, HI.out⟩
  case round =>
    obtain ⟨j, rfl, hj, hi⟩ := hrel
    clear HI
    have HI := Aside0.mk hi
    clear hi
    by_cases hlt : j < s.size
    · have HT : Aside0 ([34] ++ (s.data.toList.take (j + 1)).flatMap quoteB = ([34] ++ (s.data.toList.take j).flatMap quoteB) ++ quoteB (s.data.toList.getD j 0)) := .mk (by
        rw [List.take_add_one, List.getD_eq_getElem?_getD, List.getElem?_eq_getElem (by rw [htn.out]; exact hlt)]; simp)
      have hx := HI.out.cells j hlt
      have hLl : Aside0 (([34] ++ (s.data.toList.take j).flatMap quoteB).length ≤ 1 + 4 * j) := .mk (quote_len _ _ (by simp; omega))
      generalize s.data.toList.getD j 0 = x at *
      generalize [34] ++ (s.data.toList.take j).flatMap quoteB = l at *
      by_cases h34 : x = 34 ∨ x = 92
      · have hq : Aside0 (quoteB x = [92, x]) := .mk (if_pos h34)
        have e0 : ((x.toNat : Int) == 34) = true ∨ (((x.toNat : Int) == 34) = false ∧ ((x.toNat : Int) == 92) = true) := by
          rcases h34 with rfl | rfl
          · exact .inl rfl
          · exact .inr ⟨rfl, rfl⟩
        clear h34
        rcases e0 with e0 | ⟨e0, e1⟩
        · go_wp2_with (at_builtin; refine push_step w.heap.size u3 l [92, x] _ rfl _ _ rfl rfl rfl rfl rfl HI.out.own HI.out.below.size (by have := hLl.out; simp only [List.length_cons, List.length_nil]; omega) ?_; rintro v1 w3 ho2 hg hv1; have HV := Aside0.mk ho2; have HG := Aside0.mk hg; have HV1 := Aside0.mk hv1; clear ho2 hg hv1)
          have hp := HI.out.push HV.out HG.out HV1.out
          rw [← hq.out, ← HT.out] at hp
          exact ⟨⟨j + 1, by simp, by omega, hp⟩, by simp [intOf]; omega⟩
        · go_wp2_with (at_builtin; refine push_step w.heap.size u3 l [92, x] _ rfl _ _ rfl rfl rfl rfl rfl HI.out.own HI.out.below.size (by have := hLl.out; simp only [List.length_cons, List.length_nil]; omega) ?_; rintro v1 w3 ho2 hg hv1; have HV := Aside0.mk ho2; have HG := Aside0.mk hg; have HV1 := Aside0.mk hv1; clear ho2 hg hv1)
          have hp := HI.out.push HV.out HG.out HV1.out
          rw [← hq.out, ← HT.out] at hp
          exact ⟨⟨j + 1, by simp, by omega, hp⟩, by simp [intOf]; omega⟩
      · have e0 : ((x.toNat : Int) == 34) = false := by
          simp only [beq_eq_false_iff_ne, ne_eq]; intro h; exact h34 (.inl (UInt8.toNat_inj.1 (show x.toNat = 34 by omega)))
        have e1 : ((x.toNat : Int) == 92) = false := by
          simp only [beq_eq_false_iff_ne, ne_eq]; intro h; exact h34 (.inr (UInt8.toNat_inj.1 (show x.toNat = 92 by omega)))
        by_cases hh : x.toNat < 32 ∨ 126 < x.toNat
        · have hq : Aside0 (quoteB x = [92, 120, hexB (x.toNat / 16), hexB (x.toNat % 16)]) := .mk ((if_neg h34).trans (if_pos hh))
          have e2 : (decide ((x.toNat : Int) < 32)) = true ∨ ((decide ((x.toNat : Int) < 32)) = false ∧ decide (126 < (x.toNat : Int)) = true) := by
            by_cases h1 : x.toNat < 32
            · exact .inl (by simp; omega)
            · exact .inr ⟨by simp; omega, by simp; omega⟩
          clear h34 hh
          rcases e2 with e2 | ⟨e2, e3⟩
          · go_wp2_with fail
            have hd : Aside0 (((x.toNat : Int) / 16) = ((x.toNat / 16 : Nat) : Int)) := .mk (by omega)
            have HP := Aside0.mk (show x.toNat / 16 < 16 by have := x.toNat_lt; omega)
            have HQ' := Aside0.mk (show x.toNat % 16 < 16 by omega)
            have hB1 : Below wr.heap.size wr wr.drew := (Below.refl _ _).drew
            have HI2 : Aside0 (QIn w s u3 l wr.drew) := .mk ⟨HI.out.own, HI.out.ne, HI.out.size, HI.out.cells, HI.out.below.drew⟩
            refine wp_region_held_drew (S := fun w' => True) (by kernel_rfl) trivial (fun hHeld => ?_)
            clear hB1 HI
            generalize wr.drew = wd at *
            refine tK 34 0 hHeld ?_
            refine tK 35 1 hHeld ?_
            refine tK 38 4 hHeld ?_
            refine tK 36 2 hHeld ?_
            refine tK 39 5 hHeld ?_
            rw [low_four, hd.out]
            generalize x.toNat / 16 = p at *
            generalize x.toNat % 16 = q at *
            refine tK (v := .int .u8 ((hexB p).toNat : Int)) 37 3 hHeld ?_ (hy := fun w hS => by go_simp; rw [dif_pos (by have := HP.out; omega), Result.andThen_ok, hex_get p HP.out])
            refine tK (v := .int .u8 ((hexB q).toNat : Int)) 40 6 hHeld ?_ (hy := fun w hS => by go_simp; rw [dif_pos (by have := HQ'.out; omega), Result.andThen_ok, hex_get q HQ'.out])
            refine wpAnyH_ready (rs := [7]) (by kernel_rfl) (by simp) ?_
            refine AllReadyH.cons rfl (fun K hK => ?_) AllReadyH.nil
            go_simp
            refine hK.out _ _ trivial (fun hHeld => ?_)
            clear hK K
            try simp only [Act.put, List.setIfInBounds_toArray, List.set_cons_zero, List.set_cons_succ]
            refine push_hold 8 42 w.heap.size u3 l [92, 120, hexB p, hexB q] _ (.tmp 34) (.tmp 41) rfl rfl rfl HI2.out.own HI2.out.below.size (by have := hLl.out; simp only [List.length_cons, List.length_nil]; omega) ?_
            intro v1 w3 ho2 hg hv1
            have HV := Aside0.mk ho2
            have HG := Aside0.mk hg
            have HV1 := Aside0.mk hv1
            clear ho2 hg hv1
            refine ⟨trivial, fun hHeld => nA ?_⟩
            refine tK 3 9 hHeld ?_
            refine wpAnyH_done (by kernel_rfl) ?_ _
            go_wp2_with fail
            have HI := HI2
            have hp := HI.out.push HV.out HG.out HV1.out
            rw [← hq.out, ← HT.out] at hp
            exact ⟨⟨j + 1, by simp, by omega, hp⟩, by simp [intOf]; omega⟩
          · go_wp2_with fail
            have hd : Aside0 (((x.toNat : Int) / 16) = ((x.toNat / 16 : Nat) : Int)) := .mk (by omega)
            have HP := Aside0.mk (show x.toNat / 16 < 16 by have := x.toNat_lt; omega)
            have HQ' := Aside0.mk (show x.toNat % 16 < 16 by omega)
            have hB1 : Below wr.heap.size wr wr.drew := (Below.refl _ _).drew
            have HI2 : Aside0 (QIn w s u3 l wr.drew) := .mk ⟨HI.out.own, HI.out.ne, HI.out.size, HI.out.cells, HI.out.below.drew⟩
            refine wp_region_held_drew (S := fun w' => True) (by kernel_rfl) trivial (fun hHeld => ?_)
            clear hB1 HI
            generalize wr.drew = wd at *
            refine tK 34 0 hHeld ?_
            refine tK 35 1 hHeld ?_
            refine tK 38 4 hHeld ?_
            refine tK 36 2 hHeld ?_
            refine tK 39 5 hHeld ?_
            rw [low_four, hd.out]
            generalize x.toNat / 16 = p at *
            generalize x.toNat % 16 = q at *
            refine tK (v := .int .u8 ((hexB p).toNat : Int)) 37 3 hHeld ?_ (hy := fun w hS => by go_simp; rw [dif_pos (by have := HP.out; omega), Result.andThen_ok, hex_get p HP.out])
            refine tK (v := .int .u8 ((hexB q).toNat : Int)) 40 6 hHeld ?_ (hy := fun w hS => by go_simp; rw [dif_pos (by have := HQ'.out; omega), Result.andThen_ok, hex_get q HQ'.out])
            refine wpAnyH_ready (rs := [7]) (by kernel_rfl) (by simp) ?_
            refine AllReadyH.cons rfl (fun K hK => ?_) AllReadyH.nil
            go_simp
            refine hK.out _ _ trivial (fun hHeld => ?_)
            clear hK K
            try simp only [Act.put, List.setIfInBounds_toArray, List.set_cons_zero, List.set_cons_succ]
            refine push_hold 8 42 w.heap.size u3 l [92, 120, hexB p, hexB q] _ (.tmp 34) (.tmp 41) rfl rfl rfl HI2.out.own HI2.out.below.size (by have := hLl.out; simp only [List.length_cons, List.length_nil]; omega) ?_
            intro v1 w3 ho2 hg hv1
            have HV := Aside0.mk ho2
            have HG := Aside0.mk hg
            have HV1 := Aside0.mk hv1
            clear ho2 hg hv1
            refine ⟨trivial, fun hHeld => nA ?_⟩
            refine tK 3 9 hHeld ?_
            refine wpAnyH_done (by kernel_rfl) ?_ _
            go_wp2_with fail
            have HI := HI2
            have hp := HI.out.push HV.out HG.out HV1.out
            rw [← hq.out, ← HT.out] at hp
            exact ⟨⟨j + 1, by simp, by omega, hp⟩, by simp [intOf]; omega⟩
        · have hq : Aside0 (quoteB x = [x]) := .mk ((if_neg h34).trans (if_neg hh))
          have e2 : ¬ ((x.toNat : Int) < 32) := by omega
          have e3 : ¬ (126 < (x.toNat : Int)) := by omega
          clear h34 hh
          go_wp2_with (at_builtin; refine push_step w.heap.size u3 l [x] _ rfl _ _ rfl rfl rfl rfl rfl HI.out.own HI.out.below.size (by have := hLl.out; simp only [List.length_cons, List.length_nil]; omega) ?_; rintro v1 w3 ho2 hg hv1; have HV := Aside0.mk ho2; have HG := Aside0.mk hg; have HV1 := Aside0.mk hv1; clear ho2 hg hv1)
          have hp := HI.out.push HV.out HG.out HV1.out
          rw [← hq.out, ← HT.out] at hp
          exact ⟨⟨j + 1, by simp, by omega, hp⟩, by simp [intOf]; omega⟩
    · have HD := Aside0.mk (show j = s.size by omega)
      have hLl : Aside0 (([34] ++ (s.data.toList.take j).flatMap quoteB).length ≤ 1 + 4 * j) := .mk (quote_len _ _ (by simp; omega))
      have HQ : Aside0 (quotedB s.data.toList = ([34] ++ (s.data.toList.take j).flatMap quoteB) ++ [34]) := .mk (by unfold quotedB; rw [HD.out, List.take_of_length_le (by rw [htn.out]; exact Nat.le_refl _)])
      generalize [34] ++ (s.data.toList.take j).flatMap quoteB = l at *
      go_wp2_with (at_builtin; refine push_step w.heap.size u3 l [34] _ rfl _ _ rfl rfl rfl rfl rfl HI.out.own HI.out.below.size (by have := hLl.out; simp only [List.length_cons, List.length_nil]; omega) ?_; rintro v1 w3 ho2 hg hv1; have hcb := conv_own ho2 (by simp); have HV := Aside0.mk ho2; have HG := Aside0.mk hg; have HV1 := Aside0.mk hv1; clear ho2 hg hv1)
      go_ret
      refine ⟨?_, (HI.out.push HV.out HG.out HV1.out).below⟩
      rw [HQ.out]
      rfl
end Go.Proofs.YtamfknhgjkmdfaaDoor.X
