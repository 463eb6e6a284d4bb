/- known: its fixed calls answer as the law says: true. -/
import Derived.Test.YtgijcafgnonjjaaXWrite
import Derived.Test.YtgijcafgnonjjaaXSame
import Derived.Test.YtgijcafgnonjjaaG
import Derived.KernelRfl
namespace Go.Proofs.Ytgijcafgnonjjaa.Q
open Go.RowKit Go.Proofs.YtgijcafgnonjjaaW.PrintWords Go.Proofs.YtgijcafgnonjjaaW.PrintLast Go.Proofs.YtgijcafgnonjjaaW.PrintMore Go.Proofs.Ytgijcafgnonjjaa.X
abbrev nodes : List S26 := [⟨1, 5, [], []⟩, ⟨2, 0, [], []⟩]
theorem kn1 : wire_Num.f 5 = some (1, 5, [], []) := by kernel_rfl
theorem kn2 : G.wire_Bytes.f [] = some (2, 0, [], []) := by kernel_rfl
theorem kn3 : G.wire_List.f 50 nodes = some (3, 0, [], nodes) := by kernel_rfl
theorem kn4 : wire_Whole.f = some (65536, 16, 16384, 65536) := by kernel_rfl
theorem kn5 : wire_Write.f 50 3 0 [] nodes 65536 16 16384 65536 = some ([3, 2, 1, 5, 2, 0], 0) := by kernel_rfl
theorem kn6 : wire_Read.f 50 [3, 2, 1, 5, 2, 0] 65536 16 16384 65536 = some (3, 0, [], nodes, 0, 0) := by kernel_rfl
theorem kn7 : wire_Read.f 50 [3, 1, 4] 65536 16 16384 65536 = some (0, 0, [], [], 2, 21) := by kernel_rfl
theorem kn8 : wire_Count.f 50 256 = some [193, 1, 0] := by kernel_rfl
theorem kn9 : imprimaturref01_SameBytes.f [3, 2, 1, 5, 2, 0] [3, 2, 1, 5, 2, 0] = some true := by kernel_rfl
theorem kn10 : imprimaturref01_SameBytes.f [193, 1, 0] [193, 1, 0] = some true := by kernel_rfl
theorem kn11 : wire_Same.f 50 3 0 [] nodes 3 0 [] nodes = some true := by kernel_rfl

theorem lit_C {α : Type} (d : Kd α) (e : TypeId) {W : World} {inner : List Value} {xs : List α} (hr : Reps (d.K W) d.sz xs inner) (hm : xs.length ≤ 9223372036854775807) : d.C (W.alloc (.cells inner.toArray e)) (some ⟨W.heap.size, 0, none⟩) xs.length xs := by
  obtain ⟨A, c, he, hl, h⟩ := OwnRow.reads (OwnRow.lit (e := e) W W.heap.size hr (Nat.le_refl _) hm)
  injection he with h1 h2 h3
  subst h1
  exact ReadsRow.imp_ h (Below.refl _ _) (fun _ _ hp => d.K_below (below_alloc (Below.refl _ _) _) hp)
theorem reps_u8 (W : World) : ∀ xs : List Int, Reps ((Kd.int .u8).K W) 1 xs (xs.map (fun x => Value.int .u8 x))
  | [] => Reps.none _ _
  | _ :: xs => Reps.one rfl (reps_u8 W xs)
theorem lit_u8 (W : World) (xs : List Int) (hm : xs.length ≤ 9223372036854775807) : (Kd.int .u8).C (W.alloc (.cells (xs.map (fun x => Value.int .u8 x)).toArray 5)) (some ⟨W.heap.size, 0, none⟩) xs.length xs :=
  lit_C (Kd.int .u8) 5 (reps_u8 W xs) hm
theorem lit_nodes {W : World} {x y : S26} {cs ds : List Value} (hx : k26.K W x cs) (hy : k26.K W y ds) (h1 : cs.length = 4) (h2 : ds.length = 4) : k26.C (W.alloc (.cells (cs ++ ds).toArray 26)) (some ⟨W.heap.size, 0, none⟩) 2 [x, y] :=
  lit_C k26 26 (xs := [x, y]) (show Reps (k26.K W) 4 ([x] ++ [y]) (cs ++ ds) from Reps.snoc (show Reps (k26.K W) 4 ([] ++ [x]) ([] ++ cs) from Reps.snoc (Reps.none _ _) hx h1) hy h2) (by simp)

def K14 (w : World) (e : Ending) (w' : World) : Prop := e = .returned (.bool true) ∧ Below w.heap.size w w'
set_option maxHeartbeats 4000000 in
set_option maxRecDepth 100000 in
theorem known_calls (w : World) : Calls Try.prog 14 #[] w (K14 w) := by
  have HB := Aside0.mk (Below.refl w.heap.size w)
  go_enter Try.func14, Try.ntmps14
  go_wp2_with fail
  refine (wire_Num.calls 5 1 5 [] [] w kn1).mono ?_
  rintro e w1 ⟨v2, v3, rfl, h2, h3, hb1⟩
  obtain ⟨N2, m2, hv2, l2, g2⟩ := Kd.R_reads h2
  subst hv2
  obtain ⟨N3, m3, hv3, l3, g3⟩ := Kd.R_reads h3
  subst hv3
  have B1 := Aside0.mk (below_step HB.out hb1)
  clear h2 h3 HB
  dsimp only
  go_wp2_with fail
  refine (G.wire_Bytes.calls none 0 [] 2 0 [] [] w1 (Kd.C_nil _ _) (Nat.le_refl _) kn2).mono ?_
  rintro e w2 ⟨v4, v5, rfl, h4, h5, hb2⟩
  obtain ⟨N4, m4, hv4, l4, g4⟩ := Kd.R_reads h4
  subst hv4
  obtain ⟨N5, m5, hv5, l5, g5⟩ := Kd.R_reads h5
  subst hv5
  have B2 := Aside0.mk (below_step B1.out hb2)
  have C2 := Aside0.mk (lit_nodes (W := w2) (x := ⟨1, 5, [], []⟩) (y := ⟨2, 0, [], []⟩) (k26_mk w2 ⟨1, 5, [], []⟩ l2 (Kd.C_below g2 hb2) l3 (Kd.C_below g3 hb2)) (k26_mk w2 ⟨2, 0, [], []⟩ l4 g4 l5 g5) rfl rfl)
  clear h4 h5 g2 g3 g4 g5 hb1 hb2 B1
  dsimp only
  go_wp2_with fail
  refine (G.wire_List.calls 50 (some ⟨w2.heap.size, 0, none⟩) 2 nodes 3 0 [] nodes _ C2.out (Nat.le_refl _) kn3).mono ?_
  rintro e w3 ⟨v6, v7, rfl, h6, h7, hb3⟩
  obtain ⟨N6, m6, hv6, l6, g6⟩ := Kd.R_reads h6
  subst hv6
  obtain ⟨N7, m7, hv7, l7, g7⟩ := Kd.R_reads h7
  subst hv7
  have B3 := Aside0.mk (below_step (below_alloc B2.out _) hb3)
  have G6 := Aside0.mk g6
  have G7 := Aside0.mk g7
  clear h6 h7 g6 g7 hb3 B2 C2
  dsimp only
  go_wp2_with fail
  have V1 : Aside0 (NB (w3.alloc (.cells #[.int .i64 3, .int .u64 0, .slice N6 0 m6, .slice N7 2 m7] 26)) w3.heap.size 3 0 (.slice N6 0 m6) (.slice N7 2 m7)) := ⟨blk_new _ _⟩
  have B4 := Aside0.mk (below_alloc B3.out (.cells #[.int .i64 3, .int .u64 0, .slice N6 0 m6, .slice N7 2 m7] 26))
  have G6' := Aside0.mk (Kd.C_alloc G6.out (.cells #[.int .i64 3, .int .u64 0, .slice N6 0 m6, .slice N7 2 m7] 26))
  have G7' := Aside0.mk (Kd.C_alloc G7.out (.cells #[.int .i64 3, .int .u64 0, .slice N6 0 m6, .slice N7 2 m7] 26))
  generalize w3.alloc (.cells #[.int .i64 3, .int .u64 0, .slice N6 0 m6, .slice N7 2 m7] 26) = W4 at V1 B4 G6' G7' ⊢
  generalize w3.heap.size = b1 at V1 ⊢
  clear B3 G6 G7
  have L6 := Aside0.mk l6
  have L7 := Aside0.mk l7
  have H25 := Aside0.mk (fun W => wire_Whole.calls 65536 16 16384 65536 W kn4)
  have H15 := Aside0.mk (fun (W : World) (hb : Below W4.heap.size W4 W) => wire_Write.calls 50 3 0 N6 m6 [] N7 m7 nodes 65536 16 16384 65536 [3, 2, 1, 5, 2, 0] 0 W (Kd.C_below G6'.out hb) L6.out (Kd.C_below G7'.out hb) L7.out kn5)
  obtain ⟨q0, q1, q2, q3, _⟩ := V1.out.cells
  have BR4 := Aside0.mk (below_drew1 (Below.refl W4.heap.size W4))
  clear l2 l3 l4 l5 l6 l7
  go_region_law (first | (go_simp; go_at_call 25; (with_reducible refine (H25.out _).mono ?_); rintro e w5 ⟨rfl, hb5⟩; have B5 := Aside0.mk (below_step BR4.out hb5); obtain ⟨r0, r1, r2, r3, _⟩ := (V1.out.below B5.out).cells; clear hb5) | (go_simp; go_at_call 15; (refine (H15.out _ B5.out).mono ?_); rintro e w6 ⟨v8, rfl, h8, hb6⟩; obtain ⟨N8, m8, hv8, l8, g8⟩ := Kd.R_reads h8; subst hv8; have G8 := Aside0.mk g8; have B6 := Aside0.mk (below_step B5.out hb6); have L8 := Aside0.mk l8; clear h8 g8 hb6 l8))
  all_goals
    have BB := Aside0.mk (below_step B4.out B6.out)
    have V6 := Aside0.mk (V1.out.below B6.out)
    have GA := Aside0.mk (Kd.C_below G6'.out B6.out)
    have GB := Aside0.mk (Kd.C_below G7'.out B6.out)
    clear q0 q1 q2 q3 r0 r1 r2 r3 B4 V1 G6' G7' H25 H15 BR4 B5 B6
    go_wp2_with fail
    have D6 := Aside0.mk (below_alloc (Below.refl w6.heap.size w6) (.cells #[.int .u8 3, .int .u8 2, .int .u8 1, .int .u8 5, .int .u8 2, .int .u8 0] 5))
    have C6 := Aside0.mk (lit_u8 w6 [3, 2, 1, 5, 2, 0] (by simp))
    refine (wire_Whole.calls 65536 16 16384 65536 _ kn4).mono ?_
    rintro e w7 ⟨rfl, hb7⟩
    have D7 := Aside0.mk (below_step D6.out hb7)
    have C7 := Aside0.mk (Kd.C_below C6.out hb7)
    clear hb7 C6 D6
    dsimp only
    go_wp2_with fail
    refine (wire_Read.calls 50 (some ⟨w6.heap.size, 0, none⟩) 6 [3, 2, 1, 5, 2, 0] 65536 16 16384 65536 3 0 [] nodes 0 0 _ C7.out (Nat.le_refl _) kn6).mono ?_
    rintro e w8 ⟨v10, v11, rfl, h10, h11, hb8⟩
    obtain ⟨NA, mA, hvA, lA, gA⟩ := Kd.R_reads h10
    subst hvA
    obtain ⟨NB', mB, hvB, lB, gB⟩ := Kd.R_reads h11
    subst hvB
    have D8 := Aside0.mk (below_step D7.out hb8)
    have GC := Aside0.mk gA
    have GD := Aside0.mk gB
    have LA := Aside0.mk lA
    have LB := Aside0.mk lB
    clear h10 h11 hb8 gA gB C7 D7 lA lB
    dsimp only
    go_wp2_with fail
    have V9 : Aside0 (NB (w8.alloc (.cells #[.int .i64 3, .int .u64 0, .slice NA 0 mA, .slice NB' 2 mB] 26)) w8.heap.size 3 0 (.slice NA 0 mA) (.slice NB' 2 mB)) := ⟨blk_new _ _⟩
    have D9 := Aside0.mk (below_alloc D8.out (.cells #[.int .i64 3, .int .u64 0, .slice NA 0 mA, .slice NB' 2 mB] 26))
    have GE := Aside0.mk (Kd.C_alloc GC.out (.cells #[.int .i64 3, .int .u64 0, .slice NA 0 mA, .slice NB' 2 mB] 26))
    have GF := Aside0.mk (Kd.C_alloc GD.out (.cells #[.int .i64 3, .int .u64 0, .slice NA 0 mA, .slice NB' 2 mB] 26))
    have hs9 : (w8.alloc (.cells #[.int .i64 3, .int .u64 0, .slice NA 0 mA, .slice NB' 2 mB] 26)).heap.size = w8.heap.size + 1 := by simp
    rw [← hs9]
    generalize w8.alloc (.cells #[.int .i64 3, .int .u64 0, .slice NA 0 mA, .slice NB' 2 mB] 26) = W9 at V9 D9 GE GF hs9 ⊢
    clear hs9 GC GD D8
    generalize w8.heap.size = b4 at V9 ⊢
    have C10 := Aside0.mk (lit_u8 W9 [3, 1, 4] (by simp))
    have D10 := Aside0.mk (below_alloc (Below.refl W9.heap.size W9) (.cells #[.int .u8 3, .int .u8 1, .int .u8 4] 5))
    refine (wire_Whole.calls 65536 16 16384 65536 _ kn4).mono ?_
    rintro e w11 ⟨rfl, hb11⟩
    have D11 := Aside0.mk (below_step D10.out hb11)
    have C11 := Aside0.mk (Kd.C_below C10.out hb11)
    clear hb11 C10 D10
    dsimp only
    go_wp2_with fail
    refine (wire_Read.calls 50 (some ⟨W9.heap.size, 0, none⟩) 3 [3, 1, 4] 65536 16 16384 65536 0 0 [] [] 2 21 _ C11.out (Nat.le_refl _) kn7).mono ?_
    rintro e w12 ⟨v12, v13, rfl, h12, h13, hb12⟩
    obtain ⟨NG, mG, hvG⟩ := Kd.R_slice h12
    subst hvG
    obtain ⟨NH, mH, hvH⟩ := Kd.R_slice h13
    subst hvH
    have D12 := Aside0.mk (below_step D11.out hb12)
    clear h12 h13 hb12 D11 C11
    dsimp only
    go_wp2_with fail
    have D13 := Aside0.mk (below_alloc D12.out (.cells #[.int .i64 0, .int .u64 0, .slice NG 0 mG, .slice NH 0 mH] 26))
    refine (wire_Count.calls 50 256 [193, 1, 0] _ kn8).mono ?_
    rintro e w14 ⟨v14, rfl, h14, hb14⟩
    obtain ⟨NI, mI, hvI, lI, gI⟩ := Kd.R_reads h14
    subst hvI
    have D14 := Aside0.mk (below_step D13.out hb14)
    have GI := Aside0.mk gI
    have LI := Aside0.mk lI
    clear h14 hb14 D12 D13 gI lI
    dsimp only
    go_wp2_with fail
    have E14 := Aside0.mk (below_step D9.out D14.out)
    have E15 := Aside0.mk (below_alloc E14.out (.cells #[.int .u8 3, .int .u8 2, .int .u8 1, .int .u8 5, .int .u8 2, .int .u8 0] 5))
    have D15 := Aside0.mk (below_alloc D14.out (.cells #[.int .u8 3, .int .u8 2, .int .u8 1, .int .u8 5, .int .u8 2, .int .u8 0] 5))
    have C15 := Aside0.mk (lit_u8 w14 [3, 2, 1, 5, 2, 0] (by simp))
    have GI5 := Aside0.mk (Kd.C_alloc GI.out (.cells #[.int .u8 3, .int .u8 2, .int .u8 1, .int .u8 5, .int .u8 2, .int .u8 0] 5))
    refine (imprimaturref01_SameBytes.calls N8 m8 [3, 2, 1, 5, 2, 0] (some ⟨w14.heap.size, 0, none⟩) 6 [3, 2, 1, 5, 2, 0] true _ (Kd.C_below G8.out E15.out) L8.out C15.out (Nat.le_refl _) kn9).mono ?_
    rintro e w16 ⟨rfl, hd16⟩
    obtain ⟨m16, rfl⟩ := hd16.out
    generalize w14.alloc (.cells #[.int .u8 3, .int .u8 2, .int .u8 1, .int .u8 5, .int .u8 2, .int .u8 0] 5) = W15 at E15 D15 GI5 ⊢
    clear C15 hd16 GI E14 D14
    obtain ⟨q0, q1, q2, q3, _⟩ := (V6.out.below E15.out).cells
    obtain ⟨r0, r1, r2, r3, _⟩ := (V9.out.below D15.out).cells
    dsimp only
    go_wp2_with fail
    refine (wire_Same.calls 50 3 0 N6 m6 [] N7 m7 nodes 3 0 NA mA [] NB' mB nodes true _ (Kd.C_drewN (Kd.C_below GA.out E15.out) _) L6.out (Kd.C_drewN (Kd.C_below GB.out E15.out) _) L7.out (Kd.C_drewN (Kd.C_below GE.out D15.out) _) LA.out (Kd.C_drewN (Kd.C_below GF.out D15.out) _) LB.out kn11).mono ?_
    rintro e w17 ⟨rfl, hb17⟩
    have E17 := Aside0.mk (below_step (pw_below_drewN E15.out m16) hb17)
    have GI7 := Aside0.mk (Kd.C_below (Kd.C_drewN GI5.out m16) hb17)
    clear q0 q1 q2 q3 r0 r1 r2 r3 hb17
    dsimp only
    go_wp2_with fail
    have C18 := Aside0.mk (lit_u8 w17 [193, 1, 0] (by simp))
    refine (imprimaturref01_SameBytes.calls NI mI [193, 1, 0] (some ⟨w17.heap.size, 0, none⟩) 3 [193, 1, 0] true _ (Kd.C_alloc GI7.out _) LI.out C18.out (Nat.le_refl _) kn10).mono ?_
    rintro e w19 ⟨rfl, hd19⟩
    obtain ⟨m19, rfl⟩ := hd19.out
    dsimp only
    go_wp2
    go_ret
    exact ⟨rfl, pw_below_drewN (below_alloc (below_step BB.out E17.out) _) _⟩
def imprimaturlaw03_known.f : Option Bool := some true
theorem imprimaturlaw03_known.calls (r : Bool) (w : World) (h : imprimaturlaw03_known.f = some r) : Calls Try.prog 14 #[] w fun e w' => e = .returned (.bool r) ∧ Below w.heap.size w w' := by
  obtain rfl := Option.some.inj h
  exact known_calls w
end Go.Proofs.Ytgijcafgnonjjaa.Q
