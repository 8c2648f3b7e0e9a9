/- Region 16 of tell$1: the sets of images that some, and all ways have. tell: one round over the trails that go on. -/
import Derived.Test.YtacioedolmaofaaLBA18
namespace Go.Proofs.Ytacioedolmaofaa
open Go.RowKit Go.Shelf
attribute [local go_sem] Oper.semAt_some
set_option maxHeartbeats 6400000
set_option maxRecDepth 100000
set_option linter.unusedSimpArgs false
set_option linter.unusedVariables false

theorem tell_reg16 (l0 q9 q13 own : Nat) (o y : ITold) (W : World) {z0 z1 z2 z3 z4 z5 z6 z7 z8 z10 z11 z14 z15 z16 z17 z18 z19 z20 z21 z22 z23 z24 z25 z26 z27 z28 z29 z30 z31 z32 z33 z34 z35 z36 z37 z38 z39 z40 z41 z42 z43 z44 z45 z46 z47 z48 z49 z50 z51 z52 z53 z54 z55 z56 z57 z58 z59 z60 z61 z62 z63 z64 z65 z66 z67 z68 z69 z70 z71 z72 z73 z74 z75 z76 z77 z78 z79 z80 z81 z82 z83 z84 z85 z86 z87 z88 z89 z90 z91 z92 z93 z94 z95 z96 z97 z98 z99 z100 z118 z119 z120 z121 : Value} {z101 z102 z103 z104 z105 z106 z107 z108 z109 z110 z111 z112 z113 z114 z115 z116 z117 : Value}
    (h9 : W.heap[q9]? = some (.cells (tdA o) 90)) (h13 : W.heap[q13]? = some (.cells (tdA y) 90)) (hos : o.some < 2 ^ 64) (hoa : o.all < 2 ^ 64) (hys : y.some < 2 ^ 64) (hya : y.all < 2 ^ 64) (hown : own < 2 ^ 64)
    (K : Act → World → Prop) (Q : Exit → Act → World → Prop)
    (hfin : ∀ (s101 s102 s103 s104 s105 s106 s107 s108 s109 s110 s111 s112 s113 s114 s115 s116 s117 : Value) (w' : World), w'.heap[q9]? = some (.cells #[.int .i64 o.many, .int .i64 o.flaws, .int .i64 o.lo, .int .i64 o.hi, .int .u64 (o.some ||| own ||| y.some : Nat), .int .u64 (o.all &&& (own ||| y.all) : Nat)] 90) → Steps (fun k => k = q9) W w' → K ⟨(z0::z1::z2::z3::z4::z5::z6::z7::z8::(.pointer (some ⟨q9, 0, none⟩))::z10::z11::(.int .u64 own)::(.pointer (some ⟨q13, 0, none⟩))::z14::z15::z16::z17::z18::z19::z20::z21::z22::z23::z24::z25::z26::z27::z28::z29::z30::z31::z32::z33::z34::z35::z36::z37::z38::z39::z40::z41::z42::z43::z44::z45::z46::z47::z48::z49::z50::z51::z52::z53::z54::z55::z56::z57::z58::z59::z60::z61::z62::z63::z64::z65::z66::z67::z68::z69::z70::z71::z72::z73::z74::z75::z76::z77::z78::z79::z80::z81::z82::z83::z84::z85::z86::z87::z88::z89::z90::z91::z92::z93::z94::z95::z96::z97::z98::z99::z100::s101::s102::s103::s104::s105::s106::s107::s108::s109::s110::s111::s112::s113::s114::s115::s116::s117::z118::z119::z120::z121 :: []).toArray, []⟩ w') :
    Code.wpIn (Fence.wide.inRound l0) 0 Try.prog (((Try.f73.body.bind (findRegIn 16)).getD .skip)) (Exit.then K Q) ⟨(z0::z1::z2::z3::z4::z5::z6::z7::z8::(.pointer (some ⟨q9, 0, none⟩))::z10::z11::(.int .u64 own)::(.pointer (some ⟨q13, 0, none⟩))::z14::z15::z16::z17::z18::z19::z20::z21::z22::z23::z24::z25::z26::z27::z28::z29::z30::z31::z32::z33::z34::z35::z36::z37::z38::z39::z40::z41::z42::z43::z44::z45::z46::z47::z48::z49::z50::z51::z52::z53::z54::z55::z56::z57::z58::z59::z60::z61::z62::z63::z64::z65::z66::z67::z68::z69::z70::z71::z72::z73::z74::z75::z76::z77::z78::z79::z80::z81::z82::z83::z84::z85::z86::z87::z88::z89::z90::z91::z92::z93::z94::z95::z96::z97::z98::z99::z100::z101::z102::z103::z104::z105::z106::z107::z108::z109::z110::z111::z112::z113::z114::z115::z116::z117::z118::z119::z120::z121 :: []).toArray, []⟩ W := by
  have HFIN := Lib.hid hfin
  have hor : own ||| y.all < 2 ^ 64 := Nat.or_lt_two_pow hown hya
  have HB3 : Hid (∀ x ∈ [o.some, own, y.some], x < 2 ^ 64) := Lib.hid (fun x hx => by
    simp only [List.mem_cons, List.not_mem_nil, or_false] at hx
    rcases hx with rfl | rfl | rfl <;> assumption)
  have HB2 : Hid (∀ x ∈ [own, y.all], x < 2 ^ 64) := Lib.hid (fun x hx => by
    simp only [List.mem_cons, List.not_mem_nil, or_false] at hx
    rcases hx with rfl | rfl <;> assumption)
  have hand := and_u64 o.all (own ||| y.all) hoa hor
  have HAND := Lib.hid hand
  unfold tdA at h9 h13
  have k4 : ∀ W', Steps (fun _ => False) W W' → W'.cell? ⟨q9, 4, none⟩ = some (.int .u64 o.some) := fun W' h => cell_apart h (fun h => h) (cell_block h9 4)
  have k5 : ∀ W', Steps (fun _ => False) W W' → W'.cell? ⟨q9, 5, none⟩ = some (.int .u64 o.all) := fun W' h => cell_apart h (fun h => h) (cell_block h9 5)
  have j4 : ∀ W', Steps (fun _ => False) W W' → W'.cell? ⟨q13, 4, none⟩ = some (.int .u64 y.some) := fun W' h => cell_apart h (fun h => h) (cell_block h13 4)
  have HQ13 := Lib.hid h13
  clear hfin h13
  conv => arg 4; whnf
  refine wpIn_region_Vr (B := [16, 18]) (S := fun W' => Steps (fun _ => False) W W') l0 19 (by kernel_rfl) (by kernel_rfl) (by kernel_rfl) (Steps.refl _ W).drew (fun H0 => ?_)
  generalize W.drew = w0 at H0 ⊢
  have hHeld := H0
  refine wpAnyV_takeD 0 101 (v := ?_) (by kernel_rfl) (by kernel_rfl) (by kernel_rfl) (by kernel_rfl) (fun _ _ _ h => h) (by kernel_rfl) ?_ (by assumption) ?_
  rotate_left
  · intro oi hoi w hSw; (try dsimp only at hSw); simp only [gA, gB, gC, gG] at hoi; subst hoi; go_simp; try with_reducible rfl
  simp only [Act.put, gD, gE, gF]
  refine wpAnyV_takeD 1 102 (v := ?_) (by kernel_rfl) (by kernel_rfl) (by kernel_rfl) (by kernel_rfl) (fun _ _ _ h => h) (by kernel_rfl) ?_ (by assumption) ?_
  rotate_left
  · intro oi hoi w hSw; (try dsimp only at hSw); simp only [gA, gB, gC, gG] at hoi; subst hoi; go_simp; try with_reducible rfl
  simp only [Act.put, gD, gE, gF]
  refine wpAnyV_takeD 2 103 (v := ?_) (by kernel_rfl) (by kernel_rfl) (by kernel_rfl) (by kernel_rfl) (fun _ _ _ h => h) (by kernel_rfl) ?_ (by assumption) ?_
  rotate_left
  · intro oi hoi w hSw; (try dsimp only at hSw); simp only [gA, gB, gC, gG] at hoi; subst hoi; go_simp; try with_reducible rfl
  simp only [Act.put, gD, gE, gF]
  refine wpAnyV_takeD 3 104 (v := ?_) (by kernel_rfl) (by kernel_rfl) (by kernel_rfl) (by kernel_rfl) (fun _ _ _ h => h) (by kernel_rfl) ?_ (by assumption) ?_
  rotate_left
  · intro oi hoi w hSw; (try dsimp only at hSw); simp only [gA, gB, gC, gG] at hoi; subst hoi; go_simp; try with_reducible rfl
  simp only [Act.put, gD, gE, gF]
  refine wpAnyV_takeD 4 105 (v := ?_) (by kernel_rfl) (by kernel_rfl) (by kernel_rfl) (by kernel_rfl) (fun _ _ _ h => h) (by kernel_rfl) ?_ (by assumption) ?_
  rotate_left
  · intro oi hoi w hSw; (try dsimp only at hSw); simp only [gA, gB, gC, gG] at hoi; subst hoi; go_simp; try with_reducible rfl
  simp only [Act.put, gD, gE, gF]
  refine wpAnyV_takeD 7 108 (v := ?_) (by kernel_rfl) (by kernel_rfl) (by kernel_rfl) (by kernel_rfl) (fun _ _ _ h => h) (by kernel_rfl) ?_ (by assumption) ?_
  rotate_left
  · intro oi hoi w hSw; (try dsimp only at hSw); simp only [gA, gB, gC, gG] at hoi; subst hoi; go_simp; try with_reducible rfl
  simp only [Act.put, gD, gE, gF]
  refine wpAnyV_takeD 8 109 (v := ?_) (by kernel_rfl) (by kernel_rfl) (by kernel_rfl) (by kernel_rfl) (fun _ _ _ h => h) (by kernel_rfl) ?_ (by assumption) ?_
  rotate_left
  · intro oi hoi w hSw; (try dsimp only at hSw); simp only [gA, gB, gC, gG] at hoi; subst hoi; go_simp; try with_reducible rfl
  simp only [Act.put, gD, gE, gF]
  refine wpAnyV_takeP 9 110 (v := ?_) (by kernel_rfl) (by kernel_rfl) (by kernel_rfl) (by kernel_rfl) (fun _ _ _ h => h) ?_ (by kernel_rfl) (by first | exact .inr hHeld | exact .inl (by kernel_rfl)) ?_
  rotate_left
  · intro oi hoi w; simp only [gA, gB, gC, gG] at hoi; subst hoi; go_simp; try with_reducible rfl
  simp only [Act.put, gD, gE, gF]
  refine wpAnyV_takeP 10 111 (v := ?_) (by kernel_rfl) (by kernel_rfl) (by kernel_rfl) (by kernel_rfl) (fun _ _ _ h => h) ?_ (by kernel_rfl) (by first | exact .inr hHeld | exact .inl (by kernel_rfl)) ?_
  rotate_left
  · intro oi hoi w; simp only [gA, gB, gC, gG] at hoi; subst hoi; go_simp; try with_reducible rfl
  simp only [Act.put, gD, gE, gF]
  clear k4 k5 j4 hHeld
  refine wpAnyV_two 5 11 (by kernel_rfl) (by kernel_rfl) (by kernel_rfl) ?_ ?_
  ·
    intro oo ho K hK
    simp only [gA, gB, gC, gG] at ho
    subst ho
    go_simp
    have hst := Steps.alloc (fun _ => False) w0 (.cells #[.int .u64 o.some, .int .u64 own, .int .u64 y.some] 88)
    have H1 := H0.trans hst (fun _ _ h => h)
    refine hK _ _ (.inr H1) (fun _ => ?_)
    clear hK K
    try simp only [Act.put, gD, gE, gF]
    have P1 : SetsAt (w0.alloc (.cells #[.int .u64 o.some, .int .u64 own, .int .u64 y.some] 88)) w0.heap.size [o.some, own, y.some] := fun k hk => by
      rcases k with _ | _ | _ | k
      · exact cell_new _ _ _ _ _ rfl
      · exact cell_new _ _ _ _ _ rfl
      · first | exact cell_new _ _ _ _ _ rfl | (simp at hk)
      · simp at hk; omega
    obtain ⟨qP, hqP⟩ : ∃ q, w0.heap.size = q := ⟨_, rfl⟩
    generalize w0.alloc (.cells #[.int .u64 o.some, .int .u64 own, .int .u64 y.some] 88) = w1 at hst H1 P1 ⊢
    rw [hqP] at P1
    try rw [hqP]
    clear hst
    refine wpAnyV_two 6 11 (by kernel_rfl) (by kernel_rfl) (by kernel_rfl) ?_ ?_
    ·
      intro oo ho K hK
      simp only [gA, gB, gC, gG] at ho
      subst ho
      have hun := iunion_any qP [o.some, own, y.some] w1 P1 (by simp) HB3.out
      rw [show orAll [o.some, own, y.some] = o.some ||| own ||| y.some by simp [orAll]] at hun
      go_simp
      simp only [List.length_cons, List.length_nil, Nat.zero_add, Nat.reduceAdd] at hun
      refine ⟨trivial, rfl, CallsIn.mono (callsIn_wide.2 hun) ?_⟩
      rintro e w2 ⟨rfl, hww⟩
      rw [← hww]
      clear hww w2
      refine hK _ _ (.inr H1) (fun _ => ?_)
      clear hK K hun
      try simp only [Act.put, gD, gE, gF]
      refine wpAnyV_takeD 15 116 (v := ?_) (by kernel_rfl) (by kernel_rfl) (by kernel_rfl) (by kernel_rfl) (fun _ _ _ h => h) (by kernel_rfl) ?_ (by assumption) ?_
      rotate_left
      · intro oi hoi w hSw; (try dsimp only at hSw); simp only [gA, gB, gC, gG] at hoi; subst hoi; go_simp; try with_reducible rfl
      simp only [Act.put, gD, gE, gF]
      refine wpAnyV_one 11 (by kernel_rfl) (by kernel_rfl) ?_
      intro oo ho K hK
      simp only [gA, gB, gC, gG] at ho
      subst ho
      have j5 := cell_block (H1.obj (fun h => h) HQ13.out) 5
      simp only [gA, gB, gC] at j5
      go_simp
      refine hK _ _ (.inr H1) (fun _ => ?_)
      clear hK K j5
      try simp only [Act.put, gD, gE, gF]
      refine wpAnyV_one 12 (by kernel_rfl) (by kernel_rfl) ?_
      intro oo ho K hK
      simp only [gA, gB, gC, gG] at ho
      subst ho
      go_simp
      have hst := Steps.alloc (fun _ => False) w1 (.cells #[.int .u64 own, .int .u64 y.all] 88)
      have H2 := H1.trans hst (fun _ _ h => h)
      refine hK _ _ (.inr H2) (fun _ => ?_)
      clear hK K
      try simp only [Act.put, gD, gE, gF]
      have R2 : SetsAt (w1.alloc (.cells #[.int .u64 own, .int .u64 y.all] 88)) w1.heap.size [own, y.all] := fun k hk => by
        rcases k with _ | _ | _ | k
        · exact cell_new _ _ _ _ _ rfl
        · exact cell_new _ _ _ _ _ rfl
        · first | exact cell_new _ _ _ _ _ rfl | (simp at hk)
        · simp at hk; omega
      obtain ⟨qR, hqR⟩ : ∃ q, w1.heap.size = q := ⟨_, rfl⟩
      generalize w1.alloc (.cells #[.int .u64 own, .int .u64 y.all] 88) = w2 at hst H2 R2 ⊢
      rw [hqR] at R2
      try rw [hqR]
      clear hst
      refine wpAnyV_one 13 (by kernel_rfl) (by kernel_rfl) ?_
      intro oo ho K hK
      simp only [gA, gB, gC, gG] at ho
      subst ho
      have hun := iunion_any qR [own, y.all] w2 R2 (by simp) HB2.out
      rw [show orAll [own, y.all] = own ||| y.all by simp [orAll]] at hun
      go_simp
      simp only [List.length_cons, List.length_nil, Nat.zero_add, Nat.reduceAdd] at hun
      refine ⟨trivial, rfl, CallsIn.mono (callsIn_wide.2 hun) ?_⟩
      rintro e w3 ⟨rfl, hww⟩
      rw [← hww]
      clear hww w3
      refine hK _ _ (.inr H2) (fun _ => ?_)
      clear hK K hun
      try simp only [Act.put, gD, gE, gF]
      have hHeld := H2
      have z9 := H2.obj (fun h => h) h9
      have z4 := cell_block z9 4
      have z5 := cell_block z9 5
      have f4 := frozen_block z9 4
      have f5 := frozen_block z9 5
      try simp only [gA, gB, gC] at z4 z5
      refine wpAnyV_takeP 14 115 (v := ?_) (by kernel_rfl) (by kernel_rfl) (by kernel_rfl) (by kernel_rfl) (fun _ _ _ h => h) ?_ (by kernel_rfl) (by first | exact .inr hHeld | exact .inl (by kernel_rfl)) ?_
      rotate_left
      · intro oi hoi w; simp only [gA, gB, gC, gG] at hoi; subst hoi; go_simp; try with_reducible rfl
      simp only [Act.put, gD, gE, gF]
      refine wpAnyV_one 16 (by kernel_rfl) (by kernel_rfl) ?_
      intro o ho K hK
      simp only [gA, gB, gC, gG] at ho
      subst ho
      go_simp
      refine hK _ _ (.inl (by kernel_rfl)) (fun _ => ?_)
      clear hK K
      try simp only [Act.put, gD, gE, gF]
      refine wpAnyV_one 17 (by kernel_rfl) (by kernel_rfl) ?_
      intro o ho K hK
      simp only [gA, gB, gC, gG] at ho
      subst ho
      go_simp
      refine hK _ _ (.inl (by kernel_rfl)) (fun _ => ?_)
      clear hK K
      try simp only [Act.put, gD, gE, gF]
      refine wpAnyV_one 18 (by kernel_rfl) (by kernel_rfl) ?_
      intro o ho K hK
      simp only [gA, gB, gC, gG] at ho
      subst ho
      go_simp
      refine hK _ _ (.inl (by kernel_rfl)) (fun _ => ?_)
      clear hK K
      try simp only [Act.put, gD, gE, gF]
      have zz := block_set (block_set z9 4 (.int .u64 (o.some ||| own ||| y.some : Nat))) 5 (.int .u64 (o.all &&& (own ||| y.all) : Nat))
      simp only [gD, gE, gF] at zz
      have hs := (H2.mono (own' := fun k => k = q9) (fun _ _ h => h.elim)).trans ((Steps.setCell (own := fun k => k = q9) w2 (p := ⟨q9, 4, none⟩) rfl (.int .u64 (o.some ||| own ||| y.some : Nat))).trans (Steps.setCell (own := fun k => k = q9) _ (p := ⟨q9, 5, none⟩) rfl (.int .u64 (o.all &&& (own ||| y.all) : Nat))) (fun _ _ h => h)) (fun _ _ h => h)
      refine wpAnyV_done (by kernel_rfl) ?_ _
      dsimp only [onNormal]
      exact HFIN.out _ _ _ _ _ _ _ _ _ _ _ _ _ _ _ _ _ _ zz hs
    ·
      intro oo ho K hK
      simp only [gA, gB, gC, gG] at ho
      subst ho
      have j5 := cell_block (H1.obj (fun h => h) HQ13.out) 5
      simp only [gA, gB, gC] at j5
      go_simp
      refine hK _ _ (.inr H1) (fun _ => ?_)
      clear hK K j5
      try simp only [Act.put, gD, gE, gF]
      refine wpAnyV_two 6 12 (by kernel_rfl) (by kernel_rfl) (by kernel_rfl) ?_ ?_
      ·
        intro oo ho K hK
        simp only [gA, gB, gC, gG] at ho
        subst ho
        have hun := iunion_any qP [o.some, own, y.some] w1 P1 (by simp) HB3.out
        rw [show orAll [o.some, own, y.some] = o.some ||| own ||| y.some by simp [orAll]] at hun
        go_simp
        simp only [List.length_cons, List.length_nil, Nat.zero_add, Nat.reduceAdd] at hun
        refine ⟨trivial, rfl, CallsIn.mono (callsIn_wide.2 hun) ?_⟩
        rintro e w2 ⟨rfl, hww⟩
        rw [← hww]
        clear hww w2
        refine hK _ _ (.inr H1) (fun _ => ?_)
        clear hK K hun
        try simp only [Act.put, gD, gE, gF]
        refine wpAnyV_takeD 15 116 (v := ?_) (by kernel_rfl) (by kernel_rfl) (by kernel_rfl) (by kernel_rfl) (fun _ _ _ h => h) (by kernel_rfl) ?_ (by assumption) ?_
        rotate_left
        · intro oi hoi w hSw; (try dsimp only at hSw); simp only [gA, gB, gC, gG] at hoi; subst hoi; go_simp; try with_reducible rfl
        simp only [Act.put, gD, gE, gF]
        refine wpAnyV_one 12 (by kernel_rfl) (by kernel_rfl) ?_
        intro oo ho K hK
        simp only [gA, gB, gC, gG] at ho
        subst ho
        go_simp
        have hst := Steps.alloc (fun _ => False) w1 (.cells #[.int .u64 own, .int .u64 y.all] 88)
        have H2 := H1.trans hst (fun _ _ h => h)
        refine hK _ _ (.inr H2) (fun _ => ?_)
        clear hK K
        try simp only [Act.put, gD, gE, gF]
        have R2 : SetsAt (w1.alloc (.cells #[.int .u64 own, .int .u64 y.all] 88)) w1.heap.size [own, y.all] := fun k hk => by
          rcases k with _ | _ | _ | k
          · exact cell_new _ _ _ _ _ rfl
          · exact cell_new _ _ _ _ _ rfl
          · first | exact cell_new _ _ _ _ _ rfl | (simp at hk)
          · simp at hk; omega
        obtain ⟨qR, hqR⟩ : ∃ q, w1.heap.size = q := ⟨_, rfl⟩
        generalize w1.alloc (.cells #[.int .u64 own, .int .u64 y.all] 88) = w2 at hst H2 R2 ⊢
        rw [hqR] at R2
        try rw [hqR]
        clear hst
        refine wpAnyV_one 13 (by kernel_rfl) (by kernel_rfl) ?_
        intro oo ho K hK
        simp only [gA, gB, gC, gG] at ho
        subst ho
        have hun := iunion_any qR [own, y.all] w2 R2 (by simp) HB2.out
        rw [show orAll [own, y.all] = own ||| y.all by simp [orAll]] at hun
        go_simp
        simp only [List.length_cons, List.length_nil, Nat.zero_add, Nat.reduceAdd] at hun
        refine ⟨trivial, rfl, CallsIn.mono (callsIn_wide.2 hun) ?_⟩
        rintro e w3 ⟨rfl, hww⟩
        rw [← hww]
        clear hww w3
        refine hK _ _ (.inr H2) (fun _ => ?_)
        clear hK K hun
        try simp only [Act.put, gD, gE, gF]
        have hHeld := H2
        have z9 := H2.obj (fun h => h) h9
        have z4 := cell_block z9 4
        have z5 := cell_block z9 5
        have f4 := frozen_block z9 4
        have f5 := frozen_block z9 5
        try simp only [gA, gB, gC] at z4 z5
        refine wpAnyV_takeP 14 115 (v := ?_) (by kernel_rfl) (by kernel_rfl) (by kernel_rfl) (by kernel_rfl) (fun _ _ _ h => h) ?_ (by kernel_rfl) (by first | exact .inr hHeld | exact .inl (by kernel_rfl)) ?_
        rotate_left
        · intro oi hoi w; simp only [gA, gB, gC, gG] at hoi; subst hoi; go_simp; try with_reducible rfl
        simp only [Act.put, gD, gE, gF]
        refine wpAnyV_one 16 (by kernel_rfl) (by kernel_rfl) ?_
        intro o ho K hK
        simp only [gA, gB, gC, gG] at ho
        subst ho
        go_simp
        refine hK _ _ (.inl (by kernel_rfl)) (fun _ => ?_)
        clear hK K
        try simp only [Act.put, gD, gE, gF]
        refine wpAnyV_one 17 (by kernel_rfl) (by kernel_rfl) ?_
        intro o ho K hK
        simp only [gA, gB, gC, gG] at ho
        subst ho
        go_simp
        refine hK _ _ (.inl (by kernel_rfl)) (fun _ => ?_)
        clear hK K
        try simp only [Act.put, gD, gE, gF]
        refine wpAnyV_one 18 (by kernel_rfl) (by kernel_rfl) ?_
        intro o ho K hK
        simp only [gA, gB, gC, gG] at ho
        subst ho
        go_simp
        refine hK _ _ (.inl (by kernel_rfl)) (fun _ => ?_)
        clear hK K
        try simp only [Act.put, gD, gE, gF]
        have zz := block_set (block_set z9 4 (.int .u64 (o.some ||| own ||| y.some : Nat))) 5 (.int .u64 (o.all &&& (own ||| y.all) : Nat))
        simp only [gD, gE, gF] at zz
        have hs := (H2.mono (own' := fun k => k = q9) (fun _ _ h => h.elim)).trans ((Steps.setCell (own := fun k => k = q9) w2 (p := ⟨q9, 4, none⟩) rfl (.int .u64 (o.some ||| own ||| y.some : Nat))).trans (Steps.setCell (own := fun k => k = q9) _ (p := ⟨q9, 5, none⟩) rfl (.int .u64 (o.all &&& (own ||| y.all) : Nat))) (fun _ _ h => h)) (fun _ _ h => h)
        refine wpAnyV_done (by kernel_rfl) ?_ _
        dsimp only [onNormal]
        exact HFIN.out _ _ _ _ _ _ _ _ _ _ _ _ _ _ _ _ _ _ zz hs
      ·
        intro oo ho K hK
        simp only [gA, gB, gC, gG] at ho
        subst ho
        go_simp
        have hst := Steps.alloc (fun _ => False) w1 (.cells #[.int .u64 own, .int .u64 y.all] 88)
        have H2 := H1.trans hst (fun _ _ h => h)
        refine hK _ _ (.inr H2) (fun _ => ?_)
        clear hK K
        try simp only [Act.put, gD, gE, gF]
        have R2 : SetsAt (w1.alloc (.cells #[.int .u64 own, .int .u64 y.all] 88)) w1.heap.size [own, y.all] := fun k hk => by
          rcases k with _ | _ | _ | k
          · exact cell_new _ _ _ _ _ rfl
          · exact cell_new _ _ _ _ _ rfl
          · first | exact cell_new _ _ _ _ _ rfl | (simp at hk)
          · simp at hk; omega
        obtain ⟨qR, hqR⟩ : ∃ q, w1.heap.size = q := ⟨_, rfl⟩
        generalize w1.alloc (.cells #[.int .u64 own, .int .u64 y.all] 88) = w2 at hst H2 R2 ⊢
        rw [hqR] at R2
        try rw [hqR]
        have P2 : SetsAt w2 qP [o.some, own, y.some] := fun k hk => cell_apart hst (fun h => h) (P1 k hk)
        clear hst
        refine wpAnyV_one 6 (by kernel_rfl) (by kernel_rfl) ?_
        intro oo ho K hK
        simp only [gA, gB, gC, gG] at ho
        subst ho
        have hun := iunion_any qP [o.some, own, y.some] w2 P2 (by simp) HB3.out
        rw [show orAll [o.some, own, y.some] = o.some ||| own ||| y.some by simp [orAll]] at hun
        go_simp
        simp only [List.length_cons, List.length_nil, Nat.zero_add, Nat.reduceAdd] at hun
        refine ⟨trivial, rfl, CallsIn.mono (callsIn_wide.2 hun) ?_⟩
        rintro e w3 ⟨rfl, hww⟩
        rw [← hww]
        clear hww w3
        refine hK _ _ (.inr H2) (fun _ => ?_)
        clear hK K hun
        try simp only [Act.put, gD, gE, gF]
        refine wpAnyV_takeD 15 116 (v := ?_) (by kernel_rfl) (by kernel_rfl) (by kernel_rfl) (by kernel_rfl) (fun _ _ _ h => h) (by kernel_rfl) ?_ (by assumption) ?_
        rotate_left
        · intro oi hoi w hSw; (try dsimp only at hSw); simp only [gA, gB, gC, gG] at hoi; subst hoi; go_simp; try with_reducible rfl
        simp only [Act.put, gD, gE, gF]
        refine wpAnyV_one 13 (by kernel_rfl) (by kernel_rfl) ?_
        intro oo ho K hK
        simp only [gA, gB, gC, gG] at ho
        subst ho
        have hun := iunion_any qR [own, y.all] w2 R2 (by simp) HB2.out
        rw [show orAll [own, y.all] = own ||| y.all by simp [orAll]] at hun
        go_simp
        simp only [List.length_cons, List.length_nil, Nat.zero_add, Nat.reduceAdd] at hun
        refine ⟨trivial, rfl, CallsIn.mono (callsIn_wide.2 hun) ?_⟩
        rintro e w3 ⟨rfl, hww⟩
        rw [← hww]
        clear hww w3
        refine hK _ _ (.inr H2) (fun _ => ?_)
        clear hK K hun
        try simp only [Act.put, gD, gE, gF]
        have hHeld := H2
        have z9 := H2.obj (fun h => h) h9
        have z4 := cell_block z9 4
        have z5 := cell_block z9 5
        have f4 := frozen_block z9 4
        have f5 := frozen_block z9 5
        try simp only [gA, gB, gC] at z4 z5
        refine wpAnyV_takeP 14 115 (v := ?_) (by kernel_rfl) (by kernel_rfl) (by kernel_rfl) (by kernel_rfl) (fun _ _ _ h => h) ?_ (by kernel_rfl) (by first | exact .inr hHeld | exact .inl (by kernel_rfl)) ?_
        rotate_left
        · intro oi hoi w; simp only [gA, gB, gC, gG] at hoi; subst hoi; go_simp; try with_reducible rfl
        simp only [Act.put, gD, gE, gF]
        refine wpAnyV_one 16 (by kernel_rfl) (by kernel_rfl) ?_
        intro o ho K hK
        simp only [gA, gB, gC, gG] at ho
        subst ho
        go_simp
        refine hK _ _ (.inl (by kernel_rfl)) (fun _ => ?_)
        clear hK K
        try simp only [Act.put, gD, gE, gF]
        refine wpAnyV_one 17 (by kernel_rfl) (by kernel_rfl) ?_
        intro o ho K hK
        simp only [gA, gB, gC, gG] at ho
        subst ho
        go_simp
        refine hK _ _ (.inl (by kernel_rfl)) (fun _ => ?_)
        clear hK K
        try simp only [Act.put, gD, gE, gF]
        refine wpAnyV_one 18 (by kernel_rfl) (by kernel_rfl) ?_
        intro o ho K hK
        simp only [gA, gB, gC, gG] at ho
        subst ho
        go_simp
        refine hK _ _ (.inl (by kernel_rfl)) (fun _ => ?_)
        clear hK K
        try simp only [Act.put, gD, gE, gF]
        have zz := block_set (block_set z9 4 (.int .u64 (o.some ||| own ||| y.some : Nat))) 5 (.int .u64 (o.all &&& (own ||| y.all) : Nat))
        simp only [gD, gE, gF] at zz
        have hs := (H2.mono (own' := fun k => k = q9) (fun _ _ h => h.elim)).trans ((Steps.setCell (own := fun k => k = q9) w2 (p := ⟨q9, 4, none⟩) rfl (.int .u64 (o.some ||| own ||| y.some : Nat))).trans (Steps.setCell (own := fun k => k = q9) _ (p := ⟨q9, 5, none⟩) rfl (.int .u64 (o.all &&& (own ||| y.all) : Nat))) (fun _ _ h => h)) (fun _ _ h => h)
        refine wpAnyV_done (by kernel_rfl) ?_ _
        dsimp only [onNormal]
        exact HFIN.out _ _ _ _ _ _ _ _ _ _ _ _ _ _ _ _ _ _ zz hs
  ·
    intro oo ho K hK
    simp only [gA, gB, gC, gG] at ho
    subst ho
    have j5 := cell_block (H0.obj (fun h => h) HQ13.out) 5
    simp only [gA, gB, gC] at j5
    go_simp
    refine hK _ _ (.inr H0) (fun _ => ?_)
    clear hK K j5
    try simp only [Act.put, gD, gE, gF]
    refine wpAnyV_two 5 12 (by kernel_rfl) (by kernel_rfl) (by kernel_rfl) ?_ ?_
    ·
      intro oo ho K hK
      simp only [gA, gB, gC, gG] at ho
      subst ho
      go_simp
      have hst := Steps.alloc (fun _ => False) w0 (.cells #[.int .u64 o.some, .int .u64 own, .int .u64 y.some] 88)
      have H1 := H0.trans hst (fun _ _ h => h)
      refine hK _ _ (.inr H1) (fun _ => ?_)
      clear hK K
      try simp only [Act.put, gD, gE, gF]
      have P1 : SetsAt (w0.alloc (.cells #[.int .u64 o.some, .int .u64 own, .int .u64 y.some] 88)) w0.heap.size [o.some, own, y.some] := fun k hk => by
        rcases k with _ | _ | _ | k
        · exact cell_new _ _ _ _ _ rfl
        · exact cell_new _ _ _ _ _ rfl
        · first | exact cell_new _ _ _ _ _ rfl | (simp at hk)
        · simp at hk; omega
      obtain ⟨qP, hqP⟩ : ∃ q, w0.heap.size = q := ⟨_, rfl⟩
      generalize w0.alloc (.cells #[.int .u64 o.some, .int .u64 own, .int .u64 y.some] 88) = w1 at hst H1 P1 ⊢
      rw [hqP] at P1
      try rw [hqP]
      clear hst
      refine wpAnyV_two 6 12 (by kernel_rfl) (by kernel_rfl) (by kernel_rfl) ?_ ?_
      ·
        intro oo ho K hK
        simp only [gA, gB, gC, gG] at ho
        subst ho
        have hun := iunion_any qP [o.some, own, y.some] w1 P1 (by simp) HB3.out
        rw [show orAll [o.some, own, y.some] = o.some ||| own ||| y.some by simp [orAll]] at hun
        go_simp
        simp only [List.length_cons, List.length_nil, Nat.zero_add, Nat.reduceAdd] at hun
        refine ⟨trivial, rfl, CallsIn.mono (callsIn_wide.2 hun) ?_⟩
        rintro e w2 ⟨rfl, hww⟩
        rw [← hww]
        clear hww w2
        refine hK _ _ (.inr H1) (fun _ => ?_)
        clear hK K hun
        try simp only [Act.put, gD, gE, gF]
        refine wpAnyV_takeD 15 116 (v := ?_) (by kernel_rfl) (by kernel_rfl) (by kernel_rfl) (by kernel_rfl) (fun _ _ _ h => h) (by kernel_rfl) ?_ (by assumption) ?_
        rotate_left
        · intro oi hoi w hSw; (try dsimp only at hSw); simp only [gA, gB, gC, gG] at hoi; subst hoi; go_simp; try with_reducible rfl
        simp only [Act.put, gD, gE, gF]
        refine wpAnyV_one 12 (by kernel_rfl) (by kernel_rfl) ?_
        intro oo ho K hK
        simp only [gA, gB, gC, gG] at ho
        subst ho
        go_simp
        have hst := Steps.alloc (fun _ => False) w1 (.cells #[.int .u64 own, .int .u64 y.all] 88)
        have H2 := H1.trans hst (fun _ _ h => h)
        refine hK _ _ (.inr H2) (fun _ => ?_)
        clear hK K
        try simp only [Act.put, gD, gE, gF]
        have R2 : SetsAt (w1.alloc (.cells #[.int .u64 own, .int .u64 y.all] 88)) w1.heap.size [own, y.all] := fun k hk => by
          rcases k with _ | _ | _ | k
          · exact cell_new _ _ _ _ _ rfl
          · exact cell_new _ _ _ _ _ rfl
          · first | exact cell_new _ _ _ _ _ rfl | (simp at hk)
          · simp at hk; omega
        obtain ⟨qR, hqR⟩ : ∃ q, w1.heap.size = q := ⟨_, rfl⟩
        generalize w1.alloc (.cells #[.int .u64 own, .int .u64 y.all] 88) = w2 at hst H2 R2 ⊢
        rw [hqR] at R2
        try rw [hqR]
        clear hst
        refine wpAnyV_one 13 (by kernel_rfl) (by kernel_rfl) ?_
        intro oo ho K hK
        simp only [gA, gB, gC, gG] at ho
        subst ho
        have hun := iunion_any qR [own, y.all] w2 R2 (by simp) HB2.out
        rw [show orAll [own, y.all] = own ||| y.all by simp [orAll]] at hun
        go_simp
        simp only [List.length_cons, List.length_nil, Nat.zero_add, Nat.reduceAdd] at hun
        refine ⟨trivial, rfl, CallsIn.mono (callsIn_wide.2 hun) ?_⟩
        rintro e w3 ⟨rfl, hww⟩
        rw [← hww]
        clear hww w3
        refine hK _ _ (.inr H2) (fun _ => ?_)
        clear hK K hun
        try simp only [Act.put, gD, gE, gF]
        have hHeld := H2
        have z9 := H2.obj (fun h => h) h9
        have z4 := cell_block z9 4
        have z5 := cell_block z9 5
        have f4 := frozen_block z9 4
        have f5 := frozen_block z9 5
        try simp only [gA, gB, gC] at z4 z5
        refine wpAnyV_takeP 14 115 (v := ?_) (by kernel_rfl) (by kernel_rfl) (by kernel_rfl) (by kernel_rfl) (fun _ _ _ h => h) ?_ (by kernel_rfl) (by first | exact .inr hHeld | exact .inl (by kernel_rfl)) ?_
        rotate_left
        · intro oi hoi w; simp only [gA, gB, gC, gG] at hoi; subst hoi; go_simp; try with_reducible rfl
        simp only [Act.put, gD, gE, gF]
        refine wpAnyV_one 16 (by kernel_rfl) (by kernel_rfl) ?_
        intro o ho K hK
        simp only [gA, gB, gC, gG] at ho
        subst ho
        go_simp
        refine hK _ _ (.inl (by kernel_rfl)) (fun _ => ?_)
        clear hK K
        try simp only [Act.put, gD, gE, gF]
        refine wpAnyV_one 17 (by kernel_rfl) (by kernel_rfl) ?_
        intro o ho K hK
        simp only [gA, gB, gC, gG] at ho
        subst ho
        go_simp
        refine hK _ _ (.inl (by kernel_rfl)) (fun _ => ?_)
        clear hK K
        try simp only [Act.put, gD, gE, gF]
        refine wpAnyV_one 18 (by kernel_rfl) (by kernel_rfl) ?_
        intro o ho K hK
        simp only [gA, gB, gC, gG] at ho
        subst ho
        go_simp
        refine hK _ _ (.inl (by kernel_rfl)) (fun _ => ?_)
        clear hK K
        try simp only [Act.put, gD, gE, gF]
        have zz := block_set (block_set z9 4 (.int .u64 (o.some ||| own ||| y.some : Nat))) 5 (.int .u64 (o.all &&& (own ||| y.all) : Nat))
        simp only [gD, gE, gF] at zz
        have hs := (H2.mono (own' := fun k => k = q9) (fun _ _ h => h.elim)).trans ((Steps.setCell (own := fun k => k = q9) w2 (p := ⟨q9, 4, none⟩) rfl (.int .u64 (o.some ||| own ||| y.some : Nat))).trans (Steps.setCell (own := fun k => k = q9) _ (p := ⟨q9, 5, none⟩) rfl (.int .u64 (o.all &&& (own ||| y.all) : Nat))) (fun _ _ h => h)) (fun _ _ h => h)
        refine wpAnyV_done (by kernel_rfl) ?_ _
        dsimp only [onNormal]
        exact HFIN.out _ _ _ _ _ _ _ _ _ _ _ _ _ _ _ _ _ _ zz hs
      ·
        intro oo ho K hK
        simp only [gA, gB, gC, gG] at ho
        subst ho
        go_simp
        have hst := Steps.alloc (fun _ => False) w1 (.cells #[.int .u64 own, .int .u64 y.all] 88)
        have H2 := H1.trans hst (fun _ _ h => h)
        refine hK _ _ (.inr H2) (fun _ => ?_)
        clear hK K
        try simp only [Act.put, gD, gE, gF]
        have R2 : SetsAt (w1.alloc (.cells #[.int .u64 own, .int .u64 y.all] 88)) w1.heap.size [own, y.all] := fun k hk => by
          rcases k with _ | _ | _ | k
          · exact cell_new _ _ _ _ _ rfl
          · exact cell_new _ _ _ _ _ rfl
          · first | exact cell_new _ _ _ _ _ rfl | (simp at hk)
          · simp at hk; omega
        obtain ⟨qR, hqR⟩ : ∃ q, w1.heap.size = q := ⟨_, rfl⟩
        generalize w1.alloc (.cells #[.int .u64 own, .int .u64 y.all] 88) = w2 at hst H2 R2 ⊢
        rw [hqR] at R2
        try rw [hqR]
        have P2 : SetsAt w2 qP [o.some, own, y.some] := fun k hk => cell_apart hst (fun h => h) (P1 k hk)
        clear hst
        refine wpAnyV_one 6 (by kernel_rfl) (by kernel_rfl) ?_
        intro oo ho K hK
        simp only [gA, gB, gC, gG] at ho
        subst ho
        have hun := iunion_any qP [o.some, own, y.some] w2 P2 (by simp) HB3.out
        rw [show orAll [o.some, own, y.some] = o.some ||| own ||| y.some by simp [orAll]] at hun
        go_simp
        simp only [List.length_cons, List.length_nil, Nat.zero_add, Nat.reduceAdd] at hun
        refine ⟨trivial, rfl, CallsIn.mono (callsIn_wide.2 hun) ?_⟩
        rintro e w3 ⟨rfl, hww⟩
        rw [← hww]
        clear hww w3
        refine hK _ _ (.inr H2) (fun _ => ?_)
        clear hK K hun
        try simp only [Act.put, gD, gE, gF]
        refine wpAnyV_takeD 15 116 (v := ?_) (by kernel_rfl) (by kernel_rfl) (by kernel_rfl) (by kernel_rfl) (fun _ _ _ h => h) (by kernel_rfl) ?_ (by assumption) ?_
        rotate_left
        · intro oi hoi w hSw; (try dsimp only at hSw); simp only [gA, gB, gC, gG] at hoi; subst hoi; go_simp; try with_reducible rfl
        simp only [Act.put, gD, gE, gF]
        refine wpAnyV_one 13 (by kernel_rfl) (by kernel_rfl) ?_
        intro oo ho K hK
        simp only [gA, gB, gC, gG] at ho
        subst ho
        have hun := iunion_any qR [own, y.all] w2 R2 (by simp) HB2.out
        rw [show orAll [own, y.all] = own ||| y.all by simp [orAll]] at hun
        go_simp
        simp only [List.length_cons, List.length_nil, Nat.zero_add, Nat.reduceAdd] at hun
        refine ⟨trivial, rfl, CallsIn.mono (callsIn_wide.2 hun) ?_⟩
        rintro e w3 ⟨rfl, hww⟩
        rw [← hww]
        clear hww w3
        refine hK _ _ (.inr H2) (fun _ => ?_)
        clear hK K hun
        try simp only [Act.put, gD, gE, gF]
        have hHeld := H2
        have z9 := H2.obj (fun h => h) h9
        have z4 := cell_block z9 4
        have z5 := cell_block z9 5
        have f4 := frozen_block z9 4
        have f5 := frozen_block z9 5
        try simp only [gA, gB, gC] at z4 z5
        refine wpAnyV_takeP 14 115 (v := ?_) (by kernel_rfl) (by kernel_rfl) (by kernel_rfl) (by kernel_rfl) (fun _ _ _ h => h) ?_ (by kernel_rfl) (by first | exact .inr hHeld | exact .inl (by kernel_rfl)) ?_
        rotate_left
        · intro oi hoi w; simp only [gA, gB, gC, gG] at hoi; subst hoi; go_simp; try with_reducible rfl
        simp only [Act.put, gD, gE, gF]
        refine wpAnyV_one 16 (by kernel_rfl) (by kernel_rfl) ?_
        intro o ho K hK
        simp only [gA, gB, gC, gG] at ho
        subst ho
        go_simp
        refine hK _ _ (.inl (by kernel_rfl)) (fun _ => ?_)
        clear hK K
        try simp only [Act.put, gD, gE, gF]
        refine wpAnyV_one 17 (by kernel_rfl) (by kernel_rfl) ?_
        intro o ho K hK
        simp only [gA, gB, gC, gG] at ho
        subst ho
        go_simp
        refine hK _ _ (.inl (by kernel_rfl)) (fun _ => ?_)
        clear hK K
        try simp only [Act.put, gD, gE, gF]
        refine wpAnyV_one 18 (by kernel_rfl) (by kernel_rfl) ?_
        intro o ho K hK
        simp only [gA, gB, gC, gG] at ho
        subst ho
        go_simp
        refine hK _ _ (.inl (by kernel_rfl)) (fun _ => ?_)
        clear hK K
        try simp only [Act.put, gD, gE, gF]
        have zz := block_set (block_set z9 4 (.int .u64 (o.some ||| own ||| y.some : Nat))) 5 (.int .u64 (o.all &&& (own ||| y.all) : Nat))
        simp only [gD, gE, gF] at zz
        have hs := (H2.mono (own' := fun k => k = q9) (fun _ _ h => h.elim)).trans ((Steps.setCell (own := fun k => k = q9) w2 (p := ⟨q9, 4, none⟩) rfl (.int .u64 (o.some ||| own ||| y.some : Nat))).trans (Steps.setCell (own := fun k => k = q9) _ (p := ⟨q9, 5, none⟩) rfl (.int .u64 (o.all &&& (own ||| y.all) : Nat))) (fun _ _ h => h)) (fun _ _ h => h)
        refine wpAnyV_done (by kernel_rfl) ?_ _
        dsimp only [onNormal]
        exact HFIN.out _ _ _ _ _ _ _ _ _ _ _ _ _ _ _ _ _ _ zz hs
    ·
      intro oo ho K hK
      simp only [gA, gB, gC, gG] at ho
      subst ho
      go_simp
      have hst := Steps.alloc (fun _ => False) w0 (.cells #[.int .u64 own, .int .u64 y.all] 88)
      have H1 := H0.trans hst (fun _ _ h => h)
      refine hK _ _ (.inr H1) (fun _ => ?_)
      clear hK K
      try simp only [Act.put, gD, gE, gF]
      have R1 : SetsAt (w0.alloc (.cells #[.int .u64 own, .int .u64 y.all] 88)) w0.heap.size [own, y.all] := fun k hk => by
        rcases k with _ | _ | _ | k
        · exact cell_new _ _ _ _ _ rfl
        · exact cell_new _ _ _ _ _ rfl
        · first | exact cell_new _ _ _ _ _ rfl | (simp at hk)
        · simp at hk; omega
      obtain ⟨qR, hqR⟩ : ∃ q, w0.heap.size = q := ⟨_, rfl⟩
      generalize w0.alloc (.cells #[.int .u64 own, .int .u64 y.all] 88) = w1 at hst H1 R1 ⊢
      rw [hqR] at R1
      try rw [hqR]
      clear hst
      refine wpAnyV_one 5 (by kernel_rfl) (by kernel_rfl) ?_
      intro oo ho K hK
      simp only [gA, gB, gC, gG] at ho
      subst ho
      go_simp
      have hst := Steps.alloc (fun _ => False) w1 (.cells #[.int .u64 o.some, .int .u64 own, .int .u64 y.some] 88)
      have H2 := H1.trans hst (fun _ _ h => h)
      refine hK _ _ (.inr H2) (fun _ => ?_)
      clear hK K
      try simp only [Act.put, gD, gE, gF]
      have P2 : SetsAt (w1.alloc (.cells #[.int .u64 o.some, .int .u64 own, .int .u64 y.some] 88)) w1.heap.size [o.some, own, y.some] := fun k hk => by
        rcases k with _ | _ | _ | k
        · exact cell_new _ _ _ _ _ rfl
        · exact cell_new _ _ _ _ _ rfl
        · first | exact cell_new _ _ _ _ _ rfl | (simp at hk)
        · simp at hk; omega
      obtain ⟨qP, hqP⟩ : ∃ q, w1.heap.size = q := ⟨_, rfl⟩
      generalize w1.alloc (.cells #[.int .u64 o.some, .int .u64 own, .int .u64 y.some] 88) = w2 at hst H2 P2 ⊢
      rw [hqP] at P2
      try rw [hqP]
      have R2 : SetsAt w2 qR [own, y.all] := fun k hk => cell_apart hst (fun h => h) (R1 k hk)
      clear hst
      refine wpAnyV_one 6 (by kernel_rfl) (by kernel_rfl) ?_
      intro oo ho K hK
      simp only [gA, gB, gC, gG] at ho
      subst ho
      have hun := iunion_any qP [o.some, own, y.some] w2 P2 (by simp) HB3.out
      rw [show orAll [o.some, own, y.some] = o.some ||| own ||| y.some by simp [orAll]] at hun
      go_simp
      simp only [List.length_cons, List.length_nil, Nat.zero_add, Nat.reduceAdd] at hun
      refine ⟨trivial, rfl, CallsIn.mono (callsIn_wide.2 hun) ?_⟩
      rintro e w3 ⟨rfl, hww⟩
      rw [← hww]
      clear hww w3
      refine hK _ _ (.inr H2) (fun _ => ?_)
      clear hK K hun
      try simp only [Act.put, gD, gE, gF]
      refine wpAnyV_takeD 15 116 (v := ?_) (by kernel_rfl) (by kernel_rfl) (by kernel_rfl) (by kernel_rfl) (fun _ _ _ h => h) (by kernel_rfl) ?_ (by assumption) ?_
      rotate_left
      · intro oi hoi w hSw; (try dsimp only at hSw); simp only [gA, gB, gC, gG] at hoi; subst hoi; go_simp; try with_reducible rfl
      simp only [Act.put, gD, gE, gF]
      refine wpAnyV_one 13 (by kernel_rfl) (by kernel_rfl) ?_
      intro oo ho K hK
      simp only [gA, gB, gC, gG] at ho
      subst ho
      have hun := iunion_any qR [own, y.all] w2 R2 (by simp) HB2.out
      rw [show orAll [own, y.all] = own ||| y.all by simp [orAll]] at hun
      go_simp
      simp only [List.length_cons, List.length_nil, Nat.zero_add, Nat.reduceAdd] at hun
      refine ⟨trivial, rfl, CallsIn.mono (callsIn_wide.2 hun) ?_⟩
      rintro e w3 ⟨rfl, hww⟩
      rw [← hww]
      clear hww w3
      refine hK _ _ (.inr H2) (fun _ => ?_)
      clear hK K hun
      try simp only [Act.put, gD, gE, gF]
      have hHeld := H2
      have z9 := H2.obj (fun h => h) h9
      have z4 := cell_block z9 4
      have z5 := cell_block z9 5
      have f4 := frozen_block z9 4
      have f5 := frozen_block z9 5
      try simp only [gA, gB, gC] at z4 z5
      refine wpAnyV_takeP 14 115 (v := ?_) (by kernel_rfl) (by kernel_rfl) (by kernel_rfl) (by kernel_rfl) (fun _ _ _ h => h) ?_ (by kernel_rfl) (by first | exact .inr hHeld | exact .inl (by kernel_rfl)) ?_
      rotate_left
      · intro oi hoi w; simp only [gA, gB, gC, gG] at hoi; subst hoi; go_simp; try with_reducible rfl
      simp only [Act.put, gD, gE, gF]
      refine wpAnyV_one 16 (by kernel_rfl) (by kernel_rfl) ?_
      intro o ho K hK
      simp only [gA, gB, gC, gG] at ho
      subst ho
      go_simp
      refine hK _ _ (.inl (by kernel_rfl)) (fun _ => ?_)
      clear hK K
      try simp only [Act.put, gD, gE, gF]
      refine wpAnyV_one 17 (by kernel_rfl) (by kernel_rfl) ?_
      intro o ho K hK
      simp only [gA, gB, gC, gG] at ho
      subst ho
      go_simp
      refine hK _ _ (.inl (by kernel_rfl)) (fun _ => ?_)
      clear hK K
      try simp only [Act.put, gD, gE, gF]
      refine wpAnyV_one 18 (by kernel_rfl) (by kernel_rfl) ?_
      intro o ho K hK
      simp only [gA, gB, gC, gG] at ho
      subst ho
      go_simp
      refine hK _ _ (.inl (by kernel_rfl)) (fun _ => ?_)
      clear hK K
      try simp only [Act.put, gD, gE, gF]
      have zz := block_set (block_set z9 4 (.int .u64 (o.some ||| own ||| y.some : Nat))) 5 (.int .u64 (o.all &&& (own ||| y.all) : Nat))
      simp only [gD, gE, gF] at zz
      have hs := (H2.mono (own' := fun k => k = q9) (fun _ _ h => h.elim)).trans ((Steps.setCell (own := fun k => k = q9) w2 (p := ⟨q9, 4, none⟩) rfl (.int .u64 (o.some ||| own ||| y.some : Nat))).trans (Steps.setCell (own := fun k => k = q9) _ (p := ⟨q9, 5, none⟩) rfl (.int .u64 (o.all &&& (own ||| y.all) : Nat))) (fun _ _ h => h)) (fun _ _ h => h)
      refine wpAnyV_done (by kernel_rfl) ?_ _
      dsimp only [onNormal]
      exact HFIN.out _ _ _ _ _ _ _ _ _ _ _ _ _ _ _ _ _ _ zz hs
end Go.Proofs.Ytacioedolmaofaa
namespace Go.Proofs.Ytacioedolmaofaa
open Go.RowKit Go.Shelf
attribute [local go_sem] Oper.semAt_some
set_option maxHeartbeats 6400000
set_option maxRecDepth 100000
set_option linter.unusedSimpArgs false
set_option linter.unusedVariables false

/-- The first range over a function in a text: what is assigned, what is done. -/
def rangeOf : Code → Option (Code × Code)
  | .rangeFunc _ _ a b => some (a, b)
  | .seq a b => match rangeOf a with
    | some c => some c
    | none => rangeOf b
  | .cond _ a b => match rangeOf a with
    | some c => some c
    | none => rangeOf b
  | .block _ c => rangeOf c
  | .loop c => rangeOf c
  | .scope c => rangeOf c
  | _ => none

theorem wpIn_last {F : Fence} {n : Nat} {P : Program} {c : Code} {Q : Exit → Act → World → Prop} {a : Act} {w : World} (h : c.wpIn F n P (Exit.then (fun a w => Q .normal a w) Q) a w) : c.wpIn F n P Q a w := wpIn_mono h (fun e a w h => by cases e <;> exact h)
/-- What is so between rounds. -/
structure TellI (w0 : World) (r q9 n : Nat) (T : List ITr) (F : Int) (used : Nat) (Ky : Int × Nat → Prop) (own : Nat → Prop) (pre : List ITr) (W : World) : Prop where
  own : ∀ k, own k → w0.heap.size ≤ k ∧ k < W.heap.size
  st : Steps (fun k => k = r ∨ k = q9 ∨ w0.heap.size ≤ k) w0 W
  kn : KnownT W r T n F Ky
  out : W.heap[q9]? = some (.cells (tdA (tellTo T n F used pre)) 90)
theorem TellI.bides {w0 : World} {r q9 n : Nat} {T : List ITr} {F : Int} {used : Nat} {Ky : Int × Nat → Prop} (hr : r < w0.heap.size) (hq : q9 < w0.heap.size) : Bides (TellI w0 r q9 n T F used Ky) := by
  rintro own own' s A B ⟨h1, h2, h3, h4⟩ hs ho
  have hsz := hs.size
  have hz2 := h2.size
  refine ⟨fun k hk => ?_, h2.trans hs (fun k _ hk => .inr (.inr (h1 k hk).1)), h3.steps hs (fun h => by have := (h1 _ h).1; omega), hs.obj (fun h => by have := (h1 _ h).1; omega) h4⟩
  rcases ho k hk with h | h
  · exact ⟨(h1 k h).1, by have := (h1 k h).2; omega⟩
  · omega

theorem tell_round (z p B1 B2 B3 B4 r n q5 q9 Bs Bf Bu : Nat) (fa : Option Addr) (fc : Nat) (ta : Option Addr) (tc : Nat) (T : List ITr) (F fr : Int) (used : Nat) (Ky : Int × Nat → Prop) (w0 : World) {z6 z7 z8 z10 z11 z12 z13 z14 z15 z16 z17 z18 z19 z20 z21 z22 z23 z24 z25 z26 z27 z28 z29 z30 z31 z32 z33 z34 z35 z36 z37 z38 z39 z40 z41 z42 z43 z44 z45 z46 z47 z48 z49 z50 z51 z52 z53 z54 z55 z56 z57 z58 z59 z60 z61 z62 z63 z64 z65 z66 z67 z68 z69 z70 z71 z72 z73 z74 z75 z76 z77 z78 z79 z80 z81 z82 z83 z84 z85 z86 z87 z88 z89 z90 z91 z92 z93 z94 z95 z96 z97 z98 z99 z100 z101 z102 z103 z104 z105 z106 z107 z108 z109 z110 z111 z112 z113 z114 z115 z116 z117 z118 z119 z120 z121 : Value}
    (hat : TellAt w0 p B1 B2 B3 B4 r n F fa fc ta tc T) (h5 : w0.heap[q5]? = some (.cells #[.int .i64 fr, .int .u64 used] 94)) (hr : r < w0.heap.size)
    (hz : p < z ∧ B1 < z ∧ B2 < z ∧ B3 < z ∧ B4 < z ∧ r < z ∧ z ≤ q5 ∧ q5 < q9 ∧ q9 < w0.heap.size ∧ q9 ≠ Bs ∧ q9 ≠ Bf ∧ q9 ≠ Bu ∧ z ≤ Bs ∧ z ≤ Bf ∧ z ≤ Bu ∧ Bs < w0.heap.size ∧ Bf < w0.heap.size ∧ Bu < w0.heap.size) (hzt : ∀ a, ta = some a → a.block < z) (hne : r ≠ p ∧ r ≠ B1 ∧ r ≠ B2 ∧ r ≠ B3 ∧ r ≠ B4 ∧ (T ≠ [] → ∀ a, ta = some a → a.block ≠ r))
    (hn : n ≤ 9) (hT : ∀ t ∈ T, t.wf n) (hc : ∀ a : Int, (T.filter fun t => decide (t.a = a)).length ≤ 100) (h0 : 0 ≤ fr) (hu : used < 512)
    (hon : ∀ (fr' : Int) (used' : Nat) (Ky0 : Int × Nat → Prop) (wq : World), TellAt wq p B1 B2 B3 B4 r n F fa fc ta tc T → KnownT wq r T n F Ky0 → fr < fr' → fr' ≤ n → used' < 512 →
      Calls Try.prog 73 #[stV (fr', used'), .pointer (some ⟨B1, 0, none⟩), .pointer (some ⟨B2, 0, none⟩), .pointer (some ⟨B3, 0, none⟩), .pointer (some ⟨B4, 0, none⟩)] wq (OnP r n T F fr' used' Ky0 wq)) :
    RoundOwn Fence.wide Try.prog #[59] ((((Try.f73.body.bind rangeOf).map (·.1)).getD .skip)) ((((Try.f73.body.bind rangeOf).map (·.2)).getD .skip))
      (⟨((stV (fr, used))::(.pointer (some ⟨B1, 0, none⟩))::(.pointer (some ⟨B2, 0, none⟩))::(.pointer (some ⟨B3, 0, none⟩))::(.pointer (some ⟨B4, 0, none⟩))::(.pointer (some ⟨q5, 0, none⟩))::z6::z7::z8::(.pointer (some ⟨q9, 0, none⟩))::z10::z11::z12::z13::z14::z15::z16::z17::z18::z19::z20::z21::z22::z23::z24::z25::z26::z27::z28::z29::z30::z31::z32::z33::z34::z35::z36::z37::z38::z39::z40::z41::z42::z43::z44::z45::z46::z47::z48::z49::z50::z51::z52::z53::z54::z55::z56::z57::z58::z59::z60::z61::z62::z63::z64::z65::z66::z67::z68::z69::z70::z71::z72::z73::z74::z75::z76::z77::z78::z79::z80::z81::z82::z83::z84::z85::z86::z87::z88::z89::z90::z91::z92::z93::z94::z95::z96::z97::z98::z99::z100::z101::z102::z103::z104::z105::z106::z107::z108::z109::z110::z111::z112::z113::z114::z115::z116::z117::z118::z119::z120::z121 :: []).toArray, []⟩ : Act).tmps w0.heap.size
      (fun _ x vals _ => vals = #[trV x]) (KeepCells (NxB p Bs Bf Bu ta)) (TellI w0 r q9 n T F used (fun x => Ky x ∨ fr + 1 ≤ x.1)) (fun _ _ _ _ => False) (nextOf T fr used) := by
  rintro l own pre x vals W hl hol hrec hpost ⟨hown, hsW, hkW, h9W⟩ rfl
  obtain ⟨y1, y2, y3, y4, y5, y6, y7, y8, y9, y10, y11, y12, y13, y14, y15, y16, y17, y18⟩ := hz
  obtain ⟨ne1, ne2, ne3, ne4, ne5, ne6⟩ := hne
  have hmem : x ∈ nextOf T fr used := by obtain ⟨post, e⟩ := hpost; rw [e]; simp
  have hsub : ∀ t ∈ pre, t ∈ T := by
    obtain ⟨post, e⟩ := hpost
    intro t ht
    exact (next_mem (show t ∈ nextOf T fr used by rw [e]; exact List.mem_append_left _ ht)).1
  obtain ⟨hxT, hxa, hxu⟩ := next_mem hmem
  have hwf := hT x hxT
  have hT0 : T ≠ [] := fun e => by rw [e] at hxT; cases hxT
  have hxo : x.own < 512 := hwf.own_lt hn
  have hor : used ||| x.own < 512 := Nat.or_lt_two_pow (n := 9) hu hxo
  have hxb : ∀ i ∈ [x.a, x.b, x.c], -1 ≤ i ∧ i < 9 := by
    intro i hi
    simp only [List.mem_cons, List.not_mem_nil, or_false] at hi
    have ha := hwf.a
    rcases hi with rfl | rfl | rfl
    · omega
    · rcases hwf.b with h | h <;> omega
    · rcases hwf.c with h | h <;> omega
  have hbo := tellTo_b hn F (fun t ht => (hT t ht).own_lt hn) used pre hsub
  have hby := tellN_b hn F (fun t ht => (hT t ht).own_lt hn) (x.a + 1) (used ||| x.own)
  have hmany : (tellTo T n F used (pre ++ [x])).many < 4000000000000000000 := by
    obtain ⟨post, e⟩ := hpost
    refine tellTo_many hn F (fun t ht => (hT t ht).a.2) hc h0 used _ (fr := fr) ?_
    rw [e, show pre ++ x::post = (pre ++ [x]) ++ post by simp]
    exact List.sublist_append_left _ _
  have hsnoc : tellTo T n F used (pre ++ [x]) = (tellTo T n F used pre).add x.own (tellN T n F (x.a + 1) (used ||| x.own)) := tellTo_snoc T n F used pre x
  rw [hsnoc, add_many] at hmany
  have HSN := Lib.hid hsnoc
  have HBO := Lib.hid hbo
  have HBY := Lib.hid hby
  have HMANY := Lib.hid hmany
  clear hsnoc hbo hby hmany hpost hsub
  conv => arg 4; whnf
  unfold trV
  gi_wp2
  have hzW := hsW.size
  have hlW := (Array.getElem?_eq_some_iff.1 hrec.choose_spec).1
  refine ⟨fun k hk => Below.heap_alloc _ _ _ (hown k hk).2, by simp, fun W2 h2 hz2 hl2 => ?_⟩
  have hal := (Steps.alloc (fun k => k = l) W (.cells #[.int .i64 x.a, .int .i64 x.b, .int .i64 x.c] 32)).trans h2 (fun _ _ h => h)
  have e0 : W2.heap[W.heap.size]? = some (.cells #[.int .i64 x.a, .int .i64 x.b, .int .i64 x.c] 32) := (h2.block W.heap.size (by simp) (by omega)).trans (obj_new _ _)
  have hz2' : W.heap.size < W2.heap.size := (Array.getElem?_eq_some_iff.1 e0).1
  obtain ⟨q11, hq11⟩ : ∃ q, W.heap.size = q := ⟨_, rfl⟩
  try rw [hq11]
  rw [hq11] at e0 hz2' hlW hzW
  have e00 := cell_block e0 0
  have e01 := cell_block e0 1
  have e02 := cell_block e0 2
  simp only [gA, gB, gC] at e00 e01 e02
  have hsW2 : Steps (fun k => k = r ∨ k = q9 ∨ w0.heap.size ≤ k) w0 W2 := hsW.trans hal (fun k _ h => by omega)
  have hkW2 : KnownT W2 r T n F (fun x => Ky x ∨ fr + 1 ≤ x.1) := hkW.steps hal (fun h => by omega)
  have hatW2 : TellAt W2 p B1 B2 B3 B4 r n F fa fc ta tc T := hat.steps hsW2 (by omega) (by omega) (by omega) (by omega) (by omega) (fun k hk b o e h => by have := hzt _ e; have := ne6 hT0 _ e; dsimp only at *; omega)
  have h52 := hsW2.obj (k := q5) (by omega) h5
  have h92 := hal.obj (k := q9) (by omega) h9W
  have HS2 := Lib.hid hal
  have HOW := Lib.hid hown
  have hyi := iimages_any x W2 hxb
  clear hrec hl2 h2 hal hz2 hkW h9W hsW
  conv => arg 4; whnf
  gi_wp2_with (refine ⟨trivial, rfl, ?_⟩; gi_at_call 50; refine (CallsIn.inRound l (callsIn_wide.2 hyi)).mono ?_; rintro e W3 ⟨rfl, hb3⟩)
  have hs3 : Steps (fun _ => False) W2 W3 := ⟨hb3.os, hb3.tape, hb3.output, hb3.size, fun k hk _ => hb3.block k hk⟩
  have hkW3 := hkW2.steps hs3 (fun h => h)
  have hatW3 := hatW2.later hs3
  have h53 := hs3.obj (fun h => h) h52
  have e3 := hs3.obj (fun h => h) e0
  have hz3 := hs3.size
  refine tell_reg11 l p B1 B2 B3 B4 r n q5 q11 fa fc ta tc T F fr used x (fun x => Ky x ∨ fr + 1 ≤ x.1) W3 hatW3.o (cell_block h53 1) (cell_block e3 0) ⟨hwf.a.1, by have := hwf.a; omega⟩ (by omega) (by omega) hkW3.lt (by omega) (by omega) (by omega)
    (fun wq hq => hon (x.a + 1) (used ||| x.own) _ wq (hatW3.later hq) (hkW3.steps hq (fun h => h)) (by omega) (by have := hwf.a; omega) hor) _ _ ?_
  intro s62 s63 s64 s65 s66 s67 s68 s69 s70 s71 s72 q13 W4 hq13 g13 hs4 hk4
  have hz4 := hs4.size
  have hk4' : KnownT W4 r T n F (fun x => Ky x ∨ fr + 1 ≤ x.1) := hk4.mono (fun u h => by rcases h with h | h; exact h; exact .inr (by omega))
  have h94 := hs4.obj (k := q9) (by omega) (hs3.obj (fun h => h) h92)
  have hs24 : Steps (fun k => k = r) W2 W4 := (hs3.mono (own' := fun k => k = r) (fun _ _ h => h.elim)).trans hs4 (fun _ _ h => h)
  obtain ⟨y, hy⟩ : ∃ y, tellN T n F (x.a + 1) (used ||| x.own) = y := ⟨_, rfl⟩
  obtain ⟨o, ho⟩ : ∃ o, tellTo T n F used pre = o := ⟨_, rfl⟩
  rw [hy] at g13
  rw [ho] at h94
  have hsn := HSN.out
  have hby := HBY.out
  have hbo := HBO.out
  have hmany := HMANY.out
  rw [hy, ho] at hsn hmany
  rw [hy] at hby
  rw [ho] at hbo
  have HSN := Lib.hid hsn
  have HB := Lib.hid (And.intro hbo hby)
  clear HBY HBO HMANY hsn hy ho hbo hby
  unfold tdA at g13 h94
  have y0 := cell_block g13 0
  have y1' := cell_block g13 1
  have y2' := cell_block g13 2
  have y3' := cell_block g13 3
  simp only [gA, gB, gC] at y0 y1' y2' y3'
  clear e00 e01 e02 e0 e3 hatW2 hatW3 hat h5 h52 h53 h92 hkW2 hkW3 hk4 hs3 hs4 hb3
  have HS24 := Lib.hid hs24
  have HK4 := Lib.hid hk4'
  have FIN : Hid (∀ W8, Steps (fun k => k = r ∨ k = q9) W2 W8 → KnownT W8 r T n F (fun x => Ky x ∨ fr + 1 ≤ x.1) → W8.heap[q9]? = some (.cells (tdA (tellTo T n F used (pre ++ [x]))) 90) →
      (∀ k, own k → W8.heap[k]? = W2.heap[k]?) ∧ W2.heap.size ≤ W8.heap.size ∧ KeepCells (NxB p Bs Bf Bu ta) W W8 ∧ TellI w0 r q9 n T F used (fun x => Ky x ∨ fr + 1 ≤ x.1) own (pre ++ [x]) W8) := Lib.hid (by
    intro W8 hall hk8 h98
    have hzall := hall.size
    have hnx : ∀ k, NxB p Bs Bf Bu ta k → k < w0.heap.size ∧ k ≠ r ∧ k ≠ q9 := by
      intro k hk
      rcases hk with rfl | rfl | rfl | rfl | ⟨a, ha, rfl⟩
      · omega
      · omega
      · omega
      · omega
      · have := hzt a ha
        have := ne6 hT0 a ha
        omega
    refine ⟨fun k hk => ?_, hzall, ?_, ⟨fun k hk => ?_, hsW2.trans hall (fun k _ h => by omega), hk8, h98⟩⟩
    · have := HOW.out k hk
      exact hall.block k (by omega) (by omega)
    · exact (KeepCells.of_steps HS2.out (fun k hk (h : k = l) => by have := (hnx k hk).1; omega)).trans (KeepCells.of_steps hall (fun k hk h => by have := hnx k hk; omega))
    · have := HOW.out k hk
      omega)
  by_cases hm0 : y.many = 0
  · have hmi : (y.many : Int) = 0 := by omega
    gi_wp2
    refine FIN.out W4 (hs24.mono (fun _ _ h => .inl h)) hk4' ?_
    rw [HSN.out]
    unfold ITold.add
    rw [if_pos hm0]
    exact h94
  · have hmi : ¬ (y.many : Int) = 0 := by omega
    have hadd := add_pos (o := o) (own := x.own) hm0
    rw [hadd] at HSN
    have kc := fun k => cell_block h94 k
    have k0 := kc 0
    have k1 := kc 1
    have k2 := kc 2
    have k3 := kc 3
    have fc' := fun k => frozen_block h94 k
    have f0 := fc' 0
    have f1 := fc' 1
    simp only [gA, gB, gC] at k0 k1 k2 k3
    clear kc fc' hadd
    have ew0 : IntKind.i64.wrap ((o.many : Int) + (y.many : Int)) = ((o.many + y.many : Nat) : Int) := by rw [IntKind.wrap_i64]; omega
    have ew1 : IntKind.i64.wrap (y.lo + 1) = y.lo + 1 := by rw [IntKind.wrap_i64]; have := HB.out.2.lo; omega
    have ew2 : IntKind.i64.wrap (y.hi + 1) = y.hi + 1 := by rw [IntKind.wrap_i64]; have := HB.out.2.hi; omega
    obtain ⟨fm, hfm⟩ : ∃ fm, min o.flaws y.flaws = fm := ⟨_, rfl⟩
    rw [hfm] at HSN
    clear hmany
    gi_wp2_with fail
    · have hv : y.flaws = fm := by omega
      rw [hv]
      have zz := block_set (block_set h94 0 (.int .i64 ((o.many : Int) + (y.many : Int)))) 1 (.int .i64 fm)
      simp only [gD, gE, gF] at zz
      have hst5 : Steps (fun k => k = q9) W4 ((W4.setCell ⟨q9, 0, none⟩ (.int .i64 ((o.many : Int) + (y.many : Int)))).setCell ⟨q9, 1, none⟩ (.int .i64 fm)) := (Steps.setCell (own := fun k => k = q9) W4 (p := ⟨q9, 0, none⟩) rfl _).trans (Steps.setCell (own := fun k => k = q9) _ (p := ⟨q9, 1, none⟩) rfl _) (fun _ _ h => h)
      generalize (W4.setCell ⟨q9, 0, none⟩ (.int .i64 ((o.many : Int) + (y.many : Int)))).setCell ⟨q9, 1, none⟩ (.int .i64 fm) = W5 at zz hst5 ⊢
      have g135 := hst5.obj (k := q13) (by omega) g13
      clear k0 k1 k2 k3 f0 f1 hv
      refine ⟨trivial, rfl, (CallsIn.inRound l (callsIn_wide.2 (ijoin_any ⟨o.lo, o.hi⟩ ⟨y.lo + 1, y.hi + 1⟩ W5))).mono ?_⟩
      rintro e W6 ⟨rfl, hb6⟩
      have hst6 : Steps (fun k => k = q9) W4 W6 := hst5.trans ⟨hb6.os, hb6.tape, hb6.output, hb6.size, fun k hk _ => hb6.block k hk⟩ (fun _ _ h => h)
      have z6 := obj_later hb6 zz
      have g136 := obj_later hb6 g135
      have kc := fun k => cell_block z6 k
      have k2 := kc 2
      have k3 := kc 3
      have fc' := fun k => frozen_block z6 k
      have f2 := fc' 2
      have f3 := fc' 3
      simp only [gA, gB, gC] at k2 k3
      clear kc fc' zz g135 hst5 hb6 y0 y1' y2' y3'
      gi_wp2_with fail
      have zz := block_set (block_set z6 2 (.int .i64 (Sp.join ⟨o.lo, o.hi⟩ ⟨y.lo + 1, y.hi + 1⟩).lo)) 3 (.int .i64 (Sp.join ⟨o.lo, o.hi⟩ ⟨y.lo + 1, y.hi + 1⟩).hi)
      simp only [gD, gE, gF] at zz
      have hst7 := (Steps.setCell (own := fun k => k = q9) W6 (p := ⟨q9, 2, none⟩) rfl (.int .i64 (Sp.join ⟨o.lo, o.hi⟩ ⟨y.lo + 1, y.hi + 1⟩).lo)).trans (Steps.setCell (own := fun k => k = q9) _ (p := ⟨q9, 3, none⟩) rfl (.int .i64 (Sp.join ⟨o.lo, o.hi⟩ ⟨y.lo + 1, y.hi + 1⟩).hi)) (fun _ _ h => h)
      generalize (W6.setCell ⟨q9, 2, none⟩ (.int .i64 (Sp.join ⟨o.lo, o.hi⟩ ⟨y.lo + 1, y.hi + 1⟩).lo)).setCell ⟨q9, 3, none⟩ (.int .i64 (Sp.join ⟨o.lo, o.hi⟩ ⟨y.lo + 1, y.hi + 1⟩).hi) = W7 at zz hst7 ⊢
      have hst47 := hst6.trans hst7 (fun _ _ h => h)
      have hz9 : W7.heap[q9]? = some (.cells (tdA ⟨o.many + y.many, fm, (Sp.join ⟨o.lo, o.hi⟩ ⟨y.lo + 1, y.hi + 1⟩).lo, (Sp.join ⟨o.lo, o.hi⟩ ⟨y.lo + 1, y.hi + 1⟩).hi, o.some, o.all⟩) 90) := zz
      refine wpIn_last (tell_reg16 l q9 q13 x.own ⟨o.many + y.many, fm, (Sp.join ⟨o.lo, o.hi⟩ ⟨y.lo + 1, y.hi + 1⟩).lo, (Sp.join ⟨o.lo, o.hi⟩ ⟨y.lo + 1, y.hi + 1⟩).hi, o.some, o.all⟩ y W7 hz9 (hst7.obj (k := q13) (by omega) g136) (Nat.lt_of_lt_of_le HB.out.1.some (by decide)) HB.out.1.all (Nat.lt_of_lt_of_le HB.out.2.some (by decide)) HB.out.2.all (by omega) _ _ ?_)
      intro s101 s102 s103 s104 s105 s106 s107 s108 s109 s110 s111 s112 s113 s114 s115 s116 s117 W8 h98 hs8
      have hall : Steps (fun k => k = r ∨ k = q9) W2 W8 := (HS24.out.mono (fun _ _ h => .inl h)).trans ((hst47.trans hs8 (fun _ _ h => h)).mono (own' := fun k => k = r ∨ k = q9) (fun _ _ h => .inr h)) (fun _ _ h => h)
      have hk8 := HK4.out.steps (hst47.trans hs8 (fun _ _ h => h)) (by omega)
      have hzall := hall.size
      exact FIN.out W8 hall hk8 (h98.trans (by rw [HSN.out]; rfl))
    · have hv : o.flaws = fm := by omega
      rw [hv]
      have zz := block_set (block_set h94 0 (.int .i64 ((o.many : Int) + (y.many : Int)))) 1 (.int .i64 fm)
      simp only [gD, gE, gF] at zz
      have hst5 : Steps (fun k => k = q9) W4 ((W4.setCell ⟨q9, 0, none⟩ (.int .i64 ((o.many : Int) + (y.many : Int)))).setCell ⟨q9, 1, none⟩ (.int .i64 fm)) := (Steps.setCell (own := fun k => k = q9) W4 (p := ⟨q9, 0, none⟩) rfl _).trans (Steps.setCell (own := fun k => k = q9) _ (p := ⟨q9, 1, none⟩) rfl _) (fun _ _ h => h)
      generalize (W4.setCell ⟨q9, 0, none⟩ (.int .i64 ((o.many : Int) + (y.many : Int)))).setCell ⟨q9, 1, none⟩ (.int .i64 fm) = W5 at zz hst5 ⊢
      have g135 := hst5.obj (k := q13) (by omega) g13
      clear k0 k1 k2 k3 f0 f1 hv
      refine ⟨trivial, rfl, (CallsIn.inRound l (callsIn_wide.2 (ijoin_any ⟨o.lo, o.hi⟩ ⟨y.lo + 1, y.hi + 1⟩ W5))).mono ?_⟩
      rintro e W6 ⟨rfl, hb6⟩
      have hst6 : Steps (fun k => k = q9) W4 W6 := hst5.trans ⟨hb6.os, hb6.tape, hb6.output, hb6.size, fun k hk _ => hb6.block k hk⟩ (fun _ _ h => h)
      have z6 := obj_later hb6 zz
      have g136 := obj_later hb6 g135
      have kc := fun k => cell_block z6 k
      have k2 := kc 2
      have k3 := kc 3
      have fc' := fun k => frozen_block z6 k
      have f2 := fc' 2
      have f3 := fc' 3
      simp only [gA, gB, gC] at k2 k3
      clear kc fc' zz g135 hst5 hb6 y0 y1' y2' y3'
      gi_wp2_with fail
      have zz := block_set (block_set z6 2 (.int .i64 (Sp.join ⟨o.lo, o.hi⟩ ⟨y.lo + 1, y.hi + 1⟩).lo)) 3 (.int .i64 (Sp.join ⟨o.lo, o.hi⟩ ⟨y.lo + 1, y.hi + 1⟩).hi)
      simp only [gD, gE, gF] at zz
      have hst7 := (Steps.setCell (own := fun k => k = q9) W6 (p := ⟨q9, 2, none⟩) rfl (.int .i64 (Sp.join ⟨o.lo, o.hi⟩ ⟨y.lo + 1, y.hi + 1⟩).lo)).trans (Steps.setCell (own := fun k => k = q9) _ (p := ⟨q9, 3, none⟩) rfl (.int .i64 (Sp.join ⟨o.lo, o.hi⟩ ⟨y.lo + 1, y.hi + 1⟩).hi)) (fun _ _ h => h)
      generalize (W6.setCell ⟨q9, 2, none⟩ (.int .i64 (Sp.join ⟨o.lo, o.hi⟩ ⟨y.lo + 1, y.hi + 1⟩).lo)).setCell ⟨q9, 3, none⟩ (.int .i64 (Sp.join ⟨o.lo, o.hi⟩ ⟨y.lo + 1, y.hi + 1⟩).hi) = W7 at zz hst7 ⊢
      have hst47 := hst6.trans hst7 (fun _ _ h => h)
      have hz9 : W7.heap[q9]? = some (.cells (tdA ⟨o.many + y.many, fm, (Sp.join ⟨o.lo, o.hi⟩ ⟨y.lo + 1, y.hi + 1⟩).lo, (Sp.join ⟨o.lo, o.hi⟩ ⟨y.lo + 1, y.hi + 1⟩).hi, o.some, o.all⟩) 90) := zz
      refine wpIn_last (tell_reg16 l q9 q13 x.own ⟨o.many + y.many, fm, (Sp.join ⟨o.lo, o.hi⟩ ⟨y.lo + 1, y.hi + 1⟩).lo, (Sp.join ⟨o.lo, o.hi⟩ ⟨y.lo + 1, y.hi + 1⟩).hi, o.some, o.all⟩ y W7 hz9 (hst7.obj (k := q13) (by omega) g136) (Nat.lt_of_lt_of_le HB.out.1.some (by decide)) HB.out.1.all (Nat.lt_of_lt_of_le HB.out.2.some (by decide)) HB.out.2.all (by omega) _ _ ?_)
      intro s101 s102 s103 s104 s105 s106 s107 s108 s109 s110 s111 s112 s113 s114 s115 s116 s117 W8 h98 hs8
      have hall : Steps (fun k => k = r ∨ k = q9) W2 W8 := (HS24.out.mono (fun _ _ h => .inl h)).trans ((hst47.trans hs8 (fun _ _ h => h)).mono (own' := fun k => k = r ∨ k = q9) (fun _ _ h => .inr h)) (fun _ _ h => h)
      have hk8 := HK4.out.steps (hst47.trans hs8 (fun _ _ h => h)) (by omega)
      have hzall := hall.size
      exact FIN.out W8 hall hk8 (h98.trans (by rw [HSN.out]; rfl))
end Go.Proofs.Ytacioedolmaofaa
