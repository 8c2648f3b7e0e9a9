/- The law BorderMore, walked: two copies of the stars. -/
import Derived.Test.YtjkegmjjhdmkiaaBM25
import Derived.Test.YtjkegmjjhdmkiaaBM26
namespace Go.Proofs.Ytjkegmjjhdmkiaa
open Go.RowKit Go.Shelf
set_option maxHeartbeats 12800000
set_option maxRecDepth 100000
set_option linter.unusedSimpArgs false

theorem wpIn_append {P : Program} {n : Nat} {o : Oper} {a : Act} {w w' : World} {K : Act → World → Prop} {Q : Exit → Act → World → Prop} (s x : Operand) (t : TypeId) (v1 v2 v : Value)
    (ho : o.op = .call { callee := .builtin .append, args := #[s, x], argTypes := #[t, t] }) (hs : a.eval s = v1) (hx : a.eval x = v2)
    (hr : (Builtin.append_ #[t, t] o.type #[v1, v2]).run P w = .ok v w') (h : K (a.put o.dst v) w') : Oper.wpIn Fence.wide n P o a w K Q := by
  refine ⟨wideAll, ?_⟩
  have e : (o.semAt Fence.wide.round a.eval).run P w = .ok (.value v) w' := by
    show (execOp a.eval o).run P w = _
    unfold execOp
    simp only [ho, resolve, invoke, builtin, Sem.run_bind, Sem.run_pure, Result.andThen_ok, List.map_toArray, List.map_cons, List.map_nil, hs, hx, hr]
  rw [e]
  exact h

theorem lawMore_d (b : Bo) (fa sa : Option Addr) (fc sc p8 p9 p10 k : Nat) (by' : Int) (w w0 : World) {z0 z1 z4 z5 z6 z11 z12 z13 z14 z15 z16 z17 z18 z19 z20 z21 z22 z23 z24 z25 z26 z27 z28 z29 z30 z31 z32 z33 z34 z35 z36 z37 z38 z39 z40 z41 z42 z43 z44 z45 z46 z47 z48 z49 z50 z51 z52 z53 z54 z55 z56 z57 z58 z59 z60 z61 z62 z63 z64 z65 z66 z67 z68 z69 z70 z71 z72 z73 z74 z75 z76 z77 z78 z79 z80 z81 z82 z83 z84 z85 z86 z87 z88 z89 z90 z91 z92 z93 z94 z95 z96 z97 z98 z99 z100 z101 z102 z103 z104 z105 z106 z107 z108 z109 z110 z111 z112 z113 z114 z115 z116 z117 z118 z119 z120 z121 z122 z123 z124 z125 z126 z127 z128 z129 z130 z131 z132 z133 z134 z135 z136 z137 z138 z139 z140 z141 z142 z143 z144 z145 z146 z147 z148 z149 z150 z151 z152 z153 z154 z155 z156 z157 z158 z159 z160 z161 z162 z163 z164 z165 z166 z167 z168 z169 z170 z171 z172 z173 z174 z175 z176 z177 z178 z179 z180 z181 z182 z183 z184 z185 z186 z187 z188 z189 z190 z191 z192 z193 z194 z195 z196 z197 z198 z199 z200 z201 z202 z203 z204 z205 z206 z207 z208 z209 z210 z211 z212 z213 z214 z215 z216 z217 z218 z219 z220 z221 z222 z223 z224 z225 z226 z227 z228 z229 z230 : Value}
    (HB : Hid (BoArg w b fa sa)) (HOK : Hid (b.ok = true)) (hby : 0 ≤ by' ∧ by' ≤ 255) (hk : k < b.fs.length)
    (hne : (w.heap.size ≠ p8 ∧ w.heap.size ≠ p9 ∧ w.heap.size ≠ p10) ∧ (p8 ≠ p9 ∧ p8 ≠ p10 ∧ p9 ≠ p10) ∧ (w.heap.size ≤ p8 ∧ w.heap.size ≤ p9 ∧ w.heap.size ≤ p10))
    (gc : w0.heap[w.heap.size]? = some (.cells #[.int .i64 b.e.lo, .int .i64 b.e.hi, .int .i64 b.n.lo, .int .i64 b.n.hi, .slice fa b.fs.length fc, .slice sa b.ss.length sc] 26)) (kc8 : w0.heap[p8]? = some (.cells #[.int .i64 b.e.lo, .int .i64 b.e.hi, .int .i64 b.n.lo, .int .i64 b.n.hi, .slice fa b.fs.length fc, .slice sa b.ss.length sc] 26)) (kc9 : w0.heap[p9]? = some (.cells #[.int .i64 b.e.lo, .int .i64 b.e.hi, .int .i64 b.n.lo, .int .i64 b.n.hi, .slice fa b.fs.length fc, .slice sa b.ss.length sc] 26)) (kc10 : w0.heap[p10]? = some (.cells #[.int .i64 b.e.lo, .int .i64 b.e.hi, .int .i64 b.n.lo, .int .i64 b.n.hi, .slice fa b.fs.length fc, .slice sa b.ss.length sc] 26))
    (hbw : Below w.heap.size w w0) (K : Act → World → Prop) (hK : ∀ a w', Code.wp Try.prog (sndC' ((Try.f9.body.bind (tailAt' (isReg 5))).getD .skip)) (bodyPost Try.prog Try.f9 fun e w' => e = .returned (.bool true) ∧ Below w.heap.size w w') a w' → K a w') :
    Code.wp Try.prog (fstC' ((Try.f9.body.bind (tailAt' (isReg 5))).getD .skip)) (Exit.then K (bodyPost Try.prog Try.f9 fun e w' => e = .returned (.bool true) ∧ Below w.heap.size w w'))
      ⟨(z0 :: z1 :: (.int .u8 by') :: (.pointer (some ⟨w.heap.size, 0, none⟩)) :: z4 :: z5 :: z6 :: (.int .i64 k) :: (.pointer (some ⟨p8, 0, none⟩)) :: (.pointer (some ⟨p9, 0, none⟩)) :: (.pointer (some ⟨p10, 0, none⟩)) :: z11 :: z12 :: z13 :: z14 :: z15 :: z16 :: z17 :: z18 :: z19 :: z20 :: z21 :: z22 :: z23 :: z24 :: z25 :: z26 :: z27 :: z28 :: z29 :: z30 :: z31 :: z32 :: z33 :: z34 :: z35 :: z36 :: z37 :: z38 :: z39 :: z40 :: z41 :: z42 :: z43 :: z44 :: z45 :: z46 :: z47 :: z48 :: z49 :: z50 :: z51 :: z52 :: z53 :: z54 :: z55 :: z56 :: z57 :: z58 :: z59 :: z60 :: z61 :: z62 :: z63 :: z64 :: z65 :: z66 :: z67 :: z68 :: z69 :: z70 :: z71 :: z72 :: z73 :: z74 :: z75 :: z76 :: z77 :: z78 :: z79 :: z80 :: z81 :: z82 :: z83 :: z84 :: z85 :: z86 :: z87 :: z88 :: z89 :: z90 :: z91 :: z92 :: z93 :: z94 :: z95 :: z96 :: z97 :: z98 :: z99 :: z100 :: z101 :: z102 :: z103 :: z104 :: z105 :: z106 :: z107 :: z108 :: z109 :: z110 :: z111 :: z112 :: z113 :: z114 :: z115 :: z116 :: z117 :: z118 :: z119 :: z120 :: z121 :: z122 :: z123 :: z124 :: z125 :: z126 :: z127 :: z128 :: z129 :: z130 :: z131 :: z132 :: z133 :: z134 :: z135 :: z136 :: z137 :: z138 :: z139 :: z140 :: z141 :: z142 :: z143 :: z144 :: z145 :: z146 :: z147 :: z148 :: z149 :: z150 :: z151 :: z152 :: z153 :: z154 :: z155 :: z156 :: z157 :: z158 :: z159 :: z160 :: z161 :: z162 :: z163 :: z164 :: z165 :: z166 :: z167 :: z168 :: z169 :: z170 :: z171 :: z172 :: z173 :: z174 :: z175 :: z176 :: z177 :: z178 :: z179 :: z180 :: z181 :: z182 :: z183 :: z184 :: z185 :: z186 :: z187 :: z188 :: z189 :: z190 :: z191 :: z192 :: z193 :: z194 :: z195 :: z196 :: z197 :: z198 :: z199 :: z200 :: z201 :: z202 :: z203 :: z204 :: z205 :: z206 :: z207 :: z208 :: z209 :: z210 :: z211 :: z212 :: z213 :: z214 :: z215 :: z216 :: z217 :: z218 :: z219 :: z220 :: z221 :: z222 :: z223 :: z224 :: z225 :: z226 :: z227 :: z228 :: z229 :: z230 :: []).toArray, []⟩ w0 := by
  have hlens := bo_lens HOK.out
  have hne0 : b.fs ≠ [] := fun e => by rw [e] at hk; exact absurd hk (Nat.not_lt_zero _)
  obtain ⟨⟨m1, m2, m3⟩, ⟨m4, m5, m6⟩, ⟨m17, m18, m19⟩⟩ := hne
  conv => arg 2; whnf
  conv at hK => enter [a, w', 1, 2]; whnf
  have g_0 := obj_later (below_drew w0) gc
  have k8_0 := obj_later (below_drew w0) kc8
  have k9_0 := obj_later (below_drew w0) kc9
  have k10_0 := obj_later (below_drew w0) kc10
  have hbw_0 := hbw.trans ((below_drew w0).mono hbw.size)
  have h4 : ∀ W' : World, (W'.heap[w.heap.size]? = some (.cells #[.int .i64 b.e.lo, .int .i64 b.e.hi, .int .i64 b.n.lo, .int .i64 b.n.hi, .slice fa b.fs.length fc, .slice sa b.ss.length sc] 26) ∧ Below w.heap.size w W') → W'.cell? ⟨w.heap.size, 4, none⟩ = some (.slice fa b.fs.length fc) := fun W' h => cell_block h.1 4
  refine (wpIn_wide (n := 1)).1 ?_
  refine wpIn_region_Wn (S := fun W' => W'.heap[w.heap.size]? = some (.cells #[.int .i64 b.e.lo, .int .i64 b.e.hi, .int .i64 b.n.lo, .int .i64 b.n.hi, .slice fa b.fs.length fc, .slice sa b.ss.length sc] 26) ∧ Below w.heap.size w W') 12 (by kernel_rfl) (by kernel_rfl) ⟨g_0, hbw_0⟩ (fun hHeld => ?_)
  refine wpAnyW_takeD 1 51 (v := ?_) (by kernel_rfl) (by kernel_rfl) (by kernel_rfl) (by kernel_rfl) (fun _ _ _ h => h) ?_ (by assumption) ?_
  rotate_left
  · intro oi hoi w hSw; (try dsimp only at hSw); simp only [List.getElem?_toArray, List.getElem?_cons_zero, List.getElem?_cons_succ, Option.some.injEq] at hoi; subst hoi; go_simp; try with_reducible rfl
  simp only [Act.put, List.setIfInBounds_toArray, List.set_cons_zero, List.set_cons_succ]
  refine wpAnyW_takeD 2 52 (v := ?_) (by kernel_rfl) (by kernel_rfl) (by kernel_rfl) (by kernel_rfl) (fun _ _ _ h => h) ?_ (by assumption) ?_
  rotate_left
  · intro oi hoi w hSw; (try dsimp only at hSw); simp only [List.getElem?_toArray, List.getElem?_cons_zero, List.getElem?_cons_succ, Option.some.injEq] at hoi; subst hoi; go_simp; try with_reducible rfl
  simp only [Act.put, List.setIfInBounds_toArray, List.set_cons_zero, List.set_cons_succ]
  refine wpAnyW_takeD 5 55 (v := ?_) (by kernel_rfl) (by kernel_rfl) (by kernel_rfl) (by kernel_rfl) (fun _ _ _ h => h) ?_ (by assumption) ?_
  rotate_left
  · intro oi hoi w hSw; (try dsimp only at hSw); simp only [List.getElem?_toArray, List.getElem?_cons_zero, List.getElem?_cons_succ, Option.some.injEq] at hoi; subst hoi; go_simp; try with_reducible rfl
  simp only [Act.put, List.setIfInBounds_toArray, List.set_cons_zero, List.set_cons_succ]
  refine wpAnyW_takeD 6 56 (v := ?_) (by kernel_rfl) (by kernel_rfl) (by kernel_rfl) (by kernel_rfl) (fun _ _ _ h => h) ?_ (by assumption) ?_
  rotate_left
  · intro oi hoi w hSw; (try dsimp only at hSw); simp only [List.getElem?_toArray, List.getElem?_cons_zero, List.getElem?_cons_succ, Option.some.injEq] at hoi; subst hoi; go_simp; try with_reducible rfl
  simp only [Act.put, List.setIfInBounds_toArray, List.set_cons_zero, List.set_cons_succ]
  clear h4 gc kc8 kc9 kc10 hbw
  generalize w0.drew = wA at g_0 k8_0 k9_0 k10_0 hbw_0 hHeld ⊢
  clear hHeld
  refine wpAnyW_two 0 4 (by kernel_rfl) ⟨by kernel_rfl, by kernel_rfl⟩ ?_ ?_
  · intro o ho K hK
    simp only [List.getElem?_toArray, List.getElem?_cons_zero, List.getElem?_cons_succ, Option.some.injEq] at ho
    subst ho
    go_simp
    have hb_1 : Below wA.heap.size wA (wA.alloc (.cells #[] 55)) := below_alloc _ _
    have g_1 := obj_later hb_1 g_0
    have k8_1 := obj_later hb_1 k8_0
    have k9_1 := obj_later hb_1 k9_0
    have k10_1 := obj_later hb_1 k10_0
    have hbw_1 := hbw_0.trans (hb_1.mono hbw_0.size)
    refine hK _ _ ⟨g_1, hbw_1⟩ (fun _ => ?_)
    clear hK K
    try simp only [Act.put, List.setIfInBounds_toArray, List.set_cons_zero, List.set_cons_succ]
    obtain ⟨q0, hq0⟩ : ∃ q, wA.heap.size = q := ⟨_, rfl⟩
    try rw [hq0]
    clear hq0
    generalize (wA.alloc (.cells #[] 55)) = w1 at g_1 k8_1 k9_1 k10_1 hbw_1 ⊢
    clear hb_1 g_0 k8_0 k9_0 k10_0 hbw_0
    refine wpAnyW_two 3 4 (by kernel_rfl) ⟨by kernel_rfl, by kernel_rfl⟩ ?_ ?_
    · obtain ⟨cap0, w2, hrun, R8_2, hb_2, hs_2⟩ := copyNew w1 q0 fa fc b.fs hne0 (by omega) (HB.out.f.below hbw_1 (Nat.le_refl _))
      intro o ho K hK
      simp only [List.getElem?_toArray, List.getElem?_cons_zero, List.getElem?_cons_succ, Option.some.injEq] at ho
      subst ho
      refine wpIn_append (.tmp 50) (.tmp 52) 24 _ _ _ rfl rfl rfl hrun ?_
      have g_2 := obj_later hb_2 g_1
      have k8_2 := obj_later hb_2 k8_1
      have k9_2 := obj_later hb_2 k9_1
      have k10_2 := obj_later hb_2 k10_1
      have hbw_2 := hbw_1.trans (hb_2.mono hbw_1.size)
      refine hK _ _ ⟨g_2, hbw_2⟩ (fun _ => ?_)
      clear hK K hrun
      try simp only [Act.put, List.setIfInBounds_toArray, List.set_cons_zero, List.set_cons_succ]
      have ltg8 : w.heap.size < w1.heap.size ∧ p8 < w1.heap.size ∧ p9 < w1.heap.size ∧ p10 < w1.heap.size := ⟨(Array.getElem?_eq_some_iff.1 g_1).1, (Array.getElem?_eq_some_iff.1 k8_1).1, (Array.getElem?_eq_some_iff.1 k9_1).1, (Array.getElem?_eq_some_iff.1 k10_1).1⟩
      obtain ⟨g8, hg8⟩ : ∃ g, w1.heap.size = g := ⟨_, rfl⟩
      rw [hg8] at ltg8 R8_2 ⊢
      clear hb_2 hs_2 hg8 g_1 k8_1 k9_1 k10_1 hbw_1
      have hH := And.intro g_2 hbw_2
      refine wpAnyW_takeD 8 58 (v := ?_) (by kernel_rfl) (by kernel_rfl) (by kernel_rfl) (by kernel_rfl) (fun _ _ _ h => h) ?_ (by assumption) ?_
      rotate_left
      · intro oi hoi w hSw; (try dsimp only at hSw); simp only [List.getElem?_toArray, List.getElem?_cons_zero, List.getElem?_cons_succ, Option.some.injEq] at hoi; subst hoi; go_simp; try with_reducible rfl
      simp only [Act.put, List.setIfInBounds_toArray, List.set_cons_zero, List.set_cons_succ]
      clear hH
      refine wpAnyW_one 4 (by kernel_rfl) (by kernel_rfl) ?_
      intro o ho K hK
      simp only [List.getElem?_toArray, List.getElem?_cons_zero, List.getElem?_cons_succ, Option.some.injEq] at ho
      subst ho
      go_simp
      have hb_3 : Below w2.heap.size w2 (w2.alloc (.cells #[] 55)) := below_alloc _ _
      have g_3 := obj_later hb_3 g_2
      have k8_3 := obj_later hb_3 k8_2
      have k9_3 := obj_later hb_3 k9_2
      have k10_3 := obj_later hb_3 k10_2
      have R8_3 := R8_2.below hb_3 (Nat.le_refl _)
      have hbw_3 := hbw_2.trans (hb_3.mono hbw_2.size)
      refine hK _ _ ⟨g_3, hbw_3⟩ (fun _ => ?_)
      clear hK K
      try simp only [Act.put, List.setIfInBounds_toArray, List.set_cons_zero, List.set_cons_succ]
      obtain ⟨q1, hq1⟩ : ∃ q, w2.heap.size = q := ⟨_, rfl⟩
      try rw [hq1]
      clear hq1
      generalize (w2.alloc (.cells #[] 55)) = w3 at g_3 k8_3 k9_3 k10_3 R8_3 hbw_3 ⊢
      clear hb_3 g_2 k8_2 k9_2 k10_2 R8_2 hbw_2
      obtain ⟨cap1, w4, hrun, R9_4, hb_4, hs_4⟩ := copyNew w3 q1 fa fc b.fs hne0 (by omega) (HB.out.f.below hbw_3 (Nat.le_refl _))
      refine wpAnyW_one 7 (by kernel_rfl) (by kernel_rfl) ?_
      intro o ho K hK
      simp only [List.getElem?_toArray, List.getElem?_cons_zero, List.getElem?_cons_succ, Option.some.injEq] at ho
      subst ho
      refine wpIn_append (.tmp 54) (.tmp 56) 24 _ _ _ rfl rfl rfl hrun ?_
      have g_4 := obj_later hb_4 g_3
      have k8_4 := obj_later hb_4 k8_3
      have k9_4 := obj_later hb_4 k9_3
      have k10_4 := obj_later hb_4 k10_3
      have R8_4 := R8_3.below hb_4 (Nat.le_refl _)
      have hbw_4 := hbw_3.trans (hb_4.mono hbw_3.size)
      refine hK _ _ ⟨g_4, hbw_4⟩ (fun _ => ?_)
      clear hK K hrun
      try simp only [Act.put, List.setIfInBounds_toArray, List.set_cons_zero, List.set_cons_succ]
      have ltg9 : w.heap.size < w3.heap.size ∧ p8 < w3.heap.size ∧ p9 < w3.heap.size ∧ p10 < w3.heap.size := ⟨(Array.getElem?_eq_some_iff.1 g_3).1, (Array.getElem?_eq_some_iff.1 k8_3).1, (Array.getElem?_eq_some_iff.1 k9_3).1, (Array.getElem?_eq_some_iff.1 k10_3).1⟩
      obtain ⟨g9, hg9⟩ : ∃ g, w3.heap.size = g := ⟨_, rfl⟩
      rw [hg9] at ltg9 R9_4 ⊢
      have ltgg : g8 < g9 := by have := R8_3.lt; omega
      clear hb_4 hs_4 hg9 g_3 k8_3 k9_3 k10_3 R8_3 hbw_3
      obtain ⟨i0, i8, i9, i10⟩ := ltg8
      obtain ⟨j0, j8, j9, j10⟩ := ltg9
      have f4 := frozen_block k8_4 4
      have a4 := cell_block k8_4 4
      simp only [List.getElem?_toArray, List.getElem?_cons_zero, List.getElem?_cons_succ] at a4
      refine wpAnyW_one 9 (by kernel_rfl) (by kernel_rfl) ?_
      intro o ho K hK
      simp only [List.getElem?_toArray, List.getElem?_cons_zero, List.getElem?_cons_succ, Option.some.injEq] at ho
      subst ho
      go_simp
      have k8_5 := heap_setCell_same _ _ 4 _ _ (.slice (some ⟨g8, 0, none⟩) b.fs.length cap0) k8_4
      have g_5 := (Below.heap_setCell w4 ⟨p8, 4, none⟩ (.slice (some ⟨g8, 0, none⟩) b.fs.length cap0) w.heap.size (by show w.heap.size ≠ p8; omega)).trans g_4
      have k9_5 := (Below.heap_setCell w4 ⟨p8, 4, none⟩ (.slice (some ⟨g8, 0, none⟩) b.fs.length cap0) p9 (by show p9 ≠ p8; omega)).trans k9_4
      have k10_5 := (Below.heap_setCell w4 ⟨p8, 4, none⟩ (.slice (some ⟨g8, 0, none⟩) b.fs.length cap0) p10 (by show p10 ≠ p8; omega)).trans k10_4
      have R8_5 := R8_4.same (Below.heap_setCell w4 ⟨p8, 4, none⟩ (.slice (some ⟨g8, 0, none⟩) b.fs.length cap0) g8 (by show g8 ≠ p8; omega))
      have R9_5 := R9_4.same (Below.heap_setCell w4 ⟨p8, 4, none⟩ (.slice (some ⟨g8, 0, none⟩) b.fs.length cap0) g9 (by show g9 ≠ p8; omega))
      have hbw_5 := hbw_4.setCell (show w.heap.size ≤ (⟨p8, 4, none⟩ : Addr).block from m17) (.slice (some ⟨g8, 0, none⟩) b.fs.length cap0)
      generalize w4.setCell ⟨p8, 4, none⟩ (.slice (some ⟨g8, 0, none⟩) b.fs.length cap0) = w5 at k8_5 g_5 k9_5 k10_5 R8_5 R9_5 hbw_5 ⊢
      clear f4 a4 k8_4 g_4 k9_4 k10_4 R8_4 R9_4 hbw_4
      refine hK _ _ ⟨g_5, hbw_5⟩ (fun hH => ?_)
      clear hK K
      try simp only [Act.put, List.setIfInBounds_toArray, List.set_cons_zero, List.set_cons_succ]
      refine wpAnyW_takeD 10 59 (v := ?_) (by kernel_rfl) (by kernel_rfl) (by kernel_rfl) (by kernel_rfl) (fun _ _ _ h => h) ?_ (by assumption) ?_
      rotate_left
      · intro oi hoi w hSw; (try dsimp only at hSw); simp only [List.getElem?_toArray, List.getElem?_cons_zero, List.getElem?_cons_succ, Option.some.injEq] at hoi; subst hoi; go_simp; try with_reducible rfl
      simp only [Act.put, List.setIfInBounds_toArray, List.set_cons_zero, List.set_cons_succ]
      clear hH
      have f4 := frozen_block k9_5 4
      have a4 := cell_block k9_5 4
      simp only [List.getElem?_toArray, List.getElem?_cons_zero, List.getElem?_cons_succ] at a4
      refine wpAnyW_one 11 (by kernel_rfl) (by kernel_rfl) ?_
      intro o ho K hK
      simp only [List.getElem?_toArray, List.getElem?_cons_zero, List.getElem?_cons_succ, Option.some.injEq] at ho
      subst ho
      go_simp
      have k9_6 := heap_setCell_same _ _ 4 _ _ (.slice (some ⟨g9, 0, none⟩) b.fs.length cap1) k9_5
      have g_6 := (Below.heap_setCell w5 ⟨p9, 4, none⟩ (.slice (some ⟨g9, 0, none⟩) b.fs.length cap1) w.heap.size (by show w.heap.size ≠ p9; omega)).trans g_5
      have k8_6 := (Below.heap_setCell w5 ⟨p9, 4, none⟩ (.slice (some ⟨g9, 0, none⟩) b.fs.length cap1) p8 (by show p8 ≠ p9; omega)).trans k8_5
      have k10_6 := (Below.heap_setCell w5 ⟨p9, 4, none⟩ (.slice (some ⟨g9, 0, none⟩) b.fs.length cap1) p10 (by show p10 ≠ p9; omega)).trans k10_5
      have R8_6 := R8_5.same (Below.heap_setCell w5 ⟨p9, 4, none⟩ (.slice (some ⟨g9, 0, none⟩) b.fs.length cap1) g8 (by show g8 ≠ p9; omega))
      have R9_6 := R9_5.same (Below.heap_setCell w5 ⟨p9, 4, none⟩ (.slice (some ⟨g9, 0, none⟩) b.fs.length cap1) g9 (by show g9 ≠ p9; omega))
      have hbw_6 := hbw_5.setCell (show w.heap.size ≤ (⟨p9, 4, none⟩ : Addr).block from m18) (.slice (some ⟨g9, 0, none⟩) b.fs.length cap1)
      generalize w5.setCell ⟨p9, 4, none⟩ (.slice (some ⟨g9, 0, none⟩) b.fs.length cap1) = w6 at k8_6 g_6 k9_6 k10_6 R8_6 R9_6 hbw_6 ⊢
      clear f4 a4 k8_5 g_5 k9_5 k10_5 R8_5 R9_5 hbw_5
      refine hK _ _ ⟨g_6, hbw_6⟩ (fun hH => ?_)
      clear hK K hH
      try simp only [Act.put, List.setIfInBounds_toArray, List.set_cons_zero, List.set_cons_succ]
      refine wpAnyW_done (by kernel_rfl) ?_ _
      dsimp only [onNormal]
      go_upto_region 6 with fail
      refine lawMore_c b fa sa fc sc p8 p9 p10 g8 g9 cap0 cap1 k by' w w6 HB HOK hby hk ⟨⟨by omega, by omega, by omega⟩, ⟨by omega, by omega, by omega⟩, ⟨by omega, by omega, by omega, by omega, by omega⟩, ⟨by omega, by omega, by omega, by omega⟩, ⟨by omega, by omega, by omega, by omega, by omega⟩⟩ g_6 k8_6 k9_6 k10_6 (Lib.hid R8_6) (Lib.hid R9_6) hbw_6 _ ?_
      assumption
    · intro o ho K hK
      simp only [List.getElem?_toArray, List.getElem?_cons_zero, List.getElem?_cons_succ, Option.some.injEq] at ho
      subst ho
      go_simp
      have hb_2 : Below w1.heap.size w1 (w1.alloc (.cells #[] 55)) := below_alloc _ _
      have g_2 := obj_later hb_2 g_1
      have k8_2 := obj_later hb_2 k8_1
      have k9_2 := obj_later hb_2 k9_1
      have k10_2 := obj_later hb_2 k10_1
      have hbw_2 := hbw_1.trans (hb_2.mono hbw_1.size)
      refine hK _ _ ⟨g_2, hbw_2⟩ (fun _ => ?_)
      clear hK K
      try simp only [Act.put, List.setIfInBounds_toArray, List.set_cons_zero, List.set_cons_succ]
      obtain ⟨q1, hq1⟩ : ∃ q, w1.heap.size = q := ⟨_, rfl⟩
      try rw [hq1]
      clear hq1
      generalize (w1.alloc (.cells #[] 55)) = w2 at g_2 k8_2 k9_2 k10_2 hbw_2 ⊢
      clear hb_2 g_1 k8_1 k9_1 k10_1 hbw_1
      obtain ⟨cap0, w3, hrun, R8_3, hb_3, hs_3⟩ := copyNew w2 q0 fa fc b.fs hne0 (by omega) (HB.out.f.below hbw_2 (Nat.le_refl _))
      refine wpAnyW_one 3 (by kernel_rfl) (by kernel_rfl) ?_
      intro o ho K hK
      simp only [List.getElem?_toArray, List.getElem?_cons_zero, List.getElem?_cons_succ, Option.some.injEq] at ho
      subst ho
      refine wpIn_append (.tmp 50) (.tmp 52) 24 _ _ _ rfl rfl rfl hrun ?_
      have g_3 := obj_later hb_3 g_2
      have k8_3 := obj_later hb_3 k8_2
      have k9_3 := obj_later hb_3 k9_2
      have k10_3 := obj_later hb_3 k10_2
      have hbw_3 := hbw_2.trans (hb_3.mono hbw_2.size)
      refine hK _ _ ⟨g_3, hbw_3⟩ (fun _ => ?_)
      clear hK K hrun
      try simp only [Act.put, List.setIfInBounds_toArray, List.set_cons_zero, List.set_cons_succ]
      have ltg8 : w.heap.size < w2.heap.size ∧ p8 < w2.heap.size ∧ p9 < w2.heap.size ∧ p10 < w2.heap.size := ⟨(Array.getElem?_eq_some_iff.1 g_2).1, (Array.getElem?_eq_some_iff.1 k8_2).1, (Array.getElem?_eq_some_iff.1 k9_2).1, (Array.getElem?_eq_some_iff.1 k10_2).1⟩
      obtain ⟨g8, hg8⟩ : ∃ g, w2.heap.size = g := ⟨_, rfl⟩
      rw [hg8] at ltg8 R8_3 ⊢
      clear hb_3 hs_3 hg8 g_2 k8_2 k9_2 k10_2 hbw_2
      have hH := And.intro g_3 hbw_3
      refine wpAnyW_takeD 8 58 (v := ?_) (by kernel_rfl) (by kernel_rfl) (by kernel_rfl) (by kernel_rfl) (fun _ _ _ h => h) ?_ (by assumption) ?_
      rotate_left
      · intro oi hoi w hSw; (try dsimp only at hSw); simp only [List.getElem?_toArray, List.getElem?_cons_zero, List.getElem?_cons_succ, Option.some.injEq] at hoi; subst hoi; go_simp; try with_reducible rfl
      simp only [Act.put, List.setIfInBounds_toArray, List.set_cons_zero, List.set_cons_succ]
      clear hH
      obtain ⟨cap1, w4, hrun, R9_4, hb_4, hs_4⟩ := copyNew w3 q1 fa fc b.fs hne0 (by omega) (HB.out.f.below hbw_3 (Nat.le_refl _))
      refine wpAnyW_one 7 (by kernel_rfl) (by kernel_rfl) ?_
      intro o ho K hK
      simp only [List.getElem?_toArray, List.getElem?_cons_zero, List.getElem?_cons_succ, Option.some.injEq] at ho
      subst ho
      refine wpIn_append (.tmp 54) (.tmp 56) 24 _ _ _ rfl rfl rfl hrun ?_
      have g_4 := obj_later hb_4 g_3
      have k8_4 := obj_later hb_4 k8_3
      have k9_4 := obj_later hb_4 k9_3
      have k10_4 := obj_later hb_4 k10_3
      have R8_4 := R8_3.below hb_4 (Nat.le_refl _)
      have hbw_4 := hbw_3.trans (hb_4.mono hbw_3.size)
      refine hK _ _ ⟨g_4, hbw_4⟩ (fun _ => ?_)
      clear hK K hrun
      try simp only [Act.put, List.setIfInBounds_toArray, List.set_cons_zero, List.set_cons_succ]
      have ltg9 : w.heap.size < w3.heap.size ∧ p8 < w3.heap.size ∧ p9 < w3.heap.size ∧ p10 < w3.heap.size := ⟨(Array.getElem?_eq_some_iff.1 g_3).1, (Array.getElem?_eq_some_iff.1 k8_3).1, (Array.getElem?_eq_some_iff.1 k9_3).1, (Array.getElem?_eq_some_iff.1 k10_3).1⟩
      obtain ⟨g9, hg9⟩ : ∃ g, w3.heap.size = g := ⟨_, rfl⟩
      rw [hg9] at ltg9 R9_4 ⊢
      have ltgg : g8 < g9 := by have := R8_3.lt; omega
      clear hb_4 hs_4 hg9 g_3 k8_3 k9_3 k10_3 R8_3 hbw_3
      obtain ⟨i0, i8, i9, i10⟩ := ltg8
      obtain ⟨j0, j8, j9, j10⟩ := ltg9
      have f4 := frozen_block k8_4 4
      have a4 := cell_block k8_4 4
      simp only [List.getElem?_toArray, List.getElem?_cons_zero, List.getElem?_cons_succ] at a4
      refine wpAnyW_one 9 (by kernel_rfl) (by kernel_rfl) ?_
      intro o ho K hK
      simp only [List.getElem?_toArray, List.getElem?_cons_zero, List.getElem?_cons_succ, Option.some.injEq] at ho
      subst ho
      go_simp
      have k8_5 := heap_setCell_same _ _ 4 _ _ (.slice (some ⟨g8, 0, none⟩) b.fs.length cap0) k8_4
      have g_5 := (Below.heap_setCell w4 ⟨p8, 4, none⟩ (.slice (some ⟨g8, 0, none⟩) b.fs.length cap0) w.heap.size (by show w.heap.size ≠ p8; omega)).trans g_4
      have k9_5 := (Below.heap_setCell w4 ⟨p8, 4, none⟩ (.slice (some ⟨g8, 0, none⟩) b.fs.length cap0) p9 (by show p9 ≠ p8; omega)).trans k9_4
      have k10_5 := (Below.heap_setCell w4 ⟨p8, 4, none⟩ (.slice (some ⟨g8, 0, none⟩) b.fs.length cap0) p10 (by show p10 ≠ p8; omega)).trans k10_4
      have R8_5 := R8_4.same (Below.heap_setCell w4 ⟨p8, 4, none⟩ (.slice (some ⟨g8, 0, none⟩) b.fs.length cap0) g8 (by show g8 ≠ p8; omega))
      have R9_5 := R9_4.same (Below.heap_setCell w4 ⟨p8, 4, none⟩ (.slice (some ⟨g8, 0, none⟩) b.fs.length cap0) g9 (by show g9 ≠ p8; omega))
      have hbw_5 := hbw_4.setCell (show w.heap.size ≤ (⟨p8, 4, none⟩ : Addr).block from m17) (.slice (some ⟨g8, 0, none⟩) b.fs.length cap0)
      generalize w4.setCell ⟨p8, 4, none⟩ (.slice (some ⟨g8, 0, none⟩) b.fs.length cap0) = w5 at k8_5 g_5 k9_5 k10_5 R8_5 R9_5 hbw_5 ⊢
      clear f4 a4 k8_4 g_4 k9_4 k10_4 R8_4 R9_4 hbw_4
      refine hK _ _ ⟨g_5, hbw_5⟩ (fun hH => ?_)
      clear hK K
      try simp only [Act.put, List.setIfInBounds_toArray, List.set_cons_zero, List.set_cons_succ]
      refine wpAnyW_takeD 10 59 (v := ?_) (by kernel_rfl) (by kernel_rfl) (by kernel_rfl) (by kernel_rfl) (fun _ _ _ h => h) ?_ (by assumption) ?_
      rotate_left
      · intro oi hoi w hSw; (try dsimp only at hSw); simp only [List.getElem?_toArray, List.getElem?_cons_zero, List.getElem?_cons_succ, Option.some.injEq] at hoi; subst hoi; go_simp; try with_reducible rfl
      simp only [Act.put, List.setIfInBounds_toArray, List.set_cons_zero, List.set_cons_succ]
      clear hH
      have f4 := frozen_block k9_5 4
      have a4 := cell_block k9_5 4
      simp only [List.getElem?_toArray, List.getElem?_cons_zero, List.getElem?_cons_succ] at a4
      refine wpAnyW_one 11 (by kernel_rfl) (by kernel_rfl) ?_
      intro o ho K hK
      simp only [List.getElem?_toArray, List.getElem?_cons_zero, List.getElem?_cons_succ, Option.some.injEq] at ho
      subst ho
      go_simp
      have k9_6 := heap_setCell_same _ _ 4 _ _ (.slice (some ⟨g9, 0, none⟩) b.fs.length cap1) k9_5
      have g_6 := (Below.heap_setCell w5 ⟨p9, 4, none⟩ (.slice (some ⟨g9, 0, none⟩) b.fs.length cap1) w.heap.size (by show w.heap.size ≠ p9; omega)).trans g_5
      have k8_6 := (Below.heap_setCell w5 ⟨p9, 4, none⟩ (.slice (some ⟨g9, 0, none⟩) b.fs.length cap1) p8 (by show p8 ≠ p9; omega)).trans k8_5
      have k10_6 := (Below.heap_setCell w5 ⟨p9, 4, none⟩ (.slice (some ⟨g9, 0, none⟩) b.fs.length cap1) p10 (by show p10 ≠ p9; omega)).trans k10_5
      have R8_6 := R8_5.same (Below.heap_setCell w5 ⟨p9, 4, none⟩ (.slice (some ⟨g9, 0, none⟩) b.fs.length cap1) g8 (by show g8 ≠ p9; omega))
      have R9_6 := R9_5.same (Below.heap_setCell w5 ⟨p9, 4, none⟩ (.slice (some ⟨g9, 0, none⟩) b.fs.length cap1) g9 (by show g9 ≠ p9; omega))
      have hbw_6 := hbw_5.setCell (show w.heap.size ≤ (⟨p9, 4, none⟩ : Addr).block from m18) (.slice (some ⟨g9, 0, none⟩) b.fs.length cap1)
      generalize w5.setCell ⟨p9, 4, none⟩ (.slice (some ⟨g9, 0, none⟩) b.fs.length cap1) = w6 at k8_6 g_6 k9_6 k10_6 R8_6 R9_6 hbw_6 ⊢
      clear f4 a4 k8_5 g_5 k9_5 k10_5 R8_5 R9_5 hbw_5
      refine hK _ _ ⟨g_6, hbw_6⟩ (fun hH => ?_)
      clear hK K hH
      try simp only [Act.put, List.setIfInBounds_toArray, List.set_cons_zero, List.set_cons_succ]
      refine wpAnyW_done (by kernel_rfl) ?_ _
      dsimp only [onNormal]
      go_upto_region 6 with fail
      refine lawMore_c b fa sa fc sc p8 p9 p10 g8 g9 cap0 cap1 k by' w w6 HB HOK hby hk ⟨⟨by omega, by omega, by omega⟩, ⟨by omega, by omega, by omega⟩, ⟨by omega, by omega, by omega, by omega, by omega⟩, ⟨by omega, by omega, by omega, by omega⟩, ⟨by omega, by omega, by omega, by omega, by omega⟩⟩ g_6 k8_6 k9_6 k10_6 (Lib.hid R8_6) (Lib.hid R9_6) hbw_6 _ ?_
      assumption
  · intro o ho K hK
    simp only [List.getElem?_toArray, List.getElem?_cons_zero, List.getElem?_cons_succ, Option.some.injEq] at ho
    subst ho
    go_simp
    have hb_1 : Below wA.heap.size wA (wA.alloc (.cells #[] 55)) := below_alloc _ _
    have g_1 := obj_later hb_1 g_0
    have k8_1 := obj_later hb_1 k8_0
    have k9_1 := obj_later hb_1 k9_0
    have k10_1 := obj_later hb_1 k10_0
    have hbw_1 := hbw_0.trans (hb_1.mono hbw_0.size)
    refine hK _ _ ⟨g_1, hbw_1⟩ (fun _ => ?_)
    clear hK K
    try simp only [Act.put, List.setIfInBounds_toArray, List.set_cons_zero, List.set_cons_succ]
    obtain ⟨q1, hq1⟩ : ∃ q, wA.heap.size = q := ⟨_, rfl⟩
    try rw [hq1]
    clear hq1
    generalize (wA.alloc (.cells #[] 55)) = w1 at g_1 k8_1 k9_1 k10_1 hbw_1 ⊢
    clear hb_1 g_0 k8_0 k9_0 k10_0 hbw_0
    refine wpAnyW_one 0 (by kernel_rfl) (by kernel_rfl) ?_
    intro o ho K hK
    simp only [List.getElem?_toArray, List.getElem?_cons_zero, List.getElem?_cons_succ, Option.some.injEq] at ho
    subst ho
    go_simp
    have hb_2 : Below w1.heap.size w1 (w1.alloc (.cells #[] 55)) := below_alloc _ _
    have g_2 := obj_later hb_2 g_1
    have k8_2 := obj_later hb_2 k8_1
    have k9_2 := obj_later hb_2 k9_1
    have k10_2 := obj_later hb_2 k10_1
    have hbw_2 := hbw_1.trans (hb_2.mono hbw_1.size)
    refine hK _ _ ⟨g_2, hbw_2⟩ (fun _ => ?_)
    clear hK K
    try simp only [Act.put, List.setIfInBounds_toArray, List.set_cons_zero, List.set_cons_succ]
    obtain ⟨q0, hq0⟩ : ∃ q, w1.heap.size = q := ⟨_, rfl⟩
    try rw [hq0]
    clear hq0
    generalize (w1.alloc (.cells #[] 55)) = w2 at g_2 k8_2 k9_2 k10_2 hbw_2 ⊢
    clear hb_2 g_1 k8_1 k9_1 k10_1 hbw_1
    obtain ⟨cap0, w3, hrun, R8_3, hb_3, hs_3⟩ := copyNew w2 q0 fa fc b.fs hne0 (by omega) (HB.out.f.below hbw_2 (Nat.le_refl _))
    refine wpAnyW_one 3 (by kernel_rfl) (by kernel_rfl) ?_
    intro o ho K hK
    simp only [List.getElem?_toArray, List.getElem?_cons_zero, List.getElem?_cons_succ, Option.some.injEq] at ho
    subst ho
    refine wpIn_append (.tmp 50) (.tmp 52) 24 _ _ _ rfl rfl rfl hrun ?_
    have g_3 := obj_later hb_3 g_2
    have k8_3 := obj_later hb_3 k8_2
    have k9_3 := obj_later hb_3 k9_2
    have k10_3 := obj_later hb_3 k10_2
    have hbw_3 := hbw_2.trans (hb_3.mono hbw_2.size)
    refine hK _ _ ⟨g_3, hbw_3⟩ (fun _ => ?_)
    clear hK K hrun
    try simp only [Act.put, List.setIfInBounds_toArray, List.set_cons_zero, List.set_cons_succ]
    have ltg8 : w.heap.size < w2.heap.size ∧ p8 < w2.heap.size ∧ p9 < w2.heap.size ∧ p10 < w2.heap.size := ⟨(Array.getElem?_eq_some_iff.1 g_2).1, (Array.getElem?_eq_some_iff.1 k8_2).1, (Array.getElem?_eq_some_iff.1 k9_2).1, (Array.getElem?_eq_some_iff.1 k10_2).1⟩
    obtain ⟨g8, hg8⟩ : ∃ g, w2.heap.size = g := ⟨_, rfl⟩
    rw [hg8] at ltg8 R8_3 ⊢
    clear hb_3 hs_3 hg8 g_2 k8_2 k9_2 k10_2 hbw_2
    have hH := And.intro g_3 hbw_3
    refine wpAnyW_takeD 8 58 (v := ?_) (by kernel_rfl) (by kernel_rfl) (by kernel_rfl) (by kernel_rfl) (fun _ _ _ h => h) ?_ (by assumption) ?_
    rotate_left
    · intro oi hoi w hSw; (try dsimp only at hSw); simp only [List.getElem?_toArray, List.getElem?_cons_zero, List.getElem?_cons_succ, Option.some.injEq] at hoi; subst hoi; go_simp; try with_reducible rfl
    simp only [Act.put, List.setIfInBounds_toArray, List.set_cons_zero, List.set_cons_succ]
    clear hH
    obtain ⟨cap1, w4, hrun, R9_4, hb_4, hs_4⟩ := copyNew w3 q1 fa fc b.fs hne0 (by omega) (HB.out.f.below hbw_3 (Nat.le_refl _))
    refine wpAnyW_one 7 (by kernel_rfl) (by kernel_rfl) ?_
    intro o ho K hK
    simp only [List.getElem?_toArray, List.getElem?_cons_zero, List.getElem?_cons_succ, Option.some.injEq] at ho
    subst ho
    refine wpIn_append (.tmp 54) (.tmp 56) 24 _ _ _ rfl rfl rfl hrun ?_
    have g_4 := obj_later hb_4 g_3
    have k8_4 := obj_later hb_4 k8_3
    have k9_4 := obj_later hb_4 k9_3
    have k10_4 := obj_later hb_4 k10_3
    have R8_4 := R8_3.below hb_4 (Nat.le_refl _)
    have hbw_4 := hbw_3.trans (hb_4.mono hbw_3.size)
    refine hK _ _ ⟨g_4, hbw_4⟩ (fun _ => ?_)
    clear hK K hrun
    try simp only [Act.put, List.setIfInBounds_toArray, List.set_cons_zero, List.set_cons_succ]
    have ltg9 : w.heap.size < w3.heap.size ∧ p8 < w3.heap.size ∧ p9 < w3.heap.size ∧ p10 < w3.heap.size := ⟨(Array.getElem?_eq_some_iff.1 g_3).1, (Array.getElem?_eq_some_iff.1 k8_3).1, (Array.getElem?_eq_some_iff.1 k9_3).1, (Array.getElem?_eq_some_iff.1 k10_3).1⟩
    obtain ⟨g9, hg9⟩ : ∃ g, w3.heap.size = g := ⟨_, rfl⟩
    rw [hg9] at ltg9 R9_4 ⊢
    have ltgg : g8 < g9 := by have := R8_3.lt; omega
    clear hb_4 hs_4 hg9 g_3 k8_3 k9_3 k10_3 R8_3 hbw_3
    obtain ⟨i0, i8, i9, i10⟩ := ltg8
    obtain ⟨j0, j8, j9, j10⟩ := ltg9
    have f4 := frozen_block k8_4 4
    have a4 := cell_block k8_4 4
    simp only [List.getElem?_toArray, List.getElem?_cons_zero, List.getElem?_cons_succ] at a4
    refine wpAnyW_one 9 (by kernel_rfl) (by kernel_rfl) ?_
    intro o ho K hK
    simp only [List.getElem?_toArray, List.getElem?_cons_zero, List.getElem?_cons_succ, Option.some.injEq] at ho
    subst ho
    go_simp
    have k8_5 := heap_setCell_same _ _ 4 _ _ (.slice (some ⟨g8, 0, none⟩) b.fs.length cap0) k8_4
    have g_5 := (Below.heap_setCell w4 ⟨p8, 4, none⟩ (.slice (some ⟨g8, 0, none⟩) b.fs.length cap0) w.heap.size (by show w.heap.size ≠ p8; omega)).trans g_4
    have k9_5 := (Below.heap_setCell w4 ⟨p8, 4, none⟩ (.slice (some ⟨g8, 0, none⟩) b.fs.length cap0) p9 (by show p9 ≠ p8; omega)).trans k9_4
    have k10_5 := (Below.heap_setCell w4 ⟨p8, 4, none⟩ (.slice (some ⟨g8, 0, none⟩) b.fs.length cap0) p10 (by show p10 ≠ p8; omega)).trans k10_4
    have R8_5 := R8_4.same (Below.heap_setCell w4 ⟨p8, 4, none⟩ (.slice (some ⟨g8, 0, none⟩) b.fs.length cap0) g8 (by show g8 ≠ p8; omega))
    have R9_5 := R9_4.same (Below.heap_setCell w4 ⟨p8, 4, none⟩ (.slice (some ⟨g8, 0, none⟩) b.fs.length cap0) g9 (by show g9 ≠ p8; omega))
    have hbw_5 := hbw_4.setCell (show w.heap.size ≤ (⟨p8, 4, none⟩ : Addr).block from m17) (.slice (some ⟨g8, 0, none⟩) b.fs.length cap0)
    generalize w4.setCell ⟨p8, 4, none⟩ (.slice (some ⟨g8, 0, none⟩) b.fs.length cap0) = w5 at k8_5 g_5 k9_5 k10_5 R8_5 R9_5 hbw_5 ⊢
    clear f4 a4 k8_4 g_4 k9_4 k10_4 R8_4 R9_4 hbw_4
    refine hK _ _ ⟨g_5, hbw_5⟩ (fun hH => ?_)
    clear hK K
    try simp only [Act.put, List.setIfInBounds_toArray, List.set_cons_zero, List.set_cons_succ]
    refine wpAnyW_takeD 10 59 (v := ?_) (by kernel_rfl) (by kernel_rfl) (by kernel_rfl) (by kernel_rfl) (fun _ _ _ h => h) ?_ (by assumption) ?_
    rotate_left
    · intro oi hoi w hSw; (try dsimp only at hSw); simp only [List.getElem?_toArray, List.getElem?_cons_zero, List.getElem?_cons_succ, Option.some.injEq] at hoi; subst hoi; go_simp; try with_reducible rfl
    simp only [Act.put, List.setIfInBounds_toArray, List.set_cons_zero, List.set_cons_succ]
    clear hH
    have f4 := frozen_block k9_5 4
    have a4 := cell_block k9_5 4
    simp only [List.getElem?_toArray, List.getElem?_cons_zero, List.getElem?_cons_succ] at a4
    refine wpAnyW_one 11 (by kernel_rfl) (by kernel_rfl) ?_
    intro o ho K hK
    simp only [List.getElem?_toArray, List.getElem?_cons_zero, List.getElem?_cons_succ, Option.some.injEq] at ho
    subst ho
    go_simp
    have k9_6 := heap_setCell_same _ _ 4 _ _ (.slice (some ⟨g9, 0, none⟩) b.fs.length cap1) k9_5
    have g_6 := (Below.heap_setCell w5 ⟨p9, 4, none⟩ (.slice (some ⟨g9, 0, none⟩) b.fs.length cap1) w.heap.size (by show w.heap.size ≠ p9; omega)).trans g_5
    have k8_6 := (Below.heap_setCell w5 ⟨p9, 4, none⟩ (.slice (some ⟨g9, 0, none⟩) b.fs.length cap1) p8 (by show p8 ≠ p9; omega)).trans k8_5
    have k10_6 := (Below.heap_setCell w5 ⟨p9, 4, none⟩ (.slice (some ⟨g9, 0, none⟩) b.fs.length cap1) p10 (by show p10 ≠ p9; omega)).trans k10_5
    have R8_6 := R8_5.same (Below.heap_setCell w5 ⟨p9, 4, none⟩ (.slice (some ⟨g9, 0, none⟩) b.fs.length cap1) g8 (by show g8 ≠ p9; omega))
    have R9_6 := R9_5.same (Below.heap_setCell w5 ⟨p9, 4, none⟩ (.slice (some ⟨g9, 0, none⟩) b.fs.length cap1) g9 (by show g9 ≠ p9; omega))
    have hbw_6 := hbw_5.setCell (show w.heap.size ≤ (⟨p9, 4, none⟩ : Addr).block from m18) (.slice (some ⟨g9, 0, none⟩) b.fs.length cap1)
    generalize w5.setCell ⟨p9, 4, none⟩ (.slice (some ⟨g9, 0, none⟩) b.fs.length cap1) = w6 at k8_6 g_6 k9_6 k10_6 R8_6 R9_6 hbw_6 ⊢
    clear f4 a4 k8_5 g_5 k9_5 k10_5 R8_5 R9_5 hbw_5
    refine hK _ _ ⟨g_6, hbw_6⟩ (fun hH => ?_)
    clear hK K hH
    try simp only [Act.put, List.setIfInBounds_toArray, List.set_cons_zero, List.set_cons_succ]
    refine wpAnyW_done (by kernel_rfl) ?_ _
    dsimp only [onNormal]
    go_upto_region 6 with fail
    refine lawMore_c b fa sa fc sc p8 p9 p10 g8 g9 cap0 cap1 k by' w w6 HB HOK hby hk ⟨⟨by omega, by omega, by omega⟩, ⟨by omega, by omega, by omega⟩, ⟨by omega, by omega, by omega, by omega, by omega⟩, ⟨by omega, by omega, by omega, by omega⟩, ⟨by omega, by omega, by omega, by omega, by omega⟩⟩ g_6 k8_6 k9_6 k10_6 (Lib.hid R8_6) (Lib.hid R9_6) hbw_6 _ ?_
    assumption
end Go.Proofs.Ytjkegmjjhdmkiaa
