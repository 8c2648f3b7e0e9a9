/- The law BorderMore, walked: what is narrower. -/
import Derived.Test.YtjkegmjjhdmkiaaBM24
import Derived.Test.YtjkegmjjhdmkiaaBM19
namespace Go.Proofs.Ytjkegmjjhdmkiaa
open Go.RowKit Go.Shelf
set_option maxHeartbeats 12800000
set_option maxRecDepth 100000
set_option linter.unusedSimpArgs false

theorem lawMore_c (b : Bo) (fa sa : Option Addr) (fc sc p8 p9 p10 g8 g9 cap8 cap9 k : Nat) (by' : Int) (w wc : World) {z0 z1 z4 z5 z6 z11 z12 z13 z14 z15 z16 z17 z18 z19 z20 z21 z22 z23 z24 z25 z26 z27 z28 z29 z30 z31 z32 z33 z34 z35 z36 z37 z38 z39 z40 z41 z42 z43 z44 z45 z46 z47 z48 z49 z50 z51 z52 z53 z54 z55 z56 z57 z58 z59 z60 z61 z62 z63 z64 z65 z66 z67 z68 z69 z70 z71 z72 z73 z74 z75 z76 z77 z78 z79 z80 z81 z82 z83 z84 z85 z86 z87 z88 z89 z90 z91 z92 z93 z94 z95 z96 z97 z98 z99 z100 z101 z102 z103 z104 z105 z106 z107 z108 z109 z110 z111 z112 z113 z114 z115 z116 z117 z118 z119 z120 z121 z122 z123 z124 z125 z126 z127 z128 z129 z130 z131 z132 z133 z134 z135 z136 z137 z138 z139 z140 z141 z142 z143 z144 z145 z146 z147 z148 z149 z150 z151 z152 z153 z154 z155 z156 z157 z158 z159 z160 z161 z162 z163 z164 z165 z166 z167 z168 z169 z170 z171 z172 z173 z174 z175 z176 z177 z178 z179 z180 z181 z182 z183 z184 z185 z186 z187 z188 z189 z190 z191 z192 z193 z194 z195 z196 z197 z198 z199 z200 z201 z202 z203 z204 z205 z206 z207 z208 z209 z210 z211 z212 z213 z214 z215 z216 z217 z218 z219 z220 z221 z222 z223 z224 z225 z226 z227 z228 z229 z230 : Value}
    (HB : Hid (BoArg w b fa sa)) (HOK : Hid (b.ok = true)) (hby : 0 ≤ by' ∧ by' ≤ 255) (hk : k < b.fs.length)
    (hne : (w.heap.size ≠ p8 ∧ w.heap.size ≠ p9 ∧ w.heap.size ≠ p10) ∧ (p8 ≠ p9 ∧ p8 ≠ p10 ∧ p9 ≠ p10) ∧ (g8 ≠ g9 ∧ g8 ≠ p8 ∧ g8 ≠ p9 ∧ g8 ≠ p10 ∧ g8 ≠ w.heap.size) ∧ (g9 ≠ p8 ∧ g9 ≠ p9 ∧ g9 ≠ p10 ∧ g9 ≠ w.heap.size) ∧ (w.heap.size ≤ p8 ∧ w.heap.size ≤ p9 ∧ w.heap.size ≤ p10 ∧ w.heap.size ≤ g8 ∧ w.heap.size ≤ g9))
    (gc : wc.heap[w.heap.size]? = some (.cells #[.int .i64 b.e.lo, .int .i64 b.e.hi, .int .i64 b.n.lo, .int .i64 b.n.hi, .slice fa b.fs.length fc, .slice sa b.ss.length sc] 26)) (k8 : wc.heap[p8]? = some (.cells #[.int .i64 b.e.lo, .int .i64 b.e.hi, .int .i64 b.n.lo, .int .i64 b.n.hi, .slice (some ⟨g8, 0, none⟩) b.fs.length cap8, .slice sa b.ss.length sc] 26)) (k9 : wc.heap[p9]? = some (.cells #[.int .i64 b.e.lo, .int .i64 b.e.hi, .int .i64 b.n.lo, .int .i64 b.n.hi, .slice (some ⟨g9, 0, none⟩) b.fs.length cap9, .slice sa b.ss.length sc] 26)) (k10 : wc.heap[p10]? = some (.cells #[.int .i64 b.e.lo, .int .i64 b.e.hi, .int .i64 b.n.lo, .int .i64 b.n.hi, .slice fa b.fs.length fc, .slice sa b.ss.length sc] 26))
    (R8 : Hid (RowEd wc g8 b.fs)) (R9 : Hid (RowEd wc g9 b.fs)) (hbw : Below w.heap.size w wc) (K : Act → World → Prop) (hK : ∀ a w', Code.wp Try.prog (sndC' ((Try.f9.body.bind (tailAt' (isReg 6))).getD .skip)) (bodyPost Try.prog Try.f9 fun e w' => e = .returned (.bool true) ∧ Below w.heap.size w w') a w' → K a w') :
    Code.wp Try.prog (fstC' ((Try.f9.body.bind (tailAt' (isReg 6))).getD .skip)) (Exit.then K (bodyPost Try.prog Try.f9 fun e w' => e = .returned (.bool true) ∧ Below w.heap.size w w'))
      ⟨(z0 :: z1 :: (.int .u8 by') :: (.pointer (some ⟨w.heap.size, 0, none⟩)) :: z4 :: z5 :: z6 :: (.int .i64 k) :: (.pointer (some ⟨p8, 0, none⟩)) :: (.pointer (some ⟨p9, 0, none⟩)) :: (.pointer (some ⟨p10, 0, none⟩)) :: z11 :: z12 :: z13 :: z14 :: z15 :: z16 :: z17 :: z18 :: z19 :: z20 :: z21 :: z22 :: z23 :: z24 :: z25 :: z26 :: z27 :: z28 :: z29 :: z30 :: z31 :: z32 :: z33 :: z34 :: z35 :: z36 :: z37 :: z38 :: z39 :: z40 :: z41 :: z42 :: z43 :: z44 :: z45 :: z46 :: z47 :: z48 :: z49 :: z50 :: z51 :: z52 :: z53 :: z54 :: z55 :: z56 :: z57 :: z58 :: z59 :: z60 :: z61 :: z62 :: z63 :: z64 :: z65 :: z66 :: z67 :: z68 :: z69 :: z70 :: z71 :: z72 :: z73 :: z74 :: z75 :: z76 :: z77 :: z78 :: z79 :: z80 :: z81 :: z82 :: z83 :: z84 :: z85 :: z86 :: z87 :: z88 :: z89 :: z90 :: z91 :: z92 :: z93 :: z94 :: z95 :: z96 :: z97 :: z98 :: z99 :: z100 :: z101 :: z102 :: z103 :: z104 :: z105 :: z106 :: z107 :: z108 :: z109 :: z110 :: z111 :: z112 :: z113 :: z114 :: z115 :: z116 :: z117 :: z118 :: z119 :: z120 :: z121 :: z122 :: z123 :: z124 :: z125 :: z126 :: z127 :: z128 :: z129 :: z130 :: z131 :: z132 :: z133 :: z134 :: z135 :: z136 :: z137 :: z138 :: z139 :: z140 :: z141 :: z142 :: z143 :: z144 :: z145 :: z146 :: z147 :: z148 :: z149 :: z150 :: z151 :: z152 :: z153 :: z154 :: z155 :: z156 :: z157 :: z158 :: z159 :: z160 :: z161 :: z162 :: z163 :: z164 :: z165 :: z166 :: z167 :: z168 :: z169 :: z170 :: z171 :: z172 :: z173 :: z174 :: z175 :: z176 :: z177 :: z178 :: z179 :: z180 :: z181 :: z182 :: z183 :: z184 :: z185 :: z186 :: z187 :: z188 :: z189 :: z190 :: z191 :: z192 :: z193 :: z194 :: z195 :: z196 :: z197 :: z198 :: z199 :: z200 :: z201 :: z202 :: z203 :: z204 :: z205 :: z206 :: z207 :: z208 :: z209 :: z210 :: z211 :: z212 :: z213 :: z214 :: z215 :: z216 :: z217 :: z218 :: z219 :: z220 :: z221 :: z222 :: z223 :: z224 :: z225 :: z226 :: z227 :: z228 :: z229 :: z230 :: []).toArray, []⟩ wc := by
  have hlens := bo_lens HOK.out
  have hki : (k : Int) < b.fs.length := by omega
  have hfl : (b.fs.length : Int) ≤ 6 := by omega
  have hxo := (edok_iff _).1 (List.all_eq_true.1 ((ok_iff b).1 HOK.out).2.2.2.2.1 b.fs[k] (List.getElem_mem hk))
  have hE := R8.out.ed k hk
  have hth := thin_narrow b k (by' % 3) (by' / 4 % 9) (by omega) (by omega) HOK.out hk
  have hsu := sure_narrow b k HOK.out hk
  have HTH := Lib.hid hth
  have HSU := Lib.hid hsu
  have hle := less_narrow b (by' % 3) (by' / 8 % 3) (by omega) (by omega) HOK.out
  have HLE := Lib.hid hle
  have hokb := (ok_iff b).1 HOK.out
  obtain ⟨⟨o1, o2, o3⟩, ⟨o4, o5, o6⟩, _, _, _, _⟩ := hokb
  have hX : b.fs[k] = b.fs[k] := rfl
  clear hth hsu hle
  generalize hx : b.fs[k] = x at hxo hE HTH HSU
  clear hX
  have HX := Lib.hid hx
  clear hx
  obtain ⟨⟨x1, x2, x3⟩, _, x4, x5, x6⟩ := hxo
  obtain ⟨hy1, hy2⟩ := hby
  have c4 := cell_block k8 4
  simp only [List.getElem?_toArray, List.getElem?_cons_zero, List.getElem?_cons_succ] at c4
  conv => arg 2; whnf
  conv at hK => enter [a, w', 1, 2]; whnf
  go_upto_region 7 with fail
  clear c4
  obtain ⟨d, hd, hd0, hd4⟩ : ∃ d : Int, by' % 3 = d ∧ 0 ≤ d ∧ d ≤ 2 := ⟨_, rfl, by omega, by omega⟩
  obtain ⟨f, hf, hf0, hf4⟩ : ∃ f : Int, by' / 4 % 9 = f ∧ 0 ≤ f ∧ f ≤ 8 := ⟨_, rfl, by omega, by omega⟩
  obtain ⟨h, hh, hh0, hh4⟩ : ∃ h : Int, by' / 8 % 3 = h ∧ 0 ≤ h ∧ h ≤ 2 := ⟨_, rfl, by omega, by omega⟩
  rw [hd, hf] at HTH
  rw [hd, hh] at HLE
  have q1 : IntKind.i64.wrap (x.e.lo + d) = x.e.lo + d := IntWalk.i64_in _ (by omega)
  have q2 : IntKind.i64.wrap (x.b.hi - f) = x.b.hi - f := IntWalk.i64_in _ (by omega)
  have q3 : by'.tdiv 4 = by' / 4 := Int.tdiv_eq_ediv_of_nonneg hy1
  have q4 : (by' / 4).tmod 9 = by' / 4 % 9 := Int.tmod_eq_emod_of_nonneg (by omega)
  have q5 : by'.tmod 3 = by' % 3 := Int.tmod_eq_emod_of_nonneg hy1
  have e0 : ∀ W', Below wc.heap.size wc W' → W'.cell? ⟨g8, k * 7, none⟩ = some (.int .i64 x.e.lo) := fun W' hb => cell_later hb hE.c0
  have e1 : ∀ W', Below wc.heap.size wc W' → W'.cell? ⟨g8, k * 7 + 1, none⟩ = some (.int .i64 x.e.hi) := fun W' hb => cell_later hb hE.c1
  have e4 : ∀ W', Below wc.heap.size wc W' → W'.cell? ⟨g8, k * 7 + 4, none⟩ = some (.int .i64 x.b.lo) := fun W' hb => cell_later hb hE.c4
  have e5 : ∀ W', Below wc.heap.size wc W' → W'.cell? ⟨g8, k * 7 + 5, none⟩ = some (.int .i64 x.b.hi) := fun W' hb => cell_later hb hE.c5
  refine (wpIn_wide (n := 1)).1 ?_
  have q0 : IntKind.i64.wrap by' = by' := IntWalk.i64_in _ (by omega)
  have q6 : IntKind.i64.wrap (by' / 4) = by' / 4 := IntWalk.i64_in _ (by omega)
  refine wpIn_region_Vn (B := [36, 40]) (S := fun W' => Below wc.heap.size wc W') 41 (by kernel_rfl) (by kernel_rfl) (below_drew wc) (fun hHeld => ?_)
  refine wpAnyV_takeP 0 64 (v := ?_) (by kernel_rfl) (by kernel_rfl) (by kernel_rfl) (by kernel_rfl) (fun _ _ _ h => h) ?_ (by kernel_rfl) (by first | exact .inr hHeld | exact .inl (by kernel_rfl)) ?_
  rotate_left
  · intro oi hoi w; simp only [List.getElem?_toArray, List.getElem?_cons_zero, List.getElem?_cons_succ, Option.some.injEq] at hoi; subst hoi; go_simp; try with_reducible rfl
  simp only [Act.put, List.setIfInBounds_toArray, List.set_cons_zero, List.set_cons_succ]
  refine wpAnyV_takeP 1 65 (v := ?_) (by kernel_rfl) (by kernel_rfl) (by kernel_rfl) (by kernel_rfl) (fun _ _ _ h => h) ?_ (by kernel_rfl) (by first | exact .inr hHeld | exact .inl (by kernel_rfl)) ?_
  rotate_left
  · intro oi hoi w; simp only [List.getElem?_toArray, List.getElem?_cons_zero, List.getElem?_cons_succ, Option.some.injEq] at hoi; subst hoi; go_simp; try with_reducible rfl
  simp only [Act.put, List.setIfInBounds_toArray, List.set_cons_zero, List.set_cons_succ]
  refine wpAnyV_takeP 2 66 (v := ?_) (by kernel_rfl) (by kernel_rfl) (by kernel_rfl) (by kernel_rfl) (fun _ _ _ h => h) ?_ (by kernel_rfl) (by first | exact .inr hHeld | exact .inl (by kernel_rfl)) ?_
  rotate_left
  · intro oi hoi w; simp only [List.getElem?_toArray, List.getElem?_cons_zero, List.getElem?_cons_succ, Option.some.injEq] at hoi; subst hoi; go_simp; try with_reducible rfl
  simp only [Act.put, List.setIfInBounds_toArray, List.set_cons_zero, List.set_cons_succ]
  refine wpAnyV_takeP 3 67 (v := ?_) (by kernel_rfl) (by kernel_rfl) (by kernel_rfl) (by kernel_rfl) (fun _ _ _ h => h) ?_ (by kernel_rfl) (by first | exact .inr hHeld | exact .inl (by kernel_rfl)) ?_
  rotate_left
  · intro oi hoi w; simp only [List.getElem?_toArray, List.getElem?_cons_zero, List.getElem?_cons_succ, Option.some.injEq] at hoi; subst hoi; go_simp; try with_reducible rfl
  simp only [Act.put, List.setIfInBounds_toArray, List.set_cons_zero, List.set_cons_succ]
  refine wpAnyV_takeP 4 68 (v := ?_) (by kernel_rfl) (by kernel_rfl) (by kernel_rfl) (by kernel_rfl) (fun _ _ _ h => h) ?_ (by kernel_rfl) (by first | exact .inr hHeld | exact .inl (by kernel_rfl)) ?_
  rotate_left
  · intro oi hoi w; simp only [List.getElem?_toArray, List.getElem?_cons_zero, List.getElem?_cons_succ, Option.some.injEq] at hoi; subst hoi; go_simp; try with_reducible rfl
  simp only [Act.put, List.setIfInBounds_toArray, List.set_cons_zero, List.set_cons_succ]
  refine wpAnyV_takeP 5 69 (v := ?_) (by kernel_rfl) (by kernel_rfl) (by kernel_rfl) (by kernel_rfl) (fun _ _ _ h => h) ?_ (by kernel_rfl) (by first | exact .inr hHeld | exact .inl (by kernel_rfl)) ?_
  rotate_left
  · intro oi hoi w; simp only [List.getElem?_toArray, List.getElem?_cons_zero, List.getElem?_cons_succ, Option.some.injEq] at hoi; subst hoi; go_simp; try with_reducible rfl
  simp only [Act.put, List.setIfInBounds_toArray, List.set_cons_zero, List.set_cons_succ]
  refine wpAnyV_takeD 6 70 (v := ?_) (by kernel_rfl) (by kernel_rfl) (by kernel_rfl) (by kernel_rfl) (fun _ _ _ h => h) (by kernel_rfl) ?_ (by assumption) ?_
  rotate_left
  · intro oi hoi w hSw; (try dsimp only at hSw); simp only [List.getElem?_toArray, List.getElem?_cons_zero, List.getElem?_cons_succ, Option.some.injEq] at hoi; subst hoi; go_simp; try with_reducible rfl
  simp only [Act.put, List.setIfInBounds_toArray, List.set_cons_zero, List.set_cons_succ]
  refine wpAnyV_takeP 7 71 (v := ?_) (by kernel_rfl) (by kernel_rfl) (by kernel_rfl) (by kernel_rfl) (fun _ _ _ h => h) ?_ (by kernel_rfl) (by first | exact .inr hHeld | exact .inl (by kernel_rfl)) ?_
  rotate_left
  · intro oi hoi w; simp only [List.getElem?_toArray, List.getElem?_cons_zero, List.getElem?_cons_succ, Option.some.injEq] at hoi; subst hoi; go_simp; try with_reducible rfl
  simp only [Act.put, List.setIfInBounds_toArray, List.set_cons_zero, List.set_cons_succ]
  refine wpAnyV_takeP 8 72 (v := ?_) (by kernel_rfl) (by kernel_rfl) (by kernel_rfl) (by kernel_rfl) (fun _ _ _ h => h) ?_ (by kernel_rfl) (by first | exact .inr hHeld | exact .inl (by kernel_rfl)) ?_
  rotate_left
  · intro oi hoi w; simp only [List.getElem?_toArray, List.getElem?_cons_zero, List.getElem?_cons_succ, Option.some.injEq] at hoi; subst hoi; go_simp; try with_reducible rfl
  simp only [Act.put, List.setIfInBounds_toArray, List.set_cons_zero, List.set_cons_succ]
  refine wpAnyV_takeP 9 73 (v := ?_) (by kernel_rfl) (by kernel_rfl) (by kernel_rfl) (by kernel_rfl) (fun _ _ _ h => h) ?_ (by kernel_rfl) (by first | exact .inr hHeld | exact .inl (by kernel_rfl)) ?_
  rotate_left
  · intro oi hoi w; simp only [List.getElem?_toArray, List.getElem?_cons_zero, List.getElem?_cons_succ, Option.some.injEq] at hoi; subst hoi; go_simp; try with_reducible rfl
  simp only [Act.put, List.setIfInBounds_toArray, List.set_cons_zero, List.set_cons_succ]
  refine wpAnyV_takeP 10 74 (v := ?_) (by kernel_rfl) (by kernel_rfl) (by kernel_rfl) (by kernel_rfl) (fun _ _ _ h => h) ?_ (by kernel_rfl) (by first | exact .inr hHeld | exact .inl (by kernel_rfl)) ?_
  rotate_left
  · intro oi hoi w; simp only [List.getElem?_toArray, List.getElem?_cons_zero, List.getElem?_cons_succ, Option.some.injEq] at hoi; subst hoi; go_simp; try with_reducible rfl
  simp only [Act.put, List.setIfInBounds_toArray, List.set_cons_zero, List.set_cons_succ]
  refine wpAnyV_takeD 11 75 (v := ?_) (by kernel_rfl) (by kernel_rfl) (by kernel_rfl) (by kernel_rfl) (fun _ _ _ h => h) (by kernel_rfl) ?_ (by assumption) ?_
  rotate_left
  · intro oi hoi w hSw; (try dsimp only at hSw); simp only [List.getElem?_toArray, List.getElem?_cons_zero, List.getElem?_cons_succ, Option.some.injEq] at hoi; subst hoi; go_simp; try with_reducible rfl
  simp only [Act.put, List.setIfInBounds_toArray, List.set_cons_zero, List.set_cons_succ]
  refine wpAnyV_takeP 12 76 (v := ?_) (by kernel_rfl) (by kernel_rfl) (by kernel_rfl) (by kernel_rfl) (fun _ _ _ h => h) ?_ (by kernel_rfl) (by first | exact .inr hHeld | exact .inl (by kernel_rfl)) ?_
  rotate_left
  · intro oi hoi w; simp only [List.getElem?_toArray, List.getElem?_cons_zero, List.getElem?_cons_succ, Option.some.injEq] at hoi; subst hoi; go_simp; try with_reducible rfl
  simp only [Act.put, List.setIfInBounds_toArray, List.set_cons_zero, List.set_cons_succ]
  refine wpAnyV_takeP 13 77 (v := ?_) (by kernel_rfl) (by kernel_rfl) (by kernel_rfl) (by kernel_rfl) (fun _ _ _ h => h) ?_ (by kernel_rfl) (by first | exact .inr hHeld | exact .inl (by kernel_rfl)) ?_
  rotate_left
  · intro oi hoi w; simp only [List.getElem?_toArray, List.getElem?_cons_zero, List.getElem?_cons_succ, Option.some.injEq] at hoi; subst hoi; go_simp; try with_reducible rfl
  simp only [Act.put, List.setIfInBounds_toArray, List.set_cons_zero, List.set_cons_succ]
  refine wpAnyV_takeP 14 78 (v := ?_) (by kernel_rfl) (by kernel_rfl) (by kernel_rfl) (by kernel_rfl) (fun _ _ _ h => h) ?_ (by kernel_rfl) (by first | exact .inr hHeld | exact .inl (by kernel_rfl)) ?_
  rotate_left
  · intro oi hoi w; simp only [List.getElem?_toArray, List.getElem?_cons_zero, List.getElem?_cons_succ, Option.some.injEq] at hoi; subst hoi; go_simp; try with_reducible rfl
  simp only [Act.put, List.setIfInBounds_toArray, List.set_cons_zero, List.set_cons_succ]
  refine wpAnyV_takeP 15 79 (v := ?_) (by kernel_rfl) (by kernel_rfl) (by kernel_rfl) (by kernel_rfl) (fun _ _ _ h => h) ?_ (by kernel_rfl) (by first | exact .inr hHeld | exact .inl (by kernel_rfl)) ?_
  rotate_left
  · intro oi hoi w; simp only [List.getElem?_toArray, List.getElem?_cons_zero, List.getElem?_cons_succ, Option.some.injEq] at hoi; subst hoi; go_simp; try with_reducible rfl
  simp only [Act.put, List.setIfInBounds_toArray, List.set_cons_zero, List.set_cons_succ]
  refine wpAnyV_takeP 16 80 (v := ?_) (by kernel_rfl) (by kernel_rfl) (by kernel_rfl) (by kernel_rfl) (fun _ _ _ h => h) ?_ (by kernel_rfl) (by first | exact .inr hHeld | exact .inl (by kernel_rfl)) ?_
  rotate_left
  · intro oi hoi w; simp only [List.getElem?_toArray, List.getElem?_cons_zero, List.getElem?_cons_succ, Option.some.injEq] at hoi; subst hoi; go_simp; try with_reducible rfl
  simp only [Act.put, List.setIfInBounds_toArray, List.set_cons_zero, List.set_cons_succ]
  refine wpAnyV_takeP 17 81 (v := ?_) (by kernel_rfl) (by kernel_rfl) (by kernel_rfl) (by kernel_rfl) (fun _ _ _ h => h) ?_ (by kernel_rfl) (by first | exact .inr hHeld | exact .inl (by kernel_rfl)) ?_
  rotate_left
  · intro oi hoi w; simp only [List.getElem?_toArray, List.getElem?_cons_zero, List.getElem?_cons_succ, Option.some.injEq] at hoi; subst hoi; go_simp; try with_reducible rfl
  simp only [Act.put, List.setIfInBounds_toArray, List.set_cons_zero, List.set_cons_succ]
  refine wpAnyV_takeP 18 82 (v := ?_) (by kernel_rfl) (by kernel_rfl) (by kernel_rfl) (by kernel_rfl) (fun _ _ _ h => h) ?_ (by kernel_rfl) (by first | exact .inr hHeld | exact .inl (by kernel_rfl)) ?_
  rotate_left
  · intro oi hoi w; simp only [List.getElem?_toArray, List.getElem?_cons_zero, List.getElem?_cons_succ, Option.some.injEq] at hoi; subst hoi; go_simp; try with_reducible rfl
  simp only [Act.put, List.setIfInBounds_toArray, List.set_cons_zero, List.set_cons_succ]
  refine wpAnyV_takeP 19 83 (v := ?_) (by kernel_rfl) (by kernel_rfl) (by kernel_rfl) (by kernel_rfl) (fun _ _ _ h => h) ?_ (by kernel_rfl) (by first | exact .inr hHeld | exact .inl (by kernel_rfl)) ?_
  rotate_left
  · intro oi hoi w; simp only [List.getElem?_toArray, List.getElem?_cons_zero, List.getElem?_cons_succ, Option.some.injEq] at hoi; subst hoi; go_simp; try with_reducible rfl
  simp only [Act.put, List.setIfInBounds_toArray, List.set_cons_zero, List.set_cons_succ]
  refine wpAnyV_takeP 20 84 (v := ?_) (by kernel_rfl) (by kernel_rfl) (by kernel_rfl) (by kernel_rfl) (fun _ _ _ h => h) ?_ (by kernel_rfl) (by first | exact .inr hHeld | exact .inl (by kernel_rfl)) ?_
  rotate_left
  · intro oi hoi w; simp only [List.getElem?_toArray, List.getElem?_cons_zero, List.getElem?_cons_succ, Option.some.injEq] at hoi; subst hoi; go_simp; try with_reducible rfl
  simp only [Act.put, List.setIfInBounds_toArray, List.set_cons_zero, List.set_cons_succ]
  refine wpAnyV_takeD 21 85 (v := ?_) (by kernel_rfl) (by kernel_rfl) (by kernel_rfl) (by kernel_rfl) (fun _ _ _ h => h) (by kernel_rfl) ?_ (by assumption) ?_
  rotate_left
  · intro oi hoi w hSw; (try dsimp only at hSw); simp only [List.getElem?_toArray, List.getElem?_cons_zero, List.getElem?_cons_succ, Option.some.injEq] at hoi; subst hoi; go_simp; try with_reducible rfl
  simp only [Act.put, List.setIfInBounds_toArray, List.set_cons_zero, List.set_cons_succ]
  refine wpAnyV_takeP 22 86 (v := ?_) (by kernel_rfl) (by kernel_rfl) (by kernel_rfl) (by kernel_rfl) (fun _ _ _ h => h) ?_ (by kernel_rfl) (by first | exact .inr hHeld | exact .inl (by kernel_rfl)) ?_
  rotate_left
  · intro oi hoi w; simp only [List.getElem?_toArray, List.getElem?_cons_zero, List.getElem?_cons_succ, Option.some.injEq] at hoi; subst hoi; go_simp; try with_reducible rfl
  simp only [Act.put, List.setIfInBounds_toArray, List.set_cons_zero, List.set_cons_succ]
  refine wpAnyV_takeP 23 87 (v := ?_) (by kernel_rfl) (by kernel_rfl) (by kernel_rfl) (by kernel_rfl) (fun _ _ _ h => h) ?_ (by kernel_rfl) (by first | exact .inr hHeld | exact .inl (by kernel_rfl)) ?_
  rotate_left
  · intro oi hoi w; simp only [List.getElem?_toArray, List.getElem?_cons_zero, List.getElem?_cons_succ, Option.some.injEq] at hoi; subst hoi; go_simp; try with_reducible rfl
  simp only [Act.put, List.setIfInBounds_toArray, List.set_cons_zero, List.set_cons_succ]
  refine wpAnyV_takeP 24 88 (v := ?_) (by kernel_rfl) (by kernel_rfl) (by kernel_rfl) (by kernel_rfl) (fun _ _ _ h => h) ?_ (by kernel_rfl) (by first | exact .inr hHeld | exact .inl (by kernel_rfl)) ?_
  rotate_left
  · intro oi hoi w; simp only [List.getElem?_toArray, List.getElem?_cons_zero, List.getElem?_cons_succ, Option.some.injEq] at hoi; subst hoi; go_simp; try with_reducible rfl
  simp only [Act.put, List.setIfInBounds_toArray, List.set_cons_zero, List.set_cons_succ]
  refine wpAnyV_takeP 25 89 (v := ?_) (by kernel_rfl) (by kernel_rfl) (by kernel_rfl) (by kernel_rfl) (fun _ _ _ h => h) ?_ (by kernel_rfl) (by first | exact .inr hHeld | exact .inl (by kernel_rfl)) ?_
  rotate_left
  · intro oi hoi w; simp only [List.getElem?_toArray, List.getElem?_cons_zero, List.getElem?_cons_succ, Option.some.injEq] at hoi; subst hoi; go_simp; try with_reducible rfl
  simp only [Act.put, List.setIfInBounds_toArray, List.set_cons_zero, List.set_cons_succ]
  refine wpAnyV_takeD 26 90 (v := ?_) (by kernel_rfl) (by kernel_rfl) (by kernel_rfl) (by kernel_rfl) (fun _ _ _ h => h) (by kernel_rfl) ?_ (by assumption) ?_
  rotate_left
  · intro oi hoi w hSw; (try dsimp only at hSw); simp only [List.getElem?_toArray, List.getElem?_cons_zero, List.getElem?_cons_succ, Option.some.injEq] at hoi; subst hoi; go_simp; try with_reducible rfl
  simp only [Act.put, List.setIfInBounds_toArray, List.set_cons_zero, List.set_cons_succ]
  refine wpAnyV_takeP 27 91 (v := ?_) (by kernel_rfl) (by kernel_rfl) (by kernel_rfl) (by kernel_rfl) (fun _ _ _ h => h) ?_ (by kernel_rfl) (by first | exact .inr hHeld | exact .inl (by kernel_rfl)) ?_
  rotate_left
  · intro oi hoi w; simp only [List.getElem?_toArray, List.getElem?_cons_zero, List.getElem?_cons_succ, Option.some.injEq] at hoi; subst hoi; go_simp; try with_reducible rfl
  simp only [Act.put, List.setIfInBounds_toArray, List.set_cons_zero, List.set_cons_succ]
  refine wpAnyV_takeP 28 92 (v := ?_) (by kernel_rfl) (by kernel_rfl) (by kernel_rfl) (by kernel_rfl) (fun _ _ _ h => h) ?_ (by kernel_rfl) (by first | exact .inr hHeld | exact .inl (by kernel_rfl)) ?_
  rotate_left
  · intro oi hoi w; simp only [List.getElem?_toArray, List.getElem?_cons_zero, List.getElem?_cons_succ, Option.some.injEq] at hoi; subst hoi; go_simp; try with_reducible rfl
  simp only [Act.put, List.setIfInBounds_toArray, List.set_cons_zero, List.set_cons_succ]
  refine wpAnyV_takeP 29 93 (v := ?_) (by kernel_rfl) (by kernel_rfl) (by kernel_rfl) (by kernel_rfl) (fun _ _ _ h => h) ?_ (by kernel_rfl) (by first | exact .inr hHeld | exact .inl (by kernel_rfl)) ?_
  rotate_left
  · intro oi hoi w; simp only [List.getElem?_toArray, List.getElem?_cons_zero, List.getElem?_cons_succ, Option.some.injEq] at hoi; subst hoi; go_simp; try with_reducible rfl
  simp only [Act.put, List.setIfInBounds_toArray, List.set_cons_zero, List.set_cons_succ]
  refine wpAnyV_takeP 30 94 (v := ?_) (by kernel_rfl) (by kernel_rfl) (by kernel_rfl) (by kernel_rfl) (fun _ _ _ h => h) ?_ (by kernel_rfl) (by first | exact .inr hHeld | exact .inl (by kernel_rfl)) ?_
  rotate_left
  · intro oi hoi w; simp only [List.getElem?_toArray, List.getElem?_cons_zero, List.getElem?_cons_succ, Option.some.injEq] at hoi; subst hoi; go_simp; try with_reducible rfl
  simp only [Act.put, List.setIfInBounds_toArray, List.set_cons_zero, List.set_cons_succ]
  refine wpAnyV_takeP 31 95 (v := ?_) (by kernel_rfl) (by kernel_rfl) (by kernel_rfl) (by kernel_rfl) (fun _ _ _ h => h) ?_ (by kernel_rfl) (by first | exact .inr hHeld | exact .inl (by kernel_rfl)) ?_
  rotate_left
  · intro oi hoi w; simp only [List.getElem?_toArray, List.getElem?_cons_zero, List.getElem?_cons_succ, Option.some.injEq] at hoi; subst hoi; go_simp; try with_reducible rfl
  simp only [Act.put, List.setIfInBounds_toArray, List.set_cons_zero, List.set_cons_succ]
  refine wpAnyV_takeP 32 96 (v := ?_) (by kernel_rfl) (by kernel_rfl) (by kernel_rfl) (by kernel_rfl) (fun _ _ _ h => h) ?_ (by kernel_rfl) (by first | exact .inr hHeld | exact .inl (by kernel_rfl)) ?_
  rotate_left
  · intro oi hoi w; simp only [List.getElem?_toArray, List.getElem?_cons_zero, List.getElem?_cons_succ, Option.some.injEq] at hoi; subst hoi; go_simp; try with_reducible rfl
  simp only [Act.put, List.setIfInBounds_toArray, List.set_cons_zero, List.set_cons_succ]
  refine wpAnyV_takeP 33 97 (v := ?_) (by kernel_rfl) (by kernel_rfl) (by kernel_rfl) (by kernel_rfl) (fun _ _ _ h => h) ?_ (by kernel_rfl) (by first | exact .inr hHeld | exact .inl (by kernel_rfl)) ?_
  rotate_left
  · intro oi hoi w; simp only [List.getElem?_toArray, List.getElem?_cons_zero, List.getElem?_cons_succ, Option.some.injEq] at hoi; subst hoi; go_simp; try with_reducible rfl
  simp only [Act.put, List.setIfInBounds_toArray, List.set_cons_zero, List.set_cons_succ]
  refine wpAnyV_takeP 34 98 (v := ?_) (by kernel_rfl) (by kernel_rfl) (by kernel_rfl) (by kernel_rfl) (fun _ _ _ h => h) ?_ (by kernel_rfl) (by first | exact .inr hHeld | exact .inl (by kernel_rfl)) ?_
  rotate_left
  · intro oi hoi w; simp only [List.getElem?_toArray, List.getElem?_cons_zero, List.getElem?_cons_succ, Option.some.injEq] at hoi; subst hoi; go_simp; try with_reducible rfl
  simp only [Act.put, List.setIfInBounds_toArray, List.set_cons_zero, List.set_cons_succ]
  refine wpAnyV_takeP 35 99 (v := ?_) (by kernel_rfl) (by kernel_rfl) (by kernel_rfl) (by kernel_rfl) (fun _ _ _ h => h) ?_ (by kernel_rfl) (by first | exact .inr hHeld | exact .inl (by kernel_rfl)) ?_
  rotate_left
  · intro oi hoi w; simp only [List.getElem?_toArray, List.getElem?_cons_zero, List.getElem?_cons_succ, Option.some.injEq] at hoi; subst hoi; go_simp; try with_reducible rfl
  simp only [Act.put, List.setIfInBounds_toArray, List.set_cons_zero, List.set_cons_succ]
  clear e0 e1 e4 e5
  obtain ⟨⟨m1, m2, m3⟩, ⟨m4, m5, m6⟩, ⟨m7, m8, m9, m10, m11⟩, ⟨m12, m13, m14, m15⟩, ⟨m16, m17, m18, m19, m20⟩⟩ := hne
  have hb0 := below_drew wc
  have gd := obj_later hb0 gc
  have d8 := obj_later hb0 k8
  have d9 := obj_later hb0 k9
  have d10 := obj_later hb0 k10
  have R8d := R8.out.below hb0 (Nat.le_refl _)
  have R9d := R9.out.below hb0 (Nat.le_refl _)
  have hbwd := hbw.trans (hb0.mono hbw.size)
  clear gc k8 k9 k10 R8 R9 hbw hE hHeld
  have f0 := R8d.fz (k * 7)
  have hEd := R8d.ed k hk
  rw [HX.out] at hEd
  have c0 := hEd.c0
  refine wpAnyV_one 36 (by kernel_rfl) (by kernel_rfl) ?_
  intro o ho K hK
  simp only [List.getElem?_toArray, List.getElem?_cons_zero, List.getElem?_cons_succ, Option.some.injEq] at ho
  subst ho
  go_simp
  have hmin : (if x.e.lo + d < x.e.hi then x.e.lo + d else x.e.hi) = min x.e.hi (x.e.lo + d) := by split <;> omega
  rw [hmin]
  have R8e := R8d.putLo k x (min x.e.hi (x.e.lo + d)) hk HX.out
  have ge := (Below.heap_setCell wc.drew ⟨g8, k * 7, none⟩ (.int .i64 (min x.e.hi (x.e.lo + d))) w.heap.size (Ne.symm m11)).trans gd
  have v8 := (Below.heap_setCell wc.drew ⟨g8, k * 7, none⟩ (.int .i64 (min x.e.hi (x.e.lo + d))) p8 (Ne.symm m8)).trans d8
  have v9 := (Below.heap_setCell wc.drew ⟨g8, k * 7, none⟩ (.int .i64 (min x.e.hi (x.e.lo + d))) p9 (Ne.symm m9)).trans d9
  have v10 := (Below.heap_setCell wc.drew ⟨g8, k * 7, none⟩ (.int .i64 (min x.e.hi (x.e.lo + d))) p10 (Ne.symm m10)).trans d10
  have R9e := R9d.same (Below.heap_setCell wc.drew ⟨g8, k * 7, none⟩ (.int .i64 (min x.e.hi (x.e.lo + d))) g9 (Ne.symm m7))
  have hbwe := hbwd.setCell (show w.heap.size ≤ (⟨g8, k * 7, none⟩ : Addr).block from m19) (.int .i64 (min x.e.hi (x.e.lo + d)))
  have hww : (wc.setCell ⟨g8, k * 7, none⟩ (.int .i64 (min x.e.hi (x.e.lo + d)))).drew = wc.drew.setCell ⟨g8, k * 7, none⟩ (.int .i64 (min x.e.hi (x.e.lo + d))) := rfl
  rw [hww]
  generalize wc.drew.setCell ⟨g8, k * 7, none⟩ (.int .i64 (min x.e.hi (x.e.lo + d))) = w1 at R8e ge v8 v9 v10 R9e hbwe ⊢
  clear f0 c0 hEd gd d8 d9 d10 R8d R9d hbwd hmin hww hb0
  refine hK _ _ (.inl (by kernel_rfl)) (fun _ => ?_)
  clear hK K
  try simp only [Act.put, List.setIfInBounds_toArray, List.set_cons_zero, List.set_cons_succ]
  refine wpAnyV_takeP 37 100 (v := ?_) (by kernel_rfl) (by kernel_rfl) (by kernel_rfl) (by kernel_rfl) (fun _ _ _ h => h) ?_ (by kernel_rfl) (by first | exact .inr hHeld | exact .inl (by kernel_rfl)) ?_
  rotate_left
  · intro oi hoi w; simp only [List.getElem?_toArray, List.getElem?_cons_zero, List.getElem?_cons_succ, Option.some.injEq] at hoi; subst hoi; go_simp; try with_reducible rfl
  simp only [Act.put, List.setIfInBounds_toArray, List.set_cons_zero, List.set_cons_succ]
  refine wpAnyV_takeP 38 101 (v := ?_) (by kernel_rfl) (by kernel_rfl) (by kernel_rfl) (by kernel_rfl) (fun _ _ _ h => h) ?_ (by kernel_rfl) (by first | exact .inr hHeld | exact .inl (by kernel_rfl)) ?_
  rotate_left
  · intro oi hoi w; simp only [List.getElem?_toArray, List.getElem?_cons_zero, List.getElem?_cons_succ, Option.some.injEq] at hoi; subst hoi; go_simp; try with_reducible rfl
  simp only [Act.put, List.setIfInBounds_toArray, List.set_cons_zero, List.set_cons_succ]
  refine wpAnyV_takeP 39 102 (v := ?_) (by kernel_rfl) (by kernel_rfl) (by kernel_rfl) (by kernel_rfl) (fun _ _ _ h => h) ?_ (by kernel_rfl) (by first | exact .inr hHeld | exact .inl (by kernel_rfl)) ?_
  rotate_left
  · intro oi hoi w; simp only [List.getElem?_toArray, List.getElem?_cons_zero, List.getElem?_cons_succ, Option.some.injEq] at hoi; subst hoi; go_simp; try with_reducible rfl
  simp only [Act.put, List.setIfInBounds_toArray, List.set_cons_zero, List.set_cons_succ]
  have hk' : k < (b.fs.set k { x with e := ⟨min x.e.hi (x.e.lo + d), x.e.hi⟩ }).length := by rw [List.length_set]; exact hk
  have hEe := R8e.ed k hk'
  rw [List.getElem_set_self] at hEe
  have f5 : w1.frozen? ⟨g8, k * 7 + 4 + 1, none⟩ = false := R8e.fz (k * 7 + 5)
  have c5 : w1.cell? ⟨g8, k * 7 + 4 + 1, none⟩ = some (.int .i64 x.b.hi) := hEe.c5
  refine wpAnyV_one 40 (by kernel_rfl) (by kernel_rfl) ?_
  intro o ho K hK
  simp only [List.getElem?_toArray, List.getElem?_cons_zero, List.getElem?_cons_succ, Option.some.injEq] at ho
  subst ho
  go_simp
  have hmax : (if x.b.lo < x.b.hi - f then x.b.hi - f else x.b.lo) = max x.b.lo (x.b.hi - f) := by split <;> omega
  rw [hmax]
  have R8f := R8e.putBhi k _ (max x.b.lo (x.b.hi - f)) hk' (List.getElem_set_self _)
  rw [List.set_set] at R8f
  have gf := (Below.heap_setCell w1 ⟨g8, k * 7 + 5, none⟩ (.int .i64 (max x.b.lo (x.b.hi - f))) w.heap.size (Ne.symm m11)).trans ge
  have u8 := (Below.heap_setCell w1 ⟨g8, k * 7 + 5, none⟩ (.int .i64 (max x.b.lo (x.b.hi - f))) p8 (Ne.symm m8)).trans v8
  have u9 := (Below.heap_setCell w1 ⟨g8, k * 7 + 5, none⟩ (.int .i64 (max x.b.lo (x.b.hi - f))) p9 (Ne.symm m9)).trans v9
  have u10 := (Below.heap_setCell w1 ⟨g8, k * 7 + 5, none⟩ (.int .i64 (max x.b.lo (x.b.hi - f))) p10 (Ne.symm m10)).trans v10
  have R9f := R9e.same (Below.heap_setCell w1 ⟨g8, k * 7 + 5, none⟩ (.int .i64 (max x.b.lo (x.b.hi - f))) g9 (Ne.symm m7))
  have hbwf := hbwe.setCell (show w.heap.size ≤ (⟨g8, k * 7 + 5, none⟩ : Addr).block from m19) (.int .i64 (max x.b.lo (x.b.hi - f)))
  have hww : w1.setCell ⟨g8, k * 7 + 4 + 1, none⟩ (.int .i64 (max x.b.lo (x.b.hi - f))) = w1.setCell ⟨g8, k * 7 + 5, none⟩ (.int .i64 (max x.b.lo (x.b.hi - f))) := rfl
  rw [hww]
  generalize w1.setCell ⟨g8, k * 7 + 5, none⟩ (.int .i64 (max x.b.lo (x.b.hi - f))) = w2 at R8f gf u8 u9 u10 R9f hbwf ⊢
  have HR8 : Hid (RowEd w2 g8 (b.fs.set k (x.thin d f))) := Lib.hid R8f
  clear f5 c5 hEe hk' ge v8 v9 v10 R8e R9e hbwe hmax hww R8f
  refine hK _ _ (.inl (by kernel_rfl)) (fun _ => ?_)
  clear hK K
  try simp only [Act.put, List.setIfInBounds_toArray, List.set_cons_zero, List.set_cons_succ]
  refine wpAnyV_done (by kernel_rfl) ?_ _
  dsimp only [onNormal]
  clear q0 q1 q2 q3 q4 q5 q6
  have hE9 := R9f.ed k hk
  rw [HX.out] at hE9
  have f6 := R9f.fz (k * 7 + 6)
  have c6 := hE9.c6
  have a4 := cell_block u9 4
  simp only [List.getElem?_toArray, List.getElem?_cons_zero, List.getElem?_cons_succ] at a4
  go_upto_region 9 with fail
  have R9g := R9f.putSure k x true hk HX.out
  have gg := (Below.heap_setCell w2 ⟨g9, k * 7 + 6, none⟩ (.bool true) w.heap.size (Ne.symm m15)).trans gf
  have t8 := (Below.heap_setCell w2 ⟨g9, k * 7 + 6, none⟩ (.bool true) p8 (Ne.symm m12)).trans u8
  have t9 := (Below.heap_setCell w2 ⟨g9, k * 7 + 6, none⟩ (.bool true) p9 (Ne.symm m13)).trans u9
  have t10 := (Below.heap_setCell w2 ⟨g9, k * 7 + 6, none⟩ (.bool true) p10 (Ne.symm m14)).trans u10
  have R8g := HR8.out.same (Below.heap_setCell w2 ⟨g9, k * 7 + 6, none⟩ (.bool true) g8 m7)
  have hbwg := hbwf.setCell (show w.heap.size ≤ (⟨g9, k * 7 + 6, none⟩ : Addr).block from m20) (.bool true)
  generalize w2.setCell ⟨g9, k * 7 + 6, none⟩ (.bool true) = w3 at R9g gg t8 t9 t10 R8g hbwg ⊢
  clear hE9 f6 c6 a4 gf u8 u9 u10 R9f HR8 hbwf
  have HR8 := Lib.hid R8g
  have HR9 := Lib.hid R9g
  clear R8g R9g
  have k0 : ∀ W' : World, (W'.heap[w.heap.size]? = some (.cells #[.int .i64 b.e.lo, .int .i64 b.e.hi, .int .i64 b.n.lo, .int .i64 b.n.hi, .slice fa b.fs.length fc, .slice sa b.ss.length sc] 26) ∧ Below w.heap.size w W') → W'.cell? ⟨w.heap.size, 0, none⟩ = some (.int .i64 b.e.lo) := fun W' hh => cell_block hh.1 0
  have k1 : ∀ W' : World, (W'.heap[w.heap.size]? = some (.cells #[.int .i64 b.e.lo, .int .i64 b.e.hi, .int .i64 b.n.lo, .int .i64 b.n.hi, .slice fa b.fs.length fc, .slice sa b.ss.length sc] 26) ∧ Below w.heap.size w W') → W'.cell? ⟨w.heap.size, 1, none⟩ = some (.int .i64 b.e.hi) := fun W' hh => cell_block hh.1 1
  have k2 : ∀ W' : World, (W'.heap[w.heap.size]? = some (.cells #[.int .i64 b.e.lo, .int .i64 b.e.hi, .int .i64 b.n.lo, .int .i64 b.n.hi, .slice fa b.fs.length fc, .slice sa b.ss.length sc] 26) ∧ Below w.heap.size w W') → W'.cell? ⟨w.heap.size, 2, none⟩ = some (.int .i64 b.n.lo) := fun W' hh => cell_block hh.1 2
  have k3 : ∀ W' : World, (W'.heap[w.heap.size]? = some (.cells #[.int .i64 b.e.lo, .int .i64 b.e.hi, .int .i64 b.n.lo, .int .i64 b.n.hi, .slice fa b.fs.length fc, .slice sa b.ss.length sc] 26) ∧ Below w.heap.size w W') → W'.cell? ⟨w.heap.size, 3, none⟩ = some (.int .i64 b.n.hi) := fun W' hh => cell_block hh.1 3
  have q0 : IntKind.i64.wrap by' = by' := IntWalk.i64_in _ (by omega)
  have q1 : by'.tmod 3 = by' % 3 := Int.tmod_eq_emod_of_nonneg hy1
  have q2 : IntKind.i64.wrap (b.e.hi - d) = b.e.hi - d := IntWalk.i64_in _ (by omega)
  have q3 : by'.tdiv 8 = by' / 8 := Int.tdiv_eq_ediv_of_nonneg hy1
  have q4 : IntKind.i64.wrap (by' / 8) = by' / 8 := IntWalk.i64_in _ (by omega)
  have q5 : (by' / 8).tmod 3 = by' / 8 % 3 := Int.tmod_eq_emod_of_nonneg (by omega)
  have q6 : IntKind.i64.wrap (b.n.lo + h) = b.n.lo + h := IntWalk.i64_in _ (by omega)
  refine (wpIn_wide (n := 1)).1 ?_
  refine wpIn_region_Wn (S := fun W' => W'.heap[w.heap.size]? = some (.cells #[.int .i64 b.e.lo, .int .i64 b.e.hi, .int .i64 b.n.lo, .int .i64 b.n.hi, .slice fa b.fs.length fc, .slice sa b.ss.length sc] 26) ∧ Below w.heap.size w W') 29 (by kernel_rfl) (by kernel_rfl) ⟨gg, hbwg.drew⟩ (fun hHeld => ?_)
  refine wpAnyW_takeD 0 108 (v := ?_) (by kernel_rfl) (by kernel_rfl) (by kernel_rfl) (by kernel_rfl) (fun _ _ _ h => h) ?_ (by assumption) ?_
  rotate_left
  · intro oi hoi w hSw; (try dsimp only at hSw); simp only [List.getElem?_toArray, List.getElem?_cons_zero, List.getElem?_cons_succ, Option.some.injEq] at hoi; subst hoi; go_simp; try with_reducible rfl
  simp only [Act.put, List.setIfInBounds_toArray, List.set_cons_zero, List.set_cons_succ]
  refine wpAnyW_takeD 1 109 (v := ?_) (by kernel_rfl) (by kernel_rfl) (by kernel_rfl) (by kernel_rfl) (fun _ _ _ h => h) ?_ (by assumption) ?_
  rotate_left
  · intro oi hoi w hSw; (try dsimp only at hSw); simp only [List.getElem?_toArray, List.getElem?_cons_zero, List.getElem?_cons_succ, Option.some.injEq] at hoi; subst hoi; go_simp; try with_reducible rfl
  simp only [Act.put, List.setIfInBounds_toArray, List.set_cons_zero, List.set_cons_succ]
  refine wpAnyW_takeD 2 110 (v := ?_) (by kernel_rfl) (by kernel_rfl) (by kernel_rfl) (by kernel_rfl) (fun _ _ _ h => h) ?_ (by assumption) ?_
  rotate_left
  · intro oi hoi w hSw; (try dsimp only at hSw); simp only [List.getElem?_toArray, List.getElem?_cons_zero, List.getElem?_cons_succ, Option.some.injEq] at hoi; subst hoi; go_simp; try with_reducible rfl
  simp only [Act.put, List.setIfInBounds_toArray, List.set_cons_zero, List.set_cons_succ]
  refine wpAnyW_takeD 3 111 (v := ?_) (by kernel_rfl) (by kernel_rfl) (by kernel_rfl) (by kernel_rfl) (fun _ _ _ h => h) ?_ (by assumption) ?_
  rotate_left
  · intro oi hoi w hSw; (try dsimp only at hSw); simp only [List.getElem?_toArray, List.getElem?_cons_zero, List.getElem?_cons_succ, Option.some.injEq] at hoi; subst hoi; go_simp; try with_reducible rfl
  simp only [Act.put, List.setIfInBounds_toArray, List.set_cons_zero, List.set_cons_succ]
  refine wpAnyW_takeD 4 112 (v := ?_) (by kernel_rfl) (by kernel_rfl) (by kernel_rfl) (by kernel_rfl) (fun _ _ _ h => h) ?_ (by assumption) ?_
  rotate_left
  · intro oi hoi w hSw; (try dsimp only at hSw); simp only [List.getElem?_toArray, List.getElem?_cons_zero, List.getElem?_cons_succ, Option.some.injEq] at hoi; subst hoi; go_simp; try with_reducible rfl
  simp only [Act.put, List.setIfInBounds_toArray, List.set_cons_zero, List.set_cons_succ]
  refine wpAnyW_takeD 5 113 (v := ?_) (by kernel_rfl) (by kernel_rfl) (by kernel_rfl) (by kernel_rfl) (fun _ _ _ h => h) ?_ (by assumption) ?_
  rotate_left
  · intro oi hoi w hSw; (try dsimp only at hSw); simp only [List.getElem?_toArray, List.getElem?_cons_zero, List.getElem?_cons_succ, Option.some.injEq] at hoi; subst hoi; go_simp; try with_reducible rfl
  simp only [Act.put, List.setIfInBounds_toArray, List.set_cons_zero, List.set_cons_succ]
  refine wpAnyW_takeD 6 114 (v := ?_) (by kernel_rfl) (by kernel_rfl) (by kernel_rfl) (by kernel_rfl) (fun _ _ _ h => h) ?_ (by assumption) ?_
  rotate_left
  · intro oi hoi w hSw; (try dsimp only at hSw); simp only [List.getElem?_toArray, List.getElem?_cons_zero, List.getElem?_cons_succ, Option.some.injEq] at hoi; subst hoi; go_simp; try with_reducible rfl
  simp only [Act.put, List.setIfInBounds_toArray, List.set_cons_zero, List.set_cons_succ]
  refine wpAnyW_takeD 7 115 (v := ?_) (by kernel_rfl) (by kernel_rfl) (by kernel_rfl) (by kernel_rfl) (fun _ _ _ h => h) ?_ (by assumption) ?_
  rotate_left
  · intro oi hoi w hSw; (try dsimp only at hSw); simp only [List.getElem?_toArray, List.getElem?_cons_zero, List.getElem?_cons_succ, Option.some.injEq] at hoi; subst hoi; go_simp; try with_reducible rfl
  simp only [Act.put, List.setIfInBounds_toArray, List.set_cons_zero, List.set_cons_succ]
  refine wpAnyW_takeD 8 116 (v := ?_) (by kernel_rfl) (by kernel_rfl) (by kernel_rfl) (by kernel_rfl) (fun _ _ _ h => h) ?_ (by assumption) ?_
  rotate_left
  · intro oi hoi w hSw; (try dsimp only at hSw); simp only [List.getElem?_toArray, List.getElem?_cons_zero, List.getElem?_cons_succ, Option.some.injEq] at hoi; subst hoi; go_simp; try with_reducible rfl
  simp only [Act.put, List.setIfInBounds_toArray, List.set_cons_zero, List.set_cons_succ]
  refine wpAnyW_takeD 9 117 (v := ?_) (by kernel_rfl) (by kernel_rfl) (by kernel_rfl) (by kernel_rfl) (fun _ _ _ h => h) ?_ (by assumption) ?_
  rotate_left
  · intro oi hoi w hSw; (try dsimp only at hSw); simp only [List.getElem?_toArray, List.getElem?_cons_zero, List.getElem?_cons_succ, Option.some.injEq] at hoi; subst hoi; go_simp; try with_reducible rfl
  simp only [Act.put, List.setIfInBounds_toArray, List.set_cons_zero, List.set_cons_succ]
  refine wpAnyW_takeD 10 118 (v := ?_) (by kernel_rfl) (by kernel_rfl) (by kernel_rfl) (by kernel_rfl) (fun _ _ _ h => h) ?_ (by assumption) ?_
  rotate_left
  · intro oi hoi w hSw; (try dsimp only at hSw); simp only [List.getElem?_toArray, List.getElem?_cons_zero, List.getElem?_cons_succ, Option.some.injEq] at hoi; subst hoi; go_simp; try with_reducible rfl
  simp only [Act.put, List.setIfInBounds_toArray, List.set_cons_zero, List.set_cons_succ]
  refine wpAnyW_takeD 11 119 (v := ?_) (by kernel_rfl) (by kernel_rfl) (by kernel_rfl) (by kernel_rfl) (fun _ _ _ h => h) ?_ (by assumption) ?_
  rotate_left
  · intro oi hoi w hSw; (try dsimp only at hSw); simp only [List.getElem?_toArray, List.getElem?_cons_zero, List.getElem?_cons_succ, Option.some.injEq] at hoi; subst hoi; go_simp; try with_reducible rfl
  simp only [Act.put, List.setIfInBounds_toArray, List.set_cons_zero, List.set_cons_succ]
  refine wpAnyW_takeD 12 120 (v := ?_) (by kernel_rfl) (by kernel_rfl) (by kernel_rfl) (by kernel_rfl) (fun _ _ _ h => h) ?_ (by assumption) ?_
  rotate_left
  · intro oi hoi w hSw; (try dsimp only at hSw); simp only [List.getElem?_toArray, List.getElem?_cons_zero, List.getElem?_cons_succ, Option.some.injEq] at hoi; subst hoi; go_simp; try with_reducible rfl
  simp only [Act.put, List.setIfInBounds_toArray, List.set_cons_zero, List.set_cons_succ]
  refine wpAnyW_takeD 13 121 (v := ?_) (by kernel_rfl) (by kernel_rfl) (by kernel_rfl) (by kernel_rfl) (fun _ _ _ h => h) ?_ (by assumption) ?_
  rotate_left
  · intro oi hoi w hSw; (try dsimp only at hSw); simp only [List.getElem?_toArray, List.getElem?_cons_zero, List.getElem?_cons_succ, Option.some.injEq] at hoi; subst hoi; go_simp; try with_reducible rfl
  simp only [Act.put, List.setIfInBounds_toArray, List.set_cons_zero, List.set_cons_succ]
  refine wpAnyW_takeD 14 122 (v := ?_) (by kernel_rfl) (by kernel_rfl) (by kernel_rfl) (by kernel_rfl) (fun _ _ _ h => h) ?_ (by assumption) ?_
  rotate_left
  · intro oi hoi w hSw; (try dsimp only at hSw); simp only [List.getElem?_toArray, List.getElem?_cons_zero, List.getElem?_cons_succ, Option.some.injEq] at hoi; subst hoi; go_simp; try with_reducible rfl
  simp only [Act.put, List.setIfInBounds_toArray, List.set_cons_zero, List.set_cons_succ]
  refine wpAnyW_takeD 15 123 (v := ?_) (by kernel_rfl) (by kernel_rfl) (by kernel_rfl) (by kernel_rfl) (fun _ _ _ h => h) ?_ (by assumption) ?_
  rotate_left
  · intro oi hoi w hSw; (try dsimp only at hSw); simp only [List.getElem?_toArray, List.getElem?_cons_zero, List.getElem?_cons_succ, Option.some.injEq] at hoi; subst hoi; go_simp; try with_reducible rfl
  simp only [Act.put, List.setIfInBounds_toArray, List.set_cons_zero, List.set_cons_succ]
  refine wpAnyW_takeD 16 124 (v := ?_) (by kernel_rfl) (by kernel_rfl) (by kernel_rfl) (by kernel_rfl) (fun _ _ _ h => h) ?_ (by assumption) ?_
  rotate_left
  · intro oi hoi w hSw; (try dsimp only at hSw); simp only [List.getElem?_toArray, List.getElem?_cons_zero, List.getElem?_cons_succ, Option.some.injEq] at hoi; subst hoi; go_simp; try with_reducible rfl
  simp only [Act.put, List.setIfInBounds_toArray, List.set_cons_zero, List.set_cons_succ]
  refine wpAnyW_takeD 17 125 (v := ?_) (by kernel_rfl) (by kernel_rfl) (by kernel_rfl) (by kernel_rfl) (fun _ _ _ h => h) ?_ (by assumption) ?_
  rotate_left
  · intro oi hoi w hSw; (try dsimp only at hSw); simp only [List.getElem?_toArray, List.getElem?_cons_zero, List.getElem?_cons_succ, Option.some.injEq] at hoi; subst hoi; go_simp; try with_reducible rfl
  simp only [Act.put, List.setIfInBounds_toArray, List.set_cons_zero, List.set_cons_succ]
  refine wpAnyW_takeD 18 126 (v := ?_) (by kernel_rfl) (by kernel_rfl) (by kernel_rfl) (by kernel_rfl) (fun _ _ _ h => h) ?_ (by assumption) ?_
  rotate_left
  · intro oi hoi w hSw; (try dsimp only at hSw); simp only [List.getElem?_toArray, List.getElem?_cons_zero, List.getElem?_cons_succ, Option.some.injEq] at hoi; subst hoi; go_simp; try with_reducible rfl
  simp only [Act.put, List.setIfInBounds_toArray, List.set_cons_zero, List.set_cons_succ]
  refine wpAnyW_takeD 19 127 (v := ?_) (by kernel_rfl) (by kernel_rfl) (by kernel_rfl) (by kernel_rfl) (fun _ _ _ h => h) ?_ (by assumption) ?_
  rotate_left
  · intro oi hoi w hSw; (try dsimp only at hSw); simp only [List.getElem?_toArray, List.getElem?_cons_zero, List.getElem?_cons_succ, Option.some.injEq] at hoi; subst hoi; go_simp; try with_reducible rfl
  simp only [Act.put, List.setIfInBounds_toArray, List.set_cons_zero, List.set_cons_succ]
  refine wpAnyW_takeD 20 128 (v := ?_) (by kernel_rfl) (by kernel_rfl) (by kernel_rfl) (by kernel_rfl) (fun _ _ _ h => h) ?_ (by assumption) ?_
  rotate_left
  · intro oi hoi w hSw; (try dsimp only at hSw); simp only [List.getElem?_toArray, List.getElem?_cons_zero, List.getElem?_cons_succ, Option.some.injEq] at hoi; subst hoi; go_simp; try with_reducible rfl
  simp only [Act.put, List.setIfInBounds_toArray, List.set_cons_zero, List.set_cons_succ]
  refine wpAnyW_takeD 21 129 (v := ?_) (by kernel_rfl) (by kernel_rfl) (by kernel_rfl) (by kernel_rfl) (fun _ _ _ h => h) ?_ (by assumption) ?_
  rotate_left
  · intro oi hoi w hSw; (try dsimp only at hSw); simp only [List.getElem?_toArray, List.getElem?_cons_zero, List.getElem?_cons_succ, Option.some.injEq] at hoi; subst hoi; go_simp; try with_reducible rfl
  simp only [Act.put, List.setIfInBounds_toArray, List.set_cons_zero, List.set_cons_succ]
  refine wpAnyW_takeD 22 130 (v := ?_) (by kernel_rfl) (by kernel_rfl) (by kernel_rfl) (by kernel_rfl) (fun _ _ _ h => h) ?_ (by assumption) ?_
  rotate_left
  · intro oi hoi w hSw; (try dsimp only at hSw); simp only [List.getElem?_toArray, List.getElem?_cons_zero, List.getElem?_cons_succ, Option.some.injEq] at hoi; subst hoi; go_simp; try with_reducible rfl
  simp only [Act.put, List.setIfInBounds_toArray, List.set_cons_zero, List.set_cons_succ]
  refine wpAnyW_takeD 23 131 (v := ?_) (by kernel_rfl) (by kernel_rfl) (by kernel_rfl) (by kernel_rfl) (fun _ _ _ h => h) ?_ (by assumption) ?_
  rotate_left
  · intro oi hoi w hSw; (try dsimp only at hSw); simp only [List.getElem?_toArray, List.getElem?_cons_zero, List.getElem?_cons_succ, Option.some.injEq] at hoi; subst hoi; go_simp; try with_reducible rfl
  simp only [Act.put, List.setIfInBounds_toArray, List.set_cons_zero, List.set_cons_succ]
  refine wpAnyW_takeD 24 132 (v := ?_) (by kernel_rfl) (by kernel_rfl) (by kernel_rfl) (by kernel_rfl) (fun _ _ _ h => h) ?_ (by assumption) ?_
  rotate_left
  · intro oi hoi w hSw; (try dsimp only at hSw); simp only [List.getElem?_toArray, List.getElem?_cons_zero, List.getElem?_cons_succ, Option.some.injEq] at hoi; subst hoi; go_simp; try with_reducible rfl
  simp only [Act.put, List.setIfInBounds_toArray, List.set_cons_zero, List.set_cons_succ]
  clear k0 k1 k2 k3
  have t8d := obj_later (below_drew w3) t8
  have t9d := obj_later (below_drew w3) t9
  have t10d := obj_later (below_drew w3) t10
  have HR8d := Lib.hid (HR8.out.below (below_drew w3) (Nat.le_refl _))
  have HR9d := Lib.hid (HR9.out.below (below_drew w3) (Nat.le_refl _))
  obtain ⟨gd, hbwd⟩ := hHeld
  have hw3d : w3.drew = w3.drew := rfl
  generalize w3.drew = w4 at t8d t9d t10d HR8d HR9d gd hbwd ⊢
  clear t8 t9 t10 HR8 HR9 gg hbwg hw3d
  have f1 := frozen_block t10d 1
  have a1 := cell_block t10d 1
  simp only [List.getElem?_toArray, List.getElem?_cons_zero, List.getElem?_cons_succ] at a1
  refine wpAnyW_one 25 (by kernel_rfl) (by kernel_rfl) ?_
  intro o ho K hK
  simp only [List.getElem?_toArray, List.getElem?_cons_zero, List.getElem?_cons_succ, Option.some.injEq] at ho
  subst ho
  go_simp
  have hmax : (if b.e.lo < b.e.hi - d then b.e.hi - d else b.e.lo) = (max b.e.lo (b.e.hi - d)) := by split <;> omega
  rw [hmax]
  have t10e := heap_setCell_same _ _ 1 _ _ (.int .i64 (max b.e.lo (b.e.hi - d))) t10d
  have t8e := (Below.heap_setCell w4 ⟨p10, 1, none⟩ (.int .i64 (max b.e.lo (b.e.hi - d))) p8 m5).trans t8d
  have t9e := (Below.heap_setCell w4 ⟨p10, 1, none⟩ (.int .i64 (max b.e.lo (b.e.hi - d))) p9 m6).trans t9d
  have ge := (Below.heap_setCell w4 ⟨p10, 1, none⟩ (.int .i64 (max b.e.lo (b.e.hi - d))) w.heap.size m3).trans gd
  have HR8e := Lib.hid (HR8d.out.same (Below.heap_setCell w4 ⟨p10, 1, none⟩ (.int .i64 (max b.e.lo (b.e.hi - d))) g8 m10))
  have HR9e := Lib.hid (HR9d.out.same (Below.heap_setCell w4 ⟨p10, 1, none⟩ (.int .i64 (max b.e.lo (b.e.hi - d))) g9 m14))
  have hbwe := hbwd.setCell (show w.heap.size ≤ (⟨p10, 1, none⟩ : Addr).block from m18) (.int .i64 (max b.e.lo (b.e.hi - d)))
  generalize w4.setCell ⟨p10, 1, none⟩ (.int .i64 (max b.e.lo (b.e.hi - d))) = w5 at t10e t8e t9e ge HR8e HR9e hbwe ⊢
  replace t10e : w5.heap[p10]? = some (.cells #[.int .i64 b.e.lo, .int .i64 (max b.e.lo (b.e.hi - d)), .int .i64 b.n.lo, .int .i64 b.n.hi, .slice fa b.fs.length fc, .slice sa b.ss.length sc] 26) := t10e
  clear f1 a1 t8d t9d t10d HR8d HR9d gd hbwd hmax
  refine hK _ _ ⟨ge, hbwe⟩ (fun hH => ?_)
  clear hK K
  try simp only [Act.put, List.setIfInBounds_toArray, List.set_cons_zero, List.set_cons_succ]
  refine wpAnyW_takeD 26 133 (v := ?_) (by kernel_rfl) (by kernel_rfl) (by kernel_rfl) (by kernel_rfl) (fun _ _ _ h => h) ?_ (by assumption) ?_
  rotate_left
  · intro oi hoi w hSw; (try dsimp only at hSw); simp only [List.getElem?_toArray, List.getElem?_cons_zero, List.getElem?_cons_succ, Option.some.injEq] at hoi; subst hoi; go_simp; try with_reducible rfl
  simp only [Act.put, List.setIfInBounds_toArray, List.set_cons_zero, List.set_cons_succ]
  refine wpAnyW_takeD 27 134 (v := ?_) (by kernel_rfl) (by kernel_rfl) (by kernel_rfl) (by kernel_rfl) (fun _ _ _ h => h) ?_ (by assumption) ?_
  rotate_left
  · intro oi hoi w hSw; (try dsimp only at hSw); simp only [List.getElem?_toArray, List.getElem?_cons_zero, List.getElem?_cons_succ, Option.some.injEq] at hoi; subst hoi; go_simp; try with_reducible rfl
  simp only [Act.put, List.setIfInBounds_toArray, List.set_cons_zero, List.set_cons_succ]
  clear hH
  have f2 := frozen_block t10e 2
  have a2 := cell_block t10e 2
  simp only [List.getElem?_toArray, List.getElem?_cons_zero, List.getElem?_cons_succ] at a2
  refine wpAnyW_one 28 (by kernel_rfl) (by kernel_rfl) ?_
  intro o ho K hK
  simp only [List.getElem?_toArray, List.getElem?_cons_zero, List.getElem?_cons_succ, Option.some.injEq] at ho
  subst ho
  go_simp
  have hmin : (if b.n.lo + h < b.n.hi then b.n.lo + h else b.n.hi) = (min b.n.hi (b.n.lo + h)) := by split <;> omega
  rw [hmin]
  have t10f := heap_setCell_same _ _ 2 _ _ (.int .i64 (min b.n.hi (b.n.lo + h))) t10e
  have t8f := (Below.heap_setCell w5 ⟨p10, 2, none⟩ (.int .i64 (min b.n.hi (b.n.lo + h))) p8 m5).trans t8e
  have t9f := (Below.heap_setCell w5 ⟨p10, 2, none⟩ (.int .i64 (min b.n.hi (b.n.lo + h))) p9 m6).trans t9e
  have gf := (Below.heap_setCell w5 ⟨p10, 2, none⟩ (.int .i64 (min b.n.hi (b.n.lo + h))) w.heap.size m3).trans ge
  have R8f := HR8e.out.same (Below.heap_setCell w5 ⟨p10, 2, none⟩ (.int .i64 (min b.n.hi (b.n.lo + h))) g8 m10)
  have R9f := HR9e.out.same (Below.heap_setCell w5 ⟨p10, 2, none⟩ (.int .i64 (min b.n.hi (b.n.lo + h))) g9 m14)
  have hbwf := hbwe.setCell (show w.heap.size ≤ (⟨p10, 2, none⟩ : Addr).block from m18) (.int .i64 (min b.n.hi (b.n.lo + h)))
  generalize w5.setCell ⟨p10, 2, none⟩ (.int .i64 (min b.n.hi (b.n.lo + h))) = w6 at t10f t8f t9f gf R8f R9f hbwf ⊢
  replace t10f : w6.heap[p10]? = some (.cells #[.int .i64 b.e.lo, .int .i64 (max b.e.lo (b.e.hi - d)), .int .i64 (min b.n.hi (b.n.lo + h)), .int .i64 b.n.hi, .slice fa b.fs.length fc, .slice sa b.ss.length sc] 26) := t10f
  clear f2 a2 t8e t9e t10e HR8e HR9e ge hbwe hmin
  refine hK _ _ ⟨gf, hbwf⟩ (fun _ => ?_)
  clear hK K
  try simp only [Act.put, List.setIfInBounds_toArray, List.set_cons_zero, List.set_cons_succ]
  refine wpAnyW_done (by kernel_rfl) ?_ _
  dsimp only [onNormal]
  clear q0 q1 q2 q3 q4 q5 q6 hd hf hh
  go_upto_region 10 with fail
  have hss := HB.out.s.below hbwf (Nat.le_refl _)
  have l1 : (b.putF k (x.thin d f)).fs.length = b.fs.length := by simp [Bo.putF]
  have l2 : (b.putF k { x with sure := true }).fs.length = b.fs.length := by simp [Bo.putF]
  have C1 : CandB w6 p8 b sa sc (b.putF k (x.thin d f)) (some ⟨g8, 0, none⟩) cap8 := ⟨by rw [l1]; exact t8f, R8f.sl, hss, HTH.out.1, HTH.out.2⟩
  have C2 : CandB w6 p9 b sa sc (b.putF k { x with sure := true }) (some ⟨g9, 0, none⟩) cap9 := ⟨by rw [l2]; exact t9f, R9f.sl, hss, HSU.out.1, HSU.out.2⟩
  have C3 : CandB w6 p10 b sa sc (b.less d h) fa fc := ⟨t10f, HB.out.f.below hbwf (Nat.le_refl _), hss, HLE.out.1, HLE.out.2⟩
  refine lawMore_b b fa sa fc sc p8 p9 p10 _ _ _ _ _ _ _ _ _ w w6 HB HOK (Lib.hid C1) (Lib.hid C2) (Lib.hid C3) gf hbwf _ ?_
  assumption
end Go.Proofs.Ytjkegmjjhdmkiaa
