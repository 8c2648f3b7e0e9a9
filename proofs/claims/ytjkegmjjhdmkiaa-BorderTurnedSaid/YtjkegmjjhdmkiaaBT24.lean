/- Spans and stars compared; parts of a function's code. The law BorderTurned, walked: the zone moved. The law BorderTurned, walked: how many joinings there are; no argument is changed. A struct of six cells stored whole. -/
import Derived.Test.YtjkegmjjhdmkiaaBT19
import Derived.Test.YtjkegmjjhdmkiaaBT20
import Derived.Test.YtjkegmjjhdmkiaaBT23
import Derived.BigQuiet
import Derived.BigRegion
import Derived.IntWalk
import Derived.Laws.StructEq
namespace Go.Proofs.Ytjkegmjjhdmkiaa
open Go.RowKit Go.Shelf
set_option maxHeartbeats 1600000
set_option maxRecDepth 100000
set_option linter.unusedSimpArgs false

theorem eqFields_true {P : Program} (d : Nat) (xs : Array Value) : ∀ (fs : List Field) (w : World), (∀ f ∈ fs, ∃ v, ∀ w, (part f.type xs f.offset).run P w = .ok v w ∧ (Op.equalIn d f.type v v).run P w = .ok true w) → (Op.eqFields d xs xs fs).run P w = .ok true w := by
  intro fs
  induction fs with
  | nil => intro w _; simp [Op.eqFields]
  | cons f fs ih =>
    intro w h
    have ih' := ih w (fun g hg => h g (List.mem_cons_of_mem _ hg))
    obtain ⟨v, hv⟩ := h f List.mem_cons_self
    simp only [Op.eqFields]
    split
    · simp [Sem.run_bind, (hv w).1, (hv w).2, Result.andThen, ih']
    · exact ih'
theorem eq_fields {P : Program} {t : TypeId} {l : List (String × TypeId × Nat)} (h : (P.fieldsOf t).toList.map (fun f => (f.name, f.type, f.offset)) = l) {f : Field} (hf : f ∈ (P.fieldsOf t).toList) : (f.name, f.type, f.offset) ∈ l := by
  rw [← h]; exact List.mem_map.2 ⟨f, hf, rfl⟩

theorem span_eq (d : Nat) (a c : Int) (w : World) : (Op.equalIn (d + 2) 23 (.agg #[.int .i64 a, .int .i64 c]) (.agg #[.int .i64 a, .int .i64 c])).run Try.prog w = .ok true w := by
  have hu : Try.prog.underlying 23 = some (.struct (Try.prog.fieldsOf 23)) := by kernel_rfl
  have hp : Try.prog.stoodInHeld 23 = false := by kernel_rfl
  have hf : (Try.prog.fieldsOf 23).toList.map (fun f => (f.name, f.type, f.offset)) = [("Lo", 3, 0), ("Hi", 3, 1)] := by kernel_rfl
  rw [run_equalIn_struct _ _ _ _ _ hu hp]
  refine eqFields_true _ _ _ _ (fun f hm => ?_)
  have h := eq_fields hf hm
  simp only [List.mem_cons, List.not_mem_nil, or_false, Prod.mk.injEq] at h
  have hi : ∀ (x : Int) (w : World), (Op.equalIn (d + 1) 3 (.int .i64 x) (.int .i64 x)).run Try.prog w = .ok true w := fun x w => by
    rw [run_equalIn_int _ _ _ _ _ _ _ Try.underlying3]; simp
  rcases h with ⟨_, h1, h2⟩ | ⟨_, h1, h2⟩
  · rw [h1, h2]; exact ⟨.int .i64 a, fun w => ⟨by kernel_rfl, hi a w⟩⟩
  · rw [h1, h2]; exact ⟨.int .i64 c, fun w => ⟨by kernel_rfl, hi c w⟩⟩
theorem span_neq (a c : Int) (w : World) : (binOp .neq 23 (.agg #[.int .i64 a, .int .i64 c]) (.agg #[.int .i64 a, .int .i64 c])).run Try.prog w = .ok (.bool false) w := by
  rw [run_neq_struct, span_eq 9998]; rfl
theorem edge_neq (x : Ed) (w : World) : (binOp .neq 55 (edV x) (edV x)).run Try.prog w = .ok (.bool false) w := by
  unfold edV
  have hu : Try.prog.underlying 55 = some (.struct (Try.prog.fieldsOf 55)) := by kernel_rfl
  have hp : Try.prog.stoodInHeld 55 = false := by kernel_rfl
  have hf : (Try.prog.fieldsOf 55).toList.map (fun f => (f.name, f.type, f.offset)) = [("East", 23, 0), ("North", 23, 2), ("Bright", 23, 4), ("Sure", 4, 6)] := by kernel_rfl
  rw [run_neq_struct, run_equalIn_struct _ _ _ _ _ hu hp, eqFields_true]
  · rfl
  · intro f hm
    have h := eq_fields hf hm
    simp only [List.mem_cons, List.not_mem_nil, or_false, Prod.mk.injEq] at h
    rcases h with ⟨_, h1, h2⟩ | ⟨_, h1, h2⟩ | ⟨_, h1, h2⟩ | ⟨_, h1, h2⟩
    · rw [h1, h2]; exact ⟨.agg #[.int .i64 x.e.lo, .int .i64 x.e.hi], fun w => ⟨by kernel_rfl, span_eq 9997 _ _ w⟩⟩
    · rw [h1, h2]; exact ⟨.agg #[.int .i64 x.n.lo, .int .i64 x.n.hi], fun w => ⟨by kernel_rfl, span_eq 9997 _ _ w⟩⟩
    · rw [h1, h2]; exact ⟨.agg #[.int .i64 x.b.lo, .int .i64 x.b.hi], fun w => ⟨by kernel_rfl, span_eq 9997 _ _ w⟩⟩
    · rw [h1, h2]; exact ⟨.bool x.sure, fun w => ⟨by kernel_rfl, by rw [run_equalIn_bool' _ _ _ _ _ Try.underlying4]; simp⟩⟩

/-- What follows the first statement for which p holds, in a function's text; parts of a statement. -/
def tailAt' (p : Code → Bool) : Code → Option Code
  | .seq a b => if p a then some (.seq a b) else tailAt' p b
  | _ => none
def isIf' (n : Nat) : Code → Bool
  | .seq (.region m _ _) _ => m == n
  | _ => false
def isReg (n : Nat) : Code → Bool
  | .region m _ _ => m == n
  | _ => false
def fstC' : Code → Code
  | .seq a _ => a
  | c => c
def sndC' : Code → Code
  | .seq _ b => b
  | c => c
end Go.Proofs.Ytjkegmjjhdmkiaa
namespace Go.Proofs.Ytjkegmjjhdmkiaa
open Go.RowKit Go.Shelf
set_option maxHeartbeats 12800000
set_option maxRecDepth 100000
set_option linter.unusedSimpArgs false

theorem far_arg {b : Bo} {fa : Option Addr} {g : Nat} {d : Int} {w : World} (hf : EdSl w fa b.fs) (hm : RowEd w g (b.ss.map (·.far d))) (hl : b.fs.length ≤ 6 ∧ b.ss.length ≤ 6) : BoArg w (b.far d) fa (some ⟨g, 0, none⟩) :=
  ⟨hf, hm.sl, by show b.fs.length < _; omega, by simp only [Bo.far, List.length_map]; omega⟩

theorem lawTurned_l (b : Bo) (fa sa : Option Addr) (fc sc g cap p6 : Nat) (d : Int) (w wc : World) {z0 z1 z3 z4 z5 z7 z8 z9 z10 z11 z12 z13 z14 z15 z16 z17 z18 z19 z20 z21 z22 z23 z24 z25 z26 z27 z28 z29 z30 z31 z32 z33 z34 z35 z36 z37 z38 z39 z40 z41 z42 z43 z44 z45 z46 z47 z48 z49 z50 z51 z52 z53 z54 z55 z56 z57 z58 z59 z60 z61 z62 z63 z64 z65 z66 z67 z68 z69 z70 z71 z72 z73 z74 z75 z76 z77 z78 z79 z80 z81 z82 z83 z84 z85 z86 z87 z88 z89 z90 z91 z92 z93 z94 z95 z96 z97 z98 z99 z100 z101 z102 z103 z104 z105 z106 z107 z108 z109 z110 z111 z112 z113 z114 z115 z116 z117 z118 z119 z120 z121 z122 z123 z124 z125 z126 z127 z128 z129 z130 z131 z132 z133 z134 z135 z136 z137 z138 z139 z140 z141 z142 z143 z144 z145 z146 z147 z148 z149 z150 z151 z152 z153 z154 z155 z156 z157 z158 z159 z160 z161 z162 z163 z164 z165 z166 z167 z168 z169 z170 z171 z172 z173 z174 z175 z176 z177 z178 z179 z180 z181 z182 z183 z184 z185 z186 z187 z188 z189 z190 z191 z192 z193 z194 z195 z196 z197 z198 z199 z200 z201 z202 z203 z204 z205 z206 z207 z208 z209 z210 z211 z212 z213 z214 z215 z216 z217 z218 z219 z220 z221 z222 z223 z224 z225 z226 z227 z228 z229 z230 z231 z232 z233 z234 z235 z236 z237 z238 z239 z240 z241 z242 z243 z244 z245 z246 z247 z248 z249 z250 z251 z252 z253 z254 z255 z256 z257 z258 z259 z260 z261 z262 z263 z264 z265 z266 z267 z268 z269 z270 z271 z272 z273 z274 z275 z276 z277 z278 z279 z280 z281 z282 z283 z284 z285 z286 z287 z288 z289 z290 z291 z292 z293 z294 z295 z296 z297 z298 z299 z300 z301 z302 z303 z304 z305 z306 z307 z308 z309 z310 z311 z312 z313 z314 z315 z316 z317 : Value}
    (HB : Hid (BoArg w b fa sa)) (HOK : Hid (b.ok = true)) (HOK' : Hid ((b.far d).ok = true))
    (gc : wc.heap[w.heap.size]? = some (.cells #[.int .i64 b.e.lo, .int .i64 b.e.hi, .int .i64 b.n.lo, .int .i64 b.n.hi, .slice fa b.fs.length fc, .slice sa b.ss.length sc] 26)) (mc : wc.heap[p6]? = some (.cells #[.int .i64 (b.e.lo - d), .int .i64 (b.e.hi - d), .int .i64 b.n.lo, .int .i64 b.n.hi, .slice fa b.fs.length fc, .slice (some ⟨g, 0, none⟩) b.ss.length cap] 26))
    (HM : Hid (RowEd wc g (b.ss.map (·.far d)))) (hbw : Below w.heap.size w wc) (K1 K : Act → World → Prop)
    (hK1 : ∀ a w', Code.wp Try.prog (sndC' (fstC' ((Try.f10.body.bind (tailAt' (isIf' 36))).getD .skip))) (Exit.then K (bodyPost Try.prog Try.f10 fun e w' => e = .returned (.bool true) ∧ Below w.heap.size w w')) a w' → K1 a w') (hK : ∀ a w', Code.wp Try.prog (sndC' ((Try.f10.body.bind (tailAt' (isIf' 36))).getD .skip)) (bodyPost Try.prog Try.f10 fun e w' => e = .returned (.bool true) ∧ Below w.heap.size w w') a w' → K a w') :
    Code.wp Try.prog (fstC' (fstC' ((Try.f10.body.bind (tailAt' (isIf' 36))).getD .skip))) (Exit.then K1 (Exit.then K (bodyPost Try.prog Try.f10 fun e w' => e = .returned (.bool true) ∧ Below w.heap.size w w')))
      ⟨(z0 :: z1 :: (.pointer (some ⟨w.heap.size, 0, none⟩)) :: z3 :: z4 :: z5 :: (.pointer (some ⟨p6, 0, none⟩)) :: z7 :: z8 :: z9 :: z10 :: z11 :: z12 :: z13 :: z14 :: z15 :: z16 :: z17 :: z18 :: z19 :: z20 :: z21 :: z22 :: z23 :: z24 :: z25 :: z26 :: z27 :: z28 :: z29 :: z30 :: z31 :: z32 :: z33 :: z34 :: z35 :: z36 :: z37 :: z38 :: z39 :: z40 :: z41 :: z42 :: z43 :: z44 :: z45 :: z46 :: z47 :: z48 :: z49 :: z50 :: z51 :: z52 :: z53 :: z54 :: z55 :: z56 :: z57 :: z58 :: z59 :: z60 :: z61 :: z62 :: z63 :: z64 :: z65 :: z66 :: z67 :: z68 :: z69 :: z70 :: z71 :: z72 :: z73 :: z74 :: z75 :: z76 :: z77 :: z78 :: z79 :: z80 :: z81 :: z82 :: z83 :: z84 :: z85 :: z86 :: z87 :: z88 :: z89 :: z90 :: z91 :: z92 :: z93 :: z94 :: z95 :: z96 :: z97 :: z98 :: z99 :: z100 :: z101 :: z102 :: z103 :: z104 :: z105 :: z106 :: z107 :: z108 :: z109 :: z110 :: z111 :: z112 :: z113 :: z114 :: z115 :: z116 :: z117 :: z118 :: z119 :: z120 :: z121 :: z122 :: z123 :: z124 :: z125 :: z126 :: z127 :: z128 :: z129 :: z130 :: z131 :: z132 :: z133 :: z134 :: z135 :: z136 :: z137 :: z138 :: z139 :: z140 :: z141 :: z142 :: z143 :: z144 :: z145 :: z146 :: z147 :: z148 :: z149 :: z150 :: z151 :: z152 :: z153 :: z154 :: z155 :: z156 :: z157 :: z158 :: z159 :: z160 :: z161 :: z162 :: z163 :: z164 :: z165 :: z166 :: z167 :: z168 :: z169 :: z170 :: z171 :: z172 :: z173 :: z174 :: z175 :: z176 :: z177 :: z178 :: z179 :: z180 :: z181 :: z182 :: z183 :: z184 :: z185 :: z186 :: z187 :: z188 :: z189 :: z190 :: z191 :: z192 :: z193 :: z194 :: z195 :: z196 :: z197 :: z198 :: z199 :: z200 :: z201 :: z202 :: z203 :: z204 :: z205 :: z206 :: z207 :: z208 :: z209 :: z210 :: z211 :: z212 :: z213 :: z214 :: z215 :: z216 :: z217 :: z218 :: z219 :: z220 :: z221 :: z222 :: z223 :: z224 :: z225 :: z226 :: z227 :: z228 :: z229 :: z230 :: z231 :: z232 :: z233 :: z234 :: z235 :: z236 :: z237 :: z238 :: z239 :: z240 :: z241 :: z242 :: z243 :: z244 :: z245 :: z246 :: z247 :: z248 :: z249 :: z250 :: z251 :: z252 :: z253 :: z254 :: z255 :: z256 :: z257 :: z258 :: z259 :: z260 :: z261 :: z262 :: z263 :: z264 :: z265 :: z266 :: z267 :: z268 :: z269 :: z270 :: z271 :: z272 :: z273 :: z274 :: z275 :: z276 :: z277 :: z278 :: z279 :: z280 :: z281 :: z282 :: z283 :: z284 :: z285 :: z286 :: z287 :: z288 :: z289 :: z290 :: z291 :: z292 :: z293 :: z294 :: z295 :: z296 :: z297 :: z298 :: z299 :: z300 :: z301 :: z302 :: z303 :: z304 :: z305 :: z306 :: z307 :: z308 :: z309 :: z310 :: z311 :: z312 :: z313 :: z314 :: z315 :: z316 :: z317 :: []).toArray, []⟩ wc := by
  have hlens := bo_lens HOK.out
  have hfl : (b.fs.length : Int) ≤ 6 := by omega
  have e1 : (b.far d).ss.length = b.ss.length := by simp [Bo.far]
  have hpe := fun i => far_pairs b d i HOK.out HOK'.out
  have HPE := Lib.hid hpe
  clear hpe
  have c4 := cell_block gc 4
  simp only [List.getElem?_toArray, List.getElem?_cons_zero, List.getElem?_cons_succ] at c4
  conv => arg 2; whnf
  conv at hK1 => enter [a, w', 1, 2]; whnf
  conv at hK => enter [a, w', 1, 2]; whnf
  go_wp2_with fail
  clear c4
  go_loopw [30, 31, 32, 33, 34, 35, 36, 286] (fun _ _ _ _ _ _ _ i wr => ∃ k : Nat, k ≤ b.fs.length ∧ i = .int .i64 k ∧ Below wc.heap.size wc wr) (fun _ _ _ _ _ _ _ i _ => b.fs.length - (intOf i).toNat)
  case atStart => exact ⟨0, Nat.zero_le _, rfl, Below.refl _ _⟩
  case round =>
    obtain ⟨k, hk, rfl, hbr⟩ := hrel
    have hbwr := hbw.trans (hbr.mono hbw.size)
    by_cases hlt : k < b.fs.length
    · have hki : (k : Int) < b.fs.length := by omega
      have gr := obj_later hbr gc
      have c0 := cell_block gr 0
      have c1 := cell_block gr 1
      have c2 := cell_block gr 2
      have c3 := cell_block gr 3
      have c4 := cell_block gr 4
      have c5 := cell_block gr 5
      simp only [List.getElem?_toArray, List.getElem?_cons_zero, List.getElem?_cons_succ] at c0 c1 c2 c3 c4 c5
      have hp1 := pairs_any b (k : Int) fa sa fc sc wr (HB.out.below hbwr)
      unfold PairsPost at hp1
      obtain ⟨a1, a2, a3, ha⟩ : ∃ a1 a2 a3, bPairs b (k : Int) = (a1, a2, a3) := ⟨_, _, _, rfl⟩
      rw [ha] at hp1
      dsimp only at hp1
      have HA := Lib.hid ha
      clear ha
      go_wp2_with fail
      refine hp1.mono ?_
      rintro e w1 ⟨rfl, hb1⟩
      clear hp1 c0 c1 c2 c3 c4 c5
      have hbr1 := hbr.trans (hb1.mono hbr.size)
      have hbw1 := hbwr.trans (hb1.mono hbwr.size)
      have m1 := obj_later hbr1 mc
      have c0 := cell_block m1 0
      have c1 := cell_block m1 1
      have c2 := cell_block m1 2
      have c3 := cell_block m1 3
      have c4 := cell_block m1 4
      have c5 := cell_block m1 5
      simp only [List.getElem?_toArray, List.getElem?_cons_zero, List.getElem?_cons_succ] at c0 c1 c2 c3 c4 c5
      have hp2 := pairs_any (b.far d) (k : Int) fa (some ⟨g, 0, none⟩) fc cap w1 (far_arg (HB.out.f.below hbw1 (Nat.le_refl _)) (HM.out.below hbr1 (Nat.le_refl _)) hlens)
      unfold PairsPost at hp2
      rw [HPE.out, HA.out, e1] at hp2
      dsimp only at hp2
      go_wp2_with fail
      refine hp2.mono ?_
      rintro e w2 ⟨rfl, hb2⟩
      go_wp2_with fail
      go_roundw
      case rel => exact ⟨k + 1, by omega, by go_num, hbr1.trans (hb2.mono hbr1.size)⟩
      case measure => simp [intOf]; omega
    · obtain rfl : k = b.fs.length := by omega
      go_wp2_with fail
      refine (awake_any _).mono ?_
      rintro e w1 ⟨rfl, hb1⟩
      go_wp2
      go_ret
      exact ⟨rfl, hbwr.trans (hb1.mono hbwr.size)⟩

theorem lawTurned_a (b : Bo) (fa sa : Option Addr) (fc sc g cap p6 q : Nat) (d : Int) (x y : Sp) (n : Int) (w wc : World) {z0 z1 z3 z4 z5 z8 z9 z13 z14 z15 z16 z17 z18 z19 z20 z21 z22 z23 z24 z25 z26 z27 z28 z29 z30 z31 z32 z33 z34 z35 z36 z37 z38 z39 z40 z41 z42 z43 z44 z45 z46 z47 z48 z49 z50 z51 z52 z53 z54 z55 z56 z57 z58 z59 z60 z61 z62 z63 z64 z65 z66 z67 z68 z69 z70 z71 z72 z73 z74 z75 z76 z77 z78 z79 z80 z81 z82 z83 z84 z85 z86 z87 z88 z89 z90 z91 z92 z93 z94 z95 z96 z97 z98 z99 z100 z101 z102 z103 z104 z105 z106 z107 z108 z109 z110 z111 z112 z113 z114 z115 z116 z117 z118 z119 z120 z121 z122 z123 z124 z125 z126 z127 z128 z129 z130 z131 z132 z133 z134 z135 z136 z137 z138 z139 z140 z141 z142 z143 z144 z145 z146 z147 z148 z149 z150 z151 z152 z153 z154 z155 z156 z157 z158 z159 z160 z161 z162 z163 z164 z165 z166 z167 z168 z169 z170 z171 z172 z173 z174 z175 z176 z177 z178 z179 z180 z181 z182 z183 z184 z185 z186 z187 z188 z189 z190 z191 z192 z193 z194 z195 z196 z197 z198 z199 z200 z201 z202 z203 z204 z205 z206 z207 z208 z209 z210 z211 z212 z213 z214 z215 z216 z217 z218 z219 z220 z221 z222 z223 z224 z225 z226 z227 z228 z229 z230 z231 z232 z233 z234 z235 z236 z237 z238 z239 z240 z241 z242 z243 z244 z245 z246 z247 z248 z249 z250 z251 z252 z253 z254 z255 z256 z257 z258 z259 z260 z261 z262 z263 z264 z265 z266 z267 z268 z269 z270 z271 z272 z273 z274 z275 z276 z277 z278 z279 z280 z281 z282 z283 z284 z285 z286 z287 z288 z289 z290 z291 z292 z293 z294 z295 z296 z297 z298 z299 z300 z301 z302 z303 z304 z305 z306 z307 z308 z309 z310 z311 z312 z313 z314 z315 z316 z317 : Value}
    (HB : Hid (BoArg w b fa sa)) (HOK : Hid (b.ok = true)) (HD : Hid (0 ≤ d ∧ d ≤ 4)) (HS : Hid (bShift b = (x, y, n))) (HN : Hid (n = 0 ∨ n = 4)) (HX : Hid ((-20 ≤ x.lo ∧ x.lo ≤ 20) ∧ (-20 ≤ x.hi ∧ x.hi ≤ 20)))
    (gc : wc.heap[w.heap.size]? = some (.cells #[.int .i64 b.e.lo, .int .i64 b.e.hi, .int .i64 b.n.lo, .int .i64 b.n.hi, .slice fa b.fs.length fc, .slice sa b.ss.length sc] 26)) (mc : wc.heap[p6]? = some (.cells #[.int .i64 (b.e.lo - d), .int .i64 (b.e.hi - d), .int .i64 b.n.lo, .int .i64 b.n.hi, .slice fa b.fs.length fc, .slice (some ⟨g, 0, none⟩) b.ss.length cap] 26)) (xc : wc.heap[q]? = some (.cells #[.int .i64 x.lo, .int .i64 x.hi] 23)) (yc : wc.heap[q + 1]? = some (.cells #[.int .i64 y.lo, .int .i64 y.hi] 23))
    (HM : Hid (RowEd wc g (b.ss.map (·.far d)))) (hbw : Below w.heap.size w wc) (K1 K : Act → World → Prop)
    (hK1 : ∀ a w', Code.wp Try.prog (sndC' (fstC' ((Try.f10.body.bind (tailAt' (isIf' 31))).getD .skip))) (Exit.then K (bodyPost Try.prog Try.f10 fun e w' => e = .returned (.bool true) ∧ Below w.heap.size w w')) a w' → K1 a w') (hK : ∀ a w', Code.wp Try.prog (sndC' ((Try.f10.body.bind (tailAt' (isIf' 31))).getD .skip)) (bodyPost Try.prog Try.f10 fun e w' => e = .returned (.bool true) ∧ Below w.heap.size w w') a w' → K a w') :
    Code.wp Try.prog (fstC' (fstC' ((Try.f10.body.bind (tailAt' (isIf' 31))).getD .skip))) (Exit.then K1 (Exit.then K (bodyPost Try.prog Try.f10 fun e w' => e = .returned (.bool true) ∧ Below w.heap.size w w')))
      ⟨(z0 :: z1 :: (.pointer (some ⟨w.heap.size, 0, none⟩)) :: z3 :: z4 :: z5 :: (.pointer (some ⟨p6, 0, none⟩)) :: (.int .i64 d) :: z8 :: z9 :: (.pointer (some ⟨q, 0, none⟩)) :: (.pointer (some ⟨q + 1, 0, none⟩)) :: (.int .i64 n) :: z13 :: z14 :: z15 :: z16 :: z17 :: z18 :: z19 :: z20 :: z21 :: z22 :: z23 :: z24 :: z25 :: z26 :: z27 :: z28 :: z29 :: z30 :: z31 :: z32 :: z33 :: z34 :: z35 :: z36 :: z37 :: z38 :: z39 :: z40 :: z41 :: z42 :: z43 :: z44 :: z45 :: z46 :: z47 :: z48 :: z49 :: z50 :: z51 :: z52 :: z53 :: z54 :: z55 :: z56 :: z57 :: z58 :: z59 :: z60 :: z61 :: z62 :: z63 :: z64 :: z65 :: z66 :: z67 :: z68 :: z69 :: z70 :: z71 :: z72 :: z73 :: z74 :: z75 :: z76 :: z77 :: z78 :: z79 :: z80 :: z81 :: z82 :: z83 :: z84 :: z85 :: z86 :: z87 :: z88 :: z89 :: z90 :: z91 :: z92 :: z93 :: z94 :: z95 :: z96 :: z97 :: z98 :: z99 :: z100 :: z101 :: z102 :: z103 :: z104 :: z105 :: z106 :: z107 :: z108 :: z109 :: z110 :: z111 :: z112 :: z113 :: z114 :: z115 :: z116 :: z117 :: z118 :: z119 :: z120 :: z121 :: z122 :: z123 :: z124 :: z125 :: z126 :: z127 :: z128 :: z129 :: z130 :: z131 :: z132 :: z133 :: z134 :: z135 :: z136 :: z137 :: z138 :: z139 :: z140 :: z141 :: z142 :: z143 :: z144 :: z145 :: z146 :: z147 :: z148 :: z149 :: z150 :: z151 :: z152 :: z153 :: z154 :: z155 :: z156 :: z157 :: z158 :: z159 :: z160 :: z161 :: z162 :: z163 :: z164 :: z165 :: z166 :: z167 :: z168 :: z169 :: z170 :: z171 :: z172 :: z173 :: z174 :: z175 :: z176 :: z177 :: z178 :: z179 :: z180 :: z181 :: z182 :: z183 :: z184 :: z185 :: z186 :: z187 :: z188 :: z189 :: z190 :: z191 :: z192 :: z193 :: z194 :: z195 :: z196 :: z197 :: z198 :: z199 :: z200 :: z201 :: z202 :: z203 :: z204 :: z205 :: z206 :: z207 :: z208 :: z209 :: z210 :: z211 :: z212 :: z213 :: z214 :: z215 :: z216 :: z217 :: z218 :: z219 :: z220 :: z221 :: z222 :: z223 :: z224 :: z225 :: z226 :: z227 :: z228 :: z229 :: z230 :: z231 :: z232 :: z233 :: z234 :: z235 :: z236 :: z237 :: z238 :: z239 :: z240 :: z241 :: z242 :: z243 :: z244 :: z245 :: z246 :: z247 :: z248 :: z249 :: z250 :: z251 :: z252 :: z253 :: z254 :: z255 :: z256 :: z257 :: z258 :: z259 :: z260 :: z261 :: z262 :: z263 :: z264 :: z265 :: z266 :: z267 :: z268 :: z269 :: z270 :: z271 :: z272 :: z273 :: z274 :: z275 :: z276 :: z277 :: z278 :: z279 :: z280 :: z281 :: z282 :: z283 :: z284 :: z285 :: z286 :: z287 :: z288 :: z289 :: z290 :: z291 :: z292 :: z293 :: z294 :: z295 :: z296 :: z297 :: z298 :: z299 :: z300 :: z301 :: z302 :: z303 :: z304 :: z305 :: z306 :: z307 :: z308 :: z309 :: z310 :: z311 :: z312 :: z313 :: z314 :: z315 :: z316 :: z317 :: []).toArray, []⟩ wc := by
  have hlens := bo_lens HOK.out
  have hbm := border_any (b.far d) fa (some ⟨g, 0, none⟩) fc cap wc (far_arg (HB.out.f.below hbw (Nat.le_refl _)) HM.out hlens)
  have e1 : (b.far d).ss.length = b.ss.length := by simp [Bo.far]
  rw [e1] at hbm
  have c0 := cell_block mc 0
  have c1 := cell_block mc 1
  have c2 := cell_block mc 2
  have c3 := cell_block mc 3
  have c4 := cell_block mc 4
  have c5 := cell_block mc 5
  simp only [List.getElem?_toArray, List.getElem?_cons_zero, List.getElem?_cons_succ] at c0 c1 c2 c3 c4 c5
  conv => arg 2; whnf
  conv at hK1 => enter [a, w', 1, 2]; whnf
  conv at hK => enter [a, w', 1, 2]; whnf
  go_wp2_with fail
  refine hbm.mono ?_
  rintro e w1 ⟨rfl, hb1⟩
  clear hbm c0 c1 c2 c3 c4 c5
  have g1 := obj_later hb1 gc
  have m1 := obj_later hb1 mc
  have x1 := obj_later hb1 xc
  have y1 := obj_later hb1 yc
  have HM1 := Lib.hid (HM.out.below hb1 (Nat.le_refl _))
  have hbw1 := hbw.trans (hb1.mono hbw.size)
  clear hb1 gc mc xc yc HM hbw
  cases hok' : (b.far d).ok
  case false =>
    clear hok' e1
    go_wp2_with fail
    refine (awake_any _).mono ?_
    rintro e w2 ⟨rfl, hb2⟩
    go_wp2
    go_ret
    exact ⟨rfl, hbw1.trans (hb2.mono hbw1.size)⟩
  have hsh := shift_any (b.far d) fa (some ⟨g, 0, none⟩) fc cap w1 (far_arg (HB.out.f.below hbw1 (Nat.le_refl _)) HM1.out hlens)
  rw [e1] at hsh
  have hfs := far_shiftL b d HOK.out hok'
  rw [HS.out] at hfs
  have HOK' := Lib.hid hok'
  have hf0 : ∃ u v : Sp, bShift (b.far d) = (u, v, n) ∧ (n = 0 → u = ⟨x.lo - d, x.hi - d⟩ ∧ v = y) := by
    obtain ⟨h1, h2⟩ := hfs
    refine ⟨(bShift (b.far d)).1, (bShift (b.far d)).2.1, (by dsimp only at h1; rw [← h1]), fun h => ?_⟩
    have := h2 h
    rw [this]; exact ⟨rfl, rfl⟩
  obtain ⟨u, v, hu, huv⟩ := hf0
  unfold ShiftPost at hsh
  rw [hu] at hsh
  have HUV := Lib.hid huv
  clear hfs hu huv hok' e1
  unfold spV at hsh
  dsimp only at hsh
  have c0 := cell_block m1 0
  have c1 := cell_block m1 1
  have c2 := cell_block m1 2
  have c3 := cell_block m1 3
  have c4 := cell_block m1 4
  have c5 := cell_block m1 5
  simp only [List.getElem?_toArray, List.getElem?_cons_zero, List.getElem?_cons_succ] at c0 c1 c2 c3 c4 c5
  go_wp2_with fail
  refine hsh.mono ?_
  rintro e w2 ⟨rfl, hb2⟩
  clear hsh c0 c1 c2 c3 c4 c5
  have g2 := obj_later hb2 g1
  have m2 := obj_later hb2 m1
  have x2 := obj_later hb2 x1
  have y2 := obj_later hb2 y1
  have HM2 := Lib.hid (HM1.out.below hb2 (Nat.le_refl _))
  have hbw2 := hbw1.trans (hb2.mono hbw1.size)
  clear hb2 g1 m1 x1 y1 HM1 hbw1
  go_upto_region 34 with fail
  obtain ⟨W3, hW3⟩ : ∃ W, ((w2.alloc (.cells #[.int .i64 u.lo, .int .i64 u.hi] 23)).alloc (.cells #[.int .i64 v.lo, .int .i64 v.hi] 23)) = W := ⟨_, rfl⟩
  rw [hW3]
  try simp only [Nat.add_assoc, Nat.reduceAdd]
  have hst_W3 : Steps (fun _ => False) w2 W3 := by rw [← hW3]; exact (Steps.alloc _ w2 _).trans (Steps.alloc (fun _ => False) _ _) (fun _ _ h => h)
  have hz_W3 : W3.heap.size = w2.heap.size + 2 := by rw [← hW3]; simp
  have g0_W3 : W3.heap[w2.heap.size]? = some (.cells #[.int .i64 u.lo, .int .i64 u.hi] 23) := by rw [← hW3]; simp only [alloc_get, World.size_alloc]; repeat (first | exact if_pos trivial | exact if_pos (by omega) | rw [if_neg (by omega)])
  have g1_W3 : W3.heap[w2.heap.size + 1]? = some (.cells #[.int .i64 v.lo, .int .i64 v.hi] 23) := by rw [← hW3]; simp only [alloc_get, World.size_alloc]; repeat (first | exact if_pos trivial | exact if_pos (by omega) | rw [if_neg (by omega)])
  clear hW3
  have hb3 : Below w2.heap.size w2 W3 := hst_W3.below (Nat.le_refl _) (fun _ _ h => h)
  have g3 := obj_later hb3 g2
  have m3 := obj_later hb3 m2
  have x3 := obj_later hb3 x2
  have y3 := obj_later hb3 y2
  have HM3 := Lib.hid (HM2.out.below hb3 (Nat.le_refl _))
  have hbw3 := hbw2.trans (hb3.mono hbw2.size)
  clear hb3 g2 m2 x2 y2 HM2 hbw2 hst_W3 hz_W3
  have kx0 : ∀ W', Below W3.heap.size W3 W' → W'.cell? ⟨q, 0, none⟩ = some (.int .i64 x.lo) := fun W' h => cell_block (obj_later h x3) 0
  have kx1 : ∀ W', Below W3.heap.size W3 W' → W'.cell? ⟨q, 1, none⟩ = some (.int .i64 x.hi) := fun W' h => cell_block (obj_later h x3) 1
  have ky0 : ∀ W', Below W3.heap.size W3 W' → W'.cell? ⟨q + 1, 0, none⟩ = some (.int .i64 y.lo) := fun W' h => cell_block (obj_later h y3) 0
  have ky1 : ∀ W', Below W3.heap.size W3 W' → W'.cell? ⟨q + 1, 1, none⟩ = some (.int .i64 y.hi) := fun W' h => cell_block (obj_later h y3) 1
  have ku0 : ∀ W', Below W3.heap.size W3 W' → W'.cell? ⟨w2.heap.size, 0, none⟩ = some (.int .i64 u.lo) := fun W' h => cell_block (obj_later h g0_W3) 0
  have ku1 : ∀ W', Below W3.heap.size W3 W' → W'.cell? ⟨w2.heap.size, 1, none⟩ = some (.int .i64 u.hi) := fun W' h => cell_block (obj_later h g0_W3) 1
  have kv0 : ∀ W', Below W3.heap.size W3 W' → W'.cell? ⟨w2.heap.size + 1, 0, none⟩ = some (.int .i64 v.lo) := fun W' h => cell_block (obj_later h g1_W3) 0
  have kv1 : ∀ W', Below W3.heap.size W3 W' → W'.cell? ⟨w2.heap.size + 1, 1, none⟩ = some (.int .i64 v.hi) := fun W' h => cell_block (obj_later h g1_W3) 1
  have hx := HX.out
  have hd := HD.out
  obtain ⟨⟨hx1, hx2⟩, hx3, hx4⟩ := hx
  obtain ⟨hd1, hd2⟩ := hd
  rcases HN.out with rfl | rfl
  · obtain ⟨rfl, rfl⟩ := HUV.out rfl
    have q1 : IntKind.i64.wrap (x.lo - d) = x.lo - d := IntWalk.i64_in _ (by omega)
    have q2 : IntKind.i64.wrap (x.hi - d) = x.hi - d := IntWalk.i64_in _ (by omega)
    refine (wpIn_wide (n := 1)).1 ?_
    refine wpIn_region_Wn (S := fun W' => Below W3.heap.size W3 W') 25 (by kernel_rfl) (by kernel_rfl) (below_drew W3) (fun hHeld => ?_)
    refine wpAnyW_takeD 0 258 (v := ?_) (by kernel_rfl) (by kernel_rfl) (by kernel_rfl) (by kernel_rfl) (fun _ _ _ h => h) ?_ (by assumption) ?_
    rotate_left
    · intro oi hoi w hSw; (try dsimp only at hSw); simp only [List.getElem?_toArray, List.getElem?_cons_zero, List.getElem?_cons_succ, Option.some.injEq] at hoi; subst hoi; go_simp; try with_reducible rfl
    simp only [Act.put, List.setIfInBounds_toArray, List.set_cons_zero, List.set_cons_succ]
    refine wpAnyW_takeD 1 259 (v := ?_) (by kernel_rfl) (by kernel_rfl) (by kernel_rfl) (by kernel_rfl) (fun _ _ _ h => h) ?_ (by assumption) ?_
    rotate_left
    · intro oi hoi w hSw; (try dsimp only at hSw); simp only [List.getElem?_toArray, List.getElem?_cons_zero, List.getElem?_cons_succ, Option.some.injEq] at hoi; subst hoi; go_simp; try with_reducible rfl
    simp only [Act.put, List.setIfInBounds_toArray, List.set_cons_zero, List.set_cons_succ]
    refine wpAnyW_takeD 2 260 (v := ?_) (by kernel_rfl) (by kernel_rfl) (by kernel_rfl) (by kernel_rfl) (fun _ _ _ h => h) ?_ (by assumption) ?_
    rotate_left
    · intro oi hoi w hSw; (try dsimp only at hSw); simp only [List.getElem?_toArray, List.getElem?_cons_zero, List.getElem?_cons_succ, Option.some.injEq] at hoi; subst hoi; go_simp; try with_reducible rfl
    simp only [Act.put, List.setIfInBounds_toArray, List.set_cons_zero, List.set_cons_succ]
    refine wpAnyW_takeD 3 261 (v := ?_) (by kernel_rfl) (by kernel_rfl) (by kernel_rfl) (by kernel_rfl) (fun _ _ _ h => h) ?_ (by assumption) ?_
    rotate_left
    · intro oi hoi w hSw; (try dsimp only at hSw); simp only [List.getElem?_toArray, List.getElem?_cons_zero, List.getElem?_cons_succ, Option.some.injEq] at hoi; subst hoi; go_simp; try with_reducible rfl
    simp only [Act.put, List.setIfInBounds_toArray, List.set_cons_zero, List.set_cons_succ]
    refine wpAnyW_takeD 4 262 (v := ?_) (by kernel_rfl) (by kernel_rfl) (by kernel_rfl) (by kernel_rfl) (fun _ _ _ h => h) ?_ (by assumption) ?_
    rotate_left
    · intro oi hoi w hSw; (try dsimp only at hSw); simp only [List.getElem?_toArray, List.getElem?_cons_zero, List.getElem?_cons_succ, Option.some.injEq] at hoi; subst hoi; go_simp; try with_reducible rfl
    simp only [Act.put, List.setIfInBounds_toArray, List.set_cons_zero, List.set_cons_succ]
    refine wpAnyW_takeD 5 263 (v := ?_) (by kernel_rfl) (by kernel_rfl) (by kernel_rfl) (by kernel_rfl) (fun _ _ _ h => h) ?_ (by assumption) ?_
    rotate_left
    · intro oi hoi w hSw; (try dsimp only at hSw); simp only [List.getElem?_toArray, List.getElem?_cons_zero, List.getElem?_cons_succ, Option.some.injEq] at hoi; subst hoi; go_simp; try with_reducible rfl
    simp only [Act.put, List.setIfInBounds_toArray, List.set_cons_zero, List.set_cons_succ]
    refine wpAnyW_takeD 6 264 (v := ?_) (by kernel_rfl) (by kernel_rfl) (by kernel_rfl) (by kernel_rfl) (fun _ _ _ h => h) ?_ (by assumption) ?_
    rotate_left
    · intro oi hoi w hSw; (try dsimp only at hSw); simp only [List.getElem?_toArray, List.getElem?_cons_zero, List.getElem?_cons_succ, Option.some.injEq] at hoi; subst hoi; go_simp; try with_reducible rfl
    simp only [Act.put, List.setIfInBounds_toArray, List.set_cons_zero, List.set_cons_succ]
    refine wpAnyW_takeD 7 265 (v := ?_) (by kernel_rfl) (by kernel_rfl) (by kernel_rfl) (by kernel_rfl) (fun _ _ _ h => h) ?_ (by assumption) ?_
    rotate_left
    · intro oi hoi w hSw; (try dsimp only at hSw); simp only [List.getElem?_toArray, List.getElem?_cons_zero, List.getElem?_cons_succ, Option.some.injEq] at hoi; subst hoi; go_simp; try with_reducible rfl
    simp only [Act.put, List.setIfInBounds_toArray, List.set_cons_zero, List.set_cons_succ]
    refine wpAnyW_takeD 8 266 (v := ?_) (by kernel_rfl) (by kernel_rfl) (by kernel_rfl) (by kernel_rfl) (fun _ _ _ h => h) ?_ (by assumption) ?_
    rotate_left
    · intro oi hoi w hSw; (try dsimp only at hSw); simp only [List.getElem?_toArray, List.getElem?_cons_zero, List.getElem?_cons_succ, Option.some.injEq] at hoi; subst hoi; go_simp; try with_reducible rfl
    simp only [Act.put, List.setIfInBounds_toArray, List.set_cons_zero, List.set_cons_succ]
    refine wpAnyW_takeD 9 267 (v := ?_) (by kernel_rfl) (by kernel_rfl) (by kernel_rfl) (by kernel_rfl) (fun _ _ _ h => h) ?_ (by assumption) ?_
    rotate_left
    · intro oi hoi w hSw; (try dsimp only at hSw); simp only [List.getElem?_toArray, List.getElem?_cons_zero, List.getElem?_cons_succ, Option.some.injEq] at hoi; subst hoi; go_simp; try with_reducible rfl
    simp only [Act.put, List.setIfInBounds_toArray, List.set_cons_zero, List.set_cons_succ]
    refine wpAnyW_takeD 10 268 (v := ?_) (by kernel_rfl) (by kernel_rfl) (by kernel_rfl) (by kernel_rfl) (fun _ _ _ h => h) ?_ (by assumption) ?_
    rotate_left
    · intro oi hoi w hSw; (try dsimp only at hSw); simp only [List.getElem?_toArray, List.getElem?_cons_zero, List.getElem?_cons_succ, Option.some.injEq] at hoi; subst hoi; go_simp; try with_reducible rfl
    simp only [Act.put, List.setIfInBounds_toArray, List.set_cons_zero, List.set_cons_succ]
    refine wpAnyW_takeD 11 269 (v := ?_) (by kernel_rfl) (by kernel_rfl) (by kernel_rfl) (by kernel_rfl) (fun _ _ _ h => h) ?_ (by assumption) ?_
    rotate_left
    · intro oi hoi w hSw; (try dsimp only at hSw); simp only [List.getElem?_toArray, List.getElem?_cons_zero, List.getElem?_cons_succ, Option.some.injEq] at hoi; subst hoi; go_simp; try with_reducible rfl
    simp only [Act.put, List.setIfInBounds_toArray, List.set_cons_zero, List.set_cons_succ]
    refine wpAnyW_takeD 12 270 (v := ?_) (by kernel_rfl) (by kernel_rfl) (by kernel_rfl) (by kernel_rfl) (fun _ _ _ h => h) ?_ (by assumption) ?_
    rotate_left
    · intro oi hoi w hSw; (try dsimp only at hSw); simp only [List.getElem?_toArray, List.getElem?_cons_zero, List.getElem?_cons_succ, Option.some.injEq] at hoi; subst hoi; go_simp; try with_reducible rfl
    simp only [Act.put, List.setIfInBounds_toArray, List.set_cons_zero, List.set_cons_succ]
    refine wpAnyW_takeD 13 271 (v := ?_) (by kernel_rfl) (by kernel_rfl) (by kernel_rfl) (by kernel_rfl) (fun _ _ _ h => h) ?_ (by assumption) ?_
    rotate_left
    · intro oi hoi w hSw; (try dsimp only at hSw); simp only [List.getElem?_toArray, List.getElem?_cons_zero, List.getElem?_cons_succ, Option.some.injEq] at hoi; subst hoi; go_simp; try with_reducible rfl
    simp only [Act.put, List.setIfInBounds_toArray, List.set_cons_zero, List.set_cons_succ]
    refine wpAnyW_takeD 14 272 (v := ?_) (by kernel_rfl) (by kernel_rfl) (by kernel_rfl) (by kernel_rfl) (fun _ _ _ h => h) ?_ (by assumption) ?_
    rotate_left
    · intro oi hoi w hSw; (try dsimp only at hSw); simp only [List.getElem?_toArray, List.getElem?_cons_zero, List.getElem?_cons_succ, Option.some.injEq] at hoi; subst hoi; go_simp; try with_reducible rfl
    simp only [Act.put, List.setIfInBounds_toArray, List.set_cons_zero, List.set_cons_succ]
    refine wpAnyW_takeD 15 273 (v := ?_) (by kernel_rfl) (by kernel_rfl) (by kernel_rfl) (by kernel_rfl) (fun _ _ _ h => h) ?_ (by assumption) ?_
    rotate_left
    · intro oi hoi w hSw; (try dsimp only at hSw); simp only [List.getElem?_toArray, List.getElem?_cons_zero, List.getElem?_cons_succ, Option.some.injEq] at hoi; subst hoi; go_simp; try with_reducible rfl
    simp only [Act.put, List.setIfInBounds_toArray, List.set_cons_zero, List.set_cons_succ]
    refine wpAnyW_one 16 (by kernel_rfl) (by kernel_rfl) ?_
    intro o ho K hK
    simp only [List.getElem?_toArray, List.getElem?_cons_zero, List.getElem?_cons_succ, Option.some.injEq] at ho
    subst ho
    go_simp
    refine ⟨trivial, CallsIn.mono (callsIn_wide.2 (lspan_any _ _ _)) ?_⟩
    rintro e w4 ⟨rfl, hb4⟩
    have hH2 := hHeld.trans (hb4.mono hHeld.size)
    refine hK _ _ hH2 (fun _ => ?_)
    clear hK K
    try simp only [Act.put, List.setIfInBounds_toArray, List.set_cons_zero, List.set_cons_succ]
    have hq1 := span_neq (x.lo - d) (x.hi - d)
    have hq2 := span_neq v.lo v.hi
    refine wpAnyW_takeD 17 275 (v := ?_) (by kernel_rfl) (by kernel_rfl) (by kernel_rfl) (by kernel_rfl) (fun _ _ _ h => h) ?_ (by assumption) ?_
    rotate_left
    · intro oi hoi w hSw; (try dsimp only at hSw); simp only [List.getElem?_toArray, List.getElem?_cons_zero, List.getElem?_cons_succ, Option.some.injEq] at hoi; subst hoi; go_simp; try with_reducible rfl
    simp only [Act.put, List.setIfInBounds_toArray, List.set_cons_zero, List.set_cons_succ]
    refine wpAnyW_takeD 18 276 (v := ?_) (by kernel_rfl) (by kernel_rfl) (by kernel_rfl) (by kernel_rfl) (fun _ _ _ h => h) ?_ (by assumption) ?_
    rotate_left
    · intro oi hoi w hSw; (try dsimp only at hSw); simp only [List.getElem?_toArray, List.getElem?_cons_zero, List.getElem?_cons_succ, Option.some.injEq] at hoi; subst hoi; go_simp; try with_reducible rfl
    simp only [Act.put, List.setIfInBounds_toArray, List.set_cons_zero, List.set_cons_succ]
    refine wpAnyW_takeD 19 277 (v := ?_) (by kernel_rfl) (by kernel_rfl) (by kernel_rfl) (by kernel_rfl) (fun _ _ _ h => h) ?_ (by assumption) ?_
    rotate_left
    · intro oi hoi w hSw; (try dsimp only at hSw); simp only [List.getElem?_toArray, List.getElem?_cons_zero, List.getElem?_cons_succ, Option.some.injEq] at hoi; subst hoi; go_simp; try with_reducible rfl
    simp only [Act.put, List.setIfInBounds_toArray, List.set_cons_zero, List.set_cons_succ]
    refine wpAnyW_takeD 20 278 (v := ?_) (by kernel_rfl) (by kernel_rfl) (by kernel_rfl) (by kernel_rfl) (fun _ _ _ h => h) ?_ (by assumption) ?_
    rotate_left
    · intro oi hoi w hSw; (try dsimp only at hSw); simp only [List.getElem?_toArray, List.getElem?_cons_zero, List.getElem?_cons_succ, Option.some.injEq] at hoi; subst hoi; go_simp; try with_reducible rfl
    simp only [Act.put, List.setIfInBounds_toArray, List.set_cons_zero, List.set_cons_succ]
    refine wpAnyW_takeD 21 279 (v := ?_) (by kernel_rfl) (by kernel_rfl) (by kernel_rfl) (by kernel_rfl) (fun _ _ _ h => h) ?_ (by assumption) ?_
    rotate_left
    · intro oi hoi w hSw; (try dsimp only at hSw); simp only [List.getElem?_toArray, List.getElem?_cons_zero, List.getElem?_cons_succ, Option.some.injEq] at hoi; subst hoi; go_simp; try with_reducible rfl
    simp only [Act.put, List.setIfInBounds_toArray, List.set_cons_zero, List.set_cons_succ]
    refine wpAnyW_takeD 22 280 (v := ?_) (by kernel_rfl) (by kernel_rfl) (by kernel_rfl) (by kernel_rfl) (fun _ _ _ h => h) ?_ (by assumption) ?_
    rotate_left
    · intro oi hoi w hSw; (try dsimp only at hSw); simp only [List.getElem?_toArray, List.getElem?_cons_zero, List.getElem?_cons_succ, Option.some.injEq] at hoi; subst hoi; go_simp; try with_reducible rfl
    simp only [Act.put, List.setIfInBounds_toArray, List.set_cons_zero, List.set_cons_succ]
    refine wpAnyW_takeD 23 281 (v := ?_) (by kernel_rfl) (by kernel_rfl) (by kernel_rfl) (by kernel_rfl) (fun _ _ _ h => h) ?_ (by assumption) ?_
    rotate_left
    · intro oi hoi w hSw; (try dsimp only at hSw); simp only [List.getElem?_toArray, List.getElem?_cons_zero, List.getElem?_cons_succ, Option.some.injEq] at hoi; subst hoi; go_simp; try with_reducible rfl
    simp only [Act.put, List.setIfInBounds_toArray, List.set_cons_zero, List.set_cons_succ]
    refine wpAnyW_takeD 24 282 (v := ?_) (by kernel_rfl) (by kernel_rfl) (by kernel_rfl) (by kernel_rfl) (fun _ _ _ h => h) ?_ (by assumption) ?_
    rotate_left
    · intro oi hoi w hSw; (try dsimp only at hSw); simp only [List.getElem?_toArray, List.getElem?_cons_zero, List.getElem?_cons_succ, Option.some.injEq] at hoi; subst hoi; go_simp; try with_reducible rfl
    simp only [Act.put, List.setIfInBounds_toArray, List.set_cons_zero, List.set_cons_succ]
    refine wpAnyW_done (by kernel_rfl) ?_ _
    dsimp only [onNormal]
    clear q1 q2 hq1 hq2 kx0 kx1 ky0 ky1 ku0 ku1 kv0 kv1
    go_upto_region 36 with fail
    refine lawTurned_l b fa sa fc sc g cap p6 d w _ HB HOK HOK' (obj_later hH2 g3) (obj_later hH2 m3) (Lib.hid (HM3.out.below hH2 (Nat.le_refl _))) (hbw3.trans (hH2.mono hbw3.size)) _ _ ?_ ?_
    · assumption
    · assumption
  · refine (wpIn_wide (n := 1)).1 ?_
    refine wpIn_region_Wn (S := fun W' => Below W3.heap.size W3 W') 25 (by kernel_rfl) (by kernel_rfl) (below_drew W3) (fun hHeld => ?_)
    refine wpAnyW_takeD 0 258 (v := ?_) (by kernel_rfl) (by kernel_rfl) (by kernel_rfl) (by kernel_rfl) (fun _ _ _ h => h) ?_ (by assumption) ?_
    rotate_left
    · intro oi hoi w hSw; (try dsimp only at hSw); simp only [List.getElem?_toArray, List.getElem?_cons_zero, List.getElem?_cons_succ, Option.some.injEq] at hoi; subst hoi; go_simp; try with_reducible rfl
    simp only [Act.put, List.setIfInBounds_toArray, List.set_cons_zero, List.set_cons_succ]
    refine wpAnyW_takeD 1 259 (v := ?_) (by kernel_rfl) (by kernel_rfl) (by kernel_rfl) (by kernel_rfl) (fun _ _ _ h => h) ?_ (by assumption) ?_
    rotate_left
    · intro oi hoi w hSw; (try dsimp only at hSw); simp only [List.getElem?_toArray, List.getElem?_cons_zero, List.getElem?_cons_succ, Option.some.injEq] at hoi; subst hoi; go_simp; try with_reducible rfl
    simp only [Act.put, List.setIfInBounds_toArray, List.set_cons_zero, List.set_cons_succ]
    refine wpAnyW_takeD 2 260 (v := ?_) (by kernel_rfl) (by kernel_rfl) (by kernel_rfl) (by kernel_rfl) (fun _ _ _ h => h) ?_ (by assumption) ?_
    rotate_left
    · intro oi hoi w hSw; (try dsimp only at hSw); simp only [List.getElem?_toArray, List.getElem?_cons_zero, List.getElem?_cons_succ, Option.some.injEq] at hoi; subst hoi; go_simp; try with_reducible rfl
    simp only [Act.put, List.setIfInBounds_toArray, List.set_cons_zero, List.set_cons_succ]
    refine wpAnyW_takeD 3 261 (v := ?_) (by kernel_rfl) (by kernel_rfl) (by kernel_rfl) (by kernel_rfl) (fun _ _ _ h => h) ?_ (by assumption) ?_
    rotate_left
    · intro oi hoi w hSw; (try dsimp only at hSw); simp only [List.getElem?_toArray, List.getElem?_cons_zero, List.getElem?_cons_succ, Option.some.injEq] at hoi; subst hoi; go_simp; try with_reducible rfl
    simp only [Act.put, List.setIfInBounds_toArray, List.set_cons_zero, List.set_cons_succ]
    refine wpAnyW_takeD 4 262 (v := ?_) (by kernel_rfl) (by kernel_rfl) (by kernel_rfl) (by kernel_rfl) (fun _ _ _ h => h) ?_ (by assumption) ?_
    rotate_left
    · intro oi hoi w hSw; (try dsimp only at hSw); simp only [List.getElem?_toArray, List.getElem?_cons_zero, List.getElem?_cons_succ, Option.some.injEq] at hoi; subst hoi; go_simp; try with_reducible rfl
    simp only [Act.put, List.setIfInBounds_toArray, List.set_cons_zero, List.set_cons_succ]
    refine wpAnyW_takeD 5 263 (v := ?_) (by kernel_rfl) (by kernel_rfl) (by kernel_rfl) (by kernel_rfl) (fun _ _ _ h => h) ?_ (by assumption) ?_
    rotate_left
    · intro oi hoi w hSw; (try dsimp only at hSw); simp only [List.getElem?_toArray, List.getElem?_cons_zero, List.getElem?_cons_succ, Option.some.injEq] at hoi; subst hoi; go_simp; try with_reducible rfl
    simp only [Act.put, List.setIfInBounds_toArray, List.set_cons_zero, List.set_cons_succ]
    refine wpAnyW_takeD 6 264 (v := ?_) (by kernel_rfl) (by kernel_rfl) (by kernel_rfl) (by kernel_rfl) (fun _ _ _ h => h) ?_ (by assumption) ?_
    rotate_left
    · intro oi hoi w hSw; (try dsimp only at hSw); simp only [List.getElem?_toArray, List.getElem?_cons_zero, List.getElem?_cons_succ, Option.some.injEq] at hoi; subst hoi; go_simp; try with_reducible rfl
    simp only [Act.put, List.setIfInBounds_toArray, List.set_cons_zero, List.set_cons_succ]
    refine wpAnyW_skipD 7 265 (by kernel_rfl) (by kernel_rfl) (by kernel_rfl) (by kernel_rfl) (fun _ _ _ h => h) (by assumption) ?_
    simp only [Act.put, List.setIfInBounds_toArray, List.set_cons_zero, List.set_cons_succ]
    refine wpAnyW_skipD 8 266 (by kernel_rfl) (by kernel_rfl) (by kernel_rfl) (by kernel_rfl) (fun _ _ _ h => h) (by assumption) ?_
    simp only [Act.put, List.setIfInBounds_toArray, List.set_cons_zero, List.set_cons_succ]
    refine wpAnyW_skipD 9 267 (by kernel_rfl) (by kernel_rfl) (by kernel_rfl) (by kernel_rfl) (fun _ _ _ h => h) (by assumption) ?_
    simp only [Act.put, List.setIfInBounds_toArray, List.set_cons_zero, List.set_cons_succ]
    refine wpAnyW_skipD 10 268 (by kernel_rfl) (by kernel_rfl) (by kernel_rfl) (by kernel_rfl) (fun _ _ _ h => h) (by assumption) ?_
    simp only [Act.put, List.setIfInBounds_toArray, List.set_cons_zero, List.set_cons_succ]
    refine wpAnyW_skipD 11 269 (by kernel_rfl) (by kernel_rfl) (by kernel_rfl) (by kernel_rfl) (fun _ _ _ h => h) (by assumption) ?_
    simp only [Act.put, List.setIfInBounds_toArray, List.set_cons_zero, List.set_cons_succ]
    refine wpAnyW_skipD 12 270 (by kernel_rfl) (by kernel_rfl) (by kernel_rfl) (by kernel_rfl) (fun _ _ _ h => h) (by assumption) ?_
    simp only [Act.put, List.setIfInBounds_toArray, List.set_cons_zero, List.set_cons_succ]
    refine wpAnyW_skipD 13 271 (by kernel_rfl) (by kernel_rfl) (by kernel_rfl) (by kernel_rfl) (fun _ _ _ h => h) (by assumption) ?_
    simp only [Act.put, List.setIfInBounds_toArray, List.set_cons_zero, List.set_cons_succ]
    refine wpAnyW_skipD 14 272 (by kernel_rfl) (by kernel_rfl) (by kernel_rfl) (by kernel_rfl) (fun _ _ _ h => h) (by assumption) ?_
    simp only [Act.put, List.setIfInBounds_toArray, List.set_cons_zero, List.set_cons_succ]
    refine wpAnyW_skipD 15 273 (by kernel_rfl) (by kernel_rfl) (by kernel_rfl) (by kernel_rfl) (fun _ _ _ h => h) (by assumption) ?_
    simp only [Act.put, List.setIfInBounds_toArray, List.set_cons_zero, List.set_cons_succ]
    refine wpAnyW_skipD 16 274 (by kernel_rfl) (by kernel_rfl) (by kernel_rfl) (by kernel_rfl) (fun _ _ _ h => h) (by assumption) ?_
    simp only [Act.put, List.setIfInBounds_toArray, List.set_cons_zero, List.set_cons_succ]
    refine wpAnyW_skipD 17 275 (by kernel_rfl) (by kernel_rfl) (by kernel_rfl) (by kernel_rfl) (fun _ _ _ h => h) (by assumption) ?_
    simp only [Act.put, List.setIfInBounds_toArray, List.set_cons_zero, List.set_cons_succ]
    refine wpAnyW_skipD 18 276 (by kernel_rfl) (by kernel_rfl) (by kernel_rfl) (by kernel_rfl) (fun _ _ _ h => h) (by assumption) ?_
    simp only [Act.put, List.setIfInBounds_toArray, List.set_cons_zero, List.set_cons_succ]
    refine wpAnyW_skipD 19 277 (by kernel_rfl) (by kernel_rfl) (by kernel_rfl) (by kernel_rfl) (fun _ _ _ h => h) (by assumption) ?_
    simp only [Act.put, List.setIfInBounds_toArray, List.set_cons_zero, List.set_cons_succ]
    refine wpAnyW_skipD 20 278 (by kernel_rfl) (by kernel_rfl) (by kernel_rfl) (by kernel_rfl) (fun _ _ _ h => h) (by assumption) ?_
    simp only [Act.put, List.setIfInBounds_toArray, List.set_cons_zero, List.set_cons_succ]
    refine wpAnyW_skipD 21 279 (by kernel_rfl) (by kernel_rfl) (by kernel_rfl) (by kernel_rfl) (fun _ _ _ h => h) (by assumption) ?_
    simp only [Act.put, List.setIfInBounds_toArray, List.set_cons_zero, List.set_cons_succ]
    refine wpAnyW_skipD 22 280 (by kernel_rfl) (by kernel_rfl) (by kernel_rfl) (by kernel_rfl) (fun _ _ _ h => h) (by assumption) ?_
    simp only [Act.put, List.setIfInBounds_toArray, List.set_cons_zero, List.set_cons_succ]
    refine wpAnyW_takeD 23 281 (v := ?_) (by kernel_rfl) (by kernel_rfl) (by kernel_rfl) (by kernel_rfl) (fun _ _ _ h => h) ?_ (by assumption) ?_
    rotate_left
    · intro oi hoi w hSw; (try dsimp only at hSw); simp only [List.getElem?_toArray, List.getElem?_cons_zero, List.getElem?_cons_succ, Option.some.injEq] at hoi; subst hoi; go_simp; try with_reducible rfl
    simp only [Act.put, List.setIfInBounds_toArray, List.set_cons_zero, List.set_cons_succ]
    refine wpAnyW_takeD 24 282 (v := ?_) (by kernel_rfl) (by kernel_rfl) (by kernel_rfl) (by kernel_rfl) (fun _ _ _ h => h) ?_ (by assumption) ?_
    rotate_left
    · intro oi hoi w hSw; (try dsimp only at hSw); simp only [List.getElem?_toArray, List.getElem?_cons_zero, List.getElem?_cons_succ, Option.some.injEq] at hoi; subst hoi; go_simp; try with_reducible rfl
    simp only [Act.put, List.setIfInBounds_toArray, List.set_cons_zero, List.set_cons_succ]
    refine wpAnyW_done (by kernel_rfl) ?_ _
    dsimp only [onNormal]
    clear kx0 kx1 ky0 ky1 ku0 ku1 kv0 kv1
    go_upto_region 36 with fail
    refine lawTurned_l b fa sa fc sc g cap p6 d w _ HB HOK HOK' (obj_later hHeld g3) (obj_later hHeld m3) (Lib.hid (HM3.out.below hHeld (Nat.le_refl _))) (hbw3.trans (hHeld.mono hbw3.size)) _ _ ?_ ?_
    · assumption
    · assumption
end Go.Proofs.Ytjkegmjjhdmkiaa
namespace Go.Proofs.Ytjkegmjjhdmkiaa
open Go.RowKit Go.Shelf
set_option maxHeartbeats 12800000
set_option maxRecDepth 100000
set_option linter.unusedSimpArgs false

theorem lawTurned_b (b : Bo) (fa sa : Option Addr) (fc sc g cap p5 p6 q gk ck : Nat) (d : Int) (x y : Sp) (n : Int) (w wc : World) {z0 z1 z3 z4 z8 z13 z14 z15 z16 z17 z18 z19 z20 z21 z22 z23 z24 z25 z26 z27 z28 z29 z30 z31 z32 z33 z34 z35 z36 z37 z38 z39 z40 z41 z42 z43 z44 z45 z46 z47 z48 z49 z50 z51 z52 z53 z54 z55 z56 z57 z58 z59 z60 z61 z62 z63 z64 z65 z66 z67 z68 z69 z70 z71 z72 z73 z74 z75 z76 z77 z78 z79 z80 z81 z82 z83 z84 z85 z86 z87 z88 z89 z90 z91 z92 z93 z94 z95 z96 z97 z98 z99 z100 z101 z102 z103 z104 z105 z106 z107 z108 z109 z110 z111 z112 z113 z114 z115 z116 z117 z118 z119 z120 z121 z122 z123 z124 z125 z126 z127 z128 z129 z130 z131 z132 z133 z134 z135 z136 z137 z138 z139 z140 z141 z142 z143 z144 z145 z146 z147 z148 z149 z150 z151 z152 z153 z154 z155 z156 z157 z158 z159 z160 z161 z162 z163 z164 z165 z166 z167 z168 z169 z170 z171 z172 z173 z174 z175 z176 z177 z178 z179 z180 z181 z182 z183 z184 z185 z186 z187 z188 z189 z190 z191 z192 z193 z194 z195 z196 z197 z198 z199 z200 z201 z202 z203 z204 z205 z206 z207 z208 z209 z210 z211 z212 z213 z214 z215 z216 z217 z218 z219 z220 z221 z222 z223 z224 z225 z226 z227 z228 z229 z230 z231 z232 z233 z234 z235 z236 z237 z238 z239 z240 z241 z242 z243 z244 z245 z246 z247 z248 z249 z250 z251 z252 z253 z254 z255 z256 z257 z258 z259 z260 z261 z262 z263 z264 z265 z266 z267 z268 z269 z270 z271 z272 z273 z274 z275 z276 z277 z278 z279 z280 z281 z282 z283 z284 z285 z286 z287 z288 z289 z290 z291 z292 z293 z294 z295 z296 z297 z298 z299 z300 z301 z302 z303 z304 z305 z306 z307 z308 z309 z310 z311 z312 z313 z314 z315 z316 z317 : Value}
    (HB : Hid (BoArg w b fa sa)) (HOK : Hid (b.ok = true)) (HD : Hid (0 ≤ d ∧ d ≤ 4)) (HS : Hid (bShift b = (x, y, n))) (HN : Hid (n = 0 ∨ n = 4)) (HX : Hid ((-20 ≤ x.lo ∧ x.lo ≤ 20) ∧ (-20 ≤ x.hi ∧ x.hi ≤ 20)))
    (gc : wc.heap[w.heap.size]? = some (.cells #[.int .i64 b.e.lo, .int .i64 b.e.hi, .int .i64 b.n.lo, .int .i64 b.n.hi, .slice fa b.fs.length fc, .slice sa b.ss.length sc] 26)) (tc : wc.heap[p5]? = some (.cells #[.int .i64 (-b.e.hi), .int .i64 (-b.e.lo), .int .i64 (-b.n.hi), .int .i64 (-b.n.lo), .slice sa b.ss.length sc, .slice fa b.fs.length fc] 26)) (mc : wc.heap[p6]? = some (.cells #[.int .i64 (b.e.lo - d), .int .i64 (b.e.hi - d), .int .i64 b.n.lo, .int .i64 b.n.hi, .slice fa b.fs.length fc, .slice (some ⟨g, 0, none⟩) b.ss.length cap] 26)) (xc : wc.heap[q]? = some (.cells #[.int .i64 x.lo, .int .i64 x.hi] 23)) (yc : wc.heap[q + 1]? = some (.cells #[.int .i64 y.lo, .int .i64 y.hi] 23))
    (HM : Hid (RowEd wc g (b.ss.map (·.far d)))) (HKP : Hid (RowEd wc gk b.fs)) (hbw : Below w.heap.size w wc) (K : Act → World → Prop) (hK : ∀ a w', Code.wp Try.prog (sndC' ((Try.f10.body.bind (tailAt' (isReg 21))).getD .skip)) (bodyPost Try.prog Try.f10 fun e w' => e = .returned (.bool true) ∧ Below w.heap.size w w') a w' → K a w') :
    Code.wp Try.prog (fstC' ((Try.f10.body.bind (tailAt' (isReg 21))).getD .skip)) (Exit.then K (bodyPost Try.prog Try.f10 fun e w' => e = .returned (.bool true) ∧ Below w.heap.size w w'))
      ⟨(z0 :: z1 :: (.pointer (some ⟨w.heap.size, 0, none⟩)) :: z3 :: z4 :: (.pointer (some ⟨p5, 0, none⟩)) :: (.pointer (some ⟨p6, 0, none⟩)) :: (.int .i64 d) :: z8 :: (.slice (some ⟨gk, 0, none⟩) b.fs.length ck) :: (.pointer (some ⟨q, 0, none⟩)) :: (.pointer (some ⟨q + 1, 0, none⟩)) :: (.int .i64 n) :: z13 :: z14 :: z15 :: z16 :: z17 :: z18 :: z19 :: z20 :: z21 :: z22 :: z23 :: z24 :: z25 :: z26 :: z27 :: z28 :: z29 :: z30 :: z31 :: z32 :: z33 :: z34 :: z35 :: z36 :: z37 :: z38 :: z39 :: z40 :: z41 :: z42 :: z43 :: z44 :: z45 :: z46 :: z47 :: z48 :: z49 :: z50 :: z51 :: z52 :: z53 :: z54 :: z55 :: z56 :: z57 :: z58 :: z59 :: z60 :: z61 :: z62 :: z63 :: z64 :: z65 :: z66 :: z67 :: z68 :: z69 :: z70 :: z71 :: z72 :: z73 :: z74 :: z75 :: z76 :: z77 :: z78 :: z79 :: z80 :: z81 :: z82 :: z83 :: z84 :: z85 :: z86 :: z87 :: z88 :: z89 :: z90 :: z91 :: z92 :: z93 :: z94 :: z95 :: z96 :: z97 :: z98 :: z99 :: z100 :: z101 :: z102 :: z103 :: z104 :: z105 :: z106 :: z107 :: z108 :: z109 :: z110 :: z111 :: z112 :: z113 :: z114 :: z115 :: z116 :: z117 :: z118 :: z119 :: z120 :: z121 :: z122 :: z123 :: z124 :: z125 :: z126 :: z127 :: z128 :: z129 :: z130 :: z131 :: z132 :: z133 :: z134 :: z135 :: z136 :: z137 :: z138 :: z139 :: z140 :: z141 :: z142 :: z143 :: z144 :: z145 :: z146 :: z147 :: z148 :: z149 :: z150 :: z151 :: z152 :: z153 :: z154 :: z155 :: z156 :: z157 :: z158 :: z159 :: z160 :: z161 :: z162 :: z163 :: z164 :: z165 :: z166 :: z167 :: z168 :: z169 :: z170 :: z171 :: z172 :: z173 :: z174 :: z175 :: z176 :: z177 :: z178 :: z179 :: z180 :: z181 :: z182 :: z183 :: z184 :: z185 :: z186 :: z187 :: z188 :: z189 :: z190 :: z191 :: z192 :: z193 :: z194 :: z195 :: z196 :: z197 :: z198 :: z199 :: z200 :: z201 :: z202 :: z203 :: z204 :: z205 :: z206 :: z207 :: z208 :: z209 :: z210 :: z211 :: z212 :: z213 :: z214 :: z215 :: z216 :: z217 :: z218 :: z219 :: z220 :: z221 :: z222 :: z223 :: z224 :: z225 :: z226 :: z227 :: z228 :: z229 :: z230 :: z231 :: z232 :: z233 :: z234 :: z235 :: z236 :: z237 :: z238 :: z239 :: z240 :: z241 :: z242 :: z243 :: z244 :: z245 :: z246 :: z247 :: z248 :: z249 :: z250 :: z251 :: z252 :: z253 :: z254 :: z255 :: z256 :: z257 :: z258 :: z259 :: z260 :: z261 :: z262 :: z263 :: z264 :: z265 :: z266 :: z267 :: z268 :: z269 :: z270 :: z271 :: z272 :: z273 :: z274 :: z275 :: z276 :: z277 :: z278 :: z279 :: z280 :: z281 :: z282 :: z283 :: z284 :: z285 :: z286 :: z287 :: z288 :: z289 :: z290 :: z291 :: z292 :: z293 :: z294 :: z295 :: z296 :: z297 :: z298 :: z299 :: z300 :: z301 :: z302 :: z303 :: z304 :: z305 :: z306 :: z307 :: z308 :: z309 :: z310 :: z311 :: z312 :: z313 :: z314 :: z315 :: z316 :: z317 :: []).toArray, []⟩ wc := by
  have hlens := bo_lens HOK.out
  have hfl : (b.fs.length : Int) ≤ 6 := by omega
  have hokb := (ok_iff b).1 HOK.out
  obtain ⟨⟨b1, b2, b3⟩, ⟨b4, b5, b6⟩, _, _, _, _⟩ := hokb
  have hps := possible_any b b.e.lo b.n.hi fa sa fc sc wc (HB.out.below hbw)
  have hin : b.shift (b.e.lo, b.n.hi) = true := (shift_iff b _).2 ⟨⟨Int.le_refl _, b2⟩, b5, Int.le_refl _⟩
  have hbp : bPossible b b.e.lo b.n.hi = ((bJoins b (sures b.fs) (sures b.ss) (b.e.lo, b.n.hi)).length, 0) := by unfold bPossible; rw [if_pos HOK.out, if_pos hin]
  have htp := turn_possible b HOK.out b.e.lo b.n.hi
  have hlen := bJoins_len HOK.out (sures b.fs) (sures b.ss) (b.e.lo, b.n.hi)
  unfold PossiblePost at hps
  rw [hbp] at hps htp
  generalize (bJoins b (sures b.fs) (sures b.ss) (b.e.lo, b.n.hi)).length = N at hps htp hlen
  have HTP := Lib.hid htp
  have hNi : (N : Int) ≤ 117649 := by omega
  dsimp only at hps
  clear htp hbp hin hlen
  have c0 := cell_block gc 0
  have c1 := cell_block gc 1
  have c2 := cell_block gc 2
  have c3 := cell_block gc 3
  have c4 := cell_block gc 4
  have c5 := cell_block gc 5
  simp only [List.getElem?_toArray, List.getElem?_cons_zero, List.getElem?_cons_succ] at c0 c1 c2 c3 c4 c5
  conv => arg 2; whnf
  conv at hK => enter [a, w', 1, 2]; whnf
  go_wp2_with fail
  refine hps.mono ?_
  rintro e w1 ⟨rfl, hb1⟩
  clear hps c0 c1 c2 c3 c4 c5
  have g1 := obj_later hb1 gc
  have t1 := obj_later hb1 tc
  have m1 := obj_later hb1 mc
  have x1 := obj_later hb1 xc
  have y1 := obj_later hb1 yc
  have HM1 := Lib.hid (HM.out.below hb1 (Nat.le_refl _))
  have HK1 := Lib.hid (HKP.out.below hb1 (Nat.le_refl _))
  have hbw1 := hbw.trans (hb1.mono hbw.size)
  clear hb1 gc tc mc xc yc HM HKP hbw
  have hpt := possible_any b.turn (-b.e.lo) (-b.n.hi) sa fa sc fc w1 ⟨HB.out.s.below hbw1 (Nat.le_refl _), HB.out.f.below hbw1 (Nat.le_refl _), HB.out.ls, HB.out.lf⟩
  unfold PossiblePost at hpt
  rw [HTP.out] at hpt
  dsimp only at hpt
  have d0 := cell_block t1 0
  have d1 := cell_block t1 1
  have d2 := cell_block t1 2
  have d3 := cell_block t1 3
  have d4 := cell_block t1 4
  have d5 := cell_block t1 5
  simp only [List.getElem?_toArray, List.getElem?_cons_zero, List.getElem?_cons_succ] at d0 d1 d2 d3 d4 d5
  have c0 := cell_block g1 0
  have c1 := cell_block g1 1
  have c2 := cell_block g1 2
  have c3 := cell_block g1 3
  have c4 := cell_block g1 4
  have c5 := cell_block g1 5
  simp only [List.getElem?_toArray, List.getElem?_cons_zero, List.getElem?_cons_succ] at c0 c1 c2 c3 c4 c5
  have n1 : IntKind.i64.wrap (-b.e.lo) = -b.e.lo := IntWalk.i64_in _ (by omega)
  have n2 : IntKind.i64.wrap (-b.n.hi) = -b.n.hi := IntWalk.i64_in _ (by omega)
  go_wp2_with fail
  refine hpt.mono ?_
  rintro e w2 ⟨rfl, hb2⟩
  clear hpt c0 c1 c2 c3 c4 c5 d0 d1 d2 d3 d4 d5 n1 n2
  have g2 := obj_later hb2 g1
  have m2 := obj_later hb2 m1
  have x2 := obj_later hb2 x1
  have y2 := obj_later hb2 y1
  have HM2 := Lib.hid (HM1.out.below hb2 (Nat.le_refl _))
  have HK2 := Lib.hid (HK1.out.below hb2 (Nat.le_refl _))
  have hbw2 := hbw1.trans (hb2.mono hbw1.size)
  clear hb2 g1 t1 m1 x1 y1 HM1 HK1 hbw1
  go_wp2_with fail
  go_loopw [26, 234] (fun _ i wr => ∃ k : Nat, k ≤ b.fs.length ∧ i = .int .i64 k ∧ Below w2.heap.size w2 wr) (fun _ i _ => b.fs.length - (intOf i).toNat)
  case atStart => exact ⟨0, Nat.zero_le _, rfl, Below.refl _ _⟩
  case round =>
    obtain ⟨k, hk, rfl, hbr⟩ := hrel
    have hbwr := hbw2.trans (hbr.mono hbw2.size)
    by_cases hlt : k < b.fs.length
    · have hki : (k : Int) < b.fs.length := by omega
      obtain ⟨bq, bo, hfa, hbql, hE1⟩ := (HB.out.f.below hbwr (Nat.le_refl _)) k hlt
      have hE2 := (HK2.out.below hbr (Nat.le_refl _)).ed k hlt
      have gr := obj_later hbr g2
      have c4 := cell_block gr 4
      simp only [List.getElem?_toArray, List.getElem?_cons_zero, List.getElem?_cons_succ] at c4
      have hne := edge_neq b.fs[k]
      unfold edV at hne
      generalize b.fs[k] = x0 at hE1 hE2 hne
      obtain ⟨i0, i1, i2, i3, i4, i5, i6⟩ := hE1
      obtain ⟨j0, j1, j2, j3, j4, j5, j6⟩ := hE2
      subst hfa
      go_upto_region 28 with fail
      go_quiet (fail)
      clear i0 i1 i2 i3 i4 i5 i6 j0 j1 j2 j3 j4 j5 j6 hne c4 gr
      go_wp2_with fail
      go_roundw
      case rel => exact ⟨k + 1, by omega, by go_num, below_drewN hbr _⟩
      case measure => simp [intOf]; omega
    · obtain rfl : k = b.fs.length := by omega
      go_upto_region 31 with fail
      refine lawTurned_a b fa sa fc sc g cap p6 q d x y n w _ HB HOK HD HS HN HX (obj_later hbr g2) (obj_later hbr m2) (obj_later hbr x2) (obj_later hbr y2) (Lib.hid (HM2.out.below hbr (Nat.le_refl _))) hbwr _ _ ?_ ?_
      · assumption
      · assumption
end Go.Proofs.Ytjkegmjjhdmkiaa
namespace Go.Proofs.Ytjkegmjjhdmkiaa
open Go.RowKit Go.Shelf
set_option maxHeartbeats 1600000
set_option maxRecDepth 100000

theorem six_same {w : World} {p : Nat} {x0 x1 x2 x3 x4 x5 : Value} (v0 v1 v2 v3 v4 v5 : Value) {T : TypeId} (h : w.heap[p]? = some (.cells #[x0, x1, x2, x3, x4, x5] T)) : ((((((w.setCell ⟨p, 0, none⟩ v0).setCell ⟨p, 1, none⟩ v1).setCell ⟨p, 2, none⟩ v2).setCell ⟨p, 3, none⟩ v3).setCell ⟨p, 4, none⟩ v4).setCell ⟨p, 5, none⟩ v5).heap[p]? = some (.cells #[v0, v1, v2, v3, v4, v5] T) :=
  heap_setCell_same _ _ 5 _ _ v5 (heap_setCell_same _ _ 4 _ _ v4 (heap_setCell_same _ _ 3 _ _ v3 (heap_setCell_same _ _ 2 _ _ v2 (heap_setCell_same _ _ 1 _ _ v1 (heap_setCell_same _ _ 0 _ _ v0 (h))))))
theorem six_other (w : World) (p k : Nat) (v0 v1 v2 v3 v4 v5 : Value) (h : k ≠ p) : ((((((w.setCell ⟨p, 0, none⟩ v0).setCell ⟨p, 1, none⟩ v1).setCell ⟨p, 2, none⟩ v2).setCell ⟨p, 3, none⟩ v3).setCell ⟨p, 4, none⟩ v4).setCell ⟨p, 5, none⟩ v5).heap[k]? = w.heap[k]? := by
  iterate 6 rw [Below.heap_setCell _ _ _ _ (by exact h)]
theorem six_below {w w' : World} {p B : Nat} (v0 v1 v2 v3 v4 v5 : Value) (h : Below B w w') (hB : B ≤ p) : Below B w ((((((w'.setCell ⟨p, 0, none⟩ v0).setCell ⟨p, 1, none⟩ v1).setCell ⟨p, 2, none⟩ v2).setCell ⟨p, 3, none⟩ v3).setCell ⟨p, 4, none⟩ v4).setCell ⟨p, 5, none⟩ v5) := by
  iterate 6 refine Below.setCell ?_ (by exact hB) _
  exact h
end Go.Proofs.Ytjkegmjjhdmkiaa
