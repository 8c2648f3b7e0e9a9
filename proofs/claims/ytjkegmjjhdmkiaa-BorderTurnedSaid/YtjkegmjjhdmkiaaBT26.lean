/- The law BorderTurned, walked: the stars of the second zone moved. The law BorderTurned, walked: how far. The law BorderTurned, walked: the border turned round. -/
import Derived.Test.YtjkegmjjhdmkiaaBT25
namespace Go.Proofs.Ytjkegmjjhdmkiaa
open Go.RowKit Go.Shelf
set_option maxHeartbeats 12800000
set_option maxRecDepth 100000
set_option linter.unusedSimpArgs false

/-- The first k stars are farther. -/
def farTo (l : List Ed) (d : Int) (k : Nat) : List Ed := (l.take k).map (·.far d) ++ l.drop k
theorem farTo_length (l : List Ed) (d : Int) (k : Nat) : (farTo l d k).length = l.length := by simp [farTo]; omega
theorem farTo_get (l : List Ed) (d : Int) (k : Nat) (h : k < l.length) : (farTo l d k)[k]'(by rw [farTo_length]; exact h) = l[k] := by
  have e : ((l.take k).map (·.far d)).length = k := by simp; omega
  unfold farTo
  rw [List.getElem_append_right (by omega)]
  simp only [List.length_map, List.length_take, List.getElem_drop]
  congr 1
  omega
theorem farTo_succ (l : List Ed) (d : Int) (k : Nat) (h : k < l.length) : (farTo l d k).set k (l[k].far d) = farTo l d (k + 1) := by
  refine List.ext_getElem (by simp [farTo_length]) (fun i h1 h2 => ?_)
  rw [List.length_set, farTo_length] at h1
  have g : ∀ n, (farTo l d n)[i]'(by rw [farTo_length]; exact h1) = if i < n then l[i].far d else l[i] := fun n => by
    unfold farTo
    by_cases hi : i < n
    · rw [if_pos hi, List.getElem_append_left (by simp; omega)]
      simp
    · rw [if_neg hi, List.getElem_append_right (by simp; omega)]
      simp only [List.length_map, List.length_take, List.getElem_drop]
      congr 1
      omega
  rw [List.getElem_set]
  split
  · rename_i h'
    rw [g (k + 1), if_pos (by omega)]
    subst h'
    rfl
  · rw [g k, g (k + 1)]
    by_cases hi : i < k
    · rw [if_pos hi, if_pos (by omega)]
    · rw [if_neg hi, if_neg (by omega)]
theorem farTo_all (l : List Ed) (d : Int) : farTo l d l.length = l.map (·.far d) := by simp [farTo]
theorem farTo_zero (l : List Ed) (d : Int) : farTo l d 0 = l := by simp [farTo]

/-- A star's east is written anew. -/
theorem RowEd.put2 {w : World} {g : Nat} {l : List Ed} (h : RowEd w g l) (k : Nat) (x : Ed) (d : Int) (hk : k < l.length) (hx : l[k] = x) :
    RowEd ((w.setCell ⟨g, k * 7, none⟩ (.int .i64 (x.e.lo + d))).setCell ⟨g, k * 7 + 1, none⟩ (.int .i64 (x.e.hi + d))) g (l.set k (x.far d)) := by
  have hE := h.ed k hk
  rw [hx] at hE
  have o : ∀ i, i ≠ k * 7 → i ≠ k * 7 + 1 → ((w.setCell ⟨g, k * 7, none⟩ (.int .i64 (x.e.lo + d))).setCell ⟨g, k * 7 + 1, none⟩ (.int .i64 (x.e.hi + d))).cell? ⟨g, i, none⟩ = w.cell? ⟨g, i, none⟩ := fun i h0 h1 => by
    rw [World.cell?_setCell_other _ _ _ _ (fun e => h1 (by injection e with _ e2; exact e2.symm)), World.cell?_setCell_other _ _ _ _ (fun e => h0 (by injection e with _ e2; exact e2.symm))]
  refine h.upd k _ (fun i hi => o i (by omega) (by omega)) ⟨?_, ?_, ?_, ?_, ?_, ?_, ?_⟩ (fun i => by rw [World.frozen?_setCell, World.frozen?_setCell]; exact h.fz i) (by simpa [World.setCell] using h.lt)
  · rw [World.cell?_setCell_other _ _ _ _ (fun e => by injection e with _ e2; omega)]
    exact World.cell?_setCell_same _ _ _ hE.c0
  · refine World.cell?_setCell_same (u := .int .i64 x.e.hi) _ _ _ ?_
    rw [World.cell?_setCell_other _ _ _ _ (fun e => by injection e with _ e2; omega)]
    exact hE.c1
  · rw [o _ (by omega) (by omega)]; exact hE.c2
  · rw [o _ (by omega) (by omega)]; exact hE.c3
  · rw [o _ (by omega) (by omega)]; exact hE.c4
  · rw [o _ (by omega) (by omega)]; exact hE.c5
  · rw [o _ (by omega) (by omega)]; exact hE.c6

theorem lawTurned_d1 (b : Bo) (fa sa : Option Addr) (fc sc g cap p5 p6 : Nat) (d : Int) (w wc : World) {z0 z1 z3 z4 z8 z9 z10 z11 z12 z13 z14 z15 z16 z17 z18 z19 z20 z21 z22 z23 z24 z25 z26 z27 z28 z29 z30 z31 z32 z33 z34 z35 z36 z37 z38 z39 z40 z41 z42 z43 z44 z45 z46 z47 z48 z49 z50 z51 z52 z53 z54 z55 z56 z57 z58 z59 z60 z61 z62 z63 z64 z65 z66 z67 z68 z69 z70 z71 z72 z73 z74 z75 z76 z77 z78 z79 z80 z81 z82 z83 z84 z85 z86 z87 z88 z89 z90 z91 z92 z93 z94 z95 z96 z97 z98 z99 z100 z101 z102 z103 z104 z105 z106 z107 z108 z109 z110 z111 z112 z113 z114 z115 z116 z117 z118 z119 z120 z121 z122 z123 z124 z125 z126 z127 z128 z129 z130 z131 z132 z133 z134 z135 z136 z137 z138 z139 z140 z141 z142 z143 z144 z145 z146 z147 z148 z149 z150 z151 z152 z153 z154 z155 z156 z157 z158 z159 z160 z161 z162 z163 z164 z165 z166 z167 z168 z169 z170 z171 z172 z173 z174 z175 z176 z177 z178 z179 z180 z181 z182 z183 z184 z185 z186 z187 z188 z189 z190 z191 z192 z193 z194 z195 z196 z197 z198 z199 z200 z201 z202 z203 z204 z205 z206 z207 z208 z209 z210 z211 z212 z213 z214 z215 z216 z217 z218 z219 z220 z221 z222 z223 z224 z225 z226 z227 z228 z229 z230 z231 z232 z233 z234 z235 z236 z237 z238 z239 z240 z241 z242 z243 z244 z245 z246 z247 z248 z249 z250 z251 z252 z253 z254 z255 z256 z257 z258 z259 z260 z261 z262 z263 z264 z265 z266 z267 z268 z269 z270 z271 z272 z273 z274 z275 z276 z277 z278 z279 z280 z281 z282 z283 z284 z285 z286 z287 z288 z289 z290 z291 z292 z293 z294 z295 z296 z297 z298 z299 z300 z301 z302 z303 z304 z305 z306 z307 z308 z309 z310 z311 z312 z313 z314 z315 z316 z317 : Value}
    (HB : Hid (BoArg w b fa sa)) (HOK : Hid (b.ok = true)) (HD : Hid (0 ≤ d ∧ d ≤ 4))
    (gc : wc.heap[w.heap.size]? = some (.cells #[.int .i64 b.e.lo, .int .i64 b.e.hi, .int .i64 b.n.lo, .int .i64 b.n.hi, .slice fa b.fs.length fc, .slice sa b.ss.length sc] 26)) (tc : wc.heap[p5]? = some (.cells #[.int .i64 (-b.e.hi), .int .i64 (-b.e.lo), .int .i64 (-b.n.hi), .int .i64 (-b.n.lo), .slice sa b.ss.length sc, .slice fa b.fs.length fc] 26)) (mc : wc.heap[p6]? = some (.cells #[.int .i64 (b.e.lo - d), .int .i64 (b.e.hi - d), .int .i64 b.n.lo, .int .i64 b.n.hi, .slice fa b.fs.length fc, .slice (some ⟨g, 0, none⟩) b.ss.length cap] 26))
    (HM : Hid (RowEd wc g (b.ss.map (·.far d)))) (hbw : Below w.heap.size w wc) (K : Act → World → Prop) (hK : ∀ a w', Code.wp Try.prog (sndC' ((Try.f10.body.bind (tailAt' (isReg 14))).getD .skip)) (bodyPost Try.prog Try.f10 fun e w' => e = .returned (.bool true) ∧ Below w.heap.size w w') a w' → K a w') :
    Code.wp Try.prog (fstC' ((Try.f10.body.bind (tailAt' (isReg 14))).getD .skip)) (Exit.then K (bodyPost Try.prog Try.f10 fun e w' => e = .returned (.bool true) ∧ Below w.heap.size w w'))
      ⟨(z0 :: z1 :: (.pointer (some ⟨w.heap.size, 0, none⟩)) :: z3 :: z4 :: (.pointer (some ⟨p5, 0, none⟩)) :: (.pointer (some ⟨p6, 0, none⟩)) :: (.int .i64 d) :: z8 :: z9 :: z10 :: z11 :: z12 :: z13 :: z14 :: z15 :: z16 :: z17 :: z18 :: z19 :: z20 :: z21 :: z22 :: z23 :: z24 :: z25 :: z26 :: z27 :: z28 :: z29 :: z30 :: z31 :: z32 :: z33 :: z34 :: z35 :: z36 :: z37 :: z38 :: z39 :: z40 :: z41 :: z42 :: z43 :: z44 :: z45 :: z46 :: z47 :: z48 :: z49 :: z50 :: z51 :: z52 :: z53 :: z54 :: z55 :: z56 :: z57 :: z58 :: z59 :: z60 :: z61 :: z62 :: z63 :: z64 :: z65 :: z66 :: z67 :: z68 :: z69 :: z70 :: z71 :: z72 :: z73 :: z74 :: z75 :: z76 :: z77 :: z78 :: z79 :: z80 :: z81 :: z82 :: z83 :: z84 :: z85 :: z86 :: z87 :: z88 :: z89 :: z90 :: z91 :: z92 :: z93 :: z94 :: z95 :: z96 :: z97 :: z98 :: z99 :: z100 :: z101 :: z102 :: z103 :: z104 :: z105 :: z106 :: z107 :: z108 :: z109 :: z110 :: z111 :: z112 :: z113 :: z114 :: z115 :: z116 :: z117 :: z118 :: z119 :: z120 :: z121 :: z122 :: z123 :: z124 :: z125 :: z126 :: z127 :: z128 :: z129 :: z130 :: z131 :: z132 :: z133 :: z134 :: z135 :: z136 :: z137 :: z138 :: z139 :: z140 :: z141 :: z142 :: z143 :: z144 :: z145 :: z146 :: z147 :: z148 :: z149 :: z150 :: z151 :: z152 :: z153 :: z154 :: z155 :: z156 :: z157 :: z158 :: z159 :: z160 :: z161 :: z162 :: z163 :: z164 :: z165 :: z166 :: z167 :: z168 :: z169 :: z170 :: z171 :: z172 :: z173 :: z174 :: z175 :: z176 :: z177 :: z178 :: z179 :: z180 :: z181 :: z182 :: z183 :: z184 :: z185 :: z186 :: z187 :: z188 :: z189 :: z190 :: z191 :: z192 :: z193 :: z194 :: z195 :: z196 :: z197 :: z198 :: z199 :: z200 :: z201 :: z202 :: z203 :: z204 :: z205 :: z206 :: z207 :: z208 :: z209 :: z210 :: z211 :: z212 :: z213 :: z214 :: z215 :: z216 :: z217 :: z218 :: z219 :: z220 :: z221 :: z222 :: z223 :: z224 :: z225 :: z226 :: z227 :: z228 :: z229 :: z230 :: z231 :: z232 :: z233 :: z234 :: z235 :: z236 :: z237 :: z238 :: z239 :: z240 :: z241 :: z242 :: z243 :: z244 :: z245 :: z246 :: z247 :: z248 :: z249 :: z250 :: z251 :: z252 :: z253 :: z254 :: z255 :: z256 :: z257 :: z258 :: z259 :: z260 :: z261 :: z262 :: z263 :: z264 :: z265 :: z266 :: z267 :: z268 :: z269 :: z270 :: z271 :: z272 :: z273 :: z274 :: z275 :: z276 :: z277 :: z278 :: z279 :: z280 :: z281 :: z282 :: z283 :: z284 :: z285 :: z286 :: z287 :: z288 :: z289 :: z290 :: z291 :: z292 :: z293 :: z294 :: z295 :: z296 :: z297 :: z298 :: z299 :: z300 :: z301 :: z302 :: z303 :: z304 :: z305 :: z306 :: z307 :: z308 :: z309 :: z310 :: z311 :: z312 :: z313 :: z314 :: z315 :: z316 :: z317 :: []).toArray, []⟩ wc := by
  have hlens := bo_lens HOK.out
  have hbe := below_alloc wc (.cells #[] 55)
  have hf := HB.out.f.below hbw (Nat.le_refl _)
  obtain ⟨gk, ck, w1, hrun, hgk, hK1, hb1, hgr⟩ := copyEds (wc.alloc (.cells #[] 55)) wc.heap.size (obj_new _ _) fa fc b.fs (by omega) (hf.below hbe (Nat.le_refl _))
  have HK1 := Lib.hid hK1
  have hbb := hbe.trans hb1
  have g4 := obj_later hbe gc
  have c4 := cell_block g4 4
  simp only [List.getElem?_toArray, List.getElem?_cons_zero, List.getElem?_cons_succ] at c4
  clear hK1 hb1 hgr g4 hf
  conv => arg 2; whnf
  conv at hK => enter [a, w', 1, 2]; whnf
  go_upto_region 15 with (at_builtin; refine wpList_plain rfl fun K hK => ?_; unfold Oper.wp; simp [execOp, resolve, invoke, builtin, hrun, Result.andThen, Act.eval]; refine hK _ _ ?_; clear hK)
  clear hrun c4
  refine lawTurned_c b fa sa fc sc g cap p5 p6 gk ck d w w1 HB HOK HD (obj_later hbb gc) (obj_later hbb tc) (obj_later hbb mc) (Lib.hid (HM.out.below hbb (Nat.le_refl _))) HK1 (hbw.trans (hbb.mono hbw.size)) _ ?_
  assumption

theorem lawTurned_d2 (b : Bo) (fa sa : Option Addr) (fc sc g cap p5 p6 : Nat) (d : Int) (w wc : World) {z0 z1 z3 z4 z8 z9 z10 z11 z12 z13 z14 z15 z16 z17 z18 z19 z20 z21 z22 z23 z24 z25 z26 z27 z28 z29 z30 z31 z32 z33 z34 z35 z36 z37 z38 z39 z40 z41 z42 z43 z44 z45 z46 z47 z48 z49 z50 z51 z52 z53 z54 z55 z56 z57 z58 z59 z60 z61 z62 z63 z64 z65 z66 z67 z68 z69 z70 z71 z72 z73 z74 z75 z76 z77 z78 z79 z80 z81 z82 z83 z84 z85 z86 z87 z88 z89 z90 z91 z92 z93 z94 z95 z96 z97 z98 z99 z100 z101 z102 z103 z104 z105 z106 z107 z108 z109 z110 z111 z112 z113 z114 z115 z116 z117 z118 z119 z120 z121 z122 z123 z124 z125 z126 z127 z128 z129 z130 z131 z132 z133 z134 z135 z136 z137 z138 z139 z140 z141 z142 z143 z144 z145 z146 z147 z148 z149 z150 z151 z152 z153 z154 z155 z156 z157 z158 z159 z160 z161 z162 z163 z164 z165 z166 z167 z168 z169 z170 z171 z172 z173 z174 z175 z176 z177 z178 z179 z180 z181 z182 z183 z184 z185 z186 z187 z188 z189 z190 z191 z192 z193 z194 z195 z196 z197 z198 z199 z200 z201 z202 z203 z204 z205 z206 z207 z208 z209 z210 z211 z212 z213 z214 z215 z216 z217 z218 z219 z220 z221 z222 z223 z224 z225 z226 z227 z228 z229 z230 z231 z232 z233 z234 z235 z236 z237 z238 z239 z240 z241 z242 z243 z244 z245 z246 z247 z248 z249 z250 z251 z252 z253 z254 z255 z256 z257 z258 z259 z260 z261 z262 z263 z264 z265 z266 z267 z268 z269 z270 z271 z272 z273 z274 z275 z276 z277 z278 z279 z280 z281 z282 z283 z284 z285 z286 z287 z288 z289 z290 z291 z292 z293 z294 z295 z296 z297 z298 z299 z300 z301 z302 z303 z304 z305 z306 z307 z308 z309 z310 z311 z312 z313 z314 z315 z316 z317 : Value}
    (HB : Hid (BoArg w b fa sa)) (HOK : Hid (b.ok = true)) (HD : Hid (0 ≤ d ∧ d ≤ 4)) (hne : w.heap.size < g ∧ p5 < g ∧ p6 < g)
    (gc : wc.heap[w.heap.size]? = some (.cells #[.int .i64 b.e.lo, .int .i64 b.e.hi, .int .i64 b.n.lo, .int .i64 b.n.hi, .slice fa b.fs.length fc, .slice sa b.ss.length sc] 26)) (tc : wc.heap[p5]? = some (.cells #[.int .i64 (-b.e.hi), .int .i64 (-b.e.lo), .int .i64 (-b.n.hi), .int .i64 (-b.n.lo), .slice sa b.ss.length sc, .slice fa b.fs.length fc] 26)) (mc : wc.heap[p6]? = some (.cells #[.int .i64 (b.e.lo - d), .int .i64 (b.e.hi - d), .int .i64 b.n.lo, .int .i64 b.n.hi, .slice fa b.fs.length fc, .slice (some ⟨g, 0, none⟩) b.ss.length cap] 26))
    (HM : Hid (RowEd wc g b.ss)) (hbw : Below w.heap.size w wc) (K1 K : Act → World → Prop)
    (hK1 : ∀ a w', Code.wp Try.prog (sndC' (fstC' ((Try.f10.body.bind (tailAt' (isIf' 9))).getD .skip))) (Exit.then K (bodyPost Try.prog Try.f10 fun e w' => e = .returned (.bool true) ∧ Below w.heap.size w w')) a w' → K1 a w') (hK : ∀ a w', Code.wp Try.prog (sndC' ((Try.f10.body.bind (tailAt' (isIf' 9))).getD .skip)) (bodyPost Try.prog Try.f10 fun e w' => e = .returned (.bool true) ∧ Below w.heap.size w w') a w' → K a w') :
    Code.wp Try.prog (fstC' (fstC' ((Try.f10.body.bind (tailAt' (isIf' 9))).getD .skip))) (Exit.then K1 (Exit.then K (bodyPost Try.prog Try.f10 fun e w' => e = .returned (.bool true) ∧ Below w.heap.size w w')))
      ⟨(z0 :: z1 :: (.pointer (some ⟨w.heap.size, 0, none⟩)) :: z3 :: z4 :: (.pointer (some ⟨p5, 0, none⟩)) :: (.pointer (some ⟨p6, 0, none⟩)) :: (.int .i64 d) :: z8 :: z9 :: z10 :: z11 :: z12 :: z13 :: z14 :: z15 :: z16 :: z17 :: z18 :: z19 :: z20 :: z21 :: z22 :: z23 :: z24 :: z25 :: z26 :: z27 :: z28 :: z29 :: z30 :: z31 :: z32 :: z33 :: z34 :: z35 :: z36 :: z37 :: z38 :: z39 :: z40 :: z41 :: z42 :: z43 :: z44 :: z45 :: z46 :: z47 :: z48 :: z49 :: z50 :: z51 :: z52 :: z53 :: z54 :: z55 :: z56 :: z57 :: z58 :: z59 :: z60 :: z61 :: z62 :: z63 :: z64 :: z65 :: z66 :: z67 :: z68 :: z69 :: z70 :: z71 :: z72 :: z73 :: z74 :: z75 :: z76 :: z77 :: z78 :: z79 :: z80 :: z81 :: z82 :: z83 :: z84 :: z85 :: z86 :: z87 :: z88 :: z89 :: z90 :: z91 :: z92 :: z93 :: z94 :: z95 :: z96 :: z97 :: z98 :: z99 :: z100 :: z101 :: z102 :: z103 :: z104 :: z105 :: z106 :: z107 :: z108 :: z109 :: z110 :: z111 :: z112 :: z113 :: z114 :: z115 :: z116 :: z117 :: z118 :: z119 :: z120 :: z121 :: z122 :: z123 :: z124 :: z125 :: z126 :: z127 :: z128 :: z129 :: z130 :: z131 :: z132 :: z133 :: z134 :: z135 :: z136 :: z137 :: z138 :: z139 :: z140 :: z141 :: z142 :: z143 :: z144 :: z145 :: z146 :: z147 :: z148 :: z149 :: z150 :: z151 :: z152 :: z153 :: z154 :: z155 :: z156 :: z157 :: z158 :: z159 :: z160 :: z161 :: z162 :: z163 :: z164 :: z165 :: z166 :: z167 :: z168 :: z169 :: z170 :: z171 :: z172 :: z173 :: z174 :: z175 :: z176 :: z177 :: z178 :: z179 :: z180 :: z181 :: z182 :: z183 :: z184 :: z185 :: z186 :: z187 :: z188 :: z189 :: z190 :: z191 :: z192 :: z193 :: z194 :: z195 :: z196 :: z197 :: z198 :: z199 :: z200 :: z201 :: z202 :: z203 :: z204 :: z205 :: z206 :: z207 :: z208 :: z209 :: z210 :: z211 :: z212 :: z213 :: z214 :: z215 :: z216 :: z217 :: z218 :: z219 :: z220 :: z221 :: z222 :: z223 :: z224 :: z225 :: z226 :: z227 :: z228 :: z229 :: z230 :: z231 :: z232 :: z233 :: z234 :: z235 :: z236 :: z237 :: z238 :: z239 :: z240 :: z241 :: z242 :: z243 :: z244 :: z245 :: z246 :: z247 :: z248 :: z249 :: z250 :: z251 :: z252 :: z253 :: z254 :: z255 :: z256 :: z257 :: z258 :: z259 :: z260 :: z261 :: z262 :: z263 :: z264 :: z265 :: z266 :: z267 :: z268 :: z269 :: z270 :: z271 :: z272 :: z273 :: z274 :: z275 :: z276 :: z277 :: z278 :: z279 :: z280 :: z281 :: z282 :: z283 :: z284 :: z285 :: z286 :: z287 :: z288 :: z289 :: z290 :: z291 :: z292 :: z293 :: z294 :: z295 :: z296 :: z297 :: z298 :: z299 :: z300 :: z301 :: z302 :: z303 :: z304 :: z305 :: z306 :: z307 :: z308 :: z309 :: z310 :: z311 :: z312 :: z313 :: z314 :: z315 :: z316 :: z317 :: []).toArray, []⟩ wc := by
  have hlens := bo_lens HOK.out
  have hsl : (b.ss.length : Int) ≤ 6 := by omega
  have hEok := fun k (h : k < b.ss.length) => (edok_iff _).1 (List.all_eq_true.1 ((ok_iff b).1 HOK.out).2.2.2.2.2 b.ss[k] (List.getElem_mem h))
  have HEOK := Lib.hid hEok
  have c5 := cell_block mc 5
  simp only [List.getElem?_toArray, List.getElem?_cons_zero, List.getElem?_cons_succ] at c5
  clear hEok
  obtain ⟨hne0, hne5, hne6⟩ := hne
  conv => arg 2; whnf
  conv at hK1 => enter [a, w', 1, 2]; whnf
  conv at hK => enter [a, w', 1, 2]; whnf
  go_wp2_with fail
  clear c5
  go_loopw [8, 96] (fun _ i wr => ∃ k : Nat, k ≤ b.ss.length ∧ i = .int .i64 k ∧ RowEd wr g (farTo b.ss d k) ∧ Below g wc wr) (fun _ i _ => b.ss.length - (intOf i).toNat)
  case atStart => exact ⟨0, Nat.zero_le _, rfl, by rw [farTo_zero]; exact HM.out, Below.refl _ _⟩
  case round =>
    obtain ⟨k, hk, rfl, hrow, hbr⟩ := hrel
    have gr := (hbr.block _ hne0).trans gc
    have mr := (hbr.block _ hne6).trans mc
    have hbwr := hbw.trans (hbr.mono (Nat.le_of_lt hne0))
    by_cases hlt : k < b.ss.length
    · have hki : (k : Int) < b.ss.length := by omega
      have HROW := Lib.hid hrow
      clear hrow
      obtain ⟨bq, bo, hsa, hbql, hE⟩ := HB.out.s k hlt
      have hbq2 : bq < w.heap.size := hbql
      have hxo := HEOK.out k hlt
      have hfs := farTo_succ b.ss d k hlt
      have hfg := farTo_get b.ss d k hlt
      have HFS := Lib.hid hfs
      have HFG := Lib.hid hfg
      clear hfs hfg
      generalize b.ss[k] = x at hE hxo HFS HFG
      have hd := HD.out
      have o1 : -1048576 ≤ x.e.lo := hxo.1.1
      have o2 : x.e.lo ≤ 1048576 := by omega
      have o3 : -1048576 ≤ x.e.hi := by omega
      have o4 : x.e.hi ≤ 1048576 := hxo.1.2.2
      obtain ⟨hd1, hd2⟩ := hd
      have q1 : IntKind.i64.wrap (x.e.lo + d) = x.e.lo + d := IntWalk.i64_in _ (by omega)
      have q2 : IntKind.i64.wrap (x.e.hi + d) = x.e.hi + d := IntWalk.i64_in _ (by omega)
      have hbq3 : bq < g := Nat.lt_trans hbq2 hne0
      have ke0 : ∀ W', Below g wr W' → W'.cell? ⟨bq, bo + k * 7, none⟩ = some (.int .i64 x.e.lo) := fun W' h => ((hE.same (hbwr.block _ hbq2)).same (h.block _ hbq3)).c0
      have ke1 : ∀ W', Below g wr W' → W'.cell? ⟨bq, bo + k * 7 + 1, none⟩ = some (.int .i64 x.e.hi) := fun W' h => ((hE.same (hbwr.block _ hbq2)).same (h.block _ hbq3)).c1
      have kb5 : ∀ W', Below g wr W' → W'.cell? ⟨w.heap.size, 5, none⟩ = some (.slice sa b.ss.length sc) := fun W' h => cell_block ((h.block _ hne0).trans gr) 5
      have km5 : ∀ W', Below g wr W' → W'.cell? ⟨p6, 5, none⟩ = some (.slice (some ⟨g, 0, none⟩) b.ss.length cap) := fun W' h => cell_block ((h.block _ hne6).trans mr) 5
      subst hsa
      clear hE hxo gr mr
      go_upto_region 12 with fail
      refine (wpIn_wide (n := 1)).1 ?_
      have hgs : g < wr.heap.size := HROW.out.lt
      refine wpIn_region_Wn (S := fun W' => Below g wr W') 25 (by kernel_rfl) (by kernel_rfl) ((below_drew wr).mono (Nat.le_of_lt hgs)) (fun hHeld => ?_)
      refine wpAnyW_takeD 0 99 (v := ?_) (by kernel_rfl) (by kernel_rfl) (by kernel_rfl) (by kernel_rfl) (fun _ _ _ h => h) ?_ (by assumption) ?_
      rotate_left
      · intro oi hoi w hSw; (try dsimp only at hSw); simp only [List.getElem?_toArray, List.getElem?_cons_zero, List.getElem?_cons_succ, Option.some.injEq] at hoi; subst hoi; go_simp; try with_reducible rfl
      simp only [Act.put, List.setIfInBounds_toArray, List.set_cons_zero, List.set_cons_succ]
      refine wpAnyW_takeD 1 100 (v := ?_) (by kernel_rfl) (by kernel_rfl) (by kernel_rfl) (by kernel_rfl) (fun _ _ _ h => h) ?_ (by assumption) ?_
      rotate_left
      · intro oi hoi w hSw; (try dsimp only at hSw); simp only [List.getElem?_toArray, List.getElem?_cons_zero, List.getElem?_cons_succ, Option.some.injEq] at hoi; subst hoi; go_simp; try with_reducible rfl
      simp only [Act.put, List.setIfInBounds_toArray, List.set_cons_zero, List.set_cons_succ]
      refine wpAnyW_takeD 2 101 (v := ?_) (by kernel_rfl) (by kernel_rfl) (by kernel_rfl) (by kernel_rfl) (fun _ _ _ h => h) ?_ (by assumption) ?_
      rotate_left
      · intro oi hoi w hSw; (try dsimp only at hSw); simp only [List.getElem?_toArray, List.getElem?_cons_zero, List.getElem?_cons_succ, Option.some.injEq] at hoi; subst hoi; go_simp; try with_reducible rfl
      simp only [Act.put, List.setIfInBounds_toArray, List.set_cons_zero, List.set_cons_succ]
      refine wpAnyW_takeD 3 102 (v := ?_) (by kernel_rfl) (by kernel_rfl) (by kernel_rfl) (by kernel_rfl) (fun _ _ _ h => h) ?_ (by assumption) ?_
      rotate_left
      · intro oi hoi w hSw; (try dsimp only at hSw); simp only [List.getElem?_toArray, List.getElem?_cons_zero, List.getElem?_cons_succ, Option.some.injEq] at hoi; subst hoi; go_simp; try with_reducible rfl
      simp only [Act.put, List.setIfInBounds_toArray, List.set_cons_zero, List.set_cons_succ]
      refine wpAnyW_takeD 4 103 (v := ?_) (by kernel_rfl) (by kernel_rfl) (by kernel_rfl) (by kernel_rfl) (fun _ _ _ h => h) ?_ (by assumption) ?_
      rotate_left
      · intro oi hoi w hSw; (try dsimp only at hSw); simp only [List.getElem?_toArray, List.getElem?_cons_zero, List.getElem?_cons_succ, Option.some.injEq] at hoi; subst hoi; go_simp; try with_reducible rfl
      simp only [Act.put, List.setIfInBounds_toArray, List.set_cons_zero, List.set_cons_succ]
      refine wpAnyW_takeD 5 104 (v := ?_) (by kernel_rfl) (by kernel_rfl) (by kernel_rfl) (by kernel_rfl) (fun _ _ _ h => h) ?_ (by assumption) ?_
      rotate_left
      · intro oi hoi w hSw; (try dsimp only at hSw); simp only [List.getElem?_toArray, List.getElem?_cons_zero, List.getElem?_cons_succ, Option.some.injEq] at hoi; subst hoi; go_simp; try with_reducible rfl
      simp only [Act.put, List.setIfInBounds_toArray, List.set_cons_zero, List.set_cons_succ]
      refine wpAnyW_takeD 6 105 (v := ?_) (by kernel_rfl) (by kernel_rfl) (by kernel_rfl) (by kernel_rfl) (fun _ _ _ h => h) ?_ (by assumption) ?_
      rotate_left
      · intro oi hoi w hSw; (try dsimp only at hSw); simp only [List.getElem?_toArray, List.getElem?_cons_zero, List.getElem?_cons_succ, Option.some.injEq] at hoi; subst hoi; go_simp; try with_reducible rfl
      simp only [Act.put, List.setIfInBounds_toArray, List.set_cons_zero, List.set_cons_succ]
      refine wpAnyW_takeD 7 106 (v := ?_) (by kernel_rfl) (by kernel_rfl) (by kernel_rfl) (by kernel_rfl) (fun _ _ _ h => h) ?_ (by assumption) ?_
      rotate_left
      · intro oi hoi w hSw; (try dsimp only at hSw); simp only [List.getElem?_toArray, List.getElem?_cons_zero, List.getElem?_cons_succ, Option.some.injEq] at hoi; subst hoi; go_simp; try with_reducible rfl
      simp only [Act.put, List.setIfInBounds_toArray, List.set_cons_zero, List.set_cons_succ]
      refine wpAnyW_takeD 8 107 (v := ?_) (by kernel_rfl) (by kernel_rfl) (by kernel_rfl) (by kernel_rfl) (fun _ _ _ h => h) ?_ (by assumption) ?_
      rotate_left
      · intro oi hoi w hSw; (try dsimp only at hSw); simp only [List.getElem?_toArray, List.getElem?_cons_zero, List.getElem?_cons_succ, Option.some.injEq] at hoi; subst hoi; go_simp; try with_reducible rfl
      simp only [Act.put, List.setIfInBounds_toArray, List.set_cons_zero, List.set_cons_succ]
      refine wpAnyW_takeD 9 108 (v := ?_) (by kernel_rfl) (by kernel_rfl) (by kernel_rfl) (by kernel_rfl) (fun _ _ _ h => h) ?_ (by assumption) ?_
      rotate_left
      · intro oi hoi w hSw; (try dsimp only at hSw); simp only [List.getElem?_toArray, List.getElem?_cons_zero, List.getElem?_cons_succ, Option.some.injEq] at hoi; subst hoi; go_simp; try with_reducible rfl
      simp only [Act.put, List.setIfInBounds_toArray, List.set_cons_zero, List.set_cons_succ]
      refine wpAnyW_takeD 10 109 (v := ?_) (by kernel_rfl) (by kernel_rfl) (by kernel_rfl) (by kernel_rfl) (fun _ _ _ h => h) ?_ (by assumption) ?_
      rotate_left
      · intro oi hoi w hSw; (try dsimp only at hSw); simp only [List.getElem?_toArray, List.getElem?_cons_zero, List.getElem?_cons_succ, Option.some.injEq] at hoi; subst hoi; go_simp; try with_reducible rfl
      simp only [Act.put, List.setIfInBounds_toArray, List.set_cons_zero, List.set_cons_succ]
      refine wpAnyW_takeD 11 110 (v := ?_) (by kernel_rfl) (by kernel_rfl) (by kernel_rfl) (by kernel_rfl) (fun _ _ _ h => h) ?_ (by assumption) ?_
      rotate_left
      · intro oi hoi w hSw; (try dsimp only at hSw); simp only [List.getElem?_toArray, List.getElem?_cons_zero, List.getElem?_cons_succ, Option.some.injEq] at hoi; subst hoi; go_simp; try with_reducible rfl
      simp only [Act.put, List.setIfInBounds_toArray, List.set_cons_zero, List.set_cons_succ]
      refine wpAnyW_takeD 12 111 (v := ?_) (by kernel_rfl) (by kernel_rfl) (by kernel_rfl) (by kernel_rfl) (fun _ _ _ h => h) ?_ (by assumption) ?_
      rotate_left
      · intro oi hoi w hSw; (try dsimp only at hSw); simp only [List.getElem?_toArray, List.getElem?_cons_zero, List.getElem?_cons_succ, Option.some.injEq] at hoi; subst hoi; go_simp; try with_reducible rfl
      simp only [Act.put, List.setIfInBounds_toArray, List.set_cons_zero, List.set_cons_succ]
      refine wpAnyW_takeD 13 112 (v := ?_) (by kernel_rfl) (by kernel_rfl) (by kernel_rfl) (by kernel_rfl) (fun _ _ _ h => h) ?_ (by assumption) ?_
      rotate_left
      · intro oi hoi w hSw; (try dsimp only at hSw); simp only [List.getElem?_toArray, List.getElem?_cons_zero, List.getElem?_cons_succ, Option.some.injEq] at hoi; subst hoi; go_simp; try with_reducible rfl
      simp only [Act.put, List.setIfInBounds_toArray, List.set_cons_zero, List.set_cons_succ]
      refine wpAnyW_takeD 14 113 (v := ?_) (by kernel_rfl) (by kernel_rfl) (by kernel_rfl) (by kernel_rfl) (fun _ _ _ h => h) ?_ (by assumption) ?_
      rotate_left
      · intro oi hoi w hSw; (try dsimp only at hSw); simp only [List.getElem?_toArray, List.getElem?_cons_zero, List.getElem?_cons_succ, Option.some.injEq] at hoi; subst hoi; go_simp; try with_reducible rfl
      simp only [Act.put, List.setIfInBounds_toArray, List.set_cons_zero, List.set_cons_succ]
      refine wpAnyW_takeD 15 114 (v := ?_) (by kernel_rfl) (by kernel_rfl) (by kernel_rfl) (by kernel_rfl) (fun _ _ _ h => h) ?_ (by assumption) ?_
      rotate_left
      · intro oi hoi w hSw; (try dsimp only at hSw); simp only [List.getElem?_toArray, List.getElem?_cons_zero, List.getElem?_cons_succ, Option.some.injEq] at hoi; subst hoi; go_simp; try with_reducible rfl
      simp only [Act.put, List.setIfInBounds_toArray, List.set_cons_zero, List.set_cons_succ]
      refine wpAnyW_takeD 16 115 (v := ?_) (by kernel_rfl) (by kernel_rfl) (by kernel_rfl) (by kernel_rfl) (fun _ _ _ h => h) ?_ (by assumption) ?_
      rotate_left
      · intro oi hoi w hSw; (try dsimp only at hSw); simp only [List.getElem?_toArray, List.getElem?_cons_zero, List.getElem?_cons_succ, Option.some.injEq] at hoi; subst hoi; go_simp; try with_reducible rfl
      simp only [Act.put, List.setIfInBounds_toArray, List.set_cons_zero, List.set_cons_succ]
      refine wpAnyW_takeD 17 116 (v := ?_) (by kernel_rfl) (by kernel_rfl) (by kernel_rfl) (by kernel_rfl) (fun _ _ _ h => h) ?_ (by assumption) ?_
      rotate_left
      · intro oi hoi w hSw; (try dsimp only at hSw); simp only [List.getElem?_toArray, List.getElem?_cons_zero, List.getElem?_cons_succ, Option.some.injEq] at hoi; subst hoi; go_simp; try with_reducible rfl
      simp only [Act.put, List.setIfInBounds_toArray, List.set_cons_zero, List.set_cons_succ]
      refine wpAnyW_takeD 18 117 (v := ?_) (by kernel_rfl) (by kernel_rfl) (by kernel_rfl) (by kernel_rfl) (fun _ _ _ h => h) ?_ (by assumption) ?_
      rotate_left
      · intro oi hoi w hSw; (try dsimp only at hSw); simp only [List.getElem?_toArray, List.getElem?_cons_zero, List.getElem?_cons_succ, Option.some.injEq] at hoi; subst hoi; go_simp; try with_reducible rfl
      simp only [Act.put, List.setIfInBounds_toArray, List.set_cons_zero, List.set_cons_succ]
      refine wpAnyW_takeD 19 118 (v := ?_) (by kernel_rfl) (by kernel_rfl) (by kernel_rfl) (by kernel_rfl) (fun _ _ _ h => h) ?_ (by assumption) ?_
      rotate_left
      · intro oi hoi w hSw; (try dsimp only at hSw); simp only [List.getElem?_toArray, List.getElem?_cons_zero, List.getElem?_cons_succ, Option.some.injEq] at hoi; subst hoi; go_simp; try with_reducible rfl
      simp only [Act.put, List.setIfInBounds_toArray, List.set_cons_zero, List.set_cons_succ]
      refine wpAnyW_takeD 20 119 (v := ?_) (by kernel_rfl) (by kernel_rfl) (by kernel_rfl) (by kernel_rfl) (fun _ _ _ h => h) ?_ (by assumption) ?_
      rotate_left
      · intro oi hoi w hSw; (try dsimp only at hSw); simp only [List.getElem?_toArray, List.getElem?_cons_zero, List.getElem?_cons_succ, Option.some.injEq] at hoi; subst hoi; go_simp; try with_reducible rfl
      simp only [Act.put, List.setIfInBounds_toArray, List.set_cons_zero, List.set_cons_succ]
      refine wpAnyW_one 21 (by kernel_rfl) (by kernel_rfl) ?_
      intro o ho K hK
      simp only [List.getElem?_toArray, List.getElem?_cons_zero, List.getElem?_cons_succ, Option.some.injEq] at ho
      subst ho
      go_simp
      refine ⟨trivial, CallsIn.mono (callsIn_wide.2 (lspan_any _ _ _)) ?_⟩
      rintro e w7 ⟨rfl, hb7⟩
      have hH7 : Below wr.heap.size wr w7 := (below_drew wr).trans hb7
      have hH2 : Below g wr w7 := hH7.mono (Nat.le_of_lt hgs)
      refine hK _ _ hH2 (fun _ => ?_)
      clear hK K
      try simp only [Act.put, List.setIfInBounds_toArray, List.set_cons_zero, List.set_cons_succ]
      clear q1 q2 ke0 ke1 kb5 km5
      have hrow7 := HROW.out.below hH7 (Nat.le_refl _)
      have hfz := hrow7.fz
      have hE7 := hrow7.ed k (by rw [farTo_length]; exact hlt)
      rw [HFG.out] at hE7
      have f0 := hfz (k * 7)
      have f1 := hfz (k * 7 + 1)
      have i0 := hE7.c0
      have i1 := hE7.c1
      have hput := hrow7.put2 k x d (by rw [farTo_length]; exact hlt) HFG.out
      rw [HFS.out] at hput
      have HP := Lib.hid hput
      clear hrow7 hfz hE7 hput
      refine wpAnyW_takeD 22 121 (v := ?_) (by kernel_rfl) (by kernel_rfl) (by kernel_rfl) (by kernel_rfl) (fun _ _ _ h => h) ?_ (by assumption) ?_
      rotate_left
      · intro oi hoi w hSw; (try dsimp only at hSw); simp only [List.getElem?_toArray, List.getElem?_cons_zero, List.getElem?_cons_succ, Option.some.injEq] at hoi; subst hoi; go_simp; try with_reducible rfl
      simp only [Act.put, List.setIfInBounds_toArray, List.set_cons_zero, List.set_cons_succ]
      refine wpAnyW_takeD 23 122 (v := ?_) (by kernel_rfl) (by kernel_rfl) (by kernel_rfl) (by kernel_rfl) (fun _ _ _ h => h) ?_ (by assumption) ?_
      rotate_left
      · intro oi hoi w hSw; (try dsimp only at hSw); simp only [List.getElem?_toArray, List.getElem?_cons_zero, List.getElem?_cons_succ, Option.some.injEq] at hoi; subst hoi; go_simp; try with_reducible rfl
      simp only [Act.put, List.setIfInBounds_toArray, List.set_cons_zero, List.set_cons_succ]
      refine wpAnyW_one 24 (by kernel_rfl) (by kernel_rfl) ?_
      intro o ho K hK
      simp only [List.getElem?_toArray, List.getElem?_cons_zero, List.getElem?_cons_succ, Option.some.injEq] at ho
      subst ho
      go_simp
      have hH9 := (hH2.setCell (show g ≤ (⟨g, k * 7, none⟩ : Addr).block from Nat.le_refl _) (.int .i64 (x.e.lo + d))).setCell (show g ≤ (⟨g, k * 7 + 1, none⟩ : Addr).block from Nat.le_refl _) (.int .i64 (x.e.hi + d))
      refine hK _ _ hH9 (fun _ => ?_)
      clear hK K
      try simp only [Act.put, List.setIfInBounds_toArray, List.set_cons_zero, List.set_cons_succ]
      refine wpAnyW_done (by kernel_rfl) ?_ _
      dsimp only [onNormal]
      clear f0 f1 i0 i1
      go_wp2_with fail
      go_roundw
      case rel => exact ⟨k + 1, by omega, by go_num, HP.out, hbr.trans hH9⟩
      case measure => simp [intOf]; omega
    · obtain rfl : k = b.ss.length := by omega
      rw [farTo_all] at hrow
      have tr := (hbr.block _ hne5).trans tc
      go_upto_region 14 with fail
      refine lawTurned_d1 b fa sa fc sc g cap p5 p6 d w _ HB HOK HD gr tr mr (Lib.hid hrow) hbwr _ ?_
      assumption
end Go.Proofs.Ytjkegmjjhdmkiaa
namespace Go.Proofs.Ytjkegmjjhdmkiaa
open Go.RowKit Go.Shelf
set_option maxHeartbeats 12800000
set_option maxRecDepth 100000
set_option linter.unusedSimpArgs false

theorem lawTurned_e (b : Bo) (fa sa : Option Addr) (fc sc p5 p6 : Nat) (far : Int) (w wc : World) {z0 z3 z4 z7 z8 z9 z10 z11 z12 z13 z14 z15 z16 z17 z18 z19 z20 z21 z22 z23 z24 z25 z26 z27 z28 z29 z30 z31 z32 z33 z34 z35 z36 z37 z38 z39 z40 z41 z42 z43 z44 z45 z46 z47 z48 z49 z50 z51 z52 z53 z54 z55 z56 z57 z58 z59 z60 z61 z62 z63 z64 z65 z66 z67 z68 z69 z70 z71 z72 z73 z74 z75 z76 z77 z78 z79 z80 z81 z82 z83 z84 z85 z86 z87 z88 z89 z90 z91 z92 z93 z94 z95 z96 z97 z98 z99 z100 z101 z102 z103 z104 z105 z106 z107 z108 z109 z110 z111 z112 z113 z114 z115 z116 z117 z118 z119 z120 z121 z122 z123 z124 z125 z126 z127 z128 z129 z130 z131 z132 z133 z134 z135 z136 z137 z138 z139 z140 z141 z142 z143 z144 z145 z146 z147 z148 z149 z150 z151 z152 z153 z154 z155 z156 z157 z158 z159 z160 z161 z162 z163 z164 z165 z166 z167 z168 z169 z170 z171 z172 z173 z174 z175 z176 z177 z178 z179 z180 z181 z182 z183 z184 z185 z186 z187 z188 z189 z190 z191 z192 z193 z194 z195 z196 z197 z198 z199 z200 z201 z202 z203 z204 z205 z206 z207 z208 z209 z210 z211 z212 z213 z214 z215 z216 z217 z218 z219 z220 z221 z222 z223 z224 z225 z226 z227 z228 z229 z230 z231 z232 z233 z234 z235 z236 z237 z238 z239 z240 z241 z242 z243 z244 z245 z246 z247 z248 z249 z250 z251 z252 z253 z254 z255 z256 z257 z258 z259 z260 z261 z262 z263 z264 z265 z266 z267 z268 z269 z270 z271 z272 z273 z274 z275 z276 z277 z278 z279 z280 z281 z282 z283 z284 z285 z286 z287 z288 z289 z290 z291 z292 z293 z294 z295 z296 z297 z298 z299 z300 z301 z302 z303 z304 z305 z306 z307 z308 z309 z310 z311 z312 z313 z314 z315 z316 z317 : Value}
    (HB : Hid (BoArg w b fa sa)) (HOK : Hid (b.ok = true)) (hfar : 0 ≤ far ∧ far ≤ 255) (hne : w.heap.size ≠ p6 ∧ p5 ≠ p6 ∧ w.heap.size ≤ p5 ∧ w.heap.size ≤ p6)
    (gc : wc.heap[w.heap.size]? = some (.cells #[.int .i64 b.e.lo, .int .i64 b.e.hi, .int .i64 b.n.lo, .int .i64 b.n.hi, .slice fa b.fs.length fc, .slice sa b.ss.length sc] 26)) (tc : wc.heap[p5]? = some (.cells #[.int .i64 (-b.e.hi), .int .i64 (-b.e.lo), .int .i64 (-b.n.hi), .int .i64 (-b.n.lo), .slice sa b.ss.length sc, .slice fa b.fs.length fc] 26)) (mc : wc.heap[p6]? = some (.cells #[.int .i64 b.e.lo, .int .i64 b.e.hi, .int .i64 b.n.lo, .int .i64 b.n.hi, .slice fa b.fs.length fc, .slice sa b.ss.length sc] 26))
    (hbw : Below w.heap.size w wc) (K : Act → World → Prop) (hK : ∀ a w', Code.wp Try.prog (sndC' ((Try.f10.body.bind (tailAt' (isReg 6))).getD .skip)) (bodyPost Try.prog Try.f10 fun e w' => e = .returned (.bool true) ∧ Below w.heap.size w w') a w' → K a w') :
    Code.wp Try.prog (fstC' ((Try.f10.body.bind (tailAt' (isReg 6))).getD .skip)) (Exit.then K (bodyPost Try.prog Try.f10 fun e w' => e = .returned (.bool true) ∧ Below w.heap.size w w'))
      ⟨(z0 :: (.int .u8 far) :: (.pointer (some ⟨w.heap.size, 0, none⟩)) :: z3 :: z4 :: (.pointer (some ⟨p5, 0, none⟩)) :: (.pointer (some ⟨p6, 0, none⟩)) :: z7 :: z8 :: z9 :: z10 :: z11 :: z12 :: z13 :: z14 :: z15 :: z16 :: z17 :: z18 :: z19 :: z20 :: z21 :: z22 :: z23 :: z24 :: z25 :: z26 :: z27 :: z28 :: z29 :: z30 :: z31 :: z32 :: z33 :: z34 :: z35 :: z36 :: z37 :: z38 :: z39 :: z40 :: z41 :: z42 :: z43 :: z44 :: z45 :: z46 :: z47 :: z48 :: z49 :: z50 :: z51 :: z52 :: z53 :: z54 :: z55 :: z56 :: z57 :: z58 :: z59 :: z60 :: z61 :: z62 :: z63 :: z64 :: z65 :: z66 :: z67 :: z68 :: z69 :: z70 :: z71 :: z72 :: z73 :: z74 :: z75 :: z76 :: z77 :: z78 :: z79 :: z80 :: z81 :: z82 :: z83 :: z84 :: z85 :: z86 :: z87 :: z88 :: z89 :: z90 :: z91 :: z92 :: z93 :: z94 :: z95 :: z96 :: z97 :: z98 :: z99 :: z100 :: z101 :: z102 :: z103 :: z104 :: z105 :: z106 :: z107 :: z108 :: z109 :: z110 :: z111 :: z112 :: z113 :: z114 :: z115 :: z116 :: z117 :: z118 :: z119 :: z120 :: z121 :: z122 :: z123 :: z124 :: z125 :: z126 :: z127 :: z128 :: z129 :: z130 :: z131 :: z132 :: z133 :: z134 :: z135 :: z136 :: z137 :: z138 :: z139 :: z140 :: z141 :: z142 :: z143 :: z144 :: z145 :: z146 :: z147 :: z148 :: z149 :: z150 :: z151 :: z152 :: z153 :: z154 :: z155 :: z156 :: z157 :: z158 :: z159 :: z160 :: z161 :: z162 :: z163 :: z164 :: z165 :: z166 :: z167 :: z168 :: z169 :: z170 :: z171 :: z172 :: z173 :: z174 :: z175 :: z176 :: z177 :: z178 :: z179 :: z180 :: z181 :: z182 :: z183 :: z184 :: z185 :: z186 :: z187 :: z188 :: z189 :: z190 :: z191 :: z192 :: z193 :: z194 :: z195 :: z196 :: z197 :: z198 :: z199 :: z200 :: z201 :: z202 :: z203 :: z204 :: z205 :: z206 :: z207 :: z208 :: z209 :: z210 :: z211 :: z212 :: z213 :: z214 :: z215 :: z216 :: z217 :: z218 :: z219 :: z220 :: z221 :: z222 :: z223 :: z224 :: z225 :: z226 :: z227 :: z228 :: z229 :: z230 :: z231 :: z232 :: z233 :: z234 :: z235 :: z236 :: z237 :: z238 :: z239 :: z240 :: z241 :: z242 :: z243 :: z244 :: z245 :: z246 :: z247 :: z248 :: z249 :: z250 :: z251 :: z252 :: z253 :: z254 :: z255 :: z256 :: z257 :: z258 :: z259 :: z260 :: z261 :: z262 :: z263 :: z264 :: z265 :: z266 :: z267 :: z268 :: z269 :: z270 :: z271 :: z272 :: z273 :: z274 :: z275 :: z276 :: z277 :: z278 :: z279 :: z280 :: z281 :: z282 :: z283 :: z284 :: z285 :: z286 :: z287 :: z288 :: z289 :: z290 :: z291 :: z292 :: z293 :: z294 :: z295 :: z296 :: z297 :: z298 :: z299 :: z300 :: z301 :: z302 :: z303 :: z304 :: z305 :: z306 :: z307 :: z308 :: z309 :: z310 :: z311 :: z312 :: z313 :: z314 :: z315 :: z316 :: z317 :: []).toArray, []⟩ wc := by
  have hlens := bo_lens HOK.out
  have hokb := (ok_iff b).1 HOK.out
  obtain ⟨⟨b1, b2, b3⟩, ⟨b4, b5, b6⟩, _, _, _, _⟩ := hokb
  obtain ⟨hf1, hf2⟩ := hfar
  obtain ⟨hn1, hn2, hn3, hn4⟩ := hne
  conv => arg 2; whnf
  conv at hK => enter [a, w', 1, 2]; whnf
  go_upto_region 7 with fail
  obtain ⟨d, hd, hd0, hd4⟩ : ∃ d : Int, far % 5 = d ∧ 0 ≤ d ∧ d ≤ 4 := ⟨_, rfl, by omega, by omega⟩
  rw [hd]
  clear hd hf1 hf2
  have c0 := cell_block gc 0
  have c1 := cell_block gc 1
  have c2 := cell_block gc 2
  have c3 := cell_block gc 3
  have c4 := cell_block gc 4
  have c5 := cell_block gc 5
  simp only [List.getElem?_toArray, List.getElem?_cons_zero, List.getElem?_cons_succ] at c0 c1 c2 c3 c4 c5
  go_wp2_with fail
  refine (lspan_any _ _ _).mono ?_
  rintro e w1 ⟨rfl, hb1⟩
  clear c0 c1 c2 c3 c4 c5
  have g1 := obj_later hb1 gc
  have t1 := obj_later hb1 tc
  have m1 := obj_later hb1 mc
  have hbw1 := hbw.trans (hb1.mono hbw.size)
  clear hb1 gc tc mc hbw
  have f0 := frozen_block m1 0
  have f1 := frozen_block m1 1
  have c0 := cell_block m1 0
  have c1 := cell_block m1 1
  have c2 := cell_block m1 2
  have c3 := cell_block m1 3
  have c4 := cell_block m1 4
  have c5 := cell_block m1 5
  simp only [List.getElem?_toArray, List.getElem?_cons_zero, List.getElem?_cons_succ] at c0 c1 c2 c3 c4 c5
  go_upto_region 8 with fail
  clear f0 f1 c0 c1 c2 c3 c4 c5
  have m2 := heap_setCell_same _ _ 1 _ _ (.int .i64 (b.e.hi - d)) (heap_setCell_same _ _ 0 _ _ (.int .i64 (b.e.lo - d)) m1)
  have g2 := (Below.heap_setCell ((w1.setCell ⟨p6, 0, none⟩ (.int .i64 (b.e.lo - d)))) ⟨p6, 1, none⟩ (.int .i64 (b.e.hi - d)) w.heap.size hn1).trans ((Below.heap_setCell w1 ⟨p6, 0, none⟩ (.int .i64 (b.e.lo - d)) w.heap.size hn1).trans g1)
  have t2 := (Below.heap_setCell ((w1.setCell ⟨p6, 0, none⟩ (.int .i64 (b.e.lo - d)))) ⟨p6, 1, none⟩ (.int .i64 (b.e.hi - d)) p5 hn2).trans ((Below.heap_setCell w1 ⟨p6, 0, none⟩ (.int .i64 (b.e.lo - d)) p5 hn2).trans t1)
  have hbw2 := (hbw1.setCell (show w.heap.size ≤ (⟨p6, 0, none⟩ : Addr).block from hn4) (.int .i64 (b.e.lo - d))).setCell (show w.heap.size ≤ (⟨p6, 1, none⟩ : Addr).block from hn4) (.int .i64 (b.e.hi - d))
  generalize (w1.setCell ⟨p6, 0, none⟩ (.int .i64 (b.e.lo - d))).setCell ⟨p6, 1, none⟩ (.int .i64 (b.e.hi - d)) = w2 at m2 g2 t2 hbw2 ⊢
  replace m2 : w2.heap[p6]? = some (.cells #[.int .i64 (b.e.lo - d), .int .i64 (b.e.hi - d), .int .i64 b.n.lo, .int .i64 b.n.hi, .slice fa b.fs.length fc, .slice sa b.ss.length sc] 26) := m2
  clear g1 t1 m1 hbw1
  have hbe := below_alloc w2 (.cells #[] 55)
  have hs := HB.out.s.below hbw2 (Nat.le_refl _)
  obtain ⟨g, cap, w3, hrun, hgk, hM, hb3, hgr⟩ := copyEds (w2.alloc (.cells #[] 55)) w2.heap.size (obj_new _ _) sa sc b.ss (by omega) (hs.below hbe (Nat.le_refl _))
  have HM := Lib.hid hM
  have hbb := hbe.trans hb3
  have ge := obj_later hbe g2
  have g3 := obj_later hbb g2
  have t3 := obj_later hbb t2
  have m3 := obj_later hbb m2
  have hbw3 := hbw2.trans (hbb.mono hbw2.size)
  have lt0 := (Array.getElem?_eq_some_iff.1 g2).1
  have lt5 := (Array.getElem?_eq_some_iff.1 t2).1
  have lt6 := (Array.getElem?_eq_some_iff.1 m2).1
  have c5 := cell_block ge 5
  have d5 := cell_block m3 5
  have f5 := frozen_block m3 5
  simp only [List.getElem?_toArray, List.getElem?_cons_zero, List.getElem?_cons_succ] at c5 d5
  clear hM hb3 hgr ge g2 t2 m2 hbw2 hs hbb hbe
  go_upto_region 9 with (at_builtin; refine wpList_plain rfl fun K hK => ?_; unfold Oper.wp; simp [execOp, resolve, invoke, builtin, hrun, Result.andThen, Act.eval]; refine hK _ _ ?_; clear hK)
  clear hrun c5 d5 f5
  have m4 := heap_setCell_same _ _ 5 _ _ (.slice (some ⟨g, 0, none⟩) b.ss.length cap) m3
  have g4 := (Below.heap_setCell w3 ⟨p6, 5, none⟩ (.slice (some ⟨g, 0, none⟩) b.ss.length cap) w.heap.size hn1).trans g3
  have t4 := (Below.heap_setCell w3 ⟨p6, 5, none⟩ (.slice (some ⟨g, 0, none⟩) b.ss.length cap) p5 hn2).trans t3
  have hM4 := HM.out.same (Below.heap_setCell w3 ⟨p6, 5, none⟩ (.slice (some ⟨g, 0, none⟩) b.ss.length cap) g (by show g ≠ p6; omega))
  have hbw4 := hbw3.setCell (show w.heap.size ≤ (⟨p6, 5, none⟩ : Addr).block from hn4) (.slice (some ⟨g, 0, none⟩) b.ss.length cap)
  refine lawTurned_d2 b fa sa fc sc g cap p5 p6 d w _ HB HOK (Lib.hid ⟨hd0, hd4⟩) ⟨by omega, by omega, by omega⟩ g4 t4 m4 (Lib.hid hM4) hbw4 _ _ ?_ ?_
  · assumption
  · assumption
end Go.Proofs.Ytjkegmjjhdmkiaa
namespace Go.Proofs.Ytjkegmjjhdmkiaa
open Go.RowKit Go.Shelf
set_option maxHeartbeats 12800000
set_option maxRecDepth 100000
set_option linter.unusedSimpArgs false

theorem lawTurned_f (b : Bo) (fa sa : Option Addr) (fc sc p5 p6 : Nat) (far : Int) (w wc : World) {z0 z3 z4 z7 z8 z9 z10 z11 z12 z13 z14 z15 z16 z17 z18 z19 z20 z21 z22 z23 z24 z25 z26 z27 z28 z29 z30 z31 z32 z33 z34 z35 z36 z37 z38 z39 z40 z41 z42 z43 z44 z45 z46 z47 z48 z49 z50 z51 z52 z53 z54 z55 z56 z57 z58 z59 z60 z61 z62 z63 z64 z65 z66 z67 z68 z69 z70 z71 z72 z73 z74 z75 z76 z77 z78 z79 z80 z81 z82 z83 z84 z85 z86 z87 z88 z89 z90 z91 z92 z93 z94 z95 z96 z97 z98 z99 z100 z101 z102 z103 z104 z105 z106 z107 z108 z109 z110 z111 z112 z113 z114 z115 z116 z117 z118 z119 z120 z121 z122 z123 z124 z125 z126 z127 z128 z129 z130 z131 z132 z133 z134 z135 z136 z137 z138 z139 z140 z141 z142 z143 z144 z145 z146 z147 z148 z149 z150 z151 z152 z153 z154 z155 z156 z157 z158 z159 z160 z161 z162 z163 z164 z165 z166 z167 z168 z169 z170 z171 z172 z173 z174 z175 z176 z177 z178 z179 z180 z181 z182 z183 z184 z185 z186 z187 z188 z189 z190 z191 z192 z193 z194 z195 z196 z197 z198 z199 z200 z201 z202 z203 z204 z205 z206 z207 z208 z209 z210 z211 z212 z213 z214 z215 z216 z217 z218 z219 z220 z221 z222 z223 z224 z225 z226 z227 z228 z229 z230 z231 z232 z233 z234 z235 z236 z237 z238 z239 z240 z241 z242 z243 z244 z245 z246 z247 z248 z249 z250 z251 z252 z253 z254 z255 z256 z257 z258 z259 z260 z261 z262 z263 z264 z265 z266 z267 z268 z269 z270 z271 z272 z273 z274 z275 z276 z277 z278 z279 z280 z281 z282 z283 z284 z285 z286 z287 z288 z289 z290 z291 z292 z293 z294 z295 z296 z297 z298 z299 z300 z301 z302 z303 z304 z305 z306 z307 z308 z309 z310 z311 z312 z313 z314 z315 z316 z317 : Value}
    (HB : Hid (BoArg w b fa sa)) (HOK : Hid (b.ok = true)) (hfar : 0 ≤ far ∧ far ≤ 255) (hne : w.heap.size ≠ p6 ∧ p5 ≠ p6 ∧ w.heap.size ≠ p5 ∧ w.heap.size ≤ p5 ∧ w.heap.size ≤ p6)
    (gc : wc.heap[w.heap.size]? = some (.cells #[.int .i64 b.e.lo, .int .i64 b.e.hi, .int .i64 b.n.lo, .int .i64 b.n.hi, .slice fa b.fs.length fc, .slice sa b.ss.length sc] 26)) (tc : wc.heap[p5]? = some (.cells #[.int .i64 b.e.lo, .int .i64 b.e.hi, .int .i64 b.n.lo, .int .i64 b.n.hi, .slice fa b.fs.length fc, .slice sa b.ss.length sc] 26)) (mc : wc.heap[p6]? = some (.cells #[.int .i64 b.e.lo, .int .i64 b.e.hi, .int .i64 b.n.lo, .int .i64 b.n.hi, .slice fa b.fs.length fc, .slice sa b.ss.length sc] 26))
    (hbw : Below w.heap.size w wc) (K : Act → World → Prop) (hK : ∀ a w', Code.wp Try.prog (sndC' ((Try.f10.body.bind (tailAt' (isReg 4))).getD .skip)) (bodyPost Try.prog Try.f10 fun e w' => e = .returned (.bool true) ∧ Below w.heap.size w w') a w' → K a w') :
    Code.wp Try.prog (fstC' ((Try.f10.body.bind (tailAt' (isReg 4))).getD .skip)) (Exit.then K (bodyPost Try.prog Try.f10 fun e w' => e = .returned (.bool true) ∧ Below w.heap.size w w'))
      ⟨(z0 :: (.int .u8 far) :: (.pointer (some ⟨w.heap.size, 0, none⟩)) :: z3 :: z4 :: (.pointer (some ⟨p5, 0, none⟩)) :: (.pointer (some ⟨p6, 0, none⟩)) :: z7 :: z8 :: z9 :: z10 :: z11 :: z12 :: z13 :: z14 :: z15 :: z16 :: z17 :: z18 :: z19 :: z20 :: z21 :: z22 :: z23 :: z24 :: z25 :: z26 :: z27 :: z28 :: z29 :: z30 :: z31 :: z32 :: z33 :: z34 :: z35 :: z36 :: z37 :: z38 :: z39 :: z40 :: z41 :: z42 :: z43 :: z44 :: z45 :: z46 :: z47 :: z48 :: z49 :: z50 :: z51 :: z52 :: z53 :: z54 :: z55 :: z56 :: z57 :: z58 :: z59 :: z60 :: z61 :: z62 :: z63 :: z64 :: z65 :: z66 :: z67 :: z68 :: z69 :: z70 :: z71 :: z72 :: z73 :: z74 :: z75 :: z76 :: z77 :: z78 :: z79 :: z80 :: z81 :: z82 :: z83 :: z84 :: z85 :: z86 :: z87 :: z88 :: z89 :: z90 :: z91 :: z92 :: z93 :: z94 :: z95 :: z96 :: z97 :: z98 :: z99 :: z100 :: z101 :: z102 :: z103 :: z104 :: z105 :: z106 :: z107 :: z108 :: z109 :: z110 :: z111 :: z112 :: z113 :: z114 :: z115 :: z116 :: z117 :: z118 :: z119 :: z120 :: z121 :: z122 :: z123 :: z124 :: z125 :: z126 :: z127 :: z128 :: z129 :: z130 :: z131 :: z132 :: z133 :: z134 :: z135 :: z136 :: z137 :: z138 :: z139 :: z140 :: z141 :: z142 :: z143 :: z144 :: z145 :: z146 :: z147 :: z148 :: z149 :: z150 :: z151 :: z152 :: z153 :: z154 :: z155 :: z156 :: z157 :: z158 :: z159 :: z160 :: z161 :: z162 :: z163 :: z164 :: z165 :: z166 :: z167 :: z168 :: z169 :: z170 :: z171 :: z172 :: z173 :: z174 :: z175 :: z176 :: z177 :: z178 :: z179 :: z180 :: z181 :: z182 :: z183 :: z184 :: z185 :: z186 :: z187 :: z188 :: z189 :: z190 :: z191 :: z192 :: z193 :: z194 :: z195 :: z196 :: z197 :: z198 :: z199 :: z200 :: z201 :: z202 :: z203 :: z204 :: z205 :: z206 :: z207 :: z208 :: z209 :: z210 :: z211 :: z212 :: z213 :: z214 :: z215 :: z216 :: z217 :: z218 :: z219 :: z220 :: z221 :: z222 :: z223 :: z224 :: z225 :: z226 :: z227 :: z228 :: z229 :: z230 :: z231 :: z232 :: z233 :: z234 :: z235 :: z236 :: z237 :: z238 :: z239 :: z240 :: z241 :: z242 :: z243 :: z244 :: z245 :: z246 :: z247 :: z248 :: z249 :: z250 :: z251 :: z252 :: z253 :: z254 :: z255 :: z256 :: z257 :: z258 :: z259 :: z260 :: z261 :: z262 :: z263 :: z264 :: z265 :: z266 :: z267 :: z268 :: z269 :: z270 :: z271 :: z272 :: z273 :: z274 :: z275 :: z276 :: z277 :: z278 :: z279 :: z280 :: z281 :: z282 :: z283 :: z284 :: z285 :: z286 :: z287 :: z288 :: z289 :: z290 :: z291 :: z292 :: z293 :: z294 :: z295 :: z296 :: z297 :: z298 :: z299 :: z300 :: z301 :: z302 :: z303 :: z304 :: z305 :: z306 :: z307 :: z308 :: z309 :: z310 :: z311 :: z312 :: z313 :: z314 :: z315 :: z316 :: z317 :: []).toArray, []⟩ wc := by
  have hokb := (ok_iff b).1 HOK.out
  obtain ⟨⟨b1, b2, b3⟩, ⟨b4, b5, b6⟩, _, _, _, _⟩ := hokb
  obtain ⟨hn1, hn2, hn3, hn4, hn5⟩ := hne
  have HF := Lib.hid hfar
  clear hfar
  have q1 : IntKind.i64.wrap (-b.e.lo) = -b.e.lo := IntWalk.i64_in _ (by omega)
  have q2 : IntKind.i64.wrap (-b.e.hi) = -b.e.hi := IntWalk.i64_in _ (by omega)
  have q3 : IntKind.i64.wrap (-b.n.lo) = -b.n.lo := IntWalk.i64_in _ (by omega)
  have q4 : IntKind.i64.wrap (-b.n.hi) = -b.n.hi := IntWalk.i64_in _ (by omega)
  have k0 : ∀ W' : World, (W'.heap[w.heap.size]? = some (.cells #[.int .i64 b.e.lo, .int .i64 b.e.hi, .int .i64 b.n.lo, .int .i64 b.n.hi, .slice fa b.fs.length fc, .slice sa b.ss.length sc] 26) ∧ Below w.heap.size w W') → W'.cell? ⟨w.heap.size, 0, none⟩ = some (.int .i64 b.e.lo) := fun W' h => cell_block h.1 0
  have k1 : ∀ W' : World, (W'.heap[w.heap.size]? = some (.cells #[.int .i64 b.e.lo, .int .i64 b.e.hi, .int .i64 b.n.lo, .int .i64 b.n.hi, .slice fa b.fs.length fc, .slice sa b.ss.length sc] 26) ∧ Below w.heap.size w W') → W'.cell? ⟨w.heap.size, 1, none⟩ = some (.int .i64 b.e.hi) := fun W' h => cell_block h.1 1
  have k2 : ∀ W' : World, (W'.heap[w.heap.size]? = some (.cells #[.int .i64 b.e.lo, .int .i64 b.e.hi, .int .i64 b.n.lo, .int .i64 b.n.hi, .slice fa b.fs.length fc, .slice sa b.ss.length sc] 26) ∧ Below w.heap.size w W') → W'.cell? ⟨w.heap.size, 2, none⟩ = some (.int .i64 b.n.lo) := fun W' h => cell_block h.1 2
  have k3 : ∀ W' : World, (W'.heap[w.heap.size]? = some (.cells #[.int .i64 b.e.lo, .int .i64 b.e.hi, .int .i64 b.n.lo, .int .i64 b.n.hi, .slice fa b.fs.length fc, .slice sa b.ss.length sc] 26) ∧ Below w.heap.size w W') → W'.cell? ⟨w.heap.size, 3, none⟩ = some (.int .i64 b.n.hi) := fun W' h => cell_block h.1 3
  have k4 : ∀ W' : World, (W'.heap[w.heap.size]? = some (.cells #[.int .i64 b.e.lo, .int .i64 b.e.hi, .int .i64 b.n.lo, .int .i64 b.n.hi, .slice fa b.fs.length fc, .slice sa b.ss.length sc] 26) ∧ Below w.heap.size w W') → W'.cell? ⟨w.heap.size, 4, none⟩ = some (.slice fa b.fs.length fc) := fun W' h => cell_block h.1 4
  have k5 : ∀ W' : World, (W'.heap[w.heap.size]? = some (.cells #[.int .i64 b.e.lo, .int .i64 b.e.hi, .int .i64 b.n.lo, .int .i64 b.n.hi, .slice fa b.fs.length fc, .slice sa b.ss.length sc] 26) ∧ Below w.heap.size w W') → W'.cell? ⟨w.heap.size, 5, none⟩ = some (.slice sa b.ss.length sc) := fun W' h => cell_block h.1 5
  conv => arg 2; whnf
  conv at hK => enter [a, w', 1, 2]; whnf
  refine (wpIn_wide (n := 1)).1 ?_
  refine wpIn_region_Wn (S := fun W' => W'.heap[w.heap.size]? = some (.cells #[.int .i64 b.e.lo, .int .i64 b.e.hi, .int .i64 b.n.lo, .int .i64 b.n.hi, .slice fa b.fs.length fc, .slice sa b.ss.length sc] 26) ∧ Below w.heap.size w W') 22 (by kernel_rfl) (by kernel_rfl) ⟨gc, hbw.drew⟩ (fun hHeld => ?_)
  refine wpAnyW_takeD 0 47 (v := ?_) (by kernel_rfl) (by kernel_rfl) (by kernel_rfl) (by kernel_rfl) (fun _ _ _ h => h) ?_ (by assumption) ?_
  rotate_left
  · intro oi hoi w hSw; (try dsimp only at hSw); simp only [List.getElem?_toArray, List.getElem?_cons_zero, List.getElem?_cons_succ, Option.some.injEq] at hoi; subst hoi; go_simp; try with_reducible rfl
  simp only [Act.put, List.setIfInBounds_toArray, List.set_cons_zero, List.set_cons_succ]
  refine wpAnyW_takeD 1 48 (v := ?_) (by kernel_rfl) (by kernel_rfl) (by kernel_rfl) (by kernel_rfl) (fun _ _ _ h => h) ?_ (by assumption) ?_
  rotate_left
  · intro oi hoi w hSw; (try dsimp only at hSw); simp only [List.getElem?_toArray, List.getElem?_cons_zero, List.getElem?_cons_succ, Option.some.injEq] at hoi; subst hoi; go_simp; try with_reducible rfl
  simp only [Act.put, List.setIfInBounds_toArray, List.set_cons_zero, List.set_cons_succ]
  refine wpAnyW_takeD 2 49 (v := ?_) (by kernel_rfl) (by kernel_rfl) (by kernel_rfl) (by kernel_rfl) (fun _ _ _ h => h) ?_ (by assumption) ?_
  rotate_left
  · intro oi hoi w hSw; (try dsimp only at hSw); simp only [List.getElem?_toArray, List.getElem?_cons_zero, List.getElem?_cons_succ, Option.some.injEq] at hoi; subst hoi; go_simp; try with_reducible rfl
  simp only [Act.put, List.setIfInBounds_toArray, List.set_cons_zero, List.set_cons_succ]
  refine wpAnyW_takeD 3 50 (v := ?_) (by kernel_rfl) (by kernel_rfl) (by kernel_rfl) (by kernel_rfl) (fun _ _ _ h => h) ?_ (by assumption) ?_
  rotate_left
  · intro oi hoi w hSw; (try dsimp only at hSw); simp only [List.getElem?_toArray, List.getElem?_cons_zero, List.getElem?_cons_succ, Option.some.injEq] at hoi; subst hoi; go_simp; try with_reducible rfl
  simp only [Act.put, List.setIfInBounds_toArray, List.set_cons_zero, List.set_cons_succ]
  refine wpAnyW_takeD 4 51 (v := ?_) (by kernel_rfl) (by kernel_rfl) (by kernel_rfl) (by kernel_rfl) (fun _ _ _ h => h) ?_ (by assumption) ?_
  rotate_left
  · intro oi hoi w hSw; (try dsimp only at hSw); simp only [List.getElem?_toArray, List.getElem?_cons_zero, List.getElem?_cons_succ, Option.some.injEq] at hoi; subst hoi; go_simp; try with_reducible rfl
  simp only [Act.put, List.setIfInBounds_toArray, List.set_cons_zero, List.set_cons_succ]
  refine wpAnyW_takeD 5 52 (v := ?_) (by kernel_rfl) (by kernel_rfl) (by kernel_rfl) (by kernel_rfl) (fun _ _ _ h => h) ?_ (by assumption) ?_
  rotate_left
  · intro oi hoi w hSw; (try dsimp only at hSw); simp only [List.getElem?_toArray, List.getElem?_cons_zero, List.getElem?_cons_succ, Option.some.injEq] at hoi; subst hoi; go_simp; try with_reducible rfl
  simp only [Act.put, List.setIfInBounds_toArray, List.set_cons_zero, List.set_cons_succ]
  refine wpAnyW_takeD 6 53 (v := ?_) (by kernel_rfl) (by kernel_rfl) (by kernel_rfl) (by kernel_rfl) (fun _ _ _ h => h) ?_ (by assumption) ?_
  rotate_left
  · intro oi hoi w hSw; (try dsimp only at hSw); simp only [List.getElem?_toArray, List.getElem?_cons_zero, List.getElem?_cons_succ, Option.some.injEq] at hoi; subst hoi; go_simp; try with_reducible rfl
  simp only [Act.put, List.setIfInBounds_toArray, List.set_cons_zero, List.set_cons_succ]
  refine wpAnyW_takeD 7 54 (v := ?_) (by kernel_rfl) (by kernel_rfl) (by kernel_rfl) (by kernel_rfl) (fun _ _ _ h => h) ?_ (by assumption) ?_
  rotate_left
  · intro oi hoi w hSw; (try dsimp only at hSw); simp only [List.getElem?_toArray, List.getElem?_cons_zero, List.getElem?_cons_succ, Option.some.injEq] at hoi; subst hoi; go_simp; try with_reducible rfl
  simp only [Act.put, List.setIfInBounds_toArray, List.set_cons_zero, List.set_cons_succ]
  refine wpAnyW_takeD 9 56 (v := ?_) (by kernel_rfl) (by kernel_rfl) (by kernel_rfl) (by kernel_rfl) (fun _ _ _ h => h) ?_ (by assumption) ?_
  rotate_left
  · intro oi hoi w hSw; (try dsimp only at hSw); simp only [List.getElem?_toArray, List.getElem?_cons_zero, List.getElem?_cons_succ, Option.some.injEq] at hoi; subst hoi; go_simp; try with_reducible rfl
  simp only [Act.put, List.setIfInBounds_toArray, List.set_cons_zero, List.set_cons_succ]
  refine wpAnyW_takeD 10 57 (v := ?_) (by kernel_rfl) (by kernel_rfl) (by kernel_rfl) (by kernel_rfl) (fun _ _ _ h => h) ?_ (by assumption) ?_
  rotate_left
  · intro oi hoi w hSw; (try dsimp only at hSw); simp only [List.getElem?_toArray, List.getElem?_cons_zero, List.getElem?_cons_succ, Option.some.injEq] at hoi; subst hoi; go_simp; try with_reducible rfl
  simp only [Act.put, List.setIfInBounds_toArray, List.set_cons_zero, List.set_cons_succ]
  refine wpAnyW_takeD 11 58 (v := ?_) (by kernel_rfl) (by kernel_rfl) (by kernel_rfl) (by kernel_rfl) (fun _ _ _ h => h) ?_ (by assumption) ?_
  rotate_left
  · intro oi hoi w hSw; (try dsimp only at hSw); simp only [List.getElem?_toArray, List.getElem?_cons_zero, List.getElem?_cons_succ, Option.some.injEq] at hoi; subst hoi; go_simp; try with_reducible rfl
  simp only [Act.put, List.setIfInBounds_toArray, List.set_cons_zero, List.set_cons_succ]
  refine wpAnyW_takeD 12 59 (v := ?_) (by kernel_rfl) (by kernel_rfl) (by kernel_rfl) (by kernel_rfl) (fun _ _ _ h => h) ?_ (by assumption) ?_
  rotate_left
  · intro oi hoi w hSw; (try dsimp only at hSw); simp only [List.getElem?_toArray, List.getElem?_cons_zero, List.getElem?_cons_succ, Option.some.injEq] at hoi; subst hoi; go_simp; try with_reducible rfl
  simp only [Act.put, List.setIfInBounds_toArray, List.set_cons_zero, List.set_cons_succ]
  refine wpAnyW_takeD 13 60 (v := ?_) (by kernel_rfl) (by kernel_rfl) (by kernel_rfl) (by kernel_rfl) (fun _ _ _ h => h) ?_ (by assumption) ?_
  rotate_left
  · intro oi hoi w hSw; (try dsimp only at hSw); simp only [List.getElem?_toArray, List.getElem?_cons_zero, List.getElem?_cons_succ, Option.some.injEq] at hoi; subst hoi; go_simp; try with_reducible rfl
  simp only [Act.put, List.setIfInBounds_toArray, List.set_cons_zero, List.set_cons_succ]
  refine wpAnyW_takeD 14 61 (v := ?_) (by kernel_rfl) (by kernel_rfl) (by kernel_rfl) (by kernel_rfl) (fun _ _ _ h => h) ?_ (by assumption) ?_
  rotate_left
  · intro oi hoi w hSw; (try dsimp only at hSw); simp only [List.getElem?_toArray, List.getElem?_cons_zero, List.getElem?_cons_succ, Option.some.injEq] at hoi; subst hoi; go_simp; try with_reducible rfl
  simp only [Act.put, List.setIfInBounds_toArray, List.set_cons_zero, List.set_cons_succ]
  refine wpAnyW_takeD 15 62 (v := ?_) (by kernel_rfl) (by kernel_rfl) (by kernel_rfl) (by kernel_rfl) (fun _ _ _ h => h) ?_ (by assumption) ?_
  rotate_left
  · intro oi hoi w hSw; (try dsimp only at hSw); simp only [List.getElem?_toArray, List.getElem?_cons_zero, List.getElem?_cons_succ, Option.some.injEq] at hoi; subst hoi; go_simp; try with_reducible rfl
  simp only [Act.put, List.setIfInBounds_toArray, List.set_cons_zero, List.set_cons_succ]
  refine wpAnyW_takeD 16 63 (v := ?_) (by kernel_rfl) (by kernel_rfl) (by kernel_rfl) (by kernel_rfl) (fun _ _ _ h => h) ?_ (by assumption) ?_
  rotate_left
  · intro oi hoi w hSw; (try dsimp only at hSw); simp only [List.getElem?_toArray, List.getElem?_cons_zero, List.getElem?_cons_succ, Option.some.injEq] at hoi; subst hoi; go_simp; try with_reducible rfl
  simp only [Act.put, List.setIfInBounds_toArray, List.set_cons_zero, List.set_cons_succ]
  refine wpAnyW_one 8 (by kernel_rfl) (by kernel_rfl) ?_
  intro o ho K hK
  simp only [List.getElem?_toArray, List.getElem?_cons_zero, List.getElem?_cons_succ, Option.some.injEq] at ho
  subst ho
  go_simp
  refine ⟨trivial, CallsIn.mono (callsIn_wide.2 (lspan_any _ _ _)) ?_⟩
  rintro e w1 ⟨rfl, hb1⟩
  have hb1' := (below_drew wc).trans hb1
  have g1 := obj_later hb1' gc
  have t1 := obj_later hb1' tc
  have m1 := obj_later hb1' mc
  have hbw1 := hbw.trans (hb1'.mono hbw.size)
  clear hb1 hb1' gc tc mc hbw hHeld
  have hH := And.intro g1 hbw1
  refine hK _ _ hH (fun _ => ?_)
  clear hK K
  try simp only [Act.put, List.setIfInBounds_toArray, List.set_cons_zero, List.set_cons_succ]
  refine wpAnyW_takeD 18 65 (v := ?_) (by kernel_rfl) (by kernel_rfl) (by kernel_rfl) (by kernel_rfl) (fun _ _ _ h => h) ?_ (by assumption) ?_
  rotate_left
  · intro oi hoi w hSw; (try dsimp only at hSw); simp only [List.getElem?_toArray, List.getElem?_cons_zero, List.getElem?_cons_succ, Option.some.injEq] at hoi; subst hoi; go_simp; try with_reducible rfl
  simp only [Act.put, List.setIfInBounds_toArray, List.set_cons_zero, List.set_cons_succ]
  refine wpAnyW_one 17 (by kernel_rfl) (by kernel_rfl) ?_
  intro o ho K hK
  simp only [List.getElem?_toArray, List.getElem?_cons_zero, List.getElem?_cons_succ, Option.some.injEq] at ho
  subst ho
  go_simp
  refine ⟨trivial, CallsIn.mono (callsIn_wide.2 (lspan_any _ _ _)) ?_⟩
  rintro e w2 ⟨rfl, hb2⟩
  have g2 := obj_later hb2 g1
  have t2 := obj_later hb2 t1
  have m2 := obj_later hb2 m1
  have hbw2 := hbw1.trans (hb2.mono hbw1.size)
  clear hb2 g1 t1 m1 hbw1 hH
  have hH := And.intro g2 hbw2
  refine hK _ _ hH (fun _ => ?_)
  clear hK K
  try simp only [Act.put, List.setIfInBounds_toArray, List.set_cons_zero, List.set_cons_succ]
  have f0 := frozen_block t2 0
  have f1 := frozen_block t2 1
  have f2 := frozen_block t2 2
  have f3 := frozen_block t2 3
  have d0 := cell_block t2 0
  have d1 := cell_block t2 1
  have d2 := cell_block t2 2
  have d3 := cell_block t2 3
  simp only [List.getElem?_toArray, List.getElem?_cons_zero, List.getElem?_cons_succ] at d0 d1 d2 d3
  refine wpAnyW_one 19 (by kernel_rfl) (by kernel_rfl) ?_
  intro o ho K hK
  simp only [List.getElem?_toArray, List.getElem?_cons_zero, List.getElem?_cons_succ, Option.some.injEq] at ho
  subst ho
  go_simp
  have g3 := (Below.heap_setCell ((w2.setCell ⟨p5, 0, none⟩ (.int .i64 (-b.e.hi)))) ⟨p5, 1, none⟩ (.int .i64 (-b.e.lo)) w.heap.size hn3).trans ((Below.heap_setCell w2 ⟨p5, 0, none⟩ (.int .i64 (-b.e.hi)) w.heap.size hn3).trans g2)
  have m3 := (Below.heap_setCell ((w2.setCell ⟨p5, 0, none⟩ (.int .i64 (-b.e.hi)))) ⟨p5, 1, none⟩ (.int .i64 (-b.e.lo)) p6 (Ne.symm hn2)).trans ((Below.heap_setCell w2 ⟨p5, 0, none⟩ (.int .i64 (-b.e.hi)) p6 (Ne.symm hn2)).trans m2)
  have t3 := heap_setCell_same _ _ 1 _ _ (.int .i64 (-b.e.lo)) (heap_setCell_same _ _ 0 _ _ (.int .i64 (-b.e.hi)) t2)
  have hbw3 := (hbw2.setCell (show w.heap.size ≤ (⟨p5, 0, none⟩ : Addr).block from hn4) (.int .i64 (-b.e.hi))).setCell (show w.heap.size ≤ (⟨p5, 1, none⟩ : Addr).block from hn4) (.int .i64 (-b.e.lo))
  generalize (w2.setCell ⟨p5, 0, none⟩ (.int .i64 (-b.e.hi))).setCell ⟨p5, 1, none⟩ (.int .i64 (-b.e.lo)) = w3 at g3 m3 t3 hbw3 ⊢
  replace t3 : w3.heap[p5]? = some (.cells #[.int .i64 (-b.e.hi), .int .i64 (-b.e.lo), .int .i64 b.n.lo, .int .i64 b.n.hi, .slice fa b.fs.length fc, .slice sa b.ss.length sc] 26) := t3
  clear g2 m2 t2 hbw2 hH f0 f1 f2 f3 d0 d1 d2 d3
  have hH := And.intro g3 hbw3
  refine hK _ _ hH (fun _ => ?_)
  clear hK K
  try simp only [Act.put, List.setIfInBounds_toArray, List.set_cons_zero, List.set_cons_succ]
  refine wpAnyW_takeD 20 66 (v := ?_) (by kernel_rfl) (by kernel_rfl) (by kernel_rfl) (by kernel_rfl) (fun _ _ _ h => h) ?_ (by assumption) ?_
  rotate_left
  · intro oi hoi w hSw; (try dsimp only at hSw); simp only [List.getElem?_toArray, List.getElem?_cons_zero, List.getElem?_cons_succ, Option.some.injEq] at hoi; subst hoi; go_simp; try with_reducible rfl
  simp only [Act.put, List.setIfInBounds_toArray, List.set_cons_zero, List.set_cons_succ]
  have f2 := frozen_block t3 2
  have f3 := frozen_block t3 3
  have d0 := cell_block t3 0
  have d1 := cell_block t3 1
  have d2 := cell_block t3 2
  have d3 := cell_block t3 3
  simp only [List.getElem?_toArray, List.getElem?_cons_zero, List.getElem?_cons_succ] at d0 d1 d2 d3
  refine wpAnyW_one 21 (by kernel_rfl) (by kernel_rfl) ?_
  intro o ho K hK
  simp only [List.getElem?_toArray, List.getElem?_cons_zero, List.getElem?_cons_succ, Option.some.injEq] at ho
  subst ho
  go_simp
  have g4 := (Below.heap_setCell ((w3.setCell ⟨p5, 2, none⟩ (.int .i64 (-b.n.hi)))) ⟨p5, 3, none⟩ (.int .i64 (-b.n.lo)) w.heap.size hn3).trans ((Below.heap_setCell w3 ⟨p5, 2, none⟩ (.int .i64 (-b.n.hi)) w.heap.size hn3).trans g3)
  have m4 := (Below.heap_setCell ((w3.setCell ⟨p5, 2, none⟩ (.int .i64 (-b.n.hi)))) ⟨p5, 3, none⟩ (.int .i64 (-b.n.lo)) p6 (Ne.symm hn2)).trans ((Below.heap_setCell w3 ⟨p5, 2, none⟩ (.int .i64 (-b.n.hi)) p6 (Ne.symm hn2)).trans m3)
  have t4 := heap_setCell_same _ _ 3 _ _ (.int .i64 (-b.n.lo)) (heap_setCell_same _ _ 2 _ _ (.int .i64 (-b.n.hi)) t3)
  have hbw4 := (hbw3.setCell (show w.heap.size ≤ (⟨p5, 2, none⟩ : Addr).block from hn4) (.int .i64 (-b.n.hi))).setCell (show w.heap.size ≤ (⟨p5, 3, none⟩ : Addr).block from hn4) (.int .i64 (-b.n.lo))
  generalize (w3.setCell ⟨p5, 2, none⟩ (.int .i64 (-b.n.hi))).setCell ⟨p5, 3, none⟩ (.int .i64 (-b.n.lo)) = w4 at g4 m4 t4 hbw4 ⊢
  replace t4 : w4.heap[p5]? = some (.cells #[.int .i64 (-b.e.hi), .int .i64 (-b.e.lo), .int .i64 (-b.n.hi), .int .i64 (-b.n.lo), .slice fa b.fs.length fc, .slice sa b.ss.length sc] 26) := t4
  clear g3 m3 t3 hbw3 hH f2 f3 d0 d1 d2 d3
  have hH := And.intro g4 hbw4
  refine hK _ _ hH (fun _ => ?_)
  clear hK K
  try simp only [Act.put, List.setIfInBounds_toArray, List.set_cons_zero, List.set_cons_succ]
  refine wpAnyW_done (by kernel_rfl) ?_ _
  dsimp only [onNormal]
  clear q1 q2 q3 q4 k0 k1 k2 k3 hH
  go_upto_region 5 with fail
  refine (wpIn_wide (n := 1)).1 ?_
  refine wpIn_region_Wn (S := fun W' => W'.heap[w.heap.size]? = some (.cells #[.int .i64 b.e.lo, .int .i64 b.e.hi, .int .i64 b.n.lo, .int .i64 b.n.hi, .slice fa b.fs.length fc, .slice sa b.ss.length sc] 26) ∧ Below w.heap.size w W') 8 (by kernel_rfl) (by kernel_rfl) ⟨g4, hbw4.drew⟩ (fun hHeld => ?_)
  refine wpAnyW_takeD 0 67 (v := ?_) (by kernel_rfl) (by kernel_rfl) (by kernel_rfl) (by kernel_rfl) (fun _ _ _ h => h) ?_ (by assumption) ?_
  rotate_left
  · intro oi hoi w hSw; (try dsimp only at hSw); simp only [List.getElem?_toArray, List.getElem?_cons_zero, List.getElem?_cons_succ, Option.some.injEq] at hoi; subst hoi; go_simp; try with_reducible rfl
  simp only [Act.put, List.setIfInBounds_toArray, List.set_cons_zero, List.set_cons_succ]
  refine wpAnyW_takeD 1 68 (v := ?_) (by kernel_rfl) (by kernel_rfl) (by kernel_rfl) (by kernel_rfl) (fun _ _ _ h => h) ?_ (by assumption) ?_
  rotate_left
  · intro oi hoi w hSw; (try dsimp only at hSw); simp only [List.getElem?_toArray, List.getElem?_cons_zero, List.getElem?_cons_succ, Option.some.injEq] at hoi; subst hoi; go_simp; try with_reducible rfl
  simp only [Act.put, List.setIfInBounds_toArray, List.set_cons_zero, List.set_cons_succ]
  refine wpAnyW_takeD 2 69 (v := ?_) (by kernel_rfl) (by kernel_rfl) (by kernel_rfl) (by kernel_rfl) (fun _ _ _ h => h) ?_ (by assumption) ?_
  rotate_left
  · intro oi hoi w hSw; (try dsimp only at hSw); simp only [List.getElem?_toArray, List.getElem?_cons_zero, List.getElem?_cons_succ, Option.some.injEq] at hoi; subst hoi; go_simp; try with_reducible rfl
  simp only [Act.put, List.setIfInBounds_toArray, List.set_cons_zero, List.set_cons_succ]
  refine wpAnyW_takeD 3 70 (v := ?_) (by kernel_rfl) (by kernel_rfl) (by kernel_rfl) (by kernel_rfl) (fun _ _ _ h => h) ?_ (by assumption) ?_
  rotate_left
  · intro oi hoi w hSw; (try dsimp only at hSw); simp only [List.getElem?_toArray, List.getElem?_cons_zero, List.getElem?_cons_succ, Option.some.injEq] at hoi; subst hoi; go_simp; try with_reducible rfl
  simp only [Act.put, List.setIfInBounds_toArray, List.set_cons_zero, List.set_cons_succ]
  refine wpAnyW_takeD 4 71 (v := ?_) (by kernel_rfl) (by kernel_rfl) (by kernel_rfl) (by kernel_rfl) (fun _ _ _ h => h) ?_ (by assumption) ?_
  rotate_left
  · intro oi hoi w hSw; (try dsimp only at hSw); simp only [List.getElem?_toArray, List.getElem?_cons_zero, List.getElem?_cons_succ, Option.some.injEq] at hoi; subst hoi; go_simp; try with_reducible rfl
  simp only [Act.put, List.setIfInBounds_toArray, List.set_cons_zero, List.set_cons_succ]
  have t5 := obj_later (below_drew w4) t4
  have m5 := obj_later (below_drew w4) m4
  obtain ⟨g5, hbw5⟩ := hHeld
  generalize w4.drew = w5 at g5 t5 m5 hbw5 ⊢
  clear g4 t4 m4 hbw4
  have f4 := frozen_block t5 4
  have d4 := cell_block t5 4
  simp only [List.getElem?_toArray, List.getElem?_cons_zero, List.getElem?_cons_succ] at d4
  refine wpAnyW_one 5 (by kernel_rfl) (by kernel_rfl) ?_
  intro o ho K hK
  simp only [List.getElem?_toArray, List.getElem?_cons_zero, List.getElem?_cons_succ, Option.some.injEq] at ho
  subst ho
  go_simp
  have g6 := (Below.heap_setCell w5 ⟨p5, 4, none⟩ (.slice sa b.ss.length sc) w.heap.size hn3).trans g5
  have m6 := (Below.heap_setCell w5 ⟨p5, 4, none⟩ (.slice sa b.ss.length sc) p6 (Ne.symm hn2)).trans m5
  have t6 := heap_setCell_same _ _ 4 _ _ (.slice sa b.ss.length sc) t5
  have hbw6 := hbw5.setCell (show w.heap.size ≤ (⟨p5, 4, none⟩ : Addr).block from hn4) (.slice sa b.ss.length sc)
  generalize w5.setCell ⟨p5, 4, none⟩ (.slice sa b.ss.length sc) = w6 at g6 m6 t6 hbw6 ⊢
  replace t6 : w6.heap[p5]? = some (.cells #[.int .i64 (-b.e.hi), .int .i64 (-b.e.lo), .int .i64 (-b.n.hi), .int .i64 (-b.n.lo), .slice sa b.ss.length sc, .slice sa b.ss.length sc] 26) := t6
  clear g5 m5 t5 hbw5 f4 d4
  have hH := And.intro g6 hbw6
  refine hK _ _ hH (fun _ => ?_)
  clear hK K hH
  try simp only [Act.put, List.setIfInBounds_toArray, List.set_cons_zero, List.set_cons_succ]
  have hH := And.intro g6 hbw6
  refine wpAnyW_takeD 6 72 (v := ?_) (by kernel_rfl) (by kernel_rfl) (by kernel_rfl) (by kernel_rfl) (fun _ _ _ h => h) ?_ (by assumption) ?_
  rotate_left
  · intro oi hoi w hSw; (try dsimp only at hSw); simp only [List.getElem?_toArray, List.getElem?_cons_zero, List.getElem?_cons_succ, Option.some.injEq] at hoi; subst hoi; go_simp; try with_reducible rfl
  simp only [Act.put, List.setIfInBounds_toArray, List.set_cons_zero, List.set_cons_succ]
  have f5 := frozen_block t6 5
  have d5 := cell_block t6 5
  simp only [List.getElem?_toArray, List.getElem?_cons_zero, List.getElem?_cons_succ] at d5
  clear hH
  refine wpAnyW_one 7 (by kernel_rfl) (by kernel_rfl) ?_
  intro o ho K hK
  simp only [List.getElem?_toArray, List.getElem?_cons_zero, List.getElem?_cons_succ, Option.some.injEq] at ho
  subst ho
  go_simp
  have g7 := (Below.heap_setCell w6 ⟨p5, 5, none⟩ (.slice fa b.fs.length fc) w.heap.size hn3).trans g6
  have m7 := (Below.heap_setCell w6 ⟨p5, 5, none⟩ (.slice fa b.fs.length fc) p6 (Ne.symm hn2)).trans m6
  have t7 := heap_setCell_same _ _ 5 _ _ (.slice fa b.fs.length fc) t6
  have hbw7 := hbw6.setCell (show w.heap.size ≤ (⟨p5, 5, none⟩ : Addr).block from hn4) (.slice fa b.fs.length fc)
  generalize w6.setCell ⟨p5, 5, none⟩ (.slice fa b.fs.length fc) = w7 at g7 m7 t7 hbw7 ⊢
  replace t7 : w7.heap[p5]? = some (.cells #[.int .i64 (-b.e.hi), .int .i64 (-b.e.lo), .int .i64 (-b.n.hi), .int .i64 (-b.n.lo), .slice sa b.ss.length sc, .slice fa b.fs.length fc] 26) := t7
  clear g6 m6 t6 hbw6 f5 d5
  have hH := And.intro g7 hbw7
  refine hK _ _ hH (fun _ => ?_)
  clear hK K hH
  try simp only [Act.put, List.setIfInBounds_toArray, List.set_cons_zero, List.set_cons_succ]
  refine wpAnyW_done (by kernel_rfl) ?_ _
  dsimp only [onNormal]
  clear k4 k5
  go_upto_region 6 with fail
  refine lawTurned_e b fa sa fc sc p5 p6 far w _ HB HOK HF.out ⟨hn1, hn2, hn4, hn5⟩ g7 t7 m7 hbw7 _ ?_
  assumption
end Go.Proofs.Ytjkegmjjhdmkiaa
