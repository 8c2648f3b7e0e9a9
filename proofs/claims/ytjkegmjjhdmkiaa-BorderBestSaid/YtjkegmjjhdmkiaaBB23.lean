/- The law BorderBest, walked: its last part. The law BorderBest, walked: another joining. The law BorderBest, walked. -/
import Derived.Test.YtjkegmjjhdmkiaaBB22
import Derived.Deep.OwnRows
import Derived.BigQuiet
import Derived.BigRegion
import Derived.IntWalk
namespace Go.Proofs.Ytjkegmjjhdmkiaa
open Go.RowKit Go.Shelf
set_option maxHeartbeats 25600000
set_option maxRecDepth 100000
set_option linter.unusedSimpArgs false

/-- A slice at a reads as these bytes. -/
def U8V (w : World) (a : Option Addr) (xs : List Nat) : Prop := ∀ k (h : k < xs.length), ∃ q o, a = some ⟨q, o, none⟩ ∧ q < w.heap.size ∧ w.cell? ⟨q, o + k, none⟩ = some (.int .u8 xs[k])
theorem U8V.below {B : Nat} {w w' : World} {a : Option Addr} {xs : List Nat} (h : U8V w a xs) (hb : Below B w w') (hB : w.heap.size ≤ B) : U8V w' a xs := fun k hk => by
  obtain ⟨q, o, h1, h2, h3⟩ := h k hk
  exact ⟨q, o, h1, Nat.lt_of_lt_of_le h2 hb.size, (cell_same (hb.block q (by omega))).trans h3⟩

theorem IntsAt.made (w : World) (n : Nat) (T : TypeId) : IntsAt (w.alloc (.cells (madeCells #[.int .i64 0] n) T)) w.heap.size (List.replicate n 0) :=
  ⟨_, _, obj_new _ _, fun i hi => by
    rw [← Array.getElem?_toList, toList_madeCells_one]
    simp only [List.length_replicate] at hi
    simp [hi]⟩
theorem IntsAt.put {w : World} {g : Nat} {xs : List Int} (h : IntsAt w g xs) (k : Nat) (v : Int) : IntsAt (w.setCell ⟨g, k, none⟩ (.int .i64 v)) g (xs.set k v) := by
  obtain ⟨cs, T, h1, h2⟩ := h
  refine ⟨_, T, heap_setCell_same _ _ _ _ _ _ h1, fun i hi => ?_⟩
  rw [List.length_set] at hi
  have := h2 i hi
  rw [Array.getElem?_setIfInBounds, List.getElem_set]
  split
  · rw [if_pos (Array.getElem?_eq_some_iff.1 (by subst_vars; exact this)).1]
  · exact this
theorem IntsAt.fz {w : World} {g : Nat} {xs : List Int} (h : IntsAt w g xs) (k : Nat) : w.frozen? ⟨g, k, none⟩ = false := by
  obtain ⟨cs, T, h1, _⟩ := h
  exact frozen_block h1 k

/-- What follows the first region in which the code holds this test. -/
def tailAt (p : Code → Bool) : Code → Option Code
  | .seq a b => if p a then some (.seq a b) else tailAt p b
  | _ => none
def isIf (n : Nat) : Code → Bool
  | .seq (.region m _ _) _ => m == n
  | _ => false

theorem lawBest_tail (b : Bo) (fa sa : Option Addr) (fc sc g cap G : Nat) (w w3 wc : World) (y : Joined) (sx sy : Sp) (u v : Int) (xs : List Int) (N : Nat) {z0 z1 z2 z3 z5 z6 z7 z12 z15 z20 z23 z24 z25 z26 z27 z28 z29 z30 z31 z32 z33 z34 z35 z36 z37 z38 z39 z40 z41 z42 z43 z44 z45 z46 z47 z48 z49 z50 z51 z52 z53 z54 z55 z56 z57 z58 z59 z60 z61 z62 z63 z64 z65 z66 z67 z68 z69 z70 z71 z72 z73 z74 z75 z76 z77 z78 z79 z80 z81 z82 z83 z84 z85 z86 z87 z88 z89 z90 z91 z92 z93 z94 z95 z96 z97 z98 z99 z100 z101 z102 z103 z104 z105 z106 z107 z108 z109 z110 z111 z112 z113 z114 z115 z116 z117 z118 z119 z120 z121 z122 z123 z124 z125 z126 z127 z128 z129 z130 z131 z132 z133 z134 z135 z136 z137 z138 z139 z140 z141 z142 z143 z144 z145 z146 z147 z148 z149 z150 z151 z152 z153 z154 z155 z156 z157 z158 z159 z160 z161 z162 z163 z164 z165 z166 z167 z168 z169 z170 z171 z172 z173 z174 z175 z176 z177 z178 z179 z180 z181 z182 z183 z184 z185 z186 z187 z188 z189 z190 z191 z192 z193 z194 z195 z196 z197 z198 z199 z200 z201 z202 z203 z204 z205 z206 z207 z208 z209 z210 z211 z212 z213 z214 z215 z216 z217 z218 z219 z220 z221 z222 z223 z224 z225 z226 z227 z228 z229 z230 z231 z232 z233 z234 z235 z236 z237 z238 z239 z240 z241 z242 z243 z244 z245 z246 z247 z248 z249 z250 z251 z252 z253 z254 z255 z256 z257 z258 z259 z260 z261 z262 z263 z264 z265 z266 z267 z268 z269 z270 z271 z272 z273 z274 z275 z276 z277 z278 z279 z280 z281 z282 z283 z284 z285 z286 z287 z288 z289 z290 z291 z292 z293 z294 z295 z296 z297 z298 z299 z300 z301 z302 z303 z304 z305 z306 z307 z308 z309 z310 z311 : Value}
    (HB : Hid (BoArg w b fa sa)) (HOK : Hid (b.ok = true)) (HSH : Hid (b.shift (u, v) = true)) (hl1 : b.fs.length ≤ 6) (hl2 : b.ss.length ≤ 6) (HXL : Hid (xs.length = b.fs.length)) (HYL : Hid (y.2.length = b.fs.length)) (hyl6 : (y.2.length : Int) ≤ 6)
    (HENT2 : Hid (∀ e ∈ xs, e = -1 ∨ (0 ≤ e ∧ e < b.ss.length))) (hlen' : (N : Int) ≤ 117649)
    (HN0 : Hid (N ≠ 0 → sx.has u = true ∧ sy.has v = true))
    (HN1 : Hid (IsJoin b (sures b.fs) (sures b.ss) (u, v) xs → N ≠ 0 ∧ (pairsIn xs < pairsIn y.2 ∨ pairsIn xs = pairsIn y.2 ∧ (((u, v), xs) = y ∨ jlt y ((u, v), xs)))))
    (gc : wc.heap[w.heap.size]? = some (.cells #[.int .i64 b.e.lo, .int .i64 b.e.hi, .int .i64 b.n.lo, .int .i64 b.n.hi, .slice fa b.fs.length fc, .slice sa b.ss.length sc] 26))
    (xc : wc.heap[w3.heap.size]? = some (.cells #[.int .i64 sx.lo, .int .i64 sx.hi] 23)) (yc : wc.heap[w3.heap.size + 1]? = some (.cells #[.int .i64 sy.lo, .int .i64 sy.hi] 23))
    (hIc : IntsAt wc g y.2) (hIxc : IntsAt wc G xs) (hbwc : Below w.heap.size w wc) :
    Code.wp Try.prog ((Try.f6.body.bind (tailAt (isIf 22))).getD .skip) (bodyPost Try.prog Try.f6 fun e w' => e = .returned (.bool true) ∧ Below w.heap.size w w')
      ⟨(z0 :: z1 :: z2 :: z3 :: (.pointer (some ⟨w.heap.size, 0, none⟩)) :: z5 :: z6 :: z7 :: (.bool false) :: (.int .i64 y.1.1) :: (.int .i64 y.1.2) :: (.slice (some ⟨g, 0, none⟩) y.2.length cap) :: z12 :: (.pointer (some ⟨w3.heap.size, 0, none⟩)) :: (.pointer (some ⟨w3.heap.size + 1, 0, none⟩)) :: z15 :: (.func (.func 33) #[] #[.pointer (some ⟨w.heap.size, 0, none⟩)]) :: (.int .i64 u) :: (.int .i64 v) :: (.slice (some ⟨G, 0, none⟩) b.fs.length b.fs.length) :: z20 :: (.int .i64 N) :: (.int .i64 0) :: z23 :: z24 :: z25 :: z26 :: z27 :: z28 :: z29 :: z30 :: z31 :: z32 :: z33 :: z34 :: z35 :: z36 :: z37 :: z38 :: z39 :: z40 :: z41 :: z42 :: z43 :: z44 :: z45 :: z46 :: z47 :: z48 :: z49 :: z50 :: z51 :: z52 :: z53 :: z54 :: z55 :: z56 :: z57 :: z58 :: z59 :: z60 :: z61 :: z62 :: z63 :: z64 :: z65 :: z66 :: z67 :: z68 :: z69 :: z70 :: z71 :: z72 :: z73 :: z74 :: z75 :: z76 :: z77 :: z78 :: z79 :: z80 :: z81 :: z82 :: z83 :: z84 :: z85 :: z86 :: z87 :: z88 :: z89 :: z90 :: z91 :: z92 :: z93 :: z94 :: z95 :: z96 :: z97 :: z98 :: z99 :: z100 :: z101 :: z102 :: z103 :: z104 :: z105 :: z106 :: z107 :: z108 :: z109 :: z110 :: z111 :: z112 :: z113 :: z114 :: z115 :: z116 :: z117 :: z118 :: z119 :: z120 :: z121 :: z122 :: z123 :: z124 :: z125 :: z126 :: z127 :: z128 :: z129 :: z130 :: z131 :: z132 :: z133 :: z134 :: z135 :: z136 :: z137 :: z138 :: z139 :: z140 :: z141 :: z142 :: z143 :: z144 :: z145 :: z146 :: z147 :: z148 :: z149 :: z150 :: z151 :: z152 :: z153 :: z154 :: z155 :: z156 :: z157 :: z158 :: z159 :: z160 :: z161 :: z162 :: z163 :: z164 :: z165 :: z166 :: z167 :: z168 :: z169 :: z170 :: z171 :: z172 :: z173 :: z174 :: z175 :: z176 :: z177 :: z178 :: z179 :: z180 :: z181 :: z182 :: z183 :: z184 :: z185 :: z186 :: z187 :: z188 :: z189 :: z190 :: z191 :: z192 :: z193 :: z194 :: z195 :: z196 :: z197 :: z198 :: z199 :: z200 :: z201 :: z202 :: z203 :: z204 :: z205 :: z206 :: z207 :: z208 :: z209 :: z210 :: z211 :: z212 :: z213 :: z214 :: z215 :: z216 :: z217 :: z218 :: z219 :: z220 :: z221 :: z222 :: z223 :: z224 :: z225 :: z226 :: z227 :: z228 :: z229 :: z230 :: z231 :: z232 :: z233 :: z234 :: z235 :: z236 :: z237 :: z238 :: z239 :: z240 :: z241 :: z242 :: z243 :: z244 :: z245 :: z246 :: z247 :: z248 :: z249 :: z250 :: z251 :: z252 :: z253 :: z254 :: z255 :: z256 :: z257 :: z258 :: z259 :: z260 :: z261 :: z262 :: z263 :: z264 :: z265 :: z266 :: z267 :: z268 :: z269 :: z270 :: z271 :: z272 :: z273 :: z274 :: z275 :: z276 :: z277 :: z278 :: z279 :: z280 :: z281 :: z282 :: z283 :: z284 :: z285 :: z286 :: z287 :: z288 :: z289 :: z290 :: z291 :: z292 :: z293 :: z294 :: z295 :: z296 :: z297 :: z298 :: z299 :: z300 :: z301 :: z302 :: z303 :: z304 :: z305 :: z306 :: z307 :: z308 :: z309 :: z310 :: z311 :: []).toArray, []⟩ wc := by
  have hxl6 : xs.length ≤ 6 := by rw [HXL.out]; exact hl1
  have hxl6' : (xs.length : Int) ≤ 6 := by omega
  have hown := joined1_any b fa sa fc sc w.heap.size b.fs.length (some ⟨G, 0, none⟩) xs (u, v)
  rw [HXL.out] at hown
  conv => arg 2; whnf

  go_upto_region 22 with fail
  go_cut [237] (fun v' wx => v' = .bool false ∧ Below wc.heap.size wc wx)
  case first =>
    have d0 := cell_block xc 0
    have d1 := cell_block xc 1
    have d2 := cell_block yc 0
    have d3 := cell_block yc 1
    simp only [List.getElem?_toArray, List.getElem?_cons_zero, List.getElem?_cons_succ] at d0 d1 d2 d3
    by_cases hN : N = 0
    · have hNi : ¬ 0 < (N : Int) := by omega
      have HNN := Lib.hid hN
      clear hN
      go_wp2_with fail
      go_meet
      case rel => exact ⟨rfl, Below.refl _ _⟩
    · have hNi : 0 < (N : Int) := by omega
      obtain ⟨i1, i2⟩ := HN0.out hN
      have hs1 := inside_any sx u wc
      rw [i1] at hs1
      clear i1 hN
      go_wp2_with fail
      refine hs1.mono ?_
      rintro e w11 ⟨rfl, hb11⟩
      have y11 := obj_later hb11 yc
      have hs2 := inside_any sy v w11
      rw [i2] at hs2
      clear d0 d1 d2 d3 i2 hs1
      have d2 := cell_block y11 0
      have d3 := cell_block y11 1
      simp only [List.getElem?_toArray, List.getElem?_cons_zero, List.getElem?_cons_succ] at d2 d3
      go_wp2_with fail
      refine hs2.mono ?_
      rintro e w12 ⟨rfl, hb12⟩
      go_wp2_with fail
      go_meet
      exact ⟨rfl, hb11.trans (hb12.mono hb11.size)⟩
  case rest =>
  obtain ⟨rfl, hbd⟩ := hcut
  have gd := obj_later hbd gc
  have hId := hIc.later (hbd.block _ hIc.lt)
  have hIxd := hIxc.later (hbd.block _ hIxc.lt)
  have hbwd := hbwc.trans (hbd.mono hbwc.size)
  clear hbd gc xc yc hIc hIxc hbwc
  have hown' := hown wc (HB.out.below hbwd) HOK.out HSH.out rfl HENT2.out (hIxd.v) gd
  clear hown
  cases hq : joinB b (u, v) xs
  all_goals
    rw [hq] at hown'
    go_wp2_with fail
    refine hown'.mono ?_
    rintro e w13 ⟨rfl, hb13⟩
  · go_wp2_with fail
    refine (awake_any _).mono ?_
    rintro e w14 ⟨rfl, hb14⟩
    go_wp2
    go_ret
    exact ⟨rfl, (hbwd.trans (hb13.mono hbwd.size)).trans (hb14.mono (Nat.le_trans hbwd.size hb13.size))⟩
  · have hij := (joinB_iff ⟨hl1, hl2⟩ (u, v) xs HXL.out HENT2.out).1 hq
    obtain ⟨hN, hbest⟩ := HN1.out hij
    have hIe := hId.later (hb13.block _ hId.lt)
    have hIxe := hIxd.later (hb13.block _ hIxd.lt)
    have hbwe := hbwd.trans (hb13.mono hbwd.size)
    clear hb13 hId hIxd hbwd gd hown' hij hq
    have HBEST := Lib.hid hbest
    have hNi : 0 < (N : Int) := by omega
    have hNe : ((N : Int) == 0) = false := by simp; omega
    have pl1 : (pairsIn xs : Int) ≤ 6 := by have := pairsIn_le xs; omega
    have pl2 : (pairsIn y.2 : Int) ≤ 6 := by have := pairsIn_le y.2; omega
    have pge : (pairsIn xs : Int) ≤ pairsIn y.2 := by omega
    clear hbest hN
    have hct1 := count_any (some ⟨g, 0, none⟩) cap y.2 w13 hIe.v (by omega)
    have hct2 := fun W h => count_any (some ⟨G, 0, none⟩) b.fs.length xs W h (by omega)
    rw [HXL.out] at hct2
    go_wp2_with fail
    refine hct1.mono ?_
    rintro e w14 ⟨rfl, hb14⟩
    have hIf := hIe.later (hb14.block _ hIe.lt)
    have hIxf := hIxe.later (hb14.block _ hIxe.lt)
    have hbwf := hbwe.trans (hb14.mono hbwe.size)
    clear hb14 hIe hIxe hbwe hct1
    go_wp2_with fail
    refine (hct2 _ hIxf.v).mono ?_
    rintro e w15 ⟨rfl, hb15⟩
    have hIg := hIf.later (hb15.block _ hIf.lt)
    have hIxg := hIxf.later (hb15.block _ hIxf.lt)
    have hbwg := hbwf.trans (hb15.mono hbwf.size)
    clear hb15 hIf hIxf hbwf hct2
    by_cases hlt : pairsIn xs < pairsIn y.2
    · have hlti : (pairsIn xs : Int) < pairsIn y.2 := by omega
      clear hlt
      go_wp2_with fail
      refine (awake_any _).mono ?_
      rintro e w16 ⟨rfl, hb16⟩
      go_wp2
      go_ret
      exact ⟨rfl, hbwg.trans (hb16.mono hbwg.size)⟩
    · have hlti : ¬ (pairsIn xs : Int) < pairsIn y.2 := by omega
      have hb2 := (HBEST.out.resolve_left hlt).2
      have hb3 : shlt y.1 (u, v) ∨ (y.1 = (u, v) ∧ (xs = y.2 ∨ lexlt y.2 xs)) := by
        rcases hb2 with h | h | ⟨h, h'⟩
        · right; rw [← h]; exact ⟨rfl, .inl rfl⟩
        · exact .inl h
        · exact .inr ⟨h, .inr h'⟩
      clear hb2 hlt
      rcases hb3 with hb3 | ⟨hb3, hb4⟩
      · have h3 : y.1.1 < u ∨ (y.1.1 = u ∧ y.1.2 < v) := hb3
        have HL := Lib.hid h3
        clear hb3 h3
        by_cases hux : y.1.1 < u
        · have e1 : (u != y.1.1) = true := by simp; omega
          go_wp2_with fail
          refine (awake_any _).mono ?_
          rintro e w16 ⟨rfl, hb16⟩
          go_wp2
          go_ret
          exact ⟨rfl, hbwg.trans (hb16.mono hbwg.size)⟩
        · have hvx : y.1.2 < v := by have := HL.out; omega
          have e1 : (u != y.1.1) = false := by have := HL.out; simp; omega
          have e2 : (v != y.1.2) = true := by simp; omega
          have e3 : (y.1.1 == u) = true := by have := HL.out; simp; omega
          go_wp2_with fail
          refine (awake_any _).mono ?_
          rintro e w16 ⟨rfl, hb16⟩
          go_wp2
          go_ret
          exact ⟨rfl, hbwg.trans (hb16.mono hbwg.size)⟩
      · have e1 : (u != y.1.1) = false := by rw [hb3]; simp
        have e2 : (v != y.1.2) = false := by rw [hb3]; simp
        have HL := Lib.hid hb4
        clear hb3 hb4
        go_wp2_with fail
        clear e1 e2
        go_loopw [25, 286] (fun _ i wr => ∃ k : Nat, k ≤ y.2.length ∧ i = .int .i64 k ∧ (∀ j, j < k → y.2.getD j (-1) = xs.getD j (-1)) ∧ Below w15.heap.size w15 wr) (fun _ i _ => y.2.length - (intOf i).toNat)
        case atStart => exact ⟨0, Nat.zero_le _, rfl, fun j hj => absurd hj (Nat.not_lt_zero _), Below.refl _ _⟩
        case round =>
          obtain ⟨k, hk, rfl, hsame, hbr⟩ := hrel
          have HS := Lib.hid hsame
          clear hsame
          have hIh := hIg.later (hbr.block _ hIg.lt)
          have hIxh := hIxg.later (hbr.block _ hIxg.lt)
          have hbwh := hbwg.trans (hbr.mono hbwg.size)
          by_cases hlt : k < y.2.length
          · have hki : (k : Int) < y.2.length := by omega
            have hkf : (k : Int) < b.fs.length := by rw [← HYL.out]; omega
            have hkx : k < xs.length := by rw [HXL.out, ← HYL.out]; exact hlt
            have hc1 := hIh.cell k hlt
            have hc2 := hIxh.cell k hkx
            have q1 : y.2.getD k (-1) = y.2[k] := getD_get hlt
            have q2 : xs.getD k (-1) = xs[k] := getD_get hkx
            have hle : y.2[k] = xs[k] ∨ y.2[k] < xs[k] := by
              rw [← q1, ← q2]
              rcases HL.out with h | ⟨i, hi, hi1, hi2⟩
              · left; rw [h]
              · rcases Nat.lt_trichotomy k i with h | h | h
                · left; exact hi1 k h
                · right; rw [h]; exact hi2
                · have := HS.out i h; omega
            have hnext : y.2[k] = xs[k] → ∀ j, j < k + 1 → y.2.getD j (-1) = xs.getD j (-1) := fun h j hj => by
              by_cases e : j = k
              · subst e; rw [q1, q2]; exact h
              · exact HS.out j (by omega)
            have HN := Lib.hid hnext
            clear hnext q1 q2
            generalize y.2[k] = c at hc1 hle HN
            generalize xs[k] = d at hc2 hle HN
            go_upto_region 36 with fail
            rcases hle with hle | hle
            · have hb' : (c != d) = false := by simp [hle]
              have HLE := Lib.hid hle
              clear hle
              go_quiet (fail)
              go_wp2
              go_roundw
              case rel => exact ⟨k + 1, by omega, by go_num, HN.out HLE.out, below_drewN hbr _⟩
              case measure => simp [intOf]; omega
            · have hb' : (c != d) = true := by simp; omega
              go_quiet (fail)
              clear hb'
              go_upto_region 37 with fail
              have hdd := below_drewN (Below.refl wr.heap.size wr) nq
              obtain ⟨w17, hw17⟩ : ∃ w17, wr.drewN nq = w17 := ⟨_, rfl⟩
              rw [hw17] at hdd ⊢
              have d1 := cell_later hdd hc1
              have d2 := cell_later hdd hc2
              have k1 : ∀ W', Below w17.heap.size w17 W' → W'.cell? ⟨g, k, none⟩ = some (.int .i64 c) := fun W' h => cell_later h d1
              have k2 : ∀ W', Below w17.heap.size w17 W' → W'.cell? ⟨G, k, none⟩ = some (.int .i64 d) := fun W' h => cell_later h d2
              have hcd : decide (c < d) = true := by simpa using hle
              have hb17 := hbwh.trans (hdd.mono hbwh.size)
              clear hw17 hc1 hc2 hdd hIh hIxh hbr hbwh hle HN HS
              refine (wpIn_wide (n := 1)).1 ?_
              refine wpIn_region_Wn (S := fun W' => Below w17.heap.size w17 W') 13 (by kernel_rfl) (by kernel_rfl) (below_drew w17) (fun hHeld => ?_)
              refine wpAnyW_takeD 0 298 (v := ?_) (by kernel_rfl) (by kernel_rfl) (by kernel_rfl) (by kernel_rfl) (fun _ _ _ h => h) ?_ (by assumption) ?_
              rotate_left
              · intro oi hoi w hSw; (try dsimp only at hSw); simp only [List.getElem?_toArray, List.getElem?_cons_zero, List.getElem?_cons_succ, Option.some.injEq] at hoi; subst hoi; go_simp; try with_reducible rfl
              simp only [Act.put, List.setIfInBounds_toArray, List.set_cons_zero, List.set_cons_succ]
              refine wpAnyW_takeD 1 299 (v := ?_) (by kernel_rfl) (by kernel_rfl) (by kernel_rfl) (by kernel_rfl) (fun _ _ _ h => h) ?_ (by assumption) ?_
              rotate_left
              · intro oi hoi w hSw; (try dsimp only at hSw); simp only [List.getElem?_toArray, List.getElem?_cons_zero, List.getElem?_cons_succ, Option.some.injEq] at hoi; subst hoi; go_simp; try with_reducible rfl
              simp only [Act.put, List.setIfInBounds_toArray, List.set_cons_zero, List.set_cons_succ]
              refine wpAnyW_takeD 2 300 (v := ?_) (by kernel_rfl) (by kernel_rfl) (by kernel_rfl) (by kernel_rfl) (fun _ _ _ h => h) ?_ (by assumption) ?_
              rotate_left
              · intro oi hoi w hSw; (try dsimp only at hSw); simp only [List.getElem?_toArray, List.getElem?_cons_zero, List.getElem?_cons_succ, Option.some.injEq] at hoi; subst hoi; go_simp; try with_reducible rfl
              simp only [Act.put, List.setIfInBounds_toArray, List.set_cons_zero, List.set_cons_succ]
              refine wpAnyW_takeD 3 301 (v := ?_) (by kernel_rfl) (by kernel_rfl) (by kernel_rfl) (by kernel_rfl) (fun _ _ _ h => h) ?_ (by assumption) ?_
              rotate_left
              · intro oi hoi w hSw; (try dsimp only at hSw); simp only [List.getElem?_toArray, List.getElem?_cons_zero, List.getElem?_cons_succ, Option.some.injEq] at hoi; subst hoi; go_simp; try with_reducible rfl
              simp only [Act.put, List.setIfInBounds_toArray, List.set_cons_zero, List.set_cons_succ]
              refine wpAnyW_takeD 4 302 (v := ?_) (by kernel_rfl) (by kernel_rfl) (by kernel_rfl) (by kernel_rfl) (fun _ _ _ h => h) ?_ (by assumption) ?_
              rotate_left
              · intro oi hoi w hSw; (try dsimp only at hSw); simp only [List.getElem?_toArray, List.getElem?_cons_zero, List.getElem?_cons_succ, Option.some.injEq] at hoi; subst hoi; go_simp; try with_reducible rfl
              simp only [Act.put, List.setIfInBounds_toArray, List.set_cons_zero, List.set_cons_succ]
              refine wpAnyW_takeD 5 303 (v := ?_) (by kernel_rfl) (by kernel_rfl) (by kernel_rfl) (by kernel_rfl) (fun _ _ _ h => h) ?_ (by assumption) ?_
              rotate_left
              · intro oi hoi w hSw; (try dsimp only at hSw); simp only [List.getElem?_toArray, List.getElem?_cons_zero, List.getElem?_cons_succ, Option.some.injEq] at hoi; subst hoi; go_simp; try with_reducible rfl
              simp only [Act.put, List.setIfInBounds_toArray, List.set_cons_zero, List.set_cons_succ]
              refine wpAnyW_takeD 6 304 (v := ?_) (by kernel_rfl) (by kernel_rfl) (by kernel_rfl) (by kernel_rfl) (fun _ _ _ h => h) ?_ (by assumption) ?_
              rotate_left
              · intro oi hoi w hSw; (try dsimp only at hSw); simp only [List.getElem?_toArray, List.getElem?_cons_zero, List.getElem?_cons_succ, Option.some.injEq] at hoi; subst hoi; go_simp; try with_reducible rfl
              simp only [Act.put, List.setIfInBounds_toArray, List.set_cons_zero, List.set_cons_succ]
              refine wpAnyW_takeD 7 305 (v := ?_) (by kernel_rfl) (by kernel_rfl) (by kernel_rfl) (by kernel_rfl) (fun _ _ _ h => h) ?_ (by assumption) ?_
              rotate_left
              · intro oi hoi w hSw; (try dsimp only at hSw); simp only [List.getElem?_toArray, List.getElem?_cons_zero, List.getElem?_cons_succ, Option.some.injEq] at hoi; subst hoi; go_simp; try with_reducible rfl
              simp only [Act.put, List.setIfInBounds_toArray, List.set_cons_zero, List.set_cons_succ]
              refine wpAnyW_takeD 8 306 (v := ?_) (by kernel_rfl) (by kernel_rfl) (by kernel_rfl) (by kernel_rfl) (fun _ _ _ h => h) ?_ (by assumption) ?_
              rotate_left
              · intro oi hoi w hSw; (try dsimp only at hSw); simp only [List.getElem?_toArray, List.getElem?_cons_zero, List.getElem?_cons_succ, Option.some.injEq] at hoi; subst hoi; go_simp; try with_reducible rfl
              simp only [Act.put, List.setIfInBounds_toArray, List.set_cons_zero, List.set_cons_succ]
              refine wpAnyW_takeD 9 307 (v := ?_) (by kernel_rfl) (by kernel_rfl) (by kernel_rfl) (by kernel_rfl) (fun _ _ _ h => h) ?_ (by assumption) ?_
              rotate_left
              · intro oi hoi w hSw; (try dsimp only at hSw); simp only [List.getElem?_toArray, List.getElem?_cons_zero, List.getElem?_cons_succ, Option.some.injEq] at hoi; subst hoi; go_simp; try with_reducible rfl
              simp only [Act.put, List.setIfInBounds_toArray, List.set_cons_zero, List.set_cons_succ]
              refine wpAnyW_one 10 (by kernel_rfl) (by kernel_rfl) ?_
              intro o ho K hK
              simp only [List.getElem?_toArray, List.getElem?_cons_zero, List.getElem?_cons_succ, Option.some.injEq] at ho
              subst ho
              go_simp
              refine ⟨trivial, CallsIn.mono (callsIn_wide.2 (awake_any _)) ?_⟩
              rintro e w18 ⟨rfl, hb18⟩
              have hH2 := hHeld.trans (hb18.mono hHeld.size)
              refine hK _ _ hH2 (fun _ => ?_)
              clear hK K
              try simp only [Act.put, List.setIfInBounds_toArray, List.set_cons_zero, List.set_cons_succ]
              refine wpAnyW_takeD 11 309 (v := ?_) (by kernel_rfl) (by kernel_rfl) (by kernel_rfl) (by kernel_rfl) (fun _ _ _ h => h) ?_ (by assumption) ?_
              rotate_left
              · intro oi hoi w hSw; (try dsimp only at hSw); simp only [List.getElem?_toArray, List.getElem?_cons_zero, List.getElem?_cons_succ, Option.some.injEq] at hoi; subst hoi; go_simp; try with_reducible rfl
              simp only [Act.put, List.setIfInBounds_toArray, List.set_cons_zero, List.set_cons_succ]
              refine wpAnyW_takeD 12 8 (v := ?_) (by kernel_rfl) (by kernel_rfl) (by kernel_rfl) (by kernel_rfl) (fun _ _ _ h => h) ?_ (by assumption) ?_
              rotate_left
              · intro oi hoi w hSw; (try dsimp only at hSw); simp only [List.getElem?_toArray, List.getElem?_cons_zero, List.getElem?_cons_succ, Option.some.injEq] at hoi; subst hoi; go_simp; try with_reducible rfl
              simp only [Act.put, List.setIfInBounds_toArray, List.set_cons_zero, List.set_cons_succ]
              refine wpAnyW_done (by kernel_rfl) ?_ _
              dsimp only [onNormal]
              go_wp2
              go_ret
              exact ⟨rfl, hb17.trans (hH2.mono hb17.size)⟩
          · obtain rfl : k = y.2.length := by omega
            go_wp2_with fail
            refine (awake_any _).mono ?_
            rintro e w16 ⟨rfl, hb16⟩
            go_wp2
            go_ret
            exact ⟨rfl, hbwh.trans (hb16.mono hbwh.size)⟩
end Go.Proofs.Ytjkegmjjhdmkiaa
namespace Go.Proofs.Ytjkegmjjhdmkiaa
open Go.RowKit Go.Shelf
set_option maxHeartbeats 25600000
set_option maxRecDepth 100000
set_option linter.unusedSimpArgs false

def fstC : Code → Code
  | .seq a _ => a
  | c => c
def sndC : Code → Code
  | .seq _ b => b
  | c => c

theorem lawBest_mid (b : Bo) (fa sa ba : Option Addr) (fc sc bc : Nat) (p q : Int) (by' : List Nat) (h1 : 0 ≤ p ∧ p ≤ 255) (h2 : 0 ≤ q ∧ q ≤ 255) (w w3 w7 : World) (g cap : Nat) (y : Joined) (sx sy : Sp) {z0 z5 z6 z7 z17 z18 z19 z20 z21 z22 z23 z24 z25 z26 z27 z28 z29 z30 z31 z32 z33 z34 z35 z36 z37 z38 z39 z40 z41 z42 z43 z44 z45 z46 z47 z48 z49 z50 z51 z52 z53 z54 z55 z56 z57 z58 z59 z60 z61 z62 z63 z64 z65 z66 z67 z68 z69 z70 z71 z72 z73 z74 z75 z76 z77 z78 z79 z80 z81 z82 z83 z84 z85 z86 z87 z88 z89 z90 z91 z92 z93 z94 z95 z96 z97 z98 z99 z100 z101 z102 z103 z104 z105 z106 z107 z108 z109 z110 z111 z112 z113 z114 z115 z116 z117 z118 z119 z120 z121 z122 z123 z124 z125 z126 z127 z128 z129 z130 z131 z132 z133 z134 z135 z136 z137 z138 z139 z140 z141 z142 z143 z144 z145 z146 z147 z148 z149 z150 z151 z152 z153 z154 z155 z156 z157 z158 z159 z160 z161 z162 z163 z164 z165 z166 z167 z168 z169 z170 z171 z172 z173 z174 z175 z176 z177 z178 z179 z180 z181 z182 z183 z184 z185 z186 z187 z188 z189 z190 z191 z192 z193 z194 z195 z196 z197 z198 z199 z200 z201 z202 z203 z204 z205 z206 z207 z208 z209 z210 z211 z212 z213 z214 z215 z216 z217 z218 z219 z220 z221 z222 z223 z224 z225 z226 z227 z228 z229 z230 z231 z232 z233 z234 z235 z236 z237 z238 z239 z240 z241 z242 z243 z244 z245 z246 z247 z248 z249 z250 z251 z252 z253 z254 z255 z256 z257 z258 z259 z260 z261 z262 z263 z264 z265 z266 z267 z268 z269 z270 z271 z272 z273 z274 z275 z276 z277 z278 z279 z280 z281 z282 z283 z284 z285 z286 z287 z288 z289 z290 z291 z292 z293 z294 z295 z296 z297 z298 z299 z300 z301 z302 z303 z304 z305 z306 z307 z308 z309 z310 z311 : Value}
    (HB : Hid (BoArg w b fa sa)) (HOK : Hid (b.ok = true)) (HBY : Hid (∀ x ∈ by', x < 256)) (HBL : Hid (by'.length ≤ 9223372036854775807)) (HU : Hid (U8V w ba by')) (HSL : Hid (ShiftLaw b (sures b.fs) (sures b.ss) sx sy))
    (HLAW : Hid (y ∈ allOf b (sures b.fs) (sures b.ss) ∧ ∀ z ∈ allOf b (sures b.fs) (sures b.ss), pairsIn z.2 < pairsIn y.2 ∨ pairsIn z.2 = pairsIn y.2 ∧ (z = y ∨ jlt y z)))
    (HYJ : Hid (b.shift y.1 = true ∧ IsJoin b (sures b.fs) (sures b.ss) y.1 y.2)) (HYL : Hid (y.2.length = b.fs.length)) (hyl6 : (y.2.length : Int) ≤ 6) (hfl6 : (b.fs.length : Int) ≤ 6)
    (b1 : -20 ≤ b.e.lo) (b2 : b.e.lo ≤ b.e.hi) (b3 : b.e.hi ≤ 20) (b4 : -20 ≤ b.n.lo) (b5 : b.n.lo ≤ b.n.hi) (b6 : b.n.hi ≤ 20) (hl1 : b.fs.length ≤ 6) (hl2 : b.ss.length ≤ 6)
    (g7 : w7.heap[w.heap.size]? = some (.cells #[.int .i64 b.e.lo, .int .i64 b.e.hi, .int .i64 b.n.lo, .int .i64 b.n.hi, .slice fa b.fs.length fc, .slice sa b.ss.length sc] 26))
    (x7 : w7.heap[w3.heap.size]? = some (.cells #[.int .i64 sx.lo, .int .i64 sx.hi] 23)) (y7 : w7.heap[w3.heap.size + 1]? = some (.cells #[.int .i64 sy.lo, .int .i64 sy.hi] 23))
    (hI7 : IntsAt w7 g y.2) (hb07 : Below w.heap.size w w7) (K1 K : Act → World → Prop)
    (hK1 : ∀ a w', Code.wp Try.prog (sndC (fstC ((Try.f6.body.bind (tailAt (isIf 10))).getD .skip))) (Exit.then K (bodyPost Try.prog Try.f6 fun e w' => e = .returned (.bool true) ∧ Below w.heap.size w w')) a w' → K1 a w') (hK : ∀ a w', Code.wp Try.prog (sndC ((Try.f6.body.bind (tailAt (isIf 10))).getD .skip)) (bodyPost Try.prog Try.f6 fun e w' => e = .returned (.bool true) ∧ Below w.heap.size w w') a w' → K a w') :
    Code.wp Try.prog (fstC (fstC ((Try.f6.body.bind (tailAt (isIf 10))).getD .skip))) (Exit.then K1 (Exit.then K (bodyPost Try.prog Try.f6 fun e w' => e = .returned (.bool true) ∧ Below w.heap.size w w')))
      ⟨(z0 :: (.int .u8 p) :: (.int .u8 q) :: (.slice ba by'.length bc) :: (.pointer (some ⟨w.heap.size, 0, none⟩)) :: z5 :: z6 :: z7 :: (.bool false) :: (.int .i64 y.1.1) :: (.int .i64 y.1.2) :: (.slice (some ⟨g, 0, none⟩) y.2.length cap) :: (.int .i64 0) :: (.pointer (some ⟨w3.heap.size, 0, none⟩)) :: (.pointer (some ⟨w3.heap.size + 1, 0, none⟩)) :: (.int .i64 0) :: (.func (.func 33) #[] #[.pointer (some ⟨w.heap.size, 0, none⟩)]) :: z17 :: z18 :: z19 :: z20 :: z21 :: z22 :: z23 :: z24 :: z25 :: z26 :: z27 :: z28 :: z29 :: z30 :: z31 :: z32 :: z33 :: z34 :: z35 :: z36 :: z37 :: z38 :: z39 :: z40 :: z41 :: z42 :: z43 :: z44 :: z45 :: z46 :: z47 :: z48 :: z49 :: z50 :: z51 :: z52 :: z53 :: z54 :: z55 :: z56 :: z57 :: z58 :: z59 :: z60 :: z61 :: z62 :: z63 :: z64 :: z65 :: z66 :: z67 :: z68 :: z69 :: z70 :: z71 :: z72 :: z73 :: z74 :: z75 :: z76 :: z77 :: z78 :: z79 :: z80 :: z81 :: z82 :: z83 :: z84 :: z85 :: z86 :: z87 :: z88 :: z89 :: z90 :: z91 :: z92 :: z93 :: z94 :: z95 :: z96 :: z97 :: z98 :: z99 :: z100 :: z101 :: z102 :: z103 :: z104 :: z105 :: z106 :: z107 :: z108 :: z109 :: z110 :: z111 :: z112 :: z113 :: z114 :: z115 :: z116 :: z117 :: z118 :: z119 :: z120 :: z121 :: z122 :: z123 :: z124 :: z125 :: z126 :: z127 :: z128 :: z129 :: z130 :: z131 :: z132 :: z133 :: z134 :: z135 :: z136 :: z137 :: z138 :: z139 :: z140 :: z141 :: z142 :: z143 :: z144 :: z145 :: z146 :: z147 :: z148 :: z149 :: z150 :: z151 :: z152 :: z153 :: z154 :: z155 :: z156 :: z157 :: z158 :: z159 :: z160 :: z161 :: z162 :: z163 :: z164 :: z165 :: z166 :: z167 :: z168 :: z169 :: z170 :: z171 :: z172 :: z173 :: z174 :: z175 :: z176 :: z177 :: z178 :: z179 :: z180 :: z181 :: z182 :: z183 :: z184 :: z185 :: z186 :: z187 :: z188 :: z189 :: z190 :: z191 :: z192 :: z193 :: z194 :: z195 :: z196 :: z197 :: z198 :: z199 :: z200 :: z201 :: z202 :: z203 :: z204 :: z205 :: z206 :: z207 :: z208 :: z209 :: z210 :: z211 :: z212 :: z213 :: z214 :: z215 :: z216 :: z217 :: z218 :: z219 :: z220 :: z221 :: z222 :: z223 :: z224 :: z225 :: z226 :: z227 :: z228 :: z229 :: z230 :: z231 :: z232 :: z233 :: z234 :: z235 :: z236 :: z237 :: z238 :: z239 :: z240 :: z241 :: z242 :: z243 :: z244 :: z245 :: z246 :: z247 :: z248 :: z249 :: z250 :: z251 :: z252 :: z253 :: z254 :: z255 :: z256 :: z257 :: z258 :: z259 :: z260 :: z261 :: z262 :: z263 :: z264 :: z265 :: z266 :: z267 :: z268 :: z269 :: z270 :: z271 :: z272 :: z273 :: z274 :: z275 :: z276 :: z277 :: z278 :: z279 :: z280 :: z281 :: z282 :: z283 :: z284 :: z285 :: z286 :: z287 :: z288 :: z289 :: z290 :: z291 :: z292 :: z293 :: z294 :: z295 :: z296 :: z297 :: z298 :: z299 :: z300 :: z301 :: z302 :: z303 :: z304 :: z305 :: z306 :: z307 :: z308 :: z309 :: z310 :: z311 :: []).toArray, []⟩ w7 := by
  conv => arg 2; whnf
  conv at hK1 => enter [a, w', 1, 2]; whnf
  conv at hK => enter [a, w', 1, 2]; whnf
  go_upto_region 10 with fail
  go_wp2_with fail
  have hent : ∀ e ∈ y.2, e = -1 ∨ (0 ≤ e ∧ e < b.ss.length) := (bJoins_mem (mem_bJoins.2 HYJ.out.2)).2
  have hjb := (joinB_iff ⟨hl1, hl2⟩ y.1 y.2 HYL.out hent).2 HYJ.out.2
  refine (joined1_any b fa sa fc sc w.heap.size cap (some ⟨g, 0, none⟩) y.2 y.1 w7 (HB.out.below hb07) HOK.out HYJ.out.1 HYL.out hent hI7.v g7).mono ?_
  rintro e w8 ⟨rfl, hb8⟩
  rw [hjb]
  have g8 := obj_later hb8 g7
  have x8 := obj_later hb8 x7
  have y8 := obj_later hb8 y7
  have hI8 := hI7.later (hb8.block _ hI7.lt)
  have hb08 := hb07.trans (hb8.mono hb07.size)
  clear hb8 g7 x7 y7 hI7 hb07 hent hjb
  have c0 := cell_block g8 0
  have c1 := cell_block g8 1
  have c2 := cell_block g8 2
  have c3 := cell_block g8 3
  have c4 := cell_block g8 4
  have c5 := cell_block g8 5
  simp only [List.getElem?_toArray, List.getElem?_cons_zero, List.getElem?_cons_succ] at c0 c1 c2 c3 c4 c5
  go_upto_region 12 with fail
  have k1 : IntKind.i64.wrap (b.e.hi - b.e.lo) = b.e.hi - b.e.lo := IntWalk.i64_in _ (by omega)
  have k2 : IntKind.i64.wrap (b.e.hi - b.e.lo + 1) = b.e.hi - b.e.lo + 1 := IntWalk.i64_in _ (by omega)
  have k4 : IntKind.i64.wrap (b.n.hi - b.n.lo) = b.n.hi - b.n.lo := IntWalk.i64_in _ (by omega)
  have k5 : IntKind.i64.wrap (b.n.hi - b.n.lo + 1) = b.n.hi - b.n.lo + 1 := IntWalk.i64_in _ (by omega)
  obtain ⟨r1, hr1, r10, r11⟩ : ∃ r : Int, p % (b.e.hi - b.e.lo + 1) = r ∧ 0 ≤ r ∧ r ≤ b.e.hi - b.e.lo := ⟨_, rfl, Int.emod_nonneg _ (by omega), by have := Int.emod_lt_of_pos p (show 0 < b.e.hi - b.e.lo + 1 by omega); omega⟩
  obtain ⟨r2, hr2, r20, r21⟩ : ∃ r : Int, q % (b.n.hi - b.n.lo + 1) = r ∧ 0 ≤ r ∧ r ≤ b.n.hi - b.n.lo := ⟨_, rfl, Int.emod_nonneg _ (by omega), by have := Int.emod_lt_of_pos q (show 0 < b.n.hi - b.n.lo + 1 by omega); omega⟩
  have k7 : wrap64 (b.e.lo + r1) = b.e.lo + r1 := IntWalk.wrap64_in _ (by omega)
  have k8 : wrap64 (b.n.lo + r2) = b.n.lo + r2 := IntWalk.wrap64_in _ (by omega)
  go_quiet (fail)
  clear k1 k2 k4 k5 k7 k8 hr1 hr2
  obtain ⟨u, hu⟩ : ∃ u, b.e.lo + r1 = u := ⟨_, rfl⟩
  obtain ⟨v, hv⟩ : ∃ v, b.n.lo + r2 = v := ⟨_, rfl⟩
  rw [hu, hv]
  have hbu : b.e.lo ≤ u ∧ u ≤ b.e.hi := by omega
  have hbv : b.n.lo ≤ v ∧ v ≤ b.n.hi := by omega
  clear hu hv r10 r11 r20 r21
  obtain ⟨u1, u2⟩ := hbu
  obtain ⟨v1, v2⟩ := hbv
  have hd9 := below_drewN (Below.refl w8.heap.size w8) nq
  obtain ⟨w9, hw9⟩ : ∃ w9, w8.drewN nq = w9 := ⟨_, rfl⟩
  rw [hw9] at hd9 ⊢
  have g9 := obj_later hd9 g8
  have x9 := obj_later hd9 x8
  have y9 := obj_later hd9 y8
  have hI9 := hI8.later (hd9.block _ hI8.lt)
  have hb09 := hb08.trans (hd9.mono hb08.size)
  clear hd9 hw9 g8 x8 y8 hI8 hb08 c0 c1 c2 c3 c4 c5
  have c4 := cell_block g9 4
  simp only [List.getElem?_toArray, List.getElem?_cons_zero, List.getElem?_cons_succ] at c4
  have hmk := run_make_row' (P := Try.prog) 40 3 (.int .i64 0) 8 Try.underlying40 (by kernel_rfl) rfl .i64 .i64 b.fs.length (by omega) (by omega) w9
  have hOw := IntsAt.made w9 b.fs.length 3
  have hfr : Below w9.heap.size w9 (w9.alloc (.cells (madeCells #[.int .i64 0] b.fs.length) 3)) := below_alloc _ _
  go_upto_region 14 with fail
  generalize w9.alloc (.cells (madeCells #[.int .i64 0] b.fs.length) 3) = w10 at hOw hfr ⊢
  clear hmk c4
  have g10 := obj_later hfr g9
  have x10 := obj_later hfr x9
  have y10 := obj_later hfr y9
  have hI10 := hI9.later (hfr.block _ hI9.lt)
  have hb10 := hb09.trans (hfr.mono hb09.size)
  have hG := hfr.size
  have lt0 := (Array.getElem?_eq_some_iff.1 g9).1
  have lt1 := (Array.getElem?_eq_some_iff.1 x9).1
  have lt2 := (Array.getElem?_eq_some_iff.1 y9).1
  have lt3 := hI9.lt
  clear g9 x9 y9 hI9
  obtain ⟨G, hGe⟩ : ∃ G, w9.heap.size = G := ⟨_, rfl⟩
  rw [hGe] at hOw hfr hG lt0 lt1 lt2 lt3 ⊢
  go_wp2_with fail
  go_loopw [20, 182] (fun _ i wr => ∃ (k : Nat) (xs : List Int), k ≤ b.fs.length ∧ i = .int .i64 k ∧ xs.length = b.fs.length ∧ IntsAt wr G xs ∧ (∀ j, j < k → xs.getD j (-1) = -1 ∨ (0 ≤ xs.getD j (-1) ∧ xs.getD j (-1) < b.ss.length)) ∧ Below G w10 wr) (fun _ i _ => b.fs.length - (intOf i).toNat)
  case atStart => exact ⟨0, _, Nat.zero_le _, rfl, by simp, hOw, fun j hj => absurd hj (Nat.not_lt_zero _), Below.refl _ _⟩
  case round =>
    rename_i wr
    obtain ⟨k, xs, hk, rfl, hxl, hIx, hents, hbr⟩ := hrel
    have HXL := Lib.hid hxl
    have HENT := Lib.hid hents
    clear hxl hents
    have gr := (hbr.block w.heap.size lt0).trans g10
    have hbw : Below w.heap.size w wr := hb10.trans (hbr.mono (by omega))
    by_cases hlt : k < b.fs.length
    · have hki : (k : Int) < b.fs.length := by omega
      obtain ⟨x0, hck⟩ : ∃ x0, wr.cell? ⟨G, k, none⟩ = some (.int .i64 x0) := ⟨_, hIx.cell k (by rw [HXL.out]; exact hlt)⟩
      have hfz := hIx.fz k
      have hP := hIx.put k (-1)
      have hbr2 : Below G w10 (wr.setCell ⟨G, k, none⟩ (.int .i64 (-1))) := hbr.setCell (Nat.le_refl _) _
      have hbw2 : Below w.heap.size w (wr.setCell ⟨G, k, none⟩ (.int .i64 (-1))) := hbw.setCell (by show w.heap.size ≤ G; omega) _
      have gr2 : (wr.setCell ⟨G, k, none⟩ (.int .i64 (-1))).heap[w.heap.size]? = _ := (Below.heap_setCell _ _ _ _ (by show ¬ w.heap.size = G; omega)).trans gr
      by_cases hn : by'.length = 0
      · have hni : ((by'.length : Int)) = 0 := by omega
        have HN := Lib.hid hn
        clear hn
        go_wp2_with fail
        go_roundw
        case rel =>
          refine ⟨k + 1, xs.set k (-1), by omega, by go_num, by rw [List.length_set]; exact HXL.out, hP, fun j hj => ?_, hbr2⟩
          by_cases h : j = k
          · subst h
            left
            rw [getD_get (by rw [List.length_set, HXL.out]; omega), List.getElem_set_self]
          · have := HENT.out j (by omega)
            rwa [getD_get (by rw [List.length_set, HXL.out]; omega), List.getElem_set_ne (by omega), ← getD_get]
        case measure => simp [intOf]; omega
      · have hnp : 0 < (by'.length : Int) := by omega
        have hlb := HBL.out
        obtain ⟨m, hm⟩ : ∃ m, k % by'.length = m := ⟨_, rfl⟩
        have hmn : m < by'.length := by rw [← hm]; exact Nat.mod_lt _ (by omega)
        have hkm : (k : Int) % (by'.length : Int) = (m : Int) := by rw [← hm]; simp
        obtain ⟨bq, bo, rfl, hbql, hcb⟩ := (HU.out.below hbw2 (Nat.le_refl _)) m hmn
        have hx := HBY.out by'[m] (List.getElem_mem hmn)
        generalize by'[m] = x at hcb hx
        have hxi : (x : Int) < 256 := by omega
        obtain ⟨n, hnl⟩ : ∃ n, by'.length = n := ⟨_, rfl⟩
        rw [hnl] at hnp hmn hkm ⊢
        have hmni : (m : Int) < n := by omega
        clear hn hm hnl
        have hfz2 : (wr.setCell ⟨G, k, none⟩ (.int .i64 (-1))).frozen? ⟨G, k, none⟩ = false := hP.fz k
        obtain ⟨x1, hck2⟩ : ∃ x1, (wr.setCell ⟨G, k, none⟩ (.int .i64 (-1))).cell? ⟨G, k, none⟩ = some (.int .i64 x1) := ⟨_, hP.cell k (by rw [List.length_set, HXL.out]; omega)⟩
        have c5 := cell_block gr2 5
        simp only [List.getElem?_toArray, List.getElem?_cons_zero, List.getElem?_cons_succ] at c5
        have e1 : IntKind.i64.wrap ((b.ss.length : Int) + 1) = (b.ss.length : Int) + 1 := IntWalk.i64_in _ (by omega)
        obtain ⟨r, hr, r0, r1⟩ : ∃ r : Int, (x : Int) % ((b.ss.length : Int) + 1) = r ∧ 0 ≤ r ∧ r ≤ b.ss.length := ⟨_, rfl, Int.emod_nonneg _ (by omega), by have := Int.emod_lt_of_pos (x : Int) (show 0 < (b.ss.length : Int) + 1 by omega); omega⟩
        have e2 : IntKind.i64.wrap (r - 1) = r - 1 := IntWalk.i64_in _ (by omega)
        go_upto_region 19 with fail
        go_region
        have hP2 : IntsAt ((wr.setCell ⟨G, k, none⟩ (.int .i64 (-1))).setCell ⟨G, k, none⟩ (.int .i64 (r - 1))).drew G ((xs.set k (-1)).set k (r - 1)) := (hP.put k (r - 1)).later rfl
        have hbr3 : Below G w10 ((wr.setCell ⟨G, k, none⟩ (.int .i64 (-1))).setCell ⟨G, k, none⟩ (.int .i64 (r - 1))).drew := (hbr2.setCell (Nat.le_refl _) _).drew
        clear e1 e2 c5 hck hck2 hfz hfz2 hcb hkm
        go_wp2_with fail
        go_roundw
        case rel =>
          refine ⟨k + 1, (xs.set k (-1)).set k (r - 1), by omega, by go_num, by rw [List.length_set, List.length_set]; exact HXL.out, hP2, fun j hj => ?_, hbr3⟩
          by_cases h : j = k
          · subst h
            rw [getD_get (by rw [List.length_set, List.length_set, HXL.out]; omega), List.getElem_set_self]
            omega
          · have := HENT.out j (by omega)
            rwa [getD_get (by rw [List.length_set, List.length_set, HXL.out]; omega), List.getElem_set_ne (by omega), List.getElem_set_ne (by omega), ← getD_get]
        case measure => simp [intOf]; omega
    · obtain rfl : k = b.fs.length := by omega
      have hent : ∀ e ∈ xs, e = -1 ∨ (0 ≤ e ∧ e < b.ss.length) := fun e he => by
        obtain ⟨i, hi, rfl⟩ := List.mem_iff_getElem.1 he
        have := HENT.out i (by rw [← HXL.out]; exact hi)
        rwa [getD_get hi] at this
      have HENT2 := Lib.hid hent
      clear hent HENT
      have xr := (hbr.block w3.heap.size (by omega)).trans x10
      have yr := (hbr.block (w3.heap.size + 1) (by omega)).trans y10
      have hIr := hI10.later (hbr.block _ lt3)
      have hxl6 : xs.length ≤ 6 := by rw [HXL.out]; exact hl1
      have hxl6' : (xs.length : Int) ≤ 6 := by omega
      have hsh0 : b.shift (u, v) = true := (shift_iff b _).2 ⟨⟨u1, u2⟩, v1, v2⟩
      have hps := possible_any b u v fa sa fc sc wr (HB.out.below hbw)
      unfold PossiblePost at hps
      have hbp : bPossible b u v = ((bJoins b (sures b.fs) (sures b.ss) (u, v)).length, 0) := by unfold bPossible; rw [if_pos HOK.out, if_pos hsh0]
      rw [hbp] at hps
      dsimp only at hps
      have hlen := bJoins_len HOK.out (sures b.fs) (sures b.ss) (u, v)
      have hn0 : (bJoins b (sures b.fs) (sures b.ss) (u, v)).length ≠ 0 → sx.has u = true ∧ sy.has v = true := fun h => by
        obtain ⟨t, ht⟩ := List.exists_mem_of_length_pos (Nat.pos_of_ne_zero h)
        exact HSL.out.all ((u, v), t) (mem_allOf.2 ⟨hsh0, mem_bJoins.1 ht⟩)
      have hn1 : IsJoin b (sures b.fs) (sures b.ss) (u, v) xs → (bJoins b (sures b.fs) (sures b.ss) (u, v)).length ≠ 0 ∧ (pairsIn xs < pairsIn y.2 ∨ pairsIn xs = pairsIn y.2 ∧ (((u, v), xs) = y ∨ jlt y ((u, v), xs))) := fun h => by
        have hm := mem_bJoins.2 h
        exact ⟨(fun e => by rw [List.length_eq_zero_iff.1 e] at hm; cases hm), HLAW.out.2 ((u, v), xs) (mem_allOf.2 ⟨hsh0, h⟩)⟩
      generalize (bJoins b (sures b.fs) (sures b.ss) (u, v)).length = N at hps hlen hn0 hn1
      have HN0 := Lib.hid hn0
      have HN1 := Lib.hid hn1
      have HSH := Lib.hid hsh0
      have hlen' : (N : Int) ≤ 117649 := by omega
      clear hn0 hn1 hsh0 hbp hlen
      have c0 := cell_block gr 0
      have c1 := cell_block gr 1
      have c2 := cell_block gr 2
      have c3 := cell_block gr 3
      have c4 := cell_block gr 4
      have c5 := cell_block gr 5
      simp only [List.getElem?_toArray, List.getElem?_cons_zero, List.getElem?_cons_succ] at c0 c1 c2 c3 c4 c5
      go_upto_region 21 with fail
      go_cut [21, 22] (fun n' g' wx => n' = .int .i64 N ∧ g' = .int .i64 0 ∧ Below wr.heap.size wr wx)
      case first =>
        go_wp2_with fail
        refine hps.mono ?_
        rintro e w11 ⟨rfl, hb11⟩
        go_wp2_with fail
        go_meet
        exact ⟨rfl, rfl, hb11⟩
      case rest =>
        obtain ⟨rfl, rfl, hbc⟩ := hcut
        rename_i hK
        refine hK _ _ ?_
        exact lawBest_tail b fa sa fc sc g cap G w w3 wc y sx sy u v xs N HB HOK HSH hl1 hl2 HXL HYL hyl6 HENT2 hlen' HN0 HN1 (obj_later hbc gr) (obj_later hbc xr) (obj_later hbc yr) (hIr.later (hbc.block _ hIr.lt)) (hIx.later (hbc.block _ hIx.lt)) (hbw.trans (hbc.mono hbw.size))
end Go.Proofs.Ytjkegmjjhdmkiaa
namespace Go.Proofs.Ytjkegmjjhdmkiaa
open Go.RowKit Go.Shelf
set_option maxHeartbeats 25600000
set_option maxRecDepth 100000
set_option linter.unusedSimpArgs false

theorem lawBest_any (b : Bo) (fa sa ba : Option Addr) (fc sc bc : Nat) (p q : Int) (by' : List Nat) (h1 : 0 ≤ p ∧ p ≤ 255) (h2 : 0 ≤ q ∧ q ≤ 255) (hby : ∀ x ∈ by', x < 256) (hbl : by'.length ≤ 9223372036854775807) (w : World) (hb : BoArg0 w b fa sa) (hu : U8V w ba by') :
    Calls Try.prog 6 #[.agg #[.int .i64 b.e.lo, .int .i64 b.e.hi, .int .i64 b.n.lo, .int .i64 b.n.hi, .slice fa b.fs.length fc, .slice sa b.ss.length sc], .int .u8 p, .int .u8 q, .slice ba by'.length bc] w fun e w' => e = .returned (.bool true) ∧ Below w.heap.size w w' := by
  have HB0 := Lib.hid hb
  have HBY := Lib.hid hby
  have HBL := Lib.hid hbl
  have HU := Lib.hid hu
  clear hb hby hbl hu
  go_enter Try.func6, Try.ntmps6
  go_wp2_with fail
  obtain ⟨W0, hW0⟩ : ∃ W, (w.alloc (.cells #[.int .i64 b.e.lo, .int .i64 b.e.hi, .int .i64 b.n.lo, .int .i64 b.n.hi, .slice fa b.fs.length fc, .slice sa b.ss.length sc] 26)) = W := ⟨_, rfl⟩
  rw [hW0]
  try simp only [Nat.add_assoc, Nat.reduceAdd]
  have hst_W0 : Steps (fun _ => False) w W0 := by rw [← hW0]; exact Steps.alloc _ w _
  have hz_W0 : W0.heap.size = w.heap.size + 1 := by rw [← hW0]; simp
  have g0_W0 : W0.heap[w.heap.size]? = some (.cells #[.int .i64 b.e.lo, .int .i64 b.e.hi, .int .i64 b.n.lo, .int .i64 b.n.hi, .slice fa b.fs.length fc, .slice sa b.ss.length sc] 26) := by rw [← hW0]; simp only [alloc_get, World.size_alloc]; repeat (first | exact if_pos trivial | exact if_pos (by omega) | rw [if_neg (by omega)])
  clear hW0
  have hb0 : Below w.heap.size w W0 := hst_W0.below (Nat.le_refl _) (fun _ _ h => h)
  refine (heavy_any b fa sa fc sc 5 60 W0 (HB0.out.below hb0)).mono ?_
  rintro e w1 ⟨rfl, hb1⟩
  have g1 := obj_later hb1 g0_W0
  replace hb0 := hb0.trans (hb1.mono hb0.size)
  clear hb1 g0_W0
  cases hh : heavyB b 5 60
  case true =>
    clear hh
    go_wp2_with fail
    refine (awake_any _).mono ?_
    rintro e w2 ⟨rfl, hb1⟩
    go_wp2
    go_ret
    exact ⟨rfl, hb0.trans (hb1.mono hb0.size)⟩
  have HB := Lib.hid (HB0.out.small hh)
  clear hh
  have c0 := cell_block g1 0
  have c1 := cell_block g1 1
  have c2 := cell_block g1 2
  have c3 := cell_block g1 3
  have c4 := cell_block g1 4
  have c5 := cell_block g1 5
  simp only [List.getElem?_toArray, List.getElem?_cons_zero, List.getElem?_cons_succ] at c0 c1 c2 c3 c4 c5
  go_wp2_with fail
  refine (best_any b fa sa fc sc _ (HB.out.below hb0)).mono ?_
  rintro e w2 ⟨he, hb1⟩
  have g2 := obj_later hb1 g1
  replace hb0 := hb0.trans (hb1.mono hb0.size)
  clear hb1 g1 c0 c1 c2 c3 c4 c5
  have c0 := cell_block g2 0
  have c1 := cell_block g2 1
  have c2 := cell_block g2 2
  have c3 := cell_block g2 3
  have c4 := cell_block g2 4
  have c5 := cell_block g2 5
  simp only [List.getElem?_toArray, List.getElem?_cons_zero, List.getElem?_cons_succ] at c0 c1 c2 c3 c4 c5
  have hsh := fun W hW => shift_any b fa sa fc sc W hW
  unfold ShiftPost spV at hsh
  by_cases hbad : b.ok = false ∨ allOf b (sures b.fs) (sures b.ss) = []
  · obtain ⟨n, hn, hb2, hs2⟩ : ∃ n : Nat, ((n = 1 ∧ b.ok = false) ∨ (n = 4 ∧ b.ok = true)) ∧ bBest b = (none, (n : Int)) ∧ bShift b = (⟨0, 0⟩, ⟨0, 0⟩, (n : Int)) := by
      cases hok : b.ok with
      | false => exact ⟨1, .inl ⟨rfl, rfl⟩, by simp [bBest, hok], by simp [bShift, hok]⟩
      | true =>
        rw [hok] at hbad
        have hne : allOf b (sures b.fs) (sures b.ss) = [] := by simpa using hbad
        exact ⟨4, .inr ⟨rfl, rfl⟩, by simp [bBest, hok, hne, bestOf], by simp [bShift, hok, hne]⟩
    rw [hb2] at he
    simp only [BestOut] at he
    subst he
    have hsh2 := hsh w2 (HB.out.below hb0)
    rw [hs2] at hsh2
    clear hsh hb2 hs2 hbad
    rcases hn with ⟨rfl, hok⟩ | ⟨rfl, hok⟩
    all_goals
      have HOK := Lib.hid hok
      clear hok
      go_wp2_with fail
      refine hsh2.mono ?_
      rintro e w3 ⟨rfl, hb1⟩
      have hb0' := hb0.trans (hb1.mono hb0.size)
      have g3 := obj_later hb1 g2
      clear hb1 g2 c0 c1 c2 c3 c4 c5
      go_upto_region 5 with fail
      obtain ⟨W4, hW4⟩ : ∃ W, ((w3.alloc (.cells #[.int .i64 0, .int .i64 0] 23)).alloc (.cells #[.int .i64 0, .int .i64 0] 23)) = W := ⟨_, rfl⟩
      rw [hW4]
      try simp only [Nat.add_assoc, Nat.reduceAdd]
      have hst_W4 : Steps (fun _ => False) w3 W4 := by rw [← hW4]; exact (Steps.alloc _ w3 _).trans (Steps.alloc (fun _ => False) _ _) (fun _ _ h => h)
      have hz_W4 : W4.heap.size = w3.heap.size + 2 := by rw [← hW4]; simp
      have g0_W4 : W4.heap[w3.heap.size]? = some (.cells #[.int .i64 0, .int .i64 0] 23) := by rw [← hW4]; simp only [alloc_get, World.size_alloc]; repeat (first | exact if_pos trivial | exact if_pos (by omega) | rw [if_neg (by omega)])
      have g1_W4 : W4.heap[w3.heap.size + 1]? = some (.cells #[.int .i64 0, .int .i64 0] 23) := by rw [← hW4]; simp only [alloc_get, World.size_alloc]; repeat (first | exact if_pos trivial | exact if_pos (by omega) | rw [if_neg (by omega)])
      clear hW4
      have hb4 : Below w3.heap.size w3 W4 := hst_W4.below (Nat.le_refl _) (fun _ _ h => h)
      have g4 := obj_later hb4 g3
      have hb0'' := hb0'.trans (hb4.mono hb0'.size)
      clear hb4 g3 g0_W4 g1_W4 hst_W4
      have c0 := cell_block g4 0
      have c1 := cell_block g4 1
      have c2 := cell_block g4 2
      have c3 := cell_block g4 3
      have c4 := cell_block g4 4
      have c5 := cell_block g4 5
      simp only [List.getElem?_toArray, List.getElem?_cons_zero, List.getElem?_cons_succ] at c0 c1 c2 c3 c4 c5
      go_wp2_with fail
      refine (border_any b fa sa fc sc _ (HB.out.below hb0'')).mono ?_
      rintro e w5 ⟨rfl, hb5⟩
      rw [HOK.out]
      go_wp2_with fail
      refine (awake_any _).mono ?_
      rintro e w6 ⟨rfl, hb6⟩
      go_wp2
      go_ret
      exact ⟨rfl, (hb0''.trans (hb5.mono hb0''.size)).trans (hb6.mono (Nat.le_trans hb0''.size hb5.size))⟩
  · have hok : b.ok = true := by
      cases hq : b.ok
      · exact absurd (.inl hq) hbad
      · rfl
    have hne : allOf b (sures b.fs) (sures b.ss) ≠ [] := fun e => hbad (.inr e)
    obtain ⟨y, hy⟩ : ∃ y, bestOf (allOf b (sures b.fs) (sures b.ss)) = some y := by
      cases hq : bestOf (allOf b (sures b.fs) (sures b.ss)) with
      | none => exact absurd (bestOf_none hq) hne
      | some y => exact ⟨y, rfl⟩
    have h2 : bBest b = (some y, 0) := by simp [bBest, hok, hy]
    obtain ⟨sx, sy, hs2, hsl⟩ := bShift_law hok hne
    have hlaw := best_law hy
    have hyj := (mem_allOf.1 hlaw.1)
    have hyin := hsl.all y hlaw.1
    have hsub : (b.e.lo ≤ sx.lo ∧ sx.hi ≤ b.e.hi) ∧ (b.n.lo ≤ sy.lo ∧ sy.hi ≤ b.n.hi) := by
      obtain ⟨z1, k1, e1⟩ := hsl.xlo
      obtain ⟨z2, k2, e2⟩ := hsl.xhi
      obtain ⟨z3, k3, e3⟩ := hsl.ylo
      obtain ⟨z4, k4, e4⟩ := hsl.yhi
      have q1 := (shift_iff b z1.1).1 (mem_allOf.1 k1).1
      have q2 := (shift_iff b z2.1).1 (mem_allOf.1 k2).1
      have q3 := (shift_iff b z3.1).1 (mem_allOf.1 k3).1
      have q4 := (shift_iff b z4.1).1 (mem_allOf.1 k4).1
      omega
    have hokb := (ok_iff b).1 hok
    have hsh2 := hsh w2 (HB.out.below hb0)
    rw [hs2] at hsh2
    rw [h2] at he
    simp only [BestOut] at he
    obtain ⟨g, cap, rfl, hI⟩ := he
    have HOK := Lib.hid hok
    have HSL := Lib.hid hsl
    have HLAW := Lib.hid hlaw
    have HYJ := Lib.hid hyj
    have HYIN := Lib.hid hyin
    obtain ⟨⟨b1, b2, b3⟩, ⟨b4, b5, b6⟩, hl1, hl2, _, _⟩ := hokb
    obtain ⟨⟨s1, s2⟩, s3, s4⟩ := hsub
    clear hsh h2 hs2 hsl hlaw hyj hyin hbad hok hne hy
    have HYL := Lib.hid HYJ.out.2.len
    have hyl6 : (y.2.length : Int) ≤ 6 := by have := HYL.out; omega
    have hfl6 : (b.fs.length : Int) ≤ 6 := by omega
    go_wp2_with fail
    refine hsh2.mono ?_
    rintro e w3 ⟨rfl, hb1⟩
    have hb0' := hb0.trans (hb1.mono hb0.size)
    have g3 := obj_later hb1 g2
    have hI3 := hI.later (hb1.block _ hI.lt)
    clear hb1 g2 c0 c1 c2 c3 c4 c5 hI
    go_upto_region 5 with fail
    obtain ⟨W4, hW4⟩ : ∃ W, ((w3.alloc (.cells #[.int .i64 sx.lo, .int .i64 sx.hi] 23)).alloc (.cells #[.int .i64 sy.lo, .int .i64 sy.hi] 23)) = W := ⟨_, rfl⟩
    rw [hW4]
    try simp only [Nat.add_assoc, Nat.reduceAdd]
    have hst_W4 : Steps (fun _ => False) w3 W4 := by rw [← hW4]; exact (Steps.alloc _ w3 _).trans (Steps.alloc (fun _ => False) _ _) (fun _ _ h => h)
    have hz_W4 : W4.heap.size = w3.heap.size + 2 := by rw [← hW4]; simp
    have g0_W4 : W4.heap[w3.heap.size]? = some (.cells #[.int .i64 sx.lo, .int .i64 sx.hi] 23) := by rw [← hW4]; simp only [alloc_get, World.size_alloc]; repeat (first | exact if_pos trivial | exact if_pos (by omega) | rw [if_neg (by omega)])
    have g1_W4 : W4.heap[w3.heap.size + 1]? = some (.cells #[.int .i64 sy.lo, .int .i64 sy.hi] 23) := by rw [← hW4]; simp only [alloc_get, World.size_alloc]; repeat (first | exact if_pos trivial | exact if_pos (by omega) | rw [if_neg (by omega)])
    clear hW4
    have hb4 : Below w3.heap.size w3 W4 := hst_W4.below (Nat.le_refl _) (fun _ _ h => h)
    have g4 := obj_later hb4 g3
    have hI4 := hI3.later (hb4.block _ hI3.lt)
    have hb0'' := hb0'.trans (hb4.mono hb0'.size)
    clear hb4 g3 hst_W4 hb0 hb0' hI3
    have hw3 : w3.heap.size < W4.heap.size := by omega
    have hw3' : w3.heap.size + 1 < W4.heap.size := by omega
    have c0 := cell_block g4 0
    have c1 := cell_block g4 1
    have c2 := cell_block g4 2
    have c3 := cell_block g4 3
    have c4 := cell_block g4 4
    have c5 := cell_block g4 5
    simp only [List.getElem?_toArray, List.getElem?_cons_zero, List.getElem?_cons_succ] at c0 c1 c2 c3 c4 c5
    go_wp2_with fail
    refine (border_any b fa sa fc sc _ (HB.out.below hb0'')).mono ?_
    rintro e w5 ⟨rfl, hb5⟩
    rw [HOK.out]
    have g5 := obj_later hb5 g4
    have x5 := obj_later hb5 g0_W4
    have y5 := obj_later hb5 g1_W4
    have hI5 := hI4.later (hb5.block _ hI4.lt)
    have hb05 := hb0''.trans (hb5.mono hb0''.size)
    clear g4 c0 c1 c2 c3 c4 c5 hb0'' g0_W4 g1_W4 hI4
    have c0 := cell_block x5 0
    have c1 := cell_block x5 1
    simp only [List.getElem?_toArray, List.getElem?_cons_zero, List.getElem?_cons_succ] at c0 c1
    go_wp2_with fail
    refine (inside_any sx y.1.1 _).mono ?_
    rintro e w6 ⟨rfl, hb6⟩
    rw [HYIN.out.1]
    have g6 := obj_later hb6 g5
    have x6 := obj_later hb6 x5
    have y6 := obj_later hb6 y5
    have hI6 := hI5.later (hb6.block _ hI5.lt)
    have hb06 := hb05.trans (hb6.mono hb05.size)
    clear hb5 hb6 hb05 hI5 g5 x5 y5 c0 c1
    have c0 := cell_block y6 0
    have c1 := cell_block y6 1
    simp only [List.getElem?_toArray, List.getElem?_cons_zero, List.getElem?_cons_succ] at c0 c1
    go_wp2_with fail
    refine (inside_any sy y.1.2 _).mono ?_
    rintro e w7 ⟨rfl, hb7⟩
    rw [HYIN.out.2]
    have g7 := obj_later hb7 g6
    have x7 := obj_later hb7 x6
    have y7 := obj_later hb7 y6
    have hI7 := hI6.later (hb7.block _ hI6.lt)
    have hb07 := hb06.trans (hb7.mono hb06.size)
    clear hb7 g6 x6 y6 c0 c1 hb06 hI6
    have c0 := cell_block g7 0
    have c1 := cell_block g7 1
    have c2 := cell_block g7 2
    have c3 := cell_block g7 3
    have c4 := cell_block g7 4
    have c5 := cell_block g7 5
    have d0 := cell_block x7 0
    have d1 := cell_block x7 1
    have d2 := cell_block y7 0
    have d3 := cell_block y7 1
    simp only [List.getElem?_toArray, List.getElem?_cons_zero, List.getElem?_cons_succ] at c0 c1 c2 c3 c4 c5 d0 d1 d2 d3
    have hne1 : ((y.2.length : Int) != (b.fs.length : Int)) = false := by rw [HYL.out]; simp
    go_upto_region 10 with fail
    refine lawBest_mid b fa sa ba fc sc bc p q by' h1 h2 w w3 _ g cap y sx sy HB HOK HBY HBL HU HSL HLAW HYJ HYL hyl6 hfl6 b1 b2 b3 b4 b5 b6 hl1 hl2 g7 x7 y7 hI7 hb07 _ _ ?_ ?_
    · assumption
    · assumption
end Go.Proofs.Ytjkegmjjhdmkiaa
