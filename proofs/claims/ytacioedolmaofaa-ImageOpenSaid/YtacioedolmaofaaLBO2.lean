/- ImageOpen, walked: a star at an image. ImageOpen, walked: the loop over all images. The law ImageOpen, walked. -/
import Derived.Test.YtacioedolmaofaaLBA28
import Derived.Test.YtacioedolmaofaaLBO1
namespace Go.Proofs.Ytacioedolmaofaa
open Go.RowKit Go.Shelf
set_option maxHeartbeats 12800000
set_option maxRecDepth 100000
set_option linter.unusedSimpArgs false
set_option linter.unusedVariables false

theorem lopen_some (s : ISheet) (fa : Option Addr) (fc p q2 k c : Nat) (a : Option Addr) (ls : List ITr) (u : IStar) (W3 : World) {z0 z3 z4 z5 z6 z7 z9 z10 z12 z18 z22 z23 z24 z25 z26 z27 z28 z29 z30 z31 z32 z33 z34 z35 z36 z37 z38 z39 z40 z41 z42 z43 z44 z45 z46 z47 z48 z49 z50 z51 z52 z53 z54 z55 z56 z57 z58 z59 z60 z61 z62 z63 z64 z65 z66 z67 z68 z69 z70 z71 z72 z73 z74 z75 z76 z77 z78 z79 z80 z81 z82 z83 z84 z85 z86 z87 z88 z89 z90 z91 z92 z93 z94 z95 z96 z97 z98 z99 z100 z101 z102 z103 z104 z105 z106 z107 z108 z109 z110 z111 z112 z113 z114 z115 z116 z117 z118 z119 z120 z121 z122 z123 z124 z125 z126 z127 z128 z129 z130 z131 z132 z133 z134 z135 z136 z137 z138 z139 z140 z141 z142 z143 z144 z145 z146 z147 z148 z149 z150 z151 z152 z153 z154 z155 z156 z157 z158 z159 z160 z161 z162 z163 z235 z236 z237 z238 z239 z240 z241 z242 z243 z244 z245 z246 z247 z248 z249 z250 z251 z252 z253 z254 z255 z256 z257 z258 z259 z260 z261 z262 z263 z264 z265 z266 z267 z268 z269 z270 z271 z272 z273 z274 z275 z276 z277 z278 z279 z280 z281 z282 z283 z284 z285 z286 z287 z288 z289 z290 z291 z292 z293 z294 z295 z296 z297 z298 z299 z300 z301 z302 z303 z304 z305 z306 z307 z308 z309 z310 z311 z312 z313 z314 z315 z316 z317 z318 z319 z320 z321 z322 z323 z324 z325 z326 z327 z328 z329 z330 z331 z332 z333 z334 z335 z336 z337 z338 z339 z340 z341 z342 z343 z344 z345 z346 z347 z348 z349 z350 z351 z352 z353 z354 z355 z356 z357 z358 z359 : Value} {z2 z19 z20 z21 z164 z165 z166 z167 z168 z169 z170 z171 z172 z173 z174 z175 z176 z177 z178 z179 z180 z181 z182 z183 z184 z185 z186 z187 z188 z189 z190 z191 z192 z193 z194 z195 z196 z197 z198 z199 z200 z201 z202 z203 z204 z205 z206 z207 z208 z209 z210 z211 z212 z213 z214 z215 z216 z217 z218 z219 z220 z221 z222 z223 z224 z225 z226 z227 z228 z229 z230 z231 z232 z233 z234 : Value} (hg3 : W3.heap[p]? = some (.cells #[.int .i64 s.ax.lo, .int .i64 s.ax.hi, .int .i64 s.ay.lo, .int .i64 s.ay.hi, .int .i64 s.bx.lo, .int .i64 s.bx.hi, .int .i64 s.by'.lo, .int .i64 s.by'.hi, .int .i64 s.f.lo, .int .i64 s.f.hi, .int .i64 s.g.lo, .int .i64 s.g.hi, .int .i64 s.limit, .int .i64 s.flaws, .slice fa s.l.length fc] 30)) (g0 : W3.heap[q2]? = some (.cells #[.int .i64 u.x.lo, .int .i64 u.x.hi] 23)) (g1 : W3.heap[q2 + 1]? = some (.cells #[.int .i64 u.y.lo, .int .i64 u.y.hi] 23)) (g2 : W3.heap[q2 + 2]? = some (.cells #[.int .i64 u.s.lo, .int .i64 u.s.hi] 23))
    (HT3 : Hid (TrSl W3 a ls)) (hls : ls.length ≤ 9) (HAT : Hid (∀ t ∈ ls, t.a = (k : Int) → ∃ v, s.star t = some v ∧ SWithin v u)) (HTR9 : Hid (∀ t ∈ ls, t.ok s.l.length = true)) (HOK : Hid (s.ok = true)) (HIM : Hid (∀ W, Below W3.heap.size W3 W → ImSl W fa s.l)) (K1 K : Act → World → Prop) (Q : Exit → Act → World → Prop)
    (hK1 : ∀ a w', Code.wp Try.prog (sndC' ((Try.f8.body.bind (findSt 21)).getD .skip)) (Exit.then K Q) a w' → K1 a w')
    (hfin : ∀ (s2 s19 s20 s21 s164 s165 s166 s167 s168 s169 s170 s171 s172 s173 s174 s175 s176 s177 s178 s179 s180 s181 s182 s183 s184 s185 s186 s187 s188 s189 s190 s191 s192 s193 s194 s195 s196 s197 s198 s199 s200 s201 s202 s203 s204 s205 s206 s207 s208 s209 s210 s211 s212 s213 s214 s215 s216 s217 s218 s219 s220 s221 s222 s223 s224 s225 s226 s227 s228 s229 s230 s231 s232 s233 s234 : Value) (w3 : World), Below W3.heap.size W3 w3 → K ⟨(z0::(.pointer (some ⟨p, 0, none⟩))::s2::z3::z4::z5::z6::z7::(.slice a ls.length c)::z9::z10::(.int .i64 k)::z12::(.pointer (some ⟨q2, 0, none⟩))::(.pointer (some ⟨q2 + 1, 0, none⟩))::(.pointer (some ⟨q2 + 2, 0, none⟩))::(.int .i64 0)::(.bool (firstTo ls (k : Int) ls.length))::z18::s19::s20::s21::z22::z23::z24::z25::z26::z27::z28::z29::z30::z31::z32::z33::z34::z35::z36::z37::z38::z39::z40::z41::z42::z43::z44::z45::z46::z47::z48::z49::z50::z51::z52::z53::z54::z55::z56::z57::z58::z59::z60::z61::z62::z63::z64::z65::z66::z67::z68::z69::z70::z71::z72::z73::z74::z75::z76::z77::z78::z79::z80::z81::z82::z83::z84::z85::z86::z87::z88::z89::z90::z91::z92::z93::z94::z95::z96::z97::z98::z99::z100::z101::z102::z103::z104::z105::z106::z107::z108::z109::z110::z111::z112::z113::z114::z115::z116::z117::z118::z119::z120::z121::z122::z123::z124::z125::z126::z127::z128::z129::z130::z131::z132::z133::z134::z135::z136::z137::z138::z139::z140::z141::z142::z143::z144::z145::z146::z147::z148::z149::z150::z151::z152::z153::z154::z155::z156::z157::z158::z159::z160::z161::z162::z163::s164::s165::s166::s167::s168::s169::s170::s171::s172::s173::s174::s175::s176::s177::s178::s179::s180::s181::s182::s183::s184::s185::s186::s187::s188::s189::s190::s191::s192::s193::s194::s195::s196::s197::s198::s199::s200::s201::s202::s203::s204::s205::s206::s207::s208::s209::s210::s211::s212::s213::s214::s215::s216::s217::s218::s219::s220::s221::s222::s223::s224::s225::s226::s227::s228::s229::s230::s231::s232::s233::s234::z235::z236::z237::z238::z239::z240::z241::z242::z243::z244::z245::z246::z247::z248::z249::z250::z251::z252::z253::z254::z255::z256::z257::z258::z259::z260::z261::z262::z263::z264::z265::z266::z267::z268::z269::z270::z271::z272::z273::z274::z275::z276::z277::z278::z279::z280::z281::z282::z283::z284::z285::z286::z287::z288::z289::z290::z291::z292::z293::z294::z295::z296::z297::z298::z299::z300::z301::z302::z303::z304::z305::z306::z307::z308::z309::z310::z311::z312::z313::z314::z315::z316::z317::z318::z319::z320::z321::z322::z323::z324::z325::z326::z327::z328::z329::z330::z331::z332::z333::z334::z335::z336::z337::z338::z339::z340::z341::z342::z343::z344::z345::z346::z347::z348::z349::z350::z351::z352::z353::z354::z355::z356::z357::z358::z359 :: []).toArray, []⟩ w3) :
    Code.wp Try.prog (fstC' ((Try.f8.body.bind (findSt 21)).getD .skip)) (Exit.then K1 (Exit.then K Q)) ⟨(z0::(.pointer (some ⟨p, 0, none⟩))::z2::z3::z4::z5::z6::z7::(.slice a ls.length c)::z9::z10::(.int .i64 k)::z12::(.pointer (some ⟨q2, 0, none⟩))::(.pointer (some ⟨q2 + 1, 0, none⟩))::(.pointer (some ⟨q2 + 2, 0, none⟩))::(.int .i64 0)::(.bool false)::z18::z19::z20::z21::z22::z23::z24::z25::z26::z27::z28::z29::z30::z31::z32::z33::z34::z35::z36::z37::z38::z39::z40::z41::z42::z43::z44::z45::z46::z47::z48::z49::z50::z51::z52::z53::z54::z55::z56::z57::z58::z59::z60::z61::z62::z63::z64::z65::z66::z67::z68::z69::z70::z71::z72::z73::z74::z75::z76::z77::z78::z79::z80::z81::z82::z83::z84::z85::z86::z87::z88::z89::z90::z91::z92::z93::z94::z95::z96::z97::z98::z99::z100::z101::z102::z103::z104::z105::z106::z107::z108::z109::z110::z111::z112::z113::z114::z115::z116::z117::z118::z119::z120::z121::z122::z123::z124::z125::z126::z127::z128::z129::z130::z131::z132::z133::z134::z135::z136::z137::z138::z139::z140::z141::z142::z143::z144::z145::z146::z147::z148::z149::z150::z151::z152::z153::z154::z155::z156::z157::z158::z159::z160::z161::z162::z163::z164::z165::z166::z167::z168::z169::z170::z171::z172::z173::z174::z175::z176::z177::z178::z179::z180::z181::z182::z183::z184::z185::z186::z187::z188::z189::z190::z191::z192::z193::z194::z195::z196::z197::z198::z199::z200::z201::z202::z203::z204::z205::z206::z207::z208::z209::z210::z211::z212::z213::z214::z215::z216::z217::z218::z219::z220::z221::z222::z223::z224::z225::z226::z227::z228::z229::z230::z231::z232::z233::z234::z235::z236::z237::z238::z239::z240::z241::z242::z243::z244::z245::z246::z247::z248::z249::z250::z251::z252::z253::z254::z255::z256::z257::z258::z259::z260::z261::z262::z263::z264::z265::z266::z267::z268::z269::z270::z271::z272::z273::z274::z275::z276::z277::z278::z279::z280::z281::z282::z283::z284::z285::z286::z287::z288::z289::z290::z291::z292::z293::z294::z295::z296::z297::z298::z299::z300::z301::z302::z303::z304::z305::z306::z307::z308::z309::z310::z311::z312::z313::z314::z315::z316::z317::z318::z319::z320::z321::z322::z323::z324::z325::z326::z327::z328::z329::z330::z331::z332::z333::z334::z335::z336::z337::z338::z339::z340::z341::z342::z343::z344::z345::z346::z347::z348::z349::z350::z351::z352::z353::z354::z355::z356::z357::z358::z359 :: []).toArray, []⟩ W3 := by
  have HFIN := Lib.hid hfin
  have hlsi : (ls.length : Int) ≤ 9 := by omega
  have G := Lib.hid (And.intro g0 (And.intro g1 g2))
  clear hfin g0 g1 g2
  conv => arg 2; whnf
  conv at hK1 => enter [a, w', 1, 2]; whnf
  go_wp2_with fail
  go_loopw [166, 17] (fun u v wi => ∃ j : Nat, j ≤ ls.length ∧ u = .int .i64 j ∧ v = .bool (firstTo ls k j) ∧ Below W3.heap.size W3 wi) (fun u _ _ => ls.length - (intOf u).toNat)
  case atStart => exact ⟨0, Nat.zero_le _, rfl, rfl, Below.refl _ _⟩
  case round =>
    obtain ⟨j, hj, rfl, rfl, hbi⟩ := hrel
    have HBY := Lib.hid hbi
    by_cases hltj : j < ls.length
    · have hji : (j : Int) < ls.length := by omega
      obtain ⟨tb, tq, rfl, hbl, e0, e1, e2⟩ := HT3.out.below hbi (Nat.le_refl _) j hltj
      have HFS := Lib.hid (firstTo_succ ls k j hltj)
      have htin : ls[j] ∈ ls := List.getElem_mem hltj
      have HIN := Lib.hid htin
      obtain ⟨t, ht⟩ : ∃ t, ls[j] = t := ⟨_, rfl⟩
      rw [ht] at HFS HIN e0 e1 e2
      clear ht htin
      go_upto_region 24 with fail
      have htb := below_alloc wr (.cells #[.int .i64 t.a, .int .i64 t.b, .int .i64 t.c] 32)
      have gt := obj_new wr (.cells #[.int .i64 t.a, .int .i64 t.b, .int .i64 t.c] 32)
      have HBT := Lib.hid (HBY.out.trans (htb.mono HBY.out.size))
      clear e0 e1 e2 hbl hbi
      generalize wr.alloc (.cells #[.int .i64 t.a, .int .i64 t.b, .int .i64 t.c] 32) = W4 at htb gt HBT ⊢
      obtain ⟨q4, hq4⟩ : ∃ q, wr.heap.size = q := ⟨_, rfl⟩
      rw [hq4] at gt ⊢
      clear hq4 htb
      have t0 := cell_block gt 0
      have t1 := cell_block gt 1
      have t2 := cell_block gt 2
      simp only [gA, gB, gC] at t0 t1 t2
      by_cases hta : t.a = (k : Int)
      · have HTA := Lib.hid hta
        have hne : (t.a != (k : Int)) = false := by simpa using hta
        obtain ⟨v, hv, hvw⟩ := HAT.out t HIN.out hta
        have hof := irOf_any s fa fc t W4 HOK.out (HTR9.out t HIN.out) (HIM.out W4 HBT.out)
        rw [hv] at hof
        unfold starV at hof
        dsimp only at hof
        have HC := Lib.hid hof
        have gz := obj_later HBT.out G.out.1
        have gy := obj_later HBT.out G.out.2.1
        have gx := obj_later HBT.out G.out.2.2
        have hg4 := obj_later HBT.out hg3
        clear hof hta hv
        have cz := fun k => cell_block hg4 k
        have r0 := cz 0
        have r1 := cz 1
        have r2 := cz 2
        have r3 := cz 3
        have r4 := cz 4
        have r5 := cz 5
        have r6 := cz 6
        have r7 := cz 7
        have r8 := cz 8
        have r9 := cz 9
        have r10 := cz 10
        have r11 := cz 11
        have r12 := cz 12
        have r13 := cz 13
        have r14 := cz 14
        clear cz
        simp only [gA, gB, gC] at r0 r1 r2 r3 r4 r5 r6 r7 r8 r9 r10 r11 r12 r13 r14
        go_wp2_with fail
        refine HC.out.mono ?_
        rintro e w5 ⟨rfl, hb5⟩
        replace gz := obj_later hb5 gz
        replace gy := obj_later hb5 gy
        replace gx := obj_later hb5 gx
        have HB5 := Lib.hid (HBT.out.trans (hb5.mono HBT.out.size))
        clear r0 r1 r2 r3 r4 r5 r6 r7 r8 r9 r10 r11 r12 r13 r14 hg4 HC hb5 t0 t1 t2 gt
        obtain ⟨v1, v2, v3, v4, v5, v6⟩ := hvw
        go_upto_region 27 with fail
        have sob := below_alloc w5 (.cells #[.int .i64 v.x.lo, .int .i64 v.x.hi, .int .i64 v.y.lo, .int .i64 v.y.hi, .int .i64 v.s.lo, .int .i64 v.s.hi] 70)
        have so := obj_new w5 (.cells #[.int .i64 v.x.lo, .int .i64 v.x.hi, .int .i64 v.y.lo, .int .i64 v.y.hi, .int .i64 v.s.lo, .int .i64 v.s.hi] 70)
        replace gz := obj_later sob gz
        replace gy := obj_later sob gy
        replace gx := obj_later sob gx
        have HB6 := Lib.hid (HB5.out.trans (sob.mono HB5.out.size))
        clear sob
        generalize w5.alloc (.cells #[.int .i64 v.x.lo, .int .i64 v.x.hi, .int .i64 v.y.lo, .int .i64 v.y.hi, .int .i64 v.s.lo, .int .i64 v.s.hi] 70) = W6 at so gz gy gx HB6 ⊢
        obtain ⟨q6, hq6⟩ : ∃ q, w5.heap.size = q := ⟨_, rfl⟩
        rw [hq6] at so ⊢
        clear hq6
        have o0 := cell_block so 0
        have o1 := cell_block so 1
        have o2 := cell_block so 2
        have o3 := cell_block so 3
        have o4 := cell_block so 4
        have o5 := cell_block so 5
        have az0 := cell_block gz 0
        have az1 := cell_block gz 1
        have ay0 := cell_block gy 0
        have ay1 := cell_block gy 1
        have ax0 := cell_block gx 0
        have ax1 := cell_block gx 1
        simp only [gA, gB, gC] at o0 o1 o2 o3 o4 o5 az0 az1 ay0 ay1 ax0 ax1
        go_wp2_with fail
        have hdn : decide (t.a = (k : Int)) = true := by simpa using HTA.out
        go_roundw
        case rel => exact ⟨j + 1, by omega, by go_num, by rw [HFS.out, hdn, Bool.or_true], HB6.out⟩
        case measure => simp [intOf]; omega
      · have hne : (t.a != (k : Int)) = true := by simpa using hta
        have hdn : decide (t.a = (k : Int)) = false := by simpa using hta
        clear hta
        go_wp2_with fail
        go_roundw
        case rel => exact ⟨j + 1, by omega, by go_num, by rw [HFS.out, hdn, Bool.or_false], HBT.out⟩
        case measure => simp [intOf]; omega
    · obtain rfl : j = ls.length := by omega
      clear hbi
      go_wp2_with fail
      exact HFIN.out _ _ _ _ _ _ _ _ _ _ _ _ _ _ _ _ _ _ _ _ _ _ _ _ _ _ _ _ _ _ _ _ _ _ _ _ _ _ _ _ _ _ _ _ _ _ _ _ _ _ _ _ _ _ _ _ _ _ _ _ _ _ _ _ _ _ _ _ _ _ _ _ _ _ _ _ HBY.out
end Go.Proofs.Ytacioedolmaofaa
namespace Go.Proofs.Ytacioedolmaofaa
open Go.RowKit Go.Shelf
set_option maxHeartbeats 12800000
set_option maxRecDepth 100000
set_option linter.unusedSimpArgs false
set_option linter.unusedVariables false

theorem lopen_loop (s : ISheet) (fa : Option Addr) (fc p st fl c : Nat) (lo hi : Int) (a : Option Addr) (ls : List ITr) (w : World) {z0 z5 z6 z7 z9 z22 z23 z24 z25 z26 z27 z28 z29 z30 z31 z32 z33 z34 z35 z36 z37 z38 z39 z40 z41 z42 z43 z44 z45 z46 z47 z48 z49 z50 z51 z52 z53 z54 z55 z56 z57 z58 z59 z60 z61 z62 z63 z64 z65 z66 z67 z68 z69 z70 z71 z72 z73 z74 z75 z76 z77 z78 z79 z80 z81 z82 z83 z84 z85 z86 z87 z88 z89 z90 z91 z92 z93 z94 z95 z96 z97 z98 z99 z100 z101 z102 z103 z104 z105 z106 z107 z108 z109 z110 z111 z112 z113 z114 z115 z116 z117 z118 z119 z120 z121 z122 z123 z124 z125 z126 z127 z128 z129 z359 : Value} {z2 z11 z12 z13 z14 z15 z16 z17 z18 z19 z20 z21 z130 z131 z132 z133 z134 z135 z136 z137 z138 z139 z140 z141 z142 z143 z144 z145 z146 z147 z148 z149 z150 z151 z152 z153 z154 z155 z156 z157 z158 z159 z160 z161 z162 z163 z164 z165 z166 z167 z168 z169 z170 z171 z172 z173 z174 z175 z176 z177 z178 z179 z180 z181 z182 z183 z184 z185 z186 z187 z188 z189 z190 z191 z192 z193 z194 z195 z196 z197 z198 z199 z200 z201 z202 z203 z204 z205 z206 z207 z208 z209 z210 z211 z212 z213 z214 z215 z216 z217 z218 z219 z220 z221 z222 z223 z224 z225 z226 z227 z228 z229 z230 z231 z232 z233 z234 z235 z236 z237 z238 z239 z240 z241 z242 z243 z244 z245 z246 z247 z248 z249 z250 z251 z252 z253 z254 z255 z256 z257 z258 z259 z260 z261 z262 z263 z264 z265 z266 z267 z268 z269 z270 z271 z272 z273 z274 z275 z276 z277 z278 z279 z280 z281 z282 z283 z284 z285 z286 z287 z288 z289 z290 z291 z292 z293 z294 z295 z296 z297 z298 z299 z300 z301 z302 z303 z304 z305 z306 z307 z308 z309 z310 z311 z312 z313 z314 z315 z316 z317 z318 z319 z320 z321 z322 z323 z324 z325 z326 z327 z328 z329 z330 z331 z332 z333 z334 z335 z336 z337 z338 z339 z340 z341 z342 z343 z344 z345 z346 z347 z348 z349 z350 z351 z352 z353 z354 z355 z356 z357 z358 : Value} (HOK : Hid (s.ok = true)) (HLEN : Hid (s.l.length < 9223372036854775807)) (HIM : Hid (∀ W, Below w.heap.size w W → ImSl W fa s.l)) (HG : Hid (w.heap[p]? = some (.cells #[.int .i64 s.ax.lo, .int .i64 s.ax.hi, .int .i64 s.ay.lo, .int .i64 s.ay.hi, .int .i64 s.bx.lo, .int .i64 s.bx.hi, .int .i64 s.by'.lo, .int .i64 s.by'.hi, .int .i64 s.f.lo, .int .i64 s.f.hi, .int .i64 s.g.lo, .int .i64 s.g.hi, .int .i64 s.limit, .int .i64 s.flaws, .slice fa s.l.length fc] 30))) (HTR : Hid (TrSl w a ls)) (HOF : Hid (OpenFacts s st fl lo hi ls))
    (HWH : Hid (∀ k : Nat, k < s.l.length → itWhere s (k : Int) = (whereTo s (k : Int) s.trails.length, if (whereTo s (k : Int) s.trails.length).isSome then 0 else 4))) (hn : s.l.length ≤ 9) (K1 K : Act → World → Prop) (Q : Exit → Act → World → Prop)
    (hK1 : ∀ a w', Code.wp Try.prog (sndC' ((Try.f8.body.bind (findSt 13)).getD .skip)) (Exit.then K Q) a w' → K1 a w')
    (hfin : ∀ (s2 s11 s12 s13 s14 s15 s16 s17 s18 s19 s20 s21 s130 s131 s132 s133 s134 s135 s136 s137 s138 s139 s140 s141 s142 s143 s144 s145 s146 s147 s148 s149 s150 s151 s152 s153 s154 s155 s156 s157 s158 s159 s160 s161 s162 s163 s164 s165 s166 s167 s168 s169 s170 s171 s172 s173 s174 s175 s176 s177 s178 s179 s180 s181 s182 s183 s184 s185 s186 s187 s188 s189 s190 s191 s192 s193 s194 s195 s196 s197 s198 s199 s200 s201 s202 s203 s204 s205 s206 s207 s208 s209 s210 s211 s212 s213 s214 s215 s216 s217 s218 s219 s220 s221 s222 s223 s224 s225 s226 s227 s228 s229 s230 s231 s232 s233 s234 s235 s236 s237 s238 s239 s240 s241 s242 s243 s244 s245 s246 s247 s248 s249 s250 s251 s252 s253 s254 s255 s256 s257 s258 s259 s260 s261 s262 s263 s264 s265 s266 s267 s268 s269 s270 s271 s272 s273 s274 s275 s276 s277 s278 s279 s280 s281 s282 s283 s284 s285 s286 s287 s288 s289 s290 s291 s292 s293 s294 s295 s296 s297 s298 s299 s300 s301 s302 s303 s304 s305 s306 s307 s308 s309 s310 s311 s312 s313 s314 s315 s316 s317 s318 s319 s320 s321 s322 s323 s324 s325 s326 s327 s328 s329 s330 s331 s332 s333 s334 s335 s336 s337 s338 s339 s340 s341 s342 s343 s344 s345 s346 s347 s348 s349 s350 s351 s352 s353 s354 s355 s356 s357 s358 : Value) (w3 : World), Below w.heap.size w w3 → K ⟨(z0::(.pointer (some ⟨p, 0, none⟩))::s2::(.int .i64 st)::(.int .i64 fl)::z5::z6::z7::(.slice a ls.length c)::z9::(.int .i64 s.l.length)::s11::s12::s13::s14::s15::s16::s17::s18::s19::s20::s21::z22::z23::z24::z25::z26::z27::z28::z29::z30::z31::z32::z33::z34::z35::z36::z37::z38::z39::z40::z41::z42::z43::z44::z45::z46::z47::z48::z49::z50::z51::z52::z53::z54::z55::z56::z57::z58::z59::z60::z61::z62::z63::z64::z65::z66::z67::z68::z69::z70::z71::z72::z73::z74::z75::z76::z77::z78::z79::z80::z81::z82::z83::z84::z85::z86::z87::z88::z89::z90::z91::z92::z93::z94::z95::z96::z97::z98::z99::z100::z101::z102::z103::z104::z105::z106::z107::z108::z109::z110::z111::z112::z113::z114::z115::z116::z117::z118::z119::z120::z121::z122::z123::z124::z125::z126::z127::z128::z129::s130::s131::s132::s133::s134::s135::s136::s137::s138::s139::s140::s141::s142::s143::s144::s145::s146::s147::s148::s149::s150::s151::s152::s153::s154::s155::s156::s157::s158::s159::s160::s161::s162::s163::s164::s165::s166::s167::s168::s169::s170::s171::s172::s173::s174::s175::s176::s177::s178::s179::s180::s181::s182::s183::s184::s185::s186::s187::s188::s189::s190::s191::s192::s193::s194::s195::s196::s197::s198::s199::s200::s201::s202::s203::s204::s205::s206::s207::s208::s209::s210::s211::s212::s213::s214::s215::s216::s217::s218::s219::s220::s221::s222::s223::s224::s225::s226::s227::s228::s229::s230::s231::s232::s233::s234::s235::s236::s237::s238::s239::s240::s241::s242::s243::s244::s245::s246::s247::s248::s249::s250::s251::s252::s253::s254::s255::s256::s257::s258::s259::s260::s261::s262::s263::s264::s265::s266::s267::s268::s269::s270::s271::s272::s273::s274::s275::s276::s277::s278::s279::s280::s281::s282::s283::s284::s285::s286::s287::s288::s289::s290::s291::s292::s293::s294::s295::s296::s297::s298::s299::s300::s301::s302::s303::s304::s305::s306::s307::s308::s309::s310::s311::s312::s313::s314::s315::s316::s317::s318::s319::s320::s321::s322::s323::s324::s325::s326::s327::s328::s329::s330::s331::s332::s333::s334::s335::s336::s337::s338::s339::s340::s341::s342::s343::s344::s345::s346::s347::s348::s349::s350::s351::s352::s353::s354::s355::s356::s357::s358::z359 :: []).toArray, []⟩ w3) :
    Code.wp Try.prog (fstC' ((Try.f8.body.bind (findSt 13)).getD .skip)) (Exit.then K1 (Exit.then K Q)) ⟨(z0::(.pointer (some ⟨p, 0, none⟩))::z2::(.int .i64 st)::(.int .i64 fl)::z5::z6::z7::(.slice a ls.length c)::z9::(.int .i64 s.l.length)::z11::z12::z13::z14::z15::z16::z17::z18::z19::z20::z21::z22::z23::z24::z25::z26::z27::z28::z29::z30::z31::z32::z33::z34::z35::z36::z37::z38::z39::z40::z41::z42::z43::z44::z45::z46::z47::z48::z49::z50::z51::z52::z53::z54::z55::z56::z57::z58::z59::z60::z61::z62::z63::z64::z65::z66::z67::z68::z69::z70::z71::z72::z73::z74::z75::z76::z77::z78::z79::z80::z81::z82::z83::z84::z85::z86::z87::z88::z89::z90::z91::z92::z93::z94::z95::z96::z97::z98::z99::z100::z101::z102::z103::z104::z105::z106::z107::z108::z109::z110::z111::z112::z113::z114::z115::z116::z117::z118::z119::z120::z121::z122::z123::z124::z125::z126::z127::z128::z129::z130::z131::z132::z133::z134::z135::z136::z137::z138::z139::z140::z141::z142::z143::z144::z145::z146::z147::z148::z149::z150::z151::z152::z153::z154::z155::z156::z157::z158::z159::z160::z161::z162::z163::z164::z165::z166::z167::z168::z169::z170::z171::z172::z173::z174::z175::z176::z177::z178::z179::z180::z181::z182::z183::z184::z185::z186::z187::z188::z189::z190::z191::z192::z193::z194::z195::z196::z197::z198::z199::z200::z201::z202::z203::z204::z205::z206::z207::z208::z209::z210::z211::z212::z213::z214::z215::z216::z217::z218::z219::z220::z221::z222::z223::z224::z225::z226::z227::z228::z229::z230::z231::z232::z233::z234::z235::z236::z237::z238::z239::z240::z241::z242::z243::z244::z245::z246::z247::z248::z249::z250::z251::z252::z253::z254::z255::z256::z257::z258::z259::z260::z261::z262::z263::z264::z265::z266::z267::z268::z269::z270::z271::z272::z273::z274::z275::z276::z277::z278::z279::z280::z281::z282::z283::z284::z285::z286::z287::z288::z289::z290::z291::z292::z293::z294::z295::z296::z297::z298::z299::z300::z301::z302::z303::z304::z305::z306::z307::z308::z309::z310::z311::z312::z313::z314::z315::z316::z317::z318::z319::z320::z321::z322::z323::z324::z325::z326::z327::z328::z329::z330::z331::z332::z333::z334::z335::z336::z337::z338::z339::z340::z341::z342::z343::z344::z345::z346::z347::z348::z349::z350::z351::z352::z353::z354::z355::z356::z357::z358::z359 :: []).toArray, []⟩ w := by
  have HFIN := Lib.hid hfin
  have hni : (s.l.length : Int) ≤ 9 := by omega
  have hlen9 := HOF.out.len
  have hlsi : (ls.length : Int) ≤ 9 := by omega
  have nn : ∀ w, (binOp .neq 23 (.agg #[.int .i64 0, .int .i64 0]) (.agg #[.int .i64 0, .int .i64 0])).run Try.prog w = .ok (.bool false) w := fun w => by kernel_rfl
  have hb0 := Below.refl w.heap.size w
  have HB := Lib.hid hb0
  have d8 : (0 : Int) ≤ st := Int.natCast_nonneg _
  have d9 : (0 : Int) ≤ fl := Int.natCast_nonneg _
  clear hfin hb0
  conv => arg 2; whnf
  conv at hK1 => enter [a, w', 1, 2]; whnf
  go_wp2_with fail
  go_loopw [131] (fun u wr => ∃ k : Nat, k ≤ s.l.length ∧ u = .int .i64 k ∧ Below w.heap.size w wr) (fun u _ => s.l.length - (intOf u).toNat)
  case atStart => exact ⟨0, Nat.zero_le _, rfl, Below.refl _ _⟩
  case round =>
    obtain ⟨k, hk, rfl, hb⟩ := hrel
    have HBR := Lib.hid (HB.out.trans (hb.mono HB.out.size))
    have hg := obj_later hb HG.out
    have HTK := Lib.hid (HTR.out.below hb (Nat.le_refl _))
    have HBX := Lib.hid hb
    clear hb
    by_cases hlt : k < s.l.length
    · have hki : (k : Int) < s.l.length := by omega
      have hk9 : k < 9 := by omega
      have cz := fun k => cell_block hg k
      have e0 := cz 0
      have e1 := cz 1
      have e2 := cz 2
      have e3 := cz 3
      have e4 := cz 4
      have e5 := cz 5
      have e6 := cz 6
      have e7 := cz 7
      have e8 := cz 8
      have e9 := cz 9
      have e10 := cz 10
      have e11 := cz 11
      have e12 := cz 12
      have e13 := cz 13
      have e14 := cz 14
      clear cz
      simp only [gA, gB, gC] at e0 e1 e2 e3 e4 e5 e6 e7 e8 e9 e10 e11 e12 e13 e14
      go_wp2_with fail
      have hus := irUsed_any a c ls (k : Int) wr HTK.out (by omega)
      refine hus.mono ?_
      clear hus
      rintro e w1 ⟨rfl, hb1⟩
      have HB1 := Lib.hid (HBR.out.trans (hb1.mono HBR.out.size))
      have HBX1 := Lib.hid (HBX.out.trans (hb1.mono HBX.out.size))
      have hg1 := obj_later hb1 hg
      have HT1 := Lib.hid (HTK.out.below hb1 (Nat.le_refl _))
      have hu1 := HOF.out.used k
      obtain ⟨b, hbb⟩ : ∃ b, usedIn ls (k : Int) = b := ⟨_, rfl⟩
      rw [hbb] at hu1 ⊢
      clear hbb e0 e1 e2 e3 e4 e5 e6 e7 e8 e9 e10 e11 e12 e13 e14 hg hb1 HBR HBX HTK
      go_upto_region 17 with fail
      refine lopen_reg17 st fl k b w1 HOF.out.st9 HOF.out.fl9 hk9 hu1.1 hu1.2 _ _ ?_
      intro s137 s138 s139 s140 s141 s142 s143 s144 s145 s146 s147 s148 s149 s150 s151 s152 s153 s154
      clear hu1
      have cz := fun k => cell_block hg1 k
      have e0 := cz 0
      have e1 := cz 1
      have e2 := cz 2
      have e3 := cz 3
      have e4 := cz 4
      have e5 := cz 5
      have e6 := cz 6
      have e7 := cz 7
      have e8 := cz 8
      have e9 := cz 9
      have e10 := cz 10
      have e11 := cz 11
      have e12 := cz 12
      have e13 := cz 13
      have e14 := cz 14
      clear cz
      simp only [gA, gB, gC] at e0 e1 e2 e3 e4 e5 e6 e7 e8 e9 e10 e11 e12 e13 e14
      have hwh := iWhere_any s fa fc (k : Int) w1 (HIM.out w1 HB1.out) HLEN.out (by omega)
      rw [HWH.out k hlt] at hwh
      have hno := HOF.out.no' k hlt
      have hat := HOF.out.at' k hlt
      have HWC := Lib.hid hwh
      clear hwh
      go_wp2_with fail
      refine HWC.out.mono ?_
      clear HWC
      rintro e w2 ⟨he, hb2⟩
      have HB2 := Lib.hid (HB1.out.trans (hb2.mono HB1.out.size))
      have HBX2 := Lib.hid (HBX1.out.trans (hb2.mono HBX1.out.size))
      have hg2 := obj_later hb2 hg1
      have HT2 := Lib.hid (HT1.out.below hb2 (Nat.le_refl _))
      clear e0 e1 e2 e3 e4 e5 e6 e7 e8 e9 e10 e11 e12 e13 e14 hg1 hb2 HB1 HBX1 HT1
      cases hwk : whereTo s (k : Int) s.trails.length with
      | none =>
        have HNO := Lib.hid (hno hwk)
        rw [hwk] at he
        unfold whereV at he
        simp only [Option.isSome_none, Bool.false_eq_true, if_false] at he
        subst he
        clear hno hat hwk
        go_upto_region 20 with fail
        obtain ⟨W3, hW3⟩ : ∃ W, (((w2.alloc (.cells #[.int .i64 0, .int .i64 0] 23)).alloc (.cells #[.int .i64 0, .int .i64 0] 23)).alloc (.cells #[.int .i64 0, .int .i64 0] 23)) = W := ⟨_, rfl⟩
        rw [hW3]
        try simp only [Nat.add_assoc, Nat.reduceAdd]
        have hst_W3 : Steps (fun _ => False) w2 W3 := by rw [← hW3]; exact ((Steps.alloc _ w2 _).trans (Steps.alloc (fun _ => False) _ _) (fun _ _ h => h)).trans (Steps.alloc (fun _ => False) _ _) (fun _ _ h => h)
        have hz_W3 : W3.heap.size = w2.heap.size + 3 := by rw [← hW3]; simp
        have g0_W3 : W3.heap[w2.heap.size]? = some (.cells #[.int .i64 0, .int .i64 0] 23) := by rw [← hW3]; simp only [alloc_get, World.size_alloc]; repeat (first | exact if_pos trivial | exact if_pos (by omega) | rw [if_neg (by omega)])
        have g1_W3 : W3.heap[w2.heap.size + 1]? = some (.cells #[.int .i64 0, .int .i64 0] 23) := by rw [← hW3]; simp only [alloc_get, World.size_alloc]; repeat (first | exact if_pos trivial | exact if_pos (by omega) | rw [if_neg (by omega)])
        have g2_W3 : W3.heap[w2.heap.size + 2]? = some (.cells #[.int .i64 0, .int .i64 0] 23) := by rw [← hW3]; simp only [alloc_get, World.size_alloc]; repeat (first | exact if_pos trivial | exact if_pos (by omega) | rw [if_neg (by omega)])
        clear hW3
        have hb3 := hst_W3.below (Nat.le_refl _) (fun _ _ h => h)
        have HBR2 := Lib.hid (HB2.out.trans (hb3.mono HB2.out.size))
        have HBX3 := Lib.hid (HBX2.out.trans (hb3.mono HBX2.out.size))
        have hg3 := obj_later hb3 hg2
        have HT3 := Lib.hid (HT2.out.below hb3 (Nat.le_refl _))
        obtain ⟨q2, hq2⟩ : ∃ q, w2.heap.size = q := ⟨_, rfl⟩
        rw [hq2] at g0_W3 g1_W3 g2_W3 ⊢
        clear hst_W3 hz_W3 hb3 hg2 hq2
        go_upto_region 21 with fail
        refine lopen_none s fa fc p q2 k c a ls W3 hg3 g0_W3 g1_W3 g2_W3 HT3 hlen9 HNO _ _ _ (by assumption) ?_
        intro s2 s19 s20 s21 s164 s165 s166 s167 s168 s169 s170 s171 s172 s173 s174 s175 s176 s177 s178 s179 s180 s181 s182 s183 s184 s185 s186 s187 s188 s189 s190 s191 s192 s193 s194 s195 s196 s197 s198 s199 s200 s201 s202 s203 s204 s205 s206 s207 s208 s209 s210 s211 s212 s213 s214 s215 s216 s217 s218 s219 s220 s221 s222 s223 s224 s225 s226 s227 s228 s229 s230 s231 s232 s233 s234 w4 hb4
        have gz := obj_later hb4 g0_W3
        have gy := obj_later hb4 g1_W3
        have gx := obj_later hb4 g2_W3
        have HB4 := Lib.hid (HBX3.out.trans (hb4.mono HBX3.out.size))
        have az0 := cell_block gz 0
        have az1 := cell_block gz 1
        have ay0 := cell_block gy 0
        have ay1 := cell_block gy 1
        have ax0 := cell_block gx 0
        have ax1 := cell_block gx 1
        simp only [gA, gB, gC] at az0 az1 ay0 ay1 ax0 ax1
        rw [firstTo_no HNO.out]
        clear hb4 g0_W3 g1_W3 g2_W3
        go_wp2_with fail
        go_roundw
        case rel => exact ⟨k + 1, by omega, by go_num, HB4.out⟩
        case measure => simp [intOf]; omega
      | some u =>
        have HAT := Lib.hid (hat u hwk)
        rw [hwk] at he
        unfold whereV at he
        simp only [Option.isSome_some, if_true] at he
        subst he
        clear hno hat hwk
        go_upto_region 20 with fail
        obtain ⟨W3, hW3⟩ : ∃ W, (((w2.alloc (.cells #[.int .i64 u.x.lo, .int .i64 u.x.hi] 23)).alloc (.cells #[.int .i64 u.y.lo, .int .i64 u.y.hi] 23)).alloc (.cells #[.int .i64 u.s.lo, .int .i64 u.s.hi] 23)) = W := ⟨_, rfl⟩
        rw [hW3]
        try simp only [Nat.add_assoc, Nat.reduceAdd]
        have hst_W3 : Steps (fun _ => False) w2 W3 := by rw [← hW3]; exact ((Steps.alloc _ w2 _).trans (Steps.alloc (fun _ => False) _ _) (fun _ _ h => h)).trans (Steps.alloc (fun _ => False) _ _) (fun _ _ h => h)
        have hz_W3 : W3.heap.size = w2.heap.size + 3 := by rw [← hW3]; simp
        have g0_W3 : W3.heap[w2.heap.size]? = some (.cells #[.int .i64 u.x.lo, .int .i64 u.x.hi] 23) := by rw [← hW3]; simp only [alloc_get, World.size_alloc]; repeat (first | exact if_pos trivial | exact if_pos (by omega) | rw [if_neg (by omega)])
        have g1_W3 : W3.heap[w2.heap.size + 1]? = some (.cells #[.int .i64 u.y.lo, .int .i64 u.y.hi] 23) := by rw [← hW3]; simp only [alloc_get, World.size_alloc]; repeat (first | exact if_pos trivial | exact if_pos (by omega) | rw [if_neg (by omega)])
        have g2_W3 : W3.heap[w2.heap.size + 2]? = some (.cells #[.int .i64 u.s.lo, .int .i64 u.s.hi] 23) := by rw [← hW3]; simp only [alloc_get, World.size_alloc]; repeat (first | exact if_pos trivial | exact if_pos (by omega) | rw [if_neg (by omega)])
        clear hW3
        have hb3 := hst_W3.below (Nat.le_refl _) (fun _ _ h => h)
        have HBR2 := Lib.hid (HB2.out.trans (hb3.mono HB2.out.size))
        have HBX3 := Lib.hid (HBX2.out.trans (hb3.mono HBX2.out.size))
        have hg3 := obj_later hb3 hg2
        have HT3 := Lib.hid (HT2.out.below hb3 (Nat.le_refl _))
        obtain ⟨q2, hq2⟩ : ∃ q, w2.heap.size = q := ⟨_, rfl⟩
        rw [hq2] at g0_W3 g1_W3 g2_W3 ⊢
        clear hst_W3 hz_W3 hb3 hg2 hq2
        go_upto_region 21 with fail
        refine lopen_some s fa fc p q2 k c a ls u W3 hg3 g0_W3 g1_W3 g2_W3 HT3 hlen9 (Lib.hid HAT.out.2.2) (Lib.hid (fun t ht => trails_tok (HOF.out.tr t ht))) HOK (Lib.hid (fun W h => HIM.out W (HBR2.out.trans (h.mono HBR2.out.size)))) _ _ _ (by assumption) ?_
        intro s2 s19 s20 s21 s164 s165 s166 s167 s168 s169 s170 s171 s172 s173 s174 s175 s176 s177 s178 s179 s180 s181 s182 s183 s184 s185 s186 s187 s188 s189 s190 s191 s192 s193 s194 s195 s196 s197 s198 s199 s200 s201 s202 s203 s204 s205 s206 s207 s208 s209 s210 s211 s212 s213 s214 s215 s216 s217 s218 s219 s220 s221 s222 s223 s224 s225 s226 s227 s228 s229 s230 s231 s232 s233 s234 w4 hb4
        have gz := obj_later hb4 g0_W3
        have gy := obj_later hb4 g1_W3
        have gx := obj_later hb4 g2_W3
        have hg4 := obj_later hb4 hg3
        have HB4 := Lib.hid (HBX3.out.trans (hb4.mono HBX3.out.size))
        have HR4 := Lib.hid (HBR2.out.trans (hb4.mono HBR2.out.size))
        clear hb4 g0_W3 g1_W3 g2_W3
        go_upto_region 33 with fail
        refine lopen_reg33 s fa fc p q2 k fl u w4 hg4 gz gy gx (HIM.out w4 HR4.out) hlt hn HAT.out.2.1 HOF.out.fl9 HAT.out.1 _ _ ?_
        intro s257 s258 s259 s260 s261 s262 s263 s264 s265 s266 s267 s268 s269 s270 s271 s272 s273 s274 s275 s276 s277 s278 s279 s280 s281 s282 s283 s284 s285 s286 s287 s288 s289 s290 s291 s292 s293 s294 s295 s296 s297 s298 s299 s300 s301 s302 s303 s304 s305 s306 s307 s308 s309 s310 s311 s312 s313 s314 s315 s316 s317 s318 s319 s320 s321 s322 s323 s324 s325 s326 s327 s328 s329 s330 s331 s332 s333 s334 s335 s336 s337 s338 s339 s340 s341 s342 s343 s344 s345 s346 s347 s348 s349 s350 s351 s352 s353 s354 s355 s356 w5 hb5
        have HB5 := Lib.hid (HB4.out.trans (hb5.mono HB4.out.size))
        go_wp2_with fail
        go_roundw
        case rel => exact ⟨k + 1, by omega, by go_num, HB5.out⟩
        case measure => simp [intOf]; omega
    · obtain rfl : k = s.l.length := by omega
      clear hg
      go_wp2_with fail
      exact HFIN.out _ _ _ _ _ _ _ _ _ _ _ _ _ _ _ _ _ _ _ _ _ _ _ _ _ _ _ _ _ _ _ _ _ _ _ _ _ _ _ _ _ _ _ _ _ _ _ _ _ _ _ _ _ _ _ _ _ _ _ _ _ _ _ _ _ _ _ _ _ _ _ _ _ _ _ _ _ _ _ _ _ _ _ _ _ _ _ _ _ _ _ _ _ _ _ _ _ _ _ _ _ _ _ _ _ _ _ _ _ _ _ _ _ _ _ _ _ _ _ _ _ _ _ _ _ _ _ _ _ _ _ _ _ _ _ _ _ _ _ _ _ _ _ _ _ _ _ _ _ _ _ _ _ _ _ _ _ _ _ _ _ _ _ _ _ _ _ _ _ _ _ _ _ _ _ _ _ _ _ _ _ _ _ _ _ _ _ _ _ _ _ _ _ _ _ _ _ _ _ _ _ _ _ _ _ _ _ _ _ _ _ _ _ _ _ _ _ _ _ _ _ _ _ _ _ _ _ _ _ _ _ _ _ _ _ _ _ _ _ _ _ _ HBX.out
end Go.Proofs.Ytacioedolmaofaa
namespace Go.Proofs.Ytacioedolmaofaa
open Go.RowKit Go.Shelf
set_option maxHeartbeats 12800000
set_option maxRecDepth 100000
set_option linter.unusedSimpArgs false
set_option linter.unusedVariables false

theorem lawOpen_any (s : ISheet) (fa : Option Addr) (fc : Nat) (w : World) (him : ImSl w fa s.l) :
    Calls Try.prog 8 #[.agg #[.int .i64 s.ax.lo, .int .i64 s.ax.hi, .int .i64 s.ay.lo, .int .i64 s.ay.hi, .int .i64 s.bx.lo, .int .i64 s.bx.hi, .int .i64 s.by'.lo, .int .i64 s.by'.hi, .int .i64 s.f.lo, .int .i64 s.f.hi, .int .i64 s.g.lo, .int .i64 s.g.hi, .int .i64 s.limit, .int .i64 s.flaws, .slice fa s.l.length fc]] w fun e w' => e = .returned (.bool true) ∧ Below w.heap.size w w' := by
  have HIM : Hid (∀ W, Below w.heap.size w W → ImSl W fa s.l) := Lib.hid (fun W h => him.below h (Nat.le_refl _))
  clear him
  have nz : ∀ w, (binOp .eql 23 (.agg #[.int .i64 0, .int .i64 0]) (.agg #[.int .i64 0, .int .i64 0])).run Try.prog w = .ok (.bool true) w := fun w => by kernel_rfl
  have nn : ∀ w, (binOp .neq 23 (.agg #[.int .i64 0, .int .i64 0]) (.agg #[.int .i64 0, .int .i64 0])).run Try.prog w = .ok (.bool false) w := fun w => by kernel_rfl
  go_enter Try.func8, Try.ntmps8
  go_upto_region 1 with fail
  have g := obj_new w (.cells #[.int .i64 s.ax.lo, .int .i64 s.ax.hi, .int .i64 s.ay.lo, .int .i64 s.ay.hi, .int .i64 s.bx.lo, .int .i64 s.bx.hi, .int .i64 s.by'.lo, .int .i64 s.by'.hi, .int .i64 s.f.lo, .int .i64 s.f.hi, .int .i64 s.g.lo, .int .i64 s.g.hi, .int .i64 s.limit, .int .i64 s.flaws, .slice fa s.l.length fc] 30)
  have hb0 := below_alloc w (.cells #[.int .i64 s.ax.lo, .int .i64 s.ax.hi, .int .i64 s.ay.lo, .int .i64 s.ay.hi, .int .i64 s.bx.lo, .int .i64 s.bx.hi, .int .i64 s.by'.lo, .int .i64 s.by'.hi, .int .i64 s.f.lo, .int .i64 s.f.hi, .int .i64 s.g.lo, .int .i64 s.g.hi, .int .i64 s.limit, .int .i64 s.flaws, .slice fa s.l.length fc] 30)
  generalize w.alloc (.cells #[.int .i64 s.ax.lo, .int .i64 s.ax.hi, .int .i64 s.ay.lo, .int .i64 s.ay.hi, .int .i64 s.bx.lo, .int .i64 s.bx.hi, .int .i64 s.by'.lo, .int .i64 s.by'.hi, .int .i64 s.f.lo, .int .i64 s.f.hi, .int .i64 s.g.lo, .int .i64 s.g.hi, .int .i64 s.limit, .int .i64 s.flaws, .slice fa s.l.length fc] 30) = W0 at g hb0 ⊢
  obtain ⟨p, hp⟩ : ∃ p, w.heap.size = p := ⟨_, rfl⟩
  rw [hp] at g
  try rw [hp]
  clear hp
  have cz := fun k => cell_block g k
  have cg0 := cz 0
  have cg1 := cz 1
  have cg2 := cz 2
  have cg3 := cz 3
  have cg4 := cz 4
  have cg5 := cz 5
  have cg6 := cz 6
  have cg7 := cz 7
  have cg8 := cz 8
  have cg9 := cz 9
  have cg10 := cz 10
  have cg11 := cz 11
  have cg12 := cz 12
  have cg13 := cz 13
  have cg14 := cz 14
  clear cz
  simp only [gA, gB, gC] at cg0 cg1 cg2 cg3 cg4 cg5 cg6 cg7 cg8 cg9 cg10 cg11 cg12 cg13 cg14
  by_cases h30 : 30 < (s.l.length : Int)
  · go_wp2_with fail
    refine (iawake_any _).mono ?_
    rintro e w99 ⟨rfl, hb⟩
    go_wp2
    go_ret
    exact ⟨rfl, hb0.trans (hb.mono hb0.size)⟩
  · have hlen : s.l.length < 9223372036854775807 := by omega
    have HLEN := Lib.hid hlen
    clear hlen
    go_wp2_with fail
    have hc := irSheet_any s fa fc W0 (HIM.out W0 hb0) HLEN.out
    refine hc.mono ?_
    clear hc
    rintro e w1 ⟨he, hb⟩
    clear cg0 cg1 cg2 cg3 cg4 cg5 cg6 cg7 cg8 cg9 cg10 cg11 cg12 cg13 cg14
    replace g := obj_later hb g
    replace hb0 := hb0.trans (hb.mono hb0.size)
    clear hb
    subst he
    cases hok : s.ok
    · clear hok
      go_wp2_with fail
      refine (iawake_any _).mono ?_
      rintro e w99 ⟨rfl, hb⟩
      go_wp2
      go_ret
      exact ⟨rfl, hb0.trans (hb.mono hb0.size)⟩
    · have hn : s.l.length ≤ 9 := ((iok_iff s).1 hok).2.2.2.2.2.2.2.2.2
      have hni : (s.l.length : Int) ≤ 9 := by omega
      have HOK := Lib.hid hok
      clear hok
      have htl : itTell s = if wayErr s true = 0 then (((tStars s : Nat) : Int), ((tFlaws s : Nat) : Int), 0) else (0, 0, wayErr s true) := rfl
      have hsr : itStars s = if wayErr s true = 0 then ((wayTold s).lo, (wayTold s).hi, 0) else (0, 0, wayErr s true) := rfl
      have hfw : itFewest s = if wayErr s true = 0 then (fewW s.trails s.l.length (wayTold s).flaws 10 0 0, 0) else ([], wayErr s true) := rfl
      rw [wayErr_ok HOK.out] at htl hsr hfw
      by_cases hm : (wayTold s).many = 0
      · rw [if_pos hm, if_neg (by decide)] at htl hsr hfw
        clear hm
        have cz := fun k => cell_block g k
        have cg0 := cz 0
        have cg1 := cz 1
        have cg2 := cz 2
        have cg3 := cz 3
        have cg4 := cz 4
        have cg5 := cz 5
        have cg6 := cz 6
        have cg7 := cz 7
        have cg8 := cz 8
        have cg9 := cz 9
        have cg10 := cz 10
        have cg11 := cz 11
        have cg12 := cz 12
        have cg13 := cz 13
        have cg14 := cz 14
        clear cz
        simp only [gA, gB, gC] at cg0 cg1 cg2 cg3 cg4 cg5 cg6 cg7 cg8 cg9 cg10 cg11 cg12 cg13 cg14
        go_wp2_with fail
        have hc := iTell_any s fa fc w1 (HIM.out w1 hb0) HLEN.out
        refine hc.mono ?_
        clear hc
        rintro e w2 ⟨he, hb⟩
        clear cg0 cg1 cg2 cg3 cg4 cg5 cg6 cg7 cg8 cg9 cg10 cg11 cg12 cg13 cg14
        replace g := obj_later hb g
        replace hb0 := hb0.trans (hb.mono hb0.size)
        clear hb
        rw [htl] at he
        subst he
        have cz := fun k => cell_block g k
        have cg0 := cz 0
        have cg1 := cz 1
        have cg2 := cz 2
        have cg3 := cz 3
        have cg4 := cz 4
        have cg5 := cz 5
        have cg6 := cz 6
        have cg7 := cz 7
        have cg8 := cz 8
        have cg9 := cz 9
        have cg10 := cz 10
        have cg11 := cz 11
        have cg12 := cz 12
        have cg13 := cz 13
        have cg14 := cz 14
        clear cz
        simp only [gA, gB, gC] at cg0 cg1 cg2 cg3 cg4 cg5 cg6 cg7 cg8 cg9 cg10 cg11 cg12 cg13 cg14
        go_wp2_with fail
        have hc := iStars_any s fa fc w2 (HIM.out w2 hb0) HLEN.out
        refine hc.mono ?_
        clear hc
        rintro e w3 ⟨he, hb⟩
        clear cg0 cg1 cg2 cg3 cg4 cg5 cg6 cg7 cg8 cg9 cg10 cg11 cg12 cg13 cg14
        replace g := obj_later hb g
        replace hb0 := hb0.trans (hb.mono hb0.size)
        clear hb
        rw [hsr] at he
        subst he
        go_upto_region 5 with fail
        have gs := obj_new w3 (.cells #[.int .i64 0, .int .i64 0] 23)
        have hbl := below_alloc w3 (.cells #[.int .i64 0, .int .i64 0] 23)
        generalize w3.alloc (.cells #[.int .i64 0, .int .i64 0] 23) = W5 at gs hbl ⊢
        obtain ⟨q, hq⟩ : ∃ q, w3.heap.size = q := ⟨_, rfl⟩
        rw [hq] at gs ⊢
        clear hq
        replace g := obj_later hbl g
        replace hb0 := hb0.trans (hbl.mono hb0.size)
        clear hbl
        have cz := fun k => cell_block g k
        have cg0 := cz 0
        have cg1 := cz 1
        have cg2 := cz 2
        have cg3 := cz 3
        have cg4 := cz 4
        have cg5 := cz 5
        have cg6 := cz 6
        have cg7 := cz 7
        have cg8 := cz 8
        have cg9 := cz 9
        have cg10 := cz 10
        have cg11 := cz 11
        have cg12 := cz 12
        have cg13 := cz 13
        have cg14 := cz 14
        clear cz
        simp only [gA, gB, gC] at cg0 cg1 cg2 cg3 cg4 cg5 cg6 cg7 cg8 cg9 cg10 cg11 cg12 cg13 cg14
        go_wp2_with fail
        have hc := iFewest_any s fa fc W5 (HIM.out W5 hb0) HLEN.out
        refine hc.mono ?_
        clear hc
        rintro e w4 ⟨a, c, he, htr, hb, hcap⟩
        clear cg0 cg1 cg2 cg3 cg4 cg5 cg6 cg7 cg8 cg9 cg10 cg11 cg12 cg13 cg14
        replace g := obj_later hb g
        replace gs := obj_later hb gs
        replace hb0 := hb0.trans (hb.mono hb0.size)
        clear hb
        rw [hfw] at he htr
        subst he
        have cz := fun k => cell_block g k
        have cg0 := cz 0
        have cg1 := cz 1
        have cg2 := cz 2
        have cg3 := cz 3
        have cg4 := cz 4
        have cg5 := cz 5
        have cg6 := cz 6
        have cg7 := cz 7
        have cg8 := cz 8
        have cg9 := cz 9
        have cg10 := cz 10
        have cg11 := cz 11
        have cg12 := cz 12
        have cg13 := cz 13
        have cg14 := cz 14
        clear cz
        simp only [gA, gB, gC] at cg0 cg1 cg2 cg3 cg4 cg5 cg6 cg7 cg8 cg9 cg10 cg11 cg12 cg13 cg14
        have cz := fun k => cell_block gs k
        have cgs0 := cz 0
        have cgs1 := cz 1
        clear cz
        simp only [gA, gB, gC] at cgs0 cgs1
        go_wp2_with fail
        refine (iawake_any _).mono ?_
        rintro e w99 ⟨rfl, hb⟩
        go_wp2
        go_ret
        exact ⟨rfl, hb0.trans (hb.mono hb0.size)⟩
      · rw [if_neg hm, if_pos rfl] at htl hsr hfw
        have hOF := openFacts HOK.out hm
        have HWE : Hid (wayErr s true = 0) := Lib.hid (by rw [wayErr_ok HOK.out, if_neg hm])
        have HWH : Hid (∀ k : Nat, k < s.l.length → itWhere s (k : Int) = (whereTo s (k : Int) s.trails.length, if (whereTo s (k : Int) s.trails.length).isSome then 0 else 4)) := Lib.hid (fun k hk => by
          have hsp : spotOk s (k : Int) = true := by unfold spotOk; simp; omega
          unfold itWhere
          rw [hsp, HWE.out, if_pos rfl])
        clear hm
        obtain ⟨st, hst⟩ : ∃ st, tStars s = st := ⟨_, rfl⟩
        obtain ⟨fl, hfl⟩ : ∃ fl, tFlaws s = fl := ⟨_, rfl⟩
        obtain ⟨lo, hlo⟩ : ∃ lo, (wayTold s).lo = lo := ⟨_, rfl⟩
        obtain ⟨hi, hhi⟩ : ∃ hi, (wayTold s).hi = hi := ⟨_, rfl⟩
        obtain ⟨ls, hls⟩ : ∃ ls, fewW s.trails s.l.length (wayTold s).flaws 10 0 0 = ls := ⟨_, rfl⟩
        rw [hst, hfl, hlo, hhi, hls] at hOF
        rw [hst, hfl] at htl
        rw [hlo, hhi] at hsr
        rw [hls] at hfw
        have HOF := Lib.hid hOF
        clear hst hfl hlo hhi hls hOF
        have cz := fun k => cell_block g k
        have cg0 := cz 0
        have cg1 := cz 1
        have cg2 := cz 2
        have cg3 := cz 3
        have cg4 := cz 4
        have cg5 := cz 5
        have cg6 := cz 6
        have cg7 := cz 7
        have cg8 := cz 8
        have cg9 := cz 9
        have cg10 := cz 10
        have cg11 := cz 11
        have cg12 := cz 12
        have cg13 := cz 13
        have cg14 := cz 14
        clear cz
        simp only [gA, gB, gC] at cg0 cg1 cg2 cg3 cg4 cg5 cg6 cg7 cg8 cg9 cg10 cg11 cg12 cg13 cg14
        go_wp2_with fail
        have hc := iTell_any s fa fc w1 (HIM.out w1 hb0) HLEN.out
        refine hc.mono ?_
        clear hc
        rintro e w2 ⟨he, hb⟩
        clear cg0 cg1 cg2 cg3 cg4 cg5 cg6 cg7 cg8 cg9 cg10 cg11 cg12 cg13 cg14
        replace g := obj_later hb g
        replace hb0 := hb0.trans (hb.mono hb0.size)
        clear hb
        rw [htl] at he
        subst he
        have cz := fun k => cell_block g k
        have cg0 := cz 0
        have cg1 := cz 1
        have cg2 := cz 2
        have cg3 := cz 3
        have cg4 := cz 4
        have cg5 := cz 5
        have cg6 := cz 6
        have cg7 := cz 7
        have cg8 := cz 8
        have cg9 := cz 9
        have cg10 := cz 10
        have cg11 := cz 11
        have cg12 := cz 12
        have cg13 := cz 13
        have cg14 := cz 14
        clear cz
        simp only [gA, gB, gC] at cg0 cg1 cg2 cg3 cg4 cg5 cg6 cg7 cg8 cg9 cg10 cg11 cg12 cg13 cg14
        go_wp2_with fail
        have hc := iStars_any s fa fc w2 (HIM.out w2 hb0) HLEN.out
        refine hc.mono ?_
        clear hc
        rintro e w3 ⟨he, hb⟩
        clear cg0 cg1 cg2 cg3 cg4 cg5 cg6 cg7 cg8 cg9 cg10 cg11 cg12 cg13 cg14
        replace g := obj_later hb g
        replace hb0 := hb0.trans (hb.mono hb0.size)
        clear hb
        rw [hsr] at he
        subst he
        go_upto_region 5 with fail
        have gs := obj_new w3 (.cells #[.int .i64 lo, .int .i64 hi] 23)
        have hbl := below_alloc w3 (.cells #[.int .i64 lo, .int .i64 hi] 23)
        generalize w3.alloc (.cells #[.int .i64 lo, .int .i64 hi] 23) = W5 at gs hbl ⊢
        obtain ⟨q, hq⟩ : ∃ q, w3.heap.size = q := ⟨_, rfl⟩
        rw [hq] at gs ⊢
        clear hq
        replace g := obj_later hbl g
        replace hb0 := hb0.trans (hbl.mono hb0.size)
        clear hbl
        have cz := fun k => cell_block g k
        have cg0 := cz 0
        have cg1 := cz 1
        have cg2 := cz 2
        have cg3 := cz 3
        have cg4 := cz 4
        have cg5 := cz 5
        have cg6 := cz 6
        have cg7 := cz 7
        have cg8 := cz 8
        have cg9 := cz 9
        have cg10 := cz 10
        have cg11 := cz 11
        have cg12 := cz 12
        have cg13 := cz 13
        have cg14 := cz 14
        clear cz
        simp only [gA, gB, gC] at cg0 cg1 cg2 cg3 cg4 cg5 cg6 cg7 cg8 cg9 cg10 cg11 cg12 cg13 cg14
        go_wp2_with fail
        have hc := iFewest_any s fa fc W5 (HIM.out W5 hb0) HLEN.out
        refine hc.mono ?_
        clear hc
        rintro e w4 ⟨a, c, he, htr, hb, hcap⟩
        clear cg0 cg1 cg2 cg3 cg4 cg5 cg6 cg7 cg8 cg9 cg10 cg11 cg12 cg13 cg14
        replace g := obj_later hb g
        replace gs := obj_later hb gs
        replace hb0 := hb0.trans (hb.mono hb0.size)
        clear hb
        rw [hfw] at he htr
        subst he
        have hlen9 := HOF.out.len
        have hlsi : (ls.length : Int) ≤ 9 := by omega
        have d1 := ishrI HOF.out.stn
        have d2 := ishrI HOF.out.fln
        have d3 : bits .and .i64 (st : Int) (fl : Int) = 0 := by rw [iandI _ _ (by have := HOF.out.st9; omega) (by have := HOF.out.fl9; omega), HOF.out.no]; rfl
        have d4 := HOF.out.lo1
        have d5 := HOF.out.hi1
        have d6 := HOF.out.lo0
        have d7 := HOF.out.hin
        have d8 : (0 : Int) ≤ st := Int.natCast_nonneg _
        have d9 : (0 : Int) ≤ fl := Int.natCast_nonneg _
        have hn63 : s.l.length < 64 := by omega
        clear htl hsr hfw
        have cz := fun k => cell_block g k
        have cg0 := cz 0
        have cg1 := cz 1
        have cg2 := cz 2
        have cg3 := cz 3
        have cg4 := cz 4
        have cg5 := cz 5
        have cg6 := cz 6
        have cg7 := cz 7
        have cg8 := cz 8
        have cg9 := cz 9
        have cg10 := cz 10
        have cg11 := cz 11
        have cg12 := cz 12
        have cg13 := cz 13
        have cg14 := cz 14
        clear cz
        simp only [gA, gB, gC] at cg0 cg1 cg2 cg3 cg4 cg5 cg6 cg7 cg8 cg9 cg10 cg11 cg12 cg13 cg14
        have cz := fun k => cell_block gs k
        have cgs0 := cz 0
        have cgs1 := cz 1
        clear cz
        simp only [gA, gB, gC] at cgs0 cgs1
        go_wp2_with fail
        have hc := ilinside_any lo hi ls.length w4
        refine hc.mono ?_
        clear hc
        rintro e w5 ⟨he, hb⟩
        clear cg0 cg1 cg2 cg3 cg4 cg5 cg6 cg7 cg8 cg9 cg10 cg11 cg12 cg13 cg14 cgs0 cgs1
        replace g := obj_later hb g
        replace gs := obj_later hb gs
        replace hb0 := hb0.trans (hb.mono hb0.size)
        replace htr := htr.below hb (Nat.le_refl _)
        clear hb
        have hin : (decide (lo ≤ (ls.length : Int)) && decide ((ls.length : Int) ≤ hi)) = true := by simp [d4, d5]
        rw [hin] at he
        subst he
        clear hin
        have HTR := Lib.hid htr
        clear htr
        have cz := fun k => cell_block g k
        have cg0 := cz 0
        have cg1 := cz 1
        have cg2 := cz 2
        have cg3 := cz 3
        have cg4 := cz 4
        have cg5 := cz 5
        have cg6 := cz 6
        have cg7 := cz 7
        have cg8 := cz 8
        have cg9 := cz 9
        have cg10 := cz 10
        have cg11 := cz 11
        have cg12 := cz 12
        have cg13 := cz 13
        have cg14 := cz 14
        clear cz
        simp only [gA, gB, gC] at cg0 cg1 cg2 cg3 cg4 cg5 cg6 cg7 cg8 cg9 cg10 cg11 cg12 cg13 cg14
        have cz := fun k => cell_block gs k
        have cgs0 := cz 0
        have cgs1 := cz 1
        clear cz
        simp only [gA, gB, gC] at cgs0 cgs1
        go_upto_region 13 with fail
        clear cg0 cg1 cg2 cg3 cg4 cg5 cg6 cg7 cg8 cg9 cg10 cg11 cg12 cg13 cg14 cgs0 cgs1
        clear d1 d2 d3 d4 d5 d6 d7
        refine lopen_loop s fa fc p st fl c lo hi a ls w5 HOK HLEN (Lib.hid (fun W h => HIM.out W (hb0.trans (h.mono hb0.size)))) (Lib.hid g) HTR HOF HWH hn _ _ _ (by assumption) ?_
        intro s2 s11 s12 s13 s14 s15 s16 s17 s18 s19 s20 s21 s130 s131 s132 s133 s134 s135 s136 s137 s138 s139 s140 s141 s142 s143 s144 s145 s146 s147 s148 s149 s150 s151 s152 s153 s154 s155 s156 s157 s158 s159 s160 s161 s162 s163 s164 s165 s166 s167 s168 s169 s170 s171 s172 s173 s174 s175 s176 s177 s178 s179 s180 s181 s182 s183 s184 s185 s186 s187 s188 s189 s190 s191 s192 s193 s194 s195 s196 s197 s198 s199 s200 s201 s202 s203 s204 s205 s206 s207 s208 s209 s210 s211 s212 s213 s214 s215 s216 s217 s218 s219 s220 s221 s222 s223 s224 s225 s226 s227 s228 s229 s230 s231 s232 s233 s234 s235 s236 s237 s238 s239 s240 s241 s242 s243 s244 s245 s246 s247 s248 s249 s250 s251 s252 s253 s254 s255 s256 s257 s258 s259 s260 s261 s262 s263 s264 s265 s266 s267 s268 s269 s270 s271 s272 s273 s274 s275 s276 s277 s278 s279 s280 s281 s282 s283 s284 s285 s286 s287 s288 s289 s290 s291 s292 s293 s294 s295 s296 s297 s298 s299 s300 s301 s302 s303 s304 s305 s306 s307 s308 s309 s310 s311 s312 s313 s314 s315 s316 s317 s318 s319 s320 s321 s322 s323 s324 s325 s326 s327 s328 s329 s330 s331 s332 s333 s334 s335 s336 s337 s338 s339 s340 s341 s342 s343 s344 s345 s346 s347 s348 s349 s350 s351 s352 s353 s354 s355 s356 s357 s358 w9 hb9
        replace hb0 := hb0.trans (hb9.mono hb0.size)
        clear hb9 g gs
        go_wp2_with fail
        refine (iawake_any _).mono ?_
        rintro e w99 ⟨rfl, hb⟩
        go_wp2
        go_ret
        exact ⟨rfl, hb0.trans (hb.mono hb0.size)⟩
end Go.Proofs.Ytacioedolmaofaa
