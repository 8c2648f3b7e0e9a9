/- ImageOpen, walked: where a star lies (the end). ImageOpen, walked: where a star lies (the middle). ImageOpen, walked: where a star lies. ImageOpen, walked: no star at an image. -/
import Derived.Test.YtacioedolmaofaaLBA28
namespace Go.Proofs.Ytacioedolmaofaa
open Go.RowKit Go.Shelf
set_option maxHeartbeats 12800000
set_option maxRecDepth 100000
set_option linter.unusedSimpArgs false
set_option linter.unusedVariables false

/-- The operations of region 33. -/
noncomputable def ops33 : Array Oper := match (Try.f8.body.bind (findReg 33)).getD .skip with
  | .region _ o _ => o
  | _ => #[]

theorem lop33_68 (s : ISheet) (fc p q2 k fl ib io : Nat) (u : IStar) (y : ISpot) (W w : World) {z0 z2 z3 z5 z6 z7 z8 z9 z10 z12 z16 z17 z18 z19 z20 z21 z22 z23 z24 z25 z26 z27 z28 z29 z30 z31 z32 z33 z34 z35 z36 z37 z38 z39 z40 z41 z42 z43 z44 z45 z46 z47 z48 z49 z50 z51 z52 z53 z54 z55 z56 z57 z58 z59 z60 z61 z62 z63 z64 z65 z66 z67 z68 z69 z70 z71 z72 z73 z74 z75 z76 z77 z78 z79 z80 z81 z82 z83 z84 z85 z86 z87 z88 z89 z90 z91 z92 z93 z94 z95 z96 z97 z98 z99 z100 z101 z102 z103 z104 z105 z106 z107 z108 z109 z110 z111 z112 z113 z114 z115 z116 z117 z118 z119 z120 z121 z122 z123 z124 z125 z126 z127 z128 z129 z130 z131 z132 z133 z134 z135 z136 z137 z138 z139 z140 z141 z142 z143 z144 z145 z146 z147 z148 z149 z150 z151 z152 z153 z154 z155 z156 z157 z158 z159 z160 z161 z162 z163 z164 z165 z166 z167 z168 z169 z170 z171 z172 z173 z174 z175 z176 z177 z178 z179 z180 z181 z182 z183 z184 z185 z186 z187 z188 z189 z190 z191 z192 z193 z194 z195 z196 z197 z198 z199 z200 z201 z202 z203 z204 z205 z206 z207 z208 z209 z210 z211 z212 z213 z214 z215 z216 z217 z218 z219 z220 z221 z222 z223 z224 z225 z226 z227 z228 z229 z230 z231 z232 z233 z234 z235 z236 z237 z238 z239 z240 z241 z242 z243 z244 z245 z246 z247 z248 z249 z250 z251 z252 z253 z254 z255 z256 z358 z359 : Value} {z325 z326 z327 z328 z329 z330 z331 z332 z333 z334 z335 z336 z337 z338 z339 z340 z341 z342 z343 z344 z345 z346 z347 z348 z349 z350 z351 z352 z353 z354 z355 z356 z357 : Value}
    (k0 : ∀ W', Below W.heap.size W W' → W'.cell? ⟨p, 12, none⟩ = some (.int .i64 s.limit)) (k1 : ∀ W', Below W.heap.size W W' → W'.cell? ⟨p, 14, none⟩ = some (.slice (some ⟨ib, io, none⟩) s.l.length fc)) (k2 : ∀ W', Below W.heap.size W W' → W'.cell? ⟨q2, 0, none⟩ = some (.int .i64 u.x.lo)) (k3 : ∀ W', Below W.heap.size W W' → W'.cell? ⟨q2, 1, none⟩ = some (.int .i64 u.x.hi)) (k4 : ∀ W', Below W.heap.size W W' → W'.cell? ⟨q2 + 1, 0, none⟩ = some (.int .i64 u.y.lo)) (k5 : ∀ W', Below W.heap.size W W' → W'.cell? ⟨q2 + 1, 1, none⟩ = some (.int .i64 u.y.hi)) (k6 : ∀ W', Below W.heap.size W W' → W'.cell? ⟨q2 + 2, 0, none⟩ = some (.int .i64 u.s.lo)) (k7 : ∀ W', Below W.heap.size W W' → W'.cell? ⟨q2 + 2, 1, none⟩ = some (.int .i64 u.s.hi)) (k8 : ∀ W', Below W.heap.size W W' → W'.cell? ⟨ib, io + k * 6, none⟩ = some (.int .i64 y.x.lo)) (k9 : ∀ W', Below W.heap.size W W' → W'.cell? ⟨ib, io + k * 6 + 1, none⟩ = some (.int .i64 y.x.hi)) (k10 : ∀ W', Below W.heap.size W W' → W'.cell? ⟨ib, io + k * 6 + 2, none⟩ = some (.int .i64 y.y.lo)) (k11 : ∀ W', Below W.heap.size W W' → W'.cell? ⟨ib, io + k * 6 + 3, none⟩ = some (.int .i64 y.y.hi)) (k12 : ∀ W', Below W.heap.size W W' → W'.cell? ⟨ib, io + k * 6 + 4, none⟩ = some (.int .i64 y.s.lo)) (k13 : ∀ W', Below W.heap.size W W' → W'.cell? ⟨ib, io + k * 6 + 5, none⟩ = some (.int .i64 y.s.hi))
    (d0 : decide (u.x.hi < u.x.lo) = false) (d1 : decide (u.y.hi < u.y.lo) = false) (d2 : decide (u.s.hi < u.s.lo) = false) (d3 : decide (u.x.lo < y.x.lo) = false) (d4 : decide (y.x.hi < u.x.hi) = false) (d5 : decide (u.y.lo < y.y.lo) = false) (d6 : decide (y.y.hi < u.y.hi) = false) (d7 : decide (u.s.lo < if s.limit < y.s.lo then y.s.lo else s.limit) = false) (d8 : decide (y.s.hi < u.s.hi) = false) (b2 : bits .and .i64 ((fl : Int) / 2 ^ k) 1 = 0) (hk64 : k < 64) (hki64 : (k : Int) < 64) (hki : (k : Int) < s.l.length) (hn : (s.l.length : Int) ≤ 9) (hS : Below W.heap.size W w) (K : Act → World → Prop) (Q : Exit → Act → World → Prop)
    (hfin : ∀ (s257 s258 s259 s260 s261 s262 s263 s264 s265 s266 s267 s268 s269 s270 s271 s272 s273 s274 s275 s276 s277 s278 s279 s280 s281 s282 s283 s284 s285 s286 s287 s288 s289 s290 s291 s292 s293 s294 s295 s296 s297 s298 s299 s300 s301 s302 s303 s304 s305 s306 s307 s308 s309 s310 s311 s312 s313 s314 s315 s316 s317 s318 s319 s320 s321 s322 s323 s324 s325 s326 s327 s328 s329 s330 s331 s332 s333 s334 s335 s336 s337 s338 s339 s340 s341 s342 s343 s344 s345 s346 s347 s348 s349 s350 s351 s352 s353 s354 s355 s356 : Value), K ⟨(z0::(.pointer (some ⟨p, 0, none⟩))::z2::z3::(.int .i64 (fl : Int))::z5::z6::z7::z8::z9::z10::(.int .i64 (k : Int))::z12::(.pointer (some ⟨q2, 0, none⟩))::(.pointer (some ⟨q2 + 1, 0, none⟩))::(.pointer (some ⟨q2 + 2, 0, none⟩))::z16::z17::z18::z19::z20::z21::z22::z23::z24::z25::z26::z27::z28::z29::z30::z31::z32::z33::z34::z35::z36::z37::z38::z39::z40::z41::z42::z43::z44::z45::z46::z47::z48::z49::z50::z51::z52::z53::z54::z55::z56::z57::z58::z59::z60::z61::z62::z63::z64::z65::z66::z67::z68::z69::z70::z71::z72::z73::z74::z75::z76::z77::z78::z79::z80::z81::z82::z83::z84::z85::z86::z87::z88::z89::z90::z91::z92::z93::z94::z95::z96::z97::z98::z99::z100::z101::z102::z103::z104::z105::z106::z107::z108::z109::z110::z111::z112::z113::z114::z115::z116::z117::z118::z119::z120::z121::z122::z123::z124::z125::z126::z127::z128::z129::z130::z131::z132::z133::z134::z135::z136::z137::z138::z139::z140::z141::z142::z143::z144::z145::z146::z147::z148::z149::z150::z151::z152::z153::z154::z155::z156::z157::z158::z159::z160::z161::z162::z163::z164::z165::z166::z167::z168::z169::z170::z171::z172::z173::z174::z175::z176::z177::z178::z179::z180::z181::z182::z183::z184::z185::z186::z187::z188::z189::z190::z191::z192::z193::z194::z195::z196::z197::z198::z199::z200::z201::z202::z203::z204::z205::z206::z207::z208::z209::z210::z211::z212::z213::z214::z215::z216::z217::z218::z219::z220::z221::z222::z223::z224::z225::z226::z227::z228::z229::z230::z231::z232::z233::z234::z235::z236::z237::z238::z239::z240::z241::z242::z243::z244::z245::z246::z247::z248::z249::z250::z251::z252::z253::z254::z255::z256::s257::s258::s259::s260::s261::s262::s263::s264::s265::s266::s267::s268::s269::s270::s271::s272::s273::s274::s275::s276::s277::s278::s279::s280::s281::s282::s283::s284::s285::s286::s287::s288::s289::s290::s291::s292::s293::s294::s295::s296::s297::s298::s299::s300::s301::s302::s303::s304::s305::s306::s307::s308::s309::s310::s311::s312::s313::s314::s315::s316::s317::s318::s319::s320::s321::s322::s323::s324::s325::s326::s327::s328::s329::s330::s331::s332::s333::s334::s335::s336::s337::s338::s339::s340::s341::s342::s343::s344::s345::s346::s347::s348::s349::s350::s351::s352::s353::s354::s355::s356::(.bool false)::z358::z359 :: []).toArray, []⟩ w) :
    wpAnyW Try.prog 1 Region.Mode.any ops33 (onNormal (Exit.then K Q)) (Below W.heap.size W) 33 (((((((((((((((((((((((((((((((((((((((((((((((((((((((((((((((((((((Array.replicate 101 false).setIfInBounds 0 true).setIfInBounds 1 true).setIfInBounds 2 true).setIfInBounds 3 true).setIfInBounds 4 true).setIfInBounds 5 true).setIfInBounds 6 true).setIfInBounds 7 true).setIfInBounds 8 true).setIfInBounds 9 true).setIfInBounds 10 true).setIfInBounds 11 true).setIfInBounds 12 true).setIfInBounds 13 true).setIfInBounds 14 true).setIfInBounds 15 true).setIfInBounds 16 true).setIfInBounds 17 true).setIfInBounds 18 true).setIfInBounds 19 true).setIfInBounds 20 true).setIfInBounds 21 true).setIfInBounds 22 true).setIfInBounds 23 true).setIfInBounds 24 true).setIfInBounds 25 true).setIfInBounds 26 true).setIfInBounds 27 true).setIfInBounds 28 true).setIfInBounds 29 true).setIfInBounds 30 true).setIfInBounds 31 true).setIfInBounds 32 true).setIfInBounds 33 true).setIfInBounds 34 true).setIfInBounds 35 true).setIfInBounds 36 true).setIfInBounds 37 true).setIfInBounds 38 true).setIfInBounds 39 true).setIfInBounds 40 true).setIfInBounds 41 true).setIfInBounds 42 true).setIfInBounds 43 true).setIfInBounds 44 true).setIfInBounds 45 true).setIfInBounds 46 true).setIfInBounds 47 true).setIfInBounds 48 true).setIfInBounds 49 true).setIfInBounds 50 true).setIfInBounds 51 true).setIfInBounds 52 true).setIfInBounds 53 true).setIfInBounds 54 true).setIfInBounds 55 true).setIfInBounds 56 true).setIfInBounds 57 true).setIfInBounds 58 true).setIfInBounds 59 true).setIfInBounds 60 true).setIfInBounds 61 true).setIfInBounds 62 true).setIfInBounds 63 true).setIfInBounds 64 true).setIfInBounds 65 true).setIfInBounds 66 true).setIfInBounds 67 true) ⟨(z0::(.pointer (some ⟨p, 0, none⟩))::z2::z3::(.int .i64 (fl : Int))::z5::z6::z7::z8::z9::z10::(.int .i64 (k : Int))::z12::(.pointer (some ⟨q2, 0, none⟩))::(.pointer (some ⟨q2 + 1, 0, none⟩))::(.pointer (some ⟨q2 + 2, 0, none⟩))::z16::z17::z18::z19::z20::z21::z22::z23::z24::z25::z26::z27::z28::z29::z30::z31::z32::z33::z34::z35::z36::z37::z38::z39::z40::z41::z42::z43::z44::z45::z46::z47::z48::z49::z50::z51::z52::z53::z54::z55::z56::z57::z58::z59::z60::z61::z62::z63::z64::z65::z66::z67::z68::z69::z70::z71::z72::z73::z74::z75::z76::z77::z78::z79::z80::z81::z82::z83::z84::z85::z86::z87::z88::z89::z90::z91::z92::z93::z94::z95::z96::z97::z98::z99::z100::z101::z102::z103::z104::z105::z106::z107::z108::z109::z110::z111::z112::z113::z114::z115::z116::z117::z118::z119::z120::z121::z122::z123::z124::z125::z126::z127::z128::z129::z130::z131::z132::z133::z134::z135::z136::z137::z138::z139::z140::z141::z142::z143::z144::z145::z146::z147::z148::z149::z150::z151::z152::z153::z154::z155::z156::z157::z158::z159::z160::z161::z162::z163::z164::z165::z166::z167::z168::z169::z170::z171::z172::z173::z174::z175::z176::z177::z178::z179::z180::z181::z182::z183::z184::z185::z186::z187::z188::z189::z190::z191::z192::z193::z194::z195::z196::z197::z198::z199::z200::z201::z202::z203::z204::z205::z206::z207::z208::z209::z210::z211::z212::z213::z214::z215::z216::z217::z218::z219::z220::z221::z222::z223::z224::z225::z226::z227::z228::z229::z230::z231::z232::z233::z234::z235::z236::z237::z238::z239::z240::z241::z242::z243::z244::z245::z246::z247::z248::z249::z250::z251::z252::z253::z254::z255::z256::(.int .i64 (fl : Int))::(.int .i64 (k : Int))::(.int .i64 ((fl : Int) / 2 ^ k))::(.int .i64 0)::(.bool false)::(.bool false)::(.pointer (some ⟨q2, 0, none⟩))::(.int .i64 u.x.lo)::(.pointer (some ⟨q2, 1, none⟩))::(.int .i64 u.x.hi)::(.bool false)::(.bool false)::(.bool false)::(.pointer (some ⟨q2 + 1, 0, none⟩))::(.int .i64 u.y.lo)::(.pointer (some ⟨q2 + 1, 1, none⟩))::(.int .i64 u.y.hi)::(.bool false)::(.bool false)::(.bool false)::(.pointer (some ⟨q2 + 2, 0, none⟩))::(.int .i64 u.s.lo)::(.pointer (some ⟨q2 + 2, 1, none⟩))::(.int .i64 u.s.hi)::(.bool false)::(.bool false)::(.bool false)::(.pointer (some ⟨q2, 0, none⟩))::(.int .i64 u.x.lo)::(.pointer (some ⟨p, 14, none⟩))::(.slice (some ⟨ib, io, none⟩) s.l.length fc)::(.int .i64 (k : Int))::(.pointer (some ⟨ib, io + k * 6, none⟩))::(.pointer (some ⟨ib, io + k * 6, none⟩))::(.pointer (some ⟨ib, io + k * 6, none⟩))::(.int .i64 y.x.lo)::(.bool false)::(.bool false)::(.bool false)::(.pointer (some ⟨q2, 1, none⟩))::(.int .i64 u.x.hi)::(.pointer (some ⟨p, 14, none⟩))::(.slice (some ⟨ib, io, none⟩) s.l.length fc)::(.int .i64 (k : Int))::(.pointer (some ⟨ib, io + k * 6, none⟩))::(.pointer (some ⟨ib, io + k * 6, none⟩))::(.pointer (some ⟨ib, io + k * 6 + 1, none⟩))::(.int .i64 y.x.hi)::(.bool false)::(.bool false)::(.bool false)::(.pointer (some ⟨q2 + 1, 0, none⟩))::(.int .i64 u.y.lo)::(.pointer (some ⟨p, 14, none⟩))::(.slice (some ⟨ib, io, none⟩) s.l.length fc)::(.int .i64 (k : Int))::(.pointer (some ⟨ib, io + k * 6, none⟩))::(.pointer (some ⟨ib, io + k * 6 + 2, none⟩))::(.pointer (some ⟨ib, io + k * 6 + 2, none⟩))::(.int .i64 y.y.lo)::(.bool false)::(.bool false)::(.bool false)::(.pointer (some ⟨q2 + 1, 1, none⟩))::(.int .i64 u.y.hi)::(.pointer (some ⟨p, 14, none⟩))::(.slice (some ⟨ib, io, none⟩) s.l.length fc)::(.int .i64 (k : Int))::z325::z326::z327::z328::z329::z330::z331::z332::z333::z334::z335::z336::z337::z338::z339::z340::z341::z342::z343::z344::z345::z346::z347::z348::z349::z350::z351::z352::z353::z354::z355::z356::z357::z358::z359 :: []).toArray, []⟩ w := by
  have HFIN := Lib.hid hfin
  clear hfin
  conv => arg 4; whnf
  refine wTk 68 325 ?_ ?_ ?_
  rotate_left
  · intro o h w k; (try dsimp only at k); (conv at h => lhs; whnf; arg 1; whnf); simp only [gG] at h; subst h; go_simp; try with_reducible rfl
  simp only [Act.put, gD, gE, gF]
  refine wTk 69 326 ?_ ?_ ?_
  rotate_left
  · intro o h w k; (try dsimp only at k); (conv at h => lhs; whnf; arg 1; whnf); simp only [gG] at h; subst h; go_simp; try with_reducible rfl
  simp only [Act.put, gD, gE, gF]
  refine wTk 70 327 ?_ ?_ ?_
  rotate_left
  · intro o h w k; (try dsimp only at k); (conv at h => lhs; whnf; arg 1; whnf); simp only [gG] at h; subst h; go_simp; try with_reducible rfl
  simp only [Act.put, gD, gE, gF]
  refine wTk 71 328 ?_ ?_ ?_
  rotate_left
  · intro o h w k; (try dsimp only at k); (conv at h => lhs; whnf; arg 1; whnf); simp only [gG] at h; subst h; go_simp; try with_reducible rfl
  simp only [Act.put, gD, gE, gF]
  refine wTk 72 329 ?_ ?_ ?_
  rotate_left
  · intro o h w k; (try dsimp only at k); (conv at h => lhs; whnf; arg 1; whnf); simp only [gG] at h; subst h; go_simp; try with_reducible rfl
  simp only [Act.put, gD, gE, gF]
  refine wTk 73 330 ?_ ?_ ?_
  rotate_left
  · intro o h w k; (try dsimp only at k); (conv at h => lhs; whnf; arg 1; whnf); simp only [gG] at h; subst h; go_simp; try with_reducible rfl
  simp only [Act.put, gD, gE, gF]
  refine wTk 74 331 ?_ ?_ ?_
  rotate_left
  · intro o h w k; (try dsimp only at k); (conv at h => lhs; whnf; arg 1; whnf); simp only [gG] at h; subst h; go_simp; try with_reducible rfl
  simp only [Act.put, gD, gE, gF]
  refine wTk 75 332 ?_ ?_ ?_
  rotate_left
  · intro o h w k; (try dsimp only at k); (conv at h => lhs; whnf; arg 1; whnf); simp only [gG] at h; subst h; go_simp; try with_reducible rfl
  simp only [Act.put, gD, gE, gF]
  refine wTk 76 333 ?_ ?_ ?_
  rotate_left
  · intro o h w k; (try dsimp only at k); (conv at h => lhs; whnf; arg 1; whnf); simp only [gG] at h; subst h; go_simp; try with_reducible rfl
  simp only [Act.put, gD, gE, gF]
  refine wTk 77 334 ?_ ?_ ?_
  rotate_left
  · intro o h w k; (try dsimp only at k); (conv at h => lhs; whnf; arg 1; whnf); simp only [gG] at h; subst h; go_simp; try with_reducible rfl
  simp only [Act.put, gD, gE, gF]
  refine wTk 78 335 ?_ ?_ ?_
  rotate_left
  · intro o h w k; (try dsimp only at k); (conv at h => lhs; whnf; arg 1; whnf); simp only [gG] at h; subst h; go_simp; try with_reducible rfl
  simp only [Act.put, gD, gE, gF]
  refine wTk 79 336 ?_ ?_ ?_
  rotate_left
  · intro o h w k; (try dsimp only at k); (conv at h => lhs; whnf; arg 1; whnf); simp only [gG] at h; subst h; go_simp; try with_reducible rfl
  simp only [Act.put, gD, gE, gF]
  refine wTk 80 337 ?_ ?_ ?_
  rotate_left
  · intro o h w k; (try dsimp only at k); (conv at h => lhs; whnf; arg 1; whnf); simp only [gG] at h; subst h; go_simp; try with_reducible rfl
  simp only [Act.put, gD, gE, gF]
  refine wTk 81 338 ?_ ?_ ?_
  rotate_left
  · intro o h w k; (try dsimp only at k); (conv at h => lhs; whnf; arg 1; whnf); simp only [gG] at h; subst h; go_simp; try with_reducible rfl
  simp only [Act.put, gD, gE, gF]
  refine wTk 82 339 ?_ ?_ ?_
  rotate_left
  · intro o h w k; (try dsimp only at k); (conv at h => lhs; whnf; arg 1; whnf); simp only [gG] at h; subst h; go_simp; try with_reducible rfl
  simp only [Act.put, gD, gE, gF]
  refine wTk 83 340 ?_ ?_ ?_
  rotate_left
  · intro o h w k; (try dsimp only at k); (conv at h => lhs; whnf; arg 1; whnf); simp only [gG] at h; subst h; go_simp; try with_reducible rfl
  simp only [Act.put, gD, gE, gF]
  refine wTk 84 341 ?_ ?_ ?_
  rotate_left
  · intro o h w k; (try dsimp only at k); (conv at h => lhs; whnf; arg 1; whnf); simp only [gG] at h; subst h; go_simp; try with_reducible rfl
  simp only [Act.put, gD, gE, gF]
  refine wTk 85 342 ?_ ?_ ?_
  rotate_left
  · intro o h w k; (try dsimp only at k); (conv at h => lhs; whnf; arg 1; whnf); simp only [gG] at h; subst h; go_simp; try with_reducible rfl
  simp only [Act.put, gD, gE, gF]
  refine wTk 86 343 ?_ ?_ ?_
  rotate_left
  · intro o h w k; (try dsimp only at k); (conv at h => lhs; whnf; arg 1; whnf); simp only [gG] at h; subst h; go_simp; try with_reducible rfl
  simp only [Act.put, gD, gE, gF]
  refine wTk 87 344 ?_ ?_ ?_
  rotate_left
  · intro o h w k; (try dsimp only at k); (conv at h => lhs; whnf; arg 1; whnf); simp only [gG] at h; subst h; go_simp; try with_reducible rfl
  simp only [Act.put, gD, gE, gF]
  refine wTk 88 345 ?_ ?_ ?_
  rotate_left
  · intro o h w k; (try dsimp only at k); (conv at h => lhs; whnf; arg 1; whnf); simp only [gG] at h; subst h; go_simp; try with_reducible rfl
  simp only [Act.put, gD, gE, gF]
  refine wTk 89 346 ?_ ?_ ?_
  rotate_left
  · intro o h w k; (try dsimp only at k); (conv at h => lhs; whnf; arg 1; whnf); simp only [gG] at h; subst h; go_simp; try with_reducible rfl
  simp only [Act.put, gD, gE, gF]
  refine wTk 90 347 ?_ ?_ ?_
  rotate_left
  · intro o h w k; (try dsimp only at k); (conv at h => lhs; whnf; arg 1; whnf); simp only [gG] at h; subst h; go_simp; try with_reducible rfl
  simp only [Act.put, gD, gE, gF]
  refine wTk 91 348 ?_ ?_ ?_
  rotate_left
  · intro o h w k; (try dsimp only at k); (conv at h => lhs; whnf; arg 1; whnf); simp only [gG] at h; subst h; go_simp; try with_reducible rfl
  simp only [Act.put, gD, gE, gF]
  refine wTk 92 349 ?_ ?_ ?_
  rotate_left
  · intro o h w k; (try dsimp only at k); (conv at h => lhs; whnf; arg 1; whnf); simp only [gG] at h; subst h; go_simp; try with_reducible rfl
  simp only [Act.put, gD, gE, gF]
  refine wTk 93 350 ?_ ?_ ?_
  rotate_left
  · intro o h w k; (try dsimp only at k); (conv at h => lhs; whnf; arg 1; whnf); simp only [gG] at h; subst h; go_simp; try with_reducible rfl
  simp only [Act.put, gD, gE, gF]
  refine wTk 94 351 ?_ ?_ ?_
  rotate_left
  · intro o h w k; (try dsimp only at k); (conv at h => lhs; whnf; arg 1; whnf); simp only [gG] at h; subst h; go_simp; try with_reducible rfl
  simp only [Act.put, gD, gE, gF]
  refine wTk 95 352 ?_ ?_ ?_
  rotate_left
  · intro o h w k; (try dsimp only at k); (conv at h => lhs; whnf; arg 1; whnf); simp only [gG] at h; subst h; go_simp; try with_reducible rfl
  simp only [Act.put, gD, gE, gF]
  refine wTk 96 353 ?_ ?_ ?_
  rotate_left
  · intro o h w k; (try dsimp only at k); (conv at h => lhs; whnf; arg 1; whnf); simp only [gG] at h; subst h; go_simp; try with_reducible rfl
  simp only [Act.put, gD, gE, gF]
  refine wTk 97 354 ?_ ?_ ?_
  rotate_left
  · intro o h w k; (try dsimp only at k); (conv at h => lhs; whnf; arg 1; whnf); simp only [gG] at h; subst h; go_simp; try with_reducible rfl
  simp only [Act.put, gD, gE, gF]
  refine wTk 98 355 ?_ ?_ ?_
  rotate_left
  · intro o h w k; (try dsimp only at k); (conv at h => lhs; whnf; arg 1; whnf); simp only [gG] at h; subst h; go_simp; try with_reducible rfl
  simp only [Act.put, gD, gE, gF]
  refine wTk 99 356 ?_ ?_ ?_
  rotate_left
  · intro o h w k; (try dsimp only at k); (conv at h => lhs; whnf; arg 1; whnf); simp only [gG] at h; subst h; go_simp; try with_reducible rfl
  simp only [Act.put, gD, gE, gF]
  refine wTk 100 357 ?_ ?_ ?_
  rotate_left
  · intro o h w k; (try dsimp only at k); (conv at h => lhs; whnf; arg 1; whnf); simp only [gG] at h; subst h; go_simp; try with_reducible rfl
  simp only [Act.put, gD, gE, gF]
  refine wpAnyW_done (by kernel_rfl) ?_ _
  dsimp only [onNormal]
  exact HFIN.out _ _ _ _ _ _ _ _ _ _ _ _ _ _ _ _ _ _ _ _ _ _ _ _ _ _ _ _ _ _ _ _ _ _ _ _ _ _ _ _ _ _ _ _ _ _ _ _ _ _ _ _ _ _ _ _ _ _ _ _ _ _ _ _ _ _ _ _ _ _ _ _ _ _ _ _ _ _ _ _ _ _ _ _ _ _ _ _ _ _ _ _ _ _ _ _ _ _ _ _
end Go.Proofs.Ytacioedolmaofaa
namespace Go.Proofs.Ytacioedolmaofaa
open Go.RowKit Go.Shelf
set_option maxHeartbeats 12800000
set_option maxRecDepth 100000
set_option linter.unusedSimpArgs false
set_option linter.unusedVariables false

theorem lop33_34 (s : ISheet) (fc p q2 k fl ib io : Nat) (u : IStar) (y : ISpot) (W w : World) {z0 z2 z3 z5 z6 z7 z8 z9 z10 z12 z16 z17 z18 z19 z20 z21 z22 z23 z24 z25 z26 z27 z28 z29 z30 z31 z32 z33 z34 z35 z36 z37 z38 z39 z40 z41 z42 z43 z44 z45 z46 z47 z48 z49 z50 z51 z52 z53 z54 z55 z56 z57 z58 z59 z60 z61 z62 z63 z64 z65 z66 z67 z68 z69 z70 z71 z72 z73 z74 z75 z76 z77 z78 z79 z80 z81 z82 z83 z84 z85 z86 z87 z88 z89 z90 z91 z92 z93 z94 z95 z96 z97 z98 z99 z100 z101 z102 z103 z104 z105 z106 z107 z108 z109 z110 z111 z112 z113 z114 z115 z116 z117 z118 z119 z120 z121 z122 z123 z124 z125 z126 z127 z128 z129 z130 z131 z132 z133 z134 z135 z136 z137 z138 z139 z140 z141 z142 z143 z144 z145 z146 z147 z148 z149 z150 z151 z152 z153 z154 z155 z156 z157 z158 z159 z160 z161 z162 z163 z164 z165 z166 z167 z168 z169 z170 z171 z172 z173 z174 z175 z176 z177 z178 z179 z180 z181 z182 z183 z184 z185 z186 z187 z188 z189 z190 z191 z192 z193 z194 z195 z196 z197 z198 z199 z200 z201 z202 z203 z204 z205 z206 z207 z208 z209 z210 z211 z212 z213 z214 z215 z216 z217 z218 z219 z220 z221 z222 z223 z224 z225 z226 z227 z228 z229 z230 z231 z232 z233 z234 z235 z236 z237 z238 z239 z240 z241 z242 z243 z244 z245 z246 z247 z248 z249 z250 z251 z252 z253 z254 z255 z256 z358 z359 : Value} {z291 z292 z293 z294 z295 z296 z297 z298 z299 z300 z301 z302 z303 z304 z305 z306 z307 z308 z309 z310 z311 z312 z313 z314 z315 z316 z317 z318 z319 z320 z321 z322 z323 z324 z325 z326 z327 z328 z329 z330 z331 z332 z333 z334 z335 z336 z337 z338 z339 z340 z341 z342 z343 z344 z345 z346 z347 z348 z349 z350 z351 z352 z353 z354 z355 z356 z357 : Value}
    (k0 : ∀ W', Below W.heap.size W W' → W'.cell? ⟨p, 12, none⟩ = some (.int .i64 s.limit)) (k1 : ∀ W', Below W.heap.size W W' → W'.cell? ⟨p, 14, none⟩ = some (.slice (some ⟨ib, io, none⟩) s.l.length fc)) (k2 : ∀ W', Below W.heap.size W W' → W'.cell? ⟨q2, 0, none⟩ = some (.int .i64 u.x.lo)) (k3 : ∀ W', Below W.heap.size W W' → W'.cell? ⟨q2, 1, none⟩ = some (.int .i64 u.x.hi)) (k4 : ∀ W', Below W.heap.size W W' → W'.cell? ⟨q2 + 1, 0, none⟩ = some (.int .i64 u.y.lo)) (k5 : ∀ W', Below W.heap.size W W' → W'.cell? ⟨q2 + 1, 1, none⟩ = some (.int .i64 u.y.hi)) (k6 : ∀ W', Below W.heap.size W W' → W'.cell? ⟨q2 + 2, 0, none⟩ = some (.int .i64 u.s.lo)) (k7 : ∀ W', Below W.heap.size W W' → W'.cell? ⟨q2 + 2, 1, none⟩ = some (.int .i64 u.s.hi)) (k8 : ∀ W', Below W.heap.size W W' → W'.cell? ⟨ib, io + k * 6, none⟩ = some (.int .i64 y.x.lo)) (k9 : ∀ W', Below W.heap.size W W' → W'.cell? ⟨ib, io + k * 6 + 1, none⟩ = some (.int .i64 y.x.hi)) (k10 : ∀ W', Below W.heap.size W W' → W'.cell? ⟨ib, io + k * 6 + 2, none⟩ = some (.int .i64 y.y.lo)) (k11 : ∀ W', Below W.heap.size W W' → W'.cell? ⟨ib, io + k * 6 + 3, none⟩ = some (.int .i64 y.y.hi)) (k12 : ∀ W', Below W.heap.size W W' → W'.cell? ⟨ib, io + k * 6 + 4, none⟩ = some (.int .i64 y.s.lo)) (k13 : ∀ W', Below W.heap.size W W' → W'.cell? ⟨ib, io + k * 6 + 5, none⟩ = some (.int .i64 y.s.hi))
    (d0 : decide (u.x.hi < u.x.lo) = false) (d1 : decide (u.y.hi < u.y.lo) = false) (d2 : decide (u.s.hi < u.s.lo) = false) (d3 : decide (u.x.lo < y.x.lo) = false) (d4 : decide (y.x.hi < u.x.hi) = false) (d5 : decide (u.y.lo < y.y.lo) = false) (d6 : decide (y.y.hi < u.y.hi) = false) (d7 : decide (u.s.lo < if s.limit < y.s.lo then y.s.lo else s.limit) = false) (d8 : decide (y.s.hi < u.s.hi) = false) (b2 : bits .and .i64 ((fl : Int) / 2 ^ k) 1 = 0) (hk64 : k < 64) (hki64 : (k : Int) < 64) (hki : (k : Int) < s.l.length) (hn : (s.l.length : Int) ≤ 9) (hS : Below W.heap.size W w) (K : Act → World → Prop) (Q : Exit → Act → World → Prop)
    (hfin : ∀ (s257 s258 s259 s260 s261 s262 s263 s264 s265 s266 s267 s268 s269 s270 s271 s272 s273 s274 s275 s276 s277 s278 s279 s280 s281 s282 s283 s284 s285 s286 s287 s288 s289 s290 s291 s292 s293 s294 s295 s296 s297 s298 s299 s300 s301 s302 s303 s304 s305 s306 s307 s308 s309 s310 s311 s312 s313 s314 s315 s316 s317 s318 s319 s320 s321 s322 s323 s324 s325 s326 s327 s328 s329 s330 s331 s332 s333 s334 s335 s336 s337 s338 s339 s340 s341 s342 s343 s344 s345 s346 s347 s348 s349 s350 s351 s352 s353 s354 s355 s356 : Value), K ⟨(z0::(.pointer (some ⟨p, 0, none⟩))::z2::z3::(.int .i64 (fl : Int))::z5::z6::z7::z8::z9::z10::(.int .i64 (k : Int))::z12::(.pointer (some ⟨q2, 0, none⟩))::(.pointer (some ⟨q2 + 1, 0, none⟩))::(.pointer (some ⟨q2 + 2, 0, none⟩))::z16::z17::z18::z19::z20::z21::z22::z23::z24::z25::z26::z27::z28::z29::z30::z31::z32::z33::z34::z35::z36::z37::z38::z39::z40::z41::z42::z43::z44::z45::z46::z47::z48::z49::z50::z51::z52::z53::z54::z55::z56::z57::z58::z59::z60::z61::z62::z63::z64::z65::z66::z67::z68::z69::z70::z71::z72::z73::z74::z75::z76::z77::z78::z79::z80::z81::z82::z83::z84::z85::z86::z87::z88::z89::z90::z91::z92::z93::z94::z95::z96::z97::z98::z99::z100::z101::z102::z103::z104::z105::z106::z107::z108::z109::z110::z111::z112::z113::z114::z115::z116::z117::z118::z119::z120::z121::z122::z123::z124::z125::z126::z127::z128::z129::z130::z131::z132::z133::z134::z135::z136::z137::z138::z139::z140::z141::z142::z143::z144::z145::z146::z147::z148::z149::z150::z151::z152::z153::z154::z155::z156::z157::z158::z159::z160::z161::z162::z163::z164::z165::z166::z167::z168::z169::z170::z171::z172::z173::z174::z175::z176::z177::z178::z179::z180::z181::z182::z183::z184::z185::z186::z187::z188::z189::z190::z191::z192::z193::z194::z195::z196::z197::z198::z199::z200::z201::z202::z203::z204::z205::z206::z207::z208::z209::z210::z211::z212::z213::z214::z215::z216::z217::z218::z219::z220::z221::z222::z223::z224::z225::z226::z227::z228::z229::z230::z231::z232::z233::z234::z235::z236::z237::z238::z239::z240::z241::z242::z243::z244::z245::z246::z247::z248::z249::z250::z251::z252::z253::z254::z255::z256::s257::s258::s259::s260::s261::s262::s263::s264::s265::s266::s267::s268::s269::s270::s271::s272::s273::s274::s275::s276::s277::s278::s279::s280::s281::s282::s283::s284::s285::s286::s287::s288::s289::s290::s291::s292::s293::s294::s295::s296::s297::s298::s299::s300::s301::s302::s303::s304::s305::s306::s307::s308::s309::s310::s311::s312::s313::s314::s315::s316::s317::s318::s319::s320::s321::s322::s323::s324::s325::s326::s327::s328::s329::s330::s331::s332::s333::s334::s335::s336::s337::s338::s339::s340::s341::s342::s343::s344::s345::s346::s347::s348::s349::s350::s351::s352::s353::s354::s355::s356::(.bool false)::z358::z359 :: []).toArray, []⟩ w) :
    wpAnyW Try.prog 1 Region.Mode.any ops33 (onNormal (Exit.then K Q)) (Below W.heap.size W) 67 (((((((((((((((((((((((((((((((((((Array.replicate 101 false).setIfInBounds 0 true).setIfInBounds 1 true).setIfInBounds 2 true).setIfInBounds 3 true).setIfInBounds 4 true).setIfInBounds 5 true).setIfInBounds 6 true).setIfInBounds 7 true).setIfInBounds 8 true).setIfInBounds 9 true).setIfInBounds 10 true).setIfInBounds 11 true).setIfInBounds 12 true).setIfInBounds 13 true).setIfInBounds 14 true).setIfInBounds 15 true).setIfInBounds 16 true).setIfInBounds 17 true).setIfInBounds 18 true).setIfInBounds 19 true).setIfInBounds 20 true).setIfInBounds 21 true).setIfInBounds 22 true).setIfInBounds 23 true).setIfInBounds 24 true).setIfInBounds 25 true).setIfInBounds 26 true).setIfInBounds 27 true).setIfInBounds 28 true).setIfInBounds 29 true).setIfInBounds 30 true).setIfInBounds 31 true).setIfInBounds 32 true).setIfInBounds 33 true) ⟨(z0::(.pointer (some ⟨p, 0, none⟩))::z2::z3::(.int .i64 (fl : Int))::z5::z6::z7::z8::z9::z10::(.int .i64 (k : Int))::z12::(.pointer (some ⟨q2, 0, none⟩))::(.pointer (some ⟨q2 + 1, 0, none⟩))::(.pointer (some ⟨q2 + 2, 0, none⟩))::z16::z17::z18::z19::z20::z21::z22::z23::z24::z25::z26::z27::z28::z29::z30::z31::z32::z33::z34::z35::z36::z37::z38::z39::z40::z41::z42::z43::z44::z45::z46::z47::z48::z49::z50::z51::z52::z53::z54::z55::z56::z57::z58::z59::z60::z61::z62::z63::z64::z65::z66::z67::z68::z69::z70::z71::z72::z73::z74::z75::z76::z77::z78::z79::z80::z81::z82::z83::z84::z85::z86::z87::z88::z89::z90::z91::z92::z93::z94::z95::z96::z97::z98::z99::z100::z101::z102::z103::z104::z105::z106::z107::z108::z109::z110::z111::z112::z113::z114::z115::z116::z117::z118::z119::z120::z121::z122::z123::z124::z125::z126::z127::z128::z129::z130::z131::z132::z133::z134::z135::z136::z137::z138::z139::z140::z141::z142::z143::z144::z145::z146::z147::z148::z149::z150::z151::z152::z153::z154::z155::z156::z157::z158::z159::z160::z161::z162::z163::z164::z165::z166::z167::z168::z169::z170::z171::z172::z173::z174::z175::z176::z177::z178::z179::z180::z181::z182::z183::z184::z185::z186::z187::z188::z189::z190::z191::z192::z193::z194::z195::z196::z197::z198::z199::z200::z201::z202::z203::z204::z205::z206::z207::z208::z209::z210::z211::z212::z213::z214::z215::z216::z217::z218::z219::z220::z221::z222::z223::z224::z225::z226::z227::z228::z229::z230::z231::z232::z233::z234::z235::z236::z237::z238::z239::z240::z241::z242::z243::z244::z245::z246::z247::z248::z249::z250::z251::z252::z253::z254::z255::z256::(.int .i64 (fl : Int))::(.int .i64 (k : Int))::(.int .i64 ((fl : Int) / 2 ^ k))::(.int .i64 0)::(.bool false)::(.bool false)::(.pointer (some ⟨q2, 0, none⟩))::(.int .i64 u.x.lo)::(.pointer (some ⟨q2, 1, none⟩))::(.int .i64 u.x.hi)::(.bool false)::(.bool false)::(.bool false)::(.pointer (some ⟨q2 + 1, 0, none⟩))::(.int .i64 u.y.lo)::(.pointer (some ⟨q2 + 1, 1, none⟩))::(.int .i64 u.y.hi)::(.bool false)::(.bool false)::(.bool false)::(.pointer (some ⟨q2 + 2, 0, none⟩))::(.int .i64 u.s.lo)::(.pointer (some ⟨q2 + 2, 1, none⟩))::(.int .i64 u.s.hi)::(.bool false)::(.bool false)::(.bool false)::(.pointer (some ⟨q2, 0, none⟩))::(.int .i64 u.x.lo)::(.pointer (some ⟨p, 14, none⟩))::(.slice (some ⟨ib, io, none⟩) s.l.length fc)::(.int .i64 (k : Int))::(.pointer (some ⟨ib, io + k * 6, none⟩))::(.pointer (some ⟨ib, io + k * 6, none⟩))::z291::z292::z293::z294::z295::z296::z297::z298::z299::z300::z301::z302::z303::z304::z305::z306::z307::z308::z309::z310::z311::z312::z313::z314::z315::z316::z317::z318::z319::z320::z321::z322::z323::z324::z325::z326::z327::z328::z329::z330::z331::z332::z333::z334::z335::z336::z337::z338::z339::z340::z341::z342::z343::z344::z345::z346::z347::z348::z349::z350::z351::z352::z353::z354::z355::z356::z357::z358::z359 :: []).toArray, []⟩ w := by
  have HFIN := Lib.hid hfin
  clear hfin
  conv => arg 4; whnf
  refine wTk 34 291 ?_ ?_ ?_
  rotate_left
  · intro o h w k; (try dsimp only at k); (conv at h => lhs; whnf; arg 1; whnf); simp only [gG] at h; subst h; go_simp; try with_reducible rfl
  simp only [Act.put, gD, gE, gF]
  refine wTk 35 292 ?_ ?_ ?_
  rotate_left
  · intro o h w k; (try dsimp only at k); (conv at h => lhs; whnf; arg 1; whnf); simp only [gG] at h; subst h; go_simp; try with_reducible rfl
  simp only [Act.put, gD, gE, gF]
  refine wTk 36 293 ?_ ?_ ?_
  rotate_left
  · intro o h w k; (try dsimp only at k); (conv at h => lhs; whnf; arg 1; whnf); simp only [gG] at h; subst h; go_simp; try with_reducible rfl
  simp only [Act.put, gD, gE, gF]
  refine wTk 37 294 ?_ ?_ ?_
  rotate_left
  · intro o h w k; (try dsimp only at k); (conv at h => lhs; whnf; arg 1; whnf); simp only [gG] at h; subst h; go_simp; try with_reducible rfl
  simp only [Act.put, gD, gE, gF]
  refine wTk 38 295 ?_ ?_ ?_
  rotate_left
  · intro o h w k; (try dsimp only at k); (conv at h => lhs; whnf; arg 1; whnf); simp only [gG] at h; subst h; go_simp; try with_reducible rfl
  simp only [Act.put, gD, gE, gF]
  refine wTk 39 296 ?_ ?_ ?_
  rotate_left
  · intro o h w k; (try dsimp only at k); (conv at h => lhs; whnf; arg 1; whnf); simp only [gG] at h; subst h; go_simp; try with_reducible rfl
  simp only [Act.put, gD, gE, gF]
  refine wTk 40 297 ?_ ?_ ?_
  rotate_left
  · intro o h w k; (try dsimp only at k); (conv at h => lhs; whnf; arg 1; whnf); simp only [gG] at h; subst h; go_simp; try with_reducible rfl
  simp only [Act.put, gD, gE, gF]
  refine wTk 41 298 ?_ ?_ ?_
  rotate_left
  · intro o h w k; (try dsimp only at k); (conv at h => lhs; whnf; arg 1; whnf); simp only [gG] at h; subst h; go_simp; try with_reducible rfl
  simp only [Act.put, gD, gE, gF]
  refine wTk 42 299 ?_ ?_ ?_
  rotate_left
  · intro o h w k; (try dsimp only at k); (conv at h => lhs; whnf; arg 1; whnf); simp only [gG] at h; subst h; go_simp; try with_reducible rfl
  simp only [Act.put, gD, gE, gF]
  refine wTk 43 300 ?_ ?_ ?_
  rotate_left
  · intro o h w k; (try dsimp only at k); (conv at h => lhs; whnf; arg 1; whnf); simp only [gG] at h; subst h; go_simp; try with_reducible rfl
  simp only [Act.put, gD, gE, gF]
  refine wTk 44 301 ?_ ?_ ?_
  rotate_left
  · intro o h w k; (try dsimp only at k); (conv at h => lhs; whnf; arg 1; whnf); simp only [gG] at h; subst h; go_simp; try with_reducible rfl
  simp only [Act.put, gD, gE, gF]
  refine wTk 45 302 ?_ ?_ ?_
  rotate_left
  · intro o h w k; (try dsimp only at k); (conv at h => lhs; whnf; arg 1; whnf); simp only [gG] at h; subst h; go_simp; try with_reducible rfl
  simp only [Act.put, gD, gE, gF]
  refine wTk 46 303 ?_ ?_ ?_
  rotate_left
  · intro o h w k; (try dsimp only at k); (conv at h => lhs; whnf; arg 1; whnf); simp only [gG] at h; subst h; go_simp; try with_reducible rfl
  simp only [Act.put, gD, gE, gF]
  refine wTk 47 304 ?_ ?_ ?_
  rotate_left
  · intro o h w k; (try dsimp only at k); (conv at h => lhs; whnf; arg 1; whnf); simp only [gG] at h; subst h; go_simp; try with_reducible rfl
  simp only [Act.put, gD, gE, gF]
  refine wTk 48 305 ?_ ?_ ?_
  rotate_left
  · intro o h w k; (try dsimp only at k); (conv at h => lhs; whnf; arg 1; whnf); simp only [gG] at h; subst h; go_simp; try with_reducible rfl
  simp only [Act.put, gD, gE, gF]
  refine wTk 49 306 ?_ ?_ ?_
  rotate_left
  · intro o h w k; (try dsimp only at k); (conv at h => lhs; whnf; arg 1; whnf); simp only [gG] at h; subst h; go_simp; try with_reducible rfl
  simp only [Act.put, gD, gE, gF]
  refine wTk 50 307 ?_ ?_ ?_
  rotate_left
  · intro o h w k; (try dsimp only at k); (conv at h => lhs; whnf; arg 1; whnf); simp only [gG] at h; subst h; go_simp; try with_reducible rfl
  simp only [Act.put, gD, gE, gF]
  refine wTk 51 308 ?_ ?_ ?_
  rotate_left
  · intro o h w k; (try dsimp only at k); (conv at h => lhs; whnf; arg 1; whnf); simp only [gG] at h; subst h; go_simp; try with_reducible rfl
  simp only [Act.put, gD, gE, gF]
  refine wTk 52 309 ?_ ?_ ?_
  rotate_left
  · intro o h w k; (try dsimp only at k); (conv at h => lhs; whnf; arg 1; whnf); simp only [gG] at h; subst h; go_simp; try with_reducible rfl
  simp only [Act.put, gD, gE, gF]
  refine wTk 53 310 ?_ ?_ ?_
  rotate_left
  · intro o h w k; (try dsimp only at k); (conv at h => lhs; whnf; arg 1; whnf); simp only [gG] at h; subst h; go_simp; try with_reducible rfl
  simp only [Act.put, gD, gE, gF]
  refine wTk 54 311 ?_ ?_ ?_
  rotate_left
  · intro o h w k; (try dsimp only at k); (conv at h => lhs; whnf; arg 1; whnf); simp only [gG] at h; subst h; go_simp; try with_reducible rfl
  simp only [Act.put, gD, gE, gF]
  refine wTk 55 312 ?_ ?_ ?_
  rotate_left
  · intro o h w k; (try dsimp only at k); (conv at h => lhs; whnf; arg 1; whnf); simp only [gG] at h; subst h; go_simp; try with_reducible rfl
  simp only [Act.put, gD, gE, gF]
  refine wTk 56 313 ?_ ?_ ?_
  rotate_left
  · intro o h w k; (try dsimp only at k); (conv at h => lhs; whnf; arg 1; whnf); simp only [gG] at h; subst h; go_simp; try with_reducible rfl
  simp only [Act.put, gD, gE, gF]
  refine wTk 57 314 ?_ ?_ ?_
  rotate_left
  · intro o h w k; (try dsimp only at k); (conv at h => lhs; whnf; arg 1; whnf); simp only [gG] at h; subst h; go_simp; try with_reducible rfl
  simp only [Act.put, gD, gE, gF]
  refine wTk 58 315 ?_ ?_ ?_
  rotate_left
  · intro o h w k; (try dsimp only at k); (conv at h => lhs; whnf; arg 1; whnf); simp only [gG] at h; subst h; go_simp; try with_reducible rfl
  simp only [Act.put, gD, gE, gF]
  refine wTk 59 316 ?_ ?_ ?_
  rotate_left
  · intro o h w k; (try dsimp only at k); (conv at h => lhs; whnf; arg 1; whnf); simp only [gG] at h; subst h; go_simp; try with_reducible rfl
  simp only [Act.put, gD, gE, gF]
  refine wTk 60 317 ?_ ?_ ?_
  rotate_left
  · intro o h w k; (try dsimp only at k); (conv at h => lhs; whnf; arg 1; whnf); simp only [gG] at h; subst h; go_simp; try with_reducible rfl
  simp only [Act.put, gD, gE, gF]
  refine wTk 61 318 ?_ ?_ ?_
  rotate_left
  · intro o h w k; (try dsimp only at k); (conv at h => lhs; whnf; arg 1; whnf); simp only [gG] at h; subst h; go_simp; try with_reducible rfl
  simp only [Act.put, gD, gE, gF]
  refine wTk 62 319 ?_ ?_ ?_
  rotate_left
  · intro o h w k; (try dsimp only at k); (conv at h => lhs; whnf; arg 1; whnf); simp only [gG] at h; subst h; go_simp; try with_reducible rfl
  simp only [Act.put, gD, gE, gF]
  refine wTk 63 320 ?_ ?_ ?_
  rotate_left
  · intro o h w k; (try dsimp only at k); (conv at h => lhs; whnf; arg 1; whnf); simp only [gG] at h; subst h; go_simp; try with_reducible rfl
  simp only [Act.put, gD, gE, gF]
  refine wTk 64 321 ?_ ?_ ?_
  rotate_left
  · intro o h w k; (try dsimp only at k); (conv at h => lhs; whnf; arg 1; whnf); simp only [gG] at h; subst h; go_simp; try with_reducible rfl
  simp only [Act.put, gD, gE, gF]
  refine wTk 65 322 ?_ ?_ ?_
  rotate_left
  · intro o h w k; (try dsimp only at k); (conv at h => lhs; whnf; arg 1; whnf); simp only [gG] at h; subst h; go_simp; try with_reducible rfl
  simp only [Act.put, gD, gE, gF]
  refine wTk 66 323 ?_ ?_ ?_
  rotate_left
  · intro o h w k; (try dsimp only at k); (conv at h => lhs; whnf; arg 1; whnf); simp only [gG] at h; subst h; go_simp; try with_reducible rfl
  simp only [Act.put, gD, gE, gF]
  refine wTk 67 324 ?_ ?_ ?_
  rotate_left
  · intro o h w k; (try dsimp only at k); (conv at h => lhs; whnf; arg 1; whnf); simp only [gG] at h; subst h; go_simp; try with_reducible rfl
  simp only [Act.put, gD, gE, gF]
  exact lop33_68 s fc p q2 k fl ib io u y W w k0 k1 k2 k3 k4 k5 k6 k7 k8 k9 k10 k11 k12 k13 d0 d1 d2 d3 d4 d5 d6 d7 d8 b2 hk64 hki64 hki hn hS K Q HFIN.out
end Go.Proofs.Ytacioedolmaofaa
namespace Go.Proofs.Ytacioedolmaofaa
open Go.RowKit Go.Shelf
set_option maxHeartbeats 12800000
set_option maxRecDepth 100000
set_option linter.unusedSimpArgs false
set_option linter.unusedVariables false

theorem lopen_reg33 (s : ISheet) (fa : Option Addr) (fc p q2 k fl : Nat) (u : IStar) (W : World) {z0 z2 z3 z5 z6 z7 z8 z9 z10 z12 z16 z17 z18 z19 z20 z21 z22 z23 z24 z25 z26 z27 z28 z29 z30 z31 z32 z33 z34 z35 z36 z37 z38 z39 z40 z41 z42 z43 z44 z45 z46 z47 z48 z49 z50 z51 z52 z53 z54 z55 z56 z57 z58 z59 z60 z61 z62 z63 z64 z65 z66 z67 z68 z69 z70 z71 z72 z73 z74 z75 z76 z77 z78 z79 z80 z81 z82 z83 z84 z85 z86 z87 z88 z89 z90 z91 z92 z93 z94 z95 z96 z97 z98 z99 z100 z101 z102 z103 z104 z105 z106 z107 z108 z109 z110 z111 z112 z113 z114 z115 z116 z117 z118 z119 z120 z121 z122 z123 z124 z125 z126 z127 z128 z129 z130 z131 z132 z133 z134 z135 z136 z137 z138 z139 z140 z141 z142 z143 z144 z145 z146 z147 z148 z149 z150 z151 z152 z153 z154 z155 z156 z157 z158 z159 z160 z161 z162 z163 z164 z165 z166 z167 z168 z169 z170 z171 z172 z173 z174 z175 z176 z177 z178 z179 z180 z181 z182 z183 z184 z185 z186 z187 z188 z189 z190 z191 z192 z193 z194 z195 z196 z197 z198 z199 z200 z201 z202 z203 z204 z205 z206 z207 z208 z209 z210 z211 z212 z213 z214 z215 z216 z217 z218 z219 z220 z221 z222 z223 z224 z225 z226 z227 z228 z229 z230 z231 z232 z233 z234 z235 z236 z237 z238 z239 z240 z241 z242 z243 z244 z245 z246 z247 z248 z249 z250 z251 z252 z253 z254 z255 z256 z358 z359 : Value} {z257 z258 z259 z260 z261 z262 z263 z264 z265 z266 z267 z268 z269 z270 z271 z272 z273 z274 z275 z276 z277 z278 z279 z280 z281 z282 z283 z284 z285 z286 z287 z288 z289 z290 z291 z292 z293 z294 z295 z296 z297 z298 z299 z300 z301 z302 z303 z304 z305 z306 z307 z308 z309 z310 z311 z312 z313 z314 z315 z316 z317 z318 z319 z320 z321 z322 z323 z324 z325 z326 z327 z328 z329 z330 z331 z332 z333 z334 z335 z336 z337 z338 z339 z340 z341 z342 z343 z344 z345 z346 z347 z348 z349 z350 z351 z352 z353 z354 z355 z356 z357 : Value} (hg : W.heap[p]? = some (.cells #[.int .i64 s.ax.lo, .int .i64 s.ax.hi, .int .i64 s.ay.lo, .int .i64 s.ay.hi, .int .i64 s.bx.lo, .int .i64 s.bx.hi, .int .i64 s.by'.lo, .int .i64 s.by'.hi, .int .i64 s.f.lo, .int .i64 s.f.hi, .int .i64 s.g.lo, .int .i64 s.g.hi, .int .i64 s.limit, .int .i64 s.flaws, .slice fa s.l.length fc] 30)) (g0 : W.heap[q2]? = some (.cells #[.int .i64 u.x.lo, .int .i64 u.x.hi] 23)) (g1 : W.heap[q2 + 1]? = some (.cells #[.int .i64 u.y.lo, .int .i64 u.y.hi] 23)) (g2 : W.heap[q2 + 2]? = some (.cells #[.int .i64 u.s.lo, .int .i64 u.s.hi] 23))
    (him : ImSl W fa s.l) (hlt : k < s.l.length) (hn : s.l.length ≤ 9) (hin : StarIn s (k : Int) u) (h9 : fl < 512) (hb : fl.testBit k = false) (K : Act → World → Prop) (Q : Exit → Act → World → Prop)
    (hfin : ∀ (s257 s258 s259 s260 s261 s262 s263 s264 s265 s266 s267 s268 s269 s270 s271 s272 s273 s274 s275 s276 s277 s278 s279 s280 s281 s282 s283 s284 s285 s286 s287 s288 s289 s290 s291 s292 s293 s294 s295 s296 s297 s298 s299 s300 s301 s302 s303 s304 s305 s306 s307 s308 s309 s310 s311 s312 s313 s314 s315 s316 s317 s318 s319 s320 s321 s322 s323 s324 s325 s326 s327 s328 s329 s330 s331 s332 s333 s334 s335 s336 s337 s338 s339 s340 s341 s342 s343 s344 s345 s346 s347 s348 s349 s350 s351 s352 s353 s354 s355 s356 : Value) (w3 : World), Below W.heap.size W w3 → K ⟨(z0::(.pointer (some ⟨p, 0, none⟩))::z2::z3::(.int .i64 (fl : Int))::z5::z6::z7::z8::z9::z10::(.int .i64 (k : Int))::z12::(.pointer (some ⟨q2, 0, none⟩))::(.pointer (some ⟨q2 + 1, 0, none⟩))::(.pointer (some ⟨q2 + 2, 0, none⟩))::z16::z17::z18::z19::z20::z21::z22::z23::z24::z25::z26::z27::z28::z29::z30::z31::z32::z33::z34::z35::z36::z37::z38::z39::z40::z41::z42::z43::z44::z45::z46::z47::z48::z49::z50::z51::z52::z53::z54::z55::z56::z57::z58::z59::z60::z61::z62::z63::z64::z65::z66::z67::z68::z69::z70::z71::z72::z73::z74::z75::z76::z77::z78::z79::z80::z81::z82::z83::z84::z85::z86::z87::z88::z89::z90::z91::z92::z93::z94::z95::z96::z97::z98::z99::z100::z101::z102::z103::z104::z105::z106::z107::z108::z109::z110::z111::z112::z113::z114::z115::z116::z117::z118::z119::z120::z121::z122::z123::z124::z125::z126::z127::z128::z129::z130::z131::z132::z133::z134::z135::z136::z137::z138::z139::z140::z141::z142::z143::z144::z145::z146::z147::z148::z149::z150::z151::z152::z153::z154::z155::z156::z157::z158::z159::z160::z161::z162::z163::z164::z165::z166::z167::z168::z169::z170::z171::z172::z173::z174::z175::z176::z177::z178::z179::z180::z181::z182::z183::z184::z185::z186::z187::z188::z189::z190::z191::z192::z193::z194::z195::z196::z197::z198::z199::z200::z201::z202::z203::z204::z205::z206::z207::z208::z209::z210::z211::z212::z213::z214::z215::z216::z217::z218::z219::z220::z221::z222::z223::z224::z225::z226::z227::z228::z229::z230::z231::z232::z233::z234::z235::z236::z237::z238::z239::z240::z241::z242::z243::z244::z245::z246::z247::z248::z249::z250::z251::z252::z253::z254::z255::z256::s257::s258::s259::s260::s261::s262::s263::s264::s265::s266::s267::s268::s269::s270::s271::s272::s273::s274::s275::s276::s277::s278::s279::s280::s281::s282::s283::s284::s285::s286::s287::s288::s289::s290::s291::s292::s293::s294::s295::s296::s297::s298::s299::s300::s301::s302::s303::s304::s305::s306::s307::s308::s309::s310::s311::s312::s313::s314::s315::s316::s317::s318::s319::s320::s321::s322::s323::s324::s325::s326::s327::s328::s329::s330::s331::s332::s333::s334::s335::s336::s337::s338::s339::s340::s341::s342::s343::s344::s345::s346::s347::s348::s349::s350::s351::s352::s353::s354::s355::s356::(.bool false)::z358::z359 :: []).toArray, []⟩ w3) :
    Code.wp Try.prog ((Try.f8.body.bind (findReg 33)).getD .skip) (Exit.then K Q) ⟨(z0::(.pointer (some ⟨p, 0, none⟩))::z2::z3::(.int .i64 (fl : Int))::z5::z6::z7::z8::z9::z10::(.int .i64 (k : Int))::z12::(.pointer (some ⟨q2, 0, none⟩))::(.pointer (some ⟨q2 + 1, 0, none⟩))::(.pointer (some ⟨q2 + 2, 0, none⟩))::z16::z17::z18::z19::z20::z21::z22::z23::z24::z25::z26::z27::z28::z29::z30::z31::z32::z33::z34::z35::z36::z37::z38::z39::z40::z41::z42::z43::z44::z45::z46::z47::z48::z49::z50::z51::z52::z53::z54::z55::z56::z57::z58::z59::z60::z61::z62::z63::z64::z65::z66::z67::z68::z69::z70::z71::z72::z73::z74::z75::z76::z77::z78::z79::z80::z81::z82::z83::z84::z85::z86::z87::z88::z89::z90::z91::z92::z93::z94::z95::z96::z97::z98::z99::z100::z101::z102::z103::z104::z105::z106::z107::z108::z109::z110::z111::z112::z113::z114::z115::z116::z117::z118::z119::z120::z121::z122::z123::z124::z125::z126::z127::z128::z129::z130::z131::z132::z133::z134::z135::z136::z137::z138::z139::z140::z141::z142::z143::z144::z145::z146::z147::z148::z149::z150::z151::z152::z153::z154::z155::z156::z157::z158::z159::z160::z161::z162::z163::z164::z165::z166::z167::z168::z169::z170::z171::z172::z173::z174::z175::z176::z177::z178::z179::z180::z181::z182::z183::z184::z185::z186::z187::z188::z189::z190::z191::z192::z193::z194::z195::z196::z197::z198::z199::z200::z201::z202::z203::z204::z205::z206::z207::z208::z209::z210::z211::z212::z213::z214::z215::z216::z217::z218::z219::z220::z221::z222::z223::z224::z225::z226::z227::z228::z229::z230::z231::z232::z233::z234::z235::z236::z237::z238::z239::z240::z241::z242::z243::z244::z245::z246::z247::z248::z249::z250::z251::z252::z253::z254::z255::z256::z257::z258::z259::z260::z261::z262::z263::z264::z265::z266::z267::z268::z269::z270::z271::z272::z273::z274::z275::z276::z277::z278::z279::z280::z281::z282::z283::z284::z285::z286::z287::z288::z289::z290::z291::z292::z293::z294::z295::z296::z297::z298::z299::z300::z301::z302::z303::z304::z305::z306::z307::z308::z309::z310::z311::z312::z313::z314::z315::z316::z317::z318::z319::z320::z321::z322::z323::z324::z325::z326::z327::z328::z329::z330::z331::z332::z333::z334::z335::z336::z337::z338::z339::z340::z341::z342::z343::z344::z345::z346::z347::z348::z349::z350::z351::z352::z353::z354::z355::z356::z357::z358::z359 :: []).toArray, []⟩ W := by
  have HFIN := Lib.hid hfin
  clear hfin
  have cz := fun k => cell_block hg k
  have r0 := cz 0
  have r1 := cz 1
  have r2 := cz 2
  have r3 := cz 3
  have r4 := cz 4
  have r5 := cz 5
  have r6 := cz 6
  have r7 := cz 7
  have r8 := cz 8
  have r9 := cz 9
  have r10 := cz 10
  have r11 := cz 11
  have r12 := cz 12
  have r13 := cz 13
  have r14 := cz 14
  clear cz
  simp only [gA, gB, gC] at r0 r1 r2 r3 r4 r5 r6 r7 r8 r9 r10 r11 r12 r13 r14
  obtain ⟨ib, io, hia, hil, i0, i1, i2, i3, i4, i5⟩ := him k hlt
  have hat : s.at' (k : Int) = s.l[k] := by
    unfold ISheet.at'
    rw [List.getD_eq_getElem?_getD, Int.toNat_natCast, List.getElem?_eq_getElem hlt]; rfl
  obtain ⟨x1, x2, x3⟩ := hin.x
  obtain ⟨y1, y2, y3⟩ := hin.y
  obtain ⟨s1, s2, s3, s4⟩ := hin.s
  rw [hat] at x1 x3 y1 y3 s2 s4
  clear hin hat
  generalize s.l[k] = y at x1 x3 y1 y3 s2 s4 i0 i1 i2 i3 i4 i5
  have d0 : decide (u.x.hi < u.x.lo) = false := decide_eq_false (by omega)
  have d1 : decide (u.y.hi < u.y.lo) = false := decide_eq_false (by omega)
  have d2 : decide (u.s.hi < u.s.lo) = false := decide_eq_false (by omega)
  have d3 : decide (u.x.lo < y.x.lo) = false := decide_eq_false (by omega)
  have d4 : decide (y.x.hi < u.x.hi) = false := decide_eq_false (by omega)
  have d5 : decide (u.y.lo < y.y.lo) = false := decide_eq_false (by omega)
  have d6 : decide (y.y.hi < u.y.hi) = false := decide_eq_false (by omega)
  have d7 : decide (u.s.lo < if s.limit < y.s.lo then y.s.lo else s.limit) = false := decide_eq_false (by split <;> omega)
  have d8 : decide (y.s.hi < u.s.hi) = false := decide_eq_false (by omega)
  clear x1 x2 x3 y1 y2 y3 s1 s2 s3 s4
  have b2 := ibitI fl k (by omega)
  rw [hb] at b2
  simp only [Bool.false_eq_true, if_false] at b2
  have hk64 : k < 64 := by omega
  have hki64 : (k : Int) < 64 := by omega
  have hki : (k : Int) < s.l.length := by omega
  have hni : (s.l.length : Int) ≤ 9 := by omega
  have az0 := cell_block g0 0
  have az1 := cell_block g0 1
  have ay0 := cell_block g1 0
  have ay1 := cell_block g1 1
  have ax0 := cell_block g2 0
  have ax1 := cell_block g2 1
  simp only [gA, gB, gC] at az0 az1 ay0 ay1 ax0 ax1
  rw [hia] at r14
  have k0 := iheld r12 (Nat.le_refl _)
  have k1 := iheld r14 (Nat.le_refl _)
  have k2 := iheld az0 (Nat.le_refl _)
  have k3 := iheld az1 (Nat.le_refl _)
  have k4 := iheld ay0 (Nat.le_refl _)
  have k5 := iheld ay1 (Nat.le_refl _)
  have k6 := iheld ax0 (Nat.le_refl _)
  have k7 := iheld ax1 (Nat.le_refl _)
  have k8 := iheld i0 (Nat.le_refl _)
  have k9 := iheld i1 (Nat.le_refl _)
  have k10 := iheld i2 (Nat.le_refl _)
  have k11 := iheld i3 (Nat.le_refl _)
  have k12 := iheld i4 (Nat.le_refl _)
  have k13 := iheld i5 (Nat.le_refl _)
  clear hb hia hil az0 az1 ay0 ay1 ax0 ax1 i0 i1 i2 i3 i4 i5 r0 r1 r2 r3 r4 r5 r6 r7 r8 r9 r10 r11 r12 r13 r14 hg g0 g1 g2
  conv => arg 2; whnf
  refine (wpIn_wide (n := 1)).1 ?_
  refine wpIn_region_Wn (S := Below W.heap.size W) 101 (by kernel_rfl) (by kernel_rfl) (below_drew W) (fun hHeld => ?_)
  refine wTk 0 257 ?_ ?_ ?_
  rotate_left
  · intro o h w k; (try dsimp only at k); (conv at h => lhs; whnf; arg 1; whnf); simp only [gG] at h; subst h; go_simp; try with_reducible rfl
  simp only [Act.put, gD, gE, gF]
  refine wTk 1 258 ?_ ?_ ?_
  rotate_left
  · intro o h w k; (try dsimp only at k); (conv at h => lhs; whnf; arg 1; whnf); simp only [gG] at h; subst h; go_simp; try with_reducible rfl
  simp only [Act.put, gD, gE, gF]
  refine wTk 2 259 ?_ ?_ ?_
  rotate_left
  · intro o h w k; (try dsimp only at k); (conv at h => lhs; whnf; arg 1; whnf); simp only [gG] at h; subst h; go_simp; try with_reducible rfl
  simp only [Act.put, gD, gE, gF]
  refine wTk 3 260 ?_ ?_ ?_
  rotate_left
  · intro o h w k; (try dsimp only at k); (conv at h => lhs; whnf; arg 1; whnf); simp only [gG] at h; subst h; go_simp; try with_reducible rfl
  simp only [Act.put, gD, gE, gF]
  refine wTk 4 261 ?_ ?_ ?_
  rotate_left
  · intro o h w k; (try dsimp only at k); (conv at h => lhs; whnf; arg 1; whnf); simp only [gG] at h; subst h; go_simp; try with_reducible rfl
  simp only [Act.put, gD, gE, gF]
  refine wTk 5 262 ?_ ?_ ?_
  rotate_left
  · intro o h w k; (try dsimp only at k); (conv at h => lhs; whnf; arg 1; whnf); simp only [gG] at h; subst h; go_simp; try with_reducible rfl
  simp only [Act.put, gD, gE, gF]
  refine wTk 6 263 ?_ ?_ ?_
  rotate_left
  · intro o h w k; (try dsimp only at k); (conv at h => lhs; whnf; arg 1; whnf); simp only [gG] at h; subst h; go_simp; try with_reducible rfl
  simp only [Act.put, gD, gE, gF]
  refine wTk 7 264 ?_ ?_ ?_
  rotate_left
  · intro o h w k; (try dsimp only at k); (conv at h => lhs; whnf; arg 1; whnf); simp only [gG] at h; subst h; go_simp; try with_reducible rfl
  simp only [Act.put, gD, gE, gF]
  refine wTk 8 265 ?_ ?_ ?_
  rotate_left
  · intro o h w k; (try dsimp only at k); (conv at h => lhs; whnf; arg 1; whnf); simp only [gG] at h; subst h; go_simp; try with_reducible rfl
  simp only [Act.put, gD, gE, gF]
  refine wTk 9 266 ?_ ?_ ?_
  rotate_left
  · intro o h w k; (try dsimp only at k); (conv at h => lhs; whnf; arg 1; whnf); simp only [gG] at h; subst h; go_simp; try with_reducible rfl
  simp only [Act.put, gD, gE, gF]
  refine wTk 10 267 ?_ ?_ ?_
  rotate_left
  · intro o h w k; (try dsimp only at k); (conv at h => lhs; whnf; arg 1; whnf); simp only [gG] at h; subst h; go_simp; try with_reducible rfl
  simp only [Act.put, gD, gE, gF]
  refine wTk 11 268 ?_ ?_ ?_
  rotate_left
  · intro o h w k; (try dsimp only at k); (conv at h => lhs; whnf; arg 1; whnf); simp only [gG] at h; subst h; go_simp; try with_reducible rfl
  simp only [Act.put, gD, gE, gF]
  refine wTk 12 269 ?_ ?_ ?_
  rotate_left
  · intro o h w k; (try dsimp only at k); (conv at h => lhs; whnf; arg 1; whnf); simp only [gG] at h; subst h; go_simp; try with_reducible rfl
  simp only [Act.put, gD, gE, gF]
  refine wTk 13 270 ?_ ?_ ?_
  rotate_left
  · intro o h w k; (try dsimp only at k); (conv at h => lhs; whnf; arg 1; whnf); simp only [gG] at h; subst h; go_simp; try with_reducible rfl
  simp only [Act.put, gD, gE, gF]
  refine wTk 14 271 ?_ ?_ ?_
  rotate_left
  · intro o h w k; (try dsimp only at k); (conv at h => lhs; whnf; arg 1; whnf); simp only [gG] at h; subst h; go_simp; try with_reducible rfl
  simp only [Act.put, gD, gE, gF]
  refine wTk 15 272 ?_ ?_ ?_
  rotate_left
  · intro o h w k; (try dsimp only at k); (conv at h => lhs; whnf; arg 1; whnf); simp only [gG] at h; subst h; go_simp; try with_reducible rfl
  simp only [Act.put, gD, gE, gF]
  refine wTk 16 273 ?_ ?_ ?_
  rotate_left
  · intro o h w k; (try dsimp only at k); (conv at h => lhs; whnf; arg 1; whnf); simp only [gG] at h; subst h; go_simp; try with_reducible rfl
  simp only [Act.put, gD, gE, gF]
  refine wTk 17 274 ?_ ?_ ?_
  rotate_left
  · intro o h w k; (try dsimp only at k); (conv at h => lhs; whnf; arg 1; whnf); simp only [gG] at h; subst h; go_simp; try with_reducible rfl
  simp only [Act.put, gD, gE, gF]
  refine wTk 18 275 ?_ ?_ ?_
  rotate_left
  · intro o h w k; (try dsimp only at k); (conv at h => lhs; whnf; arg 1; whnf); simp only [gG] at h; subst h; go_simp; try with_reducible rfl
  simp only [Act.put, gD, gE, gF]
  refine wTk 19 276 ?_ ?_ ?_
  rotate_left
  · intro o h w k; (try dsimp only at k); (conv at h => lhs; whnf; arg 1; whnf); simp only [gG] at h; subst h; go_simp; try with_reducible rfl
  simp only [Act.put, gD, gE, gF]
  refine wTk 20 277 ?_ ?_ ?_
  rotate_left
  · intro o h w k; (try dsimp only at k); (conv at h => lhs; whnf; arg 1; whnf); simp only [gG] at h; subst h; go_simp; try with_reducible rfl
  simp only [Act.put, gD, gE, gF]
  refine wTk 21 278 ?_ ?_ ?_
  rotate_left
  · intro o h w k; (try dsimp only at k); (conv at h => lhs; whnf; arg 1; whnf); simp only [gG] at h; subst h; go_simp; try with_reducible rfl
  simp only [Act.put, gD, gE, gF]
  refine wTk 22 279 ?_ ?_ ?_
  rotate_left
  · intro o h w k; (try dsimp only at k); (conv at h => lhs; whnf; arg 1; whnf); simp only [gG] at h; subst h; go_simp; try with_reducible rfl
  simp only [Act.put, gD, gE, gF]
  refine wTk 23 280 ?_ ?_ ?_
  rotate_left
  · intro o h w k; (try dsimp only at k); (conv at h => lhs; whnf; arg 1; whnf); simp only [gG] at h; subst h; go_simp; try with_reducible rfl
  simp only [Act.put, gD, gE, gF]
  refine wTk 24 281 ?_ ?_ ?_
  rotate_left
  · intro o h w k; (try dsimp only at k); (conv at h => lhs; whnf; arg 1; whnf); simp only [gG] at h; subst h; go_simp; try with_reducible rfl
  simp only [Act.put, gD, gE, gF]
  refine wTk 25 282 ?_ ?_ ?_
  rotate_left
  · intro o h w k; (try dsimp only at k); (conv at h => lhs; whnf; arg 1; whnf); simp only [gG] at h; subst h; go_simp; try with_reducible rfl
  simp only [Act.put, gD, gE, gF]
  refine wTk 26 283 ?_ ?_ ?_
  rotate_left
  · intro o h w k; (try dsimp only at k); (conv at h => lhs; whnf; arg 1; whnf); simp only [gG] at h; subst h; go_simp; try with_reducible rfl
  simp only [Act.put, gD, gE, gF]
  refine wTk 27 284 ?_ ?_ ?_
  rotate_left
  · intro o h w k; (try dsimp only at k); (conv at h => lhs; whnf; arg 1; whnf); simp only [gG] at h; subst h; go_simp; try with_reducible rfl
  simp only [Act.put, gD, gE, gF]
  refine wTk 28 285 ?_ ?_ ?_
  rotate_left
  · intro o h w k; (try dsimp only at k); (conv at h => lhs; whnf; arg 1; whnf); simp only [gG] at h; subst h; go_simp; try with_reducible rfl
  simp only [Act.put, gD, gE, gF]
  refine wTk 29 286 ?_ ?_ ?_
  rotate_left
  · intro o h w k; (try dsimp only at k); (conv at h => lhs; whnf; arg 1; whnf); simp only [gG] at h; subst h; go_simp; try with_reducible rfl
  simp only [Act.put, gD, gE, gF]
  refine wTk 30 287 ?_ ?_ ?_
  rotate_left
  · intro o h w k; (try dsimp only at k); (conv at h => lhs; whnf; arg 1; whnf); simp only [gG] at h; subst h; go_simp; try with_reducible rfl
  simp only [Act.put, gD, gE, gF]
  refine wTk 31 288 ?_ ?_ ?_
  rotate_left
  · intro o h w k; (try dsimp only at k); (conv at h => lhs; whnf; arg 1; whnf); simp only [gG] at h; subst h; go_simp; try with_reducible rfl
  simp only [Act.put, gD, gE, gF]
  refine wTk 32 289 ?_ ?_ ?_
  rotate_left
  · intro o h w k; (try dsimp only at k); (conv at h => lhs; whnf; arg 1; whnf); simp only [gG] at h; subst h; go_simp; try with_reducible rfl
  simp only [Act.put, gD, gE, gF]
  refine wTk 33 290 ?_ ?_ ?_
  rotate_left
  · intro o h w k; (try dsimp only at k); (conv at h => lhs; whnf; arg 1; whnf); simp only [gG] at h; subst h; go_simp; try with_reducible rfl
  simp only [Act.put, gD, gE, gF]
  exact lop33_34 s fc p q2 k fl ib io u y W _ k0 k1 k2 k3 k4 k5 k6 k7 k8 k9 k10 k11 k12 k13 d0 d1 d2 d3 d4 d5 d6 d7 d8 b2 hk64 hki64 hki hni hHeld K Q (fun a257 a258 a259 a260 a261 a262 a263 a264 a265 a266 a267 a268 a269 a270 a271 a272 a273 a274 a275 a276 a277 a278 a279 a280 a281 a282 a283 a284 a285 a286 a287 a288 a289 a290 a291 a292 a293 a294 a295 a296 a297 a298 a299 a300 a301 a302 a303 a304 a305 a306 a307 a308 a309 a310 a311 a312 a313 a314 a315 a316 a317 a318 a319 a320 a321 a322 a323 a324 a325 a326 a327 a328 a329 a330 a331 a332 a333 a334 a335 a336 a337 a338 a339 a340 a341 a342 a343 a344 a345 a346 a347 a348 a349 a350 a351 a352 a353 a354 a355 a356 => HFIN.out a257 a258 a259 a260 a261 a262 a263 a264 a265 a266 a267 a268 a269 a270 a271 a272 a273 a274 a275 a276 a277 a278 a279 a280 a281 a282 a283 a284 a285 a286 a287 a288 a289 a290 a291 a292 a293 a294 a295 a296 a297 a298 a299 a300 a301 a302 a303 a304 a305 a306 a307 a308 a309 a310 a311 a312 a313 a314 a315 a316 a317 a318 a319 a320 a321 a322 a323 a324 a325 a326 a327 a328 a329 a330 a331 a332 a333 a334 a335 a336 a337 a338 a339 a340 a341 a342 a343 a344 a345 a346 a347 a348 a349 a350 a351 a352 a353 a354 a355 a356 _ hHeld)
end Go.Proofs.Ytacioedolmaofaa
namespace Go.Proofs.Ytacioedolmaofaa
open Go.RowKit Go.Shelf
set_option maxHeartbeats 12800000
set_option maxRecDepth 100000
set_option linter.unusedSimpArgs false
set_option linter.unusedVariables false

theorem lopen_none (s : ISheet) (fa : Option Addr) (fc p q2 k c : Nat) (a : Option Addr) (ls : List ITr) (W3 : World) {z0 z3 z4 z5 z6 z7 z9 z10 z12 z18 z22 z23 z24 z25 z26 z27 z28 z29 z30 z31 z32 z33 z34 z35 z36 z37 z38 z39 z40 z41 z42 z43 z44 z45 z46 z47 z48 z49 z50 z51 z52 z53 z54 z55 z56 z57 z58 z59 z60 z61 z62 z63 z64 z65 z66 z67 z68 z69 z70 z71 z72 z73 z74 z75 z76 z77 z78 z79 z80 z81 z82 z83 z84 z85 z86 z87 z88 z89 z90 z91 z92 z93 z94 z95 z96 z97 z98 z99 z100 z101 z102 z103 z104 z105 z106 z107 z108 z109 z110 z111 z112 z113 z114 z115 z116 z117 z118 z119 z120 z121 z122 z123 z124 z125 z126 z127 z128 z129 z130 z131 z132 z133 z134 z135 z136 z137 z138 z139 z140 z141 z142 z143 z144 z145 z146 z147 z148 z149 z150 z151 z152 z153 z154 z155 z156 z157 z158 z159 z160 z161 z162 z163 z235 z236 z237 z238 z239 z240 z241 z242 z243 z244 z245 z246 z247 z248 z249 z250 z251 z252 z253 z254 z255 z256 z257 z258 z259 z260 z261 z262 z263 z264 z265 z266 z267 z268 z269 z270 z271 z272 z273 z274 z275 z276 z277 z278 z279 z280 z281 z282 z283 z284 z285 z286 z287 z288 z289 z290 z291 z292 z293 z294 z295 z296 z297 z298 z299 z300 z301 z302 z303 z304 z305 z306 z307 z308 z309 z310 z311 z312 z313 z314 z315 z316 z317 z318 z319 z320 z321 z322 z323 z324 z325 z326 z327 z328 z329 z330 z331 z332 z333 z334 z335 z336 z337 z338 z339 z340 z341 z342 z343 z344 z345 z346 z347 z348 z349 z350 z351 z352 z353 z354 z355 z356 z357 z358 z359 : Value} {z2 z19 z20 z21 z164 z165 z166 z167 z168 z169 z170 z171 z172 z173 z174 z175 z176 z177 z178 z179 z180 z181 z182 z183 z184 z185 z186 z187 z188 z189 z190 z191 z192 z193 z194 z195 z196 z197 z198 z199 z200 z201 z202 z203 z204 z205 z206 z207 z208 z209 z210 z211 z212 z213 z214 z215 z216 z217 z218 z219 z220 z221 z222 z223 z224 z225 z226 z227 z228 z229 z230 z231 z232 z233 z234 : Value} (hg3 : W3.heap[p]? = some (.cells #[.int .i64 s.ax.lo, .int .i64 s.ax.hi, .int .i64 s.ay.lo, .int .i64 s.ay.hi, .int .i64 s.bx.lo, .int .i64 s.bx.hi, .int .i64 s.by'.lo, .int .i64 s.by'.hi, .int .i64 s.f.lo, .int .i64 s.f.hi, .int .i64 s.g.lo, .int .i64 s.g.hi, .int .i64 s.limit, .int .i64 s.flaws, .slice fa s.l.length fc] 30)) (g0 : W3.heap[q2]? = some (.cells #[.int .i64 0, .int .i64 0] 23)) (g1 : W3.heap[q2 + 1]? = some (.cells #[.int .i64 0, .int .i64 0] 23)) (g2 : W3.heap[q2 + 2]? = some (.cells #[.int .i64 0, .int .i64 0] 23))
    (HT3 : Hid (TrSl W3 a ls)) (hls : ls.length ≤ 9) (HNO : Hid (∀ t ∈ ls, t.a ≠ (k : Int))) (K1 K : Act → World → Prop) (Q : Exit → Act → World → Prop)
    (hK1 : ∀ a w', Code.wp Try.prog (sndC' ((Try.f8.body.bind (findSt 21)).getD .skip)) (Exit.then K Q) a w' → K1 a w')
    (hfin : ∀ (s2 s19 s20 s21 s164 s165 s166 s167 s168 s169 s170 s171 s172 s173 s174 s175 s176 s177 s178 s179 s180 s181 s182 s183 s184 s185 s186 s187 s188 s189 s190 s191 s192 s193 s194 s195 s196 s197 s198 s199 s200 s201 s202 s203 s204 s205 s206 s207 s208 s209 s210 s211 s212 s213 s214 s215 s216 s217 s218 s219 s220 s221 s222 s223 s224 s225 s226 s227 s228 s229 s230 s231 s232 s233 s234 : Value) (w3 : World), Below W3.heap.size W3 w3 → K ⟨(z0::(.pointer (some ⟨p, 0, none⟩))::s2::z3::z4::z5::z6::z7::(.slice a ls.length c)::z9::z10::(.int .i64 k)::z12::(.pointer (some ⟨q2, 0, none⟩))::(.pointer (some ⟨q2 + 1, 0, none⟩))::(.pointer (some ⟨q2 + 2, 0, none⟩))::(.int .i64 4)::(.bool (firstTo ls (k : Int) ls.length))::z18::s19::s20::s21::z22::z23::z24::z25::z26::z27::z28::z29::z30::z31::z32::z33::z34::z35::z36::z37::z38::z39::z40::z41::z42::z43::z44::z45::z46::z47::z48::z49::z50::z51::z52::z53::z54::z55::z56::z57::z58::z59::z60::z61::z62::z63::z64::z65::z66::z67::z68::z69::z70::z71::z72::z73::z74::z75::z76::z77::z78::z79::z80::z81::z82::z83::z84::z85::z86::z87::z88::z89::z90::z91::z92::z93::z94::z95::z96::z97::z98::z99::z100::z101::z102::z103::z104::z105::z106::z107::z108::z109::z110::z111::z112::z113::z114::z115::z116::z117::z118::z119::z120::z121::z122::z123::z124::z125::z126::z127::z128::z129::z130::z131::z132::z133::z134::z135::z136::z137::z138::z139::z140::z141::z142::z143::z144::z145::z146::z147::z148::z149::z150::z151::z152::z153::z154::z155::z156::z157::z158::z159::z160::z161::z162::z163::s164::s165::s166::s167::s168::s169::s170::s171::s172::s173::s174::s175::s176::s177::s178::s179::s180::s181::s182::s183::s184::s185::s186::s187::s188::s189::s190::s191::s192::s193::s194::s195::s196::s197::s198::s199::s200::s201::s202::s203::s204::s205::s206::s207::s208::s209::s210::s211::s212::s213::s214::s215::s216::s217::s218::s219::s220::s221::s222::s223::s224::s225::s226::s227::s228::s229::s230::s231::s232::s233::s234::z235::z236::z237::z238::z239::z240::z241::z242::z243::z244::z245::z246::z247::z248::z249::z250::z251::z252::z253::z254::z255::z256::z257::z258::z259::z260::z261::z262::z263::z264::z265::z266::z267::z268::z269::z270::z271::z272::z273::z274::z275::z276::z277::z278::z279::z280::z281::z282::z283::z284::z285::z286::z287::z288::z289::z290::z291::z292::z293::z294::z295::z296::z297::z298::z299::z300::z301::z302::z303::z304::z305::z306::z307::z308::z309::z310::z311::z312::z313::z314::z315::z316::z317::z318::z319::z320::z321::z322::z323::z324::z325::z326::z327::z328::z329::z330::z331::z332::z333::z334::z335::z336::z337::z338::z339::z340::z341::z342::z343::z344::z345::z346::z347::z348::z349::z350::z351::z352::z353::z354::z355::z356::z357::z358::z359 :: []).toArray, []⟩ w3) :
    Code.wp Try.prog (fstC' ((Try.f8.body.bind (findSt 21)).getD .skip)) (Exit.then K1 (Exit.then K Q)) ⟨(z0::(.pointer (some ⟨p, 0, none⟩))::z2::z3::z4::z5::z6::z7::(.slice a ls.length c)::z9::z10::(.int .i64 k)::z12::(.pointer (some ⟨q2, 0, none⟩))::(.pointer (some ⟨q2 + 1, 0, none⟩))::(.pointer (some ⟨q2 + 2, 0, none⟩))::(.int .i64 4)::(.bool false)::z18::z19::z20::z21::z22::z23::z24::z25::z26::z27::z28::z29::z30::z31::z32::z33::z34::z35::z36::z37::z38::z39::z40::z41::z42::z43::z44::z45::z46::z47::z48::z49::z50::z51::z52::z53::z54::z55::z56::z57::z58::z59::z60::z61::z62::z63::z64::z65::z66::z67::z68::z69::z70::z71::z72::z73::z74::z75::z76::z77::z78::z79::z80::z81::z82::z83::z84::z85::z86::z87::z88::z89::z90::z91::z92::z93::z94::z95::z96::z97::z98::z99::z100::z101::z102::z103::z104::z105::z106::z107::z108::z109::z110::z111::z112::z113::z114::z115::z116::z117::z118::z119::z120::z121::z122::z123::z124::z125::z126::z127::z128::z129::z130::z131::z132::z133::z134::z135::z136::z137::z138::z139::z140::z141::z142::z143::z144::z145::z146::z147::z148::z149::z150::z151::z152::z153::z154::z155::z156::z157::z158::z159::z160::z161::z162::z163::z164::z165::z166::z167::z168::z169::z170::z171::z172::z173::z174::z175::z176::z177::z178::z179::z180::z181::z182::z183::z184::z185::z186::z187::z188::z189::z190::z191::z192::z193::z194::z195::z196::z197::z198::z199::z200::z201::z202::z203::z204::z205::z206::z207::z208::z209::z210::z211::z212::z213::z214::z215::z216::z217::z218::z219::z220::z221::z222::z223::z224::z225::z226::z227::z228::z229::z230::z231::z232::z233::z234::z235::z236::z237::z238::z239::z240::z241::z242::z243::z244::z245::z246::z247::z248::z249::z250::z251::z252::z253::z254::z255::z256::z257::z258::z259::z260::z261::z262::z263::z264::z265::z266::z267::z268::z269::z270::z271::z272::z273::z274::z275::z276::z277::z278::z279::z280::z281::z282::z283::z284::z285::z286::z287::z288::z289::z290::z291::z292::z293::z294::z295::z296::z297::z298::z299::z300::z301::z302::z303::z304::z305::z306::z307::z308::z309::z310::z311::z312::z313::z314::z315::z316::z317::z318::z319::z320::z321::z322::z323::z324::z325::z326::z327::z328::z329::z330::z331::z332::z333::z334::z335::z336::z337::z338::z339::z340::z341::z342::z343::z344::z345::z346::z347::z348::z349::z350::z351::z352::z353::z354::z355::z356::z357::z358::z359 :: []).toArray, []⟩ W3 := by
  have HFIN := Lib.hid hfin
  have hlsi : (ls.length : Int) ≤ 9 := by omega
  have G := Lib.hid (And.intro g0 (And.intro g1 g2))
  clear hfin g0 g1 g2
  conv => arg 2; whnf
  conv at hK1 => enter [a, w', 1, 2]; whnf
  go_wp2_with fail
  go_loopw [166, 17] (fun u v wi => ∃ j : Nat, j ≤ ls.length ∧ u = .int .i64 j ∧ v = .bool (firstTo ls k j) ∧ Below W3.heap.size W3 wi) (fun u _ _ => ls.length - (intOf u).toNat)
  case atStart => exact ⟨0, Nat.zero_le _, rfl, rfl, Below.refl _ _⟩
  case round =>
    obtain ⟨j, hj, rfl, rfl, hbi⟩ := hrel
    have HBY := Lib.hid hbi
    by_cases hltj : j < ls.length
    · have hji : (j : Int) < ls.length := by omega
      obtain ⟨tb, tq, rfl, hbl, e0, e1, e2⟩ := HT3.out.below hbi (Nat.le_refl _) j hltj
      have HFS := Lib.hid (firstTo_succ ls k j hltj)
      have htin : ls[j] ∈ ls := List.getElem_mem hltj
      have HIN := Lib.hid htin
      obtain ⟨t, ht⟩ : ∃ t, ls[j] = t := ⟨_, rfl⟩
      rw [ht] at HFS HIN e0 e1 e2
      clear ht htin
      go_upto_region 24 with fail
      have htb := below_alloc wr (.cells #[.int .i64 t.a, .int .i64 t.b, .int .i64 t.c] 32)
      have gt := obj_new wr (.cells #[.int .i64 t.a, .int .i64 t.b, .int .i64 t.c] 32)
      have HBT := Lib.hid (HBY.out.trans (htb.mono HBY.out.size))
      clear e0 e1 e2 hbl hbi
      generalize wr.alloc (.cells #[.int .i64 t.a, .int .i64 t.b, .int .i64 t.c] 32) = W4 at htb gt HBT ⊢
      obtain ⟨q4, hq4⟩ : ∃ q, wr.heap.size = q := ⟨_, rfl⟩
      rw [hq4] at gt ⊢
      clear hq4 htb
      have t0 := cell_block gt 0
      have t1 := cell_block gt 1
      have t2 := cell_block gt 2
      simp only [gA, gB, gC] at t0 t1 t2
      have hne : (t.a != (k : Int)) = true := by
        have := HNO.out t HIN.out
        simpa using this
      have hdn : decide (t.a = (k : Int)) = false := by simpa using hne
      go_wp2_with fail
      go_roundw
      case rel => exact ⟨j + 1, by omega, by go_num, by rw [HFS.out, hdn, Bool.or_false], HBT.out⟩
      case measure => simp [intOf]; omega
    · obtain rfl : j = ls.length := by omega
      clear hbi
      go_wp2_with fail
      exact HFIN.out _ _ _ _ _ _ _ _ _ _ _ _ _ _ _ _ _ _ _ _ _ _ _ _ _ _ _ _ _ _ _ _ _ _ _ _ _ _ _ _ _ _ _ _ _ _ _ _ _ _ _ _ _ _ _ _ _ _ _ _ _ _ _ _ _ _ _ _ _ _ _ _ _ _ _ _ HBY.out
end Go.Proofs.Ytacioedolmaofaa
