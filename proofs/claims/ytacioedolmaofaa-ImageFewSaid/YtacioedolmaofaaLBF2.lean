/- ImageFew, walked: two ways compared. ImageFew, walked: the way that is told. ImageFew, walked: another way. -/
import Derived.Test.YtacioedolmaofaaLBF1
import Derived.Test.YtacioedolmaofaaLBA24
import Derived.Test.YtacioedolmaofaaLBA13
import Derived.Test.YtacioedolmaofaaLBA28
namespace Go.Proofs.Ytacioedolmaofaa
open Go.RowKit Go.Shelf
set_option maxHeartbeats 12800000
set_option maxRecDepth 100000
set_option linter.unusedSimpArgs false
set_option linter.unusedVariables false

theorem lfew_reg50 (c oc k j : Nat) (a oa : Option Addr) (ls ol : List ITr) (r : Bool) (t u : ITr) (wA : World) {z0 z1 z2 z3 z4 z6 z7 z8 z9 z10 z11 z12 z13 z14 z15 z16 z18 z19 z20 z21 z22 z23 z24 z25 z28 z29 z30 z31 z32 z33 z34 z35 z36 z37 z38 z39 z40 z41 z42 z43 z44 z45 z46 z47 z48 z49 z50 z51 z52 z53 z54 z55 z56 z57 z58 z59 z60 z61 z62 z63 z64 z65 z66 z67 z68 z69 z70 z71 z72 z73 z74 z75 z76 z77 z78 z79 z80 z81 z82 z83 z84 z85 z86 z87 z88 z89 z90 z91 z92 z93 z94 z95 z96 z97 z98 z99 z100 z101 z102 z103 z104 z105 z106 z107 z108 z109 z110 z111 z112 z113 z114 z115 z116 z117 z118 z119 z120 z121 z122 z123 z124 z125 z126 z127 z128 z129 z130 z131 z132 z133 z134 z135 z136 z137 z138 z139 z140 z141 z142 z143 z144 z145 z146 z147 z148 z149 z150 z151 z152 z153 z154 z155 z156 z157 z158 z159 z160 z161 z162 z163 z164 z165 z166 z167 z168 z169 z170 z171 z172 z173 z174 z175 z176 z177 z178 z179 z180 z181 z182 z183 z184 z185 z186 z187 z188 z189 z190 z191 z192 z193 z194 z195 z196 z197 z198 z199 z200 z201 z202 z203 z204 z205 z206 z207 z208 z209 z210 z211 z212 z213 z214 z215 z216 z217 z218 z219 z220 z221 z222 z223 z224 z225 z226 z227 z228 z229 z230 z231 z232 z233 z234 z235 z236 z237 z238 z239 z240 z241 z242 z243 z244 z245 z246 z247 z248 z249 z250 z251 z252 z253 z254 z255 z256 z257 z258 z259 z260 z261 z262 z263 z264 z265 z266 z267 z268 z269 z270 z271 z272 z273 z274 z275 z276 z277 z278 z279 z280 z281 z282 z283 z284 z285 z286 z287 z288 z289 z290 z291 z292 z293 z294 z308 z309 z310 z311 z312 z313 z314 z315 z316 z317 z318 z319 z320 z321 z322 z323 z324 z325 z326 : Value} {z307 z295 z296 z297 z298 z299 z300 z301 z302 z303 z304 z305 z306 : Value} (hl : ls.length ≤ 9) (ho : ol.length ≤ 9) (hk : k < ls.length) (hk2 : k < ol.length) (hj : j < 3) (ht : ls[k] = t) (hu : ol[k] = u) (htr : TrSl wA a ls) (hor : TrSl wA oa ol) (hr : (t.at' j != u.at' j) = r) (K : Act → World → Prop) (Q : Exit → Act → World → Prop)
    (hfin : ∀ (s295 s296 s297 s298 s299 s300 s301 s302 s303 s304 s305 s306 : Value) (w3 : World), Below wA.heap.size wA w3 → K ⟨(z0::z1::z2::z3::z4::(.slice a ls.length c)::z6::z7::z8::z9::z10::z11::z12::z13::z14::z15::z16::(.slice oa ol.length oc)::z18::z19::z20::z21::z22::z23::z24::z25::(.int .i64 (k : Int))::(.int .i64 (j : Int))::z28::z29::z30::z31::z32::z33::z34::z35::z36::z37::z38::z39::z40::z41::z42::z43::z44::z45::z46::z47::z48::z49::z50::z51::z52::z53::z54::z55::z56::z57::z58::z59::z60::z61::z62::z63::z64::z65::z66::z67::z68::z69::z70::z71::z72::z73::z74::z75::z76::z77::z78::z79::z80::z81::z82::z83::z84::z85::z86::z87::z88::z89::z90::z91::z92::z93::z94::z95::z96::z97::z98::z99::z100::z101::z102::z103::z104::z105::z106::z107::z108::z109::z110::z111::z112::z113::z114::z115::z116::z117::z118::z119::z120::z121::z122::z123::z124::z125::z126::z127::z128::z129::z130::z131::z132::z133::z134::z135::z136::z137::z138::z139::z140::z141::z142::z143::z144::z145::z146::z147::z148::z149::z150::z151::z152::z153::z154::z155::z156::z157::z158::z159::z160::z161::z162::z163::z164::z165::z166::z167::z168::z169::z170::z171::z172::z173::z174::z175::z176::z177::z178::z179::z180::z181::z182::z183::z184::z185::z186::z187::z188::z189::z190::z191::z192::z193::z194::z195::z196::z197::z198::z199::z200::z201::z202::z203::z204::z205::z206::z207::z208::z209::z210::z211::z212::z213::z214::z215::z216::z217::z218::z219::z220::z221::z222::z223::z224::z225::z226::z227::z228::z229::z230::z231::z232::z233::z234::z235::z236::z237::z238::z239::z240::z241::z242::z243::z244::z245::z246::z247::z248::z249::z250::z251::z252::z253::z254::z255::z256::z257::z258::z259::z260::z261::z262::z263::z264::z265::z266::z267::z268::z269::z270::z271::z272::z273::z274::z275::z276::z277::z278::z279::z280::z281::z282::z283::z284::z285::z286::z287::z288::z289::z290::z291::z292::z293::z294::s295::s296::s297::s298::s299::s300::s301::s302::s303::s304::s305::s306::(.bool r)::z308::z309::z310::z311::z312::z313::z314::z315::z316::z317::z318::z319::z320::z321::z322::z323::z324::z325::z326 :: []).toArray, []⟩ w3) :
    Code.wp Try.prog ((Try.f7.body.bind (findReg 50)).getD .skip) (Exit.then K Q) ⟨(z0::z1::z2::z3::z4::(.slice a ls.length c)::z6::z7::z8::z9::z10::z11::z12::z13::z14::z15::z16::(.slice oa ol.length oc)::z18::z19::z20::z21::z22::z23::z24::z25::(.int .i64 (k : Int))::(.int .i64 (j : Int))::z28::z29::z30::z31::z32::z33::z34::z35::z36::z37::z38::z39::z40::z41::z42::z43::z44::z45::z46::z47::z48::z49::z50::z51::z52::z53::z54::z55::z56::z57::z58::z59::z60::z61::z62::z63::z64::z65::z66::z67::z68::z69::z70::z71::z72::z73::z74::z75::z76::z77::z78::z79::z80::z81::z82::z83::z84::z85::z86::z87::z88::z89::z90::z91::z92::z93::z94::z95::z96::z97::z98::z99::z100::z101::z102::z103::z104::z105::z106::z107::z108::z109::z110::z111::z112::z113::z114::z115::z116::z117::z118::z119::z120::z121::z122::z123::z124::z125::z126::z127::z128::z129::z130::z131::z132::z133::z134::z135::z136::z137::z138::z139::z140::z141::z142::z143::z144::z145::z146::z147::z148::z149::z150::z151::z152::z153::z154::z155::z156::z157::z158::z159::z160::z161::z162::z163::z164::z165::z166::z167::z168::z169::z170::z171::z172::z173::z174::z175::z176::z177::z178::z179::z180::z181::z182::z183::z184::z185::z186::z187::z188::z189::z190::z191::z192::z193::z194::z195::z196::z197::z198::z199::z200::z201::z202::z203::z204::z205::z206::z207::z208::z209::z210::z211::z212::z213::z214::z215::z216::z217::z218::z219::z220::z221::z222::z223::z224::z225::z226::z227::z228::z229::z230::z231::z232::z233::z234::z235::z236::z237::z238::z239::z240::z241::z242::z243::z244::z245::z246::z247::z248::z249::z250::z251::z252::z253::z254::z255::z256::z257::z258::z259::z260::z261::z262::z263::z264::z265::z266::z267::z268::z269::z270::z271::z272::z273::z274::z275::z276::z277::z278::z279::z280::z281::z282::z283::z284::z285::z286::z287::z288::z289::z290::z291::z292::z293::z294::z295::z296::z297::z298::z299::z300::z301::z302::z303::z304::z305::z306::z307::z308::z309::z310::z311::z312::z313::z314::z315::z316::z317::z318::z319::z320::z321::z322::z323::z324::z325::z326 :: []).toArray, []⟩ wA := by
  have HFIN := Lib.hid hfin
  clear hfin
  have hki : (k : Int) < ls.length := by omega
  have hki2 : (k : Int) < ol.length := by omega
  have hli : (ls.length : Int) ≤ 9 := by omega
  have hoi : (ol.length : Int) ≤ 9 := by omega
  obtain ⟨b1, o1, rfl, _, e0, e1, e2⟩ := htr k hk
  obtain ⟨b2, o2, rfl, _, e3, e4, e5⟩ := hor k hk2
  rw [ht] at e0 e1 e2
  rw [hu] at e3 e4 e5
  clear ht hu htr hor
  rcases j with _ | _ | _ | j
  · have k1 := iheld e0 (Nat.le_refl _)
    have k2 := iheld e3 (Nat.le_refl _)
    clear e0 e1 e2 e3 e4 e5
    replace hr : (t.a != u.a) = r := hr
    conv => arg 2; whnf
    refine (wpIn_wide (n := 1)).1 ?_
    refine wpIn_region_Wn (S := Below wA.heap.size wA) 13 (by kernel_rfl) (by kernel_rfl) (below_drew wA) (fun hHeld => ?_)
    refine wTk 0 295 ?_ ?_ ?_
    rotate_left
    · intro o h w k; (try dsimp only at k); simp only [gA, gB, gC, gG] at h; subst h; go_simp; try with_reducible rfl
    simp only [Act.put, gD, gE, gF]
    refine wTk 1 296 ?_ ?_ ?_
    rotate_left
    · intro o h w k; (try dsimp only at k); simp only [gA, gB, gC, gG] at h; subst h; go_simp; try with_reducible rfl
    simp only [Act.put, gD, gE, gF]
    refine wTk 2 297 ?_ ?_ ?_
    rotate_left
    · intro o h w k; (try dsimp only at k); simp only [gA, gB, gC, gG] at h; subst h; go_simp; try with_reducible rfl
    simp only [Act.put, gD, gE, gF]
    refine wTk 3 298 ?_ ?_ ?_
    rotate_left
    · intro o h w k; (try dsimp only at k); simp only [gA, gB, gC, gG] at h; subst h; go_simp; try with_reducible rfl
    simp only [Act.put, gD, gE, gF]
    refine wTk 4 299 ?_ ?_ ?_
    rotate_left
    · intro o h w k; (try dsimp only at k); simp only [gA, gB, gC, gG] at h; subst h; go_simp; try with_reducible rfl
    simp only [Act.put, gD, gE, gF]
    refine wTk 5 300 ?_ ?_ ?_
    rotate_left
    · intro o h w k; (try dsimp only at k); simp only [gA, gB, gC, gG] at h; subst h; go_simp; try with_reducible rfl
    simp only [Act.put, gD, gE, gF]
    refine wTk 6 301 ?_ ?_ ?_
    rotate_left
    · intro o h w k; (try dsimp only at k); simp only [gA, gB, gC, gG] at h; subst h; go_simp; try with_reducible rfl
    simp only [Act.put, gD, gE, gF]
    refine wTk 7 302 ?_ ?_ ?_
    rotate_left
    · intro o h w k; (try dsimp only at k); simp only [gA, gB, gC, gG] at h; subst h; go_simp; try with_reducible rfl
    simp only [Act.put, gD, gE, gF]
    refine wTk 8 303 ?_ ?_ ?_
    rotate_left
    · intro o h w k; (try dsimp only at k); simp only [gA, gB, gC, gG] at h; subst h; go_simp; try with_reducible rfl
    simp only [Act.put, gD, gE, gF]
    refine wTk 9 304 ?_ ?_ ?_
    rotate_left
    · intro o h w k; (try dsimp only at k); simp only [gA, gB, gC, gG] at h; subst h; go_simp; try with_reducible rfl
    simp only [Act.put, gD, gE, gF]
    refine wTk 10 305 ?_ ?_ ?_
    rotate_left
    · intro o h w k; (try dsimp only at k); simp only [gA, gB, gC, gG] at h; subst h; go_simp; try with_reducible rfl
    simp only [Act.put, gD, gE, gF]
    refine wTk 11 306 ?_ ?_ ?_
    rotate_left
    · intro o h w k; (try dsimp only at k); simp only [gA, gB, gC, gG] at h; subst h; go_simp; try with_reducible rfl
    simp only [Act.put, gD, gE, gF]
    refine wTk 12 307 ?_ ?_ ?_
    rotate_left
    · intro o h w k; (try dsimp only at k); simp only [gA, gB, gC, gG] at h; subst h; go_simp; try with_reducible rfl
    simp only [Act.put, gD, gE, gF]
    refine wpAnyW_done (by kernel_rfl) ?_ _
    dsimp only [onNormal]
    exact HFIN.out _ _ _ _ _ _ _ _ _ _ _ _ _ hHeld
  · have k1 := iheld e1 (Nat.le_refl _)
    have k2 := iheld e4 (Nat.le_refl _)
    clear e0 e1 e2 e3 e4 e5
    replace hr : (t.b != u.b) = r := hr
    conv => arg 2; whnf
    refine (wpIn_wide (n := 1)).1 ?_
    refine wpIn_region_Wn (S := Below wA.heap.size wA) 13 (by kernel_rfl) (by kernel_rfl) (below_drew wA) (fun hHeld => ?_)
    refine wTk 0 295 ?_ ?_ ?_
    rotate_left
    · intro o h w k; (try dsimp only at k); simp only [gA, gB, gC, gG] at h; subst h; go_simp; try with_reducible rfl
    simp only [Act.put, gD, gE, gF]
    refine wTk 1 296 ?_ ?_ ?_
    rotate_left
    · intro o h w k; (try dsimp only at k); simp only [gA, gB, gC, gG] at h; subst h; go_simp; try with_reducible rfl
    simp only [Act.put, gD, gE, gF]
    refine wTk 2 297 ?_ ?_ ?_
    rotate_left
    · intro o h w k; (try dsimp only at k); simp only [gA, gB, gC, gG] at h; subst h; go_simp; try with_reducible rfl
    simp only [Act.put, gD, gE, gF]
    refine wTk 3 298 ?_ ?_ ?_
    rotate_left
    · intro o h w k; (try dsimp only at k); simp only [gA, gB, gC, gG] at h; subst h; go_simp; try with_reducible rfl
    simp only [Act.put, gD, gE, gF]
    refine wTk 4 299 ?_ ?_ ?_
    rotate_left
    · intro o h w k; (try dsimp only at k); simp only [gA, gB, gC, gG] at h; subst h; go_simp; try with_reducible rfl
    simp only [Act.put, gD, gE, gF]
    refine wTk 5 300 ?_ ?_ ?_
    rotate_left
    · intro o h w k; (try dsimp only at k); simp only [gA, gB, gC, gG] at h; subst h; go_simp; try with_reducible rfl
    simp only [Act.put, gD, gE, gF]
    refine wTk 6 301 ?_ ?_ ?_
    rotate_left
    · intro o h w k; (try dsimp only at k); simp only [gA, gB, gC, gG] at h; subst h; go_simp; try with_reducible rfl
    simp only [Act.put, gD, gE, gF]
    refine wTk 7 302 ?_ ?_ ?_
    rotate_left
    · intro o h w k; (try dsimp only at k); simp only [gA, gB, gC, gG] at h; subst h; go_simp; try with_reducible rfl
    simp only [Act.put, gD, gE, gF]
    refine wTk 8 303 ?_ ?_ ?_
    rotate_left
    · intro o h w k; (try dsimp only at k); simp only [gA, gB, gC, gG] at h; subst h; go_simp; try with_reducible rfl
    simp only [Act.put, gD, gE, gF]
    refine wTk 9 304 ?_ ?_ ?_
    rotate_left
    · intro o h w k; (try dsimp only at k); simp only [gA, gB, gC, gG] at h; subst h; go_simp; try with_reducible rfl
    simp only [Act.put, gD, gE, gF]
    refine wTk 10 305 ?_ ?_ ?_
    rotate_left
    · intro o h w k; (try dsimp only at k); simp only [gA, gB, gC, gG] at h; subst h; go_simp; try with_reducible rfl
    simp only [Act.put, gD, gE, gF]
    refine wTk 11 306 ?_ ?_ ?_
    rotate_left
    · intro o h w k; (try dsimp only at k); simp only [gA, gB, gC, gG] at h; subst h; go_simp; try with_reducible rfl
    simp only [Act.put, gD, gE, gF]
    refine wTk 12 307 ?_ ?_ ?_
    rotate_left
    · intro o h w k; (try dsimp only at k); simp only [gA, gB, gC, gG] at h; subst h; go_simp; try with_reducible rfl
    simp only [Act.put, gD, gE, gF]
    refine wpAnyW_done (by kernel_rfl) ?_ _
    dsimp only [onNormal]
    exact HFIN.out _ _ _ _ _ _ _ _ _ _ _ _ _ hHeld
  · have k1 := iheld e2 (Nat.le_refl _)
    have k2 := iheld e5 (Nat.le_refl _)
    clear e0 e1 e2 e3 e4 e5
    replace hr : (t.c != u.c) = r := hr
    conv => arg 2; whnf
    refine (wpIn_wide (n := 1)).1 ?_
    refine wpIn_region_Wn (S := Below wA.heap.size wA) 13 (by kernel_rfl) (by kernel_rfl) (below_drew wA) (fun hHeld => ?_)
    refine wTk 0 295 ?_ ?_ ?_
    rotate_left
    · intro o h w k; (try dsimp only at k); simp only [gA, gB, gC, gG] at h; subst h; go_simp; try with_reducible rfl
    simp only [Act.put, gD, gE, gF]
    refine wTk 1 296 ?_ ?_ ?_
    rotate_left
    · intro o h w k; (try dsimp only at k); simp only [gA, gB, gC, gG] at h; subst h; go_simp; try with_reducible rfl
    simp only [Act.put, gD, gE, gF]
    refine wTk 2 297 ?_ ?_ ?_
    rotate_left
    · intro o h w k; (try dsimp only at k); simp only [gA, gB, gC, gG] at h; subst h; go_simp; try with_reducible rfl
    simp only [Act.put, gD, gE, gF]
    refine wTk 3 298 ?_ ?_ ?_
    rotate_left
    · intro o h w k; (try dsimp only at k); simp only [gA, gB, gC, gG] at h; subst h; go_simp; try with_reducible rfl
    simp only [Act.put, gD, gE, gF]
    refine wTk 4 299 ?_ ?_ ?_
    rotate_left
    · intro o h w k; (try dsimp only at k); simp only [gA, gB, gC, gG] at h; subst h; go_simp; try with_reducible rfl
    simp only [Act.put, gD, gE, gF]
    refine wTk 5 300 ?_ ?_ ?_
    rotate_left
    · intro o h w k; (try dsimp only at k); simp only [gA, gB, gC, gG] at h; subst h; go_simp; try with_reducible rfl
    simp only [Act.put, gD, gE, gF]
    refine wTk 6 301 ?_ ?_ ?_
    rotate_left
    · intro o h w k; (try dsimp only at k); simp only [gA, gB, gC, gG] at h; subst h; go_simp; try with_reducible rfl
    simp only [Act.put, gD, gE, gF]
    refine wTk 7 302 ?_ ?_ ?_
    rotate_left
    · intro o h w k; (try dsimp only at k); simp only [gA, gB, gC, gG] at h; subst h; go_simp; try with_reducible rfl
    simp only [Act.put, gD, gE, gF]
    refine wTk 8 303 ?_ ?_ ?_
    rotate_left
    · intro o h w k; (try dsimp only at k); simp only [gA, gB, gC, gG] at h; subst h; go_simp; try with_reducible rfl
    simp only [Act.put, gD, gE, gF]
    refine wTk 9 304 ?_ ?_ ?_
    rotate_left
    · intro o h w k; (try dsimp only at k); simp only [gA, gB, gC, gG] at h; subst h; go_simp; try with_reducible rfl
    simp only [Act.put, gD, gE, gF]
    refine wTk 10 305 ?_ ?_ ?_
    rotate_left
    · intro o h w k; (try dsimp only at k); simp only [gA, gB, gC, gG] at h; subst h; go_simp; try with_reducible rfl
    simp only [Act.put, gD, gE, gF]
    refine wTk 11 306 ?_ ?_ ?_
    rotate_left
    · intro o h w k; (try dsimp only at k); simp only [gA, gB, gC, gG] at h; subst h; go_simp; try with_reducible rfl
    simp only [Act.put, gD, gE, gF]
    refine wTk 12 307 ?_ ?_ ?_
    rotate_left
    · intro o h w k; (try dsimp only at k); simp only [gA, gB, gC, gG] at h; subst h; go_simp; try with_reducible rfl
    simp only [Act.put, gD, gE, gF]
    refine wpAnyW_done (by kernel_rfl) ?_ _
    dsimp only [onNormal]
    exact HFIN.out _ _ _ _ _ _ _ _ _ _ _ _ _ hHeld
  · omega

theorem lfew_reg51 (c oc k j : Nat) (a oa : Option Addr) (ls ol : List ITr) (t u : ITr) (wA : World) {z0 z1 z2 z3 z6 z7 z8 z9 z10 z11 z12 z13 z14 z15 z16 z18 z19 z20 z21 z22 z23 z24 z25 z28 z29 z30 z31 z32 z33 z34 z35 z36 z37 z38 z39 z40 z41 z42 z43 z44 z45 z46 z47 z48 z49 z50 z51 z52 z53 z54 z55 z56 z57 z58 z59 z60 z61 z62 z63 z64 z65 z66 z67 z68 z69 z70 z71 z72 z73 z74 z75 z76 z77 z78 z79 z80 z81 z82 z83 z84 z85 z86 z87 z88 z89 z90 z91 z92 z93 z94 z95 z96 z97 z98 z99 z100 z101 z102 z103 z104 z105 z106 z107 z108 z109 z110 z111 z112 z113 z114 z115 z116 z117 z118 z119 z120 z121 z122 z123 z124 z125 z126 z127 z128 z129 z130 z131 z132 z133 z134 z135 z136 z137 z138 z139 z140 z141 z142 z143 z144 z145 z146 z147 z148 z149 z150 z151 z152 z153 z154 z155 z156 z157 z158 z159 z160 z161 z162 z163 z164 z165 z166 z167 z168 z169 z170 z171 z172 z173 z174 z175 z176 z177 z178 z179 z180 z181 z182 z183 z184 z185 z186 z187 z188 z189 z190 z191 z192 z193 z194 z195 z196 z197 z198 z199 z200 z201 z202 z203 z204 z205 z206 z207 z208 z209 z210 z211 z212 z213 z214 z215 z216 z217 z218 z219 z220 z221 z222 z223 z224 z225 z226 z227 z228 z229 z230 z231 z232 z233 z234 z235 z236 z237 z238 z239 z240 z241 z242 z243 z244 z245 z246 z247 z248 z249 z250 z251 z252 z253 z254 z255 z256 z257 z258 z259 z260 z261 z262 z263 z264 z265 z266 z267 z268 z269 z270 z271 z272 z273 z274 z275 z276 z277 z278 z279 z280 z281 z282 z283 z284 z285 z286 z287 z288 z289 z290 z291 z292 z293 z294 z295 z296 z297 z298 z299 z300 z301 z302 z303 z304 z305 z306 z307 z324 z325 z326 : Value} {z4 z308 z309 z310 z311 z312 z313 z314 z315 z316 z317 z318 z319 z320 z321 z322 z323 : Value} (hl : ls.length ≤ 9) (ho : ol.length ≤ 9) (hk : k < ls.length) (hk2 : k < ol.length) (hj : j < 3) (ht : ls[k] = t) (hu : ol[k] = u) (htr : TrSl wA a ls) (hor : TrSl wA oa ol) (hr : t.at' j < u.at' j) (K : Act → World → Prop) (Q : Exit → Act → World → Prop)
    (hfin : ∀ (s308 s309 s310 s311 s312 s313 s314 s315 s316 s317 s318 s319 s320 s321 s322 s323 : Value) (w3 : World), Below wA.heap.size wA w3 → K ⟨(z0::z1::z2::z3::(.bool true)::(.slice a ls.length c)::z6::z7::z8::z9::z10::z11::z12::z13::z14::z15::z16::(.slice oa ol.length oc)::z18::z19::z20::z21::z22::z23::z24::z25::(.int .i64 (k : Int))::(.int .i64 (j : Int))::z28::z29::z30::z31::z32::z33::z34::z35::z36::z37::z38::z39::z40::z41::z42::z43::z44::z45::z46::z47::z48::z49::z50::z51::z52::z53::z54::z55::z56::z57::z58::z59::z60::z61::z62::z63::z64::z65::z66::z67::z68::z69::z70::z71::z72::z73::z74::z75::z76::z77::z78::z79::z80::z81::z82::z83::z84::z85::z86::z87::z88::z89::z90::z91::z92::z93::z94::z95::z96::z97::z98::z99::z100::z101::z102::z103::z104::z105::z106::z107::z108::z109::z110::z111::z112::z113::z114::z115::z116::z117::z118::z119::z120::z121::z122::z123::z124::z125::z126::z127::z128::z129::z130::z131::z132::z133::z134::z135::z136::z137::z138::z139::z140::z141::z142::z143::z144::z145::z146::z147::z148::z149::z150::z151::z152::z153::z154::z155::z156::z157::z158::z159::z160::z161::z162::z163::z164::z165::z166::z167::z168::z169::z170::z171::z172::z173::z174::z175::z176::z177::z178::z179::z180::z181::z182::z183::z184::z185::z186::z187::z188::z189::z190::z191::z192::z193::z194::z195::z196::z197::z198::z199::z200::z201::z202::z203::z204::z205::z206::z207::z208::z209::z210::z211::z212::z213::z214::z215::z216::z217::z218::z219::z220::z221::z222::z223::z224::z225::z226::z227::z228::z229::z230::z231::z232::z233::z234::z235::z236::z237::z238::z239::z240::z241::z242::z243::z244::z245::z246::z247::z248::z249::z250::z251::z252::z253::z254::z255::z256::z257::z258::z259::z260::z261::z262::z263::z264::z265::z266::z267::z268::z269::z270::z271::z272::z273::z274::z275::z276::z277::z278::z279::z280::z281::z282::z283::z284::z285::z286::z287::z288::z289::z290::z291::z292::z293::z294::z295::z296::z297::z298::z299::z300::z301::z302::z303::z304::z305::z306::z307::s308::s309::s310::s311::s312::s313::s314::s315::s316::s317::s318::s319::s320::s321::s322::s323::z324::z325::z326 :: []).toArray, []⟩ w3) :
    Code.wp Try.prog ((Try.f7.body.bind (findReg 51)).getD .skip) (Exit.then K Q) ⟨(z0::z1::z2::z3::z4::(.slice a ls.length c)::z6::z7::z8::z9::z10::z11::z12::z13::z14::z15::z16::(.slice oa ol.length oc)::z18::z19::z20::z21::z22::z23::z24::z25::(.int .i64 (k : Int))::(.int .i64 (j : Int))::z28::z29::z30::z31::z32::z33::z34::z35::z36::z37::z38::z39::z40::z41::z42::z43::z44::z45::z46::z47::z48::z49::z50::z51::z52::z53::z54::z55::z56::z57::z58::z59::z60::z61::z62::z63::z64::z65::z66::z67::z68::z69::z70::z71::z72::z73::z74::z75::z76::z77::z78::z79::z80::z81::z82::z83::z84::z85::z86::z87::z88::z89::z90::z91::z92::z93::z94::z95::z96::z97::z98::z99::z100::z101::z102::z103::z104::z105::z106::z107::z108::z109::z110::z111::z112::z113::z114::z115::z116::z117::z118::z119::z120::z121::z122::z123::z124::z125::z126::z127::z128::z129::z130::z131::z132::z133::z134::z135::z136::z137::z138::z139::z140::z141::z142::z143::z144::z145::z146::z147::z148::z149::z150::z151::z152::z153::z154::z155::z156::z157::z158::z159::z160::z161::z162::z163::z164::z165::z166::z167::z168::z169::z170::z171::z172::z173::z174::z175::z176::z177::z178::z179::z180::z181::z182::z183::z184::z185::z186::z187::z188::z189::z190::z191::z192::z193::z194::z195::z196::z197::z198::z199::z200::z201::z202::z203::z204::z205::z206::z207::z208::z209::z210::z211::z212::z213::z214::z215::z216::z217::z218::z219::z220::z221::z222::z223::z224::z225::z226::z227::z228::z229::z230::z231::z232::z233::z234::z235::z236::z237::z238::z239::z240::z241::z242::z243::z244::z245::z246::z247::z248::z249::z250::z251::z252::z253::z254::z255::z256::z257::z258::z259::z260::z261::z262::z263::z264::z265::z266::z267::z268::z269::z270::z271::z272::z273::z274::z275::z276::z277::z278::z279::z280::z281::z282::z283::z284::z285::z286::z287::z288::z289::z290::z291::z292::z293::z294::z295::z296::z297::z298::z299::z300::z301::z302::z303::z304::z305::z306::z307::z308::z309::z310::z311::z312::z313::z314::z315::z316::z317::z318::z319::z320::z321::z322::z323::z324::z325::z326 :: []).toArray, []⟩ wA := by
  have HFIN := Lib.hid hfin
  clear hfin
  have hki : (k : Int) < ls.length := by omega
  have hki2 : (k : Int) < ol.length := by omega
  have hli : (ls.length : Int) ≤ 9 := by omega
  have hoi : (ol.length : Int) ≤ 9 := by omega
  obtain ⟨b1, o1, rfl, _, e0, e1, e2⟩ := htr k hk
  obtain ⟨b2, o2, rfl, _, e3, e4, e5⟩ := hor k hk2
  rw [ht] at e0 e1 e2
  rw [hu] at e3 e4 e5
  clear ht hu htr hor
  rcases j with _ | _ | _ | j
  · have k1 := iheld e0 (Nat.le_refl _)
    have k2 := iheld e3 (Nat.le_refl _)
    clear e0 e1 e2 e3 e4 e5
    replace hr : t.a < u.a := hr
    have d1 : decide (t.a < u.a) = true := decide_eq_true hr
    clear hr
    conv => arg 2; whnf
    refine (wpIn_wide (n := 1)).1 ?_
    refine wpIn_region_Wn (S := Below wA.heap.size wA) 17 (by kernel_rfl) (by kernel_rfl) (below_drew wA) (fun hHeld => ?_)
    refine wTk 0 308 ?_ ?_ ?_
    rotate_left
    · intro o h w k; (try dsimp only at k); simp only [gA, gB, gC, gG] at h; subst h; go_simp; try with_reducible rfl
    simp only [Act.put, gD, gE, gF]
    refine wTk 1 309 ?_ ?_ ?_
    rotate_left
    · intro o h w k; (try dsimp only at k); simp only [gA, gB, gC, gG] at h; subst h; go_simp; try with_reducible rfl
    simp only [Act.put, gD, gE, gF]
    refine wTk 2 310 ?_ ?_ ?_
    rotate_left
    · intro o h w k; (try dsimp only at k); simp only [gA, gB, gC, gG] at h; subst h; go_simp; try with_reducible rfl
    simp only [Act.put, gD, gE, gF]
    refine wTk 3 311 ?_ ?_ ?_
    rotate_left
    · intro o h w k; (try dsimp only at k); simp only [gA, gB, gC, gG] at h; subst h; go_simp; try with_reducible rfl
    simp only [Act.put, gD, gE, gF]
    refine wTk 4 312 ?_ ?_ ?_
    rotate_left
    · intro o h w k; (try dsimp only at k); simp only [gA, gB, gC, gG] at h; subst h; go_simp; try with_reducible rfl
    simp only [Act.put, gD, gE, gF]
    refine wTk 5 313 ?_ ?_ ?_
    rotate_left
    · intro o h w k; (try dsimp only at k); simp only [gA, gB, gC, gG] at h; subst h; go_simp; try with_reducible rfl
    simp only [Act.put, gD, gE, gF]
    refine wTk 6 314 ?_ ?_ ?_
    rotate_left
    · intro o h w k; (try dsimp only at k); simp only [gA, gB, gC, gG] at h; subst h; go_simp; try with_reducible rfl
    simp only [Act.put, gD, gE, gF]
    refine wTk 7 315 ?_ ?_ ?_
    rotate_left
    · intro o h w k; (try dsimp only at k); simp only [gA, gB, gC, gG] at h; subst h; go_simp; try with_reducible rfl
    simp only [Act.put, gD, gE, gF]
    refine wTk 8 316 ?_ ?_ ?_
    rotate_left
    · intro o h w k; (try dsimp only at k); simp only [gA, gB, gC, gG] at h; subst h; go_simp; try with_reducible rfl
    simp only [Act.put, gD, gE, gF]
    refine wTk 9 317 ?_ ?_ ?_
    rotate_left
    · intro o h w k; (try dsimp only at k); simp only [gA, gB, gC, gG] at h; subst h; go_simp; try with_reducible rfl
    simp only [Act.put, gD, gE, gF]
    refine wTk 10 318 ?_ ?_ ?_
    rotate_left
    · intro o h w k; (try dsimp only at k); simp only [gA, gB, gC, gG] at h; subst h; go_simp; try with_reducible rfl
    simp only [Act.put, gD, gE, gF]
    refine wTk 11 319 ?_ ?_ ?_
    rotate_left
    · intro o h w k; (try dsimp only at k); simp only [gA, gB, gC, gG] at h; subst h; go_simp; try with_reducible rfl
    simp only [Act.put, gD, gE, gF]
    refine wTk 12 320 ?_ ?_ ?_
    rotate_left
    · intro o h w k; (try dsimp only at k); simp only [gA, gB, gC, gG] at h; subst h; go_simp; try with_reducible rfl
    simp only [Act.put, gD, gE, gF]
    refine wTk 13 321 ?_ ?_ ?_
    rotate_left
    · intro o h w k; (try dsimp only at k); simp only [gA, gB, gC, gG] at h; subst h; go_simp; try with_reducible rfl
    simp only [Act.put, gD, gE, gF]
    clear k1 k2
    refine wpAnyW_one 14 (by kernel_rfl) (by kernel_rfl) ?_
    intro o ho K hK
    simp only [gA, gB, gC, gG] at ho
    subst ho
    go_simp
    refine ⟨trivial, CallsIn.mono (callsIn_wide.2 (iawake_any _)) ?_⟩
    rintro e W1 ⟨rfl, hb1⟩
    have H1 := hHeld.trans (hb1.mono hHeld.size)
    refine hK _ _ H1 (fun _ => ?_)
    clear hK K
    try simp only [Act.put, gD, gE, gF]
    refine wTk 15 323 ?_ ?_ ?_
    rotate_left
    · intro o h w k; (try dsimp only at k); simp only [gA, gB, gC, gG] at h; subst h; go_simp; try with_reducible rfl
    simp only [Act.put, gD, gE, gF]
    refine wTk 16 4 ?_ ?_ ?_
    rotate_left
    · intro o h w k; (try dsimp only at k); simp only [gA, gB, gC, gG] at h; subst h; go_simp; try with_reducible rfl
    simp only [Act.put, gD, gE, gF]
    refine wpAnyW_done (by kernel_rfl) ?_ _
    dsimp only [onNormal]
    exact HFIN.out _ _ _ _ _ _ _ _ _ _ _ _ _ _ _ _ _ H1
  · have k1 := iheld e1 (Nat.le_refl _)
    have k2 := iheld e4 (Nat.le_refl _)
    clear e0 e1 e2 e3 e4 e5
    replace hr : t.b < u.b := hr
    have d1 : decide (t.b < u.b) = true := decide_eq_true hr
    clear hr
    conv => arg 2; whnf
    refine (wpIn_wide (n := 1)).1 ?_
    refine wpIn_region_Wn (S := Below wA.heap.size wA) 17 (by kernel_rfl) (by kernel_rfl) (below_drew wA) (fun hHeld => ?_)
    refine wTk 0 308 ?_ ?_ ?_
    rotate_left
    · intro o h w k; (try dsimp only at k); simp only [gA, gB, gC, gG] at h; subst h; go_simp; try with_reducible rfl
    simp only [Act.put, gD, gE, gF]
    refine wTk 1 309 ?_ ?_ ?_
    rotate_left
    · intro o h w k; (try dsimp only at k); simp only [gA, gB, gC, gG] at h; subst h; go_simp; try with_reducible rfl
    simp only [Act.put, gD, gE, gF]
    refine wTk 2 310 ?_ ?_ ?_
    rotate_left
    · intro o h w k; (try dsimp only at k); simp only [gA, gB, gC, gG] at h; subst h; go_simp; try with_reducible rfl
    simp only [Act.put, gD, gE, gF]
    refine wTk 3 311 ?_ ?_ ?_
    rotate_left
    · intro o h w k; (try dsimp only at k); simp only [gA, gB, gC, gG] at h; subst h; go_simp; try with_reducible rfl
    simp only [Act.put, gD, gE, gF]
    refine wTk 4 312 ?_ ?_ ?_
    rotate_left
    · intro o h w k; (try dsimp only at k); simp only [gA, gB, gC, gG] at h; subst h; go_simp; try with_reducible rfl
    simp only [Act.put, gD, gE, gF]
    refine wTk 5 313 ?_ ?_ ?_
    rotate_left
    · intro o h w k; (try dsimp only at k); simp only [gA, gB, gC, gG] at h; subst h; go_simp; try with_reducible rfl
    simp only [Act.put, gD, gE, gF]
    refine wTk 6 314 ?_ ?_ ?_
    rotate_left
    · intro o h w k; (try dsimp only at k); simp only [gA, gB, gC, gG] at h; subst h; go_simp; try with_reducible rfl
    simp only [Act.put, gD, gE, gF]
    refine wTk 7 315 ?_ ?_ ?_
    rotate_left
    · intro o h w k; (try dsimp only at k); simp only [gA, gB, gC, gG] at h; subst h; go_simp; try with_reducible rfl
    simp only [Act.put, gD, gE, gF]
    refine wTk 8 316 ?_ ?_ ?_
    rotate_left
    · intro o h w k; (try dsimp only at k); simp only [gA, gB, gC, gG] at h; subst h; go_simp; try with_reducible rfl
    simp only [Act.put, gD, gE, gF]
    refine wTk 9 317 ?_ ?_ ?_
    rotate_left
    · intro o h w k; (try dsimp only at k); simp only [gA, gB, gC, gG] at h; subst h; go_simp; try with_reducible rfl
    simp only [Act.put, gD, gE, gF]
    refine wTk 10 318 ?_ ?_ ?_
    rotate_left
    · intro o h w k; (try dsimp only at k); simp only [gA, gB, gC, gG] at h; subst h; go_simp; try with_reducible rfl
    simp only [Act.put, gD, gE, gF]
    refine wTk 11 319 ?_ ?_ ?_
    rotate_left
    · intro o h w k; (try dsimp only at k); simp only [gA, gB, gC, gG] at h; subst h; go_simp; try with_reducible rfl
    simp only [Act.put, gD, gE, gF]
    refine wTk 12 320 ?_ ?_ ?_
    rotate_left
    · intro o h w k; (try dsimp only at k); simp only [gA, gB, gC, gG] at h; subst h; go_simp; try with_reducible rfl
    simp only [Act.put, gD, gE, gF]
    refine wTk 13 321 ?_ ?_ ?_
    rotate_left
    · intro o h w k; (try dsimp only at k); simp only [gA, gB, gC, gG] at h; subst h; go_simp; try with_reducible rfl
    simp only [Act.put, gD, gE, gF]
    clear k1 k2
    refine wpAnyW_one 14 (by kernel_rfl) (by kernel_rfl) ?_
    intro o ho K hK
    simp only [gA, gB, gC, gG] at ho
    subst ho
    go_simp
    refine ⟨trivial, CallsIn.mono (callsIn_wide.2 (iawake_any _)) ?_⟩
    rintro e W1 ⟨rfl, hb1⟩
    have H1 := hHeld.trans (hb1.mono hHeld.size)
    refine hK _ _ H1 (fun _ => ?_)
    clear hK K
    try simp only [Act.put, gD, gE, gF]
    refine wTk 15 323 ?_ ?_ ?_
    rotate_left
    · intro o h w k; (try dsimp only at k); simp only [gA, gB, gC, gG] at h; subst h; go_simp; try with_reducible rfl
    simp only [Act.put, gD, gE, gF]
    refine wTk 16 4 ?_ ?_ ?_
    rotate_left
    · intro o h w k; (try dsimp only at k); simp only [gA, gB, gC, gG] at h; subst h; go_simp; try with_reducible rfl
    simp only [Act.put, gD, gE, gF]
    refine wpAnyW_done (by kernel_rfl) ?_ _
    dsimp only [onNormal]
    exact HFIN.out _ _ _ _ _ _ _ _ _ _ _ _ _ _ _ _ _ H1
  · have k1 := iheld e2 (Nat.le_refl _)
    have k2 := iheld e5 (Nat.le_refl _)
    clear e0 e1 e2 e3 e4 e5
    replace hr : t.c < u.c := hr
    have d1 : decide (t.c < u.c) = true := decide_eq_true hr
    clear hr
    conv => arg 2; whnf
    refine (wpIn_wide (n := 1)).1 ?_
    refine wpIn_region_Wn (S := Below wA.heap.size wA) 17 (by kernel_rfl) (by kernel_rfl) (below_drew wA) (fun hHeld => ?_)
    refine wTk 0 308 ?_ ?_ ?_
    rotate_left
    · intro o h w k; (try dsimp only at k); simp only [gA, gB, gC, gG] at h; subst h; go_simp; try with_reducible rfl
    simp only [Act.put, gD, gE, gF]
    refine wTk 1 309 ?_ ?_ ?_
    rotate_left
    · intro o h w k; (try dsimp only at k); simp only [gA, gB, gC, gG] at h; subst h; go_simp; try with_reducible rfl
    simp only [Act.put, gD, gE, gF]
    refine wTk 2 310 ?_ ?_ ?_
    rotate_left
    · intro o h w k; (try dsimp only at k); simp only [gA, gB, gC, gG] at h; subst h; go_simp; try with_reducible rfl
    simp only [Act.put, gD, gE, gF]
    refine wTk 3 311 ?_ ?_ ?_
    rotate_left
    · intro o h w k; (try dsimp only at k); simp only [gA, gB, gC, gG] at h; subst h; go_simp; try with_reducible rfl
    simp only [Act.put, gD, gE, gF]
    refine wTk 4 312 ?_ ?_ ?_
    rotate_left
    · intro o h w k; (try dsimp only at k); simp only [gA, gB, gC, gG] at h; subst h; go_simp; try with_reducible rfl
    simp only [Act.put, gD, gE, gF]
    refine wTk 5 313 ?_ ?_ ?_
    rotate_left
    · intro o h w k; (try dsimp only at k); simp only [gA, gB, gC, gG] at h; subst h; go_simp; try with_reducible rfl
    simp only [Act.put, gD, gE, gF]
    refine wTk 6 314 ?_ ?_ ?_
    rotate_left
    · intro o h w k; (try dsimp only at k); simp only [gA, gB, gC, gG] at h; subst h; go_simp; try with_reducible rfl
    simp only [Act.put, gD, gE, gF]
    refine wTk 7 315 ?_ ?_ ?_
    rotate_left
    · intro o h w k; (try dsimp only at k); simp only [gA, gB, gC, gG] at h; subst h; go_simp; try with_reducible rfl
    simp only [Act.put, gD, gE, gF]
    refine wTk 8 316 ?_ ?_ ?_
    rotate_left
    · intro o h w k; (try dsimp only at k); simp only [gA, gB, gC, gG] at h; subst h; go_simp; try with_reducible rfl
    simp only [Act.put, gD, gE, gF]
    refine wTk 9 317 ?_ ?_ ?_
    rotate_left
    · intro o h w k; (try dsimp only at k); simp only [gA, gB, gC, gG] at h; subst h; go_simp; try with_reducible rfl
    simp only [Act.put, gD, gE, gF]
    refine wTk 10 318 ?_ ?_ ?_
    rotate_left
    · intro o h w k; (try dsimp only at k); simp only [gA, gB, gC, gG] at h; subst h; go_simp; try with_reducible rfl
    simp only [Act.put, gD, gE, gF]
    refine wTk 11 319 ?_ ?_ ?_
    rotate_left
    · intro o h w k; (try dsimp only at k); simp only [gA, gB, gC, gG] at h; subst h; go_simp; try with_reducible rfl
    simp only [Act.put, gD, gE, gF]
    refine wTk 12 320 ?_ ?_ ?_
    rotate_left
    · intro o h w k; (try dsimp only at k); simp only [gA, gB, gC, gG] at h; subst h; go_simp; try with_reducible rfl
    simp only [Act.put, gD, gE, gF]
    refine wTk 13 321 ?_ ?_ ?_
    rotate_left
    · intro o h w k; (try dsimp only at k); simp only [gA, gB, gC, gG] at h; subst h; go_simp; try with_reducible rfl
    simp only [Act.put, gD, gE, gF]
    clear k1 k2
    refine wpAnyW_one 14 (by kernel_rfl) (by kernel_rfl) ?_
    intro o ho K hK
    simp only [gA, gB, gC, gG] at ho
    subst ho
    go_simp
    refine ⟨trivial, CallsIn.mono (callsIn_wide.2 (iawake_any _)) ?_⟩
    rintro e W1 ⟨rfl, hb1⟩
    have H1 := hHeld.trans (hb1.mono hHeld.size)
    refine hK _ _ H1 (fun _ => ?_)
    clear hK K
    try simp only [Act.put, gD, gE, gF]
    refine wTk 15 323 ?_ ?_ ?_
    rotate_left
    · intro o h w k; (try dsimp only at k); simp only [gA, gB, gC, gG] at h; subst h; go_simp; try with_reducible rfl
    simp only [Act.put, gD, gE, gF]
    refine wTk 16 4 ?_ ?_ ?_
    rotate_left
    · intro o h w k; (try dsimp only at k); simp only [gA, gB, gC, gG] at h; subst h; go_simp; try with_reducible rfl
    simp only [Act.put, gD, gE, gF]
    refine wpAnyW_done (by kernel_rfl) ?_ _
    dsimp only [onNormal]
    exact HFIN.out _ _ _ _ _ _ _ _ _ _ _ _ _ _ _ _ _ H1
  · omega
end Go.Proofs.Ytacioedolmaofaa
namespace Go.Proofs.Ytacioedolmaofaa
open Go.RowKit Go.Shelf
set_option maxHeartbeats 12800000
set_option maxRecDepth 100000
set_option linter.unusedSimpArgs false
set_option linter.unusedVariables false

theorem lfew_in (c k q : Nat) (a : Option Addr) (ls : List ITr) (t : ITr) (W3 : World) {z0 z1 z2 z3 z6 z7 z8 z9 z10 z13 z14 z15 z17 z18 z19 z20 z21 z22 z23 z24 z25 z26 z27 z28 z29 z30 z31 z32 z33 z34 z35 z36 z37 z38 z39 z40 z41 z42 z43 z44 z45 z46 z47 z48 z49 z50 z51 z52 z53 z54 z55 z56 z57 z58 z59 z60 z61 z62 z63 z64 z65 z66 z67 z68 z69 z70 z71 z72 z73 z74 z75 z76 z77 z78 z79 z80 z81 z82 z83 z84 z85 z86 z87 z88 z89 z90 z91 z92 z93 z94 z95 z96 z97 z98 z99 z100 z101 z102 z103 z104 z105 z106 z107 z108 z109 z110 z111 z112 z113 z114 z115 z116 z117 z118 z119 z120 z121 z122 z123 z124 z125 z126 z127 z128 z129 z130 z131 z132 z133 z134 z135 z136 z137 z138 z139 z140 z141 z142 z143 z144 z145 z146 z147 z148 z149 z150 z151 z152 z153 z154 z155 z156 z157 z158 z159 z160 z161 z162 z163 z164 z165 z166 z167 z168 z169 z170 z171 z186 z187 z188 z189 z190 z191 z192 z193 z194 z195 z196 z197 z198 z199 z200 z201 z202 z203 z204 z205 z206 z207 z208 z209 z210 z211 z212 z213 z214 z215 z216 z217 z218 z219 z220 z221 z222 z223 z224 z225 z226 z227 z228 z229 z230 z231 z232 z233 z234 z235 z236 z237 z238 z239 z240 z241 z242 z243 z244 z245 z246 z247 z248 z249 z250 z251 z252 z253 z254 z255 z256 z257 z258 z259 z260 z261 z262 z263 z264 z265 z266 z267 z268 z269 z270 z271 z272 z273 z274 z275 z276 z277 z278 z279 z280 z281 z282 z283 z284 z285 z286 z287 z288 z289 z290 z291 z292 z293 z294 z295 z296 z297 z298 z299 z300 z301 z302 z303 z304 z305 z306 z307 z308 z309 z310 z311 z312 z313 z314 z315 z316 z317 z318 z319 z320 z321 z322 z323 z324 z325 z326 : Value} {z4 z16 z172 z173 z174 z175 z176 z177 z178 z179 z180 z181 z182 z183 z184 z185 : Value} (hl : ls.length ≤ 9) (hk : k < ls.length) (hc : ls.length ≤ c) (gt : W3.heap[q]? = some (.cells #[.int .i64 t.a, .int .i64 t.b, .int .i64 t.c] 32)) (HT : Hid (TrSl W3 a ls)) (HD : Hid (∀ j < 3, t.at' j ≠ -1 → usedIn (ls.take k) (t.at' j) = false)) (K1 : Act → World → Prop) (Q : Exit → Act → World → Prop)
    (hK1 : ∀ a w', Code.wp Try.prog (sndC' ((Try.f7.body.bind (findSt 18)).getD .skip)) (Q) a w' → K1 a w')
    (hfin : ∀ (s4 s16 s172 s173 s174 s175 s176 s177 s178 s179 s180 s181 s182 s183 s184 s185 : Value) (w3 : World), Below W3.heap.size W3 w3 → Q .normal ⟨(z0::z1::z2::z3::s4::(.slice a ls.length c)::z6::z7::z8::z9::z10::(.int .i64 (k : Int))::(.pointer (some ⟨q, 0, none⟩))::z13::z14::z15::s16::z17::z18::z19::z20::z21::z22::z23::z24::z25::z26::z27::z28::z29::z30::z31::z32::z33::z34::z35::z36::z37::z38::z39::z40::z41::z42::z43::z44::z45::z46::z47::z48::z49::z50::z51::z52::z53::z54::z55::z56::z57::z58::z59::z60::z61::z62::z63::z64::z65::z66::z67::z68::z69::z70::z71::z72::z73::z74::z75::z76::z77::z78::z79::z80::z81::z82::z83::z84::z85::z86::z87::z88::z89::z90::z91::z92::z93::z94::z95::z96::z97::z98::z99::z100::z101::z102::z103::z104::z105::z106::z107::z108::z109::z110::z111::z112::z113::z114::z115::z116::z117::z118::z119::z120::z121::z122::z123::z124::z125::z126::z127::z128::z129::z130::z131::z132::z133::z134::z135::z136::z137::z138::z139::z140::z141::z142::z143::z144::z145::z146::z147::z148::z149::z150::z151::z152::z153::z154::z155::z156::z157::z158::z159::z160::z161::z162::z163::z164::z165::z166::z167::z168::z169::z170::z171::s172::s173::s174::s175::s176::s177::s178::s179::s180::s181::s182::s183::s184::s185::z186::z187::z188::z189::z190::z191::z192::z193::z194::z195::z196::z197::z198::z199::z200::z201::z202::z203::z204::z205::z206::z207::z208::z209::z210::z211::z212::z213::z214::z215::z216::z217::z218::z219::z220::z221::z222::z223::z224::z225::z226::z227::z228::z229::z230::z231::z232::z233::z234::z235::z236::z237::z238::z239::z240::z241::z242::z243::z244::z245::z246::z247::z248::z249::z250::z251::z252::z253::z254::z255::z256::z257::z258::z259::z260::z261::z262::z263::z264::z265::z266::z267::z268::z269::z270::z271::z272::z273::z274::z275::z276::z277::z278::z279::z280::z281::z282::z283::z284::z285::z286::z287::z288::z289::z290::z291::z292::z293::z294::z295::z296::z297::z298::z299::z300::z301::z302::z303::z304::z305::z306::z307::z308::z309::z310::z311::z312::z313::z314::z315::z316::z317::z318::z319::z320::z321::z322::z323::z324::z325::z326 :: []).toArray, []⟩ w3) :
    Code.wp Try.prog (fstC' ((Try.f7.body.bind (findSt 18)).getD .skip)) (Exit.then K1 (Q)) ⟨(z0::z1::z2::z3::z4::(.slice a ls.length c)::z6::z7::z8::z9::z10::(.int .i64 (k : Int))::(.pointer (some ⟨q, 0, none⟩))::z13::z14::z15::z16::z17::z18::z19::z20::z21::z22::z23::z24::z25::z26::z27::z28::z29::z30::z31::z32::z33::z34::z35::z36::z37::z38::z39::z40::z41::z42::z43::z44::z45::z46::z47::z48::z49::z50::z51::z52::z53::z54::z55::z56::z57::z58::z59::z60::z61::z62::z63::z64::z65::z66::z67::z68::z69::z70::z71::z72::z73::z74::z75::z76::z77::z78::z79::z80::z81::z82::z83::z84::z85::z86::z87::z88::z89::z90::z91::z92::z93::z94::z95::z96::z97::z98::z99::z100::z101::z102::z103::z104::z105::z106::z107::z108::z109::z110::z111::z112::z113::z114::z115::z116::z117::z118::z119::z120::z121::z122::z123::z124::z125::z126::z127::z128::z129::z130::z131::z132::z133::z134::z135::z136::z137::z138::z139::z140::z141::z142::z143::z144::z145::z146::z147::z148::z149::z150::z151::z152::z153::z154::z155::z156::z157::z158::z159::z160::z161::z162::z163::z164::z165::z166::z167::z168::z169::z170::z171::z172::z173::z174::z175::z176::z177::z178::z179::z180::z181::z182::z183::z184::z185::z186::z187::z188::z189::z190::z191::z192::z193::z194::z195::z196::z197::z198::z199::z200::z201::z202::z203::z204::z205::z206::z207::z208::z209::z210::z211::z212::z213::z214::z215::z216::z217::z218::z219::z220::z221::z222::z223::z224::z225::z226::z227::z228::z229::z230::z231::z232::z233::z234::z235::z236::z237::z238::z239::z240::z241::z242::z243::z244::z245::z246::z247::z248::z249::z250::z251::z252::z253::z254::z255::z256::z257::z258::z259::z260::z261::z262::z263::z264::z265::z266::z267::z268::z269::z270::z271::z272::z273::z274::z275::z276::z277::z278::z279::z280::z281::z282::z283::z284::z285::z286::z287::z288::z289::z290::z291::z292::z293::z294::z295::z296::z297::z298::z299::z300::z301::z302::z303::z304::z305::z306::z307::z308::z309::z310::z311::z312::z313::z314::z315::z316::z317::z318::z319::z320::z321::z322::z323::z324::z325::z326 :: []).toArray, []⟩ W3 := by
  have HFIN := Lib.hid hfin
  clear hfin
  obtain ⟨ab, ao, rfl, _⟩ := HT.out k hk
  have t0 := cell_block gt 0
  have t1 := cell_block gt 1
  have t2 := cell_block gt 2
  simp only [gA, gB, gC] at t0 t1 t2
  have hki : (k : Int) ≤ c := by omega
  have hki0 : (0 : Int) ≤ k := by omega
  have htk : (ls.take k).length = k := by rw [List.length_take]; omega
  have HTK := Lib.hid htk
  clear htk gt
  conv => arg 2; whnf
  conv at hK1 => enter [a, w', 1, 2]; whnf
  go_wp2_with fail
  go_loopw [173] (fun u wi => ∃ j : Nat, j ≤ 3 ∧ u = .int .i64 j ∧ Below W3.heap.size W3 wi) (fun u _ => 3 - (intOf u).toNat)
  case atStart => exact ⟨0, Nat.zero_le _, rfl, Below.refl _ _⟩
  case round =>
    obtain ⟨j, hj, rfl, hbi⟩ := hrel
    by_cases hlt : j < 3
    · have hji : (j : Int) < 3 := by omega
      have ix := tix t j hlt
      have HM := HD.out j hlt
      obtain ⟨m, hm⟩ : ∃ m, t.at' j = m := ⟨_, rfl⟩
      rw [hm] at ix HM
      clear hm
      by_cases hm1 : m = -1
      · have hne : (m != -1) = false := by simpa using hm1
        clear hm1 HM
        go_wp2_with fail
        go_roundw
        case rel => exact ⟨j + 1, by omega, by go_num, hbi⟩
        case measure => simp [intOf]; omega
      · have hU := irUsed_any (some ⟨ab, ao, none⟩) c (ls.take k) m wr ((HT.out.below hbi (Nat.le_refl _)).take k) (by rw [HTK.out]; omega)
        rw [HM hm1, HTK.out] at hU
        have HU := Lib.hid hU
        have hne : (m != -1) = true := by simpa using hm1
        clear hm1 HM hU
        go_wp2_with fail
        refine HU.out.mono ?_
        rintro e w2 ⟨rfl, hb2⟩
        have hB2 := hbi.trans (hb2.mono hbi.size)
        clear HU hb2
        go_wp2_with fail
        go_roundw
        case rel => exact ⟨j + 1, by omega, by go_num, hB2⟩
        case measure => simp [intOf]; omega
    · obtain rfl : j = 3 := by omega
      clear hlt
      rw [show ((3 : Nat) : Int) = 3 from rfl]
      go_wp2_with fail
      exact HFIN.out _ _ _ _ _ _ _ _ _ _ _ _ _ _ _ _ _ hbi

theorem lfew_loop1 (s : ISheet) (fa : Option Addr) (fc p c : Nat) (a : Option Addr) (ls : List ITr) (w : World) {z0 z1 z3 z6 z7 z8 z9 z10 z15 z17 z18 z19 z20 z21 z22 z23 z24 z25 z26 z27 z28 z29 z30 z31 z32 z33 z34 z35 z36 z37 z38 z39 z40 z41 z42 z43 z44 z45 z46 z47 z48 z49 z50 z51 z52 z53 z54 z55 z56 z57 z58 z59 z60 z61 z62 z63 z64 z65 z66 z67 z68 z69 z70 z71 z72 z73 z74 z75 z76 z77 z78 z79 z80 z81 z82 z83 z84 z85 z86 z87 z88 z89 z90 z91 z92 z93 z94 z95 z96 z97 z98 z99 z100 z101 z102 z103 z104 z105 z106 z107 z108 z109 z110 z111 z112 z113 z114 z115 z116 z117 z118 z119 z120 z121 z122 z123 z124 z125 z126 z127 z128 z129 z130 z131 z132 z133 z134 z135 z136 z137 z187 z188 z189 z190 z191 z192 z193 z194 z195 z196 z197 z198 z199 z200 z201 z202 z203 z204 z205 z206 z207 z208 z209 z210 z211 z212 z213 z214 z215 z216 z217 z218 z219 z220 z221 z222 z223 z224 z225 z226 z227 z228 z229 z230 z231 z232 z233 z234 z235 z236 z237 z238 z239 z240 z241 z242 z243 z244 z245 z246 z247 z248 z249 z250 z251 z252 z253 z254 z255 z256 z257 z258 z259 z260 z261 z262 z263 z264 z265 z266 z267 z268 z269 z270 z271 z272 z273 z274 z275 z276 z277 z278 z279 z280 z281 z282 z283 z284 z285 z286 z287 z288 z289 z290 z291 z292 z293 z294 z295 z296 z297 z298 z299 z300 z301 z302 z303 z304 z305 z306 z307 z308 z309 z310 z311 z312 z313 z314 z315 z316 z317 z318 z319 z320 z321 z322 z323 z324 z325 z326 : Value} {z4 z11 z12 z13 z14 z16 z138 z139 z140 z141 z142 z143 z144 z145 z146 z147 z148 z149 z150 z151 z152 z153 z154 z155 z156 z157 z158 z159 z160 z161 z162 z163 z164 z165 z166 z167 z168 z169 z170 z171 z172 z173 z174 z175 z176 z177 z178 z179 z180 z181 z182 z183 z184 z185 z186 : Value} (HOK : Hid (s.ok = true)) (HLEN : Hid (s.l.length < 9223372036854775807)) (HIM : Hid (∀ W, Below w.heap.size w W → ImSl W fa s.l)) (HG : Hid (w.heap[p]? = some (.cells #[.int .i64 s.ax.lo, .int .i64 s.ax.hi, .int .i64 s.ay.lo, .int .i64 s.ay.hi, .int .i64 s.bx.lo, .int .i64 s.bx.hi, .int .i64 s.by'.lo, .int .i64 s.by'.hi, .int .i64 s.f.lo, .int .i64 s.f.hi, .int .i64 s.g.lo, .int .i64 s.g.hi, .int .i64 s.limit, .int .i64 s.flaws, .slice fa s.l.length fc] 30))) (HTR : Hid (TrSl w a ls)) (hl : ls.length ≤ 9) (hc : ls.length ≤ c) (HGO : Hid (Goes s.trails 0 0 ls)) (K1 K : Act → World → Prop) (Q : Exit → Act → World → Prop)
    (hK1 : ∀ a w', Code.wp Try.prog (sndC' ((Try.f7.body.bind (findSt 12)).getD .skip)) (Exit.then K (Q)) a w' → K1 a w')
    (hfin : ∀ (s4 s11 s12 s13 s14 s16 s138 s139 s140 s141 s142 s143 s144 s145 s146 s147 s148 s149 s150 s151 s152 s153 s154 s155 s156 s157 s158 s159 s160 s161 s162 s163 s164 s165 s166 s167 s168 s169 s170 s171 s172 s173 s174 s175 s176 s177 s178 s179 s180 s181 s182 s183 s184 s185 s186 : Value) (w3 : World), Below w.heap.size w w3 → K ⟨(z0::z1::(.pointer (some ⟨p, 0, none⟩))::z3::s4::(.slice a ls.length c)::z6::z7::z8::z9::z10::s11::s12::s13::s14::z15::s16::z17::z18::z19::z20::z21::z22::z23::z24::z25::z26::z27::z28::z29::z30::z31::z32::z33::z34::z35::z36::z37::z38::z39::z40::z41::z42::z43::z44::z45::z46::z47::z48::z49::z50::z51::z52::z53::z54::z55::z56::z57::z58::z59::z60::z61::z62::z63::z64::z65::z66::z67::z68::z69::z70::z71::z72::z73::z74::z75::z76::z77::z78::z79::z80::z81::z82::z83::z84::z85::z86::z87::z88::z89::z90::z91::z92::z93::z94::z95::z96::z97::z98::z99::z100::z101::z102::z103::z104::z105::z106::z107::z108::z109::z110::z111::z112::z113::z114::z115::z116::z117::z118::z119::z120::z121::z122::z123::z124::z125::z126::z127::z128::z129::z130::z131::z132::z133::z134::z135::z136::z137::s138::s139::s140::s141::s142::s143::s144::s145::s146::s147::s148::s149::s150::s151::s152::s153::s154::s155::s156::s157::s158::s159::s160::s161::s162::s163::s164::s165::s166::s167::s168::s169::s170::s171::s172::s173::s174::s175::s176::s177::s178::s179::s180::s181::s182::s183::s184::s185::s186::z187::z188::z189::z190::z191::z192::z193::z194::z195::z196::z197::z198::z199::z200::z201::z202::z203::z204::z205::z206::z207::z208::z209::z210::z211::z212::z213::z214::z215::z216::z217::z218::z219::z220::z221::z222::z223::z224::z225::z226::z227::z228::z229::z230::z231::z232::z233::z234::z235::z236::z237::z238::z239::z240::z241::z242::z243::z244::z245::z246::z247::z248::z249::z250::z251::z252::z253::z254::z255::z256::z257::z258::z259::z260::z261::z262::z263::z264::z265::z266::z267::z268::z269::z270::z271::z272::z273::z274::z275::z276::z277::z278::z279::z280::z281::z282::z283::z284::z285::z286::z287::z288::z289::z290::z291::z292::z293::z294::z295::z296::z297::z298::z299::z300::z301::z302::z303::z304::z305::z306::z307::z308::z309::z310::z311::z312::z313::z314::z315::z316::z317::z318::z319::z320::z321::z322::z323::z324::z325::z326 :: []).toArray, []⟩ w3) :
    Code.wp Try.prog (fstC' ((Try.f7.body.bind (findSt 12)).getD .skip)) (Exit.then K1 (Exit.then K (Q))) ⟨(z0::z1::(.pointer (some ⟨p, 0, none⟩))::z3::z4::(.slice a ls.length c)::z6::z7::z8::z9::z10::z11::z12::z13::z14::z15::z16::z17::z18::z19::z20::z21::z22::z23::z24::z25::z26::z27::z28::z29::z30::z31::z32::z33::z34::z35::z36::z37::z38::z39::z40::z41::z42::z43::z44::z45::z46::z47::z48::z49::z50::z51::z52::z53::z54::z55::z56::z57::z58::z59::z60::z61::z62::z63::z64::z65::z66::z67::z68::z69::z70::z71::z72::z73::z74::z75::z76::z77::z78::z79::z80::z81::z82::z83::z84::z85::z86::z87::z88::z89::z90::z91::z92::z93::z94::z95::z96::z97::z98::z99::z100::z101::z102::z103::z104::z105::z106::z107::z108::z109::z110::z111::z112::z113::z114::z115::z116::z117::z118::z119::z120::z121::z122::z123::z124::z125::z126::z127::z128::z129::z130::z131::z132::z133::z134::z135::z136::z137::z138::z139::z140::z141::z142::z143::z144::z145::z146::z147::z148::z149::z150::z151::z152::z153::z154::z155::z156::z157::z158::z159::z160::z161::z162::z163::z164::z165::z166::z167::z168::z169::z170::z171::z172::z173::z174::z175::z176::z177::z178::z179::z180::z181::z182::z183::z184::z185::z186::z187::z188::z189::z190::z191::z192::z193::z194::z195::z196::z197::z198::z199::z200::z201::z202::z203::z204::z205::z206::z207::z208::z209::z210::z211::z212::z213::z214::z215::z216::z217::z218::z219::z220::z221::z222::z223::z224::z225::z226::z227::z228::z229::z230::z231::z232::z233::z234::z235::z236::z237::z238::z239::z240::z241::z242::z243::z244::z245::z246::z247::z248::z249::z250::z251::z252::z253::z254::z255::z256::z257::z258::z259::z260::z261::z262::z263::z264::z265::z266::z267::z268::z269::z270::z271::z272::z273::z274::z275::z276::z277::z278::z279::z280::z281::z282::z283::z284::z285::z286::z287::z288::z289::z290::z291::z292::z293::z294::z295::z296::z297::z298::z299::z300::z301::z302::z303::z304::z305::z306::z307::z308::z309::z310::z311::z312::z313::z314::z315::z316::z317::z318::z319::z320::z321::z322::z323::z324::z325::z326 :: []).toArray, []⟩ w := by
  have HFIN := Lib.hid hfin
  clear hfin
  have hli : (ls.length : Int) ≤ 9 := by omega
  conv => arg 2; whnf
  conv at hK1 => enter [a, w', 1, 2]; whnf
  go_wp2_with fail
  go_loopw [140] (fun u wr => ∃ k : Nat, k ≤ ls.length ∧ u = .int .i64 k ∧ Below w.heap.size w wr) (fun u _ => ls.length - (intOf u).toNat)
  case atStart => exact ⟨0, Nat.zero_le _, rfl, Below.refl _ _⟩
  case round =>
    obtain ⟨k, hk, rfl, hb⟩ := hrel
    by_cases hlt : k < ls.length
    · have hki : (k : Int) < ls.length := by omega
      have HB := Lib.hid hb
      obtain ⟨tb, tq, rfl, hbl, e0, e1, e2⟩ := HTR.out.below hb (Nat.le_refl _) k hlt
      have hmt : ls[k] ∈ s.trails := goes_mem HGO.out _ (List.getElem_mem hlt)
      have hDJ := fun m hm h1 => goes_disj (T := s.trails) (n := s.l.length) (fun t ht => trails_wf t ht) HGO.out k hlt m hm h1
      have HR := Lib.hid (fun (m : Nat) (e : m + 1 = k) (h : m < ls.length) => (by subst e; exact goes_rising HGO.out m hlt : ls[m].a < ls[k].a))
      obtain ⟨t, ht⟩ : ∃ t, ls[k] = t := ⟨_, rfl⟩
      have HT' := Lib.hid ht
      rw [ht] at e0 e1 e2 hmt hDJ HR
      have HD : Hid (∀ j < 3, t.at' j ≠ -1 → usedIn (ls.take k) (t.at' j) = false) := Lib.hid (fun j hj h1 => hDJ _ (ITr.at_cases _ j hj) h1)
      have HFT := Lib.hid (fits_mem HOK.out hmt)
      clear ht hmt hDJ
      go_upto_region 15 with fail
      have htb := below_alloc wr (.cells #[.int .i64 t.a, .int .i64 t.b, .int .i64 t.c] 32)
      have gt := obj_new wr (.cells #[.int .i64 t.a, .int .i64 t.b, .int .i64 t.c] 32)
      have hb4 := hb.trans (htb.mono hb.size)
      clear e0 e1 e2 hbl hb
      generalize wr.alloc (.cells #[.int .i64 t.a, .int .i64 t.b, .int .i64 t.c] 32) = W4 at htb gt hb4 ⊢
      obtain ⟨q4, hq4⟩ : ∃ q, wr.heap.size = q := ⟨_, rfl⟩
      rw [hq4] at gt ⊢
      clear hq4 htb HB
      have hg := obj_later hb4 HG.out
      have t0 := cell_block gt 0
      have t1 := cell_block gt 1
      have t2 := cell_block gt 2
      simp only [gA, gB, gC] at t0 t1 t2
      have cz := fun k => cell_block hg k
      have r0 := cz 0
      have r1 := cz 1
      have r2 := cz 2
      have r3 := cz 3
      have r4 := cz 4
      have r5 := cz 5
      have r6 := cz 6
      have r7 := cz 7
      have r8 := cz 8
      have r9 := cz 9
      have r10 := cz 10
      have r11 := cz 11
      have r12 := cz 12
      have r13 := cz 13
      have r14 := cz 14
      clear cz
      simp only [gA, gB, gC] at r0 r1 r2 r3 r4 r5 r6 r7 r8 r9 r10 r11 r12 r13 r14
      have hcf := iFits_any s fa fc t W4 (HIM.out W4 hb4) HLEN.out
      rw [HFT.out] at hcf
      have HCF := Lib.hid hcf
      clear hcf hg
      go_wp2_with fail
      refine HCF.out.mono ?_
      rintro e w5 ⟨rfl, hb5⟩
      have gt5 := obj_later hb5 gt
      have hb05 := hb4.trans (hb5.mono hb4.size)
      clear r0 r1 r2 r3 r4 r5 r6 r7 r8 r9 r10 r11 r12 r13 r14
      clear t0 t1 t2 gt hb5 hb4 HCF
      go_upto_region 16 with fail
      refine lfew_reg16 c k q4 (some ⟨tb, tq, none⟩) ls t w5 hl hlt HR.out (HTR.out.below hb05 (Nat.le_refl _)) gt5 _ _ ?_
      intro s151 s152 s153 s154 s155 s156 s157 s158 s159 s160 s161 s162 s163 s164 s165 s166 s167 s168 s169 s170 w6 hb6
      have gt6 := obj_later hb6 gt5
      have hb06 := hb05.trans (hb6.mono hb05.size)
      clear gt5 hb05 hb6
      go_upto_region 18 with fail
      refine lfew_in c k q4 (some ⟨tb, tq, none⟩) ls t w6 hl hlt hc gt6 (Lib.hid (HTR.out.below hb06 (Nat.le_refl _))) HD _ _ (by assumption) ?_
      intro s4 s16 s172 s173 s174 s175 s176 s177 s178 s179 s180 s181 s182 s183 s184 s185 w7 hb7
      have hb07 := hb06.trans (hb7.mono hb06.size)
      clear gt6 hb06 hb7
      go_wp2_with fail
      go_roundw
      case rel => exact ⟨k + 1, by omega, by go_num, hb07⟩
      case measure => simp [intOf]; omega
    · obtain rfl : k = ls.length := by omega
      clear hlt
      go_wp2_with fail
      exact HFIN.out _ _ _ _ _ _ _ _ _ _ _ _ _ _ _ _ _ _ _ _ _ _ _ _ _ _ _ _ _ _ _ _ _ _ _ _ _ _ _ _ _ _ _ _ _ _ _ _ _ _ _ _ _ _ _ _ hb
end Go.Proofs.Ytacioedolmaofaa
namespace Go.Proofs.Ytacioedolmaofaa
open Go.RowKit Go.Shelf
set_option maxHeartbeats 12800000
set_option maxRecDepth 100000
set_option linter.unusedSimpArgs false
set_option linter.unusedVariables false

theorem lfew_loop3 (s : ISheet) (fa ba : Option Addr) (fc bc p : Nat) (by' : List Nat) (w : World) {z0 z3 z4 z5 z6 z7 z8 z9 z10 z11 z12 z13 z14 z15 z16 z25 z26 z27 z28 z29 z30 z31 z32 z33 z34 z35 z36 z37 z38 z39 z40 z41 z42 z43 z44 z45 z46 z47 z48 z49 z50 z51 z52 z53 z54 z55 z56 z57 z58 z59 z60 z61 z62 z63 z64 z65 z66 z67 z68 z69 z70 z71 z72 z73 z74 z75 z76 z77 z78 z79 z80 z81 z82 z83 z84 z85 z86 z87 z88 z89 z90 z91 z92 z93 z94 z95 z96 z97 z98 z99 z100 z101 z102 z103 z104 z105 z106 z107 z108 z109 z110 z111 z112 z113 z114 z115 z116 z117 z118 z119 z120 z121 z122 z123 z124 z125 z126 z127 z128 z129 z130 z131 z132 z133 z134 z135 z136 z137 z138 z139 z140 z141 z142 z143 z144 z145 z146 z147 z148 z149 z150 z151 z152 z153 z154 z155 z156 z157 z158 z159 z160 z161 z162 z163 z164 z165 z166 z167 z168 z169 z170 z171 z172 z173 z174 z175 z176 z177 z178 z179 z180 z181 z182 z183 z184 z185 z186 z187 z188 z189 z190 z191 z271 z272 z273 z274 z275 z276 z277 z278 z279 z280 z281 z282 z283 z284 z285 z286 z287 z288 z289 z290 z291 z292 z293 z294 z295 z296 z297 z298 z299 z300 z301 z302 z303 z304 z305 z306 z307 z308 z309 z310 z311 z312 z313 z314 z315 z316 z317 z318 z319 z320 z321 z322 z323 z324 z325 z326 : Value} {z19 z20 z21 z22 z23 z24 z192 z193 z194 z195 z196 z197 z198 z199 z200 z201 z202 z203 z204 z205 z206 z207 z208 z209 z210 z211 z212 z213 z214 z215 z216 z217 z218 z219 z220 z221 z222 z223 z224 z225 z226 z227 z228 z229 z230 z231 z232 z233 z234 z235 z236 z237 z238 z239 z240 z241 z242 z243 z244 z245 z246 z247 z248 z249 z250 z251 z252 z253 z254 z255 z256 z257 z258 z259 z260 z261 z262 z263 z264 z265 z266 z267 z268 z269 z270 : Value} (HOK : Hid (s.ok = true)) (HLEN : Hid (s.l.length < 9223372036854775807)) (HIM : Hid (∀ W, Below w.heap.size w W → ImSl W fa s.l)) (HG : Hid (w.heap[p]? = some (.cells #[.int .i64 s.ax.lo, .int .i64 s.ax.hi, .int .i64 s.ay.lo, .int .i64 s.ay.hi, .int .i64 s.bx.lo, .int .i64 s.bx.hi, .int .i64 s.by'.lo, .int .i64 s.by'.hi, .int .i64 s.f.lo, .int .i64 s.f.hi, .int .i64 s.g.lo, .int .i64 s.g.hi, .int .i64 s.limit, .int .i64 s.flaws, .slice fa s.l.length fc] 30))) (hn : s.l.length ≤ 9) (HBY : Hid (∀ x ∈ by', x < 256)) (h0 : 0 < by'.length) (hbl : by'.length ≤ 9223372036854775807) (HU : Hid (IU8 w ba by')) (K1 K : Act → World → Prop) (Q : Exit → Act → World → Prop)
    (hK1 : ∀ a w', Code.wp Try.prog (sndC' ((Try.f7.body.bind (findSt 29)).getD .skip)) (Exit.then K (Q)) a w' → K1 a w')
    (hfin : ∀ (s18 s19 s20 s21 s22 s23 s24 s192 s193 s194 s195 s196 s197 s198 s199 s200 s201 s202 s203 s204 s205 s206 s207 s208 s209 s210 s211 s212 s213 s214 s215 s216 s217 s218 s219 s220 s221 s222 s223 s224 s225 s226 s227 s228 s229 s230 s231 s232 s233 s234 s235 s236 s237 s238 s239 s240 s241 s242 s243 s244 s245 s246 s247 s248 s249 s250 s251 s252 s253 s254 s255 s256 s257 s258 s259 s260 s261 s262 s263 s264 s265 s266 s267 s268 s269 s270 : Value) (oa : Option Addr) (oc : Nat) (ol : List ITr) (w3 : World), Goes s.trails 0 0 ol → ol.length ≤ 9 → TrSl w3 oa ol → Below w.heap.size w w3 → K ⟨(z0::(.slice ba by'.length bc)::(.pointer (some ⟨p, 0, none⟩))::z3::z4::z5::z6::z7::z8::z9::z10::z11::z12::z13::z14::z15::z16::(.slice oa ol.length oc)::s18::s19::s20::s21::s22::s23::s24::z25::z26::z27::z28::z29::z30::z31::z32::z33::z34::z35::z36::z37::z38::z39::z40::z41::z42::z43::z44::z45::z46::z47::z48::z49::z50::z51::z52::z53::z54::z55::z56::z57::z58::z59::z60::z61::z62::z63::z64::z65::z66::z67::z68::z69::z70::z71::z72::z73::z74::z75::z76::z77::z78::z79::z80::z81::z82::z83::z84::z85::z86::z87::z88::z89::z90::z91::z92::z93::z94::z95::z96::z97::z98::z99::z100::z101::z102::z103::z104::z105::z106::z107::z108::z109::z110::z111::z112::z113::z114::z115::z116::z117::z118::z119::z120::z121::z122::z123::z124::z125::z126::z127::z128::z129::z130::z131::z132::z133::z134::z135::z136::z137::z138::z139::z140::z141::z142::z143::z144::z145::z146::z147::z148::z149::z150::z151::z152::z153::z154::z155::z156::z157::z158::z159::z160::z161::z162::z163::z164::z165::z166::z167::z168::z169::z170::z171::z172::z173::z174::z175::z176::z177::z178::z179::z180::z181::z182::z183::z184::z185::z186::z187::z188::z189::z190::z191::s192::s193::s194::s195::s196::s197::s198::s199::s200::s201::s202::s203::s204::s205::s206::s207::s208::s209::s210::s211::s212::s213::s214::s215::s216::s217::s218::s219::s220::s221::s222::s223::s224::s225::s226::s227::s228::s229::s230::s231::s232::s233::s234::s235::s236::s237::s238::s239::s240::s241::s242::s243::s244::s245::s246::s247::s248::s249::s250::s251::s252::s253::s254::s255::s256::s257::s258::s259::s260::s261::s262::s263::s264::s265::s266::s267::s268::s269::s270::z271::z272::z273::z274::z275::z276::z277::z278::z279::z280::z281::z282::z283::z284::z285::z286::z287::z288::z289::z290::z291::z292::z293::z294::z295::z296::z297::z298::z299::z300::z301::z302::z303::z304::z305::z306::z307::z308::z309::z310::z311::z312::z313::z314::z315::z316::z317::z318::z319::z320::z321::z322::z323::z324::z325::z326 :: []).toArray, []⟩ w3) :
    Code.wp Try.prog (fstC' ((Try.f7.body.bind (findSt 29)).getD .skip)) (Exit.then K1 (Exit.then K (Q))) ⟨(z0::(.slice ba by'.length bc)::(.pointer (some ⟨p, 0, none⟩))::z3::z4::z5::z6::z7::z8::z9::z10::z11::z12::z13::z14::z15::z16::(.slice none 0 0)::(.int .i64 0)::z19::z20::z21::z22::z23::z24::z25::z26::z27::z28::z29::z30::z31::z32::z33::z34::z35::z36::z37::z38::z39::z40::z41::z42::z43::z44::z45::z46::z47::z48::z49::z50::z51::z52::z53::z54::z55::z56::z57::z58::z59::z60::z61::z62::z63::z64::z65::z66::z67::z68::z69::z70::z71::z72::z73::z74::z75::z76::z77::z78::z79::z80::z81::z82::z83::z84::z85::z86::z87::z88::z89::z90::z91::z92::z93::z94::z95::z96::z97::z98::z99::z100::z101::z102::z103::z104::z105::z106::z107::z108::z109::z110::z111::z112::z113::z114::z115::z116::z117::z118::z119::z120::z121::z122::z123::z124::z125::z126::z127::z128::z129::z130::z131::z132::z133::z134::z135::z136::z137::z138::z139::z140::z141::z142::z143::z144::z145::z146::z147::z148::z149::z150::z151::z152::z153::z154::z155::z156::z157::z158::z159::z160::z161::z162::z163::z164::z165::z166::z167::z168::z169::z170::z171::z172::z173::z174::z175::z176::z177::z178::z179::z180::z181::z182::z183::z184::z185::z186::z187::z188::z189::z190::z191::z192::z193::z194::z195::z196::z197::z198::z199::z200::z201::z202::z203::z204::z205::z206::z207::z208::z209::z210::z211::z212::z213::z214::z215::z216::z217::z218::z219::z220::z221::z222::z223::z224::z225::z226::z227::z228::z229::z230::z231::z232::z233::z234::z235::z236::z237::z238::z239::z240::z241::z242::z243::z244::z245::z246::z247::z248::z249::z250::z251::z252::z253::z254::z255::z256::z257::z258::z259::z260::z261::z262::z263::z264::z265::z266::z267::z268::z269::z270::z271::z272::z273::z274::z275::z276::z277::z278::z279::z280::z281::z282::z283::z284::z285::z286::z287::z288::z289::z290::z291::z292::z293::z294::z295::z296::z297::z298::z299::z300::z301::z302::z303::z304::z305::z306::z307::z308::z309::z310::z311::z312::z313::z314::z315::z316::z317::z318::z319::z320::z321::z322::z323::z324::z325::z326 :: []).toArray, []⟩ w := by
  have HFIN := Lib.hid hfin
  clear hfin
  have hni : (s.l.length : Int) ≤ 9 := by omega
  have hg := HG.out
  have cz := fun k => cell_block hg k
  have r0 := cz 0
  have r1 := cz 1
  have r2 := cz 2
  have r3 := cz 3
  have r4 := cz 4
  have r5 := cz 5
  have r6 := cz 6
  have r7 := cz 7
  have r8 := cz 8
  have r9 := cz 9
  have r10 := cz 10
  have r11 := cz 11
  have r12 := cz 12
  have r13 := cz 13
  have r14 := cz 14
  clear cz
  simp only [gA, gB, gC] at r0 r1 r2 r3 r4 r5 r6 r7 r8 r9 r10 r11 r12 r13 r14
  clear hg r0 r1 r2 r3 r4 r5 r6 r7 r8 r9 r10 r11 r12 r13
  conv => arg 2; whnf
  conv at hK1 => enter [a, w', 1, 2]; whnf
  go_wp2_with fail
  clear r14
  go_loopw [195, 18, 17] (fun u v x wr => ∃ (k : Nat) (oa : Option Addr) (oc : Nat) (ol : List ITr), k ≤ s.l.length ∧ u = .int .i64 k ∧ v = .int .i64 k ∧ x = .slice oa ol.length oc ∧ wr.ownsRow w.heap.size 32 3 (.slice oa ol.length oc) ol.length (trsCells ol) ∧ Goes s.trails 0 0 ol ∧ (∀ u ∈ ol, u.a < (k : Int)) ∧ ol.length ≤ k ∧ Below w.heap.size w wr) (fun u _ _ _ => s.l.length - (intOf u).toNat)
  case atStart => exact ⟨0, none, 0, [], Nat.zero_le _, rfl, rfl, rfl, World.ownsRow_nil _ _ _ _, trivial, fun u h => (by cases h), Nat.le_refl _, Below.refl _ _⟩
  case round =>
    obtain ⟨k, oa, oc, ol, hk, rfl, rfl, rfl, hrow, hgo, hlow, hll, hb⟩ := hrel
    have HGO := Lib.hid (And.intro hgo hlow)
    clear hgo hlow
    by_cases hlt : k < s.l.length
    · have hki : (k : Int) < s.l.length := by omega
      have hk9 : (k : Int) ≤ 9 := by omega
      have hg := obj_later hb HG.out
      go_upto_region 33 with fail
      obtain ⟨A, hA⟩ : ∃ A : Nat, k + 1 = A := ⟨_, rfl⟩
      have hAi : (k : Int) + 1 = (A : Int) := by omega
      have HAI := Lib.hid (And.intro hA hAi)
      rw [hAi]
      clear hA hAi
      refine lfew_reg33 s fa ba fc bc p A by' wr hn (by have := HAI.out.1; omega) HBY.out h0 hbl (HU.out.below hb (Nat.le_refl _)) hg _ _ ?_
      intro s200 s201 s202 s203 s204 s205 s206 s207 s208 s209 s210 s211 s212 s213 s214 s215 s216 s217 s218 s219 s220 s221 s222 s223 s224 s225 s226 s227 s228 b c w4 hb1 hc1 hb4
      have HBC := Lib.hid (And.intro hb1 hc1)
      have hrow4 := ownsRow_later hrow hb4
      have hB4 := hb.trans (hb4.mono hb.size)
      clear hb1 hc1 hrow hb4 hb hg
      go_upto_region 35 with fail
      have htb := below_alloc w4 (.cells #[.int .i64 (k : Int), .int .i64 b, .int .i64 c] 32)
      have gt := obj_new w4 (.cells #[.int .i64 (k : Int), .int .i64 b, .int .i64 c] 32)
      have hrow5 := ownsRow_later hrow4 htb
      have hB5 := hB4.trans (htb.mono hB4.size)
      generalize w4.alloc (.cells #[.int .i64 (k : Int), .int .i64 b, .int .i64 c] 32) = W5 at htb gt hrow5 hB5 ⊢
      obtain ⟨q5, hq5⟩ : ∃ q, w4.heap.size = q := ⟨_, rfl⟩
      rw [hq5] at gt ⊢
      clear hq5 htb hrow4 hB4
      have hg := obj_later hB5 HG.out
      have t0 := cell_block gt 0
      have t1 := cell_block gt 1
      have t2 := cell_block gt 2
      simp only [gA, gB, gC] at t0 t1 t2
      have cz := fun k => cell_block hg k
      have r0 := cz 0
      have r1 := cz 1
      have r2 := cz 2
      have r3 := cz 3
      have r4 := cz 4
      have r5 := cz 5
      have r6 := cz 6
      have r7 := cz 7
      have r8 := cz 8
      have r9 := cz 9
      have r10 := cz 10
      have r11 := cz 11
      have r12 := cz 12
      have r13 := cz 13
      have r14 := cz 14
      clear cz
      simp only [gA, gB, gC] at r0 r1 r2 r3 r4 r5 r6 r7 r8 r9 r10 r11 r12 r13 r14
      have hcf := iFits_any s fa fc ⟨(k : Int), b, c⟩ W5 (HIM.out W5 hB5) HLEN.out
      obtain ⟨f, fe, hf⟩ : ∃ f e, itFits s ⟨(k : Int), b, c⟩ = (f, e) := ⟨_, _, rfl⟩
      rw [hf] at hcf
      dsimp only at hcf
      have HF := Lib.hid hf
      have HCF := Lib.hid hcf
      clear hcf hg hf
      go_wp2_with fail
      refine HCF.out.mono ?_
      rintro e w6 ⟨rfl, hb6⟩
      have gt6 := obj_later hb6 gt
      have hrow6 := ownsRow_later hrow5 hb6
      have hB6 := hB5.trans (hb6.mono hB5.size)
      clear r0 r1 r2 r3 r4 r5 r6 r7 r8 r9 r10 r11 r12 r13 r14
      clear t0 t1 t2 gt hb6 hB5 HCF hrow5
      go_upto_region 36 with fail
      refine lfew_reg36 oc k oa ol b c f w6 (TrSl.owned hrow6) (by omega) _ _ ?_
      intro s239 s240 s241 s242 s243 s244 s245 s246 s247 s248 s249 s250 s251 s252 s253 s254 s255 s256 s257 s258 s259 s260 s261 s262 s263 s264 r w7 hr hb7
      have gt7 := obj_later hb7 gt6
      have hrow7 := ownsRow_later hrow6 hb7
      have hB7 := hB6.trans (hb7.mono hB6.size)
      have HR := Lib.hid hr
      clear gt6 hrow6 hB6 hb7 hr
      cases r
      · go_wp2_with fail
        rw [← HAI.out.2]
        go_roundw
        case rel => exact ⟨k + 1, oa, oc, ol, by omega, by go_num, by go_num, rfl, hrow7, HGO.out.1, fun u hu => by have := HGO.out.2 u hu; push_cast; omega, by omega, hB7⟩
        case measure => simp [intOf]; omega
      · have hR := HR.out rfl
        obtain ⟨rfl, hu1, hu2, hu3⟩ := hR
        have hft := fits_true HOK.out (t := ⟨(k : Int), b, c⟩) (by rw [HF.out])
        have hbc := HBC.out
        have hgo2 : Goes s.trails 0 0 (ol ++ [⟨(k : Int), b, c⟩]) := goes_more HGO.out.1 HGO.out.2 hft.1 hft.2 hu1 (hu2.imp (fun h => by show b = -1; omega) id) (hu3.imp (fun h => by show c = -1; omega) id)
        have HGO2 := Lib.hid hgo2
        clear hu1 hu2 hu3 hft hgo2 HR hbc
        have t0 := cell_block gt7 0
        have t1 := cell_block gt7 1
        have t2 := cell_block gt7 2
        simp only [gA, gB, gC] at t0 t1 t2
        obtain ⟨v', w', hrun, hown', hgrow, hnext⟩ := putTr ⟨(k : Int), b, c⟩ hrow7 (by omega) hB7.size
        obtain ⟨xa, xc, rfl⟩ := ownsRow_form hown'
        dsimp only at hrun
        have hB8 : Below w.heap.size w w' := hB7.trans ⟨hgrow.os, hgrow.tape, hgrow.output, hgrow.size, fun g hg => hgrow.block g (by have := hB7.size; omega) (fun e => by have := (hrow7.lt g e.symm).1; omega)⟩
        clear hgrow hnext hrow7 gt7
        go_upto_region 38 with (at_builtin; refine wpList_plain rfl fun K hK => ?_; unfold Oper.wp; simp [execOp, resolve, invoke, builtin, hrun, Result.andThen, Act.eval]; refine hK _ _ ?_; clear hK)
        clear hrun t0 t1 t2 hB7
        rw [← HAI.out.2]
        go_wp2_with fail
        go_roundw
        case rel => exact ⟨k + 1, xa, xc, ol ++ [⟨(k : Int), b, c⟩], by omega, by go_num, by go_num, by simp, hown', HGO2.out, fun u hu => by
          push_cast
          rcases List.mem_append.1 hu with h | h
          · have := HGO.out.2 u h; omega
          · rw [List.mem_singleton] at h; subst h; show (k : Int) < (k : Int) + 1; omega, by rw [List.length_append]; simp; omega, hB8⟩
        case measure => simp [intOf]; omega
    · obtain rfl : k = s.l.length := by omega
      clear hlt
      go_wp2_with fail
      exact HFIN.out _ _ _ _ _ _ _ _ _ _ _ _ _ _ _ _ _ _ _ _ _ _ _ _ _ _ _ _ _ _ _ _ _ _ _ _ _ _ _ _ _ _ _ _ _ _ _ _ _ _ _ _ _ _ _ _ _ _ _ _ _ _ _ _ _ _ _ _ _ _ _ _ _ _ _ _ _ _ _ _ _ _ _ _ _ _ oa oc ol _ HGO.out.1 (by omega) (TrSl.owned hrow) hb
end Go.Proofs.Ytacioedolmaofaa
