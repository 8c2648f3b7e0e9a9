/- ImageFew, walked: which way comes first. ImageFew, walked: another way, and which comes first. ImageFew, walked: how many ways. The law ImageFew, walked. -/
import Derived.Test.YtacioedolmaofaaLBF2
import Derived.Test.YtacioedolmaofaaLBA27
namespace Go.Proofs.Ytacioedolmaofaa
open Go.RowKit Go.Shelf
set_option maxHeartbeats 12800000
set_option maxRecDepth 100000
set_option linter.unusedSimpArgs false
set_option linter.unusedVariables false

theorem lfew_loop4 (c oc : Nat) (a oa : Option Addr) (ls ol : List ITr) (w0 w : World) {z0 z1 z2 z3 z6 z7 z8 z9 z10 z11 z12 z13 z14 z15 z16 z18 z19 z20 z21 z22 z23 z24 z25 z28 z29 z30 z31 z32 z33 z34 z35 z36 z37 z38 z39 z40 z41 z42 z43 z44 z45 z46 z47 z48 z49 z50 z51 z52 z53 z54 z55 z56 z57 z58 z59 z60 z61 z62 z63 z64 z65 z66 z67 z68 z69 z70 z71 z72 z73 z74 z75 z76 z77 z78 z79 z80 z81 z82 z83 z84 z85 z86 z87 z88 z89 z90 z91 z92 z93 z94 z95 z96 z97 z98 z99 z100 z101 z102 z103 z104 z105 z106 z107 z108 z109 z110 z111 z112 z113 z114 z115 z116 z117 z118 z119 z120 z121 z122 z123 z124 z125 z126 z127 z128 z129 z130 z131 z132 z133 z134 z135 z136 z137 z138 z139 z140 z141 z142 z143 z144 z145 z146 z147 z148 z149 z150 z151 z152 z153 z154 z155 z156 z157 z158 z159 z160 z161 z162 z163 z164 z165 z166 z167 z168 z169 z170 z171 z172 z173 z174 z175 z176 z177 z178 z179 z180 z181 z182 z183 z184 z185 z186 z187 z188 z189 z190 z191 z192 z193 z194 z195 z196 z197 z198 z199 z200 z201 z202 z203 z204 z205 z206 z207 z208 z209 z210 z211 z212 z213 z214 z215 z216 z217 z218 z219 z220 z221 z222 z223 z224 z225 z226 z227 z228 z229 z230 z231 z232 z233 z234 z235 z236 z237 z238 z239 z240 z241 z242 z243 z244 z245 z246 z247 z248 z249 z250 z251 z252 z253 z254 z255 z256 z257 z258 z259 z260 z261 z262 z263 z264 z265 z266 z267 z268 z269 z270 z271 z272 z273 z274 z275 z276 z277 z278 z279 z280 z281 z282 z326 : Value} {z4 z26 z27 z283 z284 z285 z286 z287 z288 z289 z290 z291 z292 z293 z294 z295 z296 z297 z298 z299 z300 z301 z302 z303 z304 z305 z306 z307 z308 z309 z310 z311 z312 z313 z314 z315 z316 z317 z318 z319 z320 z321 z322 z323 z324 z325 : Value} (hl : ls.length ≤ 9) (ho : ol.length ≤ 9) (HTR : Hid (TrSl w a ls)) (HOR : Hid (TrSl w oa ol)) (HBE : Hid (before ls ol = true)) (HB0 : Hid (Below w0.heap.size w0 w)) (K1 K : Act → World → Prop)
    (hK1 : ∀ a w', Code.wp Try.prog (sndC' ((Try.f7.body.bind (findSt 42)).getD .skip)) (Exit.then K (bodyPost Try.prog Try.f7 fun e w' => e = .returned (.bool true) ∧ Below w0.heap.size w0 w')) a w' → K1 a w')
    (hfin : ∀ (s4 s26 s27 s283 s284 s285 s286 s287 s288 s289 s290 s291 s292 s293 s294 s295 s296 s297 s298 s299 s300 s301 s302 s303 s304 s305 s306 s307 s308 s309 s310 s311 s312 s313 s314 s315 s316 s317 s318 s319 s320 s321 s322 s323 s324 s325 : Value) (w3 : World), Below w.heap.size w w3 → K ⟨(z0::z1::z2::z3::s4::(.slice a ls.length c)::z6::z7::z8::z9::z10::z11::z12::z13::z14::z15::z16::(.slice oa ol.length oc)::z18::z19::z20::z21::z22::z23::z24::z25::s26::s27::z28::z29::z30::z31::z32::z33::z34::z35::z36::z37::z38::z39::z40::z41::z42::z43::z44::z45::z46::z47::z48::z49::z50::z51::z52::z53::z54::z55::z56::z57::z58::z59::z60::z61::z62::z63::z64::z65::z66::z67::z68::z69::z70::z71::z72::z73::z74::z75::z76::z77::z78::z79::z80::z81::z82::z83::z84::z85::z86::z87::z88::z89::z90::z91::z92::z93::z94::z95::z96::z97::z98::z99::z100::z101::z102::z103::z104::z105::z106::z107::z108::z109::z110::z111::z112::z113::z114::z115::z116::z117::z118::z119::z120::z121::z122::z123::z124::z125::z126::z127::z128::z129::z130::z131::z132::z133::z134::z135::z136::z137::z138::z139::z140::z141::z142::z143::z144::z145::z146::z147::z148::z149::z150::z151::z152::z153::z154::z155::z156::z157::z158::z159::z160::z161::z162::z163::z164::z165::z166::z167::z168::z169::z170::z171::z172::z173::z174::z175::z176::z177::z178::z179::z180::z181::z182::z183::z184::z185::z186::z187::z188::z189::z190::z191::z192::z193::z194::z195::z196::z197::z198::z199::z200::z201::z202::z203::z204::z205::z206::z207::z208::z209::z210::z211::z212::z213::z214::z215::z216::z217::z218::z219::z220::z221::z222::z223::z224::z225::z226::z227::z228::z229::z230::z231::z232::z233::z234::z235::z236::z237::z238::z239::z240::z241::z242::z243::z244::z245::z246::z247::z248::z249::z250::z251::z252::z253::z254::z255::z256::z257::z258::z259::z260::z261::z262::z263::z264::z265::z266::z267::z268::z269::z270::z271::z272::z273::z274::z275::z276::z277::z278::z279::z280::z281::z282::s283::s284::s285::s286::s287::s288::s289::s290::s291::s292::s293::s294::s295::s296::s297::s298::s299::s300::s301::s302::s303::s304::s305::s306::s307::s308::s309::s310::s311::s312::s313::s314::s315::s316::s317::s318::s319::s320::s321::s322::s323::s324::s325::z326 :: []).toArray, []⟩ w3) :
    Code.wp Try.prog (fstC' ((Try.f7.body.bind (findSt 42)).getD .skip)) (Exit.then K1 (Exit.then K (bodyPost Try.prog Try.f7 fun e w' => e = .returned (.bool true) ∧ Below w0.heap.size w0 w'))) ⟨(z0::z1::z2::z3::z4::(.slice a ls.length c)::z6::z7::z8::z9::z10::z11::z12::z13::z14::z15::z16::(.slice oa ol.length oc)::z18::z19::z20::z21::z22::z23::z24::z25::z26::z27::z28::z29::z30::z31::z32::z33::z34::z35::z36::z37::z38::z39::z40::z41::z42::z43::z44::z45::z46::z47::z48::z49::z50::z51::z52::z53::z54::z55::z56::z57::z58::z59::z60::z61::z62::z63::z64::z65::z66::z67::z68::z69::z70::z71::z72::z73::z74::z75::z76::z77::z78::z79::z80::z81::z82::z83::z84::z85::z86::z87::z88::z89::z90::z91::z92::z93::z94::z95::z96::z97::z98::z99::z100::z101::z102::z103::z104::z105::z106::z107::z108::z109::z110::z111::z112::z113::z114::z115::z116::z117::z118::z119::z120::z121::z122::z123::z124::z125::z126::z127::z128::z129::z130::z131::z132::z133::z134::z135::z136::z137::z138::z139::z140::z141::z142::z143::z144::z145::z146::z147::z148::z149::z150::z151::z152::z153::z154::z155::z156::z157::z158::z159::z160::z161::z162::z163::z164::z165::z166::z167::z168::z169::z170::z171::z172::z173::z174::z175::z176::z177::z178::z179::z180::z181::z182::z183::z184::z185::z186::z187::z188::z189::z190::z191::z192::z193::z194::z195::z196::z197::z198::z199::z200::z201::z202::z203::z204::z205::z206::z207::z208::z209::z210::z211::z212::z213::z214::z215::z216::z217::z218::z219::z220::z221::z222::z223::z224::z225::z226::z227::z228::z229::z230::z231::z232::z233::z234::z235::z236::z237::z238::z239::z240::z241::z242::z243::z244::z245::z246::z247::z248::z249::z250::z251::z252::z253::z254::z255::z256::z257::z258::z259::z260::z261::z262::z263::z264::z265::z266::z267::z268::z269::z270::z271::z272::z273::z274::z275::z276::z277::z278::z279::z280::z281::z282::z283::z284::z285::z286::z287::z288::z289::z290::z291::z292::z293::z294::z295::z296::z297::z298::z299::z300::z301::z302::z303::z304::z305::z306::z307::z308::z309::z310::z311::z312::z313::z314::z315::z316::z317::z318::z319::z320::z321::z322::z323::z324::z325::z326 :: []).toArray, []⟩ w := by
  have HFIN := Lib.hid hfin
  clear hfin
  have hli : (ls.length : Int) ≤ 9 := by omega
  have hoi : (ol.length : Int) ≤ 9 := by omega
  conv => arg 2; whnf
  conv at hK1 => enter [a, w', 1, 2]; whnf
  go_wp2_with fail
  go_loopw [285] (fun u wr => ∃ k : Nat, k ≤ ls.length ∧ u = .int .i64 k ∧ (ls.take k = ol.take k ∧ k ≤ ol.length) ∧ Below w.heap.size w wr) (fun u _ => ls.length - (intOf u).toNat)
  case atStart => exact ⟨0, Nat.zero_le _, rfl, ⟨by simp, Nat.zero_le _⟩, Below.refl _ _⟩
  case round =>
    obtain ⟨k, hk, rfl, hsm, hb⟩ := hrel
    by_cases hlt : k < ls.length
    · have hki : (k : Int) < ls.length := by omega
      have hst := before_step k HBE.out hlt hsm.1 hsm.2
      have hlt2 := hst.1
      have hki2 : (k : Int) < ol.length := by omega
      have hcmp := hst.2 hlt2
      have HS := Lib.hid (fun h => take_same hlt hlt2 hsm.1 h)
      obtain ⟨t, ht⟩ : ∃ t, ls[k] = t := ⟨_, rfl⟩
      obtain ⟨u, hu⟩ : ∃ u, ol[k] = u := ⟨_, rfl⟩
      rw [ht, hu] at hcmp HS
      have HCMP := Lib.hid hcmp
      have HTU := Lib.hid (And.intro ht hu)
      have HB := Lib.hid hb
      clear hst hcmp hsm ht hu hb
      go_wp2_with fail
      go_loopw [292] (fun u' wi => ∃ j : Nat, j ≤ 3 ∧ u' = .int .i64 j ∧ (∀ i < j, t.at' i = u.at' i) ∧ Below w.heap.size w wi) (fun u' _ => 3 - (intOf u').toNat)
      case atStart => exact ⟨0, Nat.zero_le _, rfl, fun i h => absurd h (Nat.not_lt_zero _), HB.out⟩
      case round =>
        obtain ⟨j, hj, rfl, hall, hbi⟩ := hrel
        have HALL := Lib.hid hall
        clear hall
        by_cases hlj : j < 3
        · have hji : (j : Int) < 3 := by omega
          go_upto_region 50 with fail
          by_cases he : t.at' j = u.at' j
          · have HE := Lib.hid he
            refine lfew_reg50 c oc k j a oa ls ol false t u wr hl ho hlt hlt2 hlj HTU.out.1 HTU.out.2 (HTR.out.below hbi (Nat.le_refl _)) (HOR.out.below hbi (Nat.le_refl _)) (by simpa using he) _ _ ?_
            intro s295 s296 s297 s298 s299 s300 s301 s302 s303 s304 s305 s306 w5 hb5
            have hB5 := hbi.trans (hb5.mono hbi.size)
            clear he hb5 hbi
            go_wp2_with fail
            go_roundw
            case rel => exact ⟨j + 1, by omega, by go_num, fun i hi => by
              rcases Nat.lt_succ_iff_lt_or_eq.1 hi with h | rfl
              · exact HALL.out i h
              · exact HE.out, hB5⟩
            case measure => simp [intOf]; omega
          · have hlt3 := HCMP.out j hlj HALL.out he
            have HL3 := Lib.hid hlt3
            refine lfew_reg50 c oc k j a oa ls ol true t u wr hl ho hlt hlt2 hlj HTU.out.1 HTU.out.2 (HTR.out.below hbi (Nat.le_refl _)) (HOR.out.below hbi (Nat.le_refl _)) (by simpa using he) _ _ ?_
            intro s295 s296 s297 s298 s299 s300 s301 s302 s303 s304 s305 s306 w5 hb5
            have hB5 := hbi.trans (hb5.mono hbi.size)
            clear he hb5 hbi hlt3
            go_upto_region 51 with fail
            refine lfew_reg51 c oc k j a oa ls ol t u w5 hl ho hlt hlt2 hlj HTU.out.1 HTU.out.2 (HTR.out.below hB5 (Nat.le_refl _)) (HOR.out.below hB5 (Nat.le_refl _)) HL3.out _ _ ?_
            intro s308 s309 s310 s311 s312 s313 s314 s315 s316 s317 s318 s319 s320 s321 s322 s323 w6 hb6
            have hB6 := HB0.out.trans ((hB5.trans (hb6.mono hB5.size)).mono HB0.out.size)
            clear hb6 hB5
            go_wp2_with fail
            go_ret
            exact ⟨rfl, hB6⟩
        · obtain rfl : j = 3 := by omega
          clear hlj
          have HEQ := Lib.hid (ITr.ext_at HALL.out)
          rw [show ((3 : Nat) : Int) = 3 from rfl]
          go_wp2_with fail
          go_roundw
          case rel => exact ⟨k + 1, by omega, by go_num, ⟨HS.out HEQ.out, by omega⟩, hbi⟩
          case measure => simp [intOf]; omega
    · obtain rfl : k = ls.length := by omega
      clear hlt
      go_wp2_with fail
      exact HFIN.out _ _ _ _ _ _ _ _ _ _ _ _ _ _ _ _ _ _ _ _ _ _ _ _ _ _ _ _ _ _ _ _ _ _ _ _ _ _ _ _ _ _ _ _ _ _ _ hb
end Go.Proofs.Ytacioedolmaofaa
namespace Go.Proofs.Ytacioedolmaofaa
open Go.RowKit Go.Shelf
set_option maxHeartbeats 12800000
set_option maxRecDepth 100000
set_option linter.unusedSimpArgs false
set_option linter.unusedVariables false

theorem lfew_tail (s : ISheet) (fa : Option Addr) (fc p c : Nat) (a : Option Addr) (ls : List ITr) (n1 : Int) (ba : Option Addr) (bc : Nat) (by' : List Nat) (w wt : World) {z0 z3 z4 z6 z7 z8 z10 z11 z12 z13 z14 z15 z16 z17 z18 z19 z20 z21 z22 z23 z24 z25 z26 z27 z28 z29 z30 z31 z32 z33 z34 z35 z36 z37 z38 z39 z40 z41 z42 z43 z44 z45 z46 z47 z48 z49 z50 z51 z52 z53 z54 z55 z56 z57 z58 z59 z60 z61 z62 z63 z64 z65 z66 z67 z68 z69 z70 z71 z72 z73 z74 z75 z76 z77 z78 z79 z80 z81 z82 z83 z84 z85 z86 z87 z88 z89 z90 z91 z92 z93 z94 z95 z96 z97 z98 z99 z100 z101 z102 z103 z104 z105 z106 z107 z108 z109 z110 z111 z112 z113 z114 z115 z116 z117 z118 z119 z120 z121 z122 z123 z124 z125 z126 z127 z128 z129 z130 z131 z132 z133 z134 z135 z136 z137 z138 z139 z140 z141 z142 z143 z144 z145 z146 z147 z148 z149 z150 z151 z152 z153 z154 z155 z156 z157 z158 z159 z160 z161 z162 z163 z164 z165 z166 z167 z168 z169 z170 z171 z172 z173 z174 z175 z176 z177 z178 z179 z180 z181 z182 z183 z184 z185 z186 z187 z188 z189 z190 z191 z192 z193 z194 z195 z196 z197 z198 z199 z200 z201 z202 z203 z204 z205 z206 z207 z208 z209 z210 z211 z212 z213 z214 z215 z216 z217 z218 z219 z220 z221 z222 z223 z224 z225 z226 z227 z228 z229 z230 z231 z232 z233 z234 z235 z236 z237 z238 z239 z240 z241 z242 z243 z244 z245 z246 z247 z248 z249 z250 z251 z252 z253 z254 z255 z256 z257 z258 z259 z260 z261 z262 z263 z264 z265 z266 z267 z268 z269 z270 z271 z272 z273 z274 z275 z276 z277 z278 z279 z280 z281 z282 z283 z284 z285 z286 z287 z288 z289 z290 z291 z292 z293 z294 z295 z296 z297 z298 z299 z300 z301 z302 z303 z304 z305 z306 z307 z308 z309 z310 z311 z312 z313 z314 z315 z316 z317 z318 z319 z320 z321 z322 z323 z324 z325 z326 : Value} (HIM : Hid (∀ W, Below w.heap.size w W → ImSl W fa s.l)) (HLEN : Hid (s.l.length < 9223372036854775807)) (HOK : Hid (s.ok = true)) (HFI : Hid (FewIs s ls n1)) (hn : s.l.length ≤ 9) (hlen9 : ls.length ≤ 9) (HBY : Hid (∀ x ∈ by', x < 256)) (hbp : 0 < by'.length) (hbl : by'.length ≤ 9223372036854775807) (HU : Hid (∀ W, Below w.heap.size w W → IU8 W ba by'))
    (g : wt.heap[p]? = some (.cells #[.int .i64 s.ax.lo, .int .i64 s.ax.hi, .int .i64 s.ay.lo, .int .i64 s.ay.hi, .int .i64 s.bx.lo, .int .i64 s.bx.hi, .int .i64 s.by'.lo, .int .i64 s.by'.hi, .int .i64 s.f.lo, .int .i64 s.f.hi, .int .i64 s.g.lo, .int .i64 s.g.hi, .int .i64 s.limit, .int .i64 s.flaws, .slice fa s.l.length fc] 30)) (htr : TrSl wt a ls) (hb0 : Below w.heap.size w wt) (K : Act → World → Prop)
    (hK : ∀ a w', Code.wp Try.prog (sndC' ((Try.f7.body.bind (findSt 27)).getD .skip)) (bodyPost Try.prog Try.f7 fun e w' => e = .returned (.bool true) ∧ Below w.heap.size w w') a w' → K a w') :
    Code.wp Try.prog (fstC' ((Try.f7.body.bind (findSt 27)).getD .skip)) (Exit.then K (bodyPost Try.prog Try.f7 fun e w' => e = .returned (.bool true) ∧ Below w.heap.size w w')) ⟨(z0::(.slice ba by'.length bc)::(.pointer (some ⟨p, 0, none⟩))::z3::z4::(.slice a ls.length c)::z6::z7::z8::(.int .i64 n1)::z10::z11::z12::z13::z14::z15::z16::z17::z18::z19::z20::z21::z22::z23::z24::z25::z26::z27::z28::z29::z30::z31::z32::z33::z34::z35::z36::z37::z38::z39::z40::z41::z42::z43::z44::z45::z46::z47::z48::z49::z50::z51::z52::z53::z54::z55::z56::z57::z58::z59::z60::z61::z62::z63::z64::z65::z66::z67::z68::z69::z70::z71::z72::z73::z74::z75::z76::z77::z78::z79::z80::z81::z82::z83::z84::z85::z86::z87::z88::z89::z90::z91::z92::z93::z94::z95::z96::z97::z98::z99::z100::z101::z102::z103::z104::z105::z106::z107::z108::z109::z110::z111::z112::z113::z114::z115::z116::z117::z118::z119::z120::z121::z122::z123::z124::z125::z126::z127::z128::z129::z130::z131::z132::z133::z134::z135::z136::z137::z138::z139::z140::z141::z142::z143::z144::z145::z146::z147::z148::z149::z150::z151::z152::z153::z154::z155::z156::z157::z158::z159::z160::z161::z162::z163::z164::z165::z166::z167::z168::z169::z170::z171::z172::z173::z174::z175::z176::z177::z178::z179::z180::z181::z182::z183::z184::z185::z186::z187::z188::z189::z190::z191::z192::z193::z194::z195::z196::z197::z198::z199::z200::z201::z202::z203::z204::z205::z206::z207::z208::z209::z210::z211::z212::z213::z214::z215::z216::z217::z218::z219::z220::z221::z222::z223::z224::z225::z226::z227::z228::z229::z230::z231::z232::z233::z234::z235::z236::z237::z238::z239::z240::z241::z242::z243::z244::z245::z246::z247::z248::z249::z250::z251::z252::z253::z254::z255::z256::z257::z258::z259::z260::z261::z262::z263::z264::z265::z266::z267::z268::z269::z270::z271::z272::z273::z274::z275::z276::z277::z278::z279::z280::z281::z282::z283::z284::z285::z286::z287::z288::z289::z290::z291::z292::z293::z294::z295::z296::z297::z298::z299::z300::z301::z302::z303::z304::z305::z306::z307::z308::z309::z310::z311::z312::z313::z314::z315::z316::z317::z318::z319::z320::z321::z322::z323::z324::z325::z326 :: []).toArray, []⟩ wt := by
  conv => arg 2; whnf
  conv at hK => enter [a, w', 1, 2]; whnf
  have hli : (ls.length : Int) ≤ 9 := by omega
  go_upto_region 29 with fail
  refine lfew_loop3 s fa ba fc bc p by' wt HOK HLEN (Lib.hid (fun W h => HIM.out W (hb0.trans (h.mono hb0.size)))) (Lib.hid g) hn HBY hbp hbl (Lib.hid (HU.out wt hb0)) _ _ _ (by assumption) ?_
  intro s18 s19 s20 s21 s22 s23 s24 s192 s193 s194 s195 s196 s197 s198 s199 s200 s201 s202 s203 s204 s205 s206 s207 s208 s209 s210 s211 s212 s213 s214 s215 s216 s217 s218 s219 s220 s221 s222 s223 s224 s225 s226 s227 s228 s229 s230 s231 s232 s233 s234 s235 s236 s237 s238 s239 s240 s241 s242 s243 s244 s245 s246 s247 s248 s249 s250 s251 s252 s253 s254 s255 s256 s257 s258 s259 s260 s261 s262 s263 s264 s265 s266 s267 s268 s269 s270 oa oc ol w61 hgo hol hor hb
  replace g := obj_later hb g
  replace hb0 := hb0.trans (hb.mono hb0.size)
  replace htr := htr.below hb (Nat.le_refl _)
  clear hb
  have hoi : (ol.length : Int) ≤ 9 := by omega
  have hot := HFI.out.other ol hgo
  clear hgo
  obtain ⟨x, hx⟩ : ∃ x : Int, (flawN ol s.l.length : Int) = x := ⟨_, rfl⟩
  rw [hx] at hot
  obtain ⟨ho1, ho2⟩ := hot
  have HO2 := Lib.hid ho2
  clear ho2
  have cz := fun k => cell_block g k
  have cg0 := cz 0
  have cg1 := cz 1
  have cg2 := cz 2
  have cg3 := cz 3
  have cg4 := cz 4
  have cg5 := cz 5
  have cg6 := cz 6
  have cg7 := cz 7
  have cg8 := cz 8
  have cg9 := cz 9
  have cg10 := cz 10
  have cg11 := cz 11
  have cg12 := cz 12
  have cg13 := cz 13
  have cg14 := cz 14
  clear cz
  simp only [gA, gB, gC] at cg0 cg1 cg2 cg3 cg4 cg5 cg6 cg7 cg8 cg9 cg10 cg11 cg12 cg13 cg14
  go_wp2_with fail
  have hc := irFlaws_any s fa fc oa oc ol w61 hor (by omega) HLEN.out
  refine hc.mono ?_
  clear hc
  rintro e w62 ⟨he, hb⟩
  clear cg0 cg1 cg2 cg3 cg4 cg5 cg6 cg7 cg8 cg9 cg10 cg11 cg12 cg13 cg14
  replace g := obj_later hb g
  replace hb0 := hb0.trans (hb.mono hb0.size)
  replace hor := hor.below hb (Nat.le_refl _)
  replace htr := htr.below hb (Nat.le_refl _)
  clear hb
  rw [hx] at he
  subst he
  clear hx
  by_cases hxm : x = n1
  · subst hxm
    have hbe := HO2.out rfl
    go_upto_region 42 with fail
    refine lfew_loop4 c oc a oa ls ol w w62 hlen9 hol (Lib.hid htr) (Lib.hid hor) (Lib.hid hbe) (Lib.hid hb0) _ _ (by assumption) ?_
    intro s4 s26 s27 s283 s284 s285 s286 s287 s288 s289 s290 s291 s292 s293 s294 s295 s296 s297 s298 s299 s300 s301 s302 s303 s304 s305 s306 s307 s308 s309 s310 s311 s312 s313 s314 s315 s316 s317 s318 s319 s320 s321 s322 s323 s324 s325 w63 hb
    replace hb0 := hb0.trans (hb.mono hb0.size)
    clear hb g htr hor hbe
    go_wp2_with fail
    refine (iawake_any _).mono ?_
    rintro e w99 ⟨rfl, hb⟩
    go_wp2
    go_ret
    exact ⟨rfl, hb0.trans (hb.mono hb0.size)⟩
  · have hne : (x != n1) = true := by simpa using hxm
    have hgt : n1 < x := by omega
    clear hxm
    go_wp2_with fail
    refine (iawake_any _).mono ?_
    rintro e w99 ⟨rfl, hb⟩
    go_wp2
    go_ret
    exact ⟨rfl, hb0.trans (hb.mono hb0.size)⟩
end Go.Proofs.Ytacioedolmaofaa
namespace Go.Proofs.Ytacioedolmaofaa
open Go.RowKit Go.Shelf
set_option maxHeartbeats 12800000
set_option maxRecDepth 100000
set_option linter.unusedSimpArgs false
set_option linter.unusedVariables false

theorem lfew_bad (s : ISheet) (fa : Option Addr) (fc p c : Nat) (a : Option Addr) (ba : Option Addr) (bc : Nat) (by' : List Nat) (w wt : World) {z0 z3 z4 z7 z8 z9 z10 z11 z12 z13 z14 z15 z16 z17 z18 z19 z20 z21 z22 z23 z24 z25 z26 z27 z28 z29 z30 z31 z32 z33 z34 z35 z36 z37 z38 z39 z40 z41 z42 z43 z44 z45 z46 z47 z48 z49 z50 z51 z52 z53 z54 z55 z56 z57 z58 z59 z60 z61 z62 z63 z64 z65 z66 z67 z68 z69 z70 z71 z72 z73 z74 z75 z76 z77 z78 z79 z80 z81 z82 z83 z84 z85 z86 z87 z88 z89 z90 z91 z92 z93 z94 z95 z96 z97 z98 z99 z100 z101 z102 z103 z104 z105 z106 z107 z108 z109 z110 z111 z112 z113 z114 z115 z116 z117 z118 z119 z120 z121 z122 z123 z124 z125 z126 z127 z128 z129 z130 z131 z132 z133 z134 z135 z136 z137 z138 z139 z140 z141 z142 z143 z144 z145 z146 z147 z148 z149 z150 z151 z152 z153 z154 z155 z156 z157 z158 z159 z160 z161 z162 z163 z164 z165 z166 z167 z168 z169 z170 z171 z172 z173 z174 z175 z176 z177 z178 z179 z180 z181 z182 z183 z184 z185 z186 z187 z188 z189 z190 z191 z192 z193 z194 z195 z196 z197 z198 z199 z200 z201 z202 z203 z204 z205 z206 z207 z208 z209 z210 z211 z212 z213 z214 z215 z216 z217 z218 z219 z220 z221 z222 z223 z224 z225 z226 z227 z228 z229 z230 z231 z232 z233 z234 z235 z236 z237 z238 z239 z240 z241 z242 z243 z244 z245 z246 z247 z248 z249 z250 z251 z252 z253 z254 z255 z256 z257 z258 z259 z260 z261 z262 z263 z264 z265 z266 z267 z268 z269 z270 z271 z272 z273 z274 z275 z276 z277 z278 z279 z280 z281 z282 z283 z284 z285 z286 z287 z288 z289 z290 z291 z292 z293 z294 z295 z296 z297 z298 z299 z300 z301 z302 z303 z304 z305 z306 z307 z308 z309 z310 z311 z312 z313 z314 z315 z316 z317 z318 z319 z320 z321 z322 z323 z324 z325 z326 : Value} (HIM : Hid (∀ W, Below w.heap.size w W → ImSl W fa s.l)) (HLEN : Hid (s.l.length < 9223372036854775807)) (HOK : Hid (s.ok = false))
    (g : wt.heap[p]? = some (.cells #[.int .i64 s.ax.lo, .int .i64 s.ax.hi, .int .i64 s.ay.lo, .int .i64 s.ay.hi, .int .i64 s.bx.lo, .int .i64 s.bx.hi, .int .i64 s.by'.lo, .int .i64 s.by'.hi, .int .i64 s.f.lo, .int .i64 s.f.hi, .int .i64 s.g.lo, .int .i64 s.g.hi, .int .i64 s.limit, .int .i64 s.flaws, .slice fa s.l.length fc] 30)) (hb0 : Below w.heap.size w wt) (K : Act → World → Prop)
    (hK : ∀ a w', Code.wp Try.prog (sndC' ((Try.f7.body.bind (findSt 4)).getD .skip)) (bodyPost Try.prog Try.f7 fun e w' => e = .returned (.bool true) ∧ Below w.heap.size w w') a w' → K a w') :
    Code.wp Try.prog (fstC' ((Try.f7.body.bind (findSt 4)).getD .skip)) (Exit.then K (bodyPost Try.prog Try.f7 fun e w' => e = .returned (.bool true) ∧ Below w.heap.size w w')) ⟨(z0::(.slice ba by'.length bc)::(.pointer (some ⟨p, 0, none⟩))::z3::z4::(.slice a 0 c)::(.int .i64 1)::z7::z8::z9::z10::z11::z12::z13::z14::z15::z16::z17::z18::z19::z20::z21::z22::z23::z24::z25::z26::z27::z28::z29::z30::z31::z32::z33::z34::z35::z36::z37::z38::z39::z40::z41::z42::z43::z44::z45::z46::z47::z48::z49::z50::z51::z52::z53::z54::z55::z56::z57::z58::z59::z60::z61::z62::z63::z64::z65::z66::z67::z68::z69::z70::z71::z72::z73::z74::z75::z76::z77::z78::z79::z80::z81::z82::z83::z84::z85::z86::z87::z88::z89::z90::z91::z92::z93::z94::z95::z96::z97::z98::z99::z100::z101::z102::z103::z104::z105::z106::z107::z108::z109::z110::z111::z112::z113::z114::z115::z116::z117::z118::z119::z120::z121::z122::z123::z124::z125::z126::z127::z128::z129::z130::z131::z132::z133::z134::z135::z136::z137::z138::z139::z140::z141::z142::z143::z144::z145::z146::z147::z148::z149::z150::z151::z152::z153::z154::z155::z156::z157::z158::z159::z160::z161::z162::z163::z164::z165::z166::z167::z168::z169::z170::z171::z172::z173::z174::z175::z176::z177::z178::z179::z180::z181::z182::z183::z184::z185::z186::z187::z188::z189::z190::z191::z192::z193::z194::z195::z196::z197::z198::z199::z200::z201::z202::z203::z204::z205::z206::z207::z208::z209::z210::z211::z212::z213::z214::z215::z216::z217::z218::z219::z220::z221::z222::z223::z224::z225::z226::z227::z228::z229::z230::z231::z232::z233::z234::z235::z236::z237::z238::z239::z240::z241::z242::z243::z244::z245::z246::z247::z248::z249::z250::z251::z252::z253::z254::z255::z256::z257::z258::z259::z260::z261::z262::z263::z264::z265::z266::z267::z268::z269::z270::z271::z272::z273::z274::z275::z276::z277::z278::z279::z280::z281::z282::z283::z284::z285::z286::z287::z288::z289::z290::z291::z292::z293::z294::z295::z296::z297::z298::z299::z300::z301::z302::z303::z304::z305::z306::z307::z308::z309::z310::z311::z312::z313::z314::z315::z316::z317::z318::z319::z320::z321::z322::z323::z324::z325::z326 :: []).toArray, []⟩ wt := by
  conv => arg 2; whnf
  conv at hK => enter [a, w', 1, 2]; whnf
  have hc1 : itCount s = (0, 1) := by unfold itCount; rw [HOK.out]; rfl
  have hn1 : itNeeds s = (0, 1) := by unfold itNeeds; rw [HOK.out]; rfl
  have cz := fun k => cell_block g k
  have cg0 := cz 0
  have cg1 := cz 1
  have cg2 := cz 2
  have cg3 := cz 3
  have cg4 := cz 4
  have cg5 := cz 5
  have cg6 := cz 6
  have cg7 := cz 7
  have cg8 := cz 8
  have cg9 := cz 9
  have cg10 := cz 10
  have cg11 := cz 11
  have cg12 := cz 12
  have cg13 := cz 13
  have cg14 := cz 14
  clear cz
  simp only [gA, gB, gC] at cg0 cg1 cg2 cg3 cg4 cg5 cg6 cg7 cg8 cg9 cg10 cg11 cg12 cg13 cg14
  go_wp2_with fail
  have hc := iCount_any s fa fc wt (HIM.out wt hb0) HLEN.out
  refine hc.mono ?_
  clear hc
  rintro e w41 ⟨he, hb⟩
  clear cg0 cg1 cg2 cg3 cg4 cg5 cg6 cg7 cg8 cg9 cg10 cg11 cg12 cg13 cg14
  replace g := obj_later hb g
  replace hb0 := hb0.trans (hb.mono hb0.size)
  clear hb
  rw [hc1] at he
  subst he
  clear hc1
  have cz := fun k => cell_block g k
  have cg0 := cz 0
  have cg1 := cz 1
  have cg2 := cz 2
  have cg3 := cz 3
  have cg4 := cz 4
  have cg5 := cz 5
  have cg6 := cz 6
  have cg7 := cz 7
  have cg8 := cz 8
  have cg9 := cz 9
  have cg10 := cz 10
  have cg11 := cz 11
  have cg12 := cz 12
  have cg13 := cz 13
  have cg14 := cz 14
  clear cz
  simp only [gA, gB, gC] at cg0 cg1 cg2 cg3 cg4 cg5 cg6 cg7 cg8 cg9 cg10 cg11 cg12 cg13 cg14
  go_wp2_with fail
  have hc := iNeeds_any s fa fc w41 (HIM.out w41 hb0) HLEN.out
  refine hc.mono ?_
  clear hc
  rintro e w42 ⟨he, hb⟩
  clear cg0 cg1 cg2 cg3 cg4 cg5 cg6 cg7 cg8 cg9 cg10 cg11 cg12 cg13 cg14
  replace g := obj_later hb g
  replace hb0 := hb0.trans (hb.mono hb0.size)
  clear hb
  rw [hn1] at he
  subst he
  clear hn1
  have cz := fun k => cell_block g k
  have cg0 := cz 0
  have cg1 := cz 1
  have cg2 := cz 2
  have cg3 := cz 3
  have cg4 := cz 4
  have cg5 := cz 5
  have cg6 := cz 6
  have cg7 := cz 7
  have cg8 := cz 8
  have cg9 := cz 9
  have cg10 := cz 10
  have cg11 := cz 11
  have cg12 := cz 12
  have cg13 := cz 13
  have cg14 := cz 14
  clear cz
  simp only [gA, gB, gC] at cg0 cg1 cg2 cg3 cg4 cg5 cg6 cg7 cg8 cg9 cg10 cg11 cg12 cg13 cg14
  go_wp2_with fail
  have hc := irSheet_any s fa fc w42 (HIM.out w42 hb0) HLEN.out
  refine hc.mono ?_
  clear hc
  rintro e w43 ⟨he, hb⟩
  clear cg0 cg1 cg2 cg3 cg4 cg5 cg6 cg7 cg8 cg9 cg10 cg11 cg12 cg13 cg14
  replace g := obj_later hb g
  replace hb0 := hb0.trans (hb.mono hb0.size)
  clear hb
  rw [HOK.out] at he
  subst he
  go_wp2_with fail
  refine (iawake_any _).mono ?_
  rintro e w99 ⟨rfl, hb⟩
  go_wp2
  go_ret
  exact ⟨rfl, hb0.trans (hb.mono hb0.size)⟩

theorem lfew_none (s : ISheet) (fa : Option Addr) (fc p c : Nat) (a : Option Addr) (ba : Option Addr) (bc : Nat) (by' : List Nat) (w wt : World) {z0 z3 z4 z7 z8 z9 z10 z11 z12 z13 z14 z15 z16 z17 z18 z19 z20 z21 z22 z23 z24 z25 z26 z27 z28 z29 z30 z31 z32 z33 z34 z35 z36 z37 z38 z39 z40 z41 z42 z43 z44 z45 z46 z47 z48 z49 z50 z51 z52 z53 z54 z55 z56 z57 z58 z59 z60 z61 z62 z63 z64 z65 z66 z67 z68 z69 z70 z71 z72 z73 z74 z75 z76 z77 z78 z79 z80 z81 z82 z83 z84 z85 z86 z87 z88 z89 z90 z91 z92 z93 z94 z95 z96 z97 z98 z99 z100 z101 z102 z103 z104 z105 z106 z107 z108 z109 z110 z111 z112 z113 z114 z115 z116 z117 z118 z119 z120 z121 z122 z123 z124 z125 z126 z127 z128 z129 z130 z131 z132 z133 z134 z135 z136 z137 z138 z139 z140 z141 z142 z143 z144 z145 z146 z147 z148 z149 z150 z151 z152 z153 z154 z155 z156 z157 z158 z159 z160 z161 z162 z163 z164 z165 z166 z167 z168 z169 z170 z171 z172 z173 z174 z175 z176 z177 z178 z179 z180 z181 z182 z183 z184 z185 z186 z187 z188 z189 z190 z191 z192 z193 z194 z195 z196 z197 z198 z199 z200 z201 z202 z203 z204 z205 z206 z207 z208 z209 z210 z211 z212 z213 z214 z215 z216 z217 z218 z219 z220 z221 z222 z223 z224 z225 z226 z227 z228 z229 z230 z231 z232 z233 z234 z235 z236 z237 z238 z239 z240 z241 z242 z243 z244 z245 z246 z247 z248 z249 z250 z251 z252 z253 z254 z255 z256 z257 z258 z259 z260 z261 z262 z263 z264 z265 z266 z267 z268 z269 z270 z271 z272 z273 z274 z275 z276 z277 z278 z279 z280 z281 z282 z283 z284 z285 z286 z287 z288 z289 z290 z291 z292 z293 z294 z295 z296 z297 z298 z299 z300 z301 z302 z303 z304 z305 z306 z307 z308 z309 z310 z311 z312 z313 z314 z315 z316 z317 z318 z319 z320 z321 z322 z323 z324 z325 z326 : Value} (HIM : Hid (∀ W, Below w.heap.size w W → ImSl W fa s.l)) (HLEN : Hid (s.l.length < 9223372036854775807)) (HOK : Hid (s.ok = true)) (hn : s.l.length ≤ 9) (hm : (wayTold s).many = 0)
    (g : wt.heap[p]? = some (.cells #[.int .i64 s.ax.lo, .int .i64 s.ax.hi, .int .i64 s.ay.lo, .int .i64 s.ay.hi, .int .i64 s.bx.lo, .int .i64 s.bx.hi, .int .i64 s.by'.lo, .int .i64 s.by'.hi, .int .i64 s.f.lo, .int .i64 s.f.hi, .int .i64 s.g.lo, .int .i64 s.g.hi, .int .i64 s.limit, .int .i64 s.flaws, .slice fa s.l.length fc] 30)) (hb0 : Below w.heap.size w wt) (K : Act → World → Prop)
    (hK : ∀ a w', Code.wp Try.prog (sndC' ((Try.f7.body.bind (findSt 4)).getD .skip)) (bodyPost Try.prog Try.f7 fun e w' => e = .returned (.bool true) ∧ Below w.heap.size w w') a w' → K a w') :
    Code.wp Try.prog (fstC' ((Try.f7.body.bind (findSt 4)).getD .skip)) (Exit.then K (bodyPost Try.prog Try.f7 fun e w' => e = .returned (.bool true) ∧ Below w.heap.size w w')) ⟨(z0::(.slice ba by'.length bc)::(.pointer (some ⟨p, 0, none⟩))::z3::z4::(.slice a 0 c)::(.int .i64 4)::z7::z8::z9::z10::z11::z12::z13::z14::z15::z16::z17::z18::z19::z20::z21::z22::z23::z24::z25::z26::z27::z28::z29::z30::z31::z32::z33::z34::z35::z36::z37::z38::z39::z40::z41::z42::z43::z44::z45::z46::z47::z48::z49::z50::z51::z52::z53::z54::z55::z56::z57::z58::z59::z60::z61::z62::z63::z64::z65::z66::z67::z68::z69::z70::z71::z72::z73::z74::z75::z76::z77::z78::z79::z80::z81::z82::z83::z84::z85::z86::z87::z88::z89::z90::z91::z92::z93::z94::z95::z96::z97::z98::z99::z100::z101::z102::z103::z104::z105::z106::z107::z108::z109::z110::z111::z112::z113::z114::z115::z116::z117::z118::z119::z120::z121::z122::z123::z124::z125::z126::z127::z128::z129::z130::z131::z132::z133::z134::z135::z136::z137::z138::z139::z140::z141::z142::z143::z144::z145::z146::z147::z148::z149::z150::z151::z152::z153::z154::z155::z156::z157::z158::z159::z160::z161::z162::z163::z164::z165::z166::z167::z168::z169::z170::z171::z172::z173::z174::z175::z176::z177::z178::z179::z180::z181::z182::z183::z184::z185::z186::z187::z188::z189::z190::z191::z192::z193::z194::z195::z196::z197::z198::z199::z200::z201::z202::z203::z204::z205::z206::z207::z208::z209::z210::z211::z212::z213::z214::z215::z216::z217::z218::z219::z220::z221::z222::z223::z224::z225::z226::z227::z228::z229::z230::z231::z232::z233::z234::z235::z236::z237::z238::z239::z240::z241::z242::z243::z244::z245::z246::z247::z248::z249::z250::z251::z252::z253::z254::z255::z256::z257::z258::z259::z260::z261::z262::z263::z264::z265::z266::z267::z268::z269::z270::z271::z272::z273::z274::z275::z276::z277::z278::z279::z280::z281::z282::z283::z284::z285::z286::z287::z288::z289::z290::z291::z292::z293::z294::z295::z296::z297::z298::z299::z300::z301::z302::z303::z304::z305::z306::z307::z308::z309::z310::z311::z312::z313::z314::z315::z316::z317::z318::z319::z320::z321::z322::z323::z324::z325::z326 :: []).toArray, []⟩ wt := by
  conv => arg 2; whnf
  conv at hK => enter [a, w', 1, 2]; whnf
  have hc1 : itCount s = (((wayTold s).many : Int), 0) := by unfold itCount; rw [if_pos HOK.out]; rfl
  have hn1 : itNeeds s = ((tellN s.trails s.l.length s.l.length 0 0).flaws, 0) := by unfold itNeeds; rw [if_pos HOK.out]
  have hNA := needsAre hn
  have hWI := way_iff hn
  have hni : (s.l.length : Int) ≤ 9 := by omega
  have hle : ¬ (tellN s.trails s.l.length s.l.length 0 0).flaws ≤ s.flaws := fun h => hWI.2 h hm
  rw [hm] at hc1
  obtain ⟨n1, hnn⟩ : ∃ x, (tellN s.trails s.l.length s.l.length 0 0).flaws = x := ⟨_, rfl⟩
  rw [hnn] at hn1 hle hNA
  have hq1 := hNA.ge
  have hq2 := hNA.le
  have hd : decide (n1 ≤ s.flaws) = false := decide_eq_false hle
  have d1 : decide (n1 < 0) = false := decide_eq_false (by omega)
  have d2 : decide ((s.l.length : Int) < n1) = false := decide_eq_false (by omega)
  clear hm hWI hnn hNA hle hq1 hq2
  have cz := fun k => cell_block g k
  have cg0 := cz 0
  have cg1 := cz 1
  have cg2 := cz 2
  have cg3 := cz 3
  have cg4 := cz 4
  have cg5 := cz 5
  have cg6 := cz 6
  have cg7 := cz 7
  have cg8 := cz 8
  have cg9 := cz 9
  have cg10 := cz 10
  have cg11 := cz 11
  have cg12 := cz 12
  have cg13 := cz 13
  have cg14 := cz 14
  clear cz
  simp only [gA, gB, gC] at cg0 cg1 cg2 cg3 cg4 cg5 cg6 cg7 cg8 cg9 cg10 cg11 cg12 cg13 cg14
  go_wp2_with fail
  have hc := iCount_any s fa fc wt (HIM.out wt hb0) HLEN.out
  refine hc.mono ?_
  clear hc
  rintro e w41 ⟨he, hb⟩
  clear cg0 cg1 cg2 cg3 cg4 cg5 cg6 cg7 cg8 cg9 cg10 cg11 cg12 cg13 cg14
  replace g := obj_later hb g
  replace hb0 := hb0.trans (hb.mono hb0.size)
  clear hb
  rw [hc1] at he
  subst he
  clear hc1
  have cz := fun k => cell_block g k
  have cg0 := cz 0
  have cg1 := cz 1
  have cg2 := cz 2
  have cg3 := cz 3
  have cg4 := cz 4
  have cg5 := cz 5
  have cg6 := cz 6
  have cg7 := cz 7
  have cg8 := cz 8
  have cg9 := cz 9
  have cg10 := cz 10
  have cg11 := cz 11
  have cg12 := cz 12
  have cg13 := cz 13
  have cg14 := cz 14
  clear cz
  simp only [gA, gB, gC] at cg0 cg1 cg2 cg3 cg4 cg5 cg6 cg7 cg8 cg9 cg10 cg11 cg12 cg13 cg14
  go_wp2_with fail
  have hc := iNeeds_any s fa fc w41 (HIM.out w41 hb0) HLEN.out
  refine hc.mono ?_
  clear hc
  rintro e w42 ⟨he, hb⟩
  clear cg0 cg1 cg2 cg3 cg4 cg5 cg6 cg7 cg8 cg9 cg10 cg11 cg12 cg13 cg14
  replace g := obj_later hb g
  replace hb0 := hb0.trans (hb.mono hb0.size)
  clear hb
  rw [hn1] at he
  subst he
  clear hn1
  have cz := fun k => cell_block g k
  have cg0 := cz 0
  have cg1 := cz 1
  have cg2 := cz 2
  have cg3 := cz 3
  have cg4 := cz 4
  have cg5 := cz 5
  have cg6 := cz 6
  have cg7 := cz 7
  have cg8 := cz 8
  have cg9 := cz 9
  have cg10 := cz 10
  have cg11 := cz 11
  have cg12 := cz 12
  have cg13 := cz 13
  have cg14 := cz 14
  clear cz
  simp only [gA, gB, gC] at cg0 cg1 cg2 cg3 cg4 cg5 cg6 cg7 cg8 cg9 cg10 cg11 cg12 cg13 cg14
  go_wp2_with fail
  have hc := irSheet_any s fa fc w42 (HIM.out w42 hb0) HLEN.out
  refine hc.mono ?_
  clear hc
  rintro e w43 ⟨he, hb⟩
  clear cg0 cg1 cg2 cg3 cg4 cg5 cg6 cg7 cg8 cg9 cg10 cg11 cg12 cg13 cg14
  replace g := obj_later hb g
  replace hb0 := hb0.trans (hb.mono hb0.size)
  clear hb
  rw [HOK.out] at he
  subst he
  have cz := fun k => cell_block g k
  have cg0 := cz 0
  have cg1 := cz 1
  have cg2 := cz 2
  have cg3 := cz 3
  have cg4 := cz 4
  have cg5 := cz 5
  have cg6 := cz 6
  have cg7 := cz 7
  have cg8 := cz 8
  have cg9 := cz 9
  have cg10 := cz 10
  have cg11 := cz 11
  have cg12 := cz 12
  have cg13 := cz 13
  have cg14 := cz 14
  clear cz
  simp only [gA, gB, gC] at cg0 cg1 cg2 cg3 cg4 cg5 cg6 cg7 cg8 cg9 cg10 cg11 cg12 cg13 cg14
  go_wp2_with fail
  clear cg0 cg1 cg2 cg3 cg4 cg5 cg6 cg7 cg8 cg9 cg10 cg11 cg12 cg13 cg14
  refine (iawake_any _).mono ?_
  rintro e w99 ⟨rfl, hb⟩
  go_wp2
  go_ret
  exact ⟨rfl, hb0.trans (hb.mono hb0.size)⟩

theorem lfew_way (s : ISheet) (fa : Option Addr) (fc p c : Nat) (a : Option Addr) (ls : List ITr) (ba : Option Addr) (bc : Nat) (by' : List Nat) (w wt : World) {z0 z3 z4 z7 z8 z9 z10 z11 z12 z13 z14 z15 z16 z17 z18 z19 z20 z21 z22 z23 z24 z25 z26 z27 z28 z29 z30 z31 z32 z33 z34 z35 z36 z37 z38 z39 z40 z41 z42 z43 z44 z45 z46 z47 z48 z49 z50 z51 z52 z53 z54 z55 z56 z57 z58 z59 z60 z61 z62 z63 z64 z65 z66 z67 z68 z69 z70 z71 z72 z73 z74 z75 z76 z77 z78 z79 z80 z81 z82 z83 z84 z85 z86 z87 z88 z89 z90 z91 z92 z93 z94 z95 z96 z97 z98 z99 z100 z101 z102 z103 z104 z105 z106 z107 z108 z109 z110 z111 z112 z113 z114 z115 z116 z117 z118 z119 z120 z121 z122 z123 z124 z125 z126 z127 z128 z129 z130 z131 z132 z133 z134 z135 z136 z137 z138 z139 z140 z141 z142 z143 z144 z145 z146 z147 z148 z149 z150 z151 z152 z153 z154 z155 z156 z157 z158 z159 z160 z161 z162 z163 z164 z165 z166 z167 z168 z169 z170 z171 z172 z173 z174 z175 z176 z177 z178 z179 z180 z181 z182 z183 z184 z185 z186 z187 z188 z189 z190 z191 z192 z193 z194 z195 z196 z197 z198 z199 z200 z201 z202 z203 z204 z205 z206 z207 z208 z209 z210 z211 z212 z213 z214 z215 z216 z217 z218 z219 z220 z221 z222 z223 z224 z225 z226 z227 z228 z229 z230 z231 z232 z233 z234 z235 z236 z237 z238 z239 z240 z241 z242 z243 z244 z245 z246 z247 z248 z249 z250 z251 z252 z253 z254 z255 z256 z257 z258 z259 z260 z261 z262 z263 z264 z265 z266 z267 z268 z269 z270 z271 z272 z273 z274 z275 z276 z277 z278 z279 z280 z281 z282 z283 z284 z285 z286 z287 z288 z289 z290 z291 z292 z293 z294 z295 z296 z297 z298 z299 z300 z301 z302 z303 z304 z305 z306 z307 z308 z309 z310 z311 z312 z313 z314 z315 z316 z317 z318 z319 z320 z321 z322 z323 z324 z325 z326 : Value} (HIM : Hid (∀ W, Below w.heap.size w W → ImSl W fa s.l)) (HLEN : Hid (s.l.length < 9223372036854775807)) (HOK : Hid (s.ok = true)) (hn : s.l.length ≤ 9) (hm : (wayTold s).many ≠ 0) (hFI : FewIs s ls (tellN s.trails s.l.length s.l.length 0 0).flaws) (hlen9 : ls.length ≤ 9) (hcap : ls.length ≤ c) (htr : TrSl wt a ls) (HBY : Hid (∀ x ∈ by', x < 256)) (hbp : 0 < by'.length) (hbl : by'.length ≤ 9223372036854775807) (HU : Hid (∀ W, Below w.heap.size w W → IU8 W ba by'))
    (g : wt.heap[p]? = some (.cells #[.int .i64 s.ax.lo, .int .i64 s.ax.hi, .int .i64 s.ay.lo, .int .i64 s.ay.hi, .int .i64 s.bx.lo, .int .i64 s.bx.hi, .int .i64 s.by'.lo, .int .i64 s.by'.hi, .int .i64 s.f.lo, .int .i64 s.f.hi, .int .i64 s.g.lo, .int .i64 s.g.hi, .int .i64 s.limit, .int .i64 s.flaws, .slice fa s.l.length fc] 30)) (hb0 : Below w.heap.size w wt) (K : Act → World → Prop)
    (hK : ∀ a w', Code.wp Try.prog (sndC' ((Try.f7.body.bind (findSt 4)).getD .skip)) (bodyPost Try.prog Try.f7 fun e w' => e = .returned (.bool true) ∧ Below w.heap.size w w') a w' → K a w') :
    Code.wp Try.prog (fstC' ((Try.f7.body.bind (findSt 4)).getD .skip)) (Exit.then K (bodyPost Try.prog Try.f7 fun e w' => e = .returned (.bool true) ∧ Below w.heap.size w w')) ⟨(z0::(.slice ba by'.length bc)::(.pointer (some ⟨p, 0, none⟩))::z3::z4::(.slice a ls.length c)::(.int .i64 0)::z7::z8::z9::z10::z11::z12::z13::z14::z15::z16::z17::z18::z19::z20::z21::z22::z23::z24::z25::z26::z27::z28::z29::z30::z31::z32::z33::z34::z35::z36::z37::z38::z39::z40::z41::z42::z43::z44::z45::z46::z47::z48::z49::z50::z51::z52::z53::z54::z55::z56::z57::z58::z59::z60::z61::z62::z63::z64::z65::z66::z67::z68::z69::z70::z71::z72::z73::z74::z75::z76::z77::z78::z79::z80::z81::z82::z83::z84::z85::z86::z87::z88::z89::z90::z91::z92::z93::z94::z95::z96::z97::z98::z99::z100::z101::z102::z103::z104::z105::z106::z107::z108::z109::z110::z111::z112::z113::z114::z115::z116::z117::z118::z119::z120::z121::z122::z123::z124::z125::z126::z127::z128::z129::z130::z131::z132::z133::z134::z135::z136::z137::z138::z139::z140::z141::z142::z143::z144::z145::z146::z147::z148::z149::z150::z151::z152::z153::z154::z155::z156::z157::z158::z159::z160::z161::z162::z163::z164::z165::z166::z167::z168::z169::z170::z171::z172::z173::z174::z175::z176::z177::z178::z179::z180::z181::z182::z183::z184::z185::z186::z187::z188::z189::z190::z191::z192::z193::z194::z195::z196::z197::z198::z199::z200::z201::z202::z203::z204::z205::z206::z207::z208::z209::z210::z211::z212::z213::z214::z215::z216::z217::z218::z219::z220::z221::z222::z223::z224::z225::z226::z227::z228::z229::z230::z231::z232::z233::z234::z235::z236::z237::z238::z239::z240::z241::z242::z243::z244::z245::z246::z247::z248::z249::z250::z251::z252::z253::z254::z255::z256::z257::z258::z259::z260::z261::z262::z263::z264::z265::z266::z267::z268::z269::z270::z271::z272::z273::z274::z275::z276::z277::z278::z279::z280::z281::z282::z283::z284::z285::z286::z287::z288::z289::z290::z291::z292::z293::z294::z295::z296::z297::z298::z299::z300::z301::z302::z303::z304::z305::z306::z307::z308::z309::z310::z311::z312::z313::z314::z315::z316::z317::z318::z319::z320::z321::z322::z323::z324::z325::z326 :: []).toArray, []⟩ wt := by
  conv => arg 2; whnf
  conv at hK => enter [a, w', 1, 2]; whnf
  have hc1 : itCount s = (((wayTold s).many : Int), 0) := by unfold itCount; rw [if_pos HOK.out]; rfl
  have hn1 : itNeeds s = ((tellN s.trails s.l.length s.l.length 0 0).flaws, 0) := by unfold itNeeds; rw [if_pos HOK.out]
  have hNA := needsAre hn
  have hWI := way_iff hn
  have hni : (s.l.length : Int) ≤ 9 := by omega
  have hle : (tellN s.trails s.l.length s.l.length 0 0).flaws ≤ s.flaws := hWI.1 hm
  obtain ⟨mm, hmm⟩ : ∃ x, (wayTold s).many = x := ⟨_, rfl⟩
  rw [hmm] at hc1 hm
  obtain ⟨n1, hnn⟩ : ∃ x, (tellN s.trails s.l.length s.l.length 0 0).flaws = x := ⟨_, rfl⟩
  rw [hnn] at hn1 hle hNA hFI
  have hq1 := hNA.ge
  have hq2 := hNA.le
  have HFI := Lib.hid hFI
  have d1 : decide (n1 < 0) = false := decide_eq_false (by omega)
  have d2 : decide ((s.l.length : Int) < n1) = false := decide_eq_false (by omega)
  have d3 : decide ((mm : Int) < 0) = false := decide_eq_false (by omega)
  have d4 : decide (0 < mm) = true := decide_eq_true (by omega)
  have d5 : decide ((0 : Int) < (mm : Int)) = true := decide_eq_true (by omega)
  have d6 : decide (n1 ≤ s.flaws) = true := decide_eq_true hle
  clear hm hWI hnn hNA hmm hFI hq1 hq2 hle
  have cz := fun k => cell_block g k
  have cg0 := cz 0
  have cg1 := cz 1
  have cg2 := cz 2
  have cg3 := cz 3
  have cg4 := cz 4
  have cg5 := cz 5
  have cg6 := cz 6
  have cg7 := cz 7
  have cg8 := cz 8
  have cg9 := cz 9
  have cg10 := cz 10
  have cg11 := cz 11
  have cg12 := cz 12
  have cg13 := cz 13
  have cg14 := cz 14
  clear cz
  simp only [gA, gB, gC] at cg0 cg1 cg2 cg3 cg4 cg5 cg6 cg7 cg8 cg9 cg10 cg11 cg12 cg13 cg14
  go_wp2_with fail
  have hc := iCount_any s fa fc wt (HIM.out wt hb0) HLEN.out
  refine hc.mono ?_
  clear hc
  rintro e w41 ⟨he, hb⟩
  clear cg0 cg1 cg2 cg3 cg4 cg5 cg6 cg7 cg8 cg9 cg10 cg11 cg12 cg13 cg14
  replace g := obj_later hb g
  replace hb0 := hb0.trans (hb.mono hb0.size)
  replace htr := htr.below hb (Nat.le_refl _)
  clear hb
  rw [hc1] at he
  subst he
  clear hc1
  have cz := fun k => cell_block g k
  have cg0 := cz 0
  have cg1 := cz 1
  have cg2 := cz 2
  have cg3 := cz 3
  have cg4 := cz 4
  have cg5 := cz 5
  have cg6 := cz 6
  have cg7 := cz 7
  have cg8 := cz 8
  have cg9 := cz 9
  have cg10 := cz 10
  have cg11 := cz 11
  have cg12 := cz 12
  have cg13 := cz 13
  have cg14 := cz 14
  clear cz
  simp only [gA, gB, gC] at cg0 cg1 cg2 cg3 cg4 cg5 cg6 cg7 cg8 cg9 cg10 cg11 cg12 cg13 cg14
  go_wp2_with fail
  have hc := iNeeds_any s fa fc w41 (HIM.out w41 hb0) HLEN.out
  refine hc.mono ?_
  clear hc
  rintro e w42 ⟨he, hb⟩
  clear cg0 cg1 cg2 cg3 cg4 cg5 cg6 cg7 cg8 cg9 cg10 cg11 cg12 cg13 cg14
  replace g := obj_later hb g
  replace hb0 := hb0.trans (hb.mono hb0.size)
  replace htr := htr.below hb (Nat.le_refl _)
  clear hb
  rw [hn1] at he
  subst he
  clear hn1
  have cz := fun k => cell_block g k
  have cg0 := cz 0
  have cg1 := cz 1
  have cg2 := cz 2
  have cg3 := cz 3
  have cg4 := cz 4
  have cg5 := cz 5
  have cg6 := cz 6
  have cg7 := cz 7
  have cg8 := cz 8
  have cg9 := cz 9
  have cg10 := cz 10
  have cg11 := cz 11
  have cg12 := cz 12
  have cg13 := cz 13
  have cg14 := cz 14
  clear cz
  simp only [gA, gB, gC] at cg0 cg1 cg2 cg3 cg4 cg5 cg6 cg7 cg8 cg9 cg10 cg11 cg12 cg13 cg14
  go_wp2_with fail
  have hc := irSheet_any s fa fc w42 (HIM.out w42 hb0) HLEN.out
  refine hc.mono ?_
  clear hc
  rintro e w43 ⟨he, hb⟩
  clear cg0 cg1 cg2 cg3 cg4 cg5 cg6 cg7 cg8 cg9 cg10 cg11 cg12 cg13 cg14
  replace g := obj_later hb g
  replace hb0 := hb0.trans (hb.mono hb0.size)
  replace htr := htr.below hb (Nat.le_refl _)
  clear hb
  rw [HOK.out] at he
  subst he
  have cz := fun k => cell_block g k
  have cg0 := cz 0
  have cg1 := cz 1
  have cg2 := cz 2
  have cg3 := cz 3
  have cg4 := cz 4
  have cg5 := cz 5
  have cg6 := cz 6
  have cg7 := cz 7
  have cg8 := cz 8
  have cg9 := cz 9
  have cg10 := cz 10
  have cg11 := cz 11
  have cg12 := cz 12
  have cg13 := cz 13
  have cg14 := cz 14
  clear cz
  simp only [gA, gB, gC] at cg0 cg1 cg2 cg3 cg4 cg5 cg6 cg7 cg8 cg9 cg10 cg11 cg12 cg13 cg14
  go_upto_region 12 with fail
  clear cg0 cg1 cg2 cg3 cg4 cg5 cg6 cg7 cg8 cg9 cg10 cg11 cg12 cg13 cg14
  refine lfew_loop1 s fa fc p c a ls w43 HOK HLEN (Lib.hid (fun W h => HIM.out W (hb0.trans (h.mono hb0.size)))) (Lib.hid g) (Lib.hid htr) hlen9 hcap (Lib.hid HFI.out.goes) _ _ _ (by assumption) ?_
  intro s4 s11 s12 s13 s14 s16 s138 s139 s140 s141 s142 s143 s144 s145 s146 s147 s148 s149 s150 s151 s152 s153 s154 s155 s156 s157 s158 s159 s160 s161 s162 s163 s164 s165 s166 s167 s168 s169 s170 s171 s172 s173 s174 s175 s176 s177 s178 s179 s180 s181 s182 s183 s184 s185 s186 w44 hb
  replace g := obj_later hb g
  replace hb0 := hb0.trans (hb.mono hb0.size)
  replace htr := htr.below hb (Nat.le_refl _)
  clear hb
  have hli : (ls.length : Int) ≤ 9 := by omega
  have cz := fun k => cell_block g k
  have cg0 := cz 0
  have cg1 := cz 1
  have cg2 := cz 2
  have cg3 := cz 3
  have cg4 := cz 4
  have cg5 := cz 5
  have cg6 := cz 6
  have cg7 := cz 7
  have cg8 := cz 8
  have cg9 := cz 9
  have cg10 := cz 10
  have cg11 := cz 11
  have cg12 := cz 12
  have cg13 := cz 13
  have cg14 := cz 14
  clear cz
  simp only [gA, gB, gC] at cg0 cg1 cg2 cg3 cg4 cg5 cg6 cg7 cg8 cg9 cg10 cg11 cg12 cg13 cg14
  go_wp2_with fail
  have hc := irFlaws_any s fa fc a c ls w44 htr (by omega) HLEN.out
  refine hc.mono ?_
  clear hc
  rintro e w45 ⟨he, hb⟩
  clear cg0 cg1 cg2 cg3 cg4 cg5 cg6 cg7 cg8 cg9 cg10 cg11 cg12 cg13 cg14
  replace g := obj_later hb g
  replace hb0 := hb0.trans (hb.mono hb0.size)
  replace htr := htr.below hb (Nat.le_refl _)
  clear hb
  rw [HFI.out.flaws] at he
  subst he
  go_upto_region 27 with fail
  refine lfew_tail s fa fc p c a ls n1 ba bc by' w w45 HIM HLEN HOK HFI hn hlen9 HBY hbp hbl HU g htr hb0 _ ?_
  assumption
end Go.Proofs.Ytacioedolmaofaa
namespace Go.Proofs.Ytacioedolmaofaa
open Go.RowKit Go.Shelf
set_option maxHeartbeats 12800000
set_option maxRecDepth 100000
set_option linter.unusedSimpArgs false
set_option linter.unusedVariables false

theorem lawFewI_any (s : ISheet) (fa : Option Addr) (fc : Nat) (ba : Option Addr) (bc : Nat) (by' : List Nat) (w : World) (hx : ∀ x ∈ by', x < 256) (hbl : by'.length ≤ 9223372036854775807) (hu : IU8 w ba by') (him : ImSl w fa s.l) :
    Calls Try.prog 7 #[.agg #[.int .i64 s.ax.lo, .int .i64 s.ax.hi, .int .i64 s.ay.lo, .int .i64 s.ay.hi, .int .i64 s.bx.lo, .int .i64 s.bx.hi, .int .i64 s.by'.lo, .int .i64 s.by'.hi, .int .i64 s.f.lo, .int .i64 s.f.hi, .int .i64 s.g.lo, .int .i64 s.g.hi, .int .i64 s.limit, .int .i64 s.flaws, .slice fa s.l.length fc], .slice ba by'.length bc] w fun e w' => e = .returned (.bool true) ∧ Below w.heap.size w w' := by
  have HIM : Hid (∀ W, Below w.heap.size w W → ImSl W fa s.l) := Lib.hid (fun W h => him.below h (Nat.le_refl _))
  have HU : Hid (∀ W, Below w.heap.size w W → IU8 W ba by') := Lib.hid (fun W h => hu.below h (Nat.le_refl _))
  have HBY := Lib.hid hx
  clear him hu hx
  have hbi : (by'.length : Int) ≤ 9223372036854775807 := by omega
  go_enter Try.func7, Try.ntmps7
  go_upto_region 1 with fail
  have g := obj_new w (.cells #[.int .i64 s.ax.lo, .int .i64 s.ax.hi, .int .i64 s.ay.lo, .int .i64 s.ay.hi, .int .i64 s.bx.lo, .int .i64 s.bx.hi, .int .i64 s.by'.lo, .int .i64 s.by'.hi, .int .i64 s.f.lo, .int .i64 s.f.hi, .int .i64 s.g.lo, .int .i64 s.g.hi, .int .i64 s.limit, .int .i64 s.flaws, .slice fa s.l.length fc] 30)
  have hb0 := below_alloc w (.cells #[.int .i64 s.ax.lo, .int .i64 s.ax.hi, .int .i64 s.ay.lo, .int .i64 s.ay.hi, .int .i64 s.bx.lo, .int .i64 s.bx.hi, .int .i64 s.by'.lo, .int .i64 s.by'.hi, .int .i64 s.f.lo, .int .i64 s.f.hi, .int .i64 s.g.lo, .int .i64 s.g.hi, .int .i64 s.limit, .int .i64 s.flaws, .slice fa s.l.length fc] 30)
  generalize w.alloc (.cells #[.int .i64 s.ax.lo, .int .i64 s.ax.hi, .int .i64 s.ay.lo, .int .i64 s.ay.hi, .int .i64 s.bx.lo, .int .i64 s.bx.hi, .int .i64 s.by'.lo, .int .i64 s.by'.hi, .int .i64 s.f.lo, .int .i64 s.f.hi, .int .i64 s.g.lo, .int .i64 s.g.hi, .int .i64 s.limit, .int .i64 s.flaws, .slice fa s.l.length fc] 30) = W0 at g hb0 ⊢
  obtain ⟨p, hp⟩ : ∃ p, w.heap.size = p := ⟨_, rfl⟩
  rw [hp] at g
  try rw [hp]
  clear hp
  have cz := fun k => cell_block g k
  have cg0 := cz 0
  have cg1 := cz 1
  have cg2 := cz 2
  have cg3 := cz 3
  have cg4 := cz 4
  have cg5 := cz 5
  have cg6 := cz 6
  have cg7 := cz 7
  have cg8 := cz 8
  have cg9 := cz 9
  have cg10 := cz 10
  have cg11 := cz 11
  have cg12 := cz 12
  have cg13 := cz 13
  have cg14 := cz 14
  clear cz
  simp only [gA, gB, gC] at cg0 cg1 cg2 cg3 cg4 cg5 cg6 cg7 cg8 cg9 cg10 cg11 cg12 cg13 cg14
  by_cases h30 : 30 < (s.l.length : Int)
  · go_wp2_with fail
    refine (iawake_any _).mono ?_
    rintro e w99 ⟨rfl, hb⟩
    go_wp2
    go_ret
    exact ⟨rfl, hb0.trans (hb.mono hb0.size)⟩
  · by_cases hb00 : by'.length = 0
    · have hb01 : ((by'.length : Int) == 0) = true := by rw [hb00]; rfl
      go_wp2_with fail
      refine (iawake_any _).mono ?_
      rintro e w99 ⟨rfl, hb⟩
      go_wp2
      go_ret
      exact ⟨rfl, hb0.trans (hb.mono hb0.size)⟩
    · have hb01 : ((by'.length : Int) == 0) = false := by rw [beq_eq_false_iff_ne]; omega
      have hbp : 0 < by'.length := by omega
      have hlen : s.l.length < 9223372036854775807 := by omega
      have HLEN := Lib.hid hlen
      clear hlen hb00
      have hfw : itFewest s = if wayErr s true = 0 then (fewW s.trails s.l.length (wayTold s).flaws 10 0 0, 0) else ([], wayErr s true) := rfl
      cases hok : s.ok
      · have hw1 : wayErr s true = 1 := by unfold wayErr; rw [hok]; rfl
        rw [hw1, if_neg (by decide)] at hfw
        have HOK : Hid (s.ok = false) := Lib.hid hok
        clear hok hw1
        go_wp2_with fail
        have hc := iFewest_any s fa fc W0 (HIM.out W0 hb0) HLEN.out
        refine hc.mono ?_
        clear hc
        rintro e w1 ⟨a, c, he, htr, hb, hcap⟩
        clear cg0 cg1 cg2 cg3 cg4 cg5 cg6 cg7 cg8 cg9 cg10 cg11 cg12 cg13 cg14
        replace g := obj_later hb g
        replace hb0 := hb0.trans (hb.mono hb0.size)
        clear hb
        rw [hfw] at he htr hcap
        subst he
        clear htr hcap
        go_upto_region 4 with fail
        refine lfew_bad s fa fc p c a ba bc by' w w1 HIM HLEN HOK g hb0 _ ?_
        assumption
      · have hn : s.l.length ≤ 9 := ((iok_iff s).1 hok).2.2.2.2.2.2.2.2.2
        have HOK := Lib.hid hok
        clear hok
        rw [wayErr_ok HOK.out] at hfw
        by_cases hm : (wayTold s).many = 0
        · rw [if_pos hm, if_neg (by decide)] at hfw
          have HM := Lib.hid hm
          clear hm
          go_wp2_with fail
          have hc := iFewest_any s fa fc W0 (HIM.out W0 hb0) HLEN.out
          refine hc.mono ?_
          clear hc
          rintro e w1 ⟨a, c, he, htr, hb, hcap⟩
          clear cg0 cg1 cg2 cg3 cg4 cg5 cg6 cg7 cg8 cg9 cg10 cg11 cg12 cg13 cg14
          replace g := obj_later hb g
          replace hb0 := hb0.trans (hb.mono hb0.size)
          clear hb
          rw [hfw] at he htr hcap
          subst he
          clear htr hcap
          go_upto_region 4 with fail
          refine lfew_none s fa fc p c a ba bc by' w w1 HIM HLEN HOK hn HM.out g hb0 _ ?_
          assumption
        · have hFI := fewIs hn hm
          rw [if_neg hm, if_pos rfl] at hfw
          obtain ⟨ls, hls⟩ : ∃ x, fewW s.trails s.l.length (wayTold s).flaws 10 0 0 = x := ⟨_, rfl⟩
          have hlen9 : ls.length ≤ 9 := by rw [← hls]; exact (openFacts HOK.out hm).len
          rw [hls] at hfw hFI
          have HFI := Lib.hid hFI
          have HM := Lib.hid hm
          clear hls hFI hm
          go_wp2_with fail
          have hc := iFewest_any s fa fc W0 (HIM.out W0 hb0) HLEN.out
          refine hc.mono ?_
          clear hc
          rintro e w1 ⟨a, c, he, htr, hb, hcap⟩
          clear cg0 cg1 cg2 cg3 cg4 cg5 cg6 cg7 cg8 cg9 cg10 cg11 cg12 cg13 cg14
          replace g := obj_later hb g
          replace hb0 := hb0.trans (hb.mono hb0.size)
          clear hb
          rw [hfw] at he htr hcap
          subst he
          go_upto_region 4 with fail
          refine lfew_way s fa fc p c a ls ba bc by' w w1 HIM HLEN HOK hn HM.out HFI.out hlen9 hcap htr HBY hbp hbl HU g hb0 _ ?_
          assumption
end Go.Proofs.Ytacioedolmaofaa
