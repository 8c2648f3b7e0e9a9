/- The law ImageOpen, walked. -/
import Derived.Test.YtacioedolmaofaaLBA27
import Derived.Test.YtacioedolmaofaaLBA26
import Derived.Test.YtacioedolmaofaaLBA24
namespace Go.Proofs.Ytacioedolmaofaa
open Go.RowKit Go.Shelf
set_option maxHeartbeats 12800000
set_option maxRecDepth 100000
set_option linter.unusedSimpArgs false
set_option linter.unusedVariables false

theorem ilinside_any (lo hi n : Int) (w : World) : Calls Try.prog 30 #[.agg #[.int .i64 lo, .int .i64 hi], .int .i64 n] w fun e w' => e = .returned (.bool (decide (lo ≤ n) && decide (n ≤ hi))) ∧ Below w.heap.size w w' := by
  by_cases h1 : lo ≤ n
  · by_cases h2 : n ≤ hi
    · have h3 : (decide (lo ≤ n) && decide (n ≤ hi)) = true := by simp [h1, h2]
      rw [h3]
      clear h3
      go_enter Try.func30, Try.ntmps30
      go_wp2
      go_ret
      exact ⟨rfl, below_alloc _ _⟩
    · have h3 : (decide (lo ≤ n) && decide (n ≤ hi)) = false := by simp [h2]
      rw [h3]
      clear h3
      go_enter Try.func30, Try.ntmps30
      go_wp2
      go_ret
      exact ⟨rfl, below_alloc _ _⟩
  · have h3 : (decide (lo ≤ n) && decide (n ≤ hi)) = false := by simp [h1]
    rw [h3]
    clear h3
    go_enter Try.func30, Try.ntmps30
    go_wp2
    go_ret
    exact ⟨rfl, below_alloc _ _⟩
theorem wayErr_ok {s : ISheet} (hok : s.ok = true) : wayErr s true = if (wayTold s).many = 0 then 4 else 0 := by
  unfold wayErr
  rw [hok]
  rfl
/-- Is the star of an image among the first k trails? -/
def firstTo (l : List ITr) (i : Int) (k : Nat) : Bool := (l.take k).any fun t => decide (t.a = i)
theorem firstTo_succ (l : List ITr) (i : Int) (k : Nat) (h : k < l.length) : firstTo l i (k + 1) = (firstTo l i k || decide (l[k].a = i)) := by
  unfold firstTo
  rw [List.take_succ_eq_append_getElem h, List.any_append]
  simp
theorem firstTo_no {l : List ITr} {i : Int} (h : ∀ t ∈ l, t.a ≠ i) (k : Nat) : firstTo l i k = false := by
  unfold firstTo
  rw [List.any_eq_false]
  intro t ht
  simpa using h t (List.mem_of_mem_take ht)

/-- The statement whose first part is a region, wherever it stands. -/
def findSt (n : Nat) : Code → Option Code
  | .seq a b => if isReg n a then some (.seq a b) else match findSt n a with
    | some c => some c
    | none => findSt n b
  | .cond _ a b => match findSt n a with
    | some c => some c
    | none => findSt n b
  | .block _ c => findSt n c
  | .loop c => findSt n c
  | .scope c => findSt n c
  | _ => none

theorem lopen_reg17 (st fl k : Nat) (b : Bool) (w : World) {z0 z1 z2 z5 z6 z7 z8 z9 z10 z13 z14 z15 z16 z17 z18 z19 z20 z21 z22 z23 z24 z25 z26 z27 z28 z29 z30 z31 z32 z33 z34 z35 z36 z37 z38 z39 z40 z41 z42 z43 z44 z45 z46 z47 z48 z49 z50 z51 z52 z53 z54 z55 z56 z57 z58 z59 z60 z61 z62 z63 z64 z65 z66 z67 z68 z69 z70 z71 z72 z73 z74 z75 z76 z77 z78 z79 z80 z81 z82 z83 z84 z85 z86 z87 z88 z89 z90 z91 z92 z93 z94 z95 z96 z97 z98 z99 z100 z101 z102 z103 z104 z105 z106 z107 z108 z109 z110 z111 z112 z113 z114 z115 z116 z117 z118 z119 z120 z121 z122 z123 z124 z125 z126 z127 z128 z129 z130 z131 z132 z133 z134 z135 z136 z156 z157 z158 z159 z160 z161 z162 z163 z164 z165 z166 z167 z168 z169 z170 z171 z172 z173 z174 z175 z176 z177 z178 z179 z180 z181 z182 z183 z184 z185 z186 z187 z188 z189 z190 z191 z192 z193 z194 z195 z196 z197 z198 z199 z200 z201 z202 z203 z204 z205 z206 z207 z208 z209 z210 z211 z212 z213 z214 z215 z216 z217 z218 z219 z220 z221 z222 z223 z224 z225 z226 z227 z228 z229 z230 z231 z232 z233 z234 z235 z236 z237 z238 z239 z240 z241 z242 z243 z244 z245 z246 z247 z248 z249 z250 z251 z252 z253 z254 z255 z256 z257 z258 z259 z260 z261 z262 z263 z264 z265 z266 z267 z268 z269 z270 z271 z272 z273 z274 z275 z276 z277 z278 z279 z280 z281 z282 z283 z284 z285 z286 z287 z288 z289 z290 z291 z292 z293 z294 z295 z296 z297 z298 z299 z300 z301 z302 z303 z304 z305 z306 z307 z308 z309 z310 z311 z312 z313 z314 z315 z316 z317 z318 z319 z320 z321 z322 z323 z324 z325 z326 z327 z328 z329 z330 z331 z332 z333 z334 z335 z336 z337 z338 z339 z340 z341 z342 z343 z344 z345 z346 z347 z348 z349 z350 z351 z352 z353 z354 z355 z356 z357 z358 z359 : Value} {z137 z138 z139 z140 z141 z142 z143 z144 z145 z146 z147 z148 z149 z150 z151 z152 z153 z154 z155 : Value} (h1 : st < 512) (h2 : fl < 512) (hk : k < 9) (hx : st.testBit k = true → b = true) (hy : fl.testBit k = true → b = false) (K : Act → World → Prop) (Q : Exit → Act → World → Prop)
    (hfin : ∀ (s137 s138 s139 s140 s141 s142 s143 s144 s145 s146 s147 s148 s149 s150 s151 s152 s153 s154 : Value), K ⟨(z0::z1::z2::(.int .i64 st)::(.int .i64 fl)::z5::z6::z7::z8::z9::z10::(.int .i64 k)::(.bool b)::z13::z14::z15::z16::z17::z18::z19::z20::z21::z22::z23::z24::z25::z26::z27::z28::z29::z30::z31::z32::z33::z34::z35::z36::z37::z38::z39::z40::z41::z42::z43::z44::z45::z46::z47::z48::z49::z50::z51::z52::z53::z54::z55::z56::z57::z58::z59::z60::z61::z62::z63::z64::z65::z66::z67::z68::z69::z70::z71::z72::z73::z74::z75::z76::z77::z78::z79::z80::z81::z82::z83::z84::z85::z86::z87::z88::z89::z90::z91::z92::z93::z94::z95::z96::z97::z98::z99::z100::z101::z102::z103::z104::z105::z106::z107::z108::z109::z110::z111::z112::z113::z114::z115::z116::z117::z118::z119::z120::z121::z122::z123::z124::z125::z126::z127::z128::z129::z130::z131::z132::z133::z134::z135::z136::s137::s138::s139::s140::s141::s142::s143::s144::s145::s146::s147::s148::s149::s150::s151::s152::s153::s154::(.bool false)::z156::z157::z158::z159::z160::z161::z162::z163::z164::z165::z166::z167::z168::z169::z170::z171::z172::z173::z174::z175::z176::z177::z178::z179::z180::z181::z182::z183::z184::z185::z186::z187::z188::z189::z190::z191::z192::z193::z194::z195::z196::z197::z198::z199::z200::z201::z202::z203::z204::z205::z206::z207::z208::z209::z210::z211::z212::z213::z214::z215::z216::z217::z218::z219::z220::z221::z222::z223::z224::z225::z226::z227::z228::z229::z230::z231::z232::z233::z234::z235::z236::z237::z238::z239::z240::z241::z242::z243::z244::z245::z246::z247::z248::z249::z250::z251::z252::z253::z254::z255::z256::z257::z258::z259::z260::z261::z262::z263::z264::z265::z266::z267::z268::z269::z270::z271::z272::z273::z274::z275::z276::z277::z278::z279::z280::z281::z282::z283::z284::z285::z286::z287::z288::z289::z290::z291::z292::z293::z294::z295::z296::z297::z298::z299::z300::z301::z302::z303::z304::z305::z306::z307::z308::z309::z310::z311::z312::z313::z314::z315::z316::z317::z318::z319::z320::z321::z322::z323::z324::z325::z326::z327::z328::z329::z330::z331::z332::z333::z334::z335::z336::z337::z338::z339::z340::z341::z342::z343::z344::z345::z346::z347::z348::z349::z350::z351::z352::z353::z354::z355::z356::z357::z358::z359 :: []).toArray, []⟩ w) :
    Code.wp Try.prog ((Try.f8.body.bind (findReg 17)).getD .skip) (Exit.then K Q) ⟨(z0::z1::z2::(.int .i64 st)::(.int .i64 fl)::z5::z6::z7::z8::z9::z10::(.int .i64 k)::(.bool b)::z13::z14::z15::z16::z17::z18::z19::z20::z21::z22::z23::z24::z25::z26::z27::z28::z29::z30::z31::z32::z33::z34::z35::z36::z37::z38::z39::z40::z41::z42::z43::z44::z45::z46::z47::z48::z49::z50::z51::z52::z53::z54::z55::z56::z57::z58::z59::z60::z61::z62::z63::z64::z65::z66::z67::z68::z69::z70::z71::z72::z73::z74::z75::z76::z77::z78::z79::z80::z81::z82::z83::z84::z85::z86::z87::z88::z89::z90::z91::z92::z93::z94::z95::z96::z97::z98::z99::z100::z101::z102::z103::z104::z105::z106::z107::z108::z109::z110::z111::z112::z113::z114::z115::z116::z117::z118::z119::z120::z121::z122::z123::z124::z125::z126::z127::z128::z129::z130::z131::z132::z133::z134::z135::z136::z137::z138::z139::z140::z141::z142::z143::z144::z145::z146::z147::z148::z149::z150::z151::z152::z153::z154::z155::z156::z157::z158::z159::z160::z161::z162::z163::z164::z165::z166::z167::z168::z169::z170::z171::z172::z173::z174::z175::z176::z177::z178::z179::z180::z181::z182::z183::z184::z185::z186::z187::z188::z189::z190::z191::z192::z193::z194::z195::z196::z197::z198::z199::z200::z201::z202::z203::z204::z205::z206::z207::z208::z209::z210::z211::z212::z213::z214::z215::z216::z217::z218::z219::z220::z221::z222::z223::z224::z225::z226::z227::z228::z229::z230::z231::z232::z233::z234::z235::z236::z237::z238::z239::z240::z241::z242::z243::z244::z245::z246::z247::z248::z249::z250::z251::z252::z253::z254::z255::z256::z257::z258::z259::z260::z261::z262::z263::z264::z265::z266::z267::z268::z269::z270::z271::z272::z273::z274::z275::z276::z277::z278::z279::z280::z281::z282::z283::z284::z285::z286::z287::z288::z289::z290::z291::z292::z293::z294::z295::z296::z297::z298::z299::z300::z301::z302::z303::z304::z305::z306::z307::z308::z309::z310::z311::z312::z313::z314::z315::z316::z317::z318::z319::z320::z321::z322::z323::z324::z325::z326::z327::z328::z329::z330::z331::z332::z333::z334::z335::z336::z337::z338::z339::z340::z341::z342::z343::z344::z345::z346::z347::z348::z349::z350::z351::z352::z353::z354::z355::z356::z357::z358::z359 :: []).toArray, []⟩ w := by
  have HFIN := Lib.hid hfin
  have e1 := ibitI st k (by omega)
  have e2 := ibitI fl k (by omega)
  have hk64 : k < 64 := by omega
  have hki : (k : Int) < 64 := by omega
  clear hfin
  conv => arg 2; whnf
  cases hs : st.testBit k
  · rw [hs] at e1
    simp only [Bool.false_eq_true, if_false] at e1
    cases hf : fl.testBit k
    · rw [hf] at e2
      simp only [Bool.false_eq_true, if_false] at e2
      clear hx hy hs hf
      go_wp2_with fail
      exact HFIN.out _ _ _ _ _ _ _ _ _ _ _ _ _ _ _ _ _ _
    · rw [hf] at e2
      simp only [if_true] at e2
      have hb := hy hf
      subst hb
      clear hx hy hs hf
      go_wp2_with fail
      exact HFIN.out _ _ _ _ _ _ _ _ _ _ _ _ _ _ _ _ _ _
  · have hb := hx hs
    subst hb
    rw [hs] at e1
    simp only [if_true] at e1
    have hf : fl.testBit k = false := by
      cases h : fl.testBit k
      · rfl
      · have := hy h; cases this
    rw [hf] at e2
    simp only [Bool.false_eq_true, if_false] at e2
    clear hx hy hs hf
    go_wp2_with fail
    exact HFIN.out _ _ _ _ _ _ _ _ _ _ _ _ _ _ _ _ _ _
end Go.Proofs.Ytacioedolmaofaa
