/- Plain Lean for ImageFew: two ways compared number by number; bytes in memory. ImageFew, walked: its regions that draw their order. ImageFew, walked: which trail more. -/
import Derived.Test.YtacioedolmaofaaLBA27
import Derived.Test.YtacioedolmaofaaLBA6
import Derived.Test.YtacioedolmaofaaLBA24
import Derived.Test.YtacioedolmaofaaLBA13
namespace Go.Proofs.Ytacioedolmaofaa
open Go.RowKit Go.Shelf
set_option linter.unusedVariables false
set_option maxRecDepth 100000

theorem ITr.ext_at {t u : ITr} (h : ∀ j < 3, t.at' j = u.at' j) : t = u := by
  have h0 := h 0 (by omega)
  have h1 := h 1 (by omega)
  have h2 := h 2 (by omega)
  obtain ⟨a, b, c⟩ := t
  obtain ⟨x, y, z⟩ := u
  simp [ITr.at'] at h0 h1 h2
  subst h0 h1 h2
  rfl
theorem ITr.at_cases (t : ITr) (j : Nat) (h : j < 3) : t.at' j = t.a ∨ t.at' j = t.b ∨ t.at' j = t.c := by
  rcases j with _ | _ | _ | j
  · exact .inl rfl
  · exact .inr (.inl rfl)
  · exact .inr (.inr rfl)
  · omega
/-- Where two ways part, the earlier one has the lesser number. -/
theorem before_step : ∀ (k : Nat) {l m : List ITr}, before l m = true → (hk : k < l.length) → l.take k = m.take k → k ≤ m.length → k < m.length ∧ ∀ (hm : k < m.length), ∀ j < 3, (∀ i < j, l[k].at' i = m[k].at' i) → l[k].at' j ≠ m[k].at' j → l[k].at' j < m[k].at' j
  | 0, t::l, [], h, _, _, _ => by cases h
  | 0, t::l, u::m, h, _, _, _ => by
    refine ⟨by simp, fun _ j hj hs hne => ?_⟩
    simp only [List.getElem_cons_zero] at hs hne ⊢
    unfold before at h
    have e0 : ∀ t : ITr, t.at' 0 = t.a := fun _ => rfl
    have e1 : ∀ t : ITr, t.at' 1 = t.b := fun _ => rfl
    have e2 : ∀ t : ITr, t.at' 2 = t.c := fun _ => rfl
    rcases j with _ | _ | _ | j
    · rw [e0, e0] at hne ⊢
      rw [if_pos hne] at h
      simpa using h
    · have s0 := hs 0 (by omega)
      simp only [Nat.zero_add] at hne ⊢
      rw [e0, e0] at s0
      rw [e1, e1] at hne ⊢
      rw [if_neg (by simpa using s0), if_pos hne] at h
      simpa using h
    · have s0 := hs 0 (by omega)
      have s1 := hs 1 (by omega)
      simp only [Nat.zero_add, Nat.reduceAdd] at hne ⊢
      rw [e0, e0] at s0
      rw [e1, e1] at s1
      rw [e2, e2] at hne ⊢
      rw [if_neg (by simpa using s0), if_neg (by simpa using s1), if_pos hne] at h
      simpa using h
    · omega
  | k + 1, t::l, [], h, hk, he, hm => by cases h
  | k + 1, t::l, u::m, h, hk, he, hm => by
    simp only [List.take_succ_cons, List.cons.injEq] at he
    obtain ⟨rfl, he⟩ := he
    rw [before_same] at h
    have ih := before_step k h (by simpa using hk) he (by simpa using hm)
    refine ⟨by simpa using ih.1, fun hm2 j hj hs hne => ?_⟩
    simp only [List.getElem_cons_succ] at hs hne ⊢
    exact ih.2 (by simpa using hm2) j hj hs hne
theorem take_same {l m : List ITr} {k : Nat} (hl : k < l.length) (hm : k < m.length) (he : l.take k = m.take k) (h : l[k] = m[k]) : l.take (k + 1) = m.take (k + 1) := by
  rw [List.take_succ_eq_append_getElem hl, List.take_succ_eq_append_getElem hm, he, h]
theorem TrSl.take {w : World} {a : Option Addr} {l : List ITr} (h : TrSl w a l) (k : Nat) : TrSl w a (l.take k) := fun i hi => by
  rw [List.length_take] at hi
  obtain ⟨b, o, h1, h2, h3⟩ := h i (by omega)
  refine ⟨b, o, h1, h2, ?_⟩
  rw [List.getElem_take]
  exact h3
/-- What the law says of one trail of the way. -/
theorem fits_mem {s : ISheet} (hok : s.ok = true) {t : ITr} (h : t ∈ s.trails) : itFits s t = (true, 0) := by
  have h := mem_trails.1 h
  unfold itFits
  rw [if_pos hok, if_pos h.1, h.2]
theorem fits_true {s : ISheet} (hok : s.ok = true) {t : ITr} (h : (itFits s t).1 = true) : t.ok s.l.length = true ∧ (s.star t).isSome = true := by
  unfold itFits at h
  rw [if_pos hok] at h
  split at h
  · rename_i h1
    exact ⟨h1, h⟩
  · cases h

/-- A slice at a reads as these bytes. -/
def IU8 (w : World) (a : Option Addr) (xs : List Nat) : Prop := ∀ k (h : k < xs.length), ∃ q o, a = some ⟨q, o, none⟩ ∧ q < w.heap.size ∧ w.cell? ⟨q, o + k, none⟩ = some (.int .u8 xs[k])
theorem IU8.below {B : Nat} {w w' : World} {a : Option Addr} {xs : List Nat} (h : IU8 w a xs) (hb : Below B w w') (hB : w.heap.size ≤ B) : IU8 w' a xs := fun k hk => by
  obtain ⟨q, o, h1, h2, h3⟩ := h k hk
  exact ⟨q, o, h1, Nat.lt_of_lt_of_le h2 hb.size, (cell_same (hb.block q (by omega))).trans h3⟩
theorem ownsRow_later {w w' : World} {base size n : Nat} {e : TypeId} {v : Value} {cs : List Value} (h : w.ownsRow base e size v n cs) (hb : Below w.heap.size w w') : w'.ownsRow base e size v n cs :=
  ownsRow_same h (fun g hg => hb.block g (h.lt g hg).2)
end Go.Proofs.Ytacioedolmaofaa
namespace Go.Proofs.Ytacioedolmaofaa
open Go.RowKit Go.Shelf
set_option maxHeartbeats 12800000
set_option maxRecDepth 100000
set_option linter.unusedSimpArgs false
set_option linter.unusedVariables false

theorem lfew_reg16 (c k q : Nat) (a : Option Addr) (ls : List ITr) (t : ITr) (wA : World) {z0 z1 z2 z3 z4 z6 z7 z8 z9 z10 z15 z16 z17 z18 z19 z20 z21 z22 z23 z24 z25 z26 z27 z28 z29 z30 z31 z32 z33 z34 z35 z36 z37 z38 z39 z40 z41 z42 z43 z44 z45 z46 z47 z48 z49 z50 z51 z52 z53 z54 z55 z56 z57 z58 z59 z60 z61 z62 z63 z64 z65 z66 z67 z68 z69 z70 z71 z72 z73 z74 z75 z76 z77 z78 z79 z80 z81 z82 z83 z84 z85 z86 z87 z88 z89 z90 z91 z92 z93 z94 z95 z96 z97 z98 z99 z100 z101 z102 z103 z104 z105 z106 z107 z108 z109 z110 z111 z112 z113 z114 z115 z116 z117 z118 z119 z120 z121 z122 z123 z124 z125 z126 z127 z128 z129 z130 z131 z132 z133 z134 z135 z136 z137 z138 z139 z140 z141 z142 z143 z144 z145 z146 z147 z148 z149 z150 z172 z173 z174 z175 z176 z177 z178 z179 z180 z181 z182 z183 z184 z185 z186 z187 z188 z189 z190 z191 z192 z193 z194 z195 z196 z197 z198 z199 z200 z201 z202 z203 z204 z205 z206 z207 z208 z209 z210 z211 z212 z213 z214 z215 z216 z217 z218 z219 z220 z221 z222 z223 z224 z225 z226 z227 z228 z229 z230 z231 z232 z233 z234 z235 z236 z237 z238 z239 z240 z241 z242 z243 z244 z245 z246 z247 z248 z249 z250 z251 z252 z253 z254 z255 z256 z257 z258 z259 z260 z261 z262 z263 z264 z265 z266 z267 z268 z269 z270 z271 z272 z273 z274 z275 z276 z277 z278 z279 z280 z281 z282 z283 z284 z285 z286 z287 z288 z289 z290 z291 z292 z293 z294 z295 z296 z297 z298 z299 z300 z301 z302 z303 z304 z305 z306 z307 z308 z309 z310 z311 z312 z313 z314 z315 z316 z317 z318 z319 z320 z321 z322 z323 z324 z325 z326 : Value} {z171 z151 z152 z153 z154 z155 z156 z157 z158 z159 z160 z161 z162 z163 z164 z165 z166 z167 z168 z169 z170 : Value} (hl : ls.length ≤ 9) (hk : k < ls.length) (hr : ∀ m, m + 1 = k → ∀ (h : m < ls.length), ls[m].a < t.a) (htr : TrSl wA a ls) (gt : wA.heap[q]? = some (.cells #[.int .i64 t.a, .int .i64 t.b, .int .i64 t.c] 32)) (K : Act → World → Prop) (Q : Exit → Act → World → Prop)
    (hfin : ∀ (s151 s152 s153 s154 s155 s156 s157 s158 s159 s160 s161 s162 s163 s164 s165 s166 s167 s168 s169 s170 : Value) (w3 : World), Below wA.heap.size wA w3 → K ⟨(z0::z1::z2::z3::z4::(.slice a ls.length c)::z6::z7::z8::z9::z10::(.int .i64 (k : Int))::(.pointer (some ⟨q, 0, none⟩))::(.bool true)::(.int .i64 0)::z15::z16::z17::z18::z19::z20::z21::z22::z23::z24::z25::z26::z27::z28::z29::z30::z31::z32::z33::z34::z35::z36::z37::z38::z39::z40::z41::z42::z43::z44::z45::z46::z47::z48::z49::z50::z51::z52::z53::z54::z55::z56::z57::z58::z59::z60::z61::z62::z63::z64::z65::z66::z67::z68::z69::z70::z71::z72::z73::z74::z75::z76::z77::z78::z79::z80::z81::z82::z83::z84::z85::z86::z87::z88::z89::z90::z91::z92::z93::z94::z95::z96::z97::z98::z99::z100::z101::z102::z103::z104::z105::z106::z107::z108::z109::z110::z111::z112::z113::z114::z115::z116::z117::z118::z119::z120::z121::z122::z123::z124::z125::z126::z127::z128::z129::z130::z131::z132::z133::z134::z135::z136::z137::z138::z139::z140::z141::z142::z143::z144::z145::z146::z147::z148::z149::z150::s151::s152::s153::s154::s155::s156::s157::s158::s159::s160::s161::s162::s163::s164::s165::s166::s167::s168::s169::s170::(.bool false)::z172::z173::z174::z175::z176::z177::z178::z179::z180::z181::z182::z183::z184::z185::z186::z187::z188::z189::z190::z191::z192::z193::z194::z195::z196::z197::z198::z199::z200::z201::z202::z203::z204::z205::z206::z207::z208::z209::z210::z211::z212::z213::z214::z215::z216::z217::z218::z219::z220::z221::z222::z223::z224::z225::z226::z227::z228::z229::z230::z231::z232::z233::z234::z235::z236::z237::z238::z239::z240::z241::z242::z243::z244::z245::z246::z247::z248::z249::z250::z251::z252::z253::z254::z255::z256::z257::z258::z259::z260::z261::z262::z263::z264::z265::z266::z267::z268::z269::z270::z271::z272::z273::z274::z275::z276::z277::z278::z279::z280::z281::z282::z283::z284::z285::z286::z287::z288::z289::z290::z291::z292::z293::z294::z295::z296::z297::z298::z299::z300::z301::z302::z303::z304::z305::z306::z307::z308::z309::z310::z311::z312::z313::z314::z315::z316::z317::z318::z319::z320::z321::z322::z323::z324::z325::z326 :: []).toArray, []⟩ w3) :
    Code.wp Try.prog ((Try.f7.body.bind (findReg 16)).getD .skip) (Exit.then K Q) ⟨(z0::z1::z2::z3::z4::(.slice a ls.length c)::z6::z7::z8::z9::z10::(.int .i64 (k : Int))::(.pointer (some ⟨q, 0, none⟩))::(.bool true)::(.int .i64 0)::z15::z16::z17::z18::z19::z20::z21::z22::z23::z24::z25::z26::z27::z28::z29::z30::z31::z32::z33::z34::z35::z36::z37::z38::z39::z40::z41::z42::z43::z44::z45::z46::z47::z48::z49::z50::z51::z52::z53::z54::z55::z56::z57::z58::z59::z60::z61::z62::z63::z64::z65::z66::z67::z68::z69::z70::z71::z72::z73::z74::z75::z76::z77::z78::z79::z80::z81::z82::z83::z84::z85::z86::z87::z88::z89::z90::z91::z92::z93::z94::z95::z96::z97::z98::z99::z100::z101::z102::z103::z104::z105::z106::z107::z108::z109::z110::z111::z112::z113::z114::z115::z116::z117::z118::z119::z120::z121::z122::z123::z124::z125::z126::z127::z128::z129::z130::z131::z132::z133::z134::z135::z136::z137::z138::z139::z140::z141::z142::z143::z144::z145::z146::z147::z148::z149::z150::z151::z152::z153::z154::z155::z156::z157::z158::z159::z160::z161::z162::z163::z164::z165::z166::z167::z168::z169::z170::z171::z172::z173::z174::z175::z176::z177::z178::z179::z180::z181::z182::z183::z184::z185::z186::z187::z188::z189::z190::z191::z192::z193::z194::z195::z196::z197::z198::z199::z200::z201::z202::z203::z204::z205::z206::z207::z208::z209::z210::z211::z212::z213::z214::z215::z216::z217::z218::z219::z220::z221::z222::z223::z224::z225::z226::z227::z228::z229::z230::z231::z232::z233::z234::z235::z236::z237::z238::z239::z240::z241::z242::z243::z244::z245::z246::z247::z248::z249::z250::z251::z252::z253::z254::z255::z256::z257::z258::z259::z260::z261::z262::z263::z264::z265::z266::z267::z268::z269::z270::z271::z272::z273::z274::z275::z276::z277::z278::z279::z280::z281::z282::z283::z284::z285::z286::z287::z288::z289::z290::z291::z292::z293::z294::z295::z296::z297::z298::z299::z300::z301::z302::z303::z304::z305::z306::z307::z308::z309::z310::z311::z312::z313::z314::z315::z316::z317::z318::z319::z320::z321::z322::z323::z324::z325::z326 :: []).toArray, []⟩ wA := by
  have HFIN := Lib.hid hfin
  clear hfin
  have hki : (k : Int) < ls.length := by omega
  have hli : (ls.length : Int) ≤ 9 := by omega
  have c0 := cell_block gt 0
  simp only [gA, gB, gC] at c0
  have k0 := iheld c0 (Nat.le_refl _)
  clear c0
  clear gt
  rcases k with _ | m
  · clear hr htr
    conv => arg 2; whnf
    refine (wpIn_wide (n := 1)).1 ?_
    refine wpIn_region_Wn (S := Below wA.heap.size wA) 21 (by kernel_rfl) (by kernel_rfl) (below_drew wA) (fun hHeld => ?_)
    refine wTk 0 151 ?_ ?_ ?_
    rotate_left
    · intro o h w k; (try dsimp only at k); simp only [gA, gB, gC, gG] at h; subst h; go_simp; try with_reducible rfl
    simp only [Act.put, gD, gE, gF]
    refine wTk 1 152 ?_ ?_ ?_
    rotate_left
    · intro o h w k; (try dsimp only at k); simp only [gA, gB, gC, gG] at h; subst h; go_simp; try with_reducible rfl
    simp only [Act.put, gD, gE, gF]
    refine wTk 2 153 ?_ ?_ ?_
    rotate_left
    · intro o h w k; (try dsimp only at k); simp only [gA, gB, gC, gG] at h; subst h; go_simp; try with_reducible rfl
    simp only [Act.put, gD, gE, gF]
    refine wTk 3 154 ?_ ?_ ?_
    rotate_left
    · intro o h w k; (try dsimp only at k); simp only [gA, gB, gC, gG] at h; subst h; go_simp; try with_reducible rfl
    simp only [Act.put, gD, gE, gF]
    refine wTk 4 155 ?_ ?_ ?_
    rotate_left
    · intro o h w k; (try dsimp only at k); simp only [gA, gB, gC, gG] at h; subst h; go_simp; try with_reducible rfl
    simp only [Act.put, gD, gE, gF]
    refine wTk 5 156 ?_ ?_ ?_
    rotate_left
    · intro o h w k; (try dsimp only at k); simp only [gA, gB, gC, gG] at h; subst h; go_simp; try with_reducible rfl
    simp only [Act.put, gD, gE, gF]
    refine wTk 6 157 ?_ ?_ ?_
    rotate_left
    · intro o h w k; (try dsimp only at k); simp only [gA, gB, gC, gG] at h; subst h; go_simp; try with_reducible rfl
    simp only [Act.put, gD, gE, gF]
    refine wTk 7 158 ?_ ?_ ?_
    rotate_left
    · intro o h w k; (try dsimp only at k); simp only [gA, gB, gC, gG] at h; subst h; go_simp; try with_reducible rfl
    simp only [Act.put, gD, gE, gF]
    refine wTk 8 159 ?_ ?_ ?_
    rotate_left
    · intro o h w k; (try dsimp only at k); simp only [gA, gB, gC, gG] at h; subst h; go_simp; try with_reducible rfl
    simp only [Act.put, gD, gE, gF]
    refine wTk 9 160 ?_ ?_ ?_
    rotate_left
    · intro o h w k; (try dsimp only at k); simp only [gA, gB, gC, gG] at h; subst h; go_simp; try with_reducible rfl
    simp only [Act.put, gD, gE, gF]
    refine wpAnyW_skipD 10 161 (by kernel_rfl) (by kernel_rfl) (by kernel_rfl) (by kernel_rfl) (fun _ _ _ h => h) (by assumption) ?_
    simp only [Act.put, gD, gE, gF]
    refine wpAnyW_skipD 11 162 (by kernel_rfl) (by kernel_rfl) (by kernel_rfl) (by kernel_rfl) (fun _ _ _ h => h) (by assumption) ?_
    simp only [Act.put, gD, gE, gF]
    refine wpAnyW_skipD 12 163 (by kernel_rfl) (by kernel_rfl) (by kernel_rfl) (by kernel_rfl) (fun _ _ _ h => h) (by assumption) ?_
    simp only [Act.put, gD, gE, gF]
    refine wpAnyW_skipD 13 164 (by kernel_rfl) (by kernel_rfl) (by kernel_rfl) (by kernel_rfl) (fun _ _ _ h => h) (by assumption) ?_
    simp only [Act.put, gD, gE, gF]
    refine wpAnyW_skipD 14 165 (by kernel_rfl) (by kernel_rfl) (by kernel_rfl) (by kernel_rfl) (fun _ _ _ h => h) (by assumption) ?_
    simp only [Act.put, gD, gE, gF]
    refine wpAnyW_skipD 15 166 (by kernel_rfl) (by kernel_rfl) (by kernel_rfl) (by kernel_rfl) (fun _ _ _ h => h) (by assumption) ?_
    simp only [Act.put, gD, gE, gF]
    refine wpAnyW_skipD 16 167 (by kernel_rfl) (by kernel_rfl) (by kernel_rfl) (by kernel_rfl) (fun _ _ _ h => h) (by assumption) ?_
    simp only [Act.put, gD, gE, gF]
    refine wpAnyW_skipD 17 168 (by kernel_rfl) (by kernel_rfl) (by kernel_rfl) (by kernel_rfl) (fun _ _ _ h => h) (by assumption) ?_
    simp only [Act.put, gD, gE, gF]
    refine wpAnyW_skipD 18 169 (by kernel_rfl) (by kernel_rfl) (by kernel_rfl) (by kernel_rfl) (fun _ _ _ h => h) (by assumption) ?_
    simp only [Act.put, gD, gE, gF]
    refine wTk 19 170 ?_ ?_ ?_
    rotate_left
    · intro o h w k; (try dsimp only at k); simp only [gA, gB, gC, gG] at h; subst h; go_simp; try with_reducible rfl
    simp only [Act.put, gD, gE, gF]
    refine wTk 20 171 ?_ ?_ ?_
    rotate_left
    · intro o h w k; (try dsimp only at k); simp only [gA, gB, gC, gG] at h; subst h; go_simp; try with_reducible rfl
    simp only [Act.put, gD, gE, gF]
    refine wpAnyW_done (by kernel_rfl) ?_ _
    dsimp only [onNormal]
    exact HFIN.out _ _ _ _ _ _ _ _ _ _ _ _ _ _ _ _ _ _ _ _ _ hHeld
  · obtain ⟨b, o, rfl, hbl, e0, e1, e2⟩ := htr m (by omega)
    have hlt := hr m rfl (by omega)
    have k1 := iheld e0 (Nat.le_refl _)
    generalize ls[m].a = y at hlt k1
    have T1 : IntKind.i64.wrap (m : Int) = (m : Int) := by rw [IntKind.wrap_i64]; omega
    have hml : (m : Int) < ls.length := by omega
    have d1 : decide (t.a ≤ y) = false := decide_eq_false (by omega)
    clear hlt e0 e1 e2 hbl hr htr
    conv => arg 2; whnf
    refine (wpIn_wide (n := 1)).1 ?_
    refine wpIn_region_Wn (S := Below wA.heap.size wA) 21 (by kernel_rfl) (by kernel_rfl) (below_drew wA) (fun hHeld => ?_)
    refine wTk 0 151 ?_ ?_ ?_
    rotate_left
    · intro o h w k; (try dsimp only at k); simp only [gA, gB, gC, gG] at h; subst h; go_simp; try with_reducible rfl
    simp only [Act.put, gD, gE, gF]
    refine wTk 1 152 ?_ ?_ ?_
    rotate_left
    · intro o h w k; (try dsimp only at k); simp only [gA, gB, gC, gG] at h; subst h; go_simp; try with_reducible rfl
    simp only [Act.put, gD, gE, gF]
    refine wTk 2 153 ?_ ?_ ?_
    rotate_left
    · intro o h w k; (try dsimp only at k); simp only [gA, gB, gC, gG] at h; subst h; go_simp; try with_reducible rfl
    simp only [Act.put, gD, gE, gF]
    refine wTk 3 154 ?_ ?_ ?_
    rotate_left
    · intro o h w k; (try dsimp only at k); simp only [gA, gB, gC, gG] at h; subst h; go_simp; try with_reducible rfl
    simp only [Act.put, gD, gE, gF]
    refine wTk 4 155 ?_ ?_ ?_
    rotate_left
    · intro o h w k; (try dsimp only at k); simp only [gA, gB, gC, gG] at h; subst h; go_simp; try with_reducible rfl
    simp only [Act.put, gD, gE, gF]
    refine wTk 5 156 ?_ ?_ ?_
    rotate_left
    · intro o h w k; (try dsimp only at k); simp only [gA, gB, gC, gG] at h; subst h; go_simp; try with_reducible rfl
    simp only [Act.put, gD, gE, gF]
    refine wTk 6 157 ?_ ?_ ?_
    rotate_left
    · intro o h w k; (try dsimp only at k); simp only [gA, gB, gC, gG] at h; subst h; go_simp; try with_reducible rfl
    simp only [Act.put, gD, gE, gF]
    refine wTk 7 158 ?_ ?_ ?_
    rotate_left
    · intro o h w k; (try dsimp only at k); simp only [gA, gB, gC, gG] at h; subst h; go_simp; try with_reducible rfl
    simp only [Act.put, gD, gE, gF]
    refine wTk 8 159 ?_ ?_ ?_
    rotate_left
    · intro o h w k; (try dsimp only at k); simp only [gA, gB, gC, gG] at h; subst h; go_simp; try with_reducible rfl
    simp only [Act.put, gD, gE, gF]
    refine wTk 9 160 ?_ ?_ ?_
    rotate_left
    · intro o h w k; (try dsimp only at k); simp only [gA, gB, gC, gG] at h; subst h; go_simp; try with_reducible rfl
    simp only [Act.put, gD, gE, gF]
    refine wTk 10 161 ?_ ?_ ?_
    rotate_left
    · intro o h w k; (try dsimp only at k); simp only [gA, gB, gC, gG] at h; subst h; go_simp; try with_reducible rfl
    simp only [Act.put, gD, gE, gF]
    refine wTk 11 162 ?_ ?_ ?_
    rotate_left
    · intro o h w k; (try dsimp only at k); simp only [gA, gB, gC, gG] at h; subst h; go_simp; try with_reducible rfl
    simp only [Act.put, gD, gE, gF]
    refine wTk 12 163 ?_ ?_ ?_
    rotate_left
    · intro o h w k; (try dsimp only at k); simp only [gA, gB, gC, gG] at h; subst h; go_simp; try with_reducible rfl
    simp only [Act.put, gD, gE, gF]
    refine wTk 13 164 ?_ ?_ ?_
    rotate_left
    · intro o h w k; (try dsimp only at k); simp only [gA, gB, gC, gG] at h; subst h; go_simp; try with_reducible rfl
    simp only [Act.put, gD, gE, gF]
    refine wTk 14 165 ?_ ?_ ?_
    rotate_left
    · intro o h w k; (try dsimp only at k); simp only [gA, gB, gC, gG] at h; subst h; go_simp; try with_reducible rfl
    simp only [Act.put, gD, gE, gF]
    refine wTk 15 166 ?_ ?_ ?_
    rotate_left
    · intro o h w k; (try dsimp only at k); simp only [gA, gB, gC, gG] at h; subst h; go_simp; try with_reducible rfl
    simp only [Act.put, gD, gE, gF]
    refine wTk 16 167 ?_ ?_ ?_
    rotate_left
    · intro o h w k; (try dsimp only at k); simp only [gA, gB, gC, gG] at h; subst h; go_simp; try with_reducible rfl
    simp only [Act.put, gD, gE, gF]
    refine wTk 17 168 ?_ ?_ ?_
    rotate_left
    · intro o h w k; (try dsimp only at k); simp only [gA, gB, gC, gG] at h; subst h; go_simp; try with_reducible rfl
    simp only [Act.put, gD, gE, gF]
    refine wTk 18 169 ?_ ?_ ?_
    rotate_left
    · intro o h w k; (try dsimp only at k); simp only [gA, gB, gC, gG] at h; subst h; go_simp; try with_reducible rfl
    simp only [Act.put, gD, gE, gF]
    refine wTk 19 170 ?_ ?_ ?_
    rotate_left
    · intro o h w k; (try dsimp only at k); simp only [gA, gB, gC, gG] at h; subst h; go_simp; try with_reducible rfl
    simp only [Act.put, gD, gE, gF]
    refine wTk 20 171 ?_ ?_ ?_
    rotate_left
    · intro o h w k; (try dsimp only at k); simp only [gA, gB, gC, gG] at h; subst h; go_simp; try with_reducible rfl
    simp only [Act.put, gD, gE, gF]
    refine wpAnyW_done (by kernel_rfl) ?_ _
    dsimp only [onNormal]
    exact HFIN.out _ _ _ _ _ _ _ _ _ _ _ _ _ _ _ _ _ _ _ _ _ hHeld

theorem lfew_reg33 (s : ISheet) (fa ba : Option Addr) (fc bc p A : Nat) (by' : List Nat) (wA : World) {z0 z3 z4 z5 z6 z7 z8 z9 z10 z11 z12 z13 z14 z15 z16 z17 z19 z22 z23 z24 z25 z26 z27 z28 z29 z30 z31 z32 z33 z34 z35 z36 z37 z38 z39 z40 z41 z42 z43 z44 z45 z46 z47 z48 z49 z50 z51 z52 z53 z54 z55 z56 z57 z58 z59 z60 z61 z62 z63 z64 z65 z66 z67 z68 z69 z70 z71 z72 z73 z74 z75 z76 z77 z78 z79 z80 z81 z82 z83 z84 z85 z86 z87 z88 z89 z90 z91 z92 z93 z94 z95 z96 z97 z98 z99 z100 z101 z102 z103 z104 z105 z106 z107 z108 z109 z110 z111 z112 z113 z114 z115 z116 z117 z118 z119 z120 z121 z122 z123 z124 z125 z126 z127 z128 z129 z130 z131 z132 z133 z134 z135 z136 z137 z138 z139 z140 z141 z142 z143 z144 z145 z146 z147 z148 z149 z150 z151 z152 z153 z154 z155 z156 z157 z158 z159 z160 z161 z162 z163 z164 z165 z166 z167 z168 z169 z170 z171 z172 z173 z174 z175 z176 z177 z178 z179 z180 z181 z182 z183 z184 z185 z186 z187 z188 z189 z190 z191 z192 z193 z194 z195 z196 z197 z198 z199 z229 z230 z231 z232 z233 z234 z235 z236 z237 z238 z239 z240 z241 z242 z243 z244 z245 z246 z247 z248 z249 z250 z251 z252 z253 z254 z255 z256 z257 z258 z259 z260 z261 z262 z263 z264 z265 z266 z267 z268 z269 z270 z271 z272 z273 z274 z275 z276 z277 z278 z279 z280 z281 z282 z283 z284 z285 z286 z287 z288 z289 z290 z291 z292 z293 z294 z295 z296 z297 z298 z299 z300 z301 z302 z303 z304 z305 z306 z307 z308 z309 z310 z311 z312 z313 z314 z315 z316 z317 z318 z319 z320 z321 z322 z323 z324 z325 z326 : Value} {z20 z21 z200 z201 z202 z203 z204 z205 z206 z207 z208 z209 z210 z211 z212 z213 z214 z215 z216 z217 z218 z219 z220 z221 z222 z223 z224 z225 z226 z227 z228 : Value} (hn : s.l.length ≤ 9) (hA : A ≤ 9) (hby : ∀ x ∈ by', x < 256) (h0 : 0 < by'.length) (hbl : by'.length ≤ 9223372036854775807) (hu : IU8 wA ba by') (hp : wA.heap[p]? = some (.cells #[.int .i64 s.ax.lo, .int .i64 s.ax.hi, .int .i64 s.ay.lo, .int .i64 s.ay.hi, .int .i64 s.bx.lo, .int .i64 s.bx.hi, .int .i64 s.by'.lo, .int .i64 s.by'.hi, .int .i64 s.f.lo, .int .i64 s.f.hi, .int .i64 s.g.lo, .int .i64 s.g.hi, .int .i64 s.limit, .int .i64 s.flaws, .slice fa s.l.length fc] 30)) (K : Act → World → Prop) (Q : Exit → Act → World → Prop)
    (hfin : ∀ (s200 s201 s202 s203 s204 s205 s206 s207 s208 s209 s210 s211 s212 s213 s214 s215 s216 s217 s218 s219 s220 s221 s222 s223 s224 s225 s226 s227 s228 : Value) (b c : Int) (w3 : World), -1 ≤ b → -1 ≤ c → Below wA.heap.size wA w3 → K ⟨(z0::(.slice ba by'.length bc)::(.pointer (some ⟨p, 0, none⟩))::z3::z4::z5::z6::z7::z8::z9::z10::z11::z12::z13::z14::z15::z16::z17::(.int .i64 (A : Int))::z19::(.int .i64 b)::(.int .i64 c)::z22::z23::z24::z25::z26::z27::z28::z29::z30::z31::z32::z33::z34::z35::z36::z37::z38::z39::z40::z41::z42::z43::z44::z45::z46::z47::z48::z49::z50::z51::z52::z53::z54::z55::z56::z57::z58::z59::z60::z61::z62::z63::z64::z65::z66::z67::z68::z69::z70::z71::z72::z73::z74::z75::z76::z77::z78::z79::z80::z81::z82::z83::z84::z85::z86::z87::z88::z89::z90::z91::z92::z93::z94::z95::z96::z97::z98::z99::z100::z101::z102::z103::z104::z105::z106::z107::z108::z109::z110::z111::z112::z113::z114::z115::z116::z117::z118::z119::z120::z121::z122::z123::z124::z125::z126::z127::z128::z129::z130::z131::z132::z133::z134::z135::z136::z137::z138::z139::z140::z141::z142::z143::z144::z145::z146::z147::z148::z149::z150::z151::z152::z153::z154::z155::z156::z157::z158::z159::z160::z161::z162::z163::z164::z165::z166::z167::z168::z169::z170::z171::z172::z173::z174::z175::z176::z177::z178::z179::z180::z181::z182::z183::z184::z185::z186::z187::z188::z189::z190::z191::z192::z193::z194::z195::z196::z197::z198::z199::s200::s201::s202::s203::s204::s205::s206::s207::s208::s209::s210::s211::s212::s213::s214::s215::s216::s217::s218::s219::s220::s221::s222::s223::s224::s225::s226::s227::s228::z229::z230::z231::z232::z233::z234::z235::z236::z237::z238::z239::z240::z241::z242::z243::z244::z245::z246::z247::z248::z249::z250::z251::z252::z253::z254::z255::z256::z257::z258::z259::z260::z261::z262::z263::z264::z265::z266::z267::z268::z269::z270::z271::z272::z273::z274::z275::z276::z277::z278::z279::z280::z281::z282::z283::z284::z285::z286::z287::z288::z289::z290::z291::z292::z293::z294::z295::z296::z297::z298::z299::z300::z301::z302::z303::z304::z305::z306::z307::z308::z309::z310::z311::z312::z313::z314::z315::z316::z317::z318::z319::z320::z321::z322::z323::z324::z325::z326 :: []).toArray, []⟩ w3) :
    Code.wp Try.prog ((Try.f7.body.bind (findReg 33)).getD .skip) (Exit.then K Q) ⟨(z0::(.slice ba by'.length bc)::(.pointer (some ⟨p, 0, none⟩))::z3::z4::z5::z6::z7::z8::z9::z10::z11::z12::z13::z14::z15::z16::z17::(.int .i64 (A : Int))::z19::z20::z21::z22::z23::z24::z25::z26::z27::z28::z29::z30::z31::z32::z33::z34::z35::z36::z37::z38::z39::z40::z41::z42::z43::z44::z45::z46::z47::z48::z49::z50::z51::z52::z53::z54::z55::z56::z57::z58::z59::z60::z61::z62::z63::z64::z65::z66::z67::z68::z69::z70::z71::z72::z73::z74::z75::z76::z77::z78::z79::z80::z81::z82::z83::z84::z85::z86::z87::z88::z89::z90::z91::z92::z93::z94::z95::z96::z97::z98::z99::z100::z101::z102::z103::z104::z105::z106::z107::z108::z109::z110::z111::z112::z113::z114::z115::z116::z117::z118::z119::z120::z121::z122::z123::z124::z125::z126::z127::z128::z129::z130::z131::z132::z133::z134::z135::z136::z137::z138::z139::z140::z141::z142::z143::z144::z145::z146::z147::z148::z149::z150::z151::z152::z153::z154::z155::z156::z157::z158::z159::z160::z161::z162::z163::z164::z165::z166::z167::z168::z169::z170::z171::z172::z173::z174::z175::z176::z177::z178::z179::z180::z181::z182::z183::z184::z185::z186::z187::z188::z189::z190::z191::z192::z193::z194::z195::z196::z197::z198::z199::z200::z201::z202::z203::z204::z205::z206::z207::z208::z209::z210::z211::z212::z213::z214::z215::z216::z217::z218::z219::z220::z221::z222::z223::z224::z225::z226::z227::z228::z229::z230::z231::z232::z233::z234::z235::z236::z237::z238::z239::z240::z241::z242::z243::z244::z245::z246::z247::z248::z249::z250::z251::z252::z253::z254::z255::z256::z257::z258::z259::z260::z261::z262::z263::z264::z265::z266::z267::z268::z269::z270::z271::z272::z273::z274::z275::z276::z277::z278::z279::z280::z281::z282::z283::z284::z285::z286::z287::z288::z289::z290::z291::z292::z293::z294::z295::z296::z297::z298::z299::z300::z301::z302::z303::z304::z305::z306::z307::z308::z309::z310::z311::z312::z313::z314::z315::z316::z317::z318::z319::z320::z321::z322::z323::z324::z325::z326 :: []).toArray, []⟩ wA := by
  have HFIN := Lib.hid hfin
  clear hfin
  have hni : (s.l.length : Int) ≤ 9 := by omega
  have hAi : (A : Int) ≤ 9 := by omega
  have c14 := cell_block hp 14
  simp only [gA, gB, gC] at c14
  have k14 := iheld c14 (Nat.le_refl _)
  clear c14
  clear hp
  obtain ⟨L, hL⟩ : ∃ L, by'.length = L := ⟨_, rfl⟩
  have hm1 : A % L < by'.length := by rw [hL]; exact Nat.mod_lt _ (by omega)
  have hm2 : (A + 1) % L < by'.length := by rw [hL]; exact Nat.mod_lt _ (by omega)
  obtain ⟨qb, ob, rfl, hqb, c1⟩ := hu _ hm1
  obtain ⟨qb2, ob2, e2, _, c2⟩ := hu _ hm2
  cases e2
  have x1 := hby _ (List.getElem_mem hm1)
  have x2 := hby _ (List.getElem_mem hm2)
  rw [hL] at hm1 hm2 h0 hbl HFIN ⊢
  clear hqb hu hby
  generalize by'[A % L] = y1 at c1 x1
  generalize by'[(A + 1) % L] = y2 at c2 x2
  have T1 : (A : Int).tmod (L : Int) = ((A % L : Nat) : Int) := by rw [Int.tmod_eq_emod_of_nonneg (by omega)]; rfl
  have T2 : ((A : Int) + 1).tmod (L : Int) = (((A + 1) % L : Nat) : Int) := by rw [Int.tmod_eq_emod_of_nonneg (by omega)]; rfl
  generalize A % L = m1 at c1 hm1 T1
  generalize (A + 1) % L = m2 at c2 hm2 T2
  have R1 : (y1 : Int).tmod ((s.l.length : Int) + 1) = ((y1 % (s.l.length + 1) : Nat) : Int) := by rw [Int.tmod_eq_emod_of_nonneg (by omega)]; rfl
  have R2 : (y2 : Int).tmod ((s.l.length : Int) + 1) = ((y2 % (s.l.length + 1) : Nat) : Int) := by rw [Int.tmod_eq_emod_of_nonneg (by omega)]; rfl
  have r1l : y1 % (s.l.length + 1) < s.l.length + 1 := Nat.mod_lt _ (by omega)
  have r2l : y2 % (s.l.length + 1) < s.l.length + 1 := Nat.mod_lt _ (by omega)
  generalize y1 % (s.l.length + 1) = r1 at R1 r1l
  generalize y2 % (s.l.length + 1) = r2 at R2 r2l
  have T3 : IntKind.i64.wrap (y1 : Int) = (y1 : Int) := by rw [IntKind.wrap_i64]; omega
  have T4 : IntKind.i64.wrap (y2 : Int) = (y2 : Int) := by rw [IntKind.wrap_i64]; omega
  have W1 : IntKind.i64.wrap ((s.l.length : Int) + 1) = (s.l.length : Int) + 1 := by rw [IntKind.wrap_i64]; omega
  have W2 : IntKind.i64.wrap ((A : Int) + 1) = (A : Int) + 1 := by rw [IntKind.wrap_i64]; omega
  have W3 : IntKind.i64.wrap ((r1 : Int) - 1) = (r1 : Int) - 1 := by rw [IntKind.wrap_i64]; omega
  have W4 : IntKind.i64.wrap ((r2 : Int) - 1) = (r2 : Int) - 1 := by rw [IntKind.wrap_i64]; omega
  have hL0 : ¬ L = 0 := by omega
  have hn0 : ¬ (s.l.length : Int) + 1 = 0 := by omega
  have m1i : (m1 : Int) < L := by omega
  have m2i : (m2 : Int) < L := by omega
  have k1 := iheld c1 (Nat.le_refl _)
  have k2 := iheld c2 (Nat.le_refl _)
  clear c1 c2 hL
  conv => arg 2; whnf
  refine (wpIn_wide (n := 1)).1 ?_
  refine wpIn_region_Wn (S := Below wA.heap.size wA) 31 (by kernel_rfl) (by kernel_rfl) (below_drew wA) (fun hHeld => ?_)
  refine wTk 0 200 ?_ ?_ ?_
  rotate_left
  · intro o h w k; (try dsimp only at k); simp only [gA, gB, gC, gG] at h; subst h; go_simp; try with_reducible rfl
  simp only [Act.put, gD, gE, gF]
  refine wTk 1 201 ?_ ?_ ?_
  rotate_left
  · intro o h w k; (try dsimp only at k); simp only [gA, gB, gC, gG] at h; subst h; go_simp; try with_reducible rfl
  simp only [Act.put, gD, gE, gF]
  refine wTk 2 202 ?_ ?_ ?_
  rotate_left
  · intro o h w k; (try dsimp only at k); simp only [gA, gB, gC, gG] at h; subst h; go_simp; try with_reducible rfl
  simp only [Act.put, gD, gE, gF]
  refine wTk 3 203 ?_ ?_ ?_
  rotate_left
  · intro o h w k; (try dsimp only at k); simp only [gA, gB, gC, gG] at h; subst h; go_simp; try with_reducible rfl
  simp only [Act.put, gD, gE, gF]
  refine wTk 4 204 ?_ ?_ ?_
  rotate_left
  · intro o h w k; (try dsimp only at k); simp only [gA, gB, gC, gG] at h; subst h; go_simp; try with_reducible rfl
  simp only [Act.put, gD, gE, gF]
  refine wTk 5 205 ?_ ?_ ?_
  rotate_left
  · intro o h w k; (try dsimp only at k); simp only [gA, gB, gC, gG] at h; subst h; go_simp; try with_reducible rfl
  simp only [Act.put, gD, gE, gF]
  refine wTk 6 206 ?_ ?_ ?_
  rotate_left
  · intro o h w k; (try dsimp only at k); simp only [gA, gB, gC, gG] at h; subst h; go_simp; try with_reducible rfl
  simp only [Act.put, gD, gE, gF]
  refine wTk 7 207 ?_ ?_ ?_
  rotate_left
  · intro o h w k; (try dsimp only at k); simp only [gA, gB, gC, gG] at h; subst h; go_simp; try with_reducible rfl
  simp only [Act.put, gD, gE, gF]
  refine wTk 8 208 ?_ ?_ ?_
  rotate_left
  · intro o h w k; (try dsimp only at k); simp only [gA, gB, gC, gG] at h; subst h; go_simp; try with_reducible rfl
  simp only [Act.put, gD, gE, gF]
  refine wTk 9 209 ?_ ?_ ?_
  rotate_left
  · intro o h w k; (try dsimp only at k); simp only [gA, gB, gC, gG] at h; subst h; go_simp; try with_reducible rfl
  simp only [Act.put, gD, gE, gF]
  refine wTk 10 210 ?_ ?_ ?_
  rotate_left
  · intro o h w k; (try dsimp only at k); simp only [gA, gB, gC, gG] at h; subst h; go_simp; try with_reducible rfl
  simp only [Act.put, gD, gE, gF]
  refine wTk 11 211 ?_ ?_ ?_
  rotate_left
  · intro o h w k; (try dsimp only at k); simp only [gA, gB, gC, gG] at h; subst h; go_simp; try with_reducible rfl
  simp only [Act.put, gD, gE, gF]
  refine wTk 12 212 ?_ ?_ ?_
  rotate_left
  · intro o h w k; (try dsimp only at k); simp only [gA, gB, gC, gG] at h; subst h; go_simp; try with_reducible rfl
  simp only [Act.put, gD, gE, gF]
  refine wTk 13 213 ?_ ?_ ?_
  rotate_left
  · intro o h w k; (try dsimp only at k); simp only [gA, gB, gC, gG] at h; subst h; go_simp; try with_reducible rfl
  simp only [Act.put, gD, gE, gF]
  refine wTk 14 214 ?_ ?_ ?_
  rotate_left
  · intro o h w k; (try dsimp only at k); simp only [gA, gB, gC, gG] at h; subst h; go_simp; try with_reducible rfl
  simp only [Act.put, gD, gE, gF]
  refine wTk 15 215 ?_ ?_ ?_
  rotate_left
  · intro o h w k; (try dsimp only at k); simp only [gA, gB, gC, gG] at h; subst h; go_simp; try with_reducible rfl
  simp only [Act.put, gD, gE, gF]
  refine wTk 16 216 ?_ ?_ ?_
  rotate_left
  · intro o h w k; (try dsimp only at k); simp only [gA, gB, gC, gG] at h; subst h; go_simp; try with_reducible rfl
  simp only [Act.put, gD, gE, gF]
  refine wTk 17 217 ?_ ?_ ?_
  rotate_left
  · intro o h w k; (try dsimp only at k); simp only [gA, gB, gC, gG] at h; subst h; go_simp; try with_reducible rfl
  simp only [Act.put, gD, gE, gF]
  refine wTk 18 218 ?_ ?_ ?_
  rotate_left
  · intro o h w k; (try dsimp only at k); simp only [gA, gB, gC, gG] at h; subst h; go_simp; try with_reducible rfl
  simp only [Act.put, gD, gE, gF]
  refine wTk 19 219 ?_ ?_ ?_
  rotate_left
  · intro o h w k; (try dsimp only at k); simp only [gA, gB, gC, gG] at h; subst h; go_simp; try with_reducible rfl
  simp only [Act.put, gD, gE, gF]
  refine wTk 20 220 ?_ ?_ ?_
  rotate_left
  · intro o h w k; (try dsimp only at k); simp only [gA, gB, gC, gG] at h; subst h; go_simp; try with_reducible rfl
  simp only [Act.put, gD, gE, gF]
  refine wTk 21 221 ?_ ?_ ?_
  rotate_left
  · intro o h w k; (try dsimp only at k); simp only [gA, gB, gC, gG] at h; subst h; go_simp; try with_reducible rfl
  simp only [Act.put, gD, gE, gF]
  refine wTk 22 222 ?_ ?_ ?_
  rotate_left
  · intro o h w k; (try dsimp only at k); simp only [gA, gB, gC, gG] at h; subst h; go_simp; try with_reducible rfl
  simp only [Act.put, gD, gE, gF]
  refine wTk 23 223 ?_ ?_ ?_
  rotate_left
  · intro o h w k; (try dsimp only at k); simp only [gA, gB, gC, gG] at h; subst h; go_simp; try with_reducible rfl
  simp only [Act.put, gD, gE, gF]
  refine wTk 24 224 ?_ ?_ ?_
  rotate_left
  · intro o h w k; (try dsimp only at k); simp only [gA, gB, gC, gG] at h; subst h; go_simp; try with_reducible rfl
  simp only [Act.put, gD, gE, gF]
  refine wTk 25 225 ?_ ?_ ?_
  rotate_left
  · intro o h w k; (try dsimp only at k); simp only [gA, gB, gC, gG] at h; subst h; go_simp; try with_reducible rfl
  simp only [Act.put, gD, gE, gF]
  refine wTk 26 226 ?_ ?_ ?_
  rotate_left
  · intro o h w k; (try dsimp only at k); simp only [gA, gB, gC, gG] at h; subst h; go_simp; try with_reducible rfl
  simp only [Act.put, gD, gE, gF]
  refine wTk 27 227 ?_ ?_ ?_
  rotate_left
  · intro o h w k; (try dsimp only at k); simp only [gA, gB, gC, gG] at h; subst h; go_simp; try with_reducible rfl
  simp only [Act.put, gD, gE, gF]
  refine wTk 28 228 ?_ ?_ ?_
  rotate_left
  · intro o h w k; (try dsimp only at k); simp only [gA, gB, gC, gG] at h; subst h; go_simp; try with_reducible rfl
  simp only [Act.put, gD, gE, gF]
  refine wTk 29 20 ?_ ?_ ?_
  rotate_left
  · intro o h w k; (try dsimp only at k); simp only [gA, gB, gC, gG] at h; subst h; go_simp; try with_reducible rfl
  simp only [Act.put, gD, gE, gF]
  refine wTk 30 21 ?_ ?_ ?_
  rotate_left
  · intro o h w k; (try dsimp only at k); simp only [gA, gB, gC, gG] at h; subst h; go_simp; try with_reducible rfl
  simp only [Act.put, gD, gE, gF]
  refine wpAnyW_done (by kernel_rfl) ?_ _
  dsimp only [onNormal]
  exact HFIN.out _ _ _ _ _ _ _ _ _ _ _ _ _ _ _ _ _ _ _ _ _ _ _ _ _ _ _ _ _ ((r1 : Int) - 1) ((r2 : Int) - 1) _ (by omega) (by omega) hHeld
end Go.Proofs.Ytacioedolmaofaa
namespace Go.Proofs.Ytacioedolmaofaa
open Go.RowKit Go.Shelf
set_option maxHeartbeats 12800000
set_option maxRecDepth 100000
set_option linter.unusedSimpArgs false
set_option linter.unusedVariables false

theorem lfew_reg36 (oc k : Nat) (oa : Option Addr) (ol : List ITr) (b c : Int) (f : Bool) (wA : World) {z0 z1 z2 z3 z4 z5 z6 z7 z8 z9 z10 z11 z12 z13 z14 z15 z16 z18 z22 z24 z25 z26 z27 z28 z29 z30 z31 z32 z33 z34 z35 z36 z37 z38 z39 z40 z41 z42 z43 z44 z45 z46 z47 z48 z49 z50 z51 z52 z53 z54 z55 z56 z57 z58 z59 z60 z61 z62 z63 z64 z65 z66 z67 z68 z69 z70 z71 z72 z73 z74 z75 z76 z77 z78 z79 z80 z81 z82 z83 z84 z85 z86 z87 z88 z89 z90 z91 z92 z93 z94 z95 z96 z97 z98 z99 z100 z101 z102 z103 z104 z105 z106 z107 z108 z109 z110 z111 z112 z113 z114 z115 z116 z117 z118 z119 z120 z121 z122 z123 z124 z125 z126 z127 z128 z129 z130 z131 z132 z133 z134 z135 z136 z137 z138 z139 z140 z141 z142 z143 z144 z145 z146 z147 z148 z149 z150 z151 z152 z153 z154 z155 z156 z157 z158 z159 z160 z161 z162 z163 z164 z165 z166 z167 z168 z169 z170 z171 z172 z173 z174 z175 z176 z177 z178 z179 z180 z181 z182 z183 z184 z185 z186 z187 z188 z189 z190 z191 z192 z193 z194 z195 z196 z197 z198 z199 z200 z201 z202 z203 z204 z205 z206 z207 z208 z209 z210 z211 z212 z213 z214 z215 z216 z217 z218 z219 z220 z221 z222 z223 z224 z225 z226 z227 z228 z229 z230 z231 z232 z233 z234 z235 z236 z237 z238 z266 z267 z268 z269 z270 z271 z272 z273 z274 z275 z276 z277 z278 z279 z280 z281 z282 z283 z284 z285 z286 z287 z288 z289 z290 z291 z292 z293 z294 z295 z296 z297 z298 z299 z300 z301 z302 z303 z304 z305 z306 z307 z308 z309 z310 z311 z312 z313 z314 z315 z316 z317 z318 z319 z320 z321 z322 z323 z324 z325 z326 : Value} {z265 z239 z240 z241 z242 z243 z244 z245 z246 z247 z248 z249 z250 z251 z252 z253 z254 z255 z256 z257 z258 z259 z260 z261 z262 z263 z264 : Value} (hl0 : TrSl wA oa ol) (hol : ol.length ≤ 9) (K : Act → World → Prop) (Q : Exit → Act → World → Prop)
    (hfin : ∀ (s239 s240 s241 s242 s243 s244 s245 s246 s247 s248 s249 s250 s251 s252 s253 s254 s255 s256 s257 s258 s259 s260 s261 s262 s263 s264 : Value) (r : Bool) (w3 : World), (r = true → f = true ∧ usedIn ol (k : Int) = false ∧ (b < 0 ∨ usedIn ol b = false) ∧ (c < 0 ∨ usedIn ol c = false)) → Below wA.heap.size wA w3 → K ⟨(z0::z1::z2::z3::z4::z5::z6::z7::z8::z9::z10::z11::z12::z13::z14::z15::z16::(.slice oa ol.length oc)::z18::(.int .i64 (k : Int))::(.int .i64 b)::(.int .i64 c)::z22::(.bool f)::z24::z25::z26::z27::z28::z29::z30::z31::z32::z33::z34::z35::z36::z37::z38::z39::z40::z41::z42::z43::z44::z45::z46::z47::z48::z49::z50::z51::z52::z53::z54::z55::z56::z57::z58::z59::z60::z61::z62::z63::z64::z65::z66::z67::z68::z69::z70::z71::z72::z73::z74::z75::z76::z77::z78::z79::z80::z81::z82::z83::z84::z85::z86::z87::z88::z89::z90::z91::z92::z93::z94::z95::z96::z97::z98::z99::z100::z101::z102::z103::z104::z105::z106::z107::z108::z109::z110::z111::z112::z113::z114::z115::z116::z117::z118::z119::z120::z121::z122::z123::z124::z125::z126::z127::z128::z129::z130::z131::z132::z133::z134::z135::z136::z137::z138::z139::z140::z141::z142::z143::z144::z145::z146::z147::z148::z149::z150::z151::z152::z153::z154::z155::z156::z157::z158::z159::z160::z161::z162::z163::z164::z165::z166::z167::z168::z169::z170::z171::z172::z173::z174::z175::z176::z177::z178::z179::z180::z181::z182::z183::z184::z185::z186::z187::z188::z189::z190::z191::z192::z193::z194::z195::z196::z197::z198::z199::z200::z201::z202::z203::z204::z205::z206::z207::z208::z209::z210::z211::z212::z213::z214::z215::z216::z217::z218::z219::z220::z221::z222::z223::z224::z225::z226::z227::z228::z229::z230::z231::z232::z233::z234::z235::z236::z237::z238::s239::s240::s241::s242::s243::s244::s245::s246::s247::s248::s249::s250::s251::s252::s253::s254::s255::s256::s257::s258::s259::s260::s261::s262::s263::s264::(.bool r)::z266::z267::z268::z269::z270::z271::z272::z273::z274::z275::z276::z277::z278::z279::z280::z281::z282::z283::z284::z285::z286::z287::z288::z289::z290::z291::z292::z293::z294::z295::z296::z297::z298::z299::z300::z301::z302::z303::z304::z305::z306::z307::z308::z309::z310::z311::z312::z313::z314::z315::z316::z317::z318::z319::z320::z321::z322::z323::z324::z325::z326 :: []).toArray, []⟩ w3) :
    Code.wp Try.prog ((Try.f7.body.bind (findReg 36)).getD .skip) (Exit.then K Q) ⟨(z0::z1::z2::z3::z4::z5::z6::z7::z8::z9::z10::z11::z12::z13::z14::z15::z16::(.slice oa ol.length oc)::z18::(.int .i64 (k : Int))::(.int .i64 b)::(.int .i64 c)::z22::(.bool f)::z24::z25::z26::z27::z28::z29::z30::z31::z32::z33::z34::z35::z36::z37::z38::z39::z40::z41::z42::z43::z44::z45::z46::z47::z48::z49::z50::z51::z52::z53::z54::z55::z56::z57::z58::z59::z60::z61::z62::z63::z64::z65::z66::z67::z68::z69::z70::z71::z72::z73::z74::z75::z76::z77::z78::z79::z80::z81::z82::z83::z84::z85::z86::z87::z88::z89::z90::z91::z92::z93::z94::z95::z96::z97::z98::z99::z100::z101::z102::z103::z104::z105::z106::z107::z108::z109::z110::z111::z112::z113::z114::z115::z116::z117::z118::z119::z120::z121::z122::z123::z124::z125::z126::z127::z128::z129::z130::z131::z132::z133::z134::z135::z136::z137::z138::z139::z140::z141::z142::z143::z144::z145::z146::z147::z148::z149::z150::z151::z152::z153::z154::z155::z156::z157::z158::z159::z160::z161::z162::z163::z164::z165::z166::z167::z168::z169::z170::z171::z172::z173::z174::z175::z176::z177::z178::z179::z180::z181::z182::z183::z184::z185::z186::z187::z188::z189::z190::z191::z192::z193::z194::z195::z196::z197::z198::z199::z200::z201::z202::z203::z204::z205::z206::z207::z208::z209::z210::z211::z212::z213::z214::z215::z216::z217::z218::z219::z220::z221::z222::z223::z224::z225::z226::z227::z228::z229::z230::z231::z232::z233::z234::z235::z236::z237::z238::z239::z240::z241::z242::z243::z244::z245::z246::z247::z248::z249::z250::z251::z252::z253::z254::z255::z256::z257::z258::z259::z260::z261::z262::z263::z264::z265::z266::z267::z268::z269::z270::z271::z272::z273::z274::z275::z276::z277::z278::z279::z280::z281::z282::z283::z284::z285::z286::z287::z288::z289::z290::z291::z292::z293::z294::z295::z296::z297::z298::z299::z300::z301::z302::z303::z304::z305::z306::z307::z308::z309::z310::z311::z312::z313::z314::z315::z316::z317::z318::z319::z320::z321::z322::z323::z324::z325::z326 :: []).toArray, []⟩ wA := by
  have HFIN := Lib.hid hfin
  clear hfin
  have hoi : (ol.length : Int) ≤ 9 := by omega
  have hB0 := Below.refl wA.heap.size wA
  obtain ⟨w0, hw0⟩ : ∃ w0, wA = w0 := ⟨_, rfl⟩
  have HW := Lib.hid hw0
  rw [hw0] at hl0 ⊢
  have hB0 : Below wA.heap.size wA w0 := by rw [hw0]; exact Below.refl _ _
  clear hw0
  conv => arg 2; whnf
  cases f
  · go_wp2_with fail
    exact HFIN.out _ _ _ _ _ _ _ _ _ _ _ _ _ _ _ _ _ _ _ _ _ _ _ _ _ _ false w0 (fun h => by cases h) hB0
  · go_wp2_with fail
    refine (irUsed_any oa oc ol (k : Int) w0 (hl0) (by omega)).mono ?_
    rintro e w1 ⟨rfl, hb⟩
    have hB1 := hB0.trans (hb.mono hB0.size)
    have hl1 := hl0.below hb (Nat.le_refl _)
    clear hb
    cases hu : usedIn ol (k : Int)
    · have HUA := Lib.hid hu
      clear hu
      by_cases eb : b < 0
      · have HB1 := Lib.hid eb
        by_cases ec : c < 0
        · have HC1 := Lib.hid ec
          go_wp2_with fail
          exact HFIN.out _ _ _ _ _ _ _ _ _ _ _ _ _ _ _ _ _ _ _ _ _ _ _ _ _ _ true w1 (fun _ => ⟨by trivial, HUA.out, .inl HB1.out, .inl HC1.out⟩) hB1
        · have HC1 := Lib.hid ec
          go_wp2_with fail
          refine (irUsed_any oa oc ol c w1 (hl1) (by omega)).mono ?_
          rintro e w2 ⟨rfl, hb⟩
          have hB2 := hB1.trans (hb.mono hB1.size)
          have hl2 := hl1.below hb (Nat.le_refl _)
          clear hb
          clear ec
          cases hu : usedIn ol c
          · have HC1u := Lib.hid hu
            clear hu
            go_wp2_with fail
            exact HFIN.out _ _ _ _ _ _ _ _ _ _ _ _ _ _ _ _ _ _ _ _ _ _ _ _ _ _ true w2 (fun _ => ⟨by trivial, HUA.out, .inl HB1.out, .inr HC1u.out⟩) hB2
          · have HC1u := Lib.hid hu
            clear hu
            go_wp2_with fail
            exact HFIN.out _ _ _ _ _ _ _ _ _ _ _ _ _ _ _ _ _ _ _ _ _ _ _ _ _ _ _ w2 (fun h => by have := HC1.out; simp at h; omega) hB2
      · have HB1 := Lib.hid eb
        go_wp2_with fail
        refine (irUsed_any oa oc ol b w1 (hl1) (by omega)).mono ?_
        rintro e w2 ⟨rfl, hb⟩
        have hB2 := hB1.trans (hb.mono hB1.size)
        have hl2 := hl1.below hb (Nat.le_refl _)
        clear hb
        clear eb
        cases hu : usedIn ol b
        · have HB1u := Lib.hid hu
          clear hu
          by_cases ec : c < 0
          · have HC1 := Lib.hid ec
            go_wp2_with fail
            exact HFIN.out _ _ _ _ _ _ _ _ _ _ _ _ _ _ _ _ _ _ _ _ _ _ _ _ _ _ true w2 (fun _ => ⟨by trivial, HUA.out, .inr HB1u.out, .inl HC1.out⟩) hB2
          · have HC1 := Lib.hid ec
            go_wp2_with fail
            refine (irUsed_any oa oc ol c w2 (hl2) (by omega)).mono ?_
            rintro e w3 ⟨rfl, hb⟩
            have hB3 := hB2.trans (hb.mono hB2.size)
            have hl3 := hl2.below hb (Nat.le_refl _)
            clear hb
            clear ec
            cases hu : usedIn ol c
            · have HC1u := Lib.hid hu
              clear hu
              go_wp2_with fail
              exact HFIN.out _ _ _ _ _ _ _ _ _ _ _ _ _ _ _ _ _ _ _ _ _ _ _ _ _ _ true w3 (fun _ => ⟨by trivial, HUA.out, .inr HB1u.out, .inr HC1u.out⟩) hB3
            · have HC1u := Lib.hid hu
              clear hu
              go_wp2_with fail
              exact HFIN.out _ _ _ _ _ _ _ _ _ _ _ _ _ _ _ _ _ _ _ _ _ _ _ _ _ _ _ w3 (fun h => by have := HC1.out; simp at h; omega) hB3
        · have HB1u := Lib.hid hu
          clear hu
          go_wp2_with fail
          exact HFIN.out _ _ _ _ _ _ _ _ _ _ _ _ _ _ _ _ _ _ _ _ _ _ _ _ _ _ false w2 (fun h => by cases h) hB2
    · have HUA := Lib.hid hu
      clear hu
      go_wp2_with fail
      exact HFIN.out _ _ _ _ _ _ _ _ _ _ _ _ _ _ _ _ _ _ _ _ _ _ _ _ _ _ false w1 (fun h => by cases h) hB1
end Go.Proofs.Ytacioedolmaofaa
