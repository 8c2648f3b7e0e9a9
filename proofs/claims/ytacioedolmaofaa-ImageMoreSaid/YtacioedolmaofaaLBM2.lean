/- A comparison in ImageMore. Plain Lean: what the law ImageMore asks. The loop of ImageMore. ImageMore, walked: what is told, and where. ImageMore, walked: how many ways, and what fits. -/
import Derived.Test.YtacioedolmaofaaLBM1
import Derived.Test.YtacioedolmaofaaLBA27
import Derived.Test.YtacioedolmaofaaLBA28
namespace Go.Proofs.Ytacioedolmaofaa
open Go.RowKit Go.Shelf
set_option maxHeartbeats 12800000
set_option maxRecDepth 100000
set_option linter.unusedSimpArgs false
set_option linter.unusedVariables false

theorem lmore_cmp (f1 f2 : Bool) (fe : Int) (wA : World) {z0 z1 z2 z3 z4 z5 z6 z7 z8 z9 z10 z11 z12 z13 z14 z15 z16 z17 z18 z19 z24 z25 z26 z27 z28 z29 z30 z31 z32 z33 z34 z35 z36 z37 z38 z39 z40 z41 z42 z43 z44 z45 z46 z47 z48 z49 z50 z51 z52 z53 z54 z55 z56 z57 z58 z59 z60 z61 z62 z63 z64 z65 z66 z67 z68 z69 z70 z71 z72 z73 z74 z75 z76 z77 z78 z79 z80 z81 z82 z83 z84 z85 z86 z87 z88 z89 z90 z91 z92 z93 z94 z95 z96 z97 z98 z99 z100 z101 z102 z103 z104 z105 z106 z107 z108 z109 z110 z111 z112 z113 z114 z115 z116 z117 z118 z119 z120 z121 z122 z123 z124 z125 z126 z127 z128 z129 z130 z131 z132 z133 z134 z135 z136 z137 z138 z139 z140 z141 z142 z143 z144 z145 z146 z147 z148 z149 z150 z151 z152 z153 z154 z155 z156 z157 z158 z159 z160 z161 z162 z163 z164 z165 z166 z167 z168 z169 z170 z171 z172 z173 z174 z175 z186 z187 z188 z189 z190 z191 z192 z193 z194 z195 z196 z197 z198 z199 z200 z201 z202 z203 z204 z205 z206 z207 z208 z209 z210 z211 z212 z213 z214 z215 z216 z217 z218 z219 z220 z221 z222 z223 z224 z225 z226 z227 z228 z229 z230 z231 z232 z233 z234 z235 z236 z237 z238 z239 z240 z241 z242 z243 z244 z245 z246 z247 z248 z249 z250 z251 z252 z253 z254 z255 z256 z257 z258 z259 z260 z261 z262 z263 z264 z265 z266 z267 z268 z269 z270 z271 z272 z273 z274 z275 z276 z277 z278 z279 z280 z281 z282 z283 z284 z285 z286 z287 z288 z289 z290 : Value} {z185 z176 z177 z178 z179 z180 z181 z182 z183 z184 : Value} (h : f1 = true → f2 = true) (K : Act → World → Prop) (Q : Exit → Act → World → Prop)
    (hfin : ∀ (s176 s177 s178 s179 s180 s181 s182 s183 s184 : Value) (w3 : World), w3 = wA → K ⟨(z0::z1::z2::z3::z4::z5::z6::z7::z8::z9::z10::z11::z12::z13::z14::z15::z16::z17::z18::z19::(.bool f1)::(.int .i64 fe)::(.bool f2)::(.int .i64 fe)::z24::z25::z26::z27::z28::z29::z30::z31::z32::z33::z34::z35::z36::z37::z38::z39::z40::z41::z42::z43::z44::z45::z46::z47::z48::z49::z50::z51::z52::z53::z54::z55::z56::z57::z58::z59::z60::z61::z62::z63::z64::z65::z66::z67::z68::z69::z70::z71::z72::z73::z74::z75::z76::z77::z78::z79::z80::z81::z82::z83::z84::z85::z86::z87::z88::z89::z90::z91::z92::z93::z94::z95::z96::z97::z98::z99::z100::z101::z102::z103::z104::z105::z106::z107::z108::z109::z110::z111::z112::z113::z114::z115::z116::z117::z118::z119::z120::z121::z122::z123::z124::z125::z126::z127::z128::z129::z130::z131::z132::z133::z134::z135::z136::z137::z138::z139::z140::z141::z142::z143::z144::z145::z146::z147::z148::z149::z150::z151::z152::z153::z154::z155::z156::z157::z158::z159::z160::z161::z162::z163::z164::z165::z166::z167::z168::z169::z170::z171::z172::z173::z174::z175::s176::s177::s178::s179::s180::s181::s182::s183::s184::(.bool false)::z186::z187::z188::z189::z190::z191::z192::z193::z194::z195::z196::z197::z198::z199::z200::z201::z202::z203::z204::z205::z206::z207::z208::z209::z210::z211::z212::z213::z214::z215::z216::z217::z218::z219::z220::z221::z222::z223::z224::z225::z226::z227::z228::z229::z230::z231::z232::z233::z234::z235::z236::z237::z238::z239::z240::z241::z242::z243::z244::z245::z246::z247::z248::z249::z250::z251::z252::z253::z254::z255::z256::z257::z258::z259::z260::z261::z262::z263::z264::z265::z266::z267::z268::z269::z270::z271::z272::z273::z274::z275::z276::z277::z278::z279::z280::z281::z282::z283::z284::z285::z286::z287::z288::z289::z290 :: []).toArray, []⟩ w3) :
    Code.wp Try.prog ((Try.f9.body.bind (findReg 17)).getD .skip) (Exit.then K Q) ⟨(z0::z1::z2::z3::z4::z5::z6::z7::z8::z9::z10::z11::z12::z13::z14::z15::z16::z17::z18::z19::(.bool f1)::(.int .i64 fe)::(.bool f2)::(.int .i64 fe)::z24::z25::z26::z27::z28::z29::z30::z31::z32::z33::z34::z35::z36::z37::z38::z39::z40::z41::z42::z43::z44::z45::z46::z47::z48::z49::z50::z51::z52::z53::z54::z55::z56::z57::z58::z59::z60::z61::z62::z63::z64::z65::z66::z67::z68::z69::z70::z71::z72::z73::z74::z75::z76::z77::z78::z79::z80::z81::z82::z83::z84::z85::z86::z87::z88::z89::z90::z91::z92::z93::z94::z95::z96::z97::z98::z99::z100::z101::z102::z103::z104::z105::z106::z107::z108::z109::z110::z111::z112::z113::z114::z115::z116::z117::z118::z119::z120::z121::z122::z123::z124::z125::z126::z127::z128::z129::z130::z131::z132::z133::z134::z135::z136::z137::z138::z139::z140::z141::z142::z143::z144::z145::z146::z147::z148::z149::z150::z151::z152::z153::z154::z155::z156::z157::z158::z159::z160::z161::z162::z163::z164::z165::z166::z167::z168::z169::z170::z171::z172::z173::z174::z175::z176::z177::z178::z179::z180::z181::z182::z183::z184::z185::z186::z187::z188::z189::z190::z191::z192::z193::z194::z195::z196::z197::z198::z199::z200::z201::z202::z203::z204::z205::z206::z207::z208::z209::z210::z211::z212::z213::z214::z215::z216::z217::z218::z219::z220::z221::z222::z223::z224::z225::z226::z227::z228::z229::z230::z231::z232::z233::z234::z235::z236::z237::z238::z239::z240::z241::z242::z243::z244::z245::z246::z247::z248::z249::z250::z251::z252::z253::z254::z255::z256::z257::z258::z259::z260::z261::z262::z263::z264::z265::z266::z267::z268::z269::z270::z271::z272::z273::z274::z275::z276::z277::z278::z279::z280::z281::z282::z283::z284::z285::z286::z287::z288::z289::z290 :: []).toArray, []⟩ wA := by
  have HFIN := Lib.hid hfin
  clear hfin
  conv => arg 2; whnf
  cases f1
  · clear h
    go_wp2_with fail
    exact HFIN.out _ _ _ _ _ _ _ _ _ _ rfl
  · have h2 := h rfl
    subst h2
    clear h
    go_wp2_with fail
    exact HFIN.out _ _ _ _ _ _ _ _ _ _ rfl
end Go.Proofs.Ytacioedolmaofaa
namespace Go.Proofs.Ytacioedolmaofaa
set_option linter.unusedVariables false
set_option maxRecDepth 100000

/-- A sheet with other Flaws. -/
def ISheet.withF (s : ISheet) (F : Int) : ISheet := { s with flaws := F }
theorem withF_trails (s : ISheet) (F : Int) : (s.withF F).trails = s.trails := rfl
theorem withF_ok {s : ISheet} (hok : s.ok = true) {F : Int} (h0 : 0 ≤ F) (h9 : F ≤ 9) : (s.withF F).ok = true := by
  obtain ⟨h1, h2, h3, h4, h5, h6, h7, h8, _, h10⟩ := (iok_iff s).1 hok
  exact (iok_iff _).2 ⟨h1, h2, h3, h4, h5, h6, h7, h8, ⟨h0, h9⟩, h10⟩
theorem withF_way {s : ISheet} {F : Int} (hF : s.flaws ≤ F) {w : List ITr} (h : IsWay s w) : IsWay (s.withF F) w := ⟨h.1, Int.le_trans h.2 hF⟩
theorem withF_count {s : ISheet} (hn : s.l.length ≤ 9) {F : Int} (hF : s.flaws ≤ F) : (wayTold s).many ≤ (wayTold (s.withF F)).many := by
  unfold wayTold
  rw [tellN_many s.flaws (tp_of hn) 0 (by omega), tellN_many (s.withF F).flaws (tp_of (s := s.withF F) hn) 0 (by omega), ways_filter s.trails s.l.length hF]
  exact List.length_filter_le _ _
theorem withF_tell {s : ISheet} (hok : s.ok = true) {F : Int} (hF : s.flaws ≤ F) (h9 : F ≤ 9) (hm : (wayTold s).many ≠ 0) : (∀ k, (tStars (s.withF F)).testBit k = true → (tStars s).testBit k = true) ∧ (∀ k, (tFlaws (s.withF F)).testBit k = true → (tFlaws s).testBit k = true) := by
  have h0 := ((iok_iff s).1 hok).2.2.2.2.2.2.2.2.1
  have hn := ((iok_iff s).1 hok).2.2.2.2.2.2.2.2.2
  have h1 := tellIs hok hm
  have h2 := tellIs (withF_ok hok (by omega) h9) (by have := withF_count hn hF; omega)
  refine ⟨fun k hk => ?_, fun k hk => ?_⟩
  · obtain ⟨a, b⟩ := (h2.stars k).1 hk
    exact (h1.stars k).2 ⟨a, fun w hw => b w (withF_way hF hw)⟩
  · obtain ⟨a, b⟩ := (h2.flaws k).1 hk
    exact (h1.flaws k).2 ⟨a, fun w hw => b w (withF_way hF hw)⟩
theorem withF_where {s : ISheet} (hok : s.ok = true) {F : Int} (hF : s.flaws ≤ F) {i : Int} {u : IStar} (hu : whereTo s i s.trails.length = some u) : ∃ v, whereTo (s.withF F) i s.trails.length = some v ∧ SWithin u v := by
  have hn : s.l.length ≤ 9 := ((iok_iff s).1 hok).2.2.2.2.2.2.2.2.2
  have hA := where_all s i
  have hB := where_all (s.withF F) i
  rw [hu] at hA
  have hS : ∀ v, StarsAt s s.trails i v → StarsAt (s.withF F) s.trails i v := by
    rintro v ⟨t, h1, h2, h3, h4⟩
    refine ⟨t, h1, h2, ?_, h4⟩
    obtain ⟨w, k1, k2, k3⟩ := (hasP_iff hn s.flaws h1).1 h3
    exact (hasP_iff (s := s.withF F) hn F h1).2 ⟨w, k1, Int.le_trans k2 hF, k3⟩
  rw [withF_trails] at hB
  cases hv : whereTo (s.withF F) i s.trails.length with
  | none =>
    rw [hv] at hB
    obtain ⟨v, hv2, _⟩ := hA.xl
    obtain ⟨t, h1, h2, h3, h4⟩ := hS v hv2
    have := hB t h1 h2
    rw [h3] at this
    cases this
  | some v =>
    rw [hv] at hB
    exact ⟨v, rfl, joinOf_within hA hB hS⟩

/-- Is an image known no better? -/
structure SpotSub (p q : ISpot) : Prop where
  x : q.x.lo ≤ p.x.lo ∧ p.x.hi ≤ q.x.hi
  y : q.y.lo ≤ p.y.lo ∧ p.y.hi ≤ q.y.hi
  s : q.s.lo ≤ p.s.lo ∧ p.s.hi ≤ q.s.hi
theorem SpotSub.refl (p : ISpot) : SpotSub p p := ⟨⟨Int.le_refl _, Int.le_refl _⟩, ⟨Int.le_refl _, Int.le_refl _⟩, ⟨Int.le_refl _, Int.le_refl _⟩⟩
/-- A sheet whose images are known no better. -/
structure Wider (s r : ISheet) : Prop where
  ax : r.ax = s.ax
  ay : r.ay = s.ay
  bx : r.bx = s.bx
  by' : r.by' = s.by'
  f : r.f = s.f
  g : r.g = s.g
  limit : r.limit = s.limit
  len : r.l.length = s.l.length
  sub : ∀ i, SpotSub (s.at' i) (r.at' i)
theorem starStep_wider {s r : ISheet} (h : Wider s r) {o p o' : IStar} (ho : SWithin o p) {i : Int} {sx sy fd : Sp} (he : starStep s o i sx sy fd = some o') : ∃ p', starStep r p i sx sy fd = some p' ∧ SWithin o' p' := by
  obtain ⟨h1, h2, h3, h4, h5, h6⟩ := ho
  unfold starStep at he ⊢
  by_cases hi : i = -1
  · rw [if_pos hi] at he ⊢
    cases he
    refine ⟨_, rfl, ?_⟩
    rw [h.limit]
    refine ⟨?_, ?_, ?_, ?_, ?_, ?_⟩ <;> dsimp only [Sp.meet] <;> omega
  · rw [if_neg hi] at he ⊢
    obtain ⟨⟨x1, x2⟩, ⟨y1, y2⟩, ⟨z1, z2⟩⟩ := h.sub i
    rw [h.limit]
    generalize s.at' i = a at *
    generalize r.at' i = b at *
    dsimp only [Sp.meet, Sp.less] at he ⊢
    have hnone : ∀ lo hi : Int, (Sp.none ⟨lo, hi⟩ = true) ↔ (hi < lo) := by simp [Sp.none]
    by_cases hne : Sp.none ⟨max a.s.lo s.limit, min a.s.hi 1000⟩ = true
    · rw [if_pos hne] at he
      cases he
    · rw [if_neg hne] at he
      cases he
      rw [hnone] at hne
      rw [if_neg (by rw [hnone]; omega)]
      refine ⟨_, rfl, ?_⟩
      refine ⟨?_, ?_, ?_, ?_, ?_, ?_⟩ <;> dsimp only <;> omega
theorem starEnd_some {o u : IStar} : starEnd o = some u ↔ o = u ∧ o.x.lo ≤ o.x.hi ∧ o.y.lo ≤ o.y.hi ∧ o.s.lo ≤ o.s.hi := by
  unfold starEnd Sp.none
  split
  · rename_i h; simp at h; simp; omega
  · rename_i h; simp at h; simp; omega
theorem star_wider {s r : ISheet} (h : Wider s r) {t : ITr} {u : IStar} (hu : s.star t = some u) : ∃ v, r.star t = some v ∧ SWithin u v := by
  unfold ISheet.star at hu ⊢
  dsimp only at hu ⊢
  rw [Option.bind_eq_some_iff] at hu
  obtain ⟨o1, h1, hu⟩ := hu
  rw [Option.bind_eq_some_iff] at hu
  obtain ⟨o2, h2, h3⟩ := hu
  have h0 : SWithin ⟨(s.at' t.a).x, (s.at' t.a).y, (s.at' t.a).s.meet ⟨s.limit, 1000⟩⟩ ⟨(r.at' t.a).x, (r.at' t.a).y, (r.at' t.a).s.meet ⟨r.limit, 1000⟩⟩ := by
    obtain ⟨⟨x1, x2⟩, ⟨y1, y2⟩, ⟨z1, z2⟩⟩ := h.sub t.a
    rw [h.limit]
    refine ⟨?_, ?_, ?_, ?_, ?_, ?_⟩ <;> dsimp only [Sp.meet] <;> omega
  obtain ⟨p1, k1, j1⟩ := starStep_wider h h0 h1
  obtain ⟨p2, k2, j2⟩ := starStep_wider h j1 h2
  obtain ⟨rfl, e1, e2, e3⟩ := starEnd_some.1 h3
  have := j2.xl; have := j2.xh; have := j2.yl; have := j2.yh; have := j2.sl; have := j2.sh
  rw [h.ax, h.ay, h.f, h.bx, h.by', h.g, k1, Option.bind_some, k2, Option.bind_some]
  exact ⟨p2, starEnd_some.2 ⟨rfl, by omega, by omega, by omega⟩, j2⟩
theorem wider_trails {s r : ISheet} (h : Wider s r) {t : ITr} (ht : t ∈ s.trails) : t ∈ r.trails := by
  obtain ⟨h1, h2⟩ := mem_trails.1 ht
  obtain ⟨u, hu⟩ := Option.isSome_iff_exists.1 h2
  obtain ⟨v, hv, _⟩ := star_wider h hu
  exact mem_trails.2 ⟨by rw [h.len]; exact h1, by rw [hv]; rfl⟩
theorem wider_goes {s r : ISheet} (h : Wider s r) {w : List ITr} (hw : Goes s.trails 0 0 w) : Goes r.trails 0 0 w := by
  obtain ⟨h1, h2⟩ := (goes_set w 0 0).1 hw
  exact (goes_set w 0 0).2 ⟨fun t ht => ⟨wider_trails h (h1 t ht).1, (h1 t ht).2⟩, h2⟩
theorem wider_needs {s r : ISheet} (hn : s.l.length ≤ 9) (h : Wider s r) : (tellN r.trails r.l.length r.l.length 0 0).flaws ≤ (tellN s.trails s.l.length s.l.length 0 0).flaws := by
  have h1 := needsAre (s := s) hn
  have h2 := needsAre (s := r) (by rw [h.len]; exact hn)
  obtain ⟨w, hw, e⟩ := h1.one
  have := h2.min w (wider_goes h hw)
  rw [h.len] at this ⊢
  omega
theorem wider_fits {s r : ISheet} (hs : s.ok = true) (hr : r.ok = true) (h : Wider s r) (t : ITr) : (itFits s t).2 = (itFits r t).2 ∧ ((itFits s t).1 = true → (itFits r t).1 = true) := by
  unfold itFits
  rw [hs, hr, if_pos rfl, if_pos rfl, h.len]
  split
  · refine ⟨rfl, fun hh => ?_⟩
    obtain ⟨u, hu⟩ := Option.isSome_iff_exists.1 (show (s.star t).isSome = true from hh)
    obtain ⟨v, hv, _⟩ := star_wider h hu
    show (r.star t).isSome = true
    rw [hv]; rfl
  · exact ⟨rfl, fun hh => hh⟩

/-- The image k is known less well. -/
def widenP (p : ISpot) (b : Nat) : ISpot := ⟨⟨max 0 (p.x.lo - (b % 4 : Nat)), min 1048576 (p.x.hi + (b / 4 % 4 : Nat))⟩, p.y, ⟨p.s.lo, min 1000 (p.s.hi + (b / 16 % 4 : Nat))⟩⟩
def widenS (s : ISheet) (k b : Nat) : ISheet := { s with l := s.l.set k (widenP (s.l.getD k noSpot) b) }
theorem widenP_sub {p : ISpot} (hp : p.ok = true) (b : Nat) : SpotSub p (widenP p b) ∧ (widenP p b).ok = true := by
  have h := (spot_iff p).1 hp
  unfold widenP
  refine ⟨⟨?_, ?_, ?_⟩, (spot_iff _).2 ?_⟩ <;> dsimp only <;> omega
theorem widenS_wider {s : ISheet} (hok : s.ok = true) (k b : Nat) : Wider s (widenS s k b) := by
  refine ⟨rfl, rfl, rfl, rfl, rfl, rfl, rfl, by simp [widenS], fun i => ?_⟩
  unfold ISheet.at' widenS
  rw [List.getD_eq_getElem?_getD, List.getD_eq_getElem?_getD]
  show SpotSub _ ((s.l.set k _)[i.toNat]?.getD noSpot)
  by_cases e : k = i.toNat
  · subst e
    by_cases hk : i.toNat < s.l.length
    · rw [List.getElem?_set_self hk]
      have : s.l.getD i.toNat noSpot = s.l[i.toNat]?.getD noSpot := List.getD_eq_getElem?_getD
      rw [this]
      exact (widenP_sub (by have := at_ok hok i; unfold ISheet.at' at this; rwa [List.getD_eq_getElem?_getD] at this) b).1
    · rw [List.getElem?_eq_none (by simpa using hk), List.getElem?_eq_none (by simpa using hk)]
      exact SpotSub.refl _
  · rw [List.getElem?_set_ne e]
    exact SpotSub.refl _
theorem widenS_ok {s : ISheet} (hok : s.ok = true) (k b : Nat) (hk : k < s.l.length) : (widenS s k b).ok = true := by
  obtain ⟨h1, h2, h3, h4, h5, h6, h7, h8, h9, h10⟩ := (iok_iff s).1 hok
  refine (iok_iff _).2 ⟨h1, h2, h3, h4, h5, h6, ?_, h8, h9, by simpa [widenS] using h10⟩
  rw [List.all_eq_true] at h7 ⊢
  intro p hp
  rcases List.mem_or_eq_of_mem_set hp with hp | rfl
  · exact h7 p hp
  · refine (widenP_sub (h7 _ ?_) b).2
    rw [List.getD_eq_getElem?_getD, List.getElem?_eq_getElem hk]
    exact List.getElem_mem hk
end Go.Proofs.Ytacioedolmaofaa
namespace Go.Proofs.Ytacioedolmaofaa
open Go.RowKit Go.Shelf
set_option maxHeartbeats 12800000
set_option maxRecDepth 100000
set_option linter.unusedSimpArgs false
set_option linter.unusedVariables false

theorem lmore_loop (s : ISheet) (fa : Option Addr) (fc p q9 : Nat) (FX : Int) (w : World) {z0 z1 z2 z3 z5 z6 z7 z10 z11 z12 z13 z14 z15 z16 z17 z18 z19 z20 z21 z22 z23 z24 z25 z26 z27 z28 z29 z39 z40 z41 z42 z43 z44 z45 z46 z47 z48 z49 z50 z51 z52 z53 z54 z55 z56 z57 z58 z59 z60 z61 z62 z63 z64 z65 z66 z67 z68 z69 z70 z71 z72 z73 z74 z75 z76 z77 z78 z79 z80 z81 z82 z83 z84 z85 z86 z87 z88 z89 z90 z91 z92 z93 z94 z95 z96 z97 z98 z99 z100 z101 z102 z103 z104 z105 z106 z107 z108 z109 z110 z111 z112 z113 z114 z115 z116 z117 z118 z119 z120 z121 z122 z123 z124 z125 z126 z127 z128 z129 z130 z131 z132 z133 z134 z135 z136 z137 z138 z139 z140 z141 z142 z143 z144 z145 z146 z147 z148 z149 z150 z151 z152 z153 z154 z155 z156 z157 z158 z159 z160 z161 z162 z163 z164 z165 z166 z167 z168 z169 z170 z171 z172 z173 z174 z175 z176 z177 z178 z179 z180 z181 z182 z183 z184 z185 z186 z187 z188 z189 z190 z191 z192 z193 z194 z195 z196 z197 z198 z199 z200 z201 z202 z203 z204 z205 z206 z207 z208 z209 z210 z211 z212 z213 z214 z215 z216 z217 z218 z290 : Value} {z8 z30 z31 z32 z33 z34 z35 z36 z37 z38 z219 z220 z221 z222 z223 z224 z225 z226 z227 z228 z229 z230 z231 z232 z233 z234 z235 z236 z237 z238 z239 z240 z241 z242 z243 z244 z245 z246 z247 z248 z249 z250 z251 z252 z253 z254 z255 z256 z257 z258 z259 z260 z261 z262 z263 z264 z265 z266 z267 z268 z269 z270 z271 z272 z273 z274 z275 z276 z277 z278 z279 z280 z281 z282 z283 z284 z285 z286 z287 z288 z289 : Value} (HLEN : Hid (s.l.length < 9223372036854775807)) (hn : s.l.length ≤ 9) (HIM : Hid (∀ W, Below w.heap.size w W → ImSl W fa s.l)) (HG : Hid (w.heap[p]? = some (.cells #[.int .i64 s.ax.lo, .int .i64 s.ax.hi, .int .i64 s.ay.lo, .int .i64 s.ay.hi, .int .i64 s.bx.lo, .int .i64 s.bx.hi, .int .i64 s.by'.lo, .int .i64 s.by'.hi, .int .i64 s.f.lo, .int .i64 s.f.hi, .int .i64 s.g.lo, .int .i64 s.g.hi, .int .i64 s.limit, .int .i64 s.flaws, .slice fa s.l.length fc] 30))) (HG9 : Hid (w.heap[q9]? = some (.cells #[.int .i64 s.ax.lo, .int .i64 s.ax.hi, .int .i64 s.ay.lo, .int .i64 s.ay.hi, .int .i64 s.bx.lo, .int .i64 s.bx.hi, .int .i64 s.by'.lo, .int .i64 s.by'.hi, .int .i64 s.f.lo, .int .i64 s.f.hi, .int .i64 s.g.lo, .int .i64 s.g.hi, .int .i64 s.limit, .int .i64 FX, .slice fa s.l.length fc] 30)))
    (HWH : Hid (∀ k : Nat, k < s.l.length → itWhere s (k : Int) = (whereTo s (k : Int) s.trails.length, if (whereTo s (k : Int) s.trails.length).isSome then 0 else 4)))
    (HWM : Hid (∀ k : Nat, k < s.l.length → itWhere (s.withF FX) (k : Int) = (whereTo (s.withF FX) (k : Int) s.trails.length, if (whereTo (s.withF FX) (k : Int) s.trails.length).isSome then 0 else 4)))
    (HAT : Hid (∀ (i : Int) (u : IStar), whereTo s i s.trails.length = some u → ∃ v, whereTo (s.withF FX) i s.trails.length = some v ∧ SWithin u v)) (K1 K : Act → World → Prop) (Q : Exit → Act → World → Prop)
    (hK1 : ∀ a w', Code.wp Try.prog (sndC' ((Try.f9.body.bind (findSt 25)).getD .skip)) (Exit.then K Q) a w' → K1 a w')
    (hfin : ∀ (s8 s30 s31 s32 s33 s34 s35 s36 s37 s38 s219 s220 s221 s222 s223 s224 s225 s226 s227 s228 s229 s230 s231 s232 s233 s234 s235 s236 s237 s238 s239 s240 s241 s242 s243 s244 s245 s246 s247 s248 s249 s250 s251 s252 s253 s254 s255 s256 s257 s258 s259 s260 s261 s262 s263 s264 s265 s266 s267 s268 s269 s270 s271 s272 s273 s274 s275 s276 s277 s278 s279 s280 s281 s282 s283 s284 s285 s286 s287 s288 s289 : Value) (w3 : World), Below w.heap.size w w3 → K ⟨(z0::z1::z2::z3::(.pointer (some ⟨p, 0, none⟩))::z5::z6::z7::s8::(.pointer (some ⟨q9, 0, none⟩))::z10::z11::z12::z13::z14::z15::z16::z17::z18::z19::z20::z21::z22::z23::z24::z25::z26::z27::z28::z29::s30::s31::s32::s33::s34::s35::s36::s37::s38::z39::z40::z41::z42::z43::z44::z45::z46::z47::z48::z49::z50::z51::z52::z53::z54::z55::z56::z57::z58::z59::z60::z61::z62::z63::z64::z65::z66::z67::z68::z69::z70::z71::z72::z73::z74::z75::z76::z77::z78::z79::z80::z81::z82::z83::z84::z85::z86::z87::z88::z89::z90::z91::z92::z93::z94::z95::z96::z97::z98::z99::z100::z101::z102::z103::z104::z105::z106::z107::z108::z109::z110::z111::z112::z113::z114::z115::z116::z117::z118::z119::z120::z121::z122::z123::z124::z125::z126::z127::z128::z129::z130::z131::z132::z133::z134::z135::z136::z137::z138::z139::z140::z141::z142::z143::z144::z145::z146::z147::z148::z149::z150::z151::z152::z153::z154::z155::z156::z157::z158::z159::z160::z161::z162::z163::z164::z165::z166::z167::z168::z169::z170::z171::z172::z173::z174::z175::z176::z177::z178::z179::z180::z181::z182::z183::z184::z185::z186::z187::z188::z189::z190::z191::z192::z193::z194::z195::z196::z197::z198::z199::z200::z201::z202::z203::z204::z205::z206::z207::z208::z209::z210::z211::z212::z213::z214::z215::z216::z217::z218::s219::s220::s221::s222::s223::s224::s225::s226::s227::s228::s229::s230::s231::s232::s233::s234::s235::s236::s237::s238::s239::s240::s241::s242::s243::s244::s245::s246::s247::s248::s249::s250::s251::s252::s253::s254::s255::s256::s257::s258::s259::s260::s261::s262::s263::s264::s265::s266::s267::s268::s269::s270::s271::s272::s273::s274::s275::s276::s277::s278::s279::s280::s281::s282::s283::s284::s285::s286::s287::s288::s289::z290 :: []).toArray, []⟩ w3) :
    Code.wp Try.prog (fstC' ((Try.f9.body.bind (findSt 25)).getD .skip)) (Exit.then K1 (Exit.then K Q)) ⟨(z0::z1::z2::z3::(.pointer (some ⟨p, 0, none⟩))::z5::z6::z7::z8::(.pointer (some ⟨q9, 0, none⟩))::z10::z11::z12::z13::z14::z15::z16::z17::z18::z19::z20::z21::z22::z23::z24::z25::z26::z27::z28::z29::z30::z31::z32::z33::z34::z35::z36::z37::z38::z39::z40::z41::z42::z43::z44::z45::z46::z47::z48::z49::z50::z51::z52::z53::z54::z55::z56::z57::z58::z59::z60::z61::z62::z63::z64::z65::z66::z67::z68::z69::z70::z71::z72::z73::z74::z75::z76::z77::z78::z79::z80::z81::z82::z83::z84::z85::z86::z87::z88::z89::z90::z91::z92::z93::z94::z95::z96::z97::z98::z99::z100::z101::z102::z103::z104::z105::z106::z107::z108::z109::z110::z111::z112::z113::z114::z115::z116::z117::z118::z119::z120::z121::z122::z123::z124::z125::z126::z127::z128::z129::z130::z131::z132::z133::z134::z135::z136::z137::z138::z139::z140::z141::z142::z143::z144::z145::z146::z147::z148::z149::z150::z151::z152::z153::z154::z155::z156::z157::z158::z159::z160::z161::z162::z163::z164::z165::z166::z167::z168::z169::z170::z171::z172::z173::z174::z175::z176::z177::z178::z179::z180::z181::z182::z183::z184::z185::z186::z187::z188::z189::z190::z191::z192::z193::z194::z195::z196::z197::z198::z199::z200::z201::z202::z203::z204::z205::z206::z207::z208::z209::z210::z211::z212::z213::z214::z215::z216::z217::z218::z219::z220::z221::z222::z223::z224::z225::z226::z227::z228::z229::z230::z231::z232::z233::z234::z235::z236::z237::z238::z239::z240::z241::z242::z243::z244::z245::z246::z247::z248::z249::z250::z251::z252::z253::z254::z255::z256::z257::z258::z259::z260::z261::z262::z263::z264::z265::z266::z267::z268::z269::z270::z271::z272::z273::z274::z275::z276::z277::z278::z279::z280::z281::z282::z283::z284::z285::z286::z287::z288::z289::z290 :: []).toArray, []⟩ w := by
  have HFIN := Lib.hid hfin
  have hni : (s.l.length : Int) ≤ 9 := by omega
  clear hfin
  have cz := fun k => cell_block HG.out k
  have e0 := cz 0
  have e1 := cz 1
  have e2 := cz 2
  have e3 := cz 3
  have e4 := cz 4
  have e5 := cz 5
  have e6 := cz 6
  have e7 := cz 7
  have e8 := cz 8
  have e9 := cz 9
  have e10 := cz 10
  have e11 := cz 11
  have e12 := cz 12
  have e13 := cz 13
  have e14 := cz 14
  clear cz
  simp only [gA, gB, gC] at e0 e1 e2 e3 e4 e5 e6 e7 e8 e9 e10 e11 e12 e13 e14
  conv => arg 2; whnf
  conv at hK1 => enter [a, w', 1, 2]; whnf
  go_wp2_with fail
  clear e0 e1 e2 e3 e4 e5 e6 e7 e8 e9 e10 e11 e12 e13 e14
  go_loopw [222] (fun u wr => ∃ k : Nat, k ≤ s.l.length ∧ u = .int .i64 k ∧ Below w.heap.size w wr) (fun u _ => s.l.length - (intOf u).toNat)
  case atStart => exact ⟨0, Nat.zero_le _, rfl, Below.refl _ _⟩
  case round =>
    obtain ⟨k, hk, rfl, hb⟩ := hrel
    have HBX := Lib.hid hb
    have hg := obj_later hb HG.out
    have h9 := obj_later hb HG9.out
    clear hb
    by_cases hlt : k < s.l.length
    · have hki : (k : Int) < s.l.length := by omega
      have cz := fun k => cell_block hg k
      have e0 := cz 0
      have e1 := cz 1
      have e2 := cz 2
      have e3 := cz 3
      have e4 := cz 4
      have e5 := cz 5
      have e6 := cz 6
      have e7 := cz 7
      have e8 := cz 8
      have e9 := cz 9
      have e10 := cz 10
      have e11 := cz 11
      have e12 := cz 12
      have e13 := cz 13
      have e14 := cz 14
      clear cz
      simp only [gA, gB, gC] at e0 e1 e2 e3 e4 e5 e6 e7 e8 e9 e10 e11 e12 e13 e14
      have hwh := iWhere_any s fa fc (k : Int) wr (HIM.out wr HBX.out) HLEN.out (by omega)
      rw [HWH.out k hlt] at hwh
      have hni9 : (s.l.length : Int) ≤ 9000000 := by omega
      have HWC := Lib.hid hwh
      clear hwh
      go_wp2_with fail
      refine HWC.out.mono ?_
      clear HWC
      rintro e w2 ⟨he, hb2⟩
      have HB2 := Lib.hid (HBX.out.trans (hb2.mono HBX.out.size))
      have h92 := obj_later hb2 h9
      clear hb2 hg h9
      clear e0 e1 e2 e3 e4 e5 e6 e7 e8 e9 e10 e11 e12 e13 e14
      cases hwk : whereTo s (k : Int) s.trails.length with
      | none =>
        rw [hwk] at he
        unfold whereV at he
        simp only [Option.isSome_none, Bool.false_eq_true, if_false] at he
        subst he
        go_upto_region 29 with fail
        obtain ⟨W3, hW3⟩ : ∃ W, (((w2.alloc (.cells #[.int .i64 0, .int .i64 0] 23)).alloc (.cells #[.int .i64 0, .int .i64 0] 23)).alloc (.cells #[.int .i64 0, .int .i64 0] 23)) = W := ⟨_, rfl⟩
        rw [hW3]
        try simp only [Nat.add_assoc, Nat.reduceAdd]
        have hst_W3 : Steps (fun _ => False) w2 W3 := by rw [← hW3]; exact ((Steps.alloc _ w2 _).trans (Steps.alloc (fun _ => False) _ _) (fun _ _ h => h)).trans (Steps.alloc (fun _ => False) _ _) (fun _ _ h => h)
        have hz_W3 : W3.heap.size = w2.heap.size + 3 := by rw [← hW3]; simp
        have g0_W3 : W3.heap[w2.heap.size]? = some (.cells #[.int .i64 0, .int .i64 0] 23) := by rw [← hW3]; simp only [alloc_get, World.size_alloc]; repeat (first | exact if_pos trivial | exact if_pos (by omega) | rw [if_neg (by omega)])
        have g1_W3 : W3.heap[w2.heap.size + 1]? = some (.cells #[.int .i64 0, .int .i64 0] 23) := by rw [← hW3]; simp only [alloc_get, World.size_alloc]; repeat (first | exact if_pos trivial | exact if_pos (by omega) | rw [if_neg (by omega)])
        have g2_W3 : W3.heap[w2.heap.size + 2]? = some (.cells #[.int .i64 0, .int .i64 0] 23) := by rw [← hW3]; simp only [alloc_get, World.size_alloc]; repeat (first | exact if_pos trivial | exact if_pos (by omega) | rw [if_neg (by omega)])
        clear hW3
        have hba := hst_W3.below (Nat.le_refl _) (fun _ _ h => h)
        have a0 := g0_W3
        have a1 := g1_W3
        have a2 := g2_W3
        obtain ⟨qa, hqa⟩ : ∃ q, w2.heap.size = q := ⟨_, rfl⟩
        rw [hqa] at a0 a1 a2 ⊢
        clear hst_W3 hz_W3 g0_W3 g1_W3 g2_W3 hqa
        have HB3 := Lib.hid (HB2.out.trans (hba.mono HB2.out.size))
        have h93 := obj_later hba h92
        clear hba
        have cz := fun k => cell_block h93 k
        have r0 := cz 0
        have r1 := cz 1
        have r2 := cz 2
        have r3 := cz 3
        have r4 := cz 4
        have r5 := cz 5
        have r6 := cz 6
        have r7 := cz 7
        have r8 := cz 8
        have r9 := cz 9
        have r10 := cz 10
        have r11 := cz 11
        have r12 := cz 12
        have r13 := cz 13
        have r14 := cz 14
        clear cz
        simp only [gA, gB, gC] at r0 r1 r2 r3 r4 r5 r6 r7 r8 r9 r10 r11 r12 r13 r14
        have hwm := iWhere_any (s.withF FX) fa fc (k : Int) W3 (HIM.out W3 HB3.out) HLEN.out hni9
        rw [HWM.out k hlt] at hwm
        have HWC2 := Lib.hid hwm
        clear hwm
        go_wp2_with fail
        refine HWC2.out.mono ?_
        clear HWC2
        rintro e w4 ⟨he, hb4⟩
        have HB4 := Lib.hid (HB3.out.trans (hb4.mono HB3.out.size))
        replace a0 := obj_later hb4 a0
        replace a1 := obj_later hb4 a1
        replace a2 := obj_later hb4 a2
        clear hb4 h93
        clear r0 r1 r2 r3 r4 r5 r6 r7 r8 r9 r10 r11 r12 r13 r14
        cases hwx : whereTo (s.withF FX) (k : Int) s.trails.length with
        | none =>
          rw [hwx] at he
          unfold whereV at he
          simp only [Option.isSome_none, Bool.false_eq_true, if_false] at he
          subst he
          go_upto_region 30 with fail
          obtain ⟨W5, hW5⟩ : ∃ W, (((w4.alloc (.cells #[.int .i64 0, .int .i64 0] 23)).alloc (.cells #[.int .i64 0, .int .i64 0] 23)).alloc (.cells #[.int .i64 0, .int .i64 0] 23)) = W := ⟨_, rfl⟩
          rw [hW5]
          try simp only [Nat.add_assoc, Nat.reduceAdd]
          have hst_W5 : Steps (fun _ => False) w4 W5 := by rw [← hW5]; exact ((Steps.alloc _ w4 _).trans (Steps.alloc (fun _ => False) _ _) (fun _ _ h => h)).trans (Steps.alloc (fun _ => False) _ _) (fun _ _ h => h)
          have hz_W5 : W5.heap.size = w4.heap.size + 3 := by rw [← hW5]; simp
          have g0_W5 : W5.heap[w4.heap.size]? = some (.cells #[.int .i64 0, .int .i64 0] 23) := by rw [← hW5]; simp only [alloc_get, World.size_alloc]; repeat (first | exact if_pos trivial | exact if_pos (by omega) | rw [if_neg (by omega)])
          have g1_W5 : W5.heap[w4.heap.size + 1]? = some (.cells #[.int .i64 0, .int .i64 0] 23) := by rw [← hW5]; simp only [alloc_get, World.size_alloc]; repeat (first | exact if_pos trivial | exact if_pos (by omega) | rw [if_neg (by omega)])
          have g2_W5 : W5.heap[w4.heap.size + 2]? = some (.cells #[.int .i64 0, .int .i64 0] 23) := by rw [← hW5]; simp only [alloc_get, World.size_alloc]; repeat (first | exact if_pos trivial | exact if_pos (by omega) | rw [if_neg (by omega)])
          clear hW5
          have hbb := hst_W5.below (Nat.le_refl _) (fun _ _ h => h)
          have b0 := g0_W5
          have b1 := g1_W5
          have b2 := g2_W5
          obtain ⟨qb, hqb⟩ : ∃ q, w4.heap.size = q := ⟨_, rfl⟩
          rw [hqb] at b0 b1 b2 ⊢
          clear hst_W5 hz_W5 g0_W5 g1_W5 g2_W5 hqb
          have HB5 := Lib.hid (HB4.out.trans (hbb.mono HB4.out.size))
          replace a0 := obj_later hbb a0
          replace a1 := obj_later hbb a1
          replace a2 := obj_later hbb a2
          clear hbb
          have m00 := cell_block a0 0
          have m01 := cell_block a0 1
          have m10 := cell_block a1 0
          have m11 := cell_block a1 1
          have m20 := cell_block a2 0
          have m21 := cell_block a2 1
          simp only [gA, gB, gC] at m00 m01 m10 m11 m20 m21
          have n00 := cell_block b0 0
          have n01 := cell_block b0 1
          have n10 := cell_block b1 0
          have n11 := cell_block b1 1
          have n20 := cell_block b2 0
          have n21 := cell_block b2 1
          simp only [gA, gB, gC] at n00 n01 n10 n11 n20 n21
          go_wp2_with fail
          go_roundw
          case rel => exact ⟨k + 1, by omega, by go_num, HB5.out⟩
          case measure => simp [intOf]; omega
        | some v =>
          rw [hwx] at he
          unfold whereV at he
          simp only [Option.isSome_some, if_true] at he
          subst he
          go_upto_region 30 with fail
          obtain ⟨W5, hW5⟩ : ∃ W, (((w4.alloc (.cells #[.int .i64 v.x.lo, .int .i64 v.x.hi] 23)).alloc (.cells #[.int .i64 v.y.lo, .int .i64 v.y.hi] 23)).alloc (.cells #[.int .i64 v.s.lo, .int .i64 v.s.hi] 23)) = W := ⟨_, rfl⟩
          rw [hW5]
          try simp only [Nat.add_assoc, Nat.reduceAdd]
          have hst_W5 : Steps (fun _ => False) w4 W5 := by rw [← hW5]; exact ((Steps.alloc _ w4 _).trans (Steps.alloc (fun _ => False) _ _) (fun _ _ h => h)).trans (Steps.alloc (fun _ => False) _ _) (fun _ _ h => h)
          have hz_W5 : W5.heap.size = w4.heap.size + 3 := by rw [← hW5]; simp
          have g0_W5 : W5.heap[w4.heap.size]? = some (.cells #[.int .i64 v.x.lo, .int .i64 v.x.hi] 23) := by rw [← hW5]; simp only [alloc_get, World.size_alloc]; repeat (first | exact if_pos trivial | exact if_pos (by omega) | rw [if_neg (by omega)])
          have g1_W5 : W5.heap[w4.heap.size + 1]? = some (.cells #[.int .i64 v.y.lo, .int .i64 v.y.hi] 23) := by rw [← hW5]; simp only [alloc_get, World.size_alloc]; repeat (first | exact if_pos trivial | exact if_pos (by omega) | rw [if_neg (by omega)])
          have g2_W5 : W5.heap[w4.heap.size + 2]? = some (.cells #[.int .i64 v.s.lo, .int .i64 v.s.hi] 23) := by rw [← hW5]; simp only [alloc_get, World.size_alloc]; repeat (first | exact if_pos trivial | exact if_pos (by omega) | rw [if_neg (by omega)])
          clear hW5
          have hbb := hst_W5.below (Nat.le_refl _) (fun _ _ h => h)
          have b0 := g0_W5
          have b1 := g1_W5
          have b2 := g2_W5
          obtain ⟨qb, hqb⟩ : ∃ q, w4.heap.size = q := ⟨_, rfl⟩
          rw [hqb] at b0 b1 b2 ⊢
          clear hst_W5 hz_W5 g0_W5 g1_W5 g2_W5 hqb
          have HB5 := Lib.hid (HB4.out.trans (hbb.mono HB4.out.size))
          replace a0 := obj_later hbb a0
          replace a1 := obj_later hbb a1
          replace a2 := obj_later hbb a2
          clear hbb
          have m00 := cell_block a0 0
          have m01 := cell_block a0 1
          have m10 := cell_block a1 0
          have m11 := cell_block a1 1
          have m20 := cell_block a2 0
          have m21 := cell_block a2 1
          simp only [gA, gB, gC] at m00 m01 m10 m11 m20 m21
          have n00 := cell_block b0 0
          have n01 := cell_block b0 1
          have n10 := cell_block b1 0
          have n11 := cell_block b1 1
          have n20 := cell_block b2 0
          have n21 := cell_block b2 1
          simp only [gA, gB, gC] at n00 n01 n10 n11 n20 n21
          go_wp2_with fail
          go_roundw
          case rel => exact ⟨k + 1, by omega, by go_num, HB5.out⟩
          case measure => simp [intOf]; omega
      | some u =>
        rw [hwk] at he
        unfold whereV at he
        simp only [Option.isSome_some, if_true] at he
        subst he
        go_upto_region 29 with fail
        obtain ⟨W3, hW3⟩ : ∃ W, (((w2.alloc (.cells #[.int .i64 u.x.lo, .int .i64 u.x.hi] 23)).alloc (.cells #[.int .i64 u.y.lo, .int .i64 u.y.hi] 23)).alloc (.cells #[.int .i64 u.s.lo, .int .i64 u.s.hi] 23)) = W := ⟨_, rfl⟩
        rw [hW3]
        try simp only [Nat.add_assoc, Nat.reduceAdd]
        have hst_W3 : Steps (fun _ => False) w2 W3 := by rw [← hW3]; exact ((Steps.alloc _ w2 _).trans (Steps.alloc (fun _ => False) _ _) (fun _ _ h => h)).trans (Steps.alloc (fun _ => False) _ _) (fun _ _ h => h)
        have hz_W3 : W3.heap.size = w2.heap.size + 3 := by rw [← hW3]; simp
        have g0_W3 : W3.heap[w2.heap.size]? = some (.cells #[.int .i64 u.x.lo, .int .i64 u.x.hi] 23) := by rw [← hW3]; simp only [alloc_get, World.size_alloc]; repeat (first | exact if_pos trivial | exact if_pos (by omega) | rw [if_neg (by omega)])
        have g1_W3 : W3.heap[w2.heap.size + 1]? = some (.cells #[.int .i64 u.y.lo, .int .i64 u.y.hi] 23) := by rw [← hW3]; simp only [alloc_get, World.size_alloc]; repeat (first | exact if_pos trivial | exact if_pos (by omega) | rw [if_neg (by omega)])
        have g2_W3 : W3.heap[w2.heap.size + 2]? = some (.cells #[.int .i64 u.s.lo, .int .i64 u.s.hi] 23) := by rw [← hW3]; simp only [alloc_get, World.size_alloc]; repeat (first | exact if_pos trivial | exact if_pos (by omega) | rw [if_neg (by omega)])
        clear hW3
        have hba := hst_W3.below (Nat.le_refl _) (fun _ _ h => h)
        have a0 := g0_W3
        have a1 := g1_W3
        have a2 := g2_W3
        obtain ⟨qa, hqa⟩ : ∃ q, w2.heap.size = q := ⟨_, rfl⟩
        rw [hqa] at a0 a1 a2 ⊢
        clear hst_W3 hz_W3 g0_W3 g1_W3 g2_W3 hqa
        have HB3 := Lib.hid (HB2.out.trans (hba.mono HB2.out.size))
        have h93 := obj_later hba h92
        clear hba
        have cz := fun k => cell_block h93 k
        have r0 := cz 0
        have r1 := cz 1
        have r2 := cz 2
        have r3 := cz 3
        have r4 := cz 4
        have r5 := cz 5
        have r6 := cz 6
        have r7 := cz 7
        have r8 := cz 8
        have r9 := cz 9
        have r10 := cz 10
        have r11 := cz 11
        have r12 := cz 12
        have r13 := cz 13
        have r14 := cz 14
        clear cz
        simp only [gA, gB, gC] at r0 r1 r2 r3 r4 r5 r6 r7 r8 r9 r10 r11 r12 r13 r14
        have hwm := iWhere_any (s.withF FX) fa fc (k : Int) W3 (HIM.out W3 HB3.out) HLEN.out hni9
        rw [HWM.out k hlt] at hwm
        have HWC2 := Lib.hid hwm
        clear hwm
        go_wp2_with fail
        refine HWC2.out.mono ?_
        clear HWC2
        rintro e w4 ⟨he, hb4⟩
        have HB4 := Lib.hid (HB3.out.trans (hb4.mono HB3.out.size))
        replace a0 := obj_later hb4 a0
        replace a1 := obj_later hb4 a1
        replace a2 := obj_later hb4 a2
        clear hb4 h93
        clear r0 r1 r2 r3 r4 r5 r6 r7 r8 r9 r10 r11 r12 r13 r14
        obtain ⟨v, hwx, hvw⟩ := HAT.out (k : Int) u hwk
        obtain ⟨v1, v2, v3, v4, v5, v6⟩ := hvw
        rw [hwx] at he
        unfold whereV at he
        simp only [Option.isSome_some, if_true] at he
        subst he
        clear hwx hwk
        go_upto_region 30 with fail
        obtain ⟨W5, hW5⟩ : ∃ W, (((w4.alloc (.cells #[.int .i64 v.x.lo, .int .i64 v.x.hi] 23)).alloc (.cells #[.int .i64 v.y.lo, .int .i64 v.y.hi] 23)).alloc (.cells #[.int .i64 v.s.lo, .int .i64 v.s.hi] 23)) = W := ⟨_, rfl⟩
        rw [hW5]
        try simp only [Nat.add_assoc, Nat.reduceAdd]
        have hst_W5 : Steps (fun _ => False) w4 W5 := by rw [← hW5]; exact ((Steps.alloc _ w4 _).trans (Steps.alloc (fun _ => False) _ _) (fun _ _ h => h)).trans (Steps.alloc (fun _ => False) _ _) (fun _ _ h => h)
        have hz_W5 : W5.heap.size = w4.heap.size + 3 := by rw [← hW5]; simp
        have g0_W5 : W5.heap[w4.heap.size]? = some (.cells #[.int .i64 v.x.lo, .int .i64 v.x.hi] 23) := by rw [← hW5]; simp only [alloc_get, World.size_alloc]; repeat (first | exact if_pos trivial | exact if_pos (by omega) | rw [if_neg (by omega)])
        have g1_W5 : W5.heap[w4.heap.size + 1]? = some (.cells #[.int .i64 v.y.lo, .int .i64 v.y.hi] 23) := by rw [← hW5]; simp only [alloc_get, World.size_alloc]; repeat (first | exact if_pos trivial | exact if_pos (by omega) | rw [if_neg (by omega)])
        have g2_W5 : W5.heap[w4.heap.size + 2]? = some (.cells #[.int .i64 v.s.lo, .int .i64 v.s.hi] 23) := by rw [← hW5]; simp only [alloc_get, World.size_alloc]; repeat (first | exact if_pos trivial | exact if_pos (by omega) | rw [if_neg (by omega)])
        clear hW5
        have hbb := hst_W5.below (Nat.le_refl _) (fun _ _ h => h)
        have b0 := g0_W5
        have b1 := g1_W5
        have b2 := g2_W5
        obtain ⟨qb, hqb⟩ : ∃ q, w4.heap.size = q := ⟨_, rfl⟩
        rw [hqb] at b0 b1 b2 ⊢
        clear hst_W5 hz_W5 g0_W5 g1_W5 g2_W5 hqb
        have HB5 := Lib.hid (HB4.out.trans (hbb.mono HB4.out.size))
        replace a0 := obj_later hbb a0
        replace a1 := obj_later hbb a1
        replace a2 := obj_later hbb a2
        clear hbb
        have m00 := cell_block a0 0
        have m01 := cell_block a0 1
        have m10 := cell_block a1 0
        have m11 := cell_block a1 1
        have m20 := cell_block a2 0
        have m21 := cell_block a2 1
        simp only [gA, gB, gC] at m00 m01 m10 m11 m20 m21
        have n00 := cell_block b0 0
        have n01 := cell_block b0 1
        have n10 := cell_block b1 0
        have n11 := cell_block b1 1
        have n20 := cell_block b2 0
        have n21 := cell_block b2 1
        simp only [gA, gB, gC] at n00 n01 n10 n11 n20 n21
        go_wp2_with fail
        go_roundw
        case rel => exact ⟨k + 1, by omega, by go_num, HB5.out⟩
        case measure => simp [intOf]; omega
    · obtain rfl : k = s.l.length := by omega
      clear hg h9
      go_wp2_with fail
      exact HFIN.out _ _ _ _ _ _ _ _ _ _ _ _ _ _ _ _ _ _ _ _ _ _ _ _ _ _ _ _ _ _ _ _ _ _ _ _ _ _ _ _ _ _ _ _ _ _ _ _ _ _ _ _ _ _ _ _ _ _ _ _ _ _ _ _ _ _ _ _ _ _ _ _ _ _ _ _ _ _ _ _ _ _ HBX.out
end Go.Proofs.Ytacioedolmaofaa
namespace Go.Proofs.Ytacioedolmaofaa
open Go.RowKit Go.Shelf
set_option maxHeartbeats 12800000
set_option maxRecDepth 100000
set_option linter.unusedSimpArgs false
set_option linter.unusedVariables false

/-- What ImageMore asks. -/
structure MoreIs (s : ISheet) (F : Int) (k b : Nat) (t : ITr) : Prop where
  ok : (s.withF F).ok = true
  okw : (widenS s k b).ok = true
  many : (wayTold s).many ≤ (wayTold (s.withF F)).many
  needs : (tellN (widenS s k b).trails (widenS s k b).l.length (widenS s k b).l.length 0 0).flaws ≤ (tellN s.trails s.l.length s.l.length 0 0).flaws
  fits : (itFits s t).2 = (itFits (widenS s k b) t).2 ∧ ((itFits s t).1 = true → (itFits (widenS s k b) t).1 = true)
  stars : (wayTold s).many ≠ 0 → tStars (s.withF F) &&& (18446744073709551615 - tStars s) = 0
  flaws : (wayTold s).many ≠ 0 → tFlaws (s.withF F) &&& (18446744073709551615 - tFlaws s) = 0
  at' : ∀ (i : Int) (u : IStar), whereTo s i s.trails.length = some u → ∃ v, whereTo (s.withF F) i s.trails.length = some v ∧ SWithin u v
theorem andN_zero {c a n : Nat} (hn : n ≤ 9) (ha : a < 2 ^ 64) (hc : c < 2 ^ n) (h : ∀ k, c.testBit k = true → a.testBit k = true) : c &&& (18446744073709551615 - a) = 0 := by
  rw [and_zero_iff]
  intro k hk
  have hkn : k < 64 := by
    by_cases h1 : k < 64
    · exact h1
    · have : c < 2 ^ k := Nat.lt_of_lt_of_le hc (Nat.pow_le_pow_right (by omega) (by omega))
      rw [Nat.testBit_lt_two_pow this] at hk
      cases hk
  have e : 18446744073709551615 - a = 2 ^ 64 - (a + 1) := by omega
  rw [e, Nat.testBit_two_pow_sub_succ ha, h k hk]
  simp
theorem moreIs {s : ISheet} (hok : s.ok = true) {F : Int} (hF : s.flaws ≤ F) (h9 : F ≤ 9) (k b : Nat) (hk : k < s.l.length) (t : ITr) : MoreIs s F k b t := by
  have hn : s.l.length ≤ 9 := ((iok_iff s).1 hok).2.2.2.2.2.2.2.2.2
  have h0 := ((iok_iff s).1 hok).2.2.2.2.2.2.2.2.1
  have hw := widenS_wider hok k b
  have h2 : 2 ^ s.l.length ≤ 2 ^ 9 := Nat.pow_le_pow_right (by omega) hn
  have hlt : ∀ r : ISheet, r.ok = true → r.l.length = s.l.length → (wayTold r).many ≠ 0 → tStars r < 2 ^ s.l.length ∧ tFlaws r < 2 ^ s.l.length := fun r hr hl hm => by
    have hT := tellIs hr hm
    rw [← hl]
    exact ⟨bits_lt fun k hk => ((hT.stars k).1 hk).1, bits_lt fun k hk => ((hT.flaws k).1 hk).1⟩
  have hmm := withF_count hn hF
  refine ⟨withF_ok hok (by omega) h9, widenS_ok hok k b hk, hmm, wider_needs hn hw, wider_fits hok (widenS_ok hok k b hk) hw t, fun hm => ?_, fun hm => ?_, fun i u hu => withF_where hok hF hu⟩
  · have a := hlt s hok rfl hm
    have c := hlt (s.withF F) (withF_ok hok (by omega) h9) rfl (by omega)
    exact andN_zero hn (by omega) c.1 (withF_tell hok hF h9 hm).1
  · have a := hlt s hok rfl hm
    have c := hlt (s.withF F) (withF_ok hok (by omega) h9) rfl (by omega)
    exact andN_zero hn (by omega) c.2 (withF_tell hok hF h9 hm).2

theorem lmore_told (s : ISheet) (fa : Option Addr) (fc p q9 k b : Nat) (FX : Int) (t : ITr) (w wz : World) {z0 z1 z2 z3 z5 z6 z7 z8 z10 z11 z12 z13 z14 z15 z16 z17 z18 z19 z20 z21 z22 z23 z24 z25 z26 z27 z28 z29 z30 z31 z32 z33 z34 z35 z36 z37 z38 z39 z40 z41 z42 z43 z44 z45 z46 z47 z48 z49 z50 z51 z52 z53 z54 z55 z56 z57 z58 z59 z60 z61 z62 z63 z64 z65 z66 z67 z68 z69 z70 z71 z72 z73 z74 z75 z76 z77 z78 z79 z80 z81 z82 z83 z84 z85 z86 z87 z88 z89 z90 z91 z92 z93 z94 z95 z96 z97 z98 z99 z100 z101 z102 z103 z104 z105 z106 z107 z108 z109 z110 z111 z112 z113 z114 z115 z116 z117 z118 z119 z120 z121 z122 z123 z124 z125 z126 z127 z128 z129 z130 z131 z132 z133 z134 z135 z136 z137 z138 z139 z140 z141 z142 z143 z144 z145 z146 z147 z148 z149 z150 z151 z152 z153 z154 z155 z156 z157 z158 z159 z160 z161 z162 z163 z164 z165 z166 z167 z168 z169 z170 z171 z172 z173 z174 z175 z176 z177 z178 z179 z180 z181 z182 z183 z184 z185 z186 z187 z188 z189 z190 z191 z192 z193 z194 z195 z196 z197 z198 z199 z200 z201 z202 z203 z204 z205 z206 z207 z208 z209 z210 z211 z212 z213 z214 z215 z216 z217 z218 z219 z220 z221 z222 z223 z224 z225 z226 z227 z228 z229 z230 z231 z232 z233 z234 z235 z236 z237 z238 z239 z240 z241 z242 z243 z244 z245 z246 z247 z248 z249 z250 z251 z252 z253 z254 z255 z256 z257 z258 z259 z260 z261 z262 z263 z264 z265 z266 z267 z268 z269 z270 z271 z272 z273 z274 z275 z276 z277 z278 z279 z280 z281 z282 z283 z284 z285 z286 z287 z288 z289 z290 : Value} (HIM : Hid (∀ W, Below w.heap.size w W → ImSl W fa s.l)) (HLEN : Hid (s.l.length < 9223372036854775807)) (HOK : Hid (s.ok = true)) (HM : Hid (MoreIs s FX k b t)) (hn : s.l.length ≤ 9)
    (g : wz.heap[p]? = some (.cells #[.int .i64 s.ax.lo, .int .i64 s.ax.hi, .int .i64 s.ay.lo, .int .i64 s.ay.hi, .int .i64 s.bx.lo, .int .i64 s.bx.hi, .int .i64 s.by'.lo, .int .i64 s.by'.hi, .int .i64 s.f.lo, .int .i64 s.f.hi, .int .i64 s.g.lo, .int .i64 s.g.hi, .int .i64 s.limit, .int .i64 s.flaws, .slice fa s.l.length fc] 30)) (g9 : wz.heap[q9]? = some (.cells #[.int .i64 s.ax.lo, .int .i64 s.ax.hi, .int .i64 s.ay.lo, .int .i64 s.ay.hi, .int .i64 s.bx.lo, .int .i64 s.bx.hi, .int .i64 s.by'.lo, .int .i64 s.by'.hi, .int .i64 s.f.lo, .int .i64 s.f.hi, .int .i64 s.g.lo, .int .i64 s.g.hi, .int .i64 s.limit, .int .i64 FX, .slice fa s.l.length fc] 30)) (hb0 : Below w.heap.size w wz) (K : Act → World → Prop)
    (hK : ∀ a w', Code.wp Try.prog (sndC' ((Try.f9.body.bind (findSt 19)).getD .skip)) (bodyPost Try.prog Try.f9 fun e w' => e = .returned (.bool true) ∧ Below w.heap.size w w') a w' → K a w') :
    Code.wp Try.prog (fstC' ((Try.f9.body.bind (findSt 19)).getD .skip)) (Exit.then K (bodyPost Try.prog Try.f9 fun e w' => e = .returned (.bool true) ∧ Below w.heap.size w w')) ⟨(z0::z1::z2::z3::(.pointer (some ⟨p, 0, none⟩))::z5::z6::z7::z8::(.pointer (some ⟨q9, 0, none⟩))::z10::z11::z12::z13::z14::z15::z16::z17::z18::z19::z20::z21::z22::z23::z24::z25::z26::z27::z28::z29::z30::z31::z32::z33::z34::z35::z36::z37::z38::z39::z40::z41::z42::z43::z44::z45::z46::z47::z48::z49::z50::z51::z52::z53::z54::z55::z56::z57::z58::z59::z60::z61::z62::z63::z64::z65::z66::z67::z68::z69::z70::z71::z72::z73::z74::z75::z76::z77::z78::z79::z80::z81::z82::z83::z84::z85::z86::z87::z88::z89::z90::z91::z92::z93::z94::z95::z96::z97::z98::z99::z100::z101::z102::z103::z104::z105::z106::z107::z108::z109::z110::z111::z112::z113::z114::z115::z116::z117::z118::z119::z120::z121::z122::z123::z124::z125::z126::z127::z128::z129::z130::z131::z132::z133::z134::z135::z136::z137::z138::z139::z140::z141::z142::z143::z144::z145::z146::z147::z148::z149::z150::z151::z152::z153::z154::z155::z156::z157::z158::z159::z160::z161::z162::z163::z164::z165::z166::z167::z168::z169::z170::z171::z172::z173::z174::z175::z176::z177::z178::z179::z180::z181::z182::z183::z184::z185::z186::z187::z188::z189::z190::z191::z192::z193::z194::z195::z196::z197::z198::z199::z200::z201::z202::z203::z204::z205::z206::z207::z208::z209::z210::z211::z212::z213::z214::z215::z216::z217::z218::z219::z220::z221::z222::z223::z224::z225::z226::z227::z228::z229::z230::z231::z232::z233::z234::z235::z236::z237::z238::z239::z240::z241::z242::z243::z244::z245::z246::z247::z248::z249::z250::z251::z252::z253::z254::z255::z256::z257::z258::z259::z260::z261::z262::z263::z264::z265::z266::z267::z268::z269::z270::z271::z272::z273::z274::z275::z276::z277::z278::z279::z280::z281::z282::z283::z284::z285::z286::z287::z288::z289::z290 :: []).toArray, []⟩ wz := by
  conv => arg 2; whnf
  conv at hK => enter [a, w', 1, 2]; whnf
  have htl : itTell s = if wayErr s true = 0 then (((tStars s : Nat) : Int), ((tFlaws s : Nat) : Int), 0) else (0, 0, wayErr s true) := rfl
  have htm : itTell (s.withF FX) = if wayErr (s.withF FX) true = 0 then (((tStars (s.withF FX) : Nat) : Int), ((tFlaws (s.withF FX) : Nat) : Int), 0) else (0, 0, wayErr (s.withF FX) true) := rfl
  rw [wayErr_ok HOK.out] at htl
  rw [wayErr_ok HM.out.ok] at htm
  by_cases hm : (wayTold s).many = 0
  · rw [if_pos hm, if_neg (by decide)] at htl
    clear htm
    obtain ⟨c1, c2, c3, hct⟩ : ∃ a b c, itTell (s.withF FX) = (a, b, c) := ⟨_, _, _, rfl⟩
    have cz := fun k => cell_block g k
    have cg0 := cz 0
    have cg1 := cz 1
    have cg2 := cz 2
    have cg3 := cz 3
    have cg4 := cz 4
    have cg5 := cz 5
    have cg6 := cz 6
    have cg7 := cz 7
    have cg8 := cz 8
    have cg9 := cz 9
    have cg10 := cz 10
    have cg11 := cz 11
    have cg12 := cz 12
    have cg13 := cz 13
    have cg14 := cz 14
    clear cz
    simp only [gA, gB, gC] at cg0 cg1 cg2 cg3 cg4 cg5 cg6 cg7 cg8 cg9 cg10 cg11 cg12 cg13 cg14
    go_wp2_with fail
    have hc := iTell_any s fa fc wz (HIM.out wz hb0) HLEN.out
    refine hc.mono ?_
    clear hc
    rintro e w51 ⟨he, hb⟩
    clear cg0 cg1 cg2 cg3 cg4 cg5 cg6 cg7 cg8 cg9 cg10 cg11 cg12 cg13 cg14
    replace g := obj_later hb g
    replace g9 := obj_later hb g9
    replace hb0 := hb0.trans (hb.mono hb0.size)
    clear hb
    rw [htl] at he
    subst he
    have cz := fun k => cell_block g9 k
    have cg90 := cz 0
    have cg91 := cz 1
    have cg92 := cz 2
    have cg93 := cz 3
    have cg94 := cz 4
    have cg95 := cz 5
    have cg96 := cz 6
    have cg97 := cz 7
    have cg98 := cz 8
    have cg99 := cz 9
    have cg910 := cz 10
    have cg911 := cz 11
    have cg912 := cz 12
    have cg913 := cz 13
    have cg914 := cz 14
    clear cz
    simp only [gA, gB, gC] at cg90 cg91 cg92 cg93 cg94 cg95 cg96 cg97 cg98 cg99 cg910 cg911 cg912 cg913 cg914
    go_wp2_with fail
    have hc := iTell_any (s.withF FX) fa fc w51 (HIM.out w51 hb0) HLEN.out
    refine hc.mono ?_
    clear hc
    rintro e w52 ⟨he, hb⟩
    clear cg90 cg91 cg92 cg93 cg94 cg95 cg96 cg97 cg98 cg99 cg910 cg911 cg912 cg913 cg914
    replace g := obj_later hb g
    replace g9 := obj_later hb g9
    replace hb0 := hb0.trans (hb.mono hb0.size)
    clear hb
    rw [hct] at he
    subst he
    go_wp2_with fail
    refine (iawake_any _).mono ?_
    rintro e w99 ⟨rfl, hb⟩
    go_wp2
    go_ret
    exact ⟨rfl, hb0.trans (hb.mono hb0.size)⟩
  · have hmm := HM.out.many
    have hm' : (wayTold (s.withF FX)).many ≠ 0 := by omega
    rw [if_neg hm, if_pos rfl] at htl
    rw [if_neg hm', if_pos rfl] at htm
    have HWE : Hid (wayErr s true = 0) := Lib.hid (by rw [wayErr_ok HOK.out, if_neg hm])
    have HWE' : Hid (wayErr (s.withF FX) true = 0) := Lib.hid (by rw [wayErr_ok HM.out.ok, if_neg hm'])
    have HWH : Hid (∀ k : Nat, k < s.l.length → itWhere s (k : Int) = (whereTo s (k : Int) s.trails.length, if (whereTo s (k : Int) s.trails.length).isSome then 0 else 4)) := Lib.hid (fun k hk => by
      have hsp : spotOk s (k : Int) = true := by unfold spotOk; simp; omega
      unfold itWhere
      rw [hsp, HWE.out, if_pos rfl])
    have HWM : Hid (∀ k : Nat, k < s.l.length → itWhere (s.withF FX) (k : Int) = (whereTo (s.withF FX) (k : Int) s.trails.length, if (whereTo (s.withF FX) (k : Int) s.trails.length).isSome then 0 else 4)) := Lib.hid (fun k hk => by
      have hsp : spotOk (s.withF FX) (k : Int) = true := by unfold spotOk; simp; show (k : Int) ≤ (s.l.length : Int) - 1; omega
      unfold itWhere
      rw [hsp, HWE'.out, if_pos rfl]
      rfl)
    have hof := openFacts HOK.out hm
    have hofm := openFacts HM.out.ok hm'
    have a1 : bits .andNot .i64 ((tStars (s.withF FX) : Nat) : Int) ((tStars s : Nat) : Int) = 0 := by rw [iandNotI _ _ (by have := hofm.st9; omega) (by have := hof.st9; omega), HM.out.stars hm]; rfl
    have a2 : bits .andNot .i64 ((tFlaws (s.withF FX) : Nat) : Int) ((tFlaws s : Nat) : Int) = 0 := by rw [iandNotI _ _ (by have := hofm.fl9; omega) (by have := hof.fl9; omega), HM.out.flaws hm]; rfl
    obtain ⟨t1, ht1⟩ : ∃ x, tStars s = x := ⟨_, rfl⟩
    obtain ⟨t2, ht2⟩ : ∃ x, tFlaws s = x := ⟨_, rfl⟩
    obtain ⟨t3, ht3⟩ : ∃ x, tStars (s.withF FX) = x := ⟨_, rfl⟩
    obtain ⟨t4, ht4⟩ : ∃ x, tFlaws (s.withF FX) = x := ⟨_, rfl⟩
    rw [ht1, ht2] at htl
    rw [ht3, ht4] at htm
    rw [ht1, ht3] at a1
    rw [ht2, ht4] at a2
    clear hof hofm ht1 ht2 ht3 ht4 hmm hm hm'
    have cz := fun k => cell_block g k
    have cg0 := cz 0
    have cg1 := cz 1
    have cg2 := cz 2
    have cg3 := cz 3
    have cg4 := cz 4
    have cg5 := cz 5
    have cg6 := cz 6
    have cg7 := cz 7
    have cg8 := cz 8
    have cg9 := cz 9
    have cg10 := cz 10
    have cg11 := cz 11
    have cg12 := cz 12
    have cg13 := cz 13
    have cg14 := cz 14
    clear cz
    simp only [gA, gB, gC] at cg0 cg1 cg2 cg3 cg4 cg5 cg6 cg7 cg8 cg9 cg10 cg11 cg12 cg13 cg14
    go_wp2_with fail
    have hc := iTell_any s fa fc wz (HIM.out wz hb0) HLEN.out
    refine hc.mono ?_
    clear hc
    rintro e w51 ⟨he, hb⟩
    clear cg0 cg1 cg2 cg3 cg4 cg5 cg6 cg7 cg8 cg9 cg10 cg11 cg12 cg13 cg14
    replace g := obj_later hb g
    replace g9 := obj_later hb g9
    replace hb0 := hb0.trans (hb.mono hb0.size)
    clear hb
    rw [htl] at he
    subst he
    have cz := fun k => cell_block g9 k
    have cg90 := cz 0
    have cg91 := cz 1
    have cg92 := cz 2
    have cg93 := cz 3
    have cg94 := cz 4
    have cg95 := cz 5
    have cg96 := cz 6
    have cg97 := cz 7
    have cg98 := cz 8
    have cg99 := cz 9
    have cg910 := cz 10
    have cg911 := cz 11
    have cg912 := cz 12
    have cg913 := cz 13
    have cg914 := cz 14
    clear cz
    simp only [gA, gB, gC] at cg90 cg91 cg92 cg93 cg94 cg95 cg96 cg97 cg98 cg99 cg910 cg911 cg912 cg913 cg914
    go_wp2_with fail
    have hc := iTell_any (s.withF FX) fa fc w51 (HIM.out w51 hb0) HLEN.out
    refine hc.mono ?_
    clear hc
    rintro e w52 ⟨he, hb⟩
    clear cg90 cg91 cg92 cg93 cg94 cg95 cg96 cg97 cg98 cg99 cg910 cg911 cg912 cg913 cg914
    replace g := obj_later hb g
    replace g9 := obj_later hb g9
    replace hb0 := hb0.trans (hb.mono hb0.size)
    clear hb
    rw [htm] at he
    subst he
    go_upto_region 25 with fail
    refine lmore_loop s fa fc p q9 FX w52 HLEN hn (Lib.hid (fun W h => HIM.out W (hb0.trans (h.mono hb0.size)))) (Lib.hid g) (Lib.hid g9) HWH HWM (Lib.hid HM.out.at') _ _ _ (by assumption) ?_
    intro s8 s30 s31 s32 s33 s34 s35 s36 s37 s38 s219 s220 s221 s222 s223 s224 s225 s226 s227 s228 s229 s230 s231 s232 s233 s234 s235 s236 s237 s238 s239 s240 s241 s242 s243 s244 s245 s246 s247 s248 s249 s250 s251 s252 s253 s254 s255 s256 s257 s258 s259 s260 s261 s262 s263 s264 s265 s266 s267 s268 s269 s270 s271 s272 s273 s274 s275 s276 s277 s278 s279 s280 s281 s282 s283 s284 s285 s286 s287 s288 s289 wl hbl
    replace hb0 := hb0.trans (hbl.mono hb0.size)
    clear hbl g g9
    go_wp2_with fail
    refine (iawake_any _).mono ?_
    rintro e w99 ⟨rfl, hb⟩
    go_wp2
    go_ret
    exact ⟨rfl, hb0.trans (hb.mono hb0.size)⟩
end Go.Proofs.Ytacioedolmaofaa
namespace Go.Proofs.Ytacioedolmaofaa
open Go.RowKit Go.Shelf
set_option maxHeartbeats 12800000
set_option maxRecDepth 100000
set_option linter.unusedSimpArgs false
set_option linter.unusedVariables false

theorem lmore_tail (s : ISheet) (fa : Option Addr) (fc p q9 q10 gw cap k b : Nat) (FX : Int) (t : ITr) (w va : World) {z0 z1 z2 z3 z5 z6 z8 z11 z12 z13 z14 z15 z16 z17 z18 z19 z20 z21 z22 z23 z24 z25 z26 z27 z28 z29 z30 z31 z32 z33 z34 z35 z36 z37 z38 z39 z40 z41 z42 z43 z44 z45 z46 z47 z48 z49 z50 z51 z52 z53 z54 z55 z56 z57 z58 z59 z60 z61 z62 z63 z64 z65 z66 z67 z68 z69 z70 z71 z72 z73 z74 z75 z76 z77 z78 z79 z80 z81 z82 z83 z84 z85 z86 z87 z88 z89 z90 z91 z92 z93 z94 z95 z96 z97 z98 z99 z100 z101 z102 z103 z104 z105 z106 z107 z108 z109 z110 z111 z112 z113 z114 z115 z116 z117 z118 z119 z120 z121 z122 z123 z124 z125 z126 z127 z128 z129 z130 z131 z132 z133 z134 z135 z136 z137 z138 z139 z140 z141 z142 z143 z144 z145 z146 z147 z148 z149 z150 z151 z152 z153 z154 z155 z156 z157 z158 z159 z160 z161 z162 z163 z164 z165 z166 z167 z168 z169 z170 z171 z172 z173 z174 z175 z176 z177 z178 z179 z180 z181 z182 z183 z184 z185 z186 z187 z188 z189 z190 z191 z192 z193 z194 z195 z196 z197 z198 z199 z200 z201 z202 z203 z204 z205 z206 z207 z208 z209 z210 z211 z212 z213 z214 z215 z216 z217 z218 z219 z220 z221 z222 z223 z224 z225 z226 z227 z228 z229 z230 z231 z232 z233 z234 z235 z236 z237 z238 z239 z240 z241 z242 z243 z244 z245 z246 z247 z248 z249 z250 z251 z252 z253 z254 z255 z256 z257 z258 z259 z260 z261 z262 z263 z264 z265 z266 z267 z268 z269 z270 z271 z272 z273 z274 z275 z276 z277 z278 z279 z280 z281 z282 z283 z284 z285 z286 z287 z288 z289 z290 : Value} (HIM : Hid (∀ W, Below w.heap.size w W → ImSl W fa s.l)) (HLEN : Hid (s.l.length < 9223372036854775807)) (HOK : Hid (s.ok = true)) (HM : Hid (MoreIs s FX k b t)) (hn : s.l.length ≤ 9)
    (g : va.heap[p]? = some (.cells #[.int .i64 s.ax.lo, .int .i64 s.ax.hi, .int .i64 s.ay.lo, .int .i64 s.ay.hi, .int .i64 s.bx.lo, .int .i64 s.bx.hi, .int .i64 s.by'.lo, .int .i64 s.by'.hi, .int .i64 s.f.lo, .int .i64 s.f.hi, .int .i64 s.g.lo, .int .i64 s.g.hi, .int .i64 s.limit, .int .i64 s.flaws, .slice fa s.l.length fc] 30)) (g9 : va.heap[q9]? = some (.cells #[.int .i64 s.ax.lo, .int .i64 s.ax.hi, .int .i64 s.ay.lo, .int .i64 s.ay.hi, .int .i64 s.bx.lo, .int .i64 s.bx.hi, .int .i64 s.by'.lo, .int .i64 s.by'.hi, .int .i64 s.f.lo, .int .i64 s.f.hi, .int .i64 s.g.lo, .int .i64 s.g.hi, .int .i64 s.limit, .int .i64 FX, .slice fa s.l.length fc] 30)) (g10 : va.heap[q10]? = some (.cells #[.int .i64 s.ax.lo, .int .i64 s.ax.hi, .int .i64 s.ay.lo, .int .i64 s.ay.hi, .int .i64 s.bx.lo, .int .i64 s.bx.hi, .int .i64 s.by'.lo, .int .i64 s.by'.hi, .int .i64 s.f.lo, .int .i64 s.f.hi, .int .i64 s.g.lo, .int .i64 s.g.hi, .int .i64 s.limit, .int .i64 s.flaws, .slice (some ⟨gw, 0, none⟩) s.l.length cap] 30)) (gt : va.heap[p + 1]? = some (.cells #[.int .i64 t.a, .int .i64 t.b, .int .i64 t.c] 32)) (hrw : RowIm va gw (widenS s k b).l) (hb0 : Below w.heap.size w va) (K : Act → World → Prop)
    (hK : ∀ a w', Code.wp Try.prog (sndC' ((Try.f9.body.bind (findSt 9)).getD .skip)) (bodyPost Try.prog Try.f9 fun e w' => e = .returned (.bool true) ∧ Below w.heap.size w w') a w' → K a w') :
    Code.wp Try.prog (fstC' ((Try.f9.body.bind (findSt 9)).getD .skip)) (Exit.then K (bodyPost Try.prog Try.f9 fun e w' => e = .returned (.bool true) ∧ Below w.heap.size w w')) ⟨(z0::z1::z2::z3::(.pointer (some ⟨p, 0, none⟩))::z5::z6::(.pointer (some ⟨p + 1, 0, none⟩))::z8::(.pointer (some ⟨q9, 0, none⟩))::(.pointer (some ⟨q10, 0, none⟩))::z11::z12::z13::z14::z15::z16::z17::z18::z19::z20::z21::z22::z23::z24::z25::z26::z27::z28::z29::z30::z31::z32::z33::z34::z35::z36::z37::z38::z39::z40::z41::z42::z43::z44::z45::z46::z47::z48::z49::z50::z51::z52::z53::z54::z55::z56::z57::z58::z59::z60::z61::z62::z63::z64::z65::z66::z67::z68::z69::z70::z71::z72::z73::z74::z75::z76::z77::z78::z79::z80::z81::z82::z83::z84::z85::z86::z87::z88::z89::z90::z91::z92::z93::z94::z95::z96::z97::z98::z99::z100::z101::z102::z103::z104::z105::z106::z107::z108::z109::z110::z111::z112::z113::z114::z115::z116::z117::z118::z119::z120::z121::z122::z123::z124::z125::z126::z127::z128::z129::z130::z131::z132::z133::z134::z135::z136::z137::z138::z139::z140::z141::z142::z143::z144::z145::z146::z147::z148::z149::z150::z151::z152::z153::z154::z155::z156::z157::z158::z159::z160::z161::z162::z163::z164::z165::z166::z167::z168::z169::z170::z171::z172::z173::z174::z175::z176::z177::z178::z179::z180::z181::z182::z183::z184::z185::z186::z187::z188::z189::z190::z191::z192::z193::z194::z195::z196::z197::z198::z199::z200::z201::z202::z203::z204::z205::z206::z207::z208::z209::z210::z211::z212::z213::z214::z215::z216::z217::z218::z219::z220::z221::z222::z223::z224::z225::z226::z227::z228::z229::z230::z231::z232::z233::z234::z235::z236::z237::z238::z239::z240::z241::z242::z243::z244::z245::z246::z247::z248::z249::z250::z251::z252::z253::z254::z255::z256::z257::z258::z259::z260::z261::z262::z263::z264::z265::z266::z267::z268::z269::z270::z271::z272::z273::z274::z275::z276::z277::z278::z279::z280::z281::z282::z283::z284::z285::z286::z287::z288::z289::z290 :: []).toArray, []⟩ va := by
  conv => arg 2; whnf
  conv at hK => enter [a, w', 1, 2]; whnf
  have hwl : (widenS s k b).l.length = s.l.length := by simp [widenS]
  have hc1 : itCount s = (((wayTold s).many : Int), 0) := by unfold itCount; rw [if_pos HOK.out]; rfl
  have hc2 : itCount (s.withF FX) = (((wayTold (s.withF FX)).many : Int), 0) := by unfold itCount; rw [if_pos HM.out.ok]; rfl
  have hn1 : itNeeds s = ((tellN s.trails s.l.length s.l.length 0 0).flaws, 0) := by unfold itNeeds; rw [if_pos HOK.out]
  have hn2 : itNeeds (widenS s k b) = ((tellN (widenS s k b).trails (widenS s k b).l.length (widenS s k b).l.length 0 0).flaws, 0) := by unfold itNeeds; rw [if_pos HM.out.okw]
  have hm12 : ((wayTold s).many : Int) ≤ (wayTold (s.withF FX)).many := Int.ofNat_le.2 HM.out.many
  have hn12 := HM.out.needs
  obtain ⟨m1, hm1⟩ : ∃ m, ((wayTold s).many : Int) = m := ⟨_, rfl⟩
  obtain ⟨m2, hm2⟩ : ∃ m, ((wayTold (s.withF FX)).many : Int) = m := ⟨_, rfl⟩
  obtain ⟨n1, hnn1⟩ : ∃ m, (tellN s.trails s.l.length s.l.length 0 0).flaws = m := ⟨_, rfl⟩
  obtain ⟨n2, hnn2⟩ : ∃ m, (tellN (widenS s k b).trails (widenS s k b).l.length (widenS s k b).l.length 0 0).flaws = m := ⟨_, rfl⟩
  rw [hm1] at hc1 hm12
  rw [hm2] at hc2 hm12
  rw [hnn1] at hn1 hn12
  rw [hnn2] at hn2 hn12
  clear hm1 hm2 hnn1 hnn2
  have cz := fun k => cell_block g k
  have cg0 := cz 0
  have cg1 := cz 1
  have cg2 := cz 2
  have cg3 := cz 3
  have cg4 := cz 4
  have cg5 := cz 5
  have cg6 := cz 6
  have cg7 := cz 7
  have cg8 := cz 8
  have cg9 := cz 9
  have cg10 := cz 10
  have cg11 := cz 11
  have cg12 := cz 12
  have cg13 := cz 13
  have cg14 := cz 14
  clear cz
  simp only [gA, gB, gC] at cg0 cg1 cg2 cg3 cg4 cg5 cg6 cg7 cg8 cg9 cg10 cg11 cg12 cg13 cg14
  go_wp2_with fail
  have hc := iCount_any s fa fc va (HIM.out va hb0) HLEN.out
  refine hc.mono ?_
  clear hc
  rintro e w2 ⟨he, hb⟩
  clear cg0 cg1 cg2 cg3 cg4 cg5 cg6 cg7 cg8 cg9 cg10 cg11 cg12 cg13 cg14
  replace g := obj_later hb g
  replace g9 := obj_later hb g9
  replace g10 := obj_later hb g10
  replace gt := obj_later hb gt
  replace hrw := hrw.below hb (Nat.le_refl _)
  replace hb0 := hb0.trans (hb.mono hb0.size)
  clear hb
  rw [hc1] at he
  subst he
  have cz := fun k => cell_block g9 k
  have cg90 := cz 0
  have cg91 := cz 1
  have cg92 := cz 2
  have cg93 := cz 3
  have cg94 := cz 4
  have cg95 := cz 5
  have cg96 := cz 6
  have cg97 := cz 7
  have cg98 := cz 8
  have cg99 := cz 9
  have cg910 := cz 10
  have cg911 := cz 11
  have cg912 := cz 12
  have cg913 := cz 13
  have cg914 := cz 14
  clear cz
  simp only [gA, gB, gC] at cg90 cg91 cg92 cg93 cg94 cg95 cg96 cg97 cg98 cg99 cg910 cg911 cg912 cg913 cg914
  go_wp2_with fail
  have hc := iCount_any (s.withF FX) fa fc w2 (HIM.out w2 hb0) HLEN.out
  refine hc.mono ?_
  clear hc
  rintro e w3 ⟨he, hb⟩
  clear cg90 cg91 cg92 cg93 cg94 cg95 cg96 cg97 cg98 cg99 cg910 cg911 cg912 cg913 cg914
  replace g := obj_later hb g
  replace g9 := obj_later hb g9
  replace g10 := obj_later hb g10
  replace gt := obj_later hb gt
  replace hrw := hrw.below hb (Nat.le_refl _)
  replace hb0 := hb0.trans (hb.mono hb0.size)
  clear hb
  rw [hc2] at he
  subst he
  have cz := fun k => cell_block g k
  have cg0 := cz 0
  have cg1 := cz 1
  have cg2 := cz 2
  have cg3 := cz 3
  have cg4 := cz 4
  have cg5 := cz 5
  have cg6 := cz 6
  have cg7 := cz 7
  have cg8 := cz 8
  have cg9 := cz 9
  have cg10 := cz 10
  have cg11 := cz 11
  have cg12 := cz 12
  have cg13 := cz 13
  have cg14 := cz 14
  clear cz
  simp only [gA, gB, gC] at cg0 cg1 cg2 cg3 cg4 cg5 cg6 cg7 cg8 cg9 cg10 cg11 cg12 cg13 cg14
  go_wp2_with fail
  have hc := iNeeds_any s fa fc w3 (HIM.out w3 hb0) HLEN.out
  refine hc.mono ?_
  clear hc
  rintro e w4 ⟨he, hb⟩
  clear cg0 cg1 cg2 cg3 cg4 cg5 cg6 cg7 cg8 cg9 cg10 cg11 cg12 cg13 cg14
  replace g := obj_later hb g
  replace g9 := obj_later hb g9
  replace g10 := obj_later hb g10
  replace gt := obj_later hb gt
  replace hrw := hrw.below hb (Nat.le_refl _)
  replace hb0 := hb0.trans (hb.mono hb0.size)
  clear hb
  rw [hn1] at he
  subst he
  have cz := fun k => cell_block g10 k
  have cg100 := cz 0
  have cg101 := cz 1
  have cg102 := cz 2
  have cg103 := cz 3
  have cg104 := cz 4
  have cg105 := cz 5
  have cg106 := cz 6
  have cg107 := cz 7
  have cg108 := cz 8
  have cg109 := cz 9
  have cg1010 := cz 10
  have cg1011 := cz 11
  have cg1012 := cz 12
  have cg1013 := cz 13
  have cg1014 := cz 14
  clear cz
  simp only [gA, gB, gC] at cg100 cg101 cg102 cg103 cg104 cg105 cg106 cg107 cg108 cg109 cg1010 cg1011 cg1012 cg1013 cg1014
  go_wp2_with fail
  have hcw := iNeeds_any (widenS s k b) (some ⟨gw, 0, none⟩) cap w4 hrw.sl (by rw [hwl]; exact HLEN.out)
  rw [hwl] at hcw
  have hc := hcw
  refine hc.mono ?_
  clear hc
  rintro e w5 ⟨he, hb⟩
  clear cg100 cg101 cg102 cg103 cg104 cg105 cg106 cg107 cg108 cg109 cg1010 cg1011 cg1012 cg1013 cg1014
  replace g := obj_later hb g
  replace g9 := obj_later hb g9
  replace g10 := obj_later hb g10
  replace gt := obj_later hb gt
  replace hrw := hrw.below hb (Nat.le_refl _)
  replace hb0 := hb0.trans (hb.mono hb0.size)
  clear hb
  rw [hn2] at he
  subst he
  clear hcw
  have hfs := HM.out.fits
  obtain ⟨fb1, fe, hf1⟩ : ∃ a c, itFits s t = (a, c) := ⟨_, _, rfl⟩
  obtain ⟨fb2, fe2, hf2⟩ : ∃ a c, itFits (widenS s k b) t = (a, c) := ⟨_, _, rfl⟩
  rw [hf1, hf2] at hfs
  obtain ⟨hfe, hfb⟩ := hfs
  dsimp only at hfe hfb
  subst hfe
  clear hc1 hc2 hn1 hn2
  have cz := fun k => cell_block g k
  have cg0 := cz 0
  have cg1 := cz 1
  have cg2 := cz 2
  have cg3 := cz 3
  have cg4 := cz 4
  have cg5 := cz 5
  have cg6 := cz 6
  have cg7 := cz 7
  have cg8 := cz 8
  have cg9 := cz 9
  have cg10 := cz 10
  have cg11 := cz 11
  have cg12 := cz 12
  have cg13 := cz 13
  have cg14 := cz 14
  clear cz
  simp only [gA, gB, gC] at cg0 cg1 cg2 cg3 cg4 cg5 cg6 cg7 cg8 cg9 cg10 cg11 cg12 cg13 cg14
  have cz := fun k => cell_block gt k
  have cgt0 := cz 0
  have cgt1 := cz 1
  have cgt2 := cz 2
  clear cz
  simp only [gA, gB, gC] at cgt0 cgt1 cgt2
  go_wp2_with fail
  have hc := iFits_any s fa fc t w5 (HIM.out w5 hb0) HLEN.out
  refine hc.mono ?_
  clear hc
  rintro e w6 ⟨he, hb⟩
  clear cg0 cg1 cg2 cg3 cg4 cg5 cg6 cg7 cg8 cg9 cg10 cg11 cg12 cg13 cg14 cgt0 cgt1 cgt2
  replace g := obj_later hb g
  replace g9 := obj_later hb g9
  replace g10 := obj_later hb g10
  replace gt := obj_later hb gt
  replace hrw := hrw.below hb (Nat.le_refl _)
  replace hb0 := hb0.trans (hb.mono hb0.size)
  clear hb
  rw [hf1] at he
  subst he
  have cz := fun k => cell_block g10 k
  have cg100 := cz 0
  have cg101 := cz 1
  have cg102 := cz 2
  have cg103 := cz 3
  have cg104 := cz 4
  have cg105 := cz 5
  have cg106 := cz 6
  have cg107 := cz 7
  have cg108 := cz 8
  have cg109 := cz 9
  have cg1010 := cz 10
  have cg1011 := cz 11
  have cg1012 := cz 12
  have cg1013 := cz 13
  have cg1014 := cz 14
  clear cz
  simp only [gA, gB, gC] at cg100 cg101 cg102 cg103 cg104 cg105 cg106 cg107 cg108 cg109 cg1010 cg1011 cg1012 cg1013 cg1014
  have cz := fun k => cell_block gt k
  have cgt0 := cz 0
  have cgt1 := cz 1
  have cgt2 := cz 2
  clear cz
  simp only [gA, gB, gC] at cgt0 cgt1 cgt2
  go_wp2_with fail
  have hcw := iFits_any (widenS s k b) (some ⟨gw, 0, none⟩) cap t w6 hrw.sl (by rw [hwl]; exact HLEN.out)
  rw [hwl] at hcw
  have hc := hcw
  refine hc.mono ?_
  clear hc
  rintro e w7 ⟨he, hb⟩
  clear cg100 cg101 cg102 cg103 cg104 cg105 cg106 cg107 cg108 cg109 cg1010 cg1011 cg1012 cg1013 cg1014 cgt0 cgt1 cgt2
  replace g := obj_later hb g
  replace g9 := obj_later hb g9
  replace g10 := obj_later hb g10
  replace gt := obj_later hb gt
  replace hrw := hrw.below hb (Nat.le_refl _)
  replace hb0 := hb0.trans (hb.mono hb0.size)
  clear hb
  rw [hf2] at he
  subst he
  clear hcw
  clear hf1 hf2 hm12 hn12
  go_upto_region 17 with fail
  refine lmore_cmp fb1 fb2 fe w7 hfb _ _ ?_
  intro s176 s177 s178 s179 s180 s181 s182 s183 s184 wz hwz
  subst hwz
  go_upto_region 19 with fail
  refine lmore_told s fa fc p q9 k b FX t w wz HIM HLEN HOK HM hn g g9 hb0 _ ?_
  assumption
end Go.Proofs.Ytacioedolmaofaa
