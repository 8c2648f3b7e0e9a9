/- ImageTurned, walked: what is told of an image. ImageTurned, walked: where the stars are. Plain Lean: what ImageTurned compares, as values. -/
import Derived.Test.YtacioedolmaofaaLBN4
namespace Go.Proofs.Ytacioedolmaofaa
open Go.RowKit Go.Shelf
set_option maxHeartbeats 12800000
set_option maxRecDepth 100000
set_option linter.unusedSimpArgs false
set_option linter.unusedVariables false

theorem ltu_reg32 (s : ISheet) (fa ka : Option Addr) (fc kc p p4 p7 turn m j st fl su gu : Nat) (wA : World) {z0 z1 z2 z4 z5 z6 z7 z8 z9 z10 z13 z14 z15 z16 z17 z18 z19 z20 z21 z22 z23 z24 z25 z26 z29 z32 z34 z35 z36 z37 z38 z39 z40 z41 z42 z43 z44 z45 z46 z47 z48 z49 z50 z51 z52 z53 z54 z55 z56 z57 z58 z59 z60 z61 z62 z63 z64 z65 z66 z67 z68 z69 z70 z71 z72 z73 z74 z75 z76 z77 z78 z79 z80 z81 z82 z83 z84 z85 z86 z87 z88 z89 z90 z91 z92 z93 z94 z95 z96 z97 z98 z99 z100 z101 z102 z103 z104 z105 z106 z107 z108 z109 z110 z111 z112 z113 z114 z115 z116 z117 z118 z119 z120 z121 z122 z123 z124 z125 z126 z127 z128 z129 z130 z131 z132 z133 z134 z135 z136 z137 z138 z139 z140 z141 z142 z143 z144 z145 z146 z147 z148 z149 z150 z151 z152 z153 z154 z155 z156 z157 z158 z159 z160 z161 z162 z163 z164 z165 z166 z167 z168 z169 z170 z171 z172 z173 z174 z175 z176 z177 z178 z179 z180 z181 z182 z183 z184 z185 z186 z223 z224 z225 z226 z227 z228 z229 z230 z231 z232 z233 z234 z235 z236 z237 z238 z239 z240 z241 z242 z243 z244 z245 z246 z247 z248 z249 z250 z251 z252 z253 z254 z255 z256 z257 z258 z259 z260 z261 z262 z263 z264 z265 z266 z267 z268 z269 z270 z271 z272 z273 z274 : Value} {z222 z187 z188 z189 z190 z191 z192 z193 z194 z195 z196 z197 z198 z199 z200 z201 z202 z203 z204 z205 z206 z207 z208 z209 z210 z211 z212 z213 z214 z215 z216 z217 z218 z219 z220 z221 : Value} (hn : s.l.length ≤ 9) (hm : m < s.l.length) (ht : turn < 256) (hj : (m + turn) % s.l.length = j) (h1 : st < 512) (h2 : fl < 512) (h3 : su < 512) (h4 : gu < 512) (hb1 : st.testBit m = su.testBit j) (hb2 : fl.testBit m = gu.testBit j) (hp : wA.heap[p]? = some (.cells #[.int .i64 s.ax.lo, .int .i64 s.ax.hi, .int .i64 s.ay.lo, .int .i64 s.ay.hi, .int .i64 s.bx.lo, .int .i64 s.bx.hi, .int .i64 s.by'.lo, .int .i64 s.by'.hi, .int .i64 s.f.lo, .int .i64 s.f.hi, .int .i64 s.g.lo, .int .i64 s.g.hi, .int .i64 s.limit, .int .i64 s.flaws, .slice fa s.l.length fc] 30)) (g4 : wA.heap[p4]? = some (.cells #[.int .u8 (turn : Int)] 5)) (g7 : wA.heap[p7]? = some (.cells #[.int .i64 (s.l.length : Int)] 3)) (him : ImSl wA fa s.l) (hkm : ImSl wA ka s.l) (K : Act → World → Prop) (Q : Exit → Act → World → Prop)
    (hfin : ∀ (s187 s188 s189 s190 s191 s192 s193 s194 s195 s196 s197 s198 s199 s200 s201 s202 s203 s204 s205 s206 s207 s208 s209 s210 s211 s212 s213 s214 s215 s216 s217 s218 s219 s220 s221 : Value) (w3 : World), Below wA.heap.size wA w3 → K ⟨(z0::z1::z2::(.pointer (some ⟨p, 0, none⟩))::z4::z5::z6::z7::z8::z9::z10::(.slice ka s.l.length kc)::(.func (.func 38) #[] #[.pointer (some ⟨p4, 0, none⟩), .pointer (some ⟨p7, 0, none⟩)])::z13::z14::z15::z16::z17::z18::z19::z20::z21::z22::z23::z24::z25::z26::(.int .i64 (st : Int))::(.int .i64 (fl : Int))::z29::(.int .i64 (su : Int))::(.int .i64 (gu : Int))::z32::(.int .i64 (m : Int))::z34::z35::z36::z37::z38::z39::z40::z41::z42::z43::z44::z45::z46::z47::z48::z49::z50::z51::z52::z53::z54::z55::z56::z57::z58::z59::z60::z61::z62::z63::z64::z65::z66::z67::z68::z69::z70::z71::z72::z73::z74::z75::z76::z77::z78::z79::z80::z81::z82::z83::z84::z85::z86::z87::z88::z89::z90::z91::z92::z93::z94::z95::z96::z97::z98::z99::z100::z101::z102::z103::z104::z105::z106::z107::z108::z109::z110::z111::z112::z113::z114::z115::z116::z117::z118::z119::z120::z121::z122::z123::z124::z125::z126::z127::z128::z129::z130::z131::z132::z133::z134::z135::z136::z137::z138::z139::z140::z141::z142::z143::z144::z145::z146::z147::z148::z149::z150::z151::z152::z153::z154::z155::z156::z157::z158::z159::z160::z161::z162::z163::z164::z165::z166::z167::z168::z169::z170::z171::z172::z173::z174::z175::z176::z177::z178::z179::z180::z181::z182::z183::z184::z185::z186::s187::s188::s189::s190::s191::s192::s193::s194::s195::s196::s197::s198::s199::s200::s201::s202::s203::s204::s205::s206::s207::s208::s209::s210::s211::s212::s213::s214::s215::s216::s217::s218::s219::s220::s221::(.bool false)::z223::z224::z225::z226::z227::z228::z229::z230::z231::z232::z233::z234::z235::z236::z237::z238::z239::z240::z241::z242::z243::z244::z245::z246::z247::z248::z249::z250::z251::z252::z253::z254::z255::z256::z257::z258::z259::z260::z261::z262::z263::z264::z265::z266::z267::z268::z269::z270::z271::z272::z273::z274 :: []).toArray, []⟩ w3) :
    Code.wp Try.prog ((Try.f10.body.bind (findReg 32)).getD .skip) (Exit.then K Q) ⟨(z0::z1::z2::(.pointer (some ⟨p, 0, none⟩))::z4::z5::z6::z7::z8::z9::z10::(.slice ka s.l.length kc)::(.func (.func 38) #[] #[.pointer (some ⟨p4, 0, none⟩), .pointer (some ⟨p7, 0, none⟩)])::z13::z14::z15::z16::z17::z18::z19::z20::z21::z22::z23::z24::z25::z26::(.int .i64 (st : Int))::(.int .i64 (fl : Int))::z29::(.int .i64 (su : Int))::(.int .i64 (gu : Int))::z32::(.int .i64 (m : Int))::z34::z35::z36::z37::z38::z39::z40::z41::z42::z43::z44::z45::z46::z47::z48::z49::z50::z51::z52::z53::z54::z55::z56::z57::z58::z59::z60::z61::z62::z63::z64::z65::z66::z67::z68::z69::z70::z71::z72::z73::z74::z75::z76::z77::z78::z79::z80::z81::z82::z83::z84::z85::z86::z87::z88::z89::z90::z91::z92::z93::z94::z95::z96::z97::z98::z99::z100::z101::z102::z103::z104::z105::z106::z107::z108::z109::z110::z111::z112::z113::z114::z115::z116::z117::z118::z119::z120::z121::z122::z123::z124::z125::z126::z127::z128::z129::z130::z131::z132::z133::z134::z135::z136::z137::z138::z139::z140::z141::z142::z143::z144::z145::z146::z147::z148::z149::z150::z151::z152::z153::z154::z155::z156::z157::z158::z159::z160::z161::z162::z163::z164::z165::z166::z167::z168::z169::z170::z171::z172::z173::z174::z175::z176::z177::z178::z179::z180::z181::z182::z183::z184::z185::z186::z187::z188::z189::z190::z191::z192::z193::z194::z195::z196::z197::z198::z199::z200::z201::z202::z203::z204::z205::z206::z207::z208::z209::z210::z211::z212::z213::z214::z215::z216::z217::z218::z219::z220::z221::z222::z223::z224::z225::z226::z227::z228::z229::z230::z231::z232::z233::z234::z235::z236::z237::z238::z239::z240::z241::z242::z243::z244::z245::z246::z247::z248::z249::z250::z251::z252::z253::z254::z255::z256::z257::z258::z259::z260::z261::z262::z263::z264::z265::z266::z267::z268::z269::z270::z271::z272::z273::z274 :: []).toArray, []⟩ wA := by
  have HFIN := Lib.hid hfin
  clear hfin
  have hjl : j < s.l.length := by rw [← hj]; exact Nat.mod_lt _ (by omega)
  have a1 := ibitI st m (by omega)
  have a2 := ibitI su j (by omega)
  have a3 := ibitI fl m (by omega)
  have a4 := ibitI gu j (by omega)
  rw [← hb1] at a2
  rw [← hb2] at a4
  obtain ⟨vs, hvs⟩ : ∃ v : Int, (if st.testBit m then 1 else 0) = v := ⟨_, rfl⟩
  obtain ⟨vf, hvf⟩ : ∃ v : Int, (if fl.testBit m then 1 else 0) = v := ⟨_, rfl⟩
  rw [hvs] at a1 a2
  rw [hvf] at a3 a4
  clear hvs hvf hb1 hb2
  have m64 : m < 64 := by omega
  have m64i : (m : Int) < 64 := by omega
  have j64 : j < 64 := by omega
  have j64i : (j : Int) < 64 := by omega
  have hmi : (m : Int) < s.l.length := by omega
  have hni : (s.l.length : Int) ≤ 9 := by omega
  have c14 := cell_block hp 14
  simp only [gA, gB, gC] at c14
  obtain ⟨ib, io, rfl, hil, e0, e1, e2, e3, e4, e5⟩ := him m hm
  obtain ⟨kb, ko, rfl, hkl, d0, d1, d2, d3, d4, d5⟩ := hkm m hm
  obtain ⟨x, hx⟩ : ∃ x, s.l[m] = x := ⟨_, rfl⟩
  rw [hx] at e0 e1 e2 e3 e4 e5 d0 d1 d2 d3 d4 d5
  have HSP := ispot_neq x
  have k14 := iheld c14 (Nat.le_refl _)
  have k0 := iheld e0 (Nat.le_refl _)
  have q0 := iheld d0 (Nat.le_refl _)
  have k1 := iheld e1 (Nat.le_refl _)
  have q1 := iheld d1 (Nat.le_refl _)
  have k2 := iheld e2 (Nat.le_refl _)
  have q2 := iheld d2 (Nat.le_refl _)
  have k3 := iheld e3 (Nat.le_refl _)
  have q3 := iheld d3 (Nat.le_refl _)
  have k4 := iheld e4 (Nat.le_refl _)
  have q4 := iheld d4 (Nat.le_refl _)
  have k5 := iheld e5 (Nat.le_refl _)
  have q5 := iheld d5 (Nat.le_refl _)
  have HG := Lib.hid (And.intro g4 g7)
  clear c14 hp him hkm hx hil hkl e0 e1 e2 e3 e4 e5 d0 d1 d2 d3 d4 d5 g4 g7
  conv => arg 2; whnf
  refine (wpIn_wide (n := 1)).1 ?_
  refine wpIn_region_Wn (S := Below wA.heap.size wA) 36 (by kernel_rfl) (by kernel_rfl) (below_drew wA) (fun hHeld => ?_)
  have H0 := hHeld
  generalize wA.drew = w0 at H0 hHeld ⊢
  refine wTk 0 187 ?_ ?_ ?_
  rotate_left
  · intro o h w k; (try dsimp only at k); simp only [gA, gB, gC, gG] at h; subst h; go_simp; try with_reducible rfl
  simp only [Act.put, gD, gE, gF]
  refine wTk 1 188 ?_ ?_ ?_
  rotate_left
  · intro o h w k; (try dsimp only at k); simp only [gA, gB, gC, gG] at h; subst h; go_simp; try with_reducible rfl
  simp only [Act.put, gD, gE, gF]
  refine wTk 2 189 ?_ ?_ ?_
  rotate_left
  · intro o h w k; (try dsimp only at k); simp only [gA, gB, gC, gG] at h; subst h; go_simp; try with_reducible rfl
  simp only [Act.put, gD, gE, gF]
  refine wTk 3 190 ?_ ?_ ?_
  rotate_left
  · intro o h w k; (try dsimp only at k); simp only [gA, gB, gC, gG] at h; subst h; go_simp; try with_reducible rfl
  simp only [Act.put, gD, gE, gF]
  refine wTk 4 191 ?_ ?_ ?_
  rotate_left
  · intro o h w k; (try dsimp only at k); simp only [gA, gB, gC, gG] at h; subst h; go_simp; try with_reducible rfl
  simp only [Act.put, gD, gE, gF]
  refine wTk 5 192 ?_ ?_ ?_
  rotate_left
  · intro o h w k; (try dsimp only at k); simp only [gA, gB, gC, gG] at h; subst h; go_simp; try with_reducible rfl
  simp only [Act.put, gD, gE, gF]
  refine wTk 6 193 ?_ ?_ ?_
  rotate_left
  · intro o h w k; (try dsimp only at k); simp only [gA, gB, gC, gG] at h; subst h; go_simp; try with_reducible rfl
  simp only [Act.put, gD, gE, gF]
  refine wpAnyW_one 7 (by kernel_rfl) (by kernel_rfl) ?_
  intro o ho K hK
  simp only [gA, gB, gC, gG] at ho
  subst ho
  go_simp
  refine ⟨trivial, CallsIn.mono (callsIn_wide.2 (inum_any m turn s.l.length p4 p7 w0 (obj_later H0 HG.out.1) (obj_later H0 HG.out.2) (by omega) hn (by omega) ht)) ?_⟩
  rintro e w1 ⟨rfl, hb⟩
  rw [hj]
  have H1 := H0.trans (hb.mono H0.size)
  refine hK _ _ H1 (fun _ => ?_)
  clear hK K hb H0 hHeld
  try simp only [Act.put, gD, gE, gF]
  refine wTk 8 195 ?_ ?_ ?_
  rotate_left
  · intro o h w k; (try dsimp only at k); simp only [gA, gB, gC, gG] at h; subst h; go_simp; try with_reducible rfl
  simp only [Act.put, gD, gE, gF]
  refine wTk 9 196 ?_ ?_ ?_
  rotate_left
  · intro o h w k; (try dsimp only at k); simp only [gA, gB, gC, gG] at h; subst h; go_simp; try with_reducible rfl
  simp only [Act.put, gD, gE, gF]
  refine wTk 10 197 ?_ ?_ ?_
  rotate_left
  · intro o h w k; (try dsimp only at k); simp only [gA, gB, gC, gG] at h; subst h; go_simp; try with_reducible rfl
  simp only [Act.put, gD, gE, gF]
  refine wTk 11 198 ?_ ?_ ?_
  rotate_left
  · intro o h w k; (try dsimp only at k); simp only [gA, gB, gC, gG] at h; subst h; go_simp; try with_reducible rfl
  simp only [Act.put, gD, gE, gF]
  refine wTk 12 199 ?_ ?_ ?_
  rotate_left
  · intro o h w k; (try dsimp only at k); simp only [gA, gB, gC, gG] at h; subst h; go_simp; try with_reducible rfl
  simp only [Act.put, gD, gE, gF]
  refine wTk 13 200 ?_ ?_ ?_
  rotate_left
  · intro o h w k; (try dsimp only at k); simp only [gA, gB, gC, gG] at h; subst h; go_simp; try with_reducible rfl
  simp only [Act.put, gD, gE, gF]
  refine wTk 14 201 ?_ ?_ ?_
  rotate_left
  · intro o h w k; (try dsimp only at k); simp only [gA, gB, gC, gG] at h; subst h; go_simp; try with_reducible rfl
  simp only [Act.put, gD, gE, gF]
  refine wTk 15 202 ?_ ?_ ?_
  rotate_left
  · intro o h w k; (try dsimp only at k); simp only [gA, gB, gC, gG] at h; subst h; go_simp; try with_reducible rfl
  simp only [Act.put, gD, gE, gF]
  refine wTk 16 203 ?_ ?_ ?_
  rotate_left
  · intro o h w k; (try dsimp only at k); simp only [gA, gB, gC, gG] at h; subst h; go_simp; try with_reducible rfl
  simp only [Act.put, gD, gE, gF]
  refine wTk 17 204 ?_ ?_ ?_
  rotate_left
  · intro o h w k; (try dsimp only at k); simp only [gA, gB, gC, gG] at h; subst h; go_simp; try with_reducible rfl
  simp only [Act.put, gD, gE, gF]
  refine wTk 18 205 ?_ ?_ ?_
  rotate_left
  · intro o h w k; (try dsimp only at k); simp only [gA, gB, gC, gG] at h; subst h; go_simp; try with_reducible rfl
  simp only [Act.put, gD, gE, gF]
  refine wpAnyW_one 19 (by kernel_rfl) (by kernel_rfl) ?_
  intro o ho K hK
  simp only [gA, gB, gC, gG] at ho
  subst ho
  go_simp
  refine ⟨trivial, CallsIn.mono (callsIn_wide.2 (inum_any m turn s.l.length p4 p7 w1 (obj_later H1 HG.out.1) (obj_later H1 HG.out.2) (by omega) hn (by omega) ht)) ?_⟩
  rintro e w2 ⟨rfl, hb⟩
  rw [hj]
  have H2 := H1.trans (hb.mono H1.size)
  refine hK _ _ H2 (fun _ => ?_)
  clear hK K hb H1
  try simp only [Act.put, gD, gE, gF]
  refine wTk 20 207 ?_ ?_ ?_
  rotate_left
  · intro o h w k; (try dsimp only at k); simp only [gA, gB, gC, gG] at h; subst h; go_simp; try with_reducible rfl
  simp only [Act.put, gD, gE, gF]
  refine wTk 21 208 ?_ ?_ ?_
  rotate_left
  · intro o h w k; (try dsimp only at k); simp only [gA, gB, gC, gG] at h; subst h; go_simp; try with_reducible rfl
  simp only [Act.put, gD, gE, gF]
  refine wTk 22 209 ?_ ?_ ?_
  rotate_left
  · intro o h w k; (try dsimp only at k); simp only [gA, gB, gC, gG] at h; subst h; go_simp; try with_reducible rfl
  simp only [Act.put, gD, gE, gF]
  refine wTk 23 210 ?_ ?_ ?_
  rotate_left
  · intro o h w k; (try dsimp only at k); simp only [gA, gB, gC, gG] at h; subst h; go_simp; try with_reducible rfl
  simp only [Act.put, gD, gE, gF]
  refine wTk 24 211 ?_ ?_ ?_
  rotate_left
  · intro o h w k; (try dsimp only at k); simp only [gA, gB, gC, gG] at h; subst h; go_simp; try with_reducible rfl
  simp only [Act.put, gD, gE, gF]
  refine wTk 25 212 ?_ ?_ ?_
  rotate_left
  · intro o h w k; (try dsimp only at k); simp only [gA, gB, gC, gG] at h; subst h; go_simp; try with_reducible rfl
  simp only [Act.put, gD, gE, gF]
  refine wTk 26 213 ?_ ?_ ?_
  rotate_left
  · intro o h w k; (try dsimp only at k); simp only [gA, gB, gC, gG] at h; subst h; go_simp; try with_reducible rfl
  simp only [Act.put, gD, gE, gF]
  refine wTk 27 214 ?_ ?_ ?_
  rotate_left
  · intro o h w k; (try dsimp only at k); simp only [gA, gB, gC, gG] at h; subst h; go_simp; try with_reducible rfl
  simp only [Act.put, gD, gE, gF]
  refine wTk 28 215 ?_ ?_ ?_
  rotate_left
  · intro o h w k; (try dsimp only at k); simp only [gA, gB, gC, gG] at h; subst h; go_simp; try with_reducible rfl
  simp only [Act.put, gD, gE, gF]
  refine wTk 29 216 ?_ ?_ ?_
  rotate_left
  · intro o h w k; (try dsimp only at k); simp only [gA, gB, gC, gG] at h; subst h; go_simp; try with_reducible rfl
  simp only [Act.put, gD, gE, gF]
  refine wTk 30 217 ?_ ?_ ?_
  rotate_left
  · intro o h w k; (try dsimp only at k); simp only [gA, gB, gC, gG] at h; subst h; go_simp; try with_reducible rfl
  simp only [Act.put, gD, gE, gF]
  refine wTk 31 218 ?_ ?_ ?_
  rotate_left
  · intro o h w k; (try dsimp only at k); simp only [gA, gB, gC, gG] at h; subst h; go_simp; try with_reducible rfl
  simp only [Act.put, gD, gE, gF]
  refine wTk 32 219 ?_ ?_ ?_
  rotate_left
  · intro o h w k; (try dsimp only at k); simp only [gA, gB, gC, gG] at h; subst h; go_simp; try with_reducible rfl
  simp only [Act.put, gD, gE, gF]
  refine wTk 33 220 ?_ ?_ ?_
  rotate_left
  · intro o h w k; (try dsimp only at k); simp only [gA, gB, gC, gG] at h; subst h; go_simp; try with_reducible rfl
  simp only [Act.put, gD, gE, gF]
  refine wTk 34 221 ?_ ?_ ?_
  rotate_left
  · intro o h w k; (try dsimp only at k); simp only [gA, gB, gC, gG] at h; subst h; go_simp; try with_reducible rfl
  simp only [Act.put, gD, gE, gF]
  refine wTk 35 222 ?_ ?_ ?_
  rotate_left
  · intro o h w k; (try dsimp only at k); simp only [gA, gB, gC, gG] at h; subst h; go_simp; try with_reducible rfl
  simp only [Act.put, gD, gE, gF]
  refine wpAnyW_done (by kernel_rfl) ?_ _
  dsimp only [onNormal]
  exact HFIN.out _ _ _ _ _ _ _ _ _ _ _ _ _ _ _ _ _ _ _ _ _ _ _ _ _ _ _ _ _ _ _ _ _ _ _ _ H2
end Go.Proofs.Ytacioedolmaofaa
namespace Go.Proofs.Ytacioedolmaofaa
open Go.RowKit Go.Shelf
set_option maxHeartbeats 12800000
set_option maxRecDepth 100000
set_option linter.unusedSimpArgs false
set_option linter.unusedVariables false

theorem ltu_reg36n (far q1 q2 q3 q4 q5 q6 : Nat) (wA : World) {z0 z1 z3 z4 z5 z6 z7 z8 z9 z10 z11 z12 z13 z14 z15 z16 z17 z18 z19 z20 z21 z22 z23 z24 z25 z26 z27 z28 z29 z30 z31 z32 z33 z42 z43 z44 z45 z46 z47 z48 z49 z50 z51 z52 z53 z54 z55 z56 z57 z58 z59 z60 z61 z62 z63 z64 z65 z66 z67 z68 z69 z70 z71 z72 z73 z74 z75 z76 z77 z78 z79 z80 z81 z82 z83 z84 z85 z86 z87 z88 z89 z90 z91 z92 z93 z94 z95 z96 z97 z98 z99 z100 z101 z102 z103 z104 z105 z106 z107 z108 z109 z110 z111 z112 z113 z114 z115 z116 z117 z118 z119 z120 z121 z122 z123 z124 z125 z126 z127 z128 z129 z130 z131 z132 z133 z134 z135 z136 z137 z138 z139 z140 z141 z142 z143 z144 z145 z146 z147 z148 z149 z150 z151 z152 z153 z154 z155 z156 z157 z158 z159 z160 z161 z162 z163 z164 z165 z166 z167 z168 z169 z170 z171 z172 z173 z174 z175 z176 z177 z178 z179 z180 z181 z182 z183 z184 z185 z186 z187 z188 z189 z190 z191 z192 z193 z194 z195 z196 z197 z198 z199 z200 z201 z202 z203 z204 z205 z206 z207 z208 z209 z210 z211 z212 z213 z214 z215 z216 z217 z218 z219 z220 z221 z222 z223 z224 z225 z226 z227 z228 z229 z230 z231 z232 z233 z234 z235 z236 z237 z238 z239 z240 z273 z274 : Value} {z272 z241 z242 z243 z244 z245 z246 z247 z248 z249 z250 z251 z252 z253 z254 z255 z256 z257 z258 z259 z260 z261 z262 z263 z264 z265 z266 z267 z268 z269 z270 z271 : Value}  (K : Act → World → Prop) (Q : Exit → Act → World → Prop)
    (hfin : ∀ (s241 s242 s243 s244 s245 s246 s247 s248 s249 s250 s251 s252 s253 s254 s255 s256 s257 s258 s259 s260 s261 s262 s263 s264 s265 s266 s267 s268 s269 s270 s271 : Value) (w3 : World), Below wA.heap.size wA w3 → K ⟨(z0::z1::(.int .u8 (far : Int))::z3::z4::z5::z6::z7::z8::z9::z10::z11::z12::z13::z14::z15::z16::z17::z18::z19::z20::z21::z22::z23::z24::z25::z26::z27::z28::z29::z30::z31::z32::z33::(.pointer (some ⟨q1, 0, none⟩))::(.pointer (some ⟨q2, 0, none⟩))::(.pointer (some ⟨q3, 0, none⟩))::(.int .i64 4)::(.pointer (some ⟨q4, 0, none⟩))::(.pointer (some ⟨q5, 0, none⟩))::(.pointer (some ⟨q6, 0, none⟩))::(.int .i64 4)::z42::z43::z44::z45::z46::z47::z48::z49::z50::z51::z52::z53::z54::z55::z56::z57::z58::z59::z60::z61::z62::z63::z64::z65::z66::z67::z68::z69::z70::z71::z72::z73::z74::z75::z76::z77::z78::z79::z80::z81::z82::z83::z84::z85::z86::z87::z88::z89::z90::z91::z92::z93::z94::z95::z96::z97::z98::z99::z100::z101::z102::z103::z104::z105::z106::z107::z108::z109::z110::z111::z112::z113::z114::z115::z116::z117::z118::z119::z120::z121::z122::z123::z124::z125::z126::z127::z128::z129::z130::z131::z132::z133::z134::z135::z136::z137::z138::z139::z140::z141::z142::z143::z144::z145::z146::z147::z148::z149::z150::z151::z152::z153::z154::z155::z156::z157::z158::z159::z160::z161::z162::z163::z164::z165::z166::z167::z168::z169::z170::z171::z172::z173::z174::z175::z176::z177::z178::z179::z180::z181::z182::z183::z184::z185::z186::z187::z188::z189::z190::z191::z192::z193::z194::z195::z196::z197::z198::z199::z200::z201::z202::z203::z204::z205::z206::z207::z208::z209::z210::z211::z212::z213::z214::z215::z216::z217::z218::z219::z220::z221::z222::z223::z224::z225::z226::z227::z228::z229::z230::z231::z232::z233::z234::z235::z236::z237::z238::z239::z240::s241::s242::s243::s244::s245::s246::s247::s248::s249::s250::s251::s252::s253::s254::s255::s256::s257::s258::s259::s260::s261::s262::s263::s264::s265::s266::s267::s268::s269::s270::s271::(.bool false)::z273::z274 :: []).toArray, []⟩ w3) :
    Code.wp Try.prog ((Try.f10.body.bind (findReg 36)).getD .skip) (Exit.then K Q) ⟨(z0::z1::(.int .u8 (far : Int))::z3::z4::z5::z6::z7::z8::z9::z10::z11::z12::z13::z14::z15::z16::z17::z18::z19::z20::z21::z22::z23::z24::z25::z26::z27::z28::z29::z30::z31::z32::z33::(.pointer (some ⟨q1, 0, none⟩))::(.pointer (some ⟨q2, 0, none⟩))::(.pointer (some ⟨q3, 0, none⟩))::(.int .i64 4)::(.pointer (some ⟨q4, 0, none⟩))::(.pointer (some ⟨q5, 0, none⟩))::(.pointer (some ⟨q6, 0, none⟩))::(.int .i64 4)::z42::z43::z44::z45::z46::z47::z48::z49::z50::z51::z52::z53::z54::z55::z56::z57::z58::z59::z60::z61::z62::z63::z64::z65::z66::z67::z68::z69::z70::z71::z72::z73::z74::z75::z76::z77::z78::z79::z80::z81::z82::z83::z84::z85::z86::z87::z88::z89::z90::z91::z92::z93::z94::z95::z96::z97::z98::z99::z100::z101::z102::z103::z104::z105::z106::z107::z108::z109::z110::z111::z112::z113::z114::z115::z116::z117::z118::z119::z120::z121::z122::z123::z124::z125::z126::z127::z128::z129::z130::z131::z132::z133::z134::z135::z136::z137::z138::z139::z140::z141::z142::z143::z144::z145::z146::z147::z148::z149::z150::z151::z152::z153::z154::z155::z156::z157::z158::z159::z160::z161::z162::z163::z164::z165::z166::z167::z168::z169::z170::z171::z172::z173::z174::z175::z176::z177::z178::z179::z180::z181::z182::z183::z184::z185::z186::z187::z188::z189::z190::z191::z192::z193::z194::z195::z196::z197::z198::z199::z200::z201::z202::z203::z204::z205::z206::z207::z208::z209::z210::z211::z212::z213::z214::z215::z216::z217::z218::z219::z220::z221::z222::z223::z224::z225::z226::z227::z228::z229::z230::z231::z232::z233::z234::z235::z236::z237::z238::z239::z240::z241::z242::z243::z244::z245::z246::z247::z248::z249::z250::z251::z252::z253::z254::z255::z256::z257::z258::z259::z260::z261::z262::z263::z264::z265::z266::z267::z268::z269::z270::z271::z272::z273::z274 :: []).toArray, []⟩ wA := by
  have HFIN := Lib.hid hfin
  clear hfin
  conv => arg 2; whnf
  refine (wpIn_wide (n := 1)).1 ?_
  refine wpIn_region_Wn (S := Below wA.heap.size wA) 32 (by kernel_rfl) (by kernel_rfl) (below_drew wA) (fun hHeld => ?_)
  refine wTk 0 241 ?_ ?_ ?_
  rotate_left
  · intro o h w k; (try dsimp only at k); simp only [gA, gB, gC, gG] at h; subst h; go_simp; try with_reducible rfl
  simp only [Act.put, gD, gE, gF]
  refine wTk 1 242 ?_ ?_ ?_
  rotate_left
  · intro o h w k; (try dsimp only at k); simp only [gA, gB, gC, gG] at h; subst h; go_simp; try with_reducible rfl
  simp only [Act.put, gD, gE, gF]
  refine wTk 2 243 ?_ ?_ ?_
  rotate_left
  · intro o h w k; (try dsimp only at k); simp only [gA, gB, gC, gG] at h; subst h; go_simp; try with_reducible rfl
  simp only [Act.put, gD, gE, gF]
  refine wTk 3 244 ?_ ?_ ?_
  rotate_left
  · intro o h w k; (try dsimp only at k); simp only [gA, gB, gC, gG] at h; subst h; go_simp; try with_reducible rfl
  simp only [Act.put, gD, gE, gF]
  refine wTk 4 245 ?_ ?_ ?_
  rotate_left
  · intro o h w k; (try dsimp only at k); simp only [gA, gB, gC, gG] at h; subst h; go_simp; try with_reducible rfl
  simp only [Act.put, gD, gE, gF]
  refine wTk 5 246 ?_ ?_ ?_
  rotate_left
  · intro o h w k; (try dsimp only at k); simp only [gA, gB, gC, gG] at h; subst h; go_simp; try with_reducible rfl
  simp only [Act.put, gD, gE, gF]
  refine wTk 6 247 ?_ ?_ ?_
  rotate_left
  · intro o h w k; (try dsimp only at k); simp only [gA, gB, gC, gG] at h; subst h; go_simp; try with_reducible rfl
  simp only [Act.put, gD, gE, gF]
  refine wpAnyW_skipD 7 248 (by kernel_rfl) (by kernel_rfl) (by kernel_rfl) (by kernel_rfl) (fun _ _ _ h => h) (by assumption) ?_
  simp only [Act.put, gD, gE, gF]
  refine wpAnyW_skipD 8 249 (by kernel_rfl) (by kernel_rfl) (by kernel_rfl) (by kernel_rfl) (fun _ _ _ h => h) (by assumption) ?_
  simp only [Act.put, gD, gE, gF]
  refine wpAnyW_skipD 9 250 (by kernel_rfl) (by kernel_rfl) (by kernel_rfl) (by kernel_rfl) (fun _ _ _ h => h) (by assumption) ?_
  simp only [Act.put, gD, gE, gF]
  refine wpAnyW_skipD 10 251 (by kernel_rfl) (by kernel_rfl) (by kernel_rfl) (by kernel_rfl) (fun _ _ _ h => h) (by assumption) ?_
  simp only [Act.put, gD, gE, gF]
  refine wpAnyW_skipD 11 252 (by kernel_rfl) (by kernel_rfl) (by kernel_rfl) (by kernel_rfl) (fun _ _ _ h => h) (by assumption) ?_
  simp only [Act.put, gD, gE, gF]
  refine wpAnyW_skipD 12 253 (by kernel_rfl) (by kernel_rfl) (by kernel_rfl) (by kernel_rfl) (fun _ _ _ h => h) (by assumption) ?_
  simp only [Act.put, gD, gE, gF]
  refine wpAnyW_skipD 13 254 (by kernel_rfl) (by kernel_rfl) (by kernel_rfl) (by kernel_rfl) (fun _ _ _ h => h) (by assumption) ?_
  simp only [Act.put, gD, gE, gF]
  refine wpAnyW_skipD 14 255 (by kernel_rfl) (by kernel_rfl) (by kernel_rfl) (by kernel_rfl) (fun _ _ _ h => h) (by assumption) ?_
  simp only [Act.put, gD, gE, gF]
  refine wpAnyW_skipD 15 256 (by kernel_rfl) (by kernel_rfl) (by kernel_rfl) (by kernel_rfl) (fun _ _ _ h => h) (by assumption) ?_
  simp only [Act.put, gD, gE, gF]
  refine wpAnyW_skipD 16 257 (by kernel_rfl) (by kernel_rfl) (by kernel_rfl) (by kernel_rfl) (fun _ _ _ h => h) (by assumption) ?_
  simp only [Act.put, gD, gE, gF]
  refine wpAnyW_skipD 17 258 (by kernel_rfl) (by kernel_rfl) (by kernel_rfl) (by kernel_rfl) (fun _ _ _ h => h) (by assumption) ?_
  simp only [Act.put, gD, gE, gF]
  refine wpAnyW_skipD 18 259 (by kernel_rfl) (by kernel_rfl) (by kernel_rfl) (by kernel_rfl) (fun _ _ _ h => h) (by assumption) ?_
  simp only [Act.put, gD, gE, gF]
  refine wpAnyW_skipD 19 260 (by kernel_rfl) (by kernel_rfl) (by kernel_rfl) (by kernel_rfl) (fun _ _ _ h => h) (by assumption) ?_
  simp only [Act.put, gD, gE, gF]
  refine wpAnyW_skipD 20 261 (by kernel_rfl) (by kernel_rfl) (by kernel_rfl) (by kernel_rfl) (fun _ _ _ h => h) (by assumption) ?_
  simp only [Act.put, gD, gE, gF]
  refine wpAnyW_skipD 21 262 (by kernel_rfl) (by kernel_rfl) (by kernel_rfl) (by kernel_rfl) (fun _ _ _ h => h) (by assumption) ?_
  simp only [Act.put, gD, gE, gF]
  refine wpAnyW_skipD 22 263 (by kernel_rfl) (by kernel_rfl) (by kernel_rfl) (by kernel_rfl) (fun _ _ _ h => h) (by assumption) ?_
  simp only [Act.put, gD, gE, gF]
  refine wpAnyW_skipD 23 264 (by kernel_rfl) (by kernel_rfl) (by kernel_rfl) (by kernel_rfl) (fun _ _ _ h => h) (by assumption) ?_
  simp only [Act.put, gD, gE, gF]
  refine wpAnyW_skipD 24 265 (by kernel_rfl) (by kernel_rfl) (by kernel_rfl) (by kernel_rfl) (fun _ _ _ h => h) (by assumption) ?_
  simp only [Act.put, gD, gE, gF]
  refine wpAnyW_skipD 25 266 (by kernel_rfl) (by kernel_rfl) (by kernel_rfl) (by kernel_rfl) (fun _ _ _ h => h) (by assumption) ?_
  simp only [Act.put, gD, gE, gF]
  refine wpAnyW_skipD 26 267 (by kernel_rfl) (by kernel_rfl) (by kernel_rfl) (by kernel_rfl) (fun _ _ _ h => h) (by assumption) ?_
  simp only [Act.put, gD, gE, gF]
  refine wpAnyW_skipD 27 268 (by kernel_rfl) (by kernel_rfl) (by kernel_rfl) (by kernel_rfl) (fun _ _ _ h => h) (by assumption) ?_
  simp only [Act.put, gD, gE, gF]
  refine wpAnyW_skipD 28 269 (by kernel_rfl) (by kernel_rfl) (by kernel_rfl) (by kernel_rfl) (fun _ _ _ h => h) (by assumption) ?_
  simp only [Act.put, gD, gE, gF]
  refine wpAnyW_skipD 29 270 (by kernel_rfl) (by kernel_rfl) (by kernel_rfl) (by kernel_rfl) (fun _ _ _ h => h) (by assumption) ?_
  simp only [Act.put, gD, gE, gF]
  refine wTk 30 271 ?_ ?_ ?_
  rotate_left
  · intro o h w k; (try dsimp only at k); simp only [gA, gB, gC, gG] at h; subst h; go_simp; try with_reducible rfl
  simp only [Act.put, gD, gE, gF]
  refine wTk 31 272 ?_ ?_ ?_
  rotate_left
  · intro o h w k; (try dsimp only at k); simp only [gA, gB, gC, gG] at h; subst h; go_simp; try with_reducible rfl
  simp only [Act.put, gD, gE, gF]
  refine wpAnyW_done (by kernel_rfl) ?_ _
  dsimp only [onNormal]
  exact HFIN.out _ _ _ _ _ _ _ _ _ _ _ _ _ _ _ _ _ _ _ _ _ _ _ _ _ _ _ _ _ _ _ _ hHeld

theorem ltu_reg36s (u : IStar) (far q1 q2 q3 q4 q5 q6 : Nat) (wA : World) {z0 z1 z3 z4 z5 z6 z7 z8 z9 z10 z11 z12 z13 z14 z15 z16 z17 z18 z19 z20 z21 z22 z23 z24 z25 z26 z27 z28 z29 z30 z31 z32 z33 z42 z43 z44 z45 z46 z47 z48 z49 z50 z51 z52 z53 z54 z55 z56 z57 z58 z59 z60 z61 z62 z63 z64 z65 z66 z67 z68 z69 z70 z71 z72 z73 z74 z75 z76 z77 z78 z79 z80 z81 z82 z83 z84 z85 z86 z87 z88 z89 z90 z91 z92 z93 z94 z95 z96 z97 z98 z99 z100 z101 z102 z103 z104 z105 z106 z107 z108 z109 z110 z111 z112 z113 z114 z115 z116 z117 z118 z119 z120 z121 z122 z123 z124 z125 z126 z127 z128 z129 z130 z131 z132 z133 z134 z135 z136 z137 z138 z139 z140 z141 z142 z143 z144 z145 z146 z147 z148 z149 z150 z151 z152 z153 z154 z155 z156 z157 z158 z159 z160 z161 z162 z163 z164 z165 z166 z167 z168 z169 z170 z171 z172 z173 z174 z175 z176 z177 z178 z179 z180 z181 z182 z183 z184 z185 z186 z187 z188 z189 z190 z191 z192 z193 z194 z195 z196 z197 z198 z199 z200 z201 z202 z203 z204 z205 z206 z207 z208 z209 z210 z211 z212 z213 z214 z215 z216 z217 z218 z219 z220 z221 z222 z223 z224 z225 z226 z227 z228 z229 z230 z231 z232 z233 z234 z235 z236 z237 z238 z239 z240 z273 z274 : Value} {z272 z241 z242 z243 z244 z245 z246 z247 z248 z249 z250 z251 z252 z253 z254 z255 z256 z257 z258 z259 z260 z261 z262 z263 z264 z265 z266 z267 z268 z269 z270 z271 : Value} (hf : far < 256) (hu : 0 ≤ u.x.lo ∧ u.x.lo ≤ 9000000 ∧ 0 ≤ u.x.hi ∧ u.x.hi ≤ 9000000) (g1 : wA.heap[q1]? = some (.cells #[.int .i64 u.x.lo, .int .i64 u.x.hi] 23)) (g2 : wA.heap[q2]? = some (.cells #[.int .i64 u.y.lo, .int .i64 u.y.hi] 23)) (g3 : wA.heap[q3]? = some (.cells #[.int .i64 u.s.lo, .int .i64 u.s.hi] 23)) (g4 : wA.heap[q4]? = some (.cells #[.int .i64 (u.x.lo + (far : Int)), .int .i64 (u.x.hi + (far : Int))] 23)) (g5 : wA.heap[q5]? = some (.cells #[.int .i64 u.y.lo, .int .i64 u.y.hi] 23)) (g6 : wA.heap[q6]? = some (.cells #[.int .i64 u.s.lo, .int .i64 u.s.hi] 23)) (K : Act → World → Prop) (Q : Exit → Act → World → Prop)
    (hfin : ∀ (s241 s242 s243 s244 s245 s246 s247 s248 s249 s250 s251 s252 s253 s254 s255 s256 s257 s258 s259 s260 s261 s262 s263 s264 s265 s266 s267 s268 s269 s270 s271 : Value) (w3 : World), Below wA.heap.size wA w3 → K ⟨(z0::z1::(.int .u8 (far : Int))::z3::z4::z5::z6::z7::z8::z9::z10::z11::z12::z13::z14::z15::z16::z17::z18::z19::z20::z21::z22::z23::z24::z25::z26::z27::z28::z29::z30::z31::z32::z33::(.pointer (some ⟨q1, 0, none⟩))::(.pointer (some ⟨q2, 0, none⟩))::(.pointer (some ⟨q3, 0, none⟩))::(.int .i64 0)::(.pointer (some ⟨q4, 0, none⟩))::(.pointer (some ⟨q5, 0, none⟩))::(.pointer (some ⟨q6, 0, none⟩))::(.int .i64 0)::z42::z43::z44::z45::z46::z47::z48::z49::z50::z51::z52::z53::z54::z55::z56::z57::z58::z59::z60::z61::z62::z63::z64::z65::z66::z67::z68::z69::z70::z71::z72::z73::z74::z75::z76::z77::z78::z79::z80::z81::z82::z83::z84::z85::z86::z87::z88::z89::z90::z91::z92::z93::z94::z95::z96::z97::z98::z99::z100::z101::z102::z103::z104::z105::z106::z107::z108::z109::z110::z111::z112::z113::z114::z115::z116::z117::z118::z119::z120::z121::z122::z123::z124::z125::z126::z127::z128::z129::z130::z131::z132::z133::z134::z135::z136::z137::z138::z139::z140::z141::z142::z143::z144::z145::z146::z147::z148::z149::z150::z151::z152::z153::z154::z155::z156::z157::z158::z159::z160::z161::z162::z163::z164::z165::z166::z167::z168::z169::z170::z171::z172::z173::z174::z175::z176::z177::z178::z179::z180::z181::z182::z183::z184::z185::z186::z187::z188::z189::z190::z191::z192::z193::z194::z195::z196::z197::z198::z199::z200::z201::z202::z203::z204::z205::z206::z207::z208::z209::z210::z211::z212::z213::z214::z215::z216::z217::z218::z219::z220::z221::z222::z223::z224::z225::z226::z227::z228::z229::z230::z231::z232::z233::z234::z235::z236::z237::z238::z239::z240::s241::s242::s243::s244::s245::s246::s247::s248::s249::s250::s251::s252::s253::s254::s255::s256::s257::s258::s259::s260::s261::s262::s263::s264::s265::s266::s267::s268::s269::s270::s271::(.bool false)::z273::z274 :: []).toArray, []⟩ w3) :
    Code.wp Try.prog ((Try.f10.body.bind (findReg 36)).getD .skip) (Exit.then K Q) ⟨(z0::z1::(.int .u8 (far : Int))::z3::z4::z5::z6::z7::z8::z9::z10::z11::z12::z13::z14::z15::z16::z17::z18::z19::z20::z21::z22::z23::z24::z25::z26::z27::z28::z29::z30::z31::z32::z33::(.pointer (some ⟨q1, 0, none⟩))::(.pointer (some ⟨q2, 0, none⟩))::(.pointer (some ⟨q3, 0, none⟩))::(.int .i64 0)::(.pointer (some ⟨q4, 0, none⟩))::(.pointer (some ⟨q5, 0, none⟩))::(.pointer (some ⟨q6, 0, none⟩))::(.int .i64 0)::z42::z43::z44::z45::z46::z47::z48::z49::z50::z51::z52::z53::z54::z55::z56::z57::z58::z59::z60::z61::z62::z63::z64::z65::z66::z67::z68::z69::z70::z71::z72::z73::z74::z75::z76::z77::z78::z79::z80::z81::z82::z83::z84::z85::z86::z87::z88::z89::z90::z91::z92::z93::z94::z95::z96::z97::z98::z99::z100::z101::z102::z103::z104::z105::z106::z107::z108::z109::z110::z111::z112::z113::z114::z115::z116::z117::z118::z119::z120::z121::z122::z123::z124::z125::z126::z127::z128::z129::z130::z131::z132::z133::z134::z135::z136::z137::z138::z139::z140::z141::z142::z143::z144::z145::z146::z147::z148::z149::z150::z151::z152::z153::z154::z155::z156::z157::z158::z159::z160::z161::z162::z163::z164::z165::z166::z167::z168::z169::z170::z171::z172::z173::z174::z175::z176::z177::z178::z179::z180::z181::z182::z183::z184::z185::z186::z187::z188::z189::z190::z191::z192::z193::z194::z195::z196::z197::z198::z199::z200::z201::z202::z203::z204::z205::z206::z207::z208::z209::z210::z211::z212::z213::z214::z215::z216::z217::z218::z219::z220::z221::z222::z223::z224::z225::z226::z227::z228::z229::z230::z231::z232::z233::z234::z235::z236::z237::z238::z239::z240::z241::z242::z243::z244::z245::z246::z247::z248::z249::z250::z251::z252::z253::z254::z255::z256::z257::z258::z259::z260::z261::z262::z263::z264::z265::z266::z267::z268::z269::z270::z271::z272::z273::z274 :: []).toArray, []⟩ wA := by
  have HFIN := Lib.hid hfin
  clear hfin
  have ax0 := cell_block g1 0
  have ax1 := cell_block g1 1
  simp only [gA, gB, gC] at ax0 ax1
  have a0 := iheld ax0 (Nat.le_refl _)
  have a1 := iheld ax1 (Nat.le_refl _)
  clear ax0 ax1 g1
  have bx0 := cell_block g2 0
  have bx1 := cell_block g2 1
  simp only [gA, gB, gC] at bx0 bx1
  have b0 := iheld bx0 (Nat.le_refl _)
  have b1 := iheld bx1 (Nat.le_refl _)
  clear bx0 bx1 g2
  have cx0 := cell_block g3 0
  have cx1 := cell_block g3 1
  simp only [gA, gB, gC] at cx0 cx1
  have c0 := iheld cx0 (Nat.le_refl _)
  have c1 := iheld cx1 (Nat.le_refl _)
  clear cx0 cx1 g3
  have dx0 := cell_block g4 0
  have dx1 := cell_block g4 1
  simp only [gA, gB, gC] at dx0 dx1
  have d0 := iheld dx0 (Nat.le_refl _)
  have d1 := iheld dx1 (Nat.le_refl _)
  clear dx0 dx1 g4
  have ex0 := cell_block g5 0
  have ex1 := cell_block g5 1
  simp only [gA, gB, gC] at ex0 ex1
  have e0 := iheld ex0 (Nat.le_refl _)
  have e1 := iheld ex1 (Nat.le_refl _)
  clear ex0 ex1 g5
  have fx0 := cell_block g6 0
  have fx1 := cell_block g6 1
  simp only [gA, gB, gC] at fx0 fx1
  have f0 := iheld fx0 (Nat.le_refl _)
  have f1 := iheld fx1 (Nat.le_refl _)
  clear fx0 fx1 g6
  obtain ⟨u1, u2, u3, u4⟩ := hu
  have T0 : IntKind.i64.wrap (far : Int) = (far : Int) := by rw [IntKind.wrap_i64]; omega
  have T1 : IntKind.i64.wrap (u.x.lo + (far : Int)) = u.x.lo + (far : Int) := by rw [IntKind.wrap_i64]; omega
  have T2 : IntKind.i64.wrap (u.x.hi + (far : Int)) = u.x.hi + (far : Int) := by rw [IntKind.wrap_i64]; omega
  have N1 := ispan_neq (u.x.lo + (far : Int)) (u.x.hi + (far : Int))
  have N2 := ispan_neq u.y.lo u.y.hi
  have N3 := ispan_neq u.s.lo u.s.hi
  conv => arg 2; whnf
  refine (wpIn_wide (n := 1)).1 ?_
  refine wpIn_region_Wn (S := Below wA.heap.size wA) 32 (by kernel_rfl) (by kernel_rfl) (below_drew wA) (fun hHeld => ?_)
  have H0 := hHeld
  generalize wA.drew = w0 at H0 hHeld ⊢
  refine wTk 0 241 ?_ ?_ ?_
  rotate_left
  · intro o h w k; (try dsimp only at k); simp only [gA, gB, gC, gG] at h; subst h; go_simp; try with_reducible rfl
  simp only [Act.put, gD, gE, gF]
  refine wTk 1 242 ?_ ?_ ?_
  rotate_left
  · intro o h w k; (try dsimp only at k); simp only [gA, gB, gC, gG] at h; subst h; go_simp; try with_reducible rfl
  simp only [Act.put, gD, gE, gF]
  refine wTk 2 243 ?_ ?_ ?_
  rotate_left
  · intro o h w k; (try dsimp only at k); simp only [gA, gB, gC, gG] at h; subst h; go_simp; try with_reducible rfl
  simp only [Act.put, gD, gE, gF]
  refine wTk 3 244 ?_ ?_ ?_
  rotate_left
  · intro o h w k; (try dsimp only at k); simp only [gA, gB, gC, gG] at h; subst h; go_simp; try with_reducible rfl
  simp only [Act.put, gD, gE, gF]
  refine wTk 4 245 ?_ ?_ ?_
  rotate_left
  · intro o h w k; (try dsimp only at k); simp only [gA, gB, gC, gG] at h; subst h; go_simp; try with_reducible rfl
  simp only [Act.put, gD, gE, gF]
  refine wTk 5 246 ?_ ?_ ?_
  rotate_left
  · intro o h w k; (try dsimp only at k); simp only [gA, gB, gC, gG] at h; subst h; go_simp; try with_reducible rfl
  simp only [Act.put, gD, gE, gF]
  refine wTk 6 247 ?_ ?_ ?_
  rotate_left
  · intro o h w k; (try dsimp only at k); simp only [gA, gB, gC, gG] at h; subst h; go_simp; try with_reducible rfl
  simp only [Act.put, gD, gE, gF]
  refine wTk 7 248 ?_ ?_ ?_
  rotate_left
  · intro o h w k; (try dsimp only at k); simp only [gA, gB, gC, gG] at h; subst h; go_simp; try with_reducible rfl
  simp only [Act.put, gD, gE, gF]
  refine wTk 8 249 ?_ ?_ ?_
  rotate_left
  · intro o h w k; (try dsimp only at k); simp only [gA, gB, gC, gG] at h; subst h; go_simp; try with_reducible rfl
  simp only [Act.put, gD, gE, gF]
  refine wTk 9 250 ?_ ?_ ?_
  rotate_left
  · intro o h w k; (try dsimp only at k); simp only [gA, gB, gC, gG] at h; subst h; go_simp; try with_reducible rfl
  simp only [Act.put, gD, gE, gF]
  refine wTk 10 251 ?_ ?_ ?_
  rotate_left
  · intro o h w k; (try dsimp only at k); simp only [gA, gB, gC, gG] at h; subst h; go_simp; try with_reducible rfl
  simp only [Act.put, gD, gE, gF]
  refine wTk 11 252 ?_ ?_ ?_
  rotate_left
  · intro o h w k; (try dsimp only at k); simp only [gA, gB, gC, gG] at h; subst h; go_simp; try with_reducible rfl
  simp only [Act.put, gD, gE, gF]
  refine wTk 12 253 ?_ ?_ ?_
  rotate_left
  · intro o h w k; (try dsimp only at k); simp only [gA, gB, gC, gG] at h; subst h; go_simp; try with_reducible rfl
  simp only [Act.put, gD, gE, gF]
  refine wTk 13 254 ?_ ?_ ?_
  rotate_left
  · intro o h w k; (try dsimp only at k); simp only [gA, gB, gC, gG] at h; subst h; go_simp; try with_reducible rfl
  simp only [Act.put, gD, gE, gF]
  refine wTk 14 255 ?_ ?_ ?_
  rotate_left
  · intro o h w k; (try dsimp only at k); simp only [gA, gB, gC, gG] at h; subst h; go_simp; try with_reducible rfl
  simp only [Act.put, gD, gE, gF]
  refine wTk 15 256 ?_ ?_ ?_
  rotate_left
  · intro o h w k; (try dsimp only at k); simp only [gA, gB, gC, gG] at h; subst h; go_simp; try with_reducible rfl
  simp only [Act.put, gD, gE, gF]
  refine wTk 16 257 ?_ ?_ ?_
  rotate_left
  · intro o h w k; (try dsimp only at k); simp only [gA, gB, gC, gG] at h; subst h; go_simp; try with_reducible rfl
  simp only [Act.put, gD, gE, gF]
  refine wTk 17 258 ?_ ?_ ?_
  rotate_left
  · intro o h w k; (try dsimp only at k); simp only [gA, gB, gC, gG] at h; subst h; go_simp; try with_reducible rfl
  simp only [Act.put, gD, gE, gF]
  refine wpAnyW_one 18 (by kernel_rfl) (by kernel_rfl) ?_
  intro o ho K hK
  simp only [gA, gB, gC, gG] at ho
  subst ho
  go_simp
  refine ⟨trivial, CallsIn.mono (callsIn_wide.2 (ilspan_any _ _ w0)) ?_⟩
  rintro e w1 ⟨rfl, hb⟩
  have H1 := H0.trans (hb.mono H0.size)
  refine hK _ _ H1 (fun _ => ?_)
  clear hK K hb H0 hHeld
  try simp only [Act.put, gD, gE, gF]
  refine wTk 19 260 ?_ ?_ ?_
  rotate_left
  · intro o h w k; (try dsimp only at k); simp only [gA, gB, gC, gG] at h; subst h; go_simp; try with_reducible rfl
  simp only [Act.put, gD, gE, gF]
  refine wTk 20 261 ?_ ?_ ?_
  rotate_left
  · intro o h w k; (try dsimp only at k); simp only [gA, gB, gC, gG] at h; subst h; go_simp; try with_reducible rfl
  simp only [Act.put, gD, gE, gF]
  refine wTk 21 262 ?_ ?_ ?_
  rotate_left
  · intro o h w k; (try dsimp only at k); simp only [gA, gB, gC, gG] at h; subst h; go_simp; try with_reducible rfl
  simp only [Act.put, gD, gE, gF]
  refine wTk 22 263 ?_ ?_ ?_
  rotate_left
  · intro o h w k; (try dsimp only at k); simp only [gA, gB, gC, gG] at h; subst h; go_simp; try with_reducible rfl
  simp only [Act.put, gD, gE, gF]
  refine wTk 23 264 ?_ ?_ ?_
  rotate_left
  · intro o h w k; (try dsimp only at k); simp only [gA, gB, gC, gG] at h; subst h; go_simp; try with_reducible rfl
  simp only [Act.put, gD, gE, gF]
  refine wTk 24 265 ?_ ?_ ?_
  rotate_left
  · intro o h w k; (try dsimp only at k); simp only [gA, gB, gC, gG] at h; subst h; go_simp; try with_reducible rfl
  simp only [Act.put, gD, gE, gF]
  refine wTk 25 266 ?_ ?_ ?_
  rotate_left
  · intro o h w k; (try dsimp only at k); simp only [gA, gB, gC, gG] at h; subst h; go_simp; try with_reducible rfl
  simp only [Act.put, gD, gE, gF]
  refine wTk 26 267 ?_ ?_ ?_
  rotate_left
  · intro o h w k; (try dsimp only at k); simp only [gA, gB, gC, gG] at h; subst h; go_simp; try with_reducible rfl
  simp only [Act.put, gD, gE, gF]
  refine wTk 27 268 ?_ ?_ ?_
  rotate_left
  · intro o h w k; (try dsimp only at k); simp only [gA, gB, gC, gG] at h; subst h; go_simp; try with_reducible rfl
  simp only [Act.put, gD, gE, gF]
  refine wTk 28 269 ?_ ?_ ?_
  rotate_left
  · intro o h w k; (try dsimp only at k); simp only [gA, gB, gC, gG] at h; subst h; go_simp; try with_reducible rfl
  simp only [Act.put, gD, gE, gF]
  refine wTk 29 270 ?_ ?_ ?_
  rotate_left
  · intro o h w k; (try dsimp only at k); simp only [gA, gB, gC, gG] at h; subst h; go_simp; try with_reducible rfl
  simp only [Act.put, gD, gE, gF]
  refine wTk 30 271 ?_ ?_ ?_
  rotate_left
  · intro o h w k; (try dsimp only at k); simp only [gA, gB, gC, gG] at h; subst h; go_simp; try with_reducible rfl
  simp only [Act.put, gD, gE, gF]
  refine wTk 31 272 ?_ ?_ ?_
  rotate_left
  · intro o h w k; (try dsimp only at k); simp only [gA, gB, gC, gG] at h; subst h; go_simp; try with_reducible rfl
  simp only [Act.put, gD, gE, gF]
  refine wpAnyW_done (by kernel_rfl) ?_ _
  dsimp only [onNormal]
  exact HFIN.out _ _ _ _ _ _ _ _ _ _ _ _ _ _ _ _ _ _ _ _ _ _ _ _ _ _ _ _ _ _ _ _ H1
end Go.Proofs.Ytacioedolmaofaa
namespace Go.Proofs.Ytacioedolmaofaa
set_option linter.unusedVariables false
set_option maxRecDepth 100000

theorem wayErr_ok' {s : ISheet} (hok : s.ok = true) : wayErr s true = if (wayTold s).many = 0 then 4 else 0 := by
  unfold wayErr
  rw [hok]
  rfl
theorem turn_nil {s : ISheet} (h : s.l.length = 0) (k : Nat) (far : Int) : turnS s k far = s := by
  have hl : s.l = [] := List.eq_nil_of_length_eq_zero h
  obtain ⟨a, b, c, d, e, f, g, i, l⟩ := s
  simp only at hl
  subst hl
  rfl
theorem turn_all {s : ISheet} (hs : s.ok = true) (k : Nat) (far : Nat) (hb : ∀ p ∈ s.l, p.x.hi + (far : Int) ≤ 1048576) :
    (turnS s k far).ok = true ∧ TurnIs s (turnS s k far) (fun i => (i + k) % s.l.length) far := by
  have hx := turn_ok hs k (far : Int) (by omega) hb
  refine ⟨hx, ?_⟩
  by_cases h0 : s.l.length = 0
  · rw [turn_nil h0]
    exact ⟨rfl, rfl, fun _ => ⟨rfl, rfl⟩, fun _ k hk => by omega, fun k hk => by omega⟩
  · exact turnIs (turn_ren k far (by omega)) hs hx
/-- What is compared. -/
structure TurnV (s x : ISheet) (turn : Nat) (far : Int) (lo hi e4 : Int) (st fl su gu : Nat) (ws : Nat → Option IStar) : Prop where
  sr : itStars s = (lo, hi, e4)
  sx : itStars x = (lo, hi, e4)
  tl : itTell s = ((st : Int), (fl : Int), e4)
  tx : itTell x = ((su : Int), (gu : Int), e4)
  st9 : st < 512
  fl9 : fl < 512
  su9 : su < 512
  gu9 : gu < 512
  b1 : ∀ k, k < s.l.length → st.testBit k = su.testBit ((k + turn) % s.l.length)
  b2 : ∀ k, k < s.l.length → fl.testBit k = gu.testBit ((k + turn) % s.l.length)
  w1 : ∀ k : Nat, k < s.l.length → itWhere s (k : Int) = (ws k, if (ws k).isSome then 0 else 4)
  w2 : ∀ k : Nat, k < s.l.length → itWhere x (((k + turn) % s.l.length : Nat) : Int) = ((ws k).map (shiftS far), if (ws k).isSome then 0 else 4)
  bd : ∀ k, k < s.l.length → ∀ u, ws k = some u → 0 ≤ u.x.lo ∧ u.x.lo ≤ 9000000 ∧ 0 ≤ u.x.hi ∧ u.x.hi ≤ 9000000
theorem turnV {s : ISheet} (hs : s.ok = true) (turn far : Nat) (hb : ∀ p ∈ s.l, p.x.hi + (far : Int) ≤ 1048576) :
    ∃ lo hi e4 st fl su gu ws, TurnV s (turnS s turn far) turn far lo hi e4 st fl su gu ws := by
  obtain ⟨hx, hT⟩ := turn_all hs turn far hb
  have hlen : (turnS s turn far).l.length = s.l.length := turnTo_len _ _ _ _
  generalize turnS s turn far = x at hx hT hlen
  have e1 := wayErr_ok' hs
  have e2 := wayErr_ok' hx
  rw [← hT.many] at e2
  have sp1 : ∀ k : Nat, k < s.l.length → spotOk s (k : Int) = true := fun k hk => by unfold spotOk; simp; omega
  have sp2 : ∀ k : Nat, k < s.l.length → spotOk x (((k + turn) % s.l.length : Nat) : Int) = true := fun k hk => by
    have := Nat.mod_lt (k + turn) (show 0 < s.l.length by omega)
    generalize (k + turn) % s.l.length = j at this ⊢
    unfold spotOk
    rw [hlen]
    simp
    omega
  have t1 : itTell s = if wayErr s true = 0 then (((tStars s : Nat) : Int), ((tFlaws s : Nat) : Int), 0) else (0, 0, wayErr s true) := rfl
  have t2 : itTell x = if wayErr x true = 0 then (((tStars x : Nat) : Int), ((tFlaws x : Nat) : Int), 0) else (0, 0, wayErr x true) := rfl
  have r1 : itStars s = if wayErr s true = 0 then ((wayTold s).lo, (wayTold s).hi, 0) else (0, 0, wayErr s true) := rfl
  have r2 : itStars x = if wayErr x true = 0 then ((wayTold x).lo, (wayTold x).hi, 0) else (0, 0, wayErr x true) := rfl
  by_cases hm : (wayTold s).many = 0
  · rw [if_pos hm] at e1 e2
    rw [e1, if_neg (by decide)] at t1 r1
    rw [e2, if_neg (by decide)] at t2 r2
    refine ⟨0, 0, 4, 0, 0, 0, 0, fun _ => none, r1, r2, t1, t2, by omega, by omega, by omega, by omega, fun k _ => by simp, fun k _ => by simp, fun k hk => ?_, fun k hk => ?_, fun k _ u h => by cases h⟩
    · unfold itWhere
      rw [sp1 k hk, e1, if_neg (by decide)]
      rfl
    · unfold itWhere
      rw [sp2 k hk, e2, if_neg (by decide)]
      rfl
  · have hmx : (wayTold x).many ≠ 0 := by rw [← hT.many]; exact hm
    rw [if_neg hm] at e1 e2
    rw [e1, if_pos rfl] at t1 r1
    rw [e2, if_pos rfl] at t2 r2
    have hl := hT.lo hm
    rw [← hl.1, ← hl.2] at r2
    have o1 := openFacts hs hm
    have o2 := openFacts hx hmx
    have hin : ∀ k, k < s.l.length → ∀ u, whereTo s (k : Int) s.trails.length = some u → 0 ≤ u.x.lo ∧ u.x.lo ≤ 9000000 ∧ 0 ≤ u.x.hi ∧ u.x.hi ≤ 9000000 := fun k hk u hu => by
      obtain ⟨_, hst, _⟩ := o1.at' k hk u hu
      have hx1 := hst.x
      have hat : s.at' (k : Int) = s.l[k] := by
        unfold ISheet.at'
        rw [List.getD_eq_getElem?_getD, Int.toNat_natCast, List.getElem?_eq_getElem hk]; rfl
      have hsp := ((spot_iff _).1 (List.all_eq_true.1 ((iok_iff s).1 hs).2.2.2.2.2.2.1 _ (List.getElem_mem hk))).1
      rw [hat] at hx1
      omega
    refine ⟨_, _, 0, _, _, _, _, fun k => whereTo s (k : Int) s.trails.length, r1, r2, t1, t2, o1.st9, o1.fl9, o2.st9, o2.fl9, fun k hk => (hT.bits hm k hk).1, fun k hk => (hT.bits hm k hk).2, fun k hk => ?_, fun k hk => ?_, hin⟩
    · unfold itWhere
      rw [sp1 k hk, e1, if_pos rfl]
    · unfold itWhere
      rw [sp2 k hk, e2, if_pos rfl, hT.at' k hk]
      cases whereTo s (k : Int) s.trails.length <;> rfl
end Go.Proofs.Ytacioedolmaofaa
