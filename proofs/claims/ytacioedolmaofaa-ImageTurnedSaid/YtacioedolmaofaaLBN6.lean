/- ImageTurned, walked: the second place of a star. -/
import Derived.Test.YtacioedolmaofaaLBN4
namespace Go.Proofs.Ytacioedolmaofaa
open Go.RowKit Go.Shelf
set_option maxHeartbeats 12800000
set_option maxRecDepth 100000
set_option linter.unusedSimpArgs false
set_option linter.unusedVariables false

theorem wpAnyW_mem {P : Program} {n : Nat} {md : Region.Mode} {ops : Array Oper} {Q : Exit → Act → World → Prop} {S : World → Prop} (l : List Nat) {fuel : Nat} {listed : Array Bool} {a : Act} {w : World} (hr : Region.ready md ops listed = l) (hne : l ≠ [])
    (hg : ∀ i ∈ l, ((ops[i]?).map fun o => Region.wanted o (yielded ops a.tmps)) = some true)
    (h : ∀ i ∈ l, ∀ o, ops[i]? = some o → ∀ K : Act → World → Prop, (∀ a' w', S w' → (S w' → wpAnyW P n md ops Q S fuel (listed.setIfInBounds i true) a' w') → K a' w') → Oper.wpIn Fence.wide n P o a w K Q) :
    wpAnyW P n md ops Q S (fuel + 1) listed a w := by
  refine ⟨fun h0 => absurd (hr.symm.trans h0) hne, ?_⟩
  intro k hk
  rw [hr] at hk
  unfold wpOpIn
  cases ho : ops[k]? with
  | none => have := hg k hk; rw [ho] at this; simp at this
  | some o =>
    have hg1 := hg k hk
    rw [ho] at hg1
    simp at hg1
    simp only [if_pos hg1]
    exact h k hk o ho _ fun a' w' hS hk => ⟨hS, hk hS⟩
theorem wpAnyW_trio {P : Program} {n : Nat} {md : Region.Mode} {ops : Array Oper} {Q : Exit → Act → World → Prop} {S : World → Prop} (i j k : Nat) {fuel : Nat} {listed : Array Bool} {a : Act} {w : World} (hr : Region.ready md ops listed = [i, j, k])
    (hg : (((ops[i]?).map fun o => Region.wanted o (yielded ops a.tmps)) = some true) ∧ (((ops[j]?).map fun o => Region.wanted o (yielded ops a.tmps)) = some true) ∧ (((ops[k]?).map fun o => Region.wanted o (yielded ops a.tmps)) = some true))
    (hi : ∀ o, ops[i]? = some o → ∀ K : Act → World → Prop, (∀ a' w', S w' → (S w' → wpAnyW P n md ops Q S fuel (listed.setIfInBounds i true) a' w') → K a' w') → Oper.wpIn Fence.wide n P o a w K Q)
    (hj : ∀ o, ops[j]? = some o → ∀ K : Act → World → Prop, (∀ a' w', S w' → (S w' → wpAnyW P n md ops Q S fuel (listed.setIfInBounds j true) a' w') → K a' w') → Oper.wpIn Fence.wide n P o a w K Q)
    (hk : ∀ o, ops[k]? = some o → ∀ K : Act → World → Prop, (∀ a' w', S w' → (S w' → wpAnyW P n md ops Q S fuel (listed.setIfInBounds k true) a' w') → K a' w') → Oper.wpIn Fence.wide n P o a w K Q)
    : wpAnyW P n md ops Q S (fuel + 1) listed a w :=
  wpAnyW_mem _ hr (by simp) (by simp only [List.mem_cons, List.not_mem_nil, or_false]; rintro t (rfl | rfl | rfl) <;> first | exact hg.1 | exact hg.2.1 | exact hg.2.2) (by simp only [List.mem_cons, List.not_mem_nil, or_false]; rintro t (rfl | rfl | rfl) <;> first | exact hi | exact hj | exact hk)
theorem wpAnyW_four {P : Program} {n : Nat} {md : Region.Mode} {ops : Array Oper} {Q : Exit → Act → World → Prop} {S : World → Prop} (i j k l : Nat) {fuel : Nat} {listed : Array Bool} {a : Act} {w : World} (hr : Region.ready md ops listed = [i, j, k, l])
    (hg : (((ops[i]?).map fun o => Region.wanted o (yielded ops a.tmps)) = some true) ∧ (((ops[j]?).map fun o => Region.wanted o (yielded ops a.tmps)) = some true) ∧ (((ops[k]?).map fun o => Region.wanted o (yielded ops a.tmps)) = some true) ∧ (((ops[l]?).map fun o => Region.wanted o (yielded ops a.tmps)) = some true))
    (hi : ∀ o, ops[i]? = some o → ∀ K : Act → World → Prop, (∀ a' w', S w' → (S w' → wpAnyW P n md ops Q S fuel (listed.setIfInBounds i true) a' w') → K a' w') → Oper.wpIn Fence.wide n P o a w K Q)
    (hj : ∀ o, ops[j]? = some o → ∀ K : Act → World → Prop, (∀ a' w', S w' → (S w' → wpAnyW P n md ops Q S fuel (listed.setIfInBounds j true) a' w') → K a' w') → Oper.wpIn Fence.wide n P o a w K Q)
    (hk : ∀ o, ops[k]? = some o → ∀ K : Act → World → Prop, (∀ a' w', S w' → (S w' → wpAnyW P n md ops Q S fuel (listed.setIfInBounds k true) a' w') → K a' w') → Oper.wpIn Fence.wide n P o a w K Q)
    (hl : ∀ o, ops[l]? = some o → ∀ K : Act → World → Prop, (∀ a' w', S w' → (S w' → wpAnyW P n md ops Q S fuel (listed.setIfInBounds l true) a' w') → K a' w') → Oper.wpIn Fence.wide n P o a w K Q)
    : wpAnyW P n md ops Q S (fuel + 1) listed a w :=
  wpAnyW_mem _ hr (by simp) (by simp only [List.mem_cons, List.not_mem_nil, or_false]; rintro t (rfl | rfl | rfl | rfl) <;> first | exact hg.1 | exact hg.2.1 | exact hg.2.2.1 | exact hg.2.2.2) (by simp only [List.mem_cons, List.not_mem_nil, or_false]; rintro t (rfl | rfl | rfl | rfl) <;> first | exact hi | exact hj | exact hk | exact hl)
theorem wpAnyW_listed {P : Program} {n : Nat} {md : Region.Mode} {ops : Array Oper} {Q : Exit → Act → World → Prop} {S : World → Prop} {fuel : Nat} {l l' : Array Bool} {a : Act} {w : World} (h : l' = l) (k : wpAnyW P n md ops Q S fuel l a w) : wpAnyW P n md ops Q S fuel l' a w := by rw [h]; exact k
/-- The operations of region 35. -/
noncomputable def otu35 : Array Oper := match (Try.f10.body.bind (findReg 35)).getD .skip with
  | .region _ o _ => o
  | _ => #[]
/-- The slots in region 35. -/
def fr35 (z0 z1 z2 z3 z4 z5 z6 z7 z8 z9 z10 z11 z12 z13 z14 z15 z16 z17 z18 z19 z20 z21 z22 z23 z24 z25 z26 z27 z28 z29 z30 z31 z32 z33 z34 z35 z36 z37 z41 z42 z43 z44 z45 z46 z47 z48 z49 z50 z51 z52 z53 z54 z55 z56 z57 z58 z59 z60 z61 z62 z63 z64 z65 z66 z67 z68 z69 z70 z71 z72 z73 z74 z75 z76 z77 z78 z79 z80 z81 z82 z83 z84 z85 z86 z87 z88 z89 z90 z91 z92 z93 z94 z95 z96 z97 z98 z99 z100 z101 z102 z103 z104 z105 z106 z107 z108 z109 z110 z111 z112 z113 z114 z115 z116 z117 z118 z119 z120 z121 z122 z123 z124 z125 z126 z127 z128 z129 z130 z131 z132 z133 z134 z135 z136 z137 z138 z139 z140 z141 z142 z143 z144 z145 z146 z147 z148 z149 z150 z151 z152 z153 z154 z155 z156 z157 z158 z159 z160 z161 z162 z163 z164 z165 z166 z167 z168 z169 z170 z171 z172 z173 z174 z175 z176 z177 z178 z179 z180 z181 z182 z183 z184 z185 z186 z187 z188 z189 z190 z191 z192 z193 z194 z195 z196 z197 z198 z199 z200 z201 z202 z203 z204 z205 z206 z207 z208 z209 z210 z211 z212 z213 z214 z215 z216 z217 z218 z219 z220 z221 z222 z223 z224 z225 z226 z227 z228 z229 z230 z232 z233 z234 z241 z242 z243 z244 z245 z246 z247 z248 z249 z250 z251 z252 z253 z254 z255 z256 z257 z258 z259 z260 z261 z262 z263 z264 z265 z266 z267 z268 z269 z270 z271 z272 z273 z274 z38 z39 z40 z231 z235 z236 z237 z238 z239 z240 : Value) : Act := { tmps := #[z0, z1, z2, z3, z4, z5, z6, z7, z8, z9, z10, z11, z12, z13, z14, z15, z16, z17, z18, z19, z20, z21, z22, z23, z24, z25, z26, z27, z28, z29, z30, z31, z32, z33, z34, z35, z36, z37, z38, z39, z40, z41, z42, z43, z44, z45, z46, z47, z48, z49, z50, z51, z52, z53, z54, z55, z56, z57, z58, z59, z60, z61, z62, z63, z64, z65, z66, z67, z68, z69, z70, z71, z72, z73, z74, z75, z76, z77, z78, z79, z80, z81, z82, z83, z84, z85, z86, z87, z88, z89, z90, z91, z92, z93, z94, z95, z96, z97, z98, z99, z100, z101, z102, z103, z104, z105, z106, z107, z108, z109, z110, z111, z112, z113, z114, z115, z116, z117, z118, z119, z120, z121, z122, z123, z124, z125, z126, z127, z128, z129, z130, z131, z132, z133, z134, z135, z136, z137, z138, z139, z140, z141, z142, z143, z144, z145, z146, z147, z148, z149, z150, z151, z152, z153, z154, z155, z156, z157, z158, z159, z160, z161, z162, z163, z164, z165, z166, z167, z168, z169, z170, z171, z172, z173, z174, z175, z176, z177, z178, z179, z180, z181, z182, z183, z184, z185, z186, z187, z188, z189, z190, z191, z192, z193, z194, z195, z196, z197, z198, z199, z200, z201, z202, z203, z204, z205, z206, z207, z208, z209, z210, z211, z212, z213, z214, z215, z216, z217, z218, z219, z220, z221, z222, z223, z224, z225, z226, z227, z228, z229, z230, z231, z232, z233, z234, z235, z236, z237, z238, z239, z240, z241, z242, z243, z244, z245, z246, z247, z248, z249, z250, z251, z252, z253, z254, z255, z256, z257, z258, z259, z260, z261, z262, z263, z264, z265, z266, z267, z268, z269, z270, z271, z272, z273, z274], defers := [] }
/-- A block more. -/
theorem al35 {Q : Exit → Act → World → Prop} {fuel : Nat} {listed : Array Bool} {a : Act} {w wA : World} (i d : Nat) (hop : (otu35[i]?).map (fun o => (o.op, o.dst, o.guard)) = some (Op.alloc 23, some d, none)) (H : Below wA.heap.size wA w)
    (h : ∀ q w', Below wA.heap.size wA w' → wA.heap.size ≤ q → w'.heap[q]? = some (.cells #[.int .i64 0, .int .i64 0] 23) → Below w.heap.size w w' → w.heap.size = q → wpAnyW Try.prog 1 Region.Mode.any otu35 Q (Below wA.heap.size wA) fuel (listed.setIfInBounds i true) (a.put (some d) (.pointer (some ⟨q, 0, none⟩))) w') :
    ∀ o, otu35[i]? = some o → ∀ K : Act → World → Prop, (∀ a' w', Below wA.heap.size wA w' → (Below wA.heap.size wA w' → wpAnyW Try.prog 1 Region.Mode.any otu35 Q (Below wA.heap.size wA) fuel (listed.setIfInBounds i true) a' w') → K a' w') → Oper.wpIn Fence.wide 1 Try.prog o a w K Q := by
  intro o ho K hK
  rw [ho] at hop
  simp only [Option.map_some, Option.some.injEq, Prod.mk.injEq] at hop
  obtain ⟨h1, h2, h3⟩ := hop
  obtain ⟨dst, op, ty, pos, aft, gd⟩ := o
  simp only at h1 h2 h3
  subst h1 h2 h3
  clear ho
  have A1 := obj_new w (.cells #[.int .i64 0, .int .i64 0] 23)
  have b1 := below_alloc w (.cells #[.int .i64 0, .int .i64 0] 23)
  have H1 := H.trans (b1.mono H.size)
  have hh := h w.heap.size (w.alloc (.cells #[.int .i64 0, .int .i64 0] 23)) H1 H.size A1 b1 rfl
  clear h A1 b1
  go_simp
  exact hK _ _ H1 (fun _ => hh)

theorem ltu_reg35 (s x : ISheet) (xa : Option Addr) (xc p4 p7 q10 turn m j : Nat) (a1 a2 b1 b2 c1 c2 r : Int) (wA : World) {z0 z1 z2 z3 z4 z5 z6 z7 z8 z9 z11 z13 z14 z15 z16 z17 z18 z19 z20 z21 z22 z23 z24 z25 z26 z27 z28 z29 z30 z31 z32 z34 z35 z36 z37 z42 z43 z44 z45 z46 z47 z48 z49 z50 z51 z52 z53 z54 z55 z56 z57 z58 z59 z60 z61 z62 z63 z64 z65 z66 z67 z68 z69 z70 z71 z72 z73 z74 z75 z76 z77 z78 z79 z80 z81 z82 z83 z84 z85 z86 z87 z88 z89 z90 z91 z92 z93 z94 z95 z96 z97 z98 z99 z100 z101 z102 z103 z104 z105 z106 z107 z108 z109 z110 z111 z112 z113 z114 z115 z116 z117 z118 z119 z120 z121 z122 z123 z124 z125 z126 z127 z128 z129 z130 z131 z132 z133 z134 z135 z136 z137 z138 z139 z140 z141 z142 z143 z144 z145 z146 z147 z148 z149 z150 z151 z152 z153 z154 z155 z156 z157 z158 z159 z160 z161 z162 z163 z164 z165 z166 z167 z168 z169 z170 z171 z172 z173 z174 z175 z176 z177 z178 z179 z180 z181 z182 z183 z184 z185 z186 z187 z188 z189 z190 z191 z192 z193 z194 z195 z196 z197 z198 z199 z200 z201 z202 z203 z204 z205 z206 z207 z208 z209 z210 z211 z212 z213 z214 z215 z216 z217 z218 z219 z220 z221 z222 z223 z224 z225 z226 z227 z228 z229 z230 z241 z242 z243 z244 z245 z246 z247 z248 z249 z250 z251 z252 z253 z254 z255 z256 z257 z258 z259 z260 z261 z262 z263 z264 z265 z266 z267 z268 z269 z270 z271 z272 z273 z274 : Value} {z38 z39 z40 z41 z231 z232 z233 z234 z235 z236 z237 z238 z239 z240 : Value} (hn0 : 0 < s.l.length) (hn : s.l.length ≤ 9) (hm9 : m ≤ 9) (ht : turn < 256) (hj : (m + turn) % s.l.length = j) (G : Hid (wA.heap[p4]? = some (.cells #[.int .u8 (turn : Int)] 5) ∧ wA.heap[p7]? = some (.cells #[.int .i64 (s.l.length : Int)] 3))) (hx : wA.heap[q10]? = some (.cells #[.int .i64 x.ax.lo, .int .i64 x.ax.hi, .int .i64 x.ay.lo, .int .i64 x.ay.hi, .int .i64 x.bx.lo, .int .i64 x.bx.hi, .int .i64 x.by'.lo, .int .i64 x.by'.hi, .int .i64 x.f.lo, .int .i64 x.f.hi, .int .i64 x.g.lo, .int .i64 x.g.hi, .int .i64 x.limit, .int .i64 x.flaws, .slice xa x.l.length xc] 30)) (HWC : Hid (∀ W, Below wA.heap.size wA W → Calls Try.prog 25 #[.agg #[.int .i64 x.ax.lo, .int .i64 x.ax.hi, .int .i64 x.ay.lo, .int .i64 x.ay.hi, .int .i64 x.bx.lo, .int .i64 x.bx.hi, .int .i64 x.by'.lo, .int .i64 x.by'.hi, .int .i64 x.f.lo, .int .i64 x.f.hi, .int .i64 x.g.lo, .int .i64 x.g.hi, .int .i64 x.limit, .int .i64 x.flaws, .slice xa x.l.length xc], .int .i64 (j : Int)] W fun e w' => e = .returned (.tuple #[.agg #[.int .i64 a1, .int .i64 a2], .agg #[.int .i64 b1, .int .i64 b2], .agg #[.int .i64 c1, .int .i64 c2], .int .i64 r]) ∧ Below W.heap.size W w')) (K : Act → World → Prop) (Q : Exit → Act → World → Prop)
    (hfin : ∀ (s231 s232 s233 s234 s235 s236 s237 s238 s239 s240 : Value) (q4 q5 q6 : Nat) (w3 : World), (w3.heap[q4]? = some (.cells #[.int .i64 a1, .int .i64 a2] 23) ∧ w3.heap[q5]? = some (.cells #[.int .i64 b1, .int .i64 b2] 23) ∧ w3.heap[q6]? = some (.cells #[.int .i64 c1, .int .i64 c2] 23) ∧ wA.heap.size ≤ q4 ∧ wA.heap.size ≤ q5 ∧ wA.heap.size ≤ q6 ∧ Below wA.heap.size wA w3) → K ⟨(z0::z1::z2::z3::z4::z5::z6::z7::z8::z9::(.pointer (some ⟨q10, 0, none⟩))::z11::(.func (.func 38) #[] #[.pointer (some ⟨p4, 0, none⟩), .pointer (some ⟨p7, 0, none⟩)])::z13::z14::z15::z16::z17::z18::z19::z20::z21::z22::z23::z24::z25::z26::z27::z28::z29::z30::z31::z32::(.int .i64 (m : Int))::z34::z35::z36::z37::(.pointer (some ⟨q4, 0, none⟩))::(.pointer (some ⟨q5, 0, none⟩))::(.pointer (some ⟨q6, 0, none⟩))::(.int .i64 r)::z42::z43::z44::z45::z46::z47::z48::z49::z50::z51::z52::z53::z54::z55::z56::z57::z58::z59::z60::z61::z62::z63::z64::z65::z66::z67::z68::z69::z70::z71::z72::z73::z74::z75::z76::z77::z78::z79::z80::z81::z82::z83::z84::z85::z86::z87::z88::z89::z90::z91::z92::z93::z94::z95::z96::z97::z98::z99::z100::z101::z102::z103::z104::z105::z106::z107::z108::z109::z110::z111::z112::z113::z114::z115::z116::z117::z118::z119::z120::z121::z122::z123::z124::z125::z126::z127::z128::z129::z130::z131::z132::z133::z134::z135::z136::z137::z138::z139::z140::z141::z142::z143::z144::z145::z146::z147::z148::z149::z150::z151::z152::z153::z154::z155::z156::z157::z158::z159::z160::z161::z162::z163::z164::z165::z166::z167::z168::z169::z170::z171::z172::z173::z174::z175::z176::z177::z178::z179::z180::z181::z182::z183::z184::z185::z186::z187::z188::z189::z190::z191::z192::z193::z194::z195::z196::z197::z198::z199::z200::z201::z202::z203::z204::z205::z206::z207::z208::z209::z210::z211::z212::z213::z214::z215::z216::z217::z218::z219::z220::z221::z222::z223::z224::z225::z226::z227::z228::z229::z230::s231::s232::s233::s234::s235::s236::s237::s238::s239::s240::z241::z242::z243::z244::z245::z246::z247::z248::z249::z250::z251::z252::z253::z254::z255::z256::z257::z258::z259::z260::z261::z262::z263::z264::z265::z266::z267::z268::z269::z270::z271::z272::z273::z274 :: []).toArray, []⟩ w3) :
    Code.wp Try.prog ((Try.f10.body.bind (findReg 35)).getD .skip) (Exit.then K Q) ⟨(z0::z1::z2::z3::z4::z5::z6::z7::z8::z9::(.pointer (some ⟨q10, 0, none⟩))::z11::(.func (.func 38) #[] #[.pointer (some ⟨p4, 0, none⟩), .pointer (some ⟨p7, 0, none⟩)])::z13::z14::z15::z16::z17::z18::z19::z20::z21::z22::z23::z24::z25::z26::z27::z28::z29::z30::z31::z32::(.int .i64 (m : Int))::z34::z35::z36::z37::z38::z39::z40::z41::z42::z43::z44::z45::z46::z47::z48::z49::z50::z51::z52::z53::z54::z55::z56::z57::z58::z59::z60::z61::z62::z63::z64::z65::z66::z67::z68::z69::z70::z71::z72::z73::z74::z75::z76::z77::z78::z79::z80::z81::z82::z83::z84::z85::z86::z87::z88::z89::z90::z91::z92::z93::z94::z95::z96::z97::z98::z99::z100::z101::z102::z103::z104::z105::z106::z107::z108::z109::z110::z111::z112::z113::z114::z115::z116::z117::z118::z119::z120::z121::z122::z123::z124::z125::z126::z127::z128::z129::z130::z131::z132::z133::z134::z135::z136::z137::z138::z139::z140::z141::z142::z143::z144::z145::z146::z147::z148::z149::z150::z151::z152::z153::z154::z155::z156::z157::z158::z159::z160::z161::z162::z163::z164::z165::z166::z167::z168::z169::z170::z171::z172::z173::z174::z175::z176::z177::z178::z179::z180::z181::z182::z183::z184::z185::z186::z187::z188::z189::z190::z191::z192::z193::z194::z195::z196::z197::z198::z199::z200::z201::z202::z203::z204::z205::z206::z207::z208::z209::z210::z211::z212::z213::z214::z215::z216::z217::z218::z219::z220::z221::z222::z223::z224::z225::z226::z227::z228::z229::z230::z231::z232::z233::z234::z235::z236::z237::z238::z239::z240::z241::z242::z243::z244::z245::z246::z247::z248::z249::z250::z251::z252::z253::z254::z255::z256::z257::z258::z259::z260::z261::z262::z263::z264::z265::z266::z267::z268::z269::z270::z271::z272::z273::z274 :: []).toArray, []⟩ wA := by
  have HFIN := Lib.hid hfin
  clear hfin
  have cz := fun k => cell_block hx k
  have c0 := cz 0
  have c1 := cz 1
  have c2 := cz 2
  have c3 := cz 3
  have c4 := cz 4
  have c5 := cz 5
  have c6 := cz 6
  have c7 := cz 7
  have c8 := cz 8
  have c9 := cz 9
  have c10 := cz 10
  have c11 := cz 11
  have c12 := cz 12
  have c13 := cz 13
  have c14 := cz 14
  clear cz
  simp only [gA, gB, gC] at c0 c1 c2 c3 c4 c5 c6 c7 c8 c9 c10 c11 c12 c13 c14
  have k0 := iheld c0 (Nat.le_refl _)
  have k1 := iheld c1 (Nat.le_refl _)
  have k2 := iheld c2 (Nat.le_refl _)
  have k3 := iheld c3 (Nat.le_refl _)
  have k4 := iheld c4 (Nat.le_refl _)
  have k5 := iheld c5 (Nat.le_refl _)
  have k6 := iheld c6 (Nat.le_refl _)
  have k7 := iheld c7 (Nat.le_refl _)
  have k8 := iheld c8 (Nat.le_refl _)
  have k9 := iheld c9 (Nat.le_refl _)
  have k10 := iheld c10 (Nat.le_refl _)
  have k11 := iheld c11 (Nat.le_refl _)
  have k12 := iheld c12 (Nat.le_refl _)
  have k13 := iheld c13 (Nat.le_refl _)
  have k14 := iheld c14 (Nat.le_refl _)
  clear c0 c1 c2 c3 c4 c5 c6 c7 c8 c9 c10 c11 c12 c13 c14
  clear hx
  obtain ⟨fr, hfr⟩ : ∃ f, f = fr35 z0 z1 z2 z3 z4 z5 z6 z7 z8 z9 (.pointer (some ⟨q10, 0, none⟩)) z11 (.func (.func 38) #[] #[.pointer (some ⟨p4, 0, none⟩), .pointer (some ⟨p7, 0, none⟩)]) z13 z14 z15 z16 z17 z18 z19 z20 z21 z22 z23 z24 z25 z26 z27 z28 z29 z30 z31 z32 (.int .i64 (m : Int)) z34 z35 z36 z37 z41 z42 z43 z44 z45 z46 z47 z48 z49 z50 z51 z52 z53 z54 z55 z56 z57 z58 z59 z60 z61 z62 z63 z64 z65 z66 z67 z68 z69 z70 z71 z72 z73 z74 z75 z76 z77 z78 z79 z80 z81 z82 z83 z84 z85 z86 z87 z88 z89 z90 z91 z92 z93 z94 z95 z96 z97 z98 z99 z100 z101 z102 z103 z104 z105 z106 z107 z108 z109 z110 z111 z112 z113 z114 z115 z116 z117 z118 z119 z120 z121 z122 z123 z124 z125 z126 z127 z128 z129 z130 z131 z132 z133 z134 z135 z136 z137 z138 z139 z140 z141 z142 z143 z144 z145 z146 z147 z148 z149 z150 z151 z152 z153 z154 z155 z156 z157 z158 z159 z160 z161 z162 z163 z164 z165 z166 z167 z168 z169 z170 z171 z172 z173 z174 z175 z176 z177 z178 z179 z180 z181 z182 z183 z184 z185 z186 z187 z188 z189 z190 z191 z192 z193 z194 z195 z196 z197 z198 z199 z200 z201 z202 z203 z204 z205 z206 z207 z208 z209 z210 z211 z212 z213 z214 z215 z216 z217 z218 z219 z220 z221 z222 z223 z224 z225 z226 z227 z228 z229 z230 (.agg #[.int .i64 x.ax.lo, .int .i64 x.ax.hi, .int .i64 x.ay.lo, .int .i64 x.ay.hi, .int .i64 x.bx.lo, .int .i64 x.bx.hi, .int .i64 x.by'.lo, .int .i64 x.by'.hi, .int .i64 x.f.lo, .int .i64 x.f.hi, .int .i64 x.g.lo, .int .i64 x.g.hi, .int .i64 x.limit, .int .i64 x.flaws, .slice xa x.l.length xc]) (.func (.func 38) #[] #[.pointer (some ⟨p4, 0, none⟩), .pointer (some ⟨p7, 0, none⟩)]) (.int .i64 (m : Int)) z241 z242 z243 z244 z245 z246 z247 z248 z249 z250 z251 z252 z253 z254 z255 z256 z257 z258 z259 z260 z261 z262 z263 z264 z265 z266 z267 z268 z269 z270 z271 z272 z273 z274 := ⟨_, rfl⟩
  have s2111 : ∀ (q4 q5 q6 : Nat) (w : World), Below wA.heap.size wA w → wA.heap.size ≤ q4 → w.heap[q4]? = some (.cells #[.int .i64 0, .int .i64 0] 23) → wA.heap.size ≤ q5 → w.heap[q5]? = some (.cells #[.int .i64 0, .int .i64 0] 23) → wA.heap.size ≤ q6 → w.heap[q6]? = some (.cells #[.int .i64 0, .int .i64 0] 23) → q4 ≠ q5 → q4 ≠ q6 → q5 ≠ q6 → wpAnyW Try.prog 1 Region.Mode.any otu35 (onNormal (Exit.then K Q)) (Below wA.heap.size wA) 4 #[true, true, true, true, true, true, true, true, true, true, true, true, true, false, false, false, false] (fr (.pointer (some ⟨q4, 0, none⟩)) (.pointer (some ⟨q5, 0, none⟩)) (.pointer (some ⟨q6, 0, none⟩)) (.tuple #[.agg #[.int .i64 a1, .int .i64 a2], .agg #[.int .i64 b1, .int .i64 b2], .agg #[.int .i64 c1, .int .i64 c2], .int .i64 r]) (.int .i64 (j : Int)) (.tuple #[.agg #[.int .i64 a1, .int .i64 a2], .agg #[.int .i64 b1, .int .i64 b2], .agg #[.int .i64 c1, .int .i64 c2], .int .i64 r]) (.agg #[.int .i64 a1, .int .i64 a2]) (.agg #[.int .i64 b1, .int .i64 b2]) (.agg #[.int .i64 c1, .int .i64 c2]) (.int .i64 r)) w := by
    intro q4 q5 q6 w H lq4 gq4 lq5 gq5 lq6 gq6 nq4q5 nq4q6 nq5q6
    subst hfr
    unfold fr35
    conv => arg 4; whnf
    have ec0 := cell_block gq4 0
    have ec1 := cell_block gq4 1
    have f0 := frozen_block gq4 0
    have f1 := frozen_block gq4 1
    simp only [gA, gB, gC] at ec0 ec1
    refine wpAnyW_one 13 (by kernel_rfl) (by kernel_rfl) ?_
    intro o ho K_ hK
    simp only [gA, gB, gC, gG] at ho
    subst ho
    go_simp
    have z0 := two_same (.int .i64 a1) (.int .i64 a2) gq4
    have x0 : Steps (fun j => j = q4) w ((w.setCell ⟨q4, 0, none⟩ (.int .i64 a1)).setCell ⟨q4, 1, none⟩ (.int .i64 a2)) := (Steps.setCell (own := fun j => j = q4) w (p := ⟨q4, 0, none⟩) rfl _).trans (Steps.setCell (own := fun j => j = q4) _ (p := ⟨q4, 1, none⟩) rfl _) (fun _ _ h => h)
    have H0 := H.trans (x0.below (B := wA.heap.size) H.size (fun j _ h => by omega))
    have q50 := x0.obj (k := q5) nq4q5.symm gq5
    have q60 := x0.obj (k := q6) nq4q6.symm gq6
    refine hK _ _ H0 (fun _ => ?_)
    clear hK K_ ec0 ec1 f0 f1
    try simp only [Act.put, gD, gE, gF]
    generalize (w.setCell ⟨q4, 0, none⟩ (.int .i64 a1)).setCell ⟨q4, 1, none⟩ (.int .i64 a2) = w0 at z0 x0 H0 q50 q60 ⊢
    clear x0
    have ec0 := cell_block q50 0
    have ec1 := cell_block q50 1
    have f0 := frozen_block q50 0
    have f1 := frozen_block q50 1
    simp only [gA, gB, gC] at ec0 ec1
    refine wpAnyW_one 14 (by kernel_rfl) (by kernel_rfl) ?_
    intro o ho K_ hK
    simp only [gA, gB, gC, gG] at ho
    subst ho
    go_simp
    have z1 := two_same (.int .i64 b1) (.int .i64 b2) q50
    have x1 : Steps (fun j => j = q5) w0 ((w0.setCell ⟨q5, 0, none⟩ (.int .i64 b1)).setCell ⟨q5, 1, none⟩ (.int .i64 b2)) := (Steps.setCell (own := fun j => j = q5) w0 (p := ⟨q5, 0, none⟩) rfl _).trans (Steps.setCell (own := fun j => j = q5) _ (p := ⟨q5, 1, none⟩) rfl _) (fun _ _ h => h)
    have H1 := H0.trans (x1.below (B := wA.heap.size) H0.size (fun j _ h => by omega))
    have q41 := x1.obj (k := q4) nq4q5 z0
    have q61 := x1.obj (k := q6) nq5q6.symm q60
    refine hK _ _ H1 (fun _ => ?_)
    clear hK K_ ec0 ec1 f0 f1
    try simp only [Act.put, gD, gE, gF]
    generalize (w0.setCell ⟨q5, 0, none⟩ (.int .i64 b1)).setCell ⟨q5, 1, none⟩ (.int .i64 b2) = w1 at z1 x1 H1 q41 q61 ⊢
    clear x1
    have ec0 := cell_block q61 0
    have ec1 := cell_block q61 1
    have f0 := frozen_block q61 0
    have f1 := frozen_block q61 1
    simp only [gA, gB, gC] at ec0 ec1
    refine wpAnyW_one 15 (by kernel_rfl) (by kernel_rfl) ?_
    intro o ho K_ hK
    simp only [gA, gB, gC, gG] at ho
    subst ho
    go_simp
    have z2 := two_same (.int .i64 c1) (.int .i64 c2) q61
    have x2 : Steps (fun j => j = q6) w1 ((w1.setCell ⟨q6, 0, none⟩ (.int .i64 c1)).setCell ⟨q6, 1, none⟩ (.int .i64 c2)) := (Steps.setCell (own := fun j => j = q6) w1 (p := ⟨q6, 0, none⟩) rfl _).trans (Steps.setCell (own := fun j => j = q6) _ (p := ⟨q6, 1, none⟩) rfl _) (fun _ _ h => h)
    have H2 := H1.trans (x2.below (B := wA.heap.size) H1.size (fun j _ h => by omega))
    have q42 := x2.obj (k := q4) nq4q6 q41
    have q52 := x2.obj (k := q5) nq5q6 z1
    refine hK _ _ H2 (fun _ => ?_)
    clear hK K_ ec0 ec1 f0 f1
    try simp only [Act.put, gD, gE, gF]
    generalize (w1.setCell ⟨q6, 0, none⟩ (.int .i64 c1)).setCell ⟨q6, 1, none⟩ (.int .i64 c2) = w2 at z2 x2 H2 q42 q52 ⊢
    clear x2
    refine wTk 16 41 ?_ ?_ ?_
    rotate_left
    · intro o h w k; (try dsimp only at k); simp only [gA, gB, gC, gG] at h; subst h; go_simp; try with_reducible rfl
    simp only [Act.put, gD, gE, gF]
    refine wpAnyW_done (by kernel_rfl) ?_ _
    dsimp only [onNormal]
    exact HFIN.out _ _ _ _ _ _ _ _ _ _ q4 q5 q6 w2 ⟨q42, q52, z2, lq4, lq5, lq6, H2⟩
  have s2110 : ∀ (q4 q5 : Nat) (w : World), Below wA.heap.size wA w → wA.heap.size ≤ q4 → w.heap[q4]? = some (.cells #[.int .i64 0, .int .i64 0] 23) → wA.heap.size ≤ q5 → w.heap[q5]? = some (.cells #[.int .i64 0, .int .i64 0] 23) → q4 ≠ q5 → wpAnyW Try.prog 1 Region.Mode.any otu35 (onNormal (Exit.then K Q)) (Below wA.heap.size wA) 5 #[true, true, true, true, true, true, true, true, true, true, true, true, false, false, false, false, false] (fr (.pointer (some ⟨q4, 0, none⟩)) (.pointer (some ⟨q5, 0, none⟩)) z40 (.tuple #[.agg #[.int .i64 a1, .int .i64 a2], .agg #[.int .i64 b1, .int .i64 b2], .agg #[.int .i64 c1, .int .i64 c2], .int .i64 r]) (.int .i64 (j : Int)) (.tuple #[.agg #[.int .i64 a1, .int .i64 a2], .agg #[.int .i64 b1, .int .i64 b2], .agg #[.int .i64 c1, .int .i64 c2], .int .i64 r]) (.agg #[.int .i64 a1, .int .i64 a2]) (.agg #[.int .i64 b1, .int .i64 b2]) (.agg #[.int .i64 c1, .int .i64 c2]) (.int .i64 r)) w := by
    intro q4 q5 w H lq4 gq4 lq5 gq5 nq4q5
    subst hfr
    refine wpAnyW_one 12 (by kernel_rfl) (by kernel_rfl) ?_
    exact al35 12 40 (by kernel_rfl) H fun q6 w1 H1 lq6 A1 b1 hq => wpAnyW_listed (by kernel_rfl) (s2111 q4 q5 q6 _ H1 lq4 (obj_later b1 gq4) lq5 (obj_later b1 gq5) lq6 A1 nq4q5 (fun e => by have := (Array.getElem?_eq_some_iff.1 gq4).1; omega) (fun e => by have := (Array.getElem?_eq_some_iff.1 gq5).1; omega))
  have s2101 : ∀ (q4 q6 : Nat) (w : World), Below wA.heap.size wA w → wA.heap.size ≤ q4 → w.heap[q4]? = some (.cells #[.int .i64 0, .int .i64 0] 23) → wA.heap.size ≤ q6 → w.heap[q6]? = some (.cells #[.int .i64 0, .int .i64 0] 23) → q4 ≠ q6 → wpAnyW Try.prog 1 Region.Mode.any otu35 (onNormal (Exit.then K Q)) (Below wA.heap.size wA) 5 #[true, true, true, true, true, true, true, true, true, true, true, false, true, false, false, false, false] (fr (.pointer (some ⟨q4, 0, none⟩)) z39 (.pointer (some ⟨q6, 0, none⟩)) (.tuple #[.agg #[.int .i64 a1, .int .i64 a2], .agg #[.int .i64 b1, .int .i64 b2], .agg #[.int .i64 c1, .int .i64 c2], .int .i64 r]) (.int .i64 (j : Int)) (.tuple #[.agg #[.int .i64 a1, .int .i64 a2], .agg #[.int .i64 b1, .int .i64 b2], .agg #[.int .i64 c1, .int .i64 c2], .int .i64 r]) (.agg #[.int .i64 a1, .int .i64 a2]) (.agg #[.int .i64 b1, .int .i64 b2]) (.agg #[.int .i64 c1, .int .i64 c2]) (.int .i64 r)) w := by
    intro q4 q6 w H lq4 gq4 lq6 gq6 nq4q6
    subst hfr
    refine wpAnyW_one 11 (by kernel_rfl) (by kernel_rfl) ?_
    exact al35 11 39 (by kernel_rfl) H fun q5 w1 H1 lq5 A1 b1 hq => wpAnyW_listed (by kernel_rfl) (s2111 q4 q5 q6 _ H1 lq4 (obj_later b1 gq4) lq5 A1 lq6 (obj_later b1 gq6) (fun e => by have := (Array.getElem?_eq_some_iff.1 gq4).1; omega) nq4q6 (fun e => by have := (Array.getElem?_eq_some_iff.1 gq6).1; omega))
  have s2011 : ∀ (q5 q6 : Nat) (w : World), Below wA.heap.size wA w → wA.heap.size ≤ q5 → w.heap[q5]? = some (.cells #[.int .i64 0, .int .i64 0] 23) → wA.heap.size ≤ q6 → w.heap[q6]? = some (.cells #[.int .i64 0, .int .i64 0] 23) → q5 ≠ q6 → wpAnyW Try.prog 1 Region.Mode.any otu35 (onNormal (Exit.then K Q)) (Below wA.heap.size wA) 5 #[true, true, true, true, true, true, true, true, true, true, false, true, true, false, false, false, false] (fr z38 (.pointer (some ⟨q5, 0, none⟩)) (.pointer (some ⟨q6, 0, none⟩)) (.tuple #[.agg #[.int .i64 a1, .int .i64 a2], .agg #[.int .i64 b1, .int .i64 b2], .agg #[.int .i64 c1, .int .i64 c2], .int .i64 r]) (.int .i64 (j : Int)) (.tuple #[.agg #[.int .i64 a1, .int .i64 a2], .agg #[.int .i64 b1, .int .i64 b2], .agg #[.int .i64 c1, .int .i64 c2], .int .i64 r]) (.agg #[.int .i64 a1, .int .i64 a2]) (.agg #[.int .i64 b1, .int .i64 b2]) (.agg #[.int .i64 c1, .int .i64 c2]) (.int .i64 r)) w := by
    intro q5 q6 w H lq5 gq5 lq6 gq6 nq5q6
    subst hfr
    refine wpAnyW_one 10 (by kernel_rfl) (by kernel_rfl) ?_
    exact al35 10 38 (by kernel_rfl) H fun q4 w1 H1 lq4 A1 b1 hq => wpAnyW_listed (by kernel_rfl) (s2111 q4 q5 q6 _ H1 lq4 A1 lq5 (obj_later b1 gq5) lq6 (obj_later b1 gq6) (fun e => by have := (Array.getElem?_eq_some_iff.1 gq5).1; omega) (fun e => by have := (Array.getElem?_eq_some_iff.1 gq6).1; omega) nq5q6)
  have s2100 : ∀ (q4 : Nat) (w : World), Below wA.heap.size wA w → wA.heap.size ≤ q4 → w.heap[q4]? = some (.cells #[.int .i64 0, .int .i64 0] 23) → wpAnyW Try.prog 1 Region.Mode.any otu35 (onNormal (Exit.then K Q)) (Below wA.heap.size wA) 6 #[true, true, true, true, true, true, true, true, true, true, true, false, false, false, false, false, false] (fr (.pointer (some ⟨q4, 0, none⟩)) z39 z40 (.tuple #[.agg #[.int .i64 a1, .int .i64 a2], .agg #[.int .i64 b1, .int .i64 b2], .agg #[.int .i64 c1, .int .i64 c2], .int .i64 r]) (.int .i64 (j : Int)) (.tuple #[.agg #[.int .i64 a1, .int .i64 a2], .agg #[.int .i64 b1, .int .i64 b2], .agg #[.int .i64 c1, .int .i64 c2], .int .i64 r]) (.agg #[.int .i64 a1, .int .i64 a2]) (.agg #[.int .i64 b1, .int .i64 b2]) (.agg #[.int .i64 c1, .int .i64 c2]) (.int .i64 r)) w := by
    intro q4 w H lq4 gq4
    subst hfr
    refine wpAnyW_two 11 12 (by kernel_rfl) ⟨by kernel_rfl, by kernel_rfl⟩ ?_ ?_
    · exact al35 11 39 (by kernel_rfl) H fun q5 w1 H1 lq5 A1 b1 hq => wpAnyW_listed (by kernel_rfl) (s2110 q4 q5 _ H1 lq4 (obj_later b1 gq4) lq5 A1 (fun e => by have := (Array.getElem?_eq_some_iff.1 gq4).1; omega))
    · exact al35 12 40 (by kernel_rfl) H fun q6 w1 H1 lq6 A1 b1 hq => wpAnyW_listed (by kernel_rfl) (s2101 q4 q6 _ H1 lq4 (obj_later b1 gq4) lq6 A1 (fun e => by have := (Array.getElem?_eq_some_iff.1 gq4).1; omega))
  have s2010 : ∀ (q5 : Nat) (w : World), Below wA.heap.size wA w → wA.heap.size ≤ q5 → w.heap[q5]? = some (.cells #[.int .i64 0, .int .i64 0] 23) → wpAnyW Try.prog 1 Region.Mode.any otu35 (onNormal (Exit.then K Q)) (Below wA.heap.size wA) 6 #[true, true, true, true, true, true, true, true, true, true, false, true, false, false, false, false, false] (fr z38 (.pointer (some ⟨q5, 0, none⟩)) z40 (.tuple #[.agg #[.int .i64 a1, .int .i64 a2], .agg #[.int .i64 b1, .int .i64 b2], .agg #[.int .i64 c1, .int .i64 c2], .int .i64 r]) (.int .i64 (j : Int)) (.tuple #[.agg #[.int .i64 a1, .int .i64 a2], .agg #[.int .i64 b1, .int .i64 b2], .agg #[.int .i64 c1, .int .i64 c2], .int .i64 r]) (.agg #[.int .i64 a1, .int .i64 a2]) (.agg #[.int .i64 b1, .int .i64 b2]) (.agg #[.int .i64 c1, .int .i64 c2]) (.int .i64 r)) w := by
    intro q5 w H lq5 gq5
    subst hfr
    refine wpAnyW_two 10 12 (by kernel_rfl) ⟨by kernel_rfl, by kernel_rfl⟩ ?_ ?_
    · exact al35 10 38 (by kernel_rfl) H fun q4 w1 H1 lq4 A1 b1 hq => wpAnyW_listed (by kernel_rfl) (s2110 q4 q5 _ H1 lq4 A1 lq5 (obj_later b1 gq5) (fun e => by have := (Array.getElem?_eq_some_iff.1 gq5).1; omega))
    · exact al35 12 40 (by kernel_rfl) H fun q6 w1 H1 lq6 A1 b1 hq => wpAnyW_listed (by kernel_rfl) (s2011 q5 q6 _ H1 lq5 (obj_later b1 gq5) lq6 A1 (fun e => by have := (Array.getElem?_eq_some_iff.1 gq5).1; omega))
  have s2001 : ∀ (q6 : Nat) (w : World), Below wA.heap.size wA w → wA.heap.size ≤ q6 → w.heap[q6]? = some (.cells #[.int .i64 0, .int .i64 0] 23) → wpAnyW Try.prog 1 Region.Mode.any otu35 (onNormal (Exit.then K Q)) (Below wA.heap.size wA) 6 #[true, true, true, true, true, true, true, true, true, true, false, false, true, false, false, false, false] (fr z38 z39 (.pointer (some ⟨q6, 0, none⟩)) (.tuple #[.agg #[.int .i64 a1, .int .i64 a2], .agg #[.int .i64 b1, .int .i64 b2], .agg #[.int .i64 c1, .int .i64 c2], .int .i64 r]) (.int .i64 (j : Int)) (.tuple #[.agg #[.int .i64 a1, .int .i64 a2], .agg #[.int .i64 b1, .int .i64 b2], .agg #[.int .i64 c1, .int .i64 c2], .int .i64 r]) (.agg #[.int .i64 a1, .int .i64 a2]) (.agg #[.int .i64 b1, .int .i64 b2]) (.agg #[.int .i64 c1, .int .i64 c2]) (.int .i64 r)) w := by
    intro q6 w H lq6 gq6
    subst hfr
    refine wpAnyW_two 10 11 (by kernel_rfl) ⟨by kernel_rfl, by kernel_rfl⟩ ?_ ?_
    · exact al35 10 38 (by kernel_rfl) H fun q4 w1 H1 lq4 A1 b1 hq => wpAnyW_listed (by kernel_rfl) (s2101 q4 q6 _ H1 lq4 A1 lq6 (obj_later b1 gq6) (fun e => by have := (Array.getElem?_eq_some_iff.1 gq6).1; omega))
    · exact al35 11 39 (by kernel_rfl) H fun q5 w1 H1 lq5 A1 b1 hq => wpAnyW_listed (by kernel_rfl) (s2011 q5 q6 _ H1 lq5 A1 lq6 (obj_later b1 gq6) (fun e => by have := (Array.getElem?_eq_some_iff.1 gq6).1; omega))
  have s2000 : ∀ (w : World), Below wA.heap.size wA w → wpAnyW Try.prog 1 Region.Mode.any otu35 (onNormal (Exit.then K Q)) (Below wA.heap.size wA) 7 #[true, true, true, true, true, true, true, true, true, true, false, false, false, false, false, false, false] (fr z38 z39 z40 (.tuple #[.agg #[.int .i64 a1, .int .i64 a2], .agg #[.int .i64 b1, .int .i64 b2], .agg #[.int .i64 c1, .int .i64 c2], .int .i64 r]) (.int .i64 (j : Int)) (.tuple #[.agg #[.int .i64 a1, .int .i64 a2], .agg #[.int .i64 b1, .int .i64 b2], .agg #[.int .i64 c1, .int .i64 c2], .int .i64 r]) (.agg #[.int .i64 a1, .int .i64 a2]) (.agg #[.int .i64 b1, .int .i64 b2]) (.agg #[.int .i64 c1, .int .i64 c2]) (.int .i64 r)) w := by
    intro  w H 
    subst hfr
    refine wpAnyW_trio 10 11 12 (by kernel_rfl) ⟨by kernel_rfl, by kernel_rfl, by kernel_rfl⟩ ?_ ?_ ?_
    · exact al35 10 38 (by kernel_rfl) H fun q4 w1 H1 lq4 A1 b1 hq => wpAnyW_listed (by kernel_rfl) (s2100 q4 _ H1 lq4 A1)
    · exact al35 11 39 (by kernel_rfl) H fun q5 w1 H1 lq5 A1 b1 hq => wpAnyW_listed (by kernel_rfl) (s2010 q5 _ H1 lq5 A1)
    · exact al35 12 40 (by kernel_rfl) H fun q6 w1 H1 lq6 A1 b1 hq => wpAnyW_listed (by kernel_rfl) (s2001 q6 _ H1 lq6 A1)
  have s1111 : ∀ (q4 q5 q6 : Nat) (w : World), Below wA.heap.size wA w → wA.heap.size ≤ q4 → w.heap[q4]? = some (.cells #[.int .i64 0, .int .i64 0] 23) → wA.heap.size ≤ q5 → w.heap[q5]? = some (.cells #[.int .i64 0, .int .i64 0] 23) → wA.heap.size ≤ q6 → w.heap[q6]? = some (.cells #[.int .i64 0, .int .i64 0] 23) → q4 ≠ q5 → q4 ≠ q6 → q5 ≠ q6 → wpAnyW Try.prog 1 Region.Mode.any otu35 (onNormal (Exit.then K Q)) (Below wA.heap.size wA) 10 #[true, true, true, true, false, false, false, false, false, false, true, true, true, false, false, false, false] (fr (.pointer (some ⟨q4, 0, none⟩)) (.pointer (some ⟨q5, 0, none⟩)) (.pointer (some ⟨q6, 0, none⟩)) z231 (.int .i64 (j : Int)) z236 z237 z238 z239 z240) w := by
    intro q4 q5 q6 w H lq4 gq4 lq5 gq5 lq6 gq6 nq4q5 nq4q6 nq5q6
    subst hfr
    refine wpAnyW_one 4 (by kernel_rfl) (by kernel_rfl) ?_
    clear s2110 s2101 s2011 s2100 s2010 s2001 s2000
    intro o ho K_ hK
    unfold fr35
    conv at ho => lhs; arg 1; whnf
    simp only [gA, gB, gC, gG] at ho
    subst ho
    go_simp
    refine ⟨trivial, CallsIn.mono (callsIn_wide.2 (HWC.out w H)) ?_⟩
    rintro e w1 ⟨rfl, b1⟩
    have H1 := H.trans (b1.mono H.size)
    refine hK _ _ H1 (fun _ => ?_)
    clear hK K_
    try simp only [Act.put, gD, gE, gF]
    refine wTk 5 231 ?_ ?_ ?_
    rotate_left
    · intro o h w k; (try dsimp only at k); (conv at h => lhs; whnf; arg 1; whnf); simp only [gG] at h; subst h; go_simp; try with_reducible rfl
    simp only [Act.put, gD, gE, gF]
    refine wTk 6 237 ?_ ?_ ?_
    rotate_left
    · intro o h w k; (try dsimp only at k); (conv at h => lhs; whnf; arg 1; whnf); simp only [gG] at h; subst h; go_simp; try with_reducible rfl
    simp only [Act.put, gD, gE, gF]
    refine wTk 7 238 ?_ ?_ ?_
    rotate_left
    · intro o h w k; (try dsimp only at k); (conv at h => lhs; whnf; arg 1; whnf); simp only [gG] at h; subst h; go_simp; try with_reducible rfl
    simp only [Act.put, gD, gE, gF]
    refine wTk 8 239 ?_ ?_ ?_
    rotate_left
    · intro o h w k; (try dsimp only at k); (conv at h => lhs; whnf; arg 1; whnf); simp only [gG] at h; subst h; go_simp; try with_reducible rfl
    simp only [Act.put, gD, gE, gF]
    refine wTk 9 240 ?_ ?_ ?_
    rotate_left
    · intro o h w k; (try dsimp only at k); (conv at h => lhs; whnf; arg 1; whnf); simp only [gG] at h; subst h; go_simp; try with_reducible rfl
    simp only [Act.put, gD, gE, gF]
    exact wpAnyW_listed (by kernel_rfl) (s2111 q4 q5 q6 _ H1 lq4 (obj_later b1 gq4) lq5 (obj_later b1 gq5) lq6 (obj_later b1 gq6) nq4q5 nq4q6 nq5q6)
  have s1110 : ∀ (q4 q5 : Nat) (w : World), Below wA.heap.size wA w → wA.heap.size ≤ q4 → w.heap[q4]? = some (.cells #[.int .i64 0, .int .i64 0] 23) → wA.heap.size ≤ q5 → w.heap[q5]? = some (.cells #[.int .i64 0, .int .i64 0] 23) → q4 ≠ q5 → wpAnyW Try.prog 1 Region.Mode.any otu35 (onNormal (Exit.then K Q)) (Below wA.heap.size wA) 11 #[true, true, true, true, false, false, false, false, false, false, true, true, false, false, false, false, false] (fr (.pointer (some ⟨q4, 0, none⟩)) (.pointer (some ⟨q5, 0, none⟩)) z40 z231 (.int .i64 (j : Int)) z236 z237 z238 z239 z240) w := by
    intro q4 q5 w H lq4 gq4 lq5 gq5 nq4q5
    subst hfr
    refine wpAnyW_two 4 12 (by kernel_rfl) ⟨by kernel_rfl, by kernel_rfl⟩ ?_ ?_
    · clear s2111 s2101 s2011 s2100 s2010 s2001 s2000 s1111
      intro o ho K_ hK
      unfold fr35
      conv at ho => lhs; arg 1; whnf
      simp only [gA, gB, gC, gG] at ho
      subst ho
      go_simp
      refine ⟨trivial, CallsIn.mono (callsIn_wide.2 (HWC.out w H)) ?_⟩
      rintro e w1 ⟨rfl, b1⟩
      have H1 := H.trans (b1.mono H.size)
      refine hK _ _ H1 (fun _ => ?_)
      clear hK K_
      try simp only [Act.put, gD, gE, gF]
      refine wTk 5 231 ?_ ?_ ?_
      rotate_left
      · intro o h w k; (try dsimp only at k); (conv at h => lhs; whnf; arg 1; whnf); simp only [gG] at h; subst h; go_simp; try with_reducible rfl
      simp only [Act.put, gD, gE, gF]
      refine wTk 6 237 ?_ ?_ ?_
      rotate_left
      · intro o h w k; (try dsimp only at k); (conv at h => lhs; whnf; arg 1; whnf); simp only [gG] at h; subst h; go_simp; try with_reducible rfl
      simp only [Act.put, gD, gE, gF]
      refine wTk 7 238 ?_ ?_ ?_
      rotate_left
      · intro o h w k; (try dsimp only at k); (conv at h => lhs; whnf; arg 1; whnf); simp only [gG] at h; subst h; go_simp; try with_reducible rfl
      simp only [Act.put, gD, gE, gF]
      refine wTk 8 239 ?_ ?_ ?_
      rotate_left
      · intro o h w k; (try dsimp only at k); (conv at h => lhs; whnf; arg 1; whnf); simp only [gG] at h; subst h; go_simp; try with_reducible rfl
      simp only [Act.put, gD, gE, gF]
      refine wTk 9 240 ?_ ?_ ?_
      rotate_left
      · intro o h w k; (try dsimp only at k); (conv at h => lhs; whnf; arg 1; whnf); simp only [gG] at h; subst h; go_simp; try with_reducible rfl
      simp only [Act.put, gD, gE, gF]
      exact wpAnyW_listed (by kernel_rfl) (s2110 q4 q5 _ H1 lq4 (obj_later b1 gq4) lq5 (obj_later b1 gq5) nq4q5)
    · exact al35 12 40 (by kernel_rfl) H fun q6 w1 H1 lq6 A1 b1 hq => wpAnyW_listed (by kernel_rfl) (s1111 q4 q5 q6 _ H1 lq4 (obj_later b1 gq4) lq5 (obj_later b1 gq5) lq6 A1 nq4q5 (fun e => by have := (Array.getElem?_eq_some_iff.1 gq4).1; omega) (fun e => by have := (Array.getElem?_eq_some_iff.1 gq5).1; omega))
  have s1101 : ∀ (q4 q6 : Nat) (w : World), Below wA.heap.size wA w → wA.heap.size ≤ q4 → w.heap[q4]? = some (.cells #[.int .i64 0, .int .i64 0] 23) → wA.heap.size ≤ q6 → w.heap[q6]? = some (.cells #[.int .i64 0, .int .i64 0] 23) → q4 ≠ q6 → wpAnyW Try.prog 1 Region.Mode.any otu35 (onNormal (Exit.then K Q)) (Below wA.heap.size wA) 11 #[true, true, true, true, false, false, false, false, false, false, true, false, true, false, false, false, false] (fr (.pointer (some ⟨q4, 0, none⟩)) z39 (.pointer (some ⟨q6, 0, none⟩)) z231 (.int .i64 (j : Int)) z236 z237 z238 z239 z240) w := by
    intro q4 q6 w H lq4 gq4 lq6 gq6 nq4q6
    subst hfr
    refine wpAnyW_two 4 11 (by kernel_rfl) ⟨by kernel_rfl, by kernel_rfl⟩ ?_ ?_
    · clear s2111 s2110 s2011 s2100 s2010 s2001 s2000 s1111 s1110
      intro o ho K_ hK
      unfold fr35
      conv at ho => lhs; arg 1; whnf
      simp only [gA, gB, gC, gG] at ho
      subst ho
      go_simp
      refine ⟨trivial, CallsIn.mono (callsIn_wide.2 (HWC.out w H)) ?_⟩
      rintro e w1 ⟨rfl, b1⟩
      have H1 := H.trans (b1.mono H.size)
      refine hK _ _ H1 (fun _ => ?_)
      clear hK K_
      try simp only [Act.put, gD, gE, gF]
      refine wTk 5 231 ?_ ?_ ?_
      rotate_left
      · intro o h w k; (try dsimp only at k); (conv at h => lhs; whnf; arg 1; whnf); simp only [gG] at h; subst h; go_simp; try with_reducible rfl
      simp only [Act.put, gD, gE, gF]
      refine wTk 6 237 ?_ ?_ ?_
      rotate_left
      · intro o h w k; (try dsimp only at k); (conv at h => lhs; whnf; arg 1; whnf); simp only [gG] at h; subst h; go_simp; try with_reducible rfl
      simp only [Act.put, gD, gE, gF]
      refine wTk 7 238 ?_ ?_ ?_
      rotate_left
      · intro o h w k; (try dsimp only at k); (conv at h => lhs; whnf; arg 1; whnf); simp only [gG] at h; subst h; go_simp; try with_reducible rfl
      simp only [Act.put, gD, gE, gF]
      refine wTk 8 239 ?_ ?_ ?_
      rotate_left
      · intro o h w k; (try dsimp only at k); (conv at h => lhs; whnf; arg 1; whnf); simp only [gG] at h; subst h; go_simp; try with_reducible rfl
      simp only [Act.put, gD, gE, gF]
      refine wTk 9 240 ?_ ?_ ?_
      rotate_left
      · intro o h w k; (try dsimp only at k); (conv at h => lhs; whnf; arg 1; whnf); simp only [gG] at h; subst h; go_simp; try with_reducible rfl
      simp only [Act.put, gD, gE, gF]
      exact wpAnyW_listed (by kernel_rfl) (s2101 q4 q6 _ H1 lq4 (obj_later b1 gq4) lq6 (obj_later b1 gq6) nq4q6)
    · exact al35 11 39 (by kernel_rfl) H fun q5 w1 H1 lq5 A1 b1 hq => wpAnyW_listed (by kernel_rfl) (s1111 q4 q5 q6 _ H1 lq4 (obj_later b1 gq4) lq5 A1 lq6 (obj_later b1 gq6) (fun e => by have := (Array.getElem?_eq_some_iff.1 gq4).1; omega) nq4q6 (fun e => by have := (Array.getElem?_eq_some_iff.1 gq6).1; omega))
  have s1011 : ∀ (q5 q6 : Nat) (w : World), Below wA.heap.size wA w → wA.heap.size ≤ q5 → w.heap[q5]? = some (.cells #[.int .i64 0, .int .i64 0] 23) → wA.heap.size ≤ q6 → w.heap[q6]? = some (.cells #[.int .i64 0, .int .i64 0] 23) → q5 ≠ q6 → wpAnyW Try.prog 1 Region.Mode.any otu35 (onNormal (Exit.then K Q)) (Below wA.heap.size wA) 11 #[true, true, true, true, false, false, false, false, false, false, false, true, true, false, false, false, false] (fr z38 (.pointer (some ⟨q5, 0, none⟩)) (.pointer (some ⟨q6, 0, none⟩)) z231 (.int .i64 (j : Int)) z236 z237 z238 z239 z240) w := by
    intro q5 q6 w H lq5 gq5 lq6 gq6 nq5q6
    subst hfr
    refine wpAnyW_two 4 10 (by kernel_rfl) ⟨by kernel_rfl, by kernel_rfl⟩ ?_ ?_
    · clear s2111 s2110 s2101 s2100 s2010 s2001 s2000 s1111 s1110 s1101
      intro o ho K_ hK
      unfold fr35
      conv at ho => lhs; arg 1; whnf
      simp only [gA, gB, gC, gG] at ho
      subst ho
      go_simp
      refine ⟨trivial, CallsIn.mono (callsIn_wide.2 (HWC.out w H)) ?_⟩
      rintro e w1 ⟨rfl, b1⟩
      have H1 := H.trans (b1.mono H.size)
      refine hK _ _ H1 (fun _ => ?_)
      clear hK K_
      try simp only [Act.put, gD, gE, gF]
      refine wTk 5 231 ?_ ?_ ?_
      rotate_left
      · intro o h w k; (try dsimp only at k); (conv at h => lhs; whnf; arg 1; whnf); simp only [gG] at h; subst h; go_simp; try with_reducible rfl
      simp only [Act.put, gD, gE, gF]
      refine wTk 6 237 ?_ ?_ ?_
      rotate_left
      · intro o h w k; (try dsimp only at k); (conv at h => lhs; whnf; arg 1; whnf); simp only [gG] at h; subst h; go_simp; try with_reducible rfl
      simp only [Act.put, gD, gE, gF]
      refine wTk 7 238 ?_ ?_ ?_
      rotate_left
      · intro o h w k; (try dsimp only at k); (conv at h => lhs; whnf; arg 1; whnf); simp only [gG] at h; subst h; go_simp; try with_reducible rfl
      simp only [Act.put, gD, gE, gF]
      refine wTk 8 239 ?_ ?_ ?_
      rotate_left
      · intro o h w k; (try dsimp only at k); (conv at h => lhs; whnf; arg 1; whnf); simp only [gG] at h; subst h; go_simp; try with_reducible rfl
      simp only [Act.put, gD, gE, gF]
      refine wTk 9 240 ?_ ?_ ?_
      rotate_left
      · intro o h w k; (try dsimp only at k); (conv at h => lhs; whnf; arg 1; whnf); simp only [gG] at h; subst h; go_simp; try with_reducible rfl
      simp only [Act.put, gD, gE, gF]
      exact wpAnyW_listed (by kernel_rfl) (s2011 q5 q6 _ H1 lq5 (obj_later b1 gq5) lq6 (obj_later b1 gq6) nq5q6)
    · exact al35 10 38 (by kernel_rfl) H fun q4 w1 H1 lq4 A1 b1 hq => wpAnyW_listed (by kernel_rfl) (s1111 q4 q5 q6 _ H1 lq4 A1 lq5 (obj_later b1 gq5) lq6 (obj_later b1 gq6) (fun e => by have := (Array.getElem?_eq_some_iff.1 gq5).1; omega) (fun e => by have := (Array.getElem?_eq_some_iff.1 gq6).1; omega) nq5q6)
  have s1100 : ∀ (q4 : Nat) (w : World), Below wA.heap.size wA w → wA.heap.size ≤ q4 → w.heap[q4]? = some (.cells #[.int .i64 0, .int .i64 0] 23) → wpAnyW Try.prog 1 Region.Mode.any otu35 (onNormal (Exit.then K Q)) (Below wA.heap.size wA) 12 #[true, true, true, true, false, false, false, false, false, false, true, false, false, false, false, false, false] (fr (.pointer (some ⟨q4, 0, none⟩)) z39 z40 z231 (.int .i64 (j : Int)) z236 z237 z238 z239 z240) w := by
    intro q4 w H lq4 gq4
    subst hfr
    refine wpAnyW_trio 4 11 12 (by kernel_rfl) ⟨by kernel_rfl, by kernel_rfl, by kernel_rfl⟩ ?_ ?_ ?_
    · clear s2111 s2110 s2101 s2011 s2010 s2001 s2000 s1111 s1110 s1101 s1011
      intro o ho K_ hK
      unfold fr35
      conv at ho => lhs; arg 1; whnf
      simp only [gA, gB, gC, gG] at ho
      subst ho
      go_simp
      refine ⟨trivial, CallsIn.mono (callsIn_wide.2 (HWC.out w H)) ?_⟩
      rintro e w1 ⟨rfl, b1⟩
      have H1 := H.trans (b1.mono H.size)
      refine hK _ _ H1 (fun _ => ?_)
      clear hK K_
      try simp only [Act.put, gD, gE, gF]
      refine wTk 5 231 ?_ ?_ ?_
      rotate_left
      · intro o h w k; (try dsimp only at k); (conv at h => lhs; whnf; arg 1; whnf); simp only [gG] at h; subst h; go_simp; try with_reducible rfl
      simp only [Act.put, gD, gE, gF]
      refine wTk 6 237 ?_ ?_ ?_
      rotate_left
      · intro o h w k; (try dsimp only at k); (conv at h => lhs; whnf; arg 1; whnf); simp only [gG] at h; subst h; go_simp; try with_reducible rfl
      simp only [Act.put, gD, gE, gF]
      refine wTk 7 238 ?_ ?_ ?_
      rotate_left
      · intro o h w k; (try dsimp only at k); (conv at h => lhs; whnf; arg 1; whnf); simp only [gG] at h; subst h; go_simp; try with_reducible rfl
      simp only [Act.put, gD, gE, gF]
      refine wTk 8 239 ?_ ?_ ?_
      rotate_left
      · intro o h w k; (try dsimp only at k); (conv at h => lhs; whnf; arg 1; whnf); simp only [gG] at h; subst h; go_simp; try with_reducible rfl
      simp only [Act.put, gD, gE, gF]
      refine wTk 9 240 ?_ ?_ ?_
      rotate_left
      · intro o h w k; (try dsimp only at k); (conv at h => lhs; whnf; arg 1; whnf); simp only [gG] at h; subst h; go_simp; try with_reducible rfl
      simp only [Act.put, gD, gE, gF]
      exact wpAnyW_listed (by kernel_rfl) (s2100 q4 _ H1 lq4 (obj_later b1 gq4))
    · exact al35 11 39 (by kernel_rfl) H fun q5 w1 H1 lq5 A1 b1 hq => wpAnyW_listed (by kernel_rfl) (s1110 q4 q5 _ H1 lq4 (obj_later b1 gq4) lq5 A1 (fun e => by have := (Array.getElem?_eq_some_iff.1 gq4).1; omega))
    · exact al35 12 40 (by kernel_rfl) H fun q6 w1 H1 lq6 A1 b1 hq => wpAnyW_listed (by kernel_rfl) (s1101 q4 q6 _ H1 lq4 (obj_later b1 gq4) lq6 A1 (fun e => by have := (Array.getElem?_eq_some_iff.1 gq4).1; omega))
  have s1010 : ∀ (q5 : Nat) (w : World), Below wA.heap.size wA w → wA.heap.size ≤ q5 → w.heap[q5]? = some (.cells #[.int .i64 0, .int .i64 0] 23) → wpAnyW Try.prog 1 Region.Mode.any otu35 (onNormal (Exit.then K Q)) (Below wA.heap.size wA) 12 #[true, true, true, true, false, false, false, false, false, false, false, true, false, false, false, false, false] (fr z38 (.pointer (some ⟨q5, 0, none⟩)) z40 z231 (.int .i64 (j : Int)) z236 z237 z238 z239 z240) w := by
    intro q5 w H lq5 gq5
    subst hfr
    refine wpAnyW_trio 4 10 12 (by kernel_rfl) ⟨by kernel_rfl, by kernel_rfl, by kernel_rfl⟩ ?_ ?_ ?_
    · clear s2111 s2110 s2101 s2011 s2100 s2001 s2000 s1111 s1110 s1101 s1011 s1100
      intro o ho K_ hK
      unfold fr35
      conv at ho => lhs; arg 1; whnf
      simp only [gA, gB, gC, gG] at ho
      subst ho
      go_simp
      refine ⟨trivial, CallsIn.mono (callsIn_wide.2 (HWC.out w H)) ?_⟩
      rintro e w1 ⟨rfl, b1⟩
      have H1 := H.trans (b1.mono H.size)
      refine hK _ _ H1 (fun _ => ?_)
      clear hK K_
      try simp only [Act.put, gD, gE, gF]
      refine wTk 5 231 ?_ ?_ ?_
      rotate_left
      · intro o h w k; (try dsimp only at k); (conv at h => lhs; whnf; arg 1; whnf); simp only [gG] at h; subst h; go_simp; try with_reducible rfl
      simp only [Act.put, gD, gE, gF]
      refine wTk 6 237 ?_ ?_ ?_
      rotate_left
      · intro o h w k; (try dsimp only at k); (conv at h => lhs; whnf; arg 1; whnf); simp only [gG] at h; subst h; go_simp; try with_reducible rfl
      simp only [Act.put, gD, gE, gF]
      refine wTk 7 238 ?_ ?_ ?_
      rotate_left
      · intro o h w k; (try dsimp only at k); (conv at h => lhs; whnf; arg 1; whnf); simp only [gG] at h; subst h; go_simp; try with_reducible rfl
      simp only [Act.put, gD, gE, gF]
      refine wTk 8 239 ?_ ?_ ?_
      rotate_left
      · intro o h w k; (try dsimp only at k); (conv at h => lhs; whnf; arg 1; whnf); simp only [gG] at h; subst h; go_simp; try with_reducible rfl
      simp only [Act.put, gD, gE, gF]
      refine wTk 9 240 ?_ ?_ ?_
      rotate_left
      · intro o h w k; (try dsimp only at k); (conv at h => lhs; whnf; arg 1; whnf); simp only [gG] at h; subst h; go_simp; try with_reducible rfl
      simp only [Act.put, gD, gE, gF]
      exact wpAnyW_listed (by kernel_rfl) (s2010 q5 _ H1 lq5 (obj_later b1 gq5))
    · exact al35 10 38 (by kernel_rfl) H fun q4 w1 H1 lq4 A1 b1 hq => wpAnyW_listed (by kernel_rfl) (s1110 q4 q5 _ H1 lq4 A1 lq5 (obj_later b1 gq5) (fun e => by have := (Array.getElem?_eq_some_iff.1 gq5).1; omega))
    · exact al35 12 40 (by kernel_rfl) H fun q6 w1 H1 lq6 A1 b1 hq => wpAnyW_listed (by kernel_rfl) (s1011 q5 q6 _ H1 lq5 (obj_later b1 gq5) lq6 A1 (fun e => by have := (Array.getElem?_eq_some_iff.1 gq5).1; omega))
  have s1001 : ∀ (q6 : Nat) (w : World), Below wA.heap.size wA w → wA.heap.size ≤ q6 → w.heap[q6]? = some (.cells #[.int .i64 0, .int .i64 0] 23) → wpAnyW Try.prog 1 Region.Mode.any otu35 (onNormal (Exit.then K Q)) (Below wA.heap.size wA) 12 #[true, true, true, true, false, false, false, false, false, false, false, false, true, false, false, false, false] (fr z38 z39 (.pointer (some ⟨q6, 0, none⟩)) z231 (.int .i64 (j : Int)) z236 z237 z238 z239 z240) w := by
    intro q6 w H lq6 gq6
    subst hfr
    refine wpAnyW_trio 4 10 11 (by kernel_rfl) ⟨by kernel_rfl, by kernel_rfl, by kernel_rfl⟩ ?_ ?_ ?_
    · clear s2111 s2110 s2101 s2011 s2100 s2010 s2000 s1111 s1110 s1101 s1011 s1100 s1010
      intro o ho K_ hK
      unfold fr35
      conv at ho => lhs; arg 1; whnf
      simp only [gA, gB, gC, gG] at ho
      subst ho
      go_simp
      refine ⟨trivial, CallsIn.mono (callsIn_wide.2 (HWC.out w H)) ?_⟩
      rintro e w1 ⟨rfl, b1⟩
      have H1 := H.trans (b1.mono H.size)
      refine hK _ _ H1 (fun _ => ?_)
      clear hK K_
      try simp only [Act.put, gD, gE, gF]
      refine wTk 5 231 ?_ ?_ ?_
      rotate_left
      · intro o h w k; (try dsimp only at k); (conv at h => lhs; whnf; arg 1; whnf); simp only [gG] at h; subst h; go_simp; try with_reducible rfl
      simp only [Act.put, gD, gE, gF]
      refine wTk 6 237 ?_ ?_ ?_
      rotate_left
      · intro o h w k; (try dsimp only at k); (conv at h => lhs; whnf; arg 1; whnf); simp only [gG] at h; subst h; go_simp; try with_reducible rfl
      simp only [Act.put, gD, gE, gF]
      refine wTk 7 238 ?_ ?_ ?_
      rotate_left
      · intro o h w k; (try dsimp only at k); (conv at h => lhs; whnf; arg 1; whnf); simp only [gG] at h; subst h; go_simp; try with_reducible rfl
      simp only [Act.put, gD, gE, gF]
      refine wTk 8 239 ?_ ?_ ?_
      rotate_left
      · intro o h w k; (try dsimp only at k); (conv at h => lhs; whnf; arg 1; whnf); simp only [gG] at h; subst h; go_simp; try with_reducible rfl
      simp only [Act.put, gD, gE, gF]
      refine wTk 9 240 ?_ ?_ ?_
      rotate_left
      · intro o h w k; (try dsimp only at k); (conv at h => lhs; whnf; arg 1; whnf); simp only [gG] at h; subst h; go_simp; try with_reducible rfl
      simp only [Act.put, gD, gE, gF]
      exact wpAnyW_listed (by kernel_rfl) (s2001 q6 _ H1 lq6 (obj_later b1 gq6))
    · exact al35 10 38 (by kernel_rfl) H fun q4 w1 H1 lq4 A1 b1 hq => wpAnyW_listed (by kernel_rfl) (s1101 q4 q6 _ H1 lq4 A1 lq6 (obj_later b1 gq6) (fun e => by have := (Array.getElem?_eq_some_iff.1 gq6).1; omega))
    · exact al35 11 39 (by kernel_rfl) H fun q5 w1 H1 lq5 A1 b1 hq => wpAnyW_listed (by kernel_rfl) (s1011 q5 q6 _ H1 lq5 A1 lq6 (obj_later b1 gq6) (fun e => by have := (Array.getElem?_eq_some_iff.1 gq6).1; omega))
  have s1000 : ∀ (w : World), Below wA.heap.size wA w → wpAnyW Try.prog 1 Region.Mode.any otu35 (onNormal (Exit.then K Q)) (Below wA.heap.size wA) 13 #[true, true, true, true, false, false, false, false, false, false, false, false, false, false, false, false, false] (fr z38 z39 z40 z231 (.int .i64 (j : Int)) z236 z237 z238 z239 z240) w := by
    intro  w H 
    subst hfr
    refine wpAnyW_four 4 10 11 12 (by kernel_rfl) ⟨by kernel_rfl, by kernel_rfl, by kernel_rfl, by kernel_rfl⟩ ?_ ?_ ?_ ?_
    · clear s2111 s2110 s2101 s2011 s2100 s2010 s2001 s1111 s1110 s1101 s1011 s1100 s1010 s1001
      intro o ho K_ hK
      unfold fr35
      conv at ho => lhs; arg 1; whnf
      simp only [gA, gB, gC, gG] at ho
      subst ho
      go_simp
      refine ⟨trivial, CallsIn.mono (callsIn_wide.2 (HWC.out w H)) ?_⟩
      rintro e w1 ⟨rfl, b1⟩
      have H1 := H.trans (b1.mono H.size)
      refine hK _ _ H1 (fun _ => ?_)
      clear hK K_
      try simp only [Act.put, gD, gE, gF]
      refine wTk 5 231 ?_ ?_ ?_
      rotate_left
      · intro o h w k; (try dsimp only at k); (conv at h => lhs; whnf; arg 1; whnf); simp only [gG] at h; subst h; go_simp; try with_reducible rfl
      simp only [Act.put, gD, gE, gF]
      refine wTk 6 237 ?_ ?_ ?_
      rotate_left
      · intro o h w k; (try dsimp only at k); (conv at h => lhs; whnf; arg 1; whnf); simp only [gG] at h; subst h; go_simp; try with_reducible rfl
      simp only [Act.put, gD, gE, gF]
      refine wTk 7 238 ?_ ?_ ?_
      rotate_left
      · intro o h w k; (try dsimp only at k); (conv at h => lhs; whnf; arg 1; whnf); simp only [gG] at h; subst h; go_simp; try with_reducible rfl
      simp only [Act.put, gD, gE, gF]
      refine wTk 8 239 ?_ ?_ ?_
      rotate_left
      · intro o h w k; (try dsimp only at k); (conv at h => lhs; whnf; arg 1; whnf); simp only [gG] at h; subst h; go_simp; try with_reducible rfl
      simp only [Act.put, gD, gE, gF]
      refine wTk 9 240 ?_ ?_ ?_
      rotate_left
      · intro o h w k; (try dsimp only at k); (conv at h => lhs; whnf; arg 1; whnf); simp only [gG] at h; subst h; go_simp; try with_reducible rfl
      simp only [Act.put, gD, gE, gF]
      exact wpAnyW_listed (by kernel_rfl) (s2000  _ H1 )
    · exact al35 10 38 (by kernel_rfl) H fun q4 w1 H1 lq4 A1 b1 hq => wpAnyW_listed (by kernel_rfl) (s1100 q4 _ H1 lq4 A1)
    · exact al35 11 39 (by kernel_rfl) H fun q5 w1 H1 lq5 A1 b1 hq => wpAnyW_listed (by kernel_rfl) (s1010 q5 _ H1 lq5 A1)
    · exact al35 12 40 (by kernel_rfl) H fun q6 w1 H1 lq6 A1 b1 hq => wpAnyW_listed (by kernel_rfl) (s1001 q6 _ H1 lq6 A1)
  have s0111 : ∀ (q4 q5 q6 : Nat) (w : World), Below wA.heap.size wA w → wA.heap.size ≤ q4 → w.heap[q4]? = some (.cells #[.int .i64 0, .int .i64 0] 23) → wA.heap.size ≤ q5 → w.heap[q5]? = some (.cells #[.int .i64 0, .int .i64 0] 23) → wA.heap.size ≤ q6 → w.heap[q6]? = some (.cells #[.int .i64 0, .int .i64 0] 23) → q4 ≠ q5 → q4 ≠ q6 → q5 ≠ q6 → wpAnyW Try.prog 1 Region.Mode.any otu35 (onNormal (Exit.then K Q)) (Below wA.heap.size wA) 11 #[true, true, true, false, false, false, false, false, false, false, true, true, true, false, false, false, false] (fr (.pointer (some ⟨q4, 0, none⟩)) (.pointer (some ⟨q5, 0, none⟩)) (.pointer (some ⟨q6, 0, none⟩)) z231 z235 z236 z237 z238 z239 z240) w := by
    intro q4 q5 q6 w H lq4 gq4 lq5 gq5 lq6 gq6 nq4q5 nq4q6 nq5q6
    subst hfr
    refine wpAnyW_one 3 (by kernel_rfl) (by kernel_rfl) ?_
    clear s2111 s2110 s2101 s2011 s2100 s2010 s2001 s2000 s1110 s1101 s1011 s1100 s1010 s1001 s1000
    intro o ho K_ hK
    unfold fr35
    conv at ho => lhs; arg 1; whnf
    simp only [gA, gB, gC, gG] at ho
    subst ho
    go_simp
    refine ⟨trivial, CallsIn.mono (callsIn_wide.2 (inum_any m turn s.l.length p4 p7 w (obj_later H G.out.1) (obj_later H G.out.2) hn0 hn hm9 ht)) ?_⟩
    rintro e w1 ⟨rfl, b1⟩
    rw [hj]
    have H1 := H.trans (b1.mono H.size)
    refine hK _ _ H1 (fun _ => ?_)
    clear hK K_
    try simp only [Act.put, gD, gE, gF]
    exact wpAnyW_listed (by kernel_rfl) (s1111 q4 q5 q6 _ H1 lq4 (obj_later b1 gq4) lq5 (obj_later b1 gq5) lq6 (obj_later b1 gq6) nq4q5 nq4q6 nq5q6)
  have s0110 : ∀ (q4 q5 : Nat) (w : World), Below wA.heap.size wA w → wA.heap.size ≤ q4 → w.heap[q4]? = some (.cells #[.int .i64 0, .int .i64 0] 23) → wA.heap.size ≤ q5 → w.heap[q5]? = some (.cells #[.int .i64 0, .int .i64 0] 23) → q4 ≠ q5 → wpAnyW Try.prog 1 Region.Mode.any otu35 (onNormal (Exit.then K Q)) (Below wA.heap.size wA) 12 #[true, true, true, false, false, false, false, false, false, false, true, true, false, false, false, false, false] (fr (.pointer (some ⟨q4, 0, none⟩)) (.pointer (some ⟨q5, 0, none⟩)) z40 z231 z235 z236 z237 z238 z239 z240) w := by
    intro q4 q5 w H lq4 gq4 lq5 gq5 nq4q5
    subst hfr
    refine wpAnyW_two 3 12 (by kernel_rfl) ⟨by kernel_rfl, by kernel_rfl⟩ ?_ ?_
    · clear s2111 s2110 s2101 s2011 s2100 s2010 s2001 s2000 s1111 s1101 s1011 s1100 s1010 s1001 s1000 s0111
      intro o ho K_ hK
      unfold fr35
      conv at ho => lhs; arg 1; whnf
      simp only [gA, gB, gC, gG] at ho
      subst ho
      go_simp
      refine ⟨trivial, CallsIn.mono (callsIn_wide.2 (inum_any m turn s.l.length p4 p7 w (obj_later H G.out.1) (obj_later H G.out.2) hn0 hn hm9 ht)) ?_⟩
      rintro e w1 ⟨rfl, b1⟩
      rw [hj]
      have H1 := H.trans (b1.mono H.size)
      refine hK _ _ H1 (fun _ => ?_)
      clear hK K_
      try simp only [Act.put, gD, gE, gF]
      exact wpAnyW_listed (by kernel_rfl) (s1110 q4 q5 _ H1 lq4 (obj_later b1 gq4) lq5 (obj_later b1 gq5) nq4q5)
    · exact al35 12 40 (by kernel_rfl) H fun q6 w1 H1 lq6 A1 b1 hq => wpAnyW_listed (by kernel_rfl) (s0111 q4 q5 q6 _ H1 lq4 (obj_later b1 gq4) lq5 (obj_later b1 gq5) lq6 A1 nq4q5 (fun e => by have := (Array.getElem?_eq_some_iff.1 gq4).1; omega) (fun e => by have := (Array.getElem?_eq_some_iff.1 gq5).1; omega))
  have s0101 : ∀ (q4 q6 : Nat) (w : World), Below wA.heap.size wA w → wA.heap.size ≤ q4 → w.heap[q4]? = some (.cells #[.int .i64 0, .int .i64 0] 23) → wA.heap.size ≤ q6 → w.heap[q6]? = some (.cells #[.int .i64 0, .int .i64 0] 23) → q4 ≠ q6 → wpAnyW Try.prog 1 Region.Mode.any otu35 (onNormal (Exit.then K Q)) (Below wA.heap.size wA) 12 #[true, true, true, false, false, false, false, false, false, false, true, false, true, false, false, false, false] (fr (.pointer (some ⟨q4, 0, none⟩)) z39 (.pointer (some ⟨q6, 0, none⟩)) z231 z235 z236 z237 z238 z239 z240) w := by
    intro q4 q6 w H lq4 gq4 lq6 gq6 nq4q6
    subst hfr
    refine wpAnyW_two 3 11 (by kernel_rfl) ⟨by kernel_rfl, by kernel_rfl⟩ ?_ ?_
    · clear s2111 s2110 s2101 s2011 s2100 s2010 s2001 s2000 s1111 s1110 s1011 s1100 s1010 s1001 s1000 s0111 s0110
      intro o ho K_ hK
      unfold fr35
      conv at ho => lhs; arg 1; whnf
      simp only [gA, gB, gC, gG] at ho
      subst ho
      go_simp
      refine ⟨trivial, CallsIn.mono (callsIn_wide.2 (inum_any m turn s.l.length p4 p7 w (obj_later H G.out.1) (obj_later H G.out.2) hn0 hn hm9 ht)) ?_⟩
      rintro e w1 ⟨rfl, b1⟩
      rw [hj]
      have H1 := H.trans (b1.mono H.size)
      refine hK _ _ H1 (fun _ => ?_)
      clear hK K_
      try simp only [Act.put, gD, gE, gF]
      exact wpAnyW_listed (by kernel_rfl) (s1101 q4 q6 _ H1 lq4 (obj_later b1 gq4) lq6 (obj_later b1 gq6) nq4q6)
    · exact al35 11 39 (by kernel_rfl) H fun q5 w1 H1 lq5 A1 b1 hq => wpAnyW_listed (by kernel_rfl) (s0111 q4 q5 q6 _ H1 lq4 (obj_later b1 gq4) lq5 A1 lq6 (obj_later b1 gq6) (fun e => by have := (Array.getElem?_eq_some_iff.1 gq4).1; omega) nq4q6 (fun e => by have := (Array.getElem?_eq_some_iff.1 gq6).1; omega))
  have s0011 : ∀ (q5 q6 : Nat) (w : World), Below wA.heap.size wA w → wA.heap.size ≤ q5 → w.heap[q5]? = some (.cells #[.int .i64 0, .int .i64 0] 23) → wA.heap.size ≤ q6 → w.heap[q6]? = some (.cells #[.int .i64 0, .int .i64 0] 23) → q5 ≠ q6 → wpAnyW Try.prog 1 Region.Mode.any otu35 (onNormal (Exit.then K Q)) (Below wA.heap.size wA) 12 #[true, true, true, false, false, false, false, false, false, false, false, true, true, false, false, false, false] (fr z38 (.pointer (some ⟨q5, 0, none⟩)) (.pointer (some ⟨q6, 0, none⟩)) z231 z235 z236 z237 z238 z239 z240) w := by
    intro q5 q6 w H lq5 gq5 lq6 gq6 nq5q6
    subst hfr
    refine wpAnyW_two 3 10 (by kernel_rfl) ⟨by kernel_rfl, by kernel_rfl⟩ ?_ ?_
    · clear s2111 s2110 s2101 s2011 s2100 s2010 s2001 s2000 s1111 s1110 s1101 s1100 s1010 s1001 s1000 s0111 s0110 s0101
      intro o ho K_ hK
      unfold fr35
      conv at ho => lhs; arg 1; whnf
      simp only [gA, gB, gC, gG] at ho
      subst ho
      go_simp
      refine ⟨trivial, CallsIn.mono (callsIn_wide.2 (inum_any m turn s.l.length p4 p7 w (obj_later H G.out.1) (obj_later H G.out.2) hn0 hn hm9 ht)) ?_⟩
      rintro e w1 ⟨rfl, b1⟩
      rw [hj]
      have H1 := H.trans (b1.mono H.size)
      refine hK _ _ H1 (fun _ => ?_)
      clear hK K_
      try simp only [Act.put, gD, gE, gF]
      exact wpAnyW_listed (by kernel_rfl) (s1011 q5 q6 _ H1 lq5 (obj_later b1 gq5) lq6 (obj_later b1 gq6) nq5q6)
    · exact al35 10 38 (by kernel_rfl) H fun q4 w1 H1 lq4 A1 b1 hq => wpAnyW_listed (by kernel_rfl) (s0111 q4 q5 q6 _ H1 lq4 A1 lq5 (obj_later b1 gq5) lq6 (obj_later b1 gq6) (fun e => by have := (Array.getElem?_eq_some_iff.1 gq5).1; omega) (fun e => by have := (Array.getElem?_eq_some_iff.1 gq6).1; omega) nq5q6)
  have s0100 : ∀ (q4 : Nat) (w : World), Below wA.heap.size wA w → wA.heap.size ≤ q4 → w.heap[q4]? = some (.cells #[.int .i64 0, .int .i64 0] 23) → wpAnyW Try.prog 1 Region.Mode.any otu35 (onNormal (Exit.then K Q)) (Below wA.heap.size wA) 13 #[true, true, true, false, false, false, false, false, false, false, true, false, false, false, false, false, false] (fr (.pointer (some ⟨q4, 0, none⟩)) z39 z40 z231 z235 z236 z237 z238 z239 z240) w := by
    intro q4 w H lq4 gq4
    subst hfr
    refine wpAnyW_trio 3 11 12 (by kernel_rfl) ⟨by kernel_rfl, by kernel_rfl, by kernel_rfl⟩ ?_ ?_ ?_
    · clear s2111 s2110 s2101 s2011 s2100 s2010 s2001 s2000 s1111 s1110 s1101 s1011 s1010 s1001 s1000 s0111 s0110 s0101 s0011
      intro o ho K_ hK
      unfold fr35
      conv at ho => lhs; arg 1; whnf
      simp only [gA, gB, gC, gG] at ho
      subst ho
      go_simp
      refine ⟨trivial, CallsIn.mono (callsIn_wide.2 (inum_any m turn s.l.length p4 p7 w (obj_later H G.out.1) (obj_later H G.out.2) hn0 hn hm9 ht)) ?_⟩
      rintro e w1 ⟨rfl, b1⟩
      rw [hj]
      have H1 := H.trans (b1.mono H.size)
      refine hK _ _ H1 (fun _ => ?_)
      clear hK K_
      try simp only [Act.put, gD, gE, gF]
      exact wpAnyW_listed (by kernel_rfl) (s1100 q4 _ H1 lq4 (obj_later b1 gq4))
    · exact al35 11 39 (by kernel_rfl) H fun q5 w1 H1 lq5 A1 b1 hq => wpAnyW_listed (by kernel_rfl) (s0110 q4 q5 _ H1 lq4 (obj_later b1 gq4) lq5 A1 (fun e => by have := (Array.getElem?_eq_some_iff.1 gq4).1; omega))
    · exact al35 12 40 (by kernel_rfl) H fun q6 w1 H1 lq6 A1 b1 hq => wpAnyW_listed (by kernel_rfl) (s0101 q4 q6 _ H1 lq4 (obj_later b1 gq4) lq6 A1 (fun e => by have := (Array.getElem?_eq_some_iff.1 gq4).1; omega))
  have s0010 : ∀ (q5 : Nat) (w : World), Below wA.heap.size wA w → wA.heap.size ≤ q5 → w.heap[q5]? = some (.cells #[.int .i64 0, .int .i64 0] 23) → wpAnyW Try.prog 1 Region.Mode.any otu35 (onNormal (Exit.then K Q)) (Below wA.heap.size wA) 13 #[true, true, true, false, false, false, false, false, false, false, false, true, false, false, false, false, false] (fr z38 (.pointer (some ⟨q5, 0, none⟩)) z40 z231 z235 z236 z237 z238 z239 z240) w := by
    intro q5 w H lq5 gq5
    subst hfr
    refine wpAnyW_trio 3 10 12 (by kernel_rfl) ⟨by kernel_rfl, by kernel_rfl, by kernel_rfl⟩ ?_ ?_ ?_
    · clear s2111 s2110 s2101 s2011 s2100 s2010 s2001 s2000 s1111 s1110 s1101 s1011 s1100 s1001 s1000 s0111 s0110 s0101 s0011 s0100
      intro o ho K_ hK
      unfold fr35
      conv at ho => lhs; arg 1; whnf
      simp only [gA, gB, gC, gG] at ho
      subst ho
      go_simp
      refine ⟨trivial, CallsIn.mono (callsIn_wide.2 (inum_any m turn s.l.length p4 p7 w (obj_later H G.out.1) (obj_later H G.out.2) hn0 hn hm9 ht)) ?_⟩
      rintro e w1 ⟨rfl, b1⟩
      rw [hj]
      have H1 := H.trans (b1.mono H.size)
      refine hK _ _ H1 (fun _ => ?_)
      clear hK K_
      try simp only [Act.put, gD, gE, gF]
      exact wpAnyW_listed (by kernel_rfl) (s1010 q5 _ H1 lq5 (obj_later b1 gq5))
    · exact al35 10 38 (by kernel_rfl) H fun q4 w1 H1 lq4 A1 b1 hq => wpAnyW_listed (by kernel_rfl) (s0110 q4 q5 _ H1 lq4 A1 lq5 (obj_later b1 gq5) (fun e => by have := (Array.getElem?_eq_some_iff.1 gq5).1; omega))
    · exact al35 12 40 (by kernel_rfl) H fun q6 w1 H1 lq6 A1 b1 hq => wpAnyW_listed (by kernel_rfl) (s0011 q5 q6 _ H1 lq5 (obj_later b1 gq5) lq6 A1 (fun e => by have := (Array.getElem?_eq_some_iff.1 gq5).1; omega))
  have s0001 : ∀ (q6 : Nat) (w : World), Below wA.heap.size wA w → wA.heap.size ≤ q6 → w.heap[q6]? = some (.cells #[.int .i64 0, .int .i64 0] 23) → wpAnyW Try.prog 1 Region.Mode.any otu35 (onNormal (Exit.then K Q)) (Below wA.heap.size wA) 13 #[true, true, true, false, false, false, false, false, false, false, false, false, true, false, false, false, false] (fr z38 z39 (.pointer (some ⟨q6, 0, none⟩)) z231 z235 z236 z237 z238 z239 z240) w := by
    intro q6 w H lq6 gq6
    subst hfr
    refine wpAnyW_trio 3 10 11 (by kernel_rfl) ⟨by kernel_rfl, by kernel_rfl, by kernel_rfl⟩ ?_ ?_ ?_
    · clear s2111 s2110 s2101 s2011 s2100 s2010 s2001 s2000 s1111 s1110 s1101 s1011 s1100 s1010 s1000 s0111 s0110 s0101 s0011 s0100 s0010
      intro o ho K_ hK
      unfold fr35
      conv at ho => lhs; arg 1; whnf
      simp only [gA, gB, gC, gG] at ho
      subst ho
      go_simp
      refine ⟨trivial, CallsIn.mono (callsIn_wide.2 (inum_any m turn s.l.length p4 p7 w (obj_later H G.out.1) (obj_later H G.out.2) hn0 hn hm9 ht)) ?_⟩
      rintro e w1 ⟨rfl, b1⟩
      rw [hj]
      have H1 := H.trans (b1.mono H.size)
      refine hK _ _ H1 (fun _ => ?_)
      clear hK K_
      try simp only [Act.put, gD, gE, gF]
      exact wpAnyW_listed (by kernel_rfl) (s1001 q6 _ H1 lq6 (obj_later b1 gq6))
    · exact al35 10 38 (by kernel_rfl) H fun q4 w1 H1 lq4 A1 b1 hq => wpAnyW_listed (by kernel_rfl) (s0101 q4 q6 _ H1 lq4 A1 lq6 (obj_later b1 gq6) (fun e => by have := (Array.getElem?_eq_some_iff.1 gq6).1; omega))
    · exact al35 11 39 (by kernel_rfl) H fun q5 w1 H1 lq5 A1 b1 hq => wpAnyW_listed (by kernel_rfl) (s0011 q5 q6 _ H1 lq5 A1 lq6 (obj_later b1 gq6) (fun e => by have := (Array.getElem?_eq_some_iff.1 gq6).1; omega))
  have s0000 : ∀ (w : World), Below wA.heap.size wA w → wpAnyW Try.prog 1 Region.Mode.any otu35 (onNormal (Exit.then K Q)) (Below wA.heap.size wA) 14 #[true, true, true, false, false, false, false, false, false, false, false, false, false, false, false, false, false] (fr z38 z39 z40 z231 z235 z236 z237 z238 z239 z240) w := by
    intro  w H 
    subst hfr
    refine wpAnyW_four 3 10 11 12 (by kernel_rfl) ⟨by kernel_rfl, by kernel_rfl, by kernel_rfl, by kernel_rfl⟩ ?_ ?_ ?_ ?_
    · clear s2111 s2110 s2101 s2011 s2100 s2010 s2001 s2000 s1111 s1110 s1101 s1011 s1100 s1010 s1001 s0111 s0110 s0101 s0011 s0100 s0010 s0001
      intro o ho K_ hK
      unfold fr35
      conv at ho => lhs; arg 1; whnf
      simp only [gA, gB, gC, gG] at ho
      subst ho
      go_simp
      refine ⟨trivial, CallsIn.mono (callsIn_wide.2 (inum_any m turn s.l.length p4 p7 w (obj_later H G.out.1) (obj_later H G.out.2) hn0 hn hm9 ht)) ?_⟩
      rintro e w1 ⟨rfl, b1⟩
      rw [hj]
      have H1 := H.trans (b1.mono H.size)
      refine hK _ _ H1 (fun _ => ?_)
      clear hK K_
      try simp only [Act.put, gD, gE, gF]
      exact wpAnyW_listed (by kernel_rfl) (s1000  _ H1 )
    · exact al35 10 38 (by kernel_rfl) H fun q4 w1 H1 lq4 A1 b1 hq => wpAnyW_listed (by kernel_rfl) (s0100 q4 _ H1 lq4 A1)
    · exact al35 11 39 (by kernel_rfl) H fun q5 w1 H1 lq5 A1 b1 hq => wpAnyW_listed (by kernel_rfl) (s0010 q5 _ H1 lq5 A1)
    · exact al35 12 40 (by kernel_rfl) H fun q6 w1 H1 lq6 A1 b1 hq => wpAnyW_listed (by kernel_rfl) (s0001 q6 _ H1 lq6 A1)
  have S0 := s0000
  clear s2111 s2110 s2101 s2011 s2100 s2010 s2001 s2000 s1111 s1110 s1101 s1011 s1100 s1010 s1001 s1000 s0111 s0110 s0101 s0011 s0100 s0010 s0001 s0000
  subst hfr
  conv => arg 2; whnf
  refine (wpIn_wide (n := 1)).1 ?_
  refine wpIn_region_Wn (S := Below wA.heap.size wA) 17 (by kernel_rfl) (by kernel_rfl) (below_drew wA) (fun hHeld => ?_)
  refine wTk 0 232 ?_ ?_ ?_
  rotate_left
  · intro o h w k; (try dsimp only at k); simp only [gA, gB, gC, gG] at h; subst h; go_simp; try with_reducible rfl
  simp only [Act.put, gD, gE, gF]
  refine wTk 1 233 ?_ ?_ ?_
  rotate_left
  · intro o h w k; (try dsimp only at k); simp only [gA, gB, gC, gG] at h; subst h; go_simp; try with_reducible rfl
  simp only [Act.put, gD, gE, gF]
  refine wTk 2 234 ?_ ?_ ?_
  rotate_left
  · intro o h w k; (try dsimp only at k); simp only [gA, gB, gC, gG] at h; subst h; go_simp; try with_reducible rfl
  simp only [Act.put, gD, gE, gF]
  clear k0 k1 k2 k3 k4 k5 k6 k7 k8 k9 k10 k11 k12 k13 k14
  exact wpAnyW_listed (by kernel_rfl) (S0 _ hHeld)
end Go.Proofs.Ytacioedolmaofaa
