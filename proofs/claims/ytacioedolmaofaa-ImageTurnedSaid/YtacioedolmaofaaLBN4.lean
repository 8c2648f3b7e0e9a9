/- For ImageTurned: rows of images copied and made; spans and images compared. ImageTurned, walked: where an image goes; its first loop. ImageTurned, walked: the sheet copied. ImageTurned, walked: the images in another order. -/
import Derived.Test.YtacioedolmaofaaLBN3
import Derived.Test.YtacioedolmaofaaLBN2
import Derived.Laws.StructEq
import Derived.Test.YtacioedolmaofaaLBA24
namespace Go.Proofs.Ytacioedolmaofaa
open Go.RowKit Go.Shelf
set_option maxHeartbeats 1600000
set_option maxRecDepth 100000
set_option linter.unusedSimpArgs false
set_option linter.unusedVariables false

/-- A copy of images. -/
theorem icopyAny (w : World) (q : Nat) (a : Option Addr) (c : Nat) (l : List ISpot) (hl : l.length ≤ 100) (hx : ImSl w a l) :
    ∃ ka kc w', (Builtin.append_ #[28, 28] 28 #[.slice (some ⟨q, 0, none⟩) 0 0, .slice a l.length c]).run Try.prog w = .ok (.slice ka l.length kc) w' ∧ ImSl w' ka l ∧ Below w.heap.size w w' ∧ (∀ ad, ka = some ad → l ≠ [] → w.heap.size ≤ ad.block) := by
  by_cases h0 : l = []
  · subst h0
    cases a with
    | none => exact ⟨_, _, w, iappend_none w q c, ImSl.nil _ _, Below.refl _ _, fun _ _ h => absurd rfl h⟩
    | some a => exact ⟨_, _, w, iappend_some w q c a, ImSl.nil _ _, Below.refl _ _, fun _ _ h => absurd rfl h⟩
  · obtain ⟨cap, w', hrun, hR, hb, _⟩ := icopyNew w q a c l h0 hl hx
    exact ⟨_, cap, w', hrun, hR.sl, hb, fun ad e _ => by cases e; exact Nat.le_refl _⟩
theorem imade_get (n k : Nat) (hk : k < n) : (madeCells #[.int .i64 0, .int .i64 0, .int .i64 0, .int .i64 0, .int .i64 0, .int .i64 0] n)[k]? = some (.int .i64 0) := by
  unfold madeCells
  rw [Array.getElem?_map, Array.getElem?_eq_getElem (by simpa using hk)]
  simp only [Array.getElem_range, Option.map_some, List.size_toArray, List.length_cons, List.length_nil, Nat.reduceAdd]
  have h6 : k % 6 < 6 := Nat.mod_lt _ (by omega)
  generalize k % 6 = m at h6
  match m, h6 with
  | 0, _ => rfl
  | 1, _ => rfl
  | 2, _ => rfl
  | 3, _ => rfl
  | 4, _ => rfl
  | 5, _ => rfl
/-- Room for images. -/
theorem imakeRow (w : World) (n : Nat) (hn : n ≤ 100) :
    ∃ w', (Instr.makeSlice 28 (.int .i64 (n : Int)) (.int .i64 (n : Int))).run Try.prog w = .ok (.slice (some ⟨w.heap.size, 0, none⟩) n n) w' ∧ RowIm w' w.heap.size (List.replicate n noSpot) ∧ Below w.heap.size w w' := by
  obtain ⟨i0, hi, hz0, hz1, hz2⟩ := info_parts infoIm
  have hr := run_make (P := Try.prog) w 28 61 i0 _ Try.underlying28 hi hz0 .i64 .i64 (n : Int) (n : Int) (by omega) (Int.le_refl _) (by rw [hz2]; omega) (by omega)
  refine ⟨_, hr, ?_, below_alloc _ _⟩
  have hb := obj_new w (.cells (madeCells (Value.agg #[.int .i64 0, .int .i64 0, .int .i64 0, .int .i64 0, .int .i64 0, .int .i64 0]).cells ((n : Int).toNat * i0.size)) 61)
  rw [hz1] at hb ⊢
  refine ⟨fun j hj => ?_, fun i => frozen_block hb i, (Array.getElem?_eq_some_iff.1 hb).1⟩
  rw [List.length_replicate] at hj
  have hc : ∀ m, m < 6 → (w.alloc (.cells (madeCells (Value.agg #[.int .i64 0, .int .i64 0, .int .i64 0, .int .i64 0, .int .i64 0, .int .i64 0]).cells ((n : Int).toNat * 6)) 61)).cell? ⟨w.heap.size, j * 6 + m, none⟩ = some (.int .i64 0) := fun m hm => by
    rw [cell_block hb]
    exact imade_get _ _ (by simp; omega)
  rw [List.getElem_replicate]
  exact ⟨by have := hc 0 (by omega); rw [Nat.add_zero] at this; exact this, hc 1 (by omega), hc 2 (by omega), hc 3 (by omega), hc 4 (by omega), hc 5 (by omega)⟩

theorem ispan_eq (d : Nat) (a c : Int) (w : World) : (Op.equalIn (d + 2) 23 (.agg #[.int .i64 a, .int .i64 c]) (.agg #[.int .i64 a, .int .i64 c])).run Try.prog w = .ok true w := by
  have hu : Try.prog.underlying 23 = some (.struct (Try.prog.fieldsOf 23)) := by kernel_rfl
  have hp : Try.prog.stoodInHeld 23 = false := by kernel_rfl
  have hf : (Try.prog.fieldsOf 23).toList.map (fun f => (f.name, f.type, f.offset)) = [("Lo", 3, 0), ("Hi", 3, 1)] := by kernel_rfl
  rw [run_equalIn_struct _ _ _ _ _ hu hp]
  refine eqFields_true _ _ _ _ (fun f hm => ?_)
  have h := eq_fields hf hm
  simp only [List.mem_cons, List.not_mem_nil, or_false, Prod.mk.injEq] at h
  have hi : ∀ (x : Int) (w : World), (Op.equalIn (d + 1) 3 (.int .i64 x) (.int .i64 x)).run Try.prog w = .ok true w := fun x w => by
    rw [run_equalIn_int _ _ _ _ _ _ _ Try.underlying3]; simp
  rcases h with ⟨_, h1, h2⟩ | ⟨_, h1, h2⟩
  · rw [h1, h2]; exact ⟨.int .i64 a, fun w => ⟨by kernel_rfl, hi a w⟩⟩
  · rw [h1, h2]; exact ⟨.int .i64 c, fun w => ⟨by kernel_rfl, hi c w⟩⟩
theorem ispan_neq (a c : Int) (w : World) : (binOp .neq 23 (.agg #[.int .i64 a, .int .i64 c]) (.agg #[.int .i64 a, .int .i64 c])).run Try.prog w = .ok (.bool false) w := by
  rw [run_neq_struct, ispan_eq 9998]; rfl
theorem ispot_neq (x : ISpot) (w : World) : (binOp .neq 61 (.agg #[.int .i64 x.x.lo, .int .i64 x.x.hi, .int .i64 x.y.lo, .int .i64 x.y.hi, .int .i64 x.s.lo, .int .i64 x.s.hi]) (.agg #[.int .i64 x.x.lo, .int .i64 x.x.hi, .int .i64 x.y.lo, .int .i64 x.y.hi, .int .i64 x.s.lo, .int .i64 x.s.hi])).run Try.prog w = .ok (.bool false) w := by
  have hu : Try.prog.underlying 61 = some (.struct (Try.prog.fieldsOf 61)) := by kernel_rfl
  have hp : Try.prog.stoodInHeld 61 = false := by kernel_rfl
  have hf : (Try.prog.fieldsOf 61).toList.map (fun f => (f.name, f.type, f.offset)) = [("X", 23, 0), ("Y", 23, 2), ("Size", 23, 4)] := by kernel_rfl
  rw [run_neq_struct, run_equalIn_struct _ _ _ _ _ hu hp, eqFields_true]
  · rfl
  · intro f hm
    have h := eq_fields hf hm
    simp only [List.mem_cons, List.not_mem_nil, or_false, Prod.mk.injEq] at h
    rcases h with ⟨_, h1, h2⟩ | ⟨_, h1, h2⟩ | ⟨_, h1, h2⟩
    · rw [h1, h2]; exact ⟨.agg #[.int .i64 x.x.lo, .int .i64 x.x.hi], fun w => ⟨by kernel_rfl, ispan_eq 9997 _ _ w⟩⟩
    · rw [h1, h2]; exact ⟨.agg #[.int .i64 x.y.lo, .int .i64 x.y.hi], fun w => ⟨by kernel_rfl, ispan_eq 9997 _ _ w⟩⟩
    · rw [h1, h2]; exact ⟨.agg #[.int .i64 x.s.lo, .int .i64 x.s.hi], fun w => ⟨by kernel_rfl, ispan_eq 9997 _ _ w⟩⟩
/-- The statement whose first part is a region, wherever it stands. -/
def findSv (n : Nat) : Code → Option Code
  | .seq a b => if isReg n a then some (.seq a b) else match findSv n a with
    | some c => some c
    | none => findSv n b
  | .cond _ a b => match findSv n a with
    | some c => some c
    | none => findSv n b
  | .block _ c => findSv n c
  | .loop c => findSv n c
  | .scope c => findSv n c
  | _ => none
end Go.Proofs.Ytacioedolmaofaa
namespace Go.Proofs.Ytacioedolmaofaa
open Go.RowKit Go.Shelf
set_option maxHeartbeats 12800000
set_option maxRecDepth 100000
set_option linter.unusedSimpArgs false
set_option linter.unusedVariables false

theorem inum_any (i turn n p q : Nat) (w : World) (hp : w.heap[p]? = some (.cells #[.int .u8 (turn : Int)] 5)) (hq : w.heap[q]? = some (.cells #[.int .i64 (n : Int)] 3)) (hn : 0 < n) (hn9 : n ≤ 9) (hi : i ≤ 9) (ht : turn < 256) :
    Calls Try.prog 38 #[.int .i64 (i : Int), .pointer (some ⟨p, 0, none⟩), .pointer (some ⟨q, 0, none⟩)] w fun e w' => e = .returned (.int .i64 (((i + turn) % n : Nat) : Int)) ∧ Below w.heap.size w w' := by
  have c0 := cell_block hp 0
  have d0 := cell_block hq 0
  simp only [gA, gB, gC] at c0 d0
  have T0 : IntKind.i64.wrap (turn : Int) = (turn : Int) := by rw [IntKind.wrap_i64]; omega
  have T1 : IntKind.i64.wrap ((i : Int) + (turn : Int)) = (i : Int) + (turn : Int) := by rw [IntKind.wrap_i64]; omega
  have T2 : ((i : Int) + (turn : Int)).tmod (n : Int) = (((i + turn) % n : Nat) : Int) := by rw [Int.tmod_eq_emod_of_nonneg (by omega)]; rfl
  have hn0 : ¬ n = 0 := by omega
  clear hp hq
  generalize (i + turn) % n = r at T2 ⊢
  go_enter Try.func38, Try.ntmps38
  go_wp2_with fail
  go_ret
  exact ⟨rfl, Below.refl _ _⟩

theorem ltu_loop1 (s : ISheet) (fa : Option Addr) (fc p far : Nat) (w0 w : World) {z0 z1 z4 z5 z7 z8 z10 z11 z12 z13 z14 z15 z16 z17 z18 z19 z20 z21 z22 z23 z24 z25 z26 z27 z28 z29 z30 z31 z32 z33 z34 z35 z36 z37 z38 z39 z40 z41 z42 z43 z44 z45 z46 z47 z48 z49 z50 z51 z52 z69 z70 z71 z72 z73 z74 z75 z76 z77 z78 z79 z80 z81 z82 z83 z84 z85 z86 z87 z88 z89 z90 z91 z92 z93 z94 z95 z96 z97 z98 z99 z100 z101 z102 z103 z104 z105 z106 z107 z108 z109 z110 z111 z112 z113 z114 z115 z116 z117 z118 z119 z120 z121 z122 z123 z124 z125 z126 z127 z128 z129 z130 z131 z132 z133 z134 z135 z136 z137 z138 z139 z140 z141 z142 z143 z144 z145 z146 z147 z148 z149 z150 z151 z152 z153 z154 z155 z156 z157 z158 z159 z160 z161 z162 z163 z164 z165 z166 z167 z168 z169 z170 z171 z172 z173 z174 z175 z176 z177 z178 z179 z180 z181 z182 z183 z184 z185 z186 z187 z188 z189 z190 z191 z192 z193 z194 z195 z196 z197 z198 z199 z200 z201 z202 z203 z204 z205 z206 z207 z208 z209 z210 z211 z212 z213 z214 z215 z216 z217 z218 z219 z220 z221 z222 z223 z224 z225 z226 z227 z228 z229 z230 z231 z232 z233 z234 z235 z236 z237 z238 z239 z240 z241 z242 z243 z244 z245 z246 z247 z248 z249 z250 z251 z252 z253 z254 z255 z256 z257 z258 z259 z260 z261 z262 z263 z264 z265 z266 z267 z268 z269 z270 z271 z272 z273 z274 : Value} {z6 z9 z53 z54 z55 z56 z57 z58 z59 z60 z61 z62 z63 z64 z65 z66 z67 z68 : Value} (HB0 : Hid (Below w0.heap.size w0 w)) (hf : far < 256) (HOK : Hid (s.ok = true)) (hn : s.l.length ≤ 9) (HIM : Hid (∀ W, Below w.heap.size w W → ImSl W fa s.l)) (HG : Hid (w.heap[p]? = some (.cells #[.int .i64 s.ax.lo, .int .i64 s.ax.hi, .int .i64 s.ay.lo, .int .i64 s.ay.hi, .int .i64 s.bx.lo, .int .i64 s.bx.hi, .int .i64 s.by'.lo, .int .i64 s.by'.hi, .int .i64 s.f.lo, .int .i64 s.f.hi, .int .i64 s.g.lo, .int .i64 s.g.hi, .int .i64 s.limit, .int .i64 s.flaws, .slice fa s.l.length fc] 30))) (K1 K : Act → World → Prop)
    (hK1 : ∀ a w', Code.wp Try.prog (sndC' ((Try.f10.body.bind (findSv 4)).getD .skip)) (Exit.then K (bodyPost Try.prog Try.f10 fun e w' => e = .returned (.bool true) ∧ Below w0.heap.size w0 w')) a w' → K1 a w')
    (hfin : ∀ (s6 s9 s53 s54 s55 s56 s57 s58 s59 s60 s61 s62 s63 s64 s65 s66 s67 s68 : Value) (w3 : World), (∀ x ∈ s.l, x.x.hi + (far : Int) ≤ 1048576) → Below w.heap.size w w3 → K ⟨(z0::z1::(.int .u8 (far : Int))::(.pointer (some ⟨p, 0, none⟩))::z4::z5::s6::z7::z8::s9::z10::z11::z12::z13::z14::z15::z16::z17::z18::z19::z20::z21::z22::z23::z24::z25::z26::z27::z28::z29::z30::z31::z32::z33::z34::z35::z36::z37::z38::z39::z40::z41::z42::z43::z44::z45::z46::z47::z48::z49::z50::z51::z52::s53::s54::s55::s56::s57::s58::s59::s60::s61::s62::s63::s64::s65::s66::s67::s68::z69::z70::z71::z72::z73::z74::z75::z76::z77::z78::z79::z80::z81::z82::z83::z84::z85::z86::z87::z88::z89::z90::z91::z92::z93::z94::z95::z96::z97::z98::z99::z100::z101::z102::z103::z104::z105::z106::z107::z108::z109::z110::z111::z112::z113::z114::z115::z116::z117::z118::z119::z120::z121::z122::z123::z124::z125::z126::z127::z128::z129::z130::z131::z132::z133::z134::z135::z136::z137::z138::z139::z140::z141::z142::z143::z144::z145::z146::z147::z148::z149::z150::z151::z152::z153::z154::z155::z156::z157::z158::z159::z160::z161::z162::z163::z164::z165::z166::z167::z168::z169::z170::z171::z172::z173::z174::z175::z176::z177::z178::z179::z180::z181::z182::z183::z184::z185::z186::z187::z188::z189::z190::z191::z192::z193::z194::z195::z196::z197::z198::z199::z200::z201::z202::z203::z204::z205::z206::z207::z208::z209::z210::z211::z212::z213::z214::z215::z216::z217::z218::z219::z220::z221::z222::z223::z224::z225::z226::z227::z228::z229::z230::z231::z232::z233::z234::z235::z236::z237::z238::z239::z240::z241::z242::z243::z244::z245::z246::z247::z248::z249::z250::z251::z252::z253::z254::z255::z256::z257::z258::z259::z260::z261::z262::z263::z264::z265::z266::z267::z268::z269::z270::z271::z272::z273::z274 :: []).toArray, []⟩ w3) :
    Code.wp Try.prog (fstC' ((Try.f10.body.bind (findSv 4)).getD .skip)) (Exit.then K1 (Exit.then K (bodyPost Try.prog Try.f10 fun e w' => e = .returned (.bool true) ∧ Below w0.heap.size w0 w'))) ⟨(z0::z1::(.int .u8 (far : Int))::(.pointer (some ⟨p, 0, none⟩))::z4::z5::z6::z7::z8::z9::z10::z11::z12::z13::z14::z15::z16::z17::z18::z19::z20::z21::z22::z23::z24::z25::z26::z27::z28::z29::z30::z31::z32::z33::z34::z35::z36::z37::z38::z39::z40::z41::z42::z43::z44::z45::z46::z47::z48::z49::z50::z51::z52::z53::z54::z55::z56::z57::z58::z59::z60::z61::z62::z63::z64::z65::z66::z67::z68::z69::z70::z71::z72::z73::z74::z75::z76::z77::z78::z79::z80::z81::z82::z83::z84::z85::z86::z87::z88::z89::z90::z91::z92::z93::z94::z95::z96::z97::z98::z99::z100::z101::z102::z103::z104::z105::z106::z107::z108::z109::z110::z111::z112::z113::z114::z115::z116::z117::z118::z119::z120::z121::z122::z123::z124::z125::z126::z127::z128::z129::z130::z131::z132::z133::z134::z135::z136::z137::z138::z139::z140::z141::z142::z143::z144::z145::z146::z147::z148::z149::z150::z151::z152::z153::z154::z155::z156::z157::z158::z159::z160::z161::z162::z163::z164::z165::z166::z167::z168::z169::z170::z171::z172::z173::z174::z175::z176::z177::z178::z179::z180::z181::z182::z183::z184::z185::z186::z187::z188::z189::z190::z191::z192::z193::z194::z195::z196::z197::z198::z199::z200::z201::z202::z203::z204::z205::z206::z207::z208::z209::z210::z211::z212::z213::z214::z215::z216::z217::z218::z219::z220::z221::z222::z223::z224::z225::z226::z227::z228::z229::z230::z231::z232::z233::z234::z235::z236::z237::z238::z239::z240::z241::z242::z243::z244::z245::z246::z247::z248::z249::z250::z251::z252::z253::z254::z255::z256::z257::z258::z259::z260::z261::z262::z263::z264::z265::z266::z267::z268::z269::z270::z271::z272::z273::z274 :: []).toArray, []⟩ w := by
  have HFIN := Lib.hid hfin
  clear hfin
  have hni : (s.l.length : Int) ≤ 9 := by omega
  have c14 := cell_block HG.out 14
  simp only [gA, gB, gC] at c14
  have T0 : IntKind.i64.wrap (far : Int) = (far : Int) := by rw [IntKind.wrap_i64]; omega
  conv => arg 2; whnf
  conv at hK1 => enter [a, w', 1, 2]; whnf
  go_wp2_with fail
  clear c14
  go_loopw [56] (fun u wr => ∃ k : Nat, k ≤ s.l.length ∧ u = .int .i64 k ∧ (∀ j (h : j < s.l.length), j < k → s.l[j].x.hi + (far : Int) ≤ 1048576) ∧ Below w.heap.size w wr) (fun u _ => s.l.length - (intOf u).toNat)
  case atStart => exact ⟨0, Nat.zero_le _, rfl, fun j _ h => absurd h (Nat.not_lt_zero _), Below.refl _ _⟩
  case round =>
    obtain ⟨k, hk, rfl, hall, hb⟩ := hrel
    have HALL := Lib.hid hall
    clear hall
    by_cases hlt : k < s.l.length
    · have hki : (k : Int) < s.l.length := by omega
      obtain ⟨ib, io, hia, hil, e0, e1, e2, e3, e4, e5⟩ := HIM.out wr hb k hlt
      have hsp := (spot_iff _).1 (List.all_eq_true.1 ((iok_iff s).1 HOK.out).2.2.2.2.2.2.1 _ (List.getElem_mem hlt))
      obtain ⟨x, hx⟩ : ∃ x, s.l[k] = x := ⟨_, rfl⟩
      have HX := Lib.hid hx
      rw [hx] at e0 e1 e2 e3 e4 e5 hsp
      have hxr := hsp.1
      subst hia
      clear hx hsp
      go_upto_region 7 with fail
      have gx := obj_new wr (.cells #[.int .i64 x.x.lo, .int .i64 x.x.hi, .int .i64 x.y.lo, .int .i64 x.y.hi, .int .i64 x.s.lo, .int .i64 x.s.hi] 61)
      have hbx := below_alloc wr (.cells #[.int .i64 x.x.lo, .int .i64 x.x.hi, .int .i64 x.y.lo, .int .i64 x.y.hi, .int .i64 x.s.lo, .int .i64 x.s.hi] 61)
      have hb2 := hb.trans (hbx.mono hb.size)
      generalize wr.alloc (.cells #[.int .i64 x.x.lo, .int .i64 x.x.hi, .int .i64 x.y.lo, .int .i64 x.y.hi, .int .i64 x.s.lo, .int .i64 x.s.hi] 61) = w2 at gx hbx hb2 ⊢
      obtain ⟨q, hq⟩ : ∃ q, wr.heap.size = q := ⟨_, rfl⟩
      rw [hq] at gx ⊢
      clear hq hbx hb hil e0 e1 e2 e3 e4 e5
      have c1 := cell_block gx 1
      simp only [gA, gB, gC] at c1
      have T1 : IntKind.i64.wrap (x.x.hi + (far : Int)) = x.x.hi + (far : Int) := by rw [IntKind.wrap_i64]; omega
      by_cases hgt : 1048576 < x.x.hi + (far : Int)
      · have hd : decide (1048576 < x.x.hi + (far : Int)) = true := decide_eq_true hgt
        clear hgt
        go_wp2_with fail
        refine (iawake_any _).mono ?_
        rintro e w99 ⟨rfl, hb⟩
        go_wp2_with fail
        go_ret
        exact ⟨rfl, HB0.out.trans ((hb2.trans (hb.mono hb2.size)).mono HB0.out.size)⟩
      · have hd : decide (1048576 < x.x.hi + (far : Int)) = false := decide_eq_false hgt
        have HGT := Lib.hid hgt
        clear hgt
        go_wp2_with fail
        go_roundw
        case rel => exact ⟨k + 1, by omega, by go_num, fun j h hj => by
          rcases Nat.lt_succ_iff_lt_or_eq.1 hj with h2 | rfl
          · exact HALL.out j h h2
          · rw [HX.out]; have := HGT.out; omega, hb2⟩
        case measure => simp [intOf]; omega
    · obtain rfl : k = s.l.length := by omega
      clear hlt
      go_wp2_with fail
      exact HFIN.out _ _ _ _ _ _ _ _ _ _ _ _ _ _ _ _ _ _ _ (fun x hx => by obtain ⟨j, hj, rfl⟩ := List.getElem_of_mem hx; exact HALL.out j hj hj) hb
end Go.Proofs.Ytacioedolmaofaa
namespace Go.Proofs.Ytacioedolmaofaa
open Go.RowKit Go.Shelf
set_option maxHeartbeats 12800000
set_option maxRecDepth 100000
set_option linter.unusedSimpArgs false
set_option linter.unusedVariables false

theorem ltu_reg10 (s : ISheet) (fa : Option Addr) (fc p : Nat) (wA : World) {z0 z1 z2 z4 z5 z6 z7 z8 z9 z12 z13 z14 z15 z16 z17 z18 z19 z20 z21 z22 z23 z24 z25 z26 z27 z28 z29 z30 z31 z32 z33 z34 z35 z36 z37 z38 z39 z40 z41 z42 z43 z44 z45 z46 z47 z48 z49 z50 z51 z52 z53 z54 z55 z56 z57 z58 z59 z60 z61 z62 z63 z64 z65 z66 z67 z68 z74 z75 z76 z77 z78 z79 z80 z81 z82 z83 z84 z85 z86 z87 z88 z89 z90 z91 z92 z93 z94 z95 z96 z97 z98 z99 z100 z101 z102 z103 z104 z105 z106 z107 z108 z109 z110 z111 z112 z113 z114 z115 z116 z117 z118 z119 z120 z121 z122 z123 z124 z125 z126 z127 z128 z129 z130 z131 z132 z133 z134 z135 z136 z137 z138 z139 z140 z141 z142 z143 z144 z145 z146 z147 z148 z149 z150 z151 z152 z153 z154 z155 z156 z157 z158 z159 z160 z161 z162 z163 z164 z165 z166 z167 z168 z169 z170 z171 z172 z173 z174 z175 z176 z177 z178 z179 z180 z181 z182 z183 z184 z185 z186 z187 z188 z189 z190 z191 z192 z193 z194 z195 z196 z197 z198 z199 z200 z201 z202 z203 z204 z205 z206 z207 z208 z209 z210 z211 z212 z213 z214 z215 z216 z217 z218 z219 z220 z221 z222 z223 z224 z225 z226 z227 z228 z229 z230 z231 z232 z233 z234 z235 z236 z237 z238 z239 z240 z241 z242 z243 z244 z245 z246 z247 z248 z249 z250 z251 z252 z253 z254 z255 z256 z257 z258 z259 z260 z261 z262 z263 z264 z265 z266 z267 z268 z269 z270 z271 z272 z273 z274 : Value} {z10 z11 z69 z70 z71 z72 z73 : Value} (hn : s.l.length ≤ 9) (HIM : Hid (∀ W, Below wA.heap.size wA W → ImSl W fa s.l)) (hp : wA.heap[p]? = some (.cells #[.int .i64 s.ax.lo, .int .i64 s.ax.hi, .int .i64 s.ay.lo, .int .i64 s.ay.hi, .int .i64 s.bx.lo, .int .i64 s.bx.hi, .int .i64 s.by'.lo, .int .i64 s.by'.hi, .int .i64 s.f.lo, .int .i64 s.f.hi, .int .i64 s.g.lo, .int .i64 s.g.hi, .int .i64 s.limit, .int .i64 s.flaws, .slice fa s.l.length fc] 30)) (K : Act → World → Prop) (Q : Exit → Act → World → Prop)
    (hfin : ∀ (s69 s70 s71 s72 s73 : Value) (ka : Option Addr) (kc q : Nat) (w3 : World), (w3.heap[q]? = some (.cells #[.int .i64 s.ax.lo, .int .i64 s.ax.hi, .int .i64 s.ay.lo, .int .i64 s.ay.hi, .int .i64 s.bx.lo, .int .i64 s.bx.hi, .int .i64 s.by'.lo, .int .i64 s.by'.hi, .int .i64 s.f.lo, .int .i64 s.f.hi, .int .i64 s.g.lo, .int .i64 s.g.hi, .int .i64 s.limit, .int .i64 s.flaws, .slice fa s.l.length fc] 30) ∧ ImSl w3 ka s.l ∧ (∀ ad, ka = some ad → s.l ≠ [] → ad.block ≠ q) ∧ wA.heap.size ≤ q ∧ Below wA.heap.size wA w3) → K ⟨(z0::z1::z2::(.pointer (some ⟨p, 0, none⟩))::z4::z5::z6::z7::z8::z9::(.pointer (some ⟨q, 0, none⟩))::(.slice ka s.l.length kc)::z12::z13::z14::z15::z16::z17::z18::z19::z20::z21::z22::z23::z24::z25::z26::z27::z28::z29::z30::z31::z32::z33::z34::z35::z36::z37::z38::z39::z40::z41::z42::z43::z44::z45::z46::z47::z48::z49::z50::z51::z52::z53::z54::z55::z56::z57::z58::z59::z60::z61::z62::z63::z64::z65::z66::z67::z68::s69::s70::s71::s72::s73::z74::z75::z76::z77::z78::z79::z80::z81::z82::z83::z84::z85::z86::z87::z88::z89::z90::z91::z92::z93::z94::z95::z96::z97::z98::z99::z100::z101::z102::z103::z104::z105::z106::z107::z108::z109::z110::z111::z112::z113::z114::z115::z116::z117::z118::z119::z120::z121::z122::z123::z124::z125::z126::z127::z128::z129::z130::z131::z132::z133::z134::z135::z136::z137::z138::z139::z140::z141::z142::z143::z144::z145::z146::z147::z148::z149::z150::z151::z152::z153::z154::z155::z156::z157::z158::z159::z160::z161::z162::z163::z164::z165::z166::z167::z168::z169::z170::z171::z172::z173::z174::z175::z176::z177::z178::z179::z180::z181::z182::z183::z184::z185::z186::z187::z188::z189::z190::z191::z192::z193::z194::z195::z196::z197::z198::z199::z200::z201::z202::z203::z204::z205::z206::z207::z208::z209::z210::z211::z212::z213::z214::z215::z216::z217::z218::z219::z220::z221::z222::z223::z224::z225::z226::z227::z228::z229::z230::z231::z232::z233::z234::z235::z236::z237::z238::z239::z240::z241::z242::z243::z244::z245::z246::z247::z248::z249::z250::z251::z252::z253::z254::z255::z256::z257::z258::z259::z260::z261::z262::z263::z264::z265::z266::z267::z268::z269::z270::z271::z272::z273::z274 :: []).toArray, []⟩ w3) :
    Code.wp Try.prog ((Try.f10.body.bind (findReg 10)).getD .skip) (Exit.then K Q) ⟨(z0::z1::z2::(.pointer (some ⟨p, 0, none⟩))::z4::z5::z6::z7::z8::z9::z10::z11::z12::z13::z14::z15::z16::z17::z18::z19::z20::z21::z22::z23::z24::z25::z26::z27::z28::z29::z30::z31::z32::z33::z34::z35::z36::z37::z38::z39::z40::z41::z42::z43::z44::z45::z46::z47::z48::z49::z50::z51::z52::z53::z54::z55::z56::z57::z58::z59::z60::z61::z62::z63::z64::z65::z66::z67::z68::z69::z70::z71::z72::z73::z74::z75::z76::z77::z78::z79::z80::z81::z82::z83::z84::z85::z86::z87::z88::z89::z90::z91::z92::z93::z94::z95::z96::z97::z98::z99::z100::z101::z102::z103::z104::z105::z106::z107::z108::z109::z110::z111::z112::z113::z114::z115::z116::z117::z118::z119::z120::z121::z122::z123::z124::z125::z126::z127::z128::z129::z130::z131::z132::z133::z134::z135::z136::z137::z138::z139::z140::z141::z142::z143::z144::z145::z146::z147::z148::z149::z150::z151::z152::z153::z154::z155::z156::z157::z158::z159::z160::z161::z162::z163::z164::z165::z166::z167::z168::z169::z170::z171::z172::z173::z174::z175::z176::z177::z178::z179::z180::z181::z182::z183::z184::z185::z186::z187::z188::z189::z190::z191::z192::z193::z194::z195::z196::z197::z198::z199::z200::z201::z202::z203::z204::z205::z206::z207::z208::z209::z210::z211::z212::z213::z214::z215::z216::z217::z218::z219::z220::z221::z222::z223::z224::z225::z226::z227::z228::z229::z230::z231::z232::z233::z234::z235::z236::z237::z238::z239::z240::z241::z242::z243::z244::z245::z246::z247::z248::z249::z250::z251::z252::z253::z254::z255::z256::z257::z258::z259::z260::z261::z262::z263::z264::z265::z266::z267::z268::z269::z270::z271::z272::z273::z274 :: []).toArray, []⟩ wA := by
  have HFIN := Lib.hid hfin
  clear hfin
  have cz := fun k => cell_block hp k
  have c0 := cz 0
  have c1 := cz 1
  have c2 := cz 2
  have c3 := cz 3
  have c4 := cz 4
  have c5 := cz 5
  have c6 := cz 6
  have c7 := cz 7
  have c8 := cz 8
  have c9 := cz 9
  have c10 := cz 10
  have c11 := cz 11
  have c12 := cz 12
  have c13 := cz 13
  have c14 := cz 14
  clear cz
  simp only [gA, gB, gC] at c0 c1 c2 c3 c4 c5 c6 c7 c8 c9 c10 c11 c12 c13 c14
  have k0 := iheld c0 (Nat.le_refl _)
  have k1 := iheld c1 (Nat.le_refl _)
  have k2 := iheld c2 (Nat.le_refl _)
  have k3 := iheld c3 (Nat.le_refl _)
  have k4 := iheld c4 (Nat.le_refl _)
  have k5 := iheld c5 (Nat.le_refl _)
  have k6 := iheld c6 (Nat.le_refl _)
  have k7 := iheld c7 (Nat.le_refl _)
  have k8 := iheld c8 (Nat.le_refl _)
  have k9 := iheld c9 (Nat.le_refl _)
  have k10 := iheld c10 (Nat.le_refl _)
  have k11 := iheld c11 (Nat.le_refl _)
  have k12 := iheld c12 (Nat.le_refl _)
  have k13 := iheld c13 (Nat.le_refl _)
  have k14 := iheld c14 (Nat.le_refl _)
  clear c0 c1 c2 c3 c4 c5 c6 c7 c8 c9 c10 c11 c12 c13 c14
  conv => arg 2; whnf
  refine (wpIn_wide (n := 1)).1 ?_
  refine wpIn_region_Wn (S := Below wA.heap.size wA) 8 (by kernel_rfl) (by kernel_rfl) (below_drew wA) (fun hHeld => ?_)
  refine wTk 0 69 ?_ ?_ ?_
  rotate_left
  · intro o h w k; (try dsimp only at k); simp only [gA, gB, gC, gG] at h; subst h; go_simp; try with_reducible rfl
  simp only [Act.put, gD, gE, gF]
  refine wTk 2 71 ?_ ?_ ?_
  rotate_left
  · intro o h w k; (try dsimp only at k); simp only [gA, gB, gC, gG] at h; subst h; go_simp; try with_reducible rfl
  simp only [Act.put, gD, gE, gF]
  refine wTk 3 72 ?_ ?_ ?_
  rotate_left
  · intro o h w k; (try dsimp only at k); simp only [gA, gB, gC, gG] at h; subst h; go_simp; try with_reducible rfl
  simp only [Act.put, gD, gE, gF]
  clear k0 k1 k2 k3 k4 k5 k6 k7 k8 k9 k10 k11 k12 k13 k14
  clear hHeld
  have H0 := below_drew wA
  generalize wA.drew = w0 at H0 ⊢
  refine wpAnyW_two 1 5 (by kernel_rfl) ⟨by kernel_rfl, by kernel_rfl⟩ ?_ ?_
  · intro o ho K hK
    simp only [gA, gB, gC, gG] at ho
    subst ho
    go_simp
    have b1 := below_alloc w0 (.cells #[] 61)
    have H1 := H0.trans (b1.mono H0.size)
    refine hK _ _ H1 (fun _ => ?_)
    clear hK K
    try simp only [Act.put, gD, gE, gF]
    obtain ⟨qe, hqe⟩ : ∃ q, w0.heap.size = q := ⟨_, rfl⟩
    rw [hqe]
    clear hqe
    generalize w0.alloc (.cells #[] 61) = w1 at b1 H1  ⊢
    clear b1
    refine wpAnyW_two 4 5 (by kernel_rfl) ⟨by kernel_rfl, by kernel_rfl⟩ ?_ ?_
    · intro o ho K hK
      simp only [gA, gB, gC, gG] at ho
      subst ho
      obtain ⟨ka, kc, w2, hrun, hims, b2, hka⟩ := icopyAny w1 qe fa fc s.l (by omega) (HIM.out w1 H1)
      refine wpIn_append' (.tmp 70) (.tmp 72) 28 _ _ _ rfl rfl rfl hrun ?_
      have H2 := H1.trans (b2.mono H1.size)
      refine hK _ _ H2 (fun _ => ?_)
      clear hK K hrun
      try simp only [Act.put, gD, gE, gF]
      clear b2 hka
      refine wpAnyW_one 5 (by kernel_rfl) (by kernel_rfl) ?_
      intro o ho K hK
      simp only [gA, gB, gC, gG] at ho
      subst ho
      go_simp
      have A3 := obj_new w2 (.cells #[.int .i64 0, .int .i64 0, .int .i64 0, .int .i64 0, .int .i64 0, .int .i64 0, .int .i64 0, .int .i64 0, .int .i64 0, .int .i64 0, .int .i64 0, .int .i64 0, .int .i64 0, .int .i64 0, .slice none 0 0] 30)
      have b3 := below_alloc w2 (.cells #[.int .i64 0, .int .i64 0, .int .i64 0, .int .i64 0, .int .i64 0, .int .i64 0, .int .i64 0, .int .i64 0, .int .i64 0, .int .i64 0, .int .i64 0, .int .i64 0, .int .i64 0, .int .i64 0, .slice none 0 0] 30)
      have H3 := H2.trans (b3.mono H2.size)
      refine hK _ _ H3 (fun _ => ?_)
      clear hK K
      try simp only [Act.put, gD, gE, gF]
      have hkb : ∀ ad, ka = some ad → s.l ≠ [] → ad.block < w2.heap.size := fun ad e h => by obtain ⟨b, o, h1, h2, _⟩ := hims 0 (List.length_pos_iff.2 h); rw [h1] at e; cases e; exact h2
      replace hims := hims.below b3 (Nat.le_refl _)
      obtain ⟨q, hq⟩ : ∃ q, w2.heap.size = q := ⟨_, rfl⟩
      rw [hq] at A3 ⊢
      have hqA : wA.heap.size ≤ q := by rw [← hq]; exact H2.size
      have HNQ : ∀ ad, ka = some ad → s.l ≠ [] → ad.block ≠ q := fun ad e h => by have := hkb ad e h; omega
      clear hkb
      clear hq
      generalize w2.alloc (.cells #[.int .i64 0, .int .i64 0, .int .i64 0, .int .i64 0, .int .i64 0, .int .i64 0, .int .i64 0, .int .i64 0, .int .i64 0, .int .i64 0, .int .i64 0, .int .i64 0, .int .i64 0, .int .i64 0, .slice none 0 0] 30) = w3 at A3 b3 H3 hims ⊢
      clear b3
      have c0 := cell_block A3 0
      have c1 := cell_block A3 1
      have c2 := cell_block A3 2
      have c3 := cell_block A3 3
      have c4 := cell_block A3 4
      have c5 := cell_block A3 5
      have c6 := cell_block A3 6
      have c7 := cell_block A3 7
      have c8 := cell_block A3 8
      have c9 := cell_block A3 9
      have c10 := cell_block A3 10
      have c11 := cell_block A3 11
      have c12 := cell_block A3 12
      have c13 := cell_block A3 13
      have c14 := cell_block A3 14
      have f0 := frozen_block A3 0
      have f1 := frozen_block A3 1
      have f2 := frozen_block A3 2
      have f3 := frozen_block A3 3
      have f4 := frozen_block A3 4
      have f5 := frozen_block A3 5
      have f6 := frozen_block A3 6
      have f7 := frozen_block A3 7
      have f8 := frozen_block A3 8
      have f9 := frozen_block A3 9
      have f10 := frozen_block A3 10
      have f11 := frozen_block A3 11
      have f12 := frozen_block A3 12
      have f13 := frozen_block A3 13
      have f14 := frozen_block A3 14
      simp only [gA, gB, gC] at c0 c1 c2 c3 c4 c5 c6 c7 c8 c9 c10 c11 c12 c13 c14
      refine wpAnyW_one 6 (by kernel_rfl) (by kernel_rfl) ?_
      intro o ho K hK
      simp only [gA, gB, gC, gG] at ho
      subst ho
      go_simp
      clear c0 f0 c1 f1 c2 f2 c3 f3 c4 f4 c5 f5 c6 f6 c7 f7 c8 f8 c9 f9 c10 f10 c11 f11 c12 f12 c13 f13 c14 f14
      have zz9 := put15_same A3 (.int .i64 s.ax.lo) (.int .i64 s.ax.hi) (.int .i64 s.ay.lo) (.int .i64 s.ay.hi) (.int .i64 s.bx.lo) (.int .i64 s.bx.hi) (.int .i64 s.by'.lo) (.int .i64 s.by'.hi) (.int .i64 s.f.lo) (.int .i64 s.f.hi) (.int .i64 s.g.lo) (.int .i64 s.g.hi) (.int .i64 s.limit) (.int .i64 s.flaws) (.slice fa s.l.length fc)
      have st9 := put15_steps w3 q (.int .i64 s.ax.lo) (.int .i64 s.ax.hi) (.int .i64 s.ay.lo) (.int .i64 s.ay.hi) (.int .i64 s.bx.lo) (.int .i64 s.bx.hi) (.int .i64 s.by'.lo) (.int .i64 s.by'.hi) (.int .i64 s.f.lo) (.int .i64 s.f.hi) (.int .i64 s.g.lo) (.int .i64 s.g.hi) (.int .i64 s.limit) (.int .i64 s.flaws) (.slice fa s.l.length fc)
      unfold put15 at zz9 st9
      generalize (((((((((((((((w3.setCell ⟨q, 0, none⟩ (.int .i64 s.ax.lo)).setCell ⟨q, 1, none⟩ (.int .i64 s.ax.hi)).setCell ⟨q, 2, none⟩ (.int .i64 s.ay.lo)).setCell ⟨q, 3, none⟩ (.int .i64 s.ay.hi)).setCell ⟨q, 4, none⟩ (.int .i64 s.bx.lo)).setCell ⟨q, 5, none⟩ (.int .i64 s.bx.hi)).setCell ⟨q, 6, none⟩ (.int .i64 s.by'.lo)).setCell ⟨q, 7, none⟩ (.int .i64 s.by'.hi)).setCell ⟨q, 8, none⟩ (.int .i64 s.f.lo)).setCell ⟨q, 9, none⟩ (.int .i64 s.f.hi)).setCell ⟨q, 10, none⟩ (.int .i64 s.g.lo)).setCell ⟨q, 11, none⟩ (.int .i64 s.g.hi)).setCell ⟨q, 12, none⟩ (.int .i64 s.limit)).setCell ⟨q, 13, none⟩ (.int .i64 s.flaws)).setCell ⟨q, 14, none⟩ (.slice fa s.l.length fc)) = v9 at zz9 st9 ⊢
      have H9 := H3.trans (st9.below (B := wA.heap.size) H3.size (fun j _ h => by omega))
      have hi9 : ImSl v9 ka s.l := fun j hj => by
        obtain ⟨b, o, h1, h2, h3⟩ := hims j hj
        refine ⟨b, o, h1, Nat.lt_of_lt_of_le h2 st9.size, ?_⟩
        by_cases hbq : b = q
        · exact absurd hbq (HNQ _ h1 (fun e => by rw [e] at hj; exact absurd hj (Nat.not_lt_zero _)))
        · exact h3.same (st9.block b h2 hbq)
      refine hK _ _ H9 (fun _ => ?_)
      clear hK K
      try simp only [Act.put, gD, gE, gF]
      refine wTk 7 11 ?_ ?_ ?_
      rotate_left
      · intro o h w k; (try dsimp only at k); simp only [gA, gB, gC, gG] at h; subst h; go_simp; try with_reducible rfl
      simp only [Act.put, gD, gE, gF]
      refine wpAnyW_done (by kernel_rfl) ?_ _
      dsimp only [onNormal]
      exact HFIN.out _ _ _ _ _ ka kc q v9 ⟨zz9, hi9, HNQ, hqA, H9⟩
    · intro o ho K hK
      simp only [gA, gB, gC, gG] at ho
      subst ho
      go_simp
      have A2 := obj_new w1 (.cells #[.int .i64 0, .int .i64 0, .int .i64 0, .int .i64 0, .int .i64 0, .int .i64 0, .int .i64 0, .int .i64 0, .int .i64 0, .int .i64 0, .int .i64 0, .int .i64 0, .int .i64 0, .int .i64 0, .slice none 0 0] 30)
      have b2 := below_alloc w1 (.cells #[.int .i64 0, .int .i64 0, .int .i64 0, .int .i64 0, .int .i64 0, .int .i64 0, .int .i64 0, .int .i64 0, .int .i64 0, .int .i64 0, .int .i64 0, .int .i64 0, .int .i64 0, .int .i64 0, .slice none 0 0] 30)
      have H2 := H1.trans (b2.mono H1.size)
      refine hK _ _ H2 (fun _ => ?_)
      clear hK K
      try simp only [Act.put, gD, gE, gF]
      obtain ⟨q, hq⟩ : ∃ q, w1.heap.size = q := ⟨_, rfl⟩
      rw [hq] at A2 ⊢
      have hqA : wA.heap.size ≤ q := by rw [← hq]; exact H1.size
      clear hq
      generalize w1.alloc (.cells #[.int .i64 0, .int .i64 0, .int .i64 0, .int .i64 0, .int .i64 0, .int .i64 0, .int .i64 0, .int .i64 0, .int .i64 0, .int .i64 0, .int .i64 0, .int .i64 0, .int .i64 0, .int .i64 0, .slice none 0 0] 30) = w2 at A2 b2 H2  ⊢
      clear b2
      refine wpAnyW_one 4 (by kernel_rfl) (by kernel_rfl) ?_
      intro o ho K hK
      simp only [gA, gB, gC, gG] at ho
      subst ho
      obtain ⟨ka, kc, w3, hrun, hims, b3, hka⟩ := icopyAny w2 qe fa fc s.l (by omega) (HIM.out w2 H2)
      refine wpIn_append' (.tmp 70) (.tmp 72) 28 _ _ _ rfl rfl rfl hrun ?_
      have H3 := H2.trans (b3.mono H2.size)
      refine hK _ _ H3 (fun _ => ?_)
      clear hK K hrun
      try simp only [Act.put, gD, gE, gF]
      have A3 := obj_later b3 A2
      have HNQ : ∀ ad, ka = some ad → s.l ≠ [] → ad.block ≠ q := fun ad e h => by have := hka ad e h; have := (Array.getElem?_eq_some_iff.1 A2).1; omega
      clear b3 hka
      have c0 := cell_block A3 0
      have c1 := cell_block A3 1
      have c2 := cell_block A3 2
      have c3 := cell_block A3 3
      have c4 := cell_block A3 4
      have c5 := cell_block A3 5
      have c6 := cell_block A3 6
      have c7 := cell_block A3 7
      have c8 := cell_block A3 8
      have c9 := cell_block A3 9
      have c10 := cell_block A3 10
      have c11 := cell_block A3 11
      have c12 := cell_block A3 12
      have c13 := cell_block A3 13
      have c14 := cell_block A3 14
      have f0 := frozen_block A3 0
      have f1 := frozen_block A3 1
      have f2 := frozen_block A3 2
      have f3 := frozen_block A3 3
      have f4 := frozen_block A3 4
      have f5 := frozen_block A3 5
      have f6 := frozen_block A3 6
      have f7 := frozen_block A3 7
      have f8 := frozen_block A3 8
      have f9 := frozen_block A3 9
      have f10 := frozen_block A3 10
      have f11 := frozen_block A3 11
      have f12 := frozen_block A3 12
      have f13 := frozen_block A3 13
      have f14 := frozen_block A3 14
      simp only [gA, gB, gC] at c0 c1 c2 c3 c4 c5 c6 c7 c8 c9 c10 c11 c12 c13 c14
      refine wpAnyW_one 6 (by kernel_rfl) (by kernel_rfl) ?_
      intro o ho K hK
      simp only [gA, gB, gC, gG] at ho
      subst ho
      go_simp
      clear c0 f0 c1 f1 c2 f2 c3 f3 c4 f4 c5 f5 c6 f6 c7 f7 c8 f8 c9 f9 c10 f10 c11 f11 c12 f12 c13 f13 c14 f14
      have zz9 := put15_same A3 (.int .i64 s.ax.lo) (.int .i64 s.ax.hi) (.int .i64 s.ay.lo) (.int .i64 s.ay.hi) (.int .i64 s.bx.lo) (.int .i64 s.bx.hi) (.int .i64 s.by'.lo) (.int .i64 s.by'.hi) (.int .i64 s.f.lo) (.int .i64 s.f.hi) (.int .i64 s.g.lo) (.int .i64 s.g.hi) (.int .i64 s.limit) (.int .i64 s.flaws) (.slice fa s.l.length fc)
      have st9 := put15_steps w3 q (.int .i64 s.ax.lo) (.int .i64 s.ax.hi) (.int .i64 s.ay.lo) (.int .i64 s.ay.hi) (.int .i64 s.bx.lo) (.int .i64 s.bx.hi) (.int .i64 s.by'.lo) (.int .i64 s.by'.hi) (.int .i64 s.f.lo) (.int .i64 s.f.hi) (.int .i64 s.g.lo) (.int .i64 s.g.hi) (.int .i64 s.limit) (.int .i64 s.flaws) (.slice fa s.l.length fc)
      unfold put15 at zz9 st9
      generalize (((((((((((((((w3.setCell ⟨q, 0, none⟩ (.int .i64 s.ax.lo)).setCell ⟨q, 1, none⟩ (.int .i64 s.ax.hi)).setCell ⟨q, 2, none⟩ (.int .i64 s.ay.lo)).setCell ⟨q, 3, none⟩ (.int .i64 s.ay.hi)).setCell ⟨q, 4, none⟩ (.int .i64 s.bx.lo)).setCell ⟨q, 5, none⟩ (.int .i64 s.bx.hi)).setCell ⟨q, 6, none⟩ (.int .i64 s.by'.lo)).setCell ⟨q, 7, none⟩ (.int .i64 s.by'.hi)).setCell ⟨q, 8, none⟩ (.int .i64 s.f.lo)).setCell ⟨q, 9, none⟩ (.int .i64 s.f.hi)).setCell ⟨q, 10, none⟩ (.int .i64 s.g.lo)).setCell ⟨q, 11, none⟩ (.int .i64 s.g.hi)).setCell ⟨q, 12, none⟩ (.int .i64 s.limit)).setCell ⟨q, 13, none⟩ (.int .i64 s.flaws)).setCell ⟨q, 14, none⟩ (.slice fa s.l.length fc)) = v9 at zz9 st9 ⊢
      have H9 := H3.trans (st9.below (B := wA.heap.size) H3.size (fun j _ h => by omega))
      have hi9 : ImSl v9 ka s.l := fun j hj => by
        obtain ⟨b, o, h1, h2, h3⟩ := hims j hj
        refine ⟨b, o, h1, Nat.lt_of_lt_of_le h2 st9.size, ?_⟩
        by_cases hbq : b = q
        · exact absurd hbq (HNQ _ h1 (fun e => by rw [e] at hj; exact absurd hj (Nat.not_lt_zero _)))
        · exact h3.same (st9.block b h2 hbq)
      refine hK _ _ H9 (fun _ => ?_)
      clear hK K
      try simp only [Act.put, gD, gE, gF]
      refine wTk 7 11 ?_ ?_ ?_
      rotate_left
      · intro o h w k; (try dsimp only at k); simp only [gA, gB, gC, gG] at h; subst h; go_simp; try with_reducible rfl
      simp only [Act.put, gD, gE, gF]
      refine wpAnyW_done (by kernel_rfl) ?_ _
      dsimp only [onNormal]
      exact HFIN.out _ _ _ _ _ ka kc q v9 ⟨zz9, hi9, HNQ, hqA, H9⟩
  · intro o ho K hK
    simp only [gA, gB, gC, gG] at ho
    subst ho
    go_simp
    have A1 := obj_new w0 (.cells #[.int .i64 0, .int .i64 0, .int .i64 0, .int .i64 0, .int .i64 0, .int .i64 0, .int .i64 0, .int .i64 0, .int .i64 0, .int .i64 0, .int .i64 0, .int .i64 0, .int .i64 0, .int .i64 0, .slice none 0 0] 30)
    have b1 := below_alloc w0 (.cells #[.int .i64 0, .int .i64 0, .int .i64 0, .int .i64 0, .int .i64 0, .int .i64 0, .int .i64 0, .int .i64 0, .int .i64 0, .int .i64 0, .int .i64 0, .int .i64 0, .int .i64 0, .int .i64 0, .slice none 0 0] 30)
    have H1 := H0.trans (b1.mono H0.size)
    refine hK _ _ H1 (fun _ => ?_)
    clear hK K
    try simp only [Act.put, gD, gE, gF]
    obtain ⟨q, hq⟩ : ∃ q, w0.heap.size = q := ⟨_, rfl⟩
    rw [hq] at A1 ⊢
    have hqA : wA.heap.size ≤ q := by rw [← hq]; exact H0.size
    clear hq
    generalize w0.alloc (.cells #[.int .i64 0, .int .i64 0, .int .i64 0, .int .i64 0, .int .i64 0, .int .i64 0, .int .i64 0, .int .i64 0, .int .i64 0, .int .i64 0, .int .i64 0, .int .i64 0, .int .i64 0, .int .i64 0, .slice none 0 0] 30) = w1 at A1 b1 H1  ⊢
    clear b1
    refine wpAnyW_one 1 (by kernel_rfl) (by kernel_rfl) ?_
    intro o ho K hK
    simp only [gA, gB, gC, gG] at ho
    subst ho
    go_simp
    have b2 := below_alloc w1 (.cells #[] 61)
    have H2 := H1.trans (b2.mono H1.size)
    refine hK _ _ H2 (fun _ => ?_)
    clear hK K
    try simp only [Act.put, gD, gE, gF]
    have A2 := obj_later b2 A1
    obtain ⟨qe, hqe⟩ : ∃ q, w1.heap.size = q := ⟨_, rfl⟩
    rw [hqe]
    clear hqe
    generalize w1.alloc (.cells #[] 61) = w2 at b2 H2 A2 ⊢
    clear b2
    refine wpAnyW_one 4 (by kernel_rfl) (by kernel_rfl) ?_
    intro o ho K hK
    simp only [gA, gB, gC, gG] at ho
    subst ho
    obtain ⟨ka, kc, w3, hrun, hims, b3, hka⟩ := icopyAny w2 qe fa fc s.l (by omega) (HIM.out w2 H2)
    refine wpIn_append' (.tmp 70) (.tmp 72) 28 _ _ _ rfl rfl rfl hrun ?_
    have H3 := H2.trans (b3.mono H2.size)
    refine hK _ _ H3 (fun _ => ?_)
    clear hK K hrun
    try simp only [Act.put, gD, gE, gF]
    have A3 := obj_later b3 A2
    have HNQ : ∀ ad, ka = some ad → s.l ≠ [] → ad.block ≠ q := fun ad e h => by have := hka ad e h; have := (Array.getElem?_eq_some_iff.1 A2).1; omega
    clear b3 hka
    have c0 := cell_block A3 0
    have c1 := cell_block A3 1
    have c2 := cell_block A3 2
    have c3 := cell_block A3 3
    have c4 := cell_block A3 4
    have c5 := cell_block A3 5
    have c6 := cell_block A3 6
    have c7 := cell_block A3 7
    have c8 := cell_block A3 8
    have c9 := cell_block A3 9
    have c10 := cell_block A3 10
    have c11 := cell_block A3 11
    have c12 := cell_block A3 12
    have c13 := cell_block A3 13
    have c14 := cell_block A3 14
    have f0 := frozen_block A3 0
    have f1 := frozen_block A3 1
    have f2 := frozen_block A3 2
    have f3 := frozen_block A3 3
    have f4 := frozen_block A3 4
    have f5 := frozen_block A3 5
    have f6 := frozen_block A3 6
    have f7 := frozen_block A3 7
    have f8 := frozen_block A3 8
    have f9 := frozen_block A3 9
    have f10 := frozen_block A3 10
    have f11 := frozen_block A3 11
    have f12 := frozen_block A3 12
    have f13 := frozen_block A3 13
    have f14 := frozen_block A3 14
    simp only [gA, gB, gC] at c0 c1 c2 c3 c4 c5 c6 c7 c8 c9 c10 c11 c12 c13 c14
    refine wpAnyW_one 6 (by kernel_rfl) (by kernel_rfl) ?_
    intro o ho K hK
    simp only [gA, gB, gC, gG] at ho
    subst ho
    go_simp
    clear c0 f0 c1 f1 c2 f2 c3 f3 c4 f4 c5 f5 c6 f6 c7 f7 c8 f8 c9 f9 c10 f10 c11 f11 c12 f12 c13 f13 c14 f14
    have zz9 := put15_same A3 (.int .i64 s.ax.lo) (.int .i64 s.ax.hi) (.int .i64 s.ay.lo) (.int .i64 s.ay.hi) (.int .i64 s.bx.lo) (.int .i64 s.bx.hi) (.int .i64 s.by'.lo) (.int .i64 s.by'.hi) (.int .i64 s.f.lo) (.int .i64 s.f.hi) (.int .i64 s.g.lo) (.int .i64 s.g.hi) (.int .i64 s.limit) (.int .i64 s.flaws) (.slice fa s.l.length fc)
    have st9 := put15_steps w3 q (.int .i64 s.ax.lo) (.int .i64 s.ax.hi) (.int .i64 s.ay.lo) (.int .i64 s.ay.hi) (.int .i64 s.bx.lo) (.int .i64 s.bx.hi) (.int .i64 s.by'.lo) (.int .i64 s.by'.hi) (.int .i64 s.f.lo) (.int .i64 s.f.hi) (.int .i64 s.g.lo) (.int .i64 s.g.hi) (.int .i64 s.limit) (.int .i64 s.flaws) (.slice fa s.l.length fc)
    unfold put15 at zz9 st9
    generalize (((((((((((((((w3.setCell ⟨q, 0, none⟩ (.int .i64 s.ax.lo)).setCell ⟨q, 1, none⟩ (.int .i64 s.ax.hi)).setCell ⟨q, 2, none⟩ (.int .i64 s.ay.lo)).setCell ⟨q, 3, none⟩ (.int .i64 s.ay.hi)).setCell ⟨q, 4, none⟩ (.int .i64 s.bx.lo)).setCell ⟨q, 5, none⟩ (.int .i64 s.bx.hi)).setCell ⟨q, 6, none⟩ (.int .i64 s.by'.lo)).setCell ⟨q, 7, none⟩ (.int .i64 s.by'.hi)).setCell ⟨q, 8, none⟩ (.int .i64 s.f.lo)).setCell ⟨q, 9, none⟩ (.int .i64 s.f.hi)).setCell ⟨q, 10, none⟩ (.int .i64 s.g.lo)).setCell ⟨q, 11, none⟩ (.int .i64 s.g.hi)).setCell ⟨q, 12, none⟩ (.int .i64 s.limit)).setCell ⟨q, 13, none⟩ (.int .i64 s.flaws)).setCell ⟨q, 14, none⟩ (.slice fa s.l.length fc)) = v9 at zz9 st9 ⊢
    have H9 := H3.trans (st9.below (B := wA.heap.size) H3.size (fun j _ h => by omega))
    have hi9 : ImSl v9 ka s.l := fun j hj => by
      obtain ⟨b, o, h1, h2, h3⟩ := hims j hj
      refine ⟨b, o, h1, Nat.lt_of_lt_of_le h2 st9.size, ?_⟩
      by_cases hbq : b = q
      · exact absurd hbq (HNQ _ h1 (fun e => by rw [e] at hj; exact absurd hj (Nat.not_lt_zero _)))
      · exact h3.same (st9.block b h2 hbq)
    refine hK _ _ H9 (fun _ => ?_)
    clear hK K
    try simp only [Act.put, gD, gE, gF]
    refine wTk 7 11 ?_ ?_ ?_
    rotate_left
    · intro o h w k; (try dsimp only at k); simp only [gA, gB, gC, gG] at h; subst h; go_simp; try with_reducible rfl
    simp only [Act.put, gD, gE, gF]
    refine wpAnyW_done (by kernel_rfl) ?_ _
    dsimp only [onNormal]
    exact HFIN.out _ _ _ _ _ ka kc q v9 ⟨zz9, hi9, HNQ, hqA, H9⟩
end Go.Proofs.Ytacioedolmaofaa
namespace Go.Proofs.Ytacioedolmaofaa
open Go.RowKit Go.Shelf
set_option maxHeartbeats 12800000
set_option maxRecDepth 100000
set_option linter.unusedSimpArgs false
set_option linter.unusedVariables false

theorem ltu_reg17 (s : ISheet) (p4 p7 q10 qy gx i turn j : Nat) (l : List ISpot) (y : ISpot) (wA : World) {z0 z1 z2 z3 z4 z5 z6 z7 z8 z9 z11 z15 z16 z17 z18 z19 z20 z21 z22 z23 z24 z25 z26 z27 z28 z29 z30 z31 z32 z33 z34 z35 z36 z37 z38 z39 z40 z41 z42 z43 z44 z45 z46 z47 z48 z49 z50 z51 z52 z53 z54 z55 z56 z57 z58 z59 z60 z61 z62 z63 z64 z65 z66 z67 z68 z69 z70 z71 z72 z73 z74 z75 z76 z77 z78 z79 z80 z81 z82 z83 z84 z85 z86 z87 z88 z89 z90 z91 z92 z93 z94 z95 z96 z97 z98 z99 z107 z108 z109 z110 z111 z112 z113 z114 z115 z116 z117 z118 z119 z120 z121 z122 z123 z124 z125 z126 z127 z128 z129 z130 z131 z132 z133 z134 z135 z136 z137 z138 z139 z140 z141 z142 z143 z144 z145 z146 z147 z148 z149 z150 z151 z152 z153 z154 z155 z156 z157 z158 z159 z160 z161 z162 z163 z164 z165 z166 z167 z168 z169 z170 z171 z172 z173 z174 z175 z176 z177 z178 z179 z180 z181 z182 z183 z184 z185 z186 z187 z188 z189 z190 z191 z192 z193 z194 z195 z196 z197 z198 z199 z200 z201 z202 z203 z204 z205 z206 z207 z208 z209 z210 z211 z212 z213 z214 z215 z216 z217 z218 z219 z220 z221 z222 z223 z224 z225 z226 z227 z228 z229 z230 z231 z232 z233 z234 z235 z236 z237 z238 z239 z240 z241 z242 z243 z244 z245 z246 z247 z248 z249 z250 z251 z252 z253 z254 z255 z256 z257 z258 z259 z260 z261 z262 z263 z264 z265 z266 z267 z268 z269 z270 z271 z272 z273 z274 : Value} {z100 z101 z102 z103 z104 z105 z106 : Value} (hn0 : 0 < s.l.length) (hn : s.l.length ≤ 9) (hi : i ≤ 9) (ht : turn < 256) (hj : (i + turn) % s.l.length = j) (hl : l.length = s.l.length) (g10 : wA.heap[q10]? = some (.cells #[.int .i64 s.ax.lo, .int .i64 s.ax.hi, .int .i64 s.ay.lo, .int .i64 s.ay.hi, .int .i64 s.bx.lo, .int .i64 s.bx.hi, .int .i64 s.by'.lo, .int .i64 s.by'.hi, .int .i64 s.f.lo, .int .i64 s.f.hi, .int .i64 s.g.lo, .int .i64 s.g.hi, .int .i64 s.limit, .int .i64 s.flaws, .slice (some ⟨gx, 0, none⟩) s.l.length s.l.length] 30)) (gy : wA.heap[qy]? = some (.cells #[.int .i64 y.x.lo, .int .i64 y.x.hi, .int .i64 y.y.lo, .int .i64 y.y.hi, .int .i64 y.s.lo, .int .i64 y.s.hi] 61)) (g4 : wA.heap[p4]? = some (.cells #[.int .u8 (turn : Int)] 5)) (g7 : wA.heap[p7]? = some (.cells #[.int .i64 (s.l.length : Int)] 3)) (hR : RowIm wA gx l) (h1 : gx ≠ q10) (h2 : gx ≠ qy) (K : Act → World → Prop) (Q : Exit → Act → World → Prop)
    (hfin : ∀ (s100 s101 s102 s103 s104 s105 s106 : Value) (w3 : World), (RowIm w3 gx (l.set j y) ∧ Steps (fun k => k = gx) wA w3) → K ⟨(z0::z1::z2::z3::z4::z5::z6::z7::z8::z9::(.pointer (some ⟨q10, 0, none⟩))::z11::(.func (.func 38) #[] #[.pointer (some ⟨p4, 0, none⟩), .pointer (some ⟨p7, 0, none⟩)])::(.int .i64 (i : Int))::(.pointer (some ⟨qy, 0, none⟩))::z15::z16::z17::z18::z19::z20::z21::z22::z23::z24::z25::z26::z27::z28::z29::z30::z31::z32::z33::z34::z35::z36::z37::z38::z39::z40::z41::z42::z43::z44::z45::z46::z47::z48::z49::z50::z51::z52::z53::z54::z55::z56::z57::z58::z59::z60::z61::z62::z63::z64::z65::z66::z67::z68::z69::z70::z71::z72::z73::z74::z75::z76::z77::z78::z79::z80::z81::z82::z83::z84::z85::z86::z87::z88::z89::z90::z91::z92::z93::z94::z95::z96::z97::z98::z99::s100::s101::s102::s103::s104::s105::s106::z107::z108::z109::z110::z111::z112::z113::z114::z115::z116::z117::z118::z119::z120::z121::z122::z123::z124::z125::z126::z127::z128::z129::z130::z131::z132::z133::z134::z135::z136::z137::z138::z139::z140::z141::z142::z143::z144::z145::z146::z147::z148::z149::z150::z151::z152::z153::z154::z155::z156::z157::z158::z159::z160::z161::z162::z163::z164::z165::z166::z167::z168::z169::z170::z171::z172::z173::z174::z175::z176::z177::z178::z179::z180::z181::z182::z183::z184::z185::z186::z187::z188::z189::z190::z191::z192::z193::z194::z195::z196::z197::z198::z199::z200::z201::z202::z203::z204::z205::z206::z207::z208::z209::z210::z211::z212::z213::z214::z215::z216::z217::z218::z219::z220::z221::z222::z223::z224::z225::z226::z227::z228::z229::z230::z231::z232::z233::z234::z235::z236::z237::z238::z239::z240::z241::z242::z243::z244::z245::z246::z247::z248::z249::z250::z251::z252::z253::z254::z255::z256::z257::z258::z259::z260::z261::z262::z263::z264::z265::z266::z267::z268::z269::z270::z271::z272::z273::z274 :: []).toArray, []⟩ w3) :
    Code.wp Try.prog ((Try.f10.body.bind (findReg 17)).getD .skip) (Exit.then K Q) ⟨(z0::z1::z2::z3::z4::z5::z6::z7::z8::z9::(.pointer (some ⟨q10, 0, none⟩))::z11::(.func (.func 38) #[] #[.pointer (some ⟨p4, 0, none⟩), .pointer (some ⟨p7, 0, none⟩)])::(.int .i64 (i : Int))::(.pointer (some ⟨qy, 0, none⟩))::z15::z16::z17::z18::z19::z20::z21::z22::z23::z24::z25::z26::z27::z28::z29::z30::z31::z32::z33::z34::z35::z36::z37::z38::z39::z40::z41::z42::z43::z44::z45::z46::z47::z48::z49::z50::z51::z52::z53::z54::z55::z56::z57::z58::z59::z60::z61::z62::z63::z64::z65::z66::z67::z68::z69::z70::z71::z72::z73::z74::z75::z76::z77::z78::z79::z80::z81::z82::z83::z84::z85::z86::z87::z88::z89::z90::z91::z92::z93::z94::z95::z96::z97::z98::z99::z100::z101::z102::z103::z104::z105::z106::z107::z108::z109::z110::z111::z112::z113::z114::z115::z116::z117::z118::z119::z120::z121::z122::z123::z124::z125::z126::z127::z128::z129::z130::z131::z132::z133::z134::z135::z136::z137::z138::z139::z140::z141::z142::z143::z144::z145::z146::z147::z148::z149::z150::z151::z152::z153::z154::z155::z156::z157::z158::z159::z160::z161::z162::z163::z164::z165::z166::z167::z168::z169::z170::z171::z172::z173::z174::z175::z176::z177::z178::z179::z180::z181::z182::z183::z184::z185::z186::z187::z188::z189::z190::z191::z192::z193::z194::z195::z196::z197::z198::z199::z200::z201::z202::z203::z204::z205::z206::z207::z208::z209::z210::z211::z212::z213::z214::z215::z216::z217::z218::z219::z220::z221::z222::z223::z224::z225::z226::z227::z228::z229::z230::z231::z232::z233::z234::z235::z236::z237::z238::z239::z240::z241::z242::z243::z244::z245::z246::z247::z248::z249::z250::z251::z252::z253::z254::z255::z256::z257::z258::z259::z260::z261::z262::z263::z264::z265::z266::z267::z268::z269::z270::z271::z272::z273::z274 :: []).toArray, []⟩ wA := by
  have HFIN := Lib.hid hfin
  clear hfin
  have hjl : j < s.l.length := by rw [← hj]; exact Nat.mod_lt _ hn0
  have hji : (j : Int) < s.l.length := by omega
  have c14 := cell_block g10 14
  simp only [gA, gB, gC] at c14
  have cz := fun k => cell_block gy k
  have c0 := cz 0
  have c1 := cz 1
  have c2 := cz 2
  have c3 := cz 3
  have c4 := cz 4
  have c5 := cz 5
  clear cz
  simp only [gA, gB, gC] at c0 c1 c2 c3 c4 c5
  have S14 : ∀ W' : World, (W'.heap[q10]? = wA.heap[q10]? ∧ W'.heap[qy]? = wA.heap[qy]?) → W'.cell? ⟨q10, 14, none⟩ = some (.slice (some ⟨gx, 0, none⟩) s.l.length s.l.length) := fun W' h => (World.cell?_of_block h.1).trans c14
  have S0 : ∀ W' : World, (W'.heap[q10]? = wA.heap[q10]? ∧ W'.heap[qy]? = wA.heap[qy]?) → W'.cell? ⟨qy, 0, none⟩ = some (.int .i64 y.x.lo) := fun W' h => (World.cell?_of_block h.2).trans c0
  have S1 : ∀ W' : World, (W'.heap[q10]? = wA.heap[q10]? ∧ W'.heap[qy]? = wA.heap[qy]?) → W'.cell? ⟨qy, 1, none⟩ = some (.int .i64 y.x.hi) := fun W' h => (World.cell?_of_block h.2).trans c1
  have S2 : ∀ W' : World, (W'.heap[q10]? = wA.heap[q10]? ∧ W'.heap[qy]? = wA.heap[qy]?) → W'.cell? ⟨qy, 2, none⟩ = some (.int .i64 y.y.lo) := fun W' h => (World.cell?_of_block h.2).trans c2
  have S3 : ∀ W' : World, (W'.heap[q10]? = wA.heap[q10]? ∧ W'.heap[qy]? = wA.heap[qy]?) → W'.cell? ⟨qy, 3, none⟩ = some (.int .i64 y.y.hi) := fun W' h => (World.cell?_of_block h.2).trans c3
  have S4 : ∀ W' : World, (W'.heap[q10]? = wA.heap[q10]? ∧ W'.heap[qy]? = wA.heap[qy]?) → W'.cell? ⟨qy, 4, none⟩ = some (.int .i64 y.s.lo) := fun W' h => (World.cell?_of_block h.2).trans c4
  have S5 : ∀ W' : World, (W'.heap[q10]? = wA.heap[q10]? ∧ W'.heap[qy]? = wA.heap[qy]?) → W'.cell? ⟨qy, 5, none⟩ = some (.int .i64 y.s.hi) := fun W' h => (World.cell?_of_block h.2).trans c5
  have hl10 := (Array.getElem?_eq_some_iff.1 g10).1
  have hly := (Array.getElem?_eq_some_iff.1 gy).1
  have hb0 := below_drew wA
  have H0 : wA.drew.heap[q10]? = wA.heap[q10]? ∧ wA.drew.heap[qy]? = wA.heap[qy]? := ⟨hb0.block _ hl10, hb0.block _ hly⟩
  have G4 := obj_later hb0 g4
  have G7 := obj_later hb0 g7
  have hR0 := hR.below hb0 (Nat.le_refl _)
  have HN := Lib.hid (And.intro hn0 (And.intro hn (And.intro hi ht)))
  clear c14 c0 c1 c2 c3 c4 c5 g10 gy g4 g7 hR
  conv => arg 2; whnf
  refine (wpIn_wide (n := 1)).1 ?_
  refine wpIn_region_Wn (S := fun W' => W'.heap[q10]? = wA.heap[q10]? ∧ W'.heap[qy]? = wA.heap[qy]?) 8 (by kernel_rfl) (by kernel_rfl) (by exact H0) (fun hHeld => ?_)
  generalize wA.drew = w0 at hb0 H0 G4 G7 hR0 hHeld ⊢
  refine wTk 0 100 ?_ ?_ ?_
  rotate_left
  · intro o h w k; (try dsimp only at k); simp only [gA, gB, gC, gG] at h; subst h; go_simp; try with_reducible rfl
  simp only [Act.put, gD, gE, gF]
  refine wTk 1 101 ?_ ?_ ?_
  rotate_left
  · intro o h w k; (try dsimp only at k); simp only [gA, gB, gC, gG] at h; subst h; go_simp; try with_reducible rfl
  simp only [Act.put, gD, gE, gF]
  refine wTk 2 102 ?_ ?_ ?_
  rotate_left
  · intro o h w k; (try dsimp only at k); simp only [gA, gB, gC, gG] at h; subst h; go_simp; try with_reducible rfl
  simp only [Act.put, gD, gE, gF]
  refine wTk 3 103 ?_ ?_ ?_
  rotate_left
  · intro o h w k; (try dsimp only at k); simp only [gA, gB, gC, gG] at h; subst h; go_simp; try with_reducible rfl
  simp only [Act.put, gD, gE, gF]
  refine wTk 5 105 ?_ ?_ ?_
  rotate_left
  · intro o h w k; (try dsimp only at k); simp only [gA, gB, gC, gG] at h; subst h; go_simp; try with_reducible rfl
  simp only [Act.put, gD, gE, gF]
  clear S14 S0 S1 S2 S3 S4 S5 hHeld
  refine wpAnyW_one 4 (by kernel_rfl) (by kernel_rfl) ?_
  intro o ho K hK
  simp only [gA, gB, gC, gG] at ho
  subst ho
  go_simp
  refine ⟨trivial, CallsIn.mono (callsIn_wide.2 (inum_any i turn s.l.length p4 p7 w0 G4 G7 HN.out.1 HN.out.2.1 HN.out.2.2.1 HN.out.2.2.2)) ?_⟩
  rintro e w1 ⟨rfl, hb1⟩
  rw [hj]
  have hB1 := hb0.trans (hb1.mono hb0.size)
  have hz0 := hb0.size
  have H1 : w1.heap[q10]? = wA.heap[q10]? ∧ w1.heap[qy]? = wA.heap[qy]? := ⟨(hb1.block _ (by omega)).trans H0.1, (hb1.block _ (by omega)).trans H0.2⟩
  have hR1 := hR0.below hb1 (Nat.le_refl _)
  have st1 : Steps (fun k => k = gx) wA w1 := ⟨hB1.os, hB1.tape, hB1.output, hB1.size, fun k hk _ => hB1.block k hk⟩
  refine hK _ _ H1 (fun _ => ?_)
  clear hK K hR0 hb1 hB1 G4 G7 hb0 H0 hz0
  try simp only [Act.put, gD, gE, gF]
  refine wTk 6 106 ?_ ?_ ?_
  rotate_left
  · intro o h w k; (try dsimp only at k); simp only [gA, gB, gC, gG] at h; subst h; go_simp; try with_reducible rfl
  simp only [Act.put, gD, gE, gF]
  have e0 := (hR1.im j (by omega)).c0
  have e1 := (hR1.im j (by omega)).c1
  have e2 := (hR1.im j (by omega)).c2
  have e3 := (hR1.im j (by omega)).c3
  have e4 := (hR1.im j (by omega)).c4
  have e5 := (hR1.im j (by omega)).c5
  have f0 := hR1.fz (j * 6)
  have f1 := hR1.fz (j * 6 + 1)
  have f2 := hR1.fz (j * 6 + 2)
  have f3 := hR1.fz (j * 6 + 3)
  have f4 := hR1.fz (j * 6 + 4)
  have f5 := hR1.fz (j * 6 + 5)
  refine wpAnyW_one 7 (by kernel_rfl) (by kernel_rfl) ?_
  intro o ho K hK
  simp only [gA, gB, gC, gG] at ho
  subst ho
  go_simp
  have hput := hR1.put6 j y (by omega)
  have st2 := put6_steps w1 gx (j * 6) y
  unfold put6 at hput st2
  have st3 := st1.trans st2 (fun _ _ h => h)
  have H2 := And.intro ((st2.block q10 (by have := st1.size; omega) (fun e => h1 e.symm)).trans H1.1) ((st2.block qy (by have := st1.size; omega) (fun e => h2 e.symm)).trans H1.2)
  refine hK _ _ H2 (fun _ => ?_)
  clear hK K
  try simp only [Act.put, gD, gE, gF]
  refine wpAnyW_done (by kernel_rfl) ?_ _
  dsimp only [onNormal]
  exact HFIN.out _ _ _ _ _ _ _ _ ⟨hput, st3⟩

theorem ltu_loop2 (s : ISheet) (fa : Option Addr) (fc p p4 p7 q10 gx far turn : Nat) (w0 w : World) {z0 z1 z4 z5 z6 z7 z8 z9 z11 z15 z16 z17 z18 z19 z20 z21 z22 z23 z24 z25 z26 z27 z28 z29 z30 z31 z32 z33 z34 z35 z36 z37 z38 z39 z40 z41 z42 z43 z44 z45 z46 z47 z48 z49 z50 z51 z52 z53 z54 z55 z56 z57 z58 z59 z60 z61 z62 z63 z64 z65 z66 z67 z68 z69 z70 z71 z72 z73 z74 z75 z76 z77 z108 z109 z110 z111 z112 z113 z114 z115 z116 z117 z118 z119 z120 z121 z122 z123 z124 z125 z126 z127 z128 z129 z130 z131 z132 z133 z134 z135 z136 z137 z138 z139 z140 z141 z142 z143 z144 z145 z146 z147 z148 z149 z150 z151 z152 z153 z154 z155 z156 z157 z158 z159 z160 z161 z162 z163 z164 z165 z166 z167 z168 z169 z170 z171 z172 z173 z174 z175 z176 z177 z178 z179 z180 z181 z182 z183 z184 z185 z186 z187 z188 z189 z190 z191 z192 z193 z194 z195 z196 z197 z198 z199 z200 z201 z202 z203 z204 z205 z206 z207 z208 z209 z210 z211 z212 z213 z214 z215 z216 z217 z218 z219 z220 z221 z222 z223 z224 z225 z226 z227 z228 z229 z230 z231 z232 z233 z234 z235 z236 z237 z238 z239 z240 z241 z242 z243 z244 z245 z246 z247 z248 z249 z250 z251 z252 z253 z254 z255 z256 z257 z258 z259 z260 z261 z262 z263 z264 z265 z266 z267 z268 z269 z270 z271 z272 z273 z274 : Value} {z13 z14 z78 z79 z80 z81 z82 z83 z84 z85 z86 z87 z88 z89 z90 z91 z92 z93 z94 z95 z96 z97 z98 z99 z100 z101 z102 z103 z104 z105 z106 z107 : Value} (hb0 : Below w0.heap.size w0 w) (hf : far < 256) (ht : turn < 256) (HOK : Hid (s.ok = true)) (hn : s.l.length ≤ 9) (HIM : Hid (∀ W, Below w0.heap.size w0 W → ImSl W fa s.l)) (HG : Hid (w.heap[p]? = some (.cells #[.int .i64 s.ax.lo, .int .i64 s.ax.hi, .int .i64 s.ay.lo, .int .i64 s.ay.hi, .int .i64 s.bx.lo, .int .i64 s.bx.hi, .int .i64 s.by'.lo, .int .i64 s.by'.hi, .int .i64 s.f.lo, .int .i64 s.f.hi, .int .i64 s.g.lo, .int .i64 s.g.hi, .int .i64 s.limit, .int .i64 s.flaws, .slice fa s.l.length fc] 30))) (H4 : Hid (w.heap[p4]? = some (.cells #[.int .u8 (turn : Int)] 5))) (H7 : Hid (w.heap[p7]? = some (.cells #[.int .i64 (s.l.length : Int)] 3))) (H10 : Hid (w.heap[q10]? = some (.cells #[.int .i64 s.ax.lo, .int .i64 s.ax.hi, .int .i64 s.ay.lo, .int .i64 s.ay.hi, .int .i64 s.bx.lo, .int .i64 s.bx.hi, .int .i64 s.by'.lo, .int .i64 s.by'.hi, .int .i64 s.f.lo, .int .i64 s.f.hi, .int .i64 s.g.lo, .int .i64 s.g.hi, .int .i64 s.limit, .int .i64 s.flaws, .slice (some ⟨gx, 0, none⟩) s.l.length s.l.length] 30))) (HR : Hid (RowIm w gx (List.replicate s.l.length noSpot))) (HNE : Hid (gx ≠ p ∧ gx ≠ p4 ∧ gx ≠ p7 ∧ gx ≠ q10 ∧ w0.heap.size ≤ gx)) (K1 K : Act → World → Prop) (Q : Exit → Act → World → Prop)
    (hK1 : ∀ a w', Code.wp Try.prog (sndC' ((Try.f10.body.bind (findSv 13)).getD .skip)) (Exit.then K (Q)) a w' → K1 a w')
    (hfin : ∀ (s13 s14 s78 s79 s80 s81 s82 s83 s84 s85 s86 s87 s88 s89 s90 s91 s92 s93 s94 s95 s96 s97 s98 s99 s100 s101 s102 s103 s104 s105 s106 s107 : Value) (w3 : World), RowIm w3 gx (turnS s turn far).l → Steps (fun j => j = gx) w w3 → K ⟨(z0::z1::(.int .u8 (far : Int))::(.pointer (some ⟨p, 0, none⟩))::z4::z5::z6::z7::z8::z9::(.pointer (some ⟨q10, 0, none⟩))::z11::(.func (.func 38) #[] #[.pointer (some ⟨p4, 0, none⟩), .pointer (some ⟨p7, 0, none⟩)])::s13::s14::z15::z16::z17::z18::z19::z20::z21::z22::z23::z24::z25::z26::z27::z28::z29::z30::z31::z32::z33::z34::z35::z36::z37::z38::z39::z40::z41::z42::z43::z44::z45::z46::z47::z48::z49::z50::z51::z52::z53::z54::z55::z56::z57::z58::z59::z60::z61::z62::z63::z64::z65::z66::z67::z68::z69::z70::z71::z72::z73::z74::z75::z76::z77::s78::s79::s80::s81::s82::s83::s84::s85::s86::s87::s88::s89::s90::s91::s92::s93::s94::s95::s96::s97::s98::s99::s100::s101::s102::s103::s104::s105::s106::s107::z108::z109::z110::z111::z112::z113::z114::z115::z116::z117::z118::z119::z120::z121::z122::z123::z124::z125::z126::z127::z128::z129::z130::z131::z132::z133::z134::z135::z136::z137::z138::z139::z140::z141::z142::z143::z144::z145::z146::z147::z148::z149::z150::z151::z152::z153::z154::z155::z156::z157::z158::z159::z160::z161::z162::z163::z164::z165::z166::z167::z168::z169::z170::z171::z172::z173::z174::z175::z176::z177::z178::z179::z180::z181::z182::z183::z184::z185::z186::z187::z188::z189::z190::z191::z192::z193::z194::z195::z196::z197::z198::z199::z200::z201::z202::z203::z204::z205::z206::z207::z208::z209::z210::z211::z212::z213::z214::z215::z216::z217::z218::z219::z220::z221::z222::z223::z224::z225::z226::z227::z228::z229::z230::z231::z232::z233::z234::z235::z236::z237::z238::z239::z240::z241::z242::z243::z244::z245::z246::z247::z248::z249::z250::z251::z252::z253::z254::z255::z256::z257::z258::z259::z260::z261::z262::z263::z264::z265::z266::z267::z268::z269::z270::z271::z272::z273::z274 :: []).toArray, []⟩ w3) :
    Code.wp Try.prog (fstC' ((Try.f10.body.bind (findSv 13)).getD .skip)) (Exit.then K1 (Exit.then K (Q))) ⟨(z0::z1::(.int .u8 (far : Int))::(.pointer (some ⟨p, 0, none⟩))::z4::z5::z6::z7::z8::z9::(.pointer (some ⟨q10, 0, none⟩))::z11::(.func (.func 38) #[] #[.pointer (some ⟨p4, 0, none⟩), .pointer (some ⟨p7, 0, none⟩)])::z13::z14::z15::z16::z17::z18::z19::z20::z21::z22::z23::z24::z25::z26::z27::z28::z29::z30::z31::z32::z33::z34::z35::z36::z37::z38::z39::z40::z41::z42::z43::z44::z45::z46::z47::z48::z49::z50::z51::z52::z53::z54::z55::z56::z57::z58::z59::z60::z61::z62::z63::z64::z65::z66::z67::z68::z69::z70::z71::z72::z73::z74::z75::z76::z77::z78::z79::z80::z81::z82::z83::z84::z85::z86::z87::z88::z89::z90::z91::z92::z93::z94::z95::z96::z97::z98::z99::z100::z101::z102::z103::z104::z105::z106::z107::z108::z109::z110::z111::z112::z113::z114::z115::z116::z117::z118::z119::z120::z121::z122::z123::z124::z125::z126::z127::z128::z129::z130::z131::z132::z133::z134::z135::z136::z137::z138::z139::z140::z141::z142::z143::z144::z145::z146::z147::z148::z149::z150::z151::z152::z153::z154::z155::z156::z157::z158::z159::z160::z161::z162::z163::z164::z165::z166::z167::z168::z169::z170::z171::z172::z173::z174::z175::z176::z177::z178::z179::z180::z181::z182::z183::z184::z185::z186::z187::z188::z189::z190::z191::z192::z193::z194::z195::z196::z197::z198::z199::z200::z201::z202::z203::z204::z205::z206::z207::z208::z209::z210::z211::z212::z213::z214::z215::z216::z217::z218::z219::z220::z221::z222::z223::z224::z225::z226::z227::z228::z229::z230::z231::z232::z233::z234::z235::z236::z237::z238::z239::z240::z241::z242::z243::z244::z245::z246::z247::z248::z249::z250::z251::z252::z253::z254::z255::z256::z257::z258::z259::z260::z261::z262::z263::z264::z265::z266::z267::z268::z269::z270::z271::z272::z273::z274 :: []).toArray, []⟩ w := by
  have HFIN := Lib.hid hfin
  clear hfin
  have hni : (s.l.length : Int) ≤ 9 := by omega
  have c14 := cell_block HG.out 14
  simp only [gA, gB, gC] at c14
  have T0 : IntKind.i64.wrap (far : Int) = (far : Int) := by rw [IntKind.wrap_i64]; omega
  conv => arg 2; whnf
  conv at hK1 => enter [a, w', 1, 2]; whnf
  go_wp2_with fail
  clear c14
  go_loopw [81] (fun u wr => ∃ k : Nat, k ≤ s.l.length ∧ u = .int .i64 k ∧ RowIm wr gx (turnTo s.l turn far k) ∧ Steps (fun j => j = gx) w wr) (fun u _ => s.l.length - (intOf u).toNat)
  case atStart => exact ⟨0, Nat.zero_le _, rfl, HR.out, Steps.refl _ _⟩
  case round =>
    obtain ⟨k, hk, rfl, hR, st⟩ := hrel
    have HST := Lib.hid st
    clear st
    by_cases hlt : k < s.l.length
    · have hki : (k : Int) < s.l.length := by omega
      have hbw : Below w0.heap.size w0 wr := hb0.trans (HST.out.below (B := w0.heap.size) hb0.size (fun j _ h => by have := HNE.out.2.2.2.2; omega))
      obtain ⟨ib, io, hia, hil, e0, e1, e2, e3, e4, e5⟩ := HIM.out wr hbw k hlt
      have hsp := (spot_iff _).1 (List.all_eq_true.1 ((iok_iff s).1 HOK.out).2.2.2.2.2.2.1 _ (List.getElem_mem hlt))
      have hgd : s.l.getD k noSpot = s.l[k] := by rw [List.getD_eq_getElem?_getD, List.getElem?_eq_getElem hlt]; rfl
      obtain ⟨x, hx⟩ : ∃ x, s.l[k] = x := ⟨_, rfl⟩
      rw [hx] at e0 e1 e2 e3 e4 e5 hsp hgd
      have HX := Lib.hid hgd
      have hxr := hsp.1
      subst hia
      clear hx hsp hgd
      go_upto_region 16 with fail
      have gy := obj_new wr (.cells #[.int .i64 x.x.lo, .int .i64 x.x.hi, .int .i64 x.y.lo, .int .i64 x.y.hi, .int .i64 x.s.lo, .int .i64 x.s.hi] 61)
      have hbx := below_alloc wr (.cells #[.int .i64 x.x.lo, .int .i64 x.x.hi, .int .i64 x.y.lo, .int .i64 x.y.hi, .int .i64 x.s.lo, .int .i64 x.s.hi] 61)
      have hR2 := hR.below hbx (Nat.le_refl _)
      have hRl := hR.lt
      have st2 : Steps (fun j => j = gx) w (wr.alloc (.cells #[.int .i64 x.x.lo, .int .i64 x.x.hi, .int .i64 x.y.lo, .int .i64 x.y.hi, .int .i64 x.s.lo, .int .i64 x.s.hi] 61)) := HST.out.trans ⟨hbx.os, hbx.tape, hbx.output, hbx.size, fun k hk _ => hbx.block k hk⟩ (fun _ _ h => h)
      generalize wr.alloc (.cells #[.int .i64 x.x.lo, .int .i64 x.x.hi, .int .i64 x.y.lo, .int .i64 x.y.hi, .int .i64 x.s.lo, .int .i64 x.s.hi] 61) = w2 at gy hbx hR2 st2 ⊢
      obtain ⟨qy, hqy⟩ : ∃ q, wr.heap.size = q := ⟨_, rfl⟩
      rw [hqy] at gy hRl ⊢
      have hwy : w.heap.size ≤ qy := by rw [← hqy]; exact HST.out.size
      clear hqy hbx hil e0 e1 e2 e3 e4 e5 hR hbw
      have c0 := cell_block gy 0
      have c1 := cell_block gy 1
      simp only [gA, gB, gC] at c0 c1
      have T1 : IntKind.i64.wrap (x.x.lo + (far : Int)) = x.x.lo + (far : Int) := by rw [IntKind.wrap_i64]; omega
      have T2 : IntKind.i64.wrap (x.x.hi + (far : Int)) = x.x.hi + (far : Int) := by rw [IntKind.wrap_i64]; omega
      go_wp2_with fail
      refine (ilspan_any _ _ w2).mono ?_
      rintro e w3 ⟨rfl, hb3⟩
      have gy3 := obj_later hb3 gy
      have hR3 := hR2.below hb3 (Nat.le_refl _)
      have st3 : Steps (fun j => j = gx) w w3 := st2.trans ⟨hb3.os, hb3.tape, hb3.output, hb3.size, fun k hk _ => hb3.block k hk⟩ (fun _ _ h => h)
      clear c0 c1 gy hR2 st2 hb3
      have c0 := cell_block gy3 0
      have c1 := cell_block gy3 1
      have f0 := frozen_block gy3 0
      have f1 := frozen_block gy3 1
      simp only [gA, gB, gC] at c0 c1
      go_upto_region 17 with fail
      have gy4 : ((w3.setCell ⟨qy, 0, none⟩ (.int .i64 (x.x.lo + (far : Int)))).setCell ⟨qy, 1, none⟩ (.int .i64 (x.x.hi + (far : Int)))).heap[qy]? = some (.cells #[.int .i64 (shiftP far x).x.lo, .int .i64 (shiftP far x).x.hi, .int .i64 (shiftP far x).y.lo, .int .i64 (shiftP far x).y.hi, .int .i64 (shiftP far x).s.lo, .int .i64 (shiftP far x).s.hi] 61) := by
        rw [block_set (block_set gy3 0 _) 1 _]
        simp [shiftP]
      have x4 : Steps (fun j => j = qy) w3 ((w3.setCell ⟨qy, 0, none⟩ (.int .i64 (x.x.lo + (far : Int)))).setCell ⟨qy, 1, none⟩ (.int .i64 (x.x.hi + (far : Int)))) := (Steps.setCell (own := fun j => j = qy) w3 (p := ⟨qy, 0, none⟩) rfl _).trans (Steps.setCell (own := fun j => j = qy) _ (p := ⟨qy, 1, none⟩) rfl _) (fun _ _ h => h)
      generalize (w3.setCell ⟨qy, 0, none⟩ (.int .i64 (x.x.lo + (far : Int)))).setCell ⟨qy, 1, none⟩ (.int .i64 (x.x.hi + (far : Int))) = w4 at gy4 x4 ⊢
      have hR4 := hR3.same (x4.block gx hR3.lt (by omega))
      have st4 : Steps (fun j => j = gx) w w4 := ⟨x4.os.trans st3.os, x4.tape.trans st3.tape, x4.output.trans st3.output, Nat.le_trans st3.size x4.size, fun j hj hne => (x4.block j (by have := st3.size; omega) (fun e => by omega)).trans (st3.block j hj hne)⟩
      have hne := HNE.out
      clear c0 c1 f0 f1 gy3 hR3 st3 x4 T1 T2 hxr
      refine wp_last (ltu_reg17 s p4 p7 q10 qy gx k turn ((k + turn) % s.l.length) (turnTo s.l turn far k) (shiftP far x) w4 (by omega) hn (by omega) ht rfl (turnTo_len _ _ _ _) (st4.obj (k := q10) (fun e => hne.2.2.2.1 e.symm) H10.out) gy4 (st4.obj (k := p4) (fun e => hne.2.1 e.symm) H4.out) (st4.obj (k := p7) (fun e => hne.2.2.1 e.symm) H7.out) hR4 hne.2.2.2.1 (by omega) _ _ ?_)
      intro s100 s101 s102 s103 s104 s105 s106 w5 ⟨hR5, st5⟩
      have st6 := st4.trans st5 (fun _ _ h => h)
      clear gy4 hR4 st4 st5
      go_wp2_with fail
      go_roundw
      case rel => exact ⟨k + 1, by omega, by go_num, by unfold turnTo; rw [HX.out]; exact hR5, st6⟩
      case measure => simp [intOf]; omega
    · obtain rfl : k = s.l.length := by omega
      clear hlt
      go_wp2_with fail
      exact HFIN.out _ _ _ _ _ _ _ _ _ _ _ _ _ _ _ _ _ _ _ _ _ _ _ _ _ _ _ _ _ _ _ _ _ hR HST.out
end Go.Proofs.Ytacioedolmaofaa
