/- ImageTurned, walked: its third loop. ImageTurned, walked: from Stars on. ImageTurned, walked: from Count on. The law ImageTurned, walked. ImageTurned: its numbers as they come. -/
import Derived.Test.YtacioedolmaofaaLBN5
import Derived.Test.YtacioedolmaofaaLBN6
import Derived.Test.YtacioedolmaofaaLBN4
namespace Go.Proofs.Ytacioedolmaofaa
open Go.RowKit Go.Shelf
set_option maxHeartbeats 12800000
set_option maxRecDepth 100000
set_option linter.unusedSimpArgs false
set_option linter.unusedVariables false

theorem ltu_loop3 (s x : ISheet) (fa ka : Option Addr) (fc kc p p4 p7 q10 gx far turn : Nat) (lo hi e4 : Int) (st fl su gu : Nat) (ws : Nat → Option IStar) (w : World) {z0 z1 z4 z5 z8 z9 z13 z14 z15 z16 z17 z18 z19 z20 z21 z22 z23 z24 z25 z26 z29 z32 z42 z43 z44 z45 z46 z47 z48 z49 z50 z51 z52 z53 z54 z55 z56 z57 z58 z59 z60 z61 z62 z63 z64 z65 z66 z67 z68 z69 z70 z71 z72 z73 z74 z75 z76 z77 z78 z79 z80 z81 z82 z83 z84 z85 z86 z87 z88 z89 z90 z91 z92 z93 z94 z95 z96 z97 z98 z99 z100 z101 z102 z103 z104 z105 z106 z107 z108 z109 z110 z111 z112 z113 z114 z115 z116 z117 z118 z119 z120 z121 z122 z123 z124 z125 z126 z127 z128 z129 z130 z131 z132 z133 z134 z135 z136 z137 z138 z139 z140 z141 z142 z143 z144 z145 z146 z147 z148 z149 z150 z151 z152 z153 z154 z155 z156 z157 z158 z159 z160 z161 z162 z163 z164 z165 z166 z167 z168 z169 z170 z171 z172 z173 z174 z175 z176 z177 z178 z179 z180 z181 z182 z274 : Value} {z6 z33 z34 z35 z36 z37 z38 z39 z40 z41 z183 z184 z185 z186 z187 z188 z189 z190 z191 z192 z193 z194 z195 z196 z197 z198 z199 z200 z201 z202 z203 z204 z205 z206 z207 z208 z209 z210 z211 z212 z213 z214 z215 z216 z217 z218 z219 z220 z221 z222 z223 z224 z225 z226 z227 z228 z229 z230 z231 z232 z233 z234 z235 z236 z237 z238 z239 z240 z241 z242 z243 z244 z245 z246 z247 z248 z249 z250 z251 z252 z253 z254 z255 z256 z257 z258 z259 z260 z261 z262 z263 z264 z265 z266 z267 z268 z269 z270 z271 z272 z273 : Value} (hf : far < 256) (ht : turn < 256) (hn : s.l.length ≤ 9) (hxl : x.l.length = s.l.length) (HV : Hid (TurnV s x turn far lo hi e4 st fl su gu ws)) (HIM : Hid (∀ W, Below w.heap.size w W → ImSl W fa s.l)) (HKM : Hid (∀ W, Below w.heap.size w W → ImSl W ka s.l)) (HIX : Hid (∀ W, Below w.heap.size w W → ImSl W (some ⟨gx, 0, none⟩) x.l)) (HG : Hid (w.heap[p]? = some (.cells #[.int .i64 s.ax.lo, .int .i64 s.ax.hi, .int .i64 s.ay.lo, .int .i64 s.ay.hi, .int .i64 s.bx.lo, .int .i64 s.bx.hi, .int .i64 s.by'.lo, .int .i64 s.by'.hi, .int .i64 s.f.lo, .int .i64 s.f.hi, .int .i64 s.g.lo, .int .i64 s.g.hi, .int .i64 s.limit, .int .i64 s.flaws, .slice fa s.l.length fc] 30) ∧ w.heap[p4]? = some (.cells #[.int .u8 (turn : Int)] 5) ∧ w.heap[p7]? = some (.cells #[.int .i64 (s.l.length : Int)] 3) ∧ w.heap[q10]? = some (.cells #[.int .i64 x.ax.lo, .int .i64 x.ax.hi, .int .i64 x.ay.lo, .int .i64 x.ay.hi, .int .i64 x.bx.lo, .int .i64 x.bx.hi, .int .i64 x.by'.lo, .int .i64 x.by'.hi, .int .i64 x.f.lo, .int .i64 x.f.hi, .int .i64 x.g.lo, .int .i64 x.g.hi, .int .i64 x.limit, .int .i64 x.flaws, .slice (some ⟨gx, 0, none⟩) x.l.length s.l.length] 30))) (K1 K : Act → World → Prop) (Q : Exit → Act → World → Prop)
    (hK1 : ∀ a w', Code.wp Try.prog (sndC' ((Try.f10.body.bind (findSv 29)).getD .skip)) (Exit.then K (Q)) a w' → K1 a w')
    (hfin : ∀ (s6 s33 s34 s35 s36 s37 s38 s39 s40 s41 s183 s184 s185 s186 s187 s188 s189 s190 s191 s192 s193 s194 s195 s196 s197 s198 s199 s200 s201 s202 s203 s204 s205 s206 s207 s208 s209 s210 s211 s212 s213 s214 s215 s216 s217 s218 s219 s220 s221 s222 s223 s224 s225 s226 s227 s228 s229 s230 s231 s232 s233 s234 s235 s236 s237 s238 s239 s240 s241 s242 s243 s244 s245 s246 s247 s248 s249 s250 s251 s252 s253 s254 s255 s256 s257 s258 s259 s260 s261 s262 s263 s264 s265 s266 s267 s268 s269 s270 s271 s272 s273 : Value) (w3 : World), Below w.heap.size w w3 → K ⟨(z0::z1::(.int .u8 (far : Int))::(.pointer (some ⟨p, 0, none⟩))::z4::z5::s6::(.pointer (some ⟨p7, 0, none⟩))::z8::z9::(.pointer (some ⟨q10, 0, none⟩))::(.slice ka s.l.length kc)::(.func (.func 38) #[] #[.pointer (some ⟨p4, 0, none⟩), .pointer (some ⟨p7, 0, none⟩)])::z13::z14::z15::z16::z17::z18::z19::z20::z21::z22::z23::z24::z25::z26::(.int .i64 (st : Int))::(.int .i64 (fl : Int))::z29::(.int .i64 (su : Int))::(.int .i64 (gu : Int))::z32::s33::s34::s35::s36::s37::s38::s39::s40::s41::z42::z43::z44::z45::z46::z47::z48::z49::z50::z51::z52::z53::z54::z55::z56::z57::z58::z59::z60::z61::z62::z63::z64::z65::z66::z67::z68::z69::z70::z71::z72::z73::z74::z75::z76::z77::z78::z79::z80::z81::z82::z83::z84::z85::z86::z87::z88::z89::z90::z91::z92::z93::z94::z95::z96::z97::z98::z99::z100::z101::z102::z103::z104::z105::z106::z107::z108::z109::z110::z111::z112::z113::z114::z115::z116::z117::z118::z119::z120::z121::z122::z123::z124::z125::z126::z127::z128::z129::z130::z131::z132::z133::z134::z135::z136::z137::z138::z139::z140::z141::z142::z143::z144::z145::z146::z147::z148::z149::z150::z151::z152::z153::z154::z155::z156::z157::z158::z159::z160::z161::z162::z163::z164::z165::z166::z167::z168::z169::z170::z171::z172::z173::z174::z175::z176::z177::z178::z179::z180::z181::z182::s183::s184::s185::s186::s187::s188::s189::s190::s191::s192::s193::s194::s195::s196::s197::s198::s199::s200::s201::s202::s203::s204::s205::s206::s207::s208::s209::s210::s211::s212::s213::s214::s215::s216::s217::s218::s219::s220::s221::s222::s223::s224::s225::s226::s227::s228::s229::s230::s231::s232::s233::s234::s235::s236::s237::s238::s239::s240::s241::s242::s243::s244::s245::s246::s247::s248::s249::s250::s251::s252::s253::s254::s255::s256::s257::s258::s259::s260::s261::s262::s263::s264::s265::s266::s267::s268::s269::s270::s271::s272::s273::z274 :: []).toArray, []⟩ w3) :
    Code.wp Try.prog (fstC' ((Try.f10.body.bind (findSv 29)).getD .skip)) (Exit.then K1 (Exit.then K (Q))) ⟨(z0::z1::(.int .u8 (far : Int))::(.pointer (some ⟨p, 0, none⟩))::z4::z5::z6::(.pointer (some ⟨p7, 0, none⟩))::z8::z9::(.pointer (some ⟨q10, 0, none⟩))::(.slice ka s.l.length kc)::(.func (.func 38) #[] #[.pointer (some ⟨p4, 0, none⟩), .pointer (some ⟨p7, 0, none⟩)])::z13::z14::z15::z16::z17::z18::z19::z20::z21::z22::z23::z24::z25::z26::(.int .i64 (st : Int))::(.int .i64 (fl : Int))::z29::(.int .i64 (su : Int))::(.int .i64 (gu : Int))::z32::z33::z34::z35::z36::z37::z38::z39::z40::z41::z42::z43::z44::z45::z46::z47::z48::z49::z50::z51::z52::z53::z54::z55::z56::z57::z58::z59::z60::z61::z62::z63::z64::z65::z66::z67::z68::z69::z70::z71::z72::z73::z74::z75::z76::z77::z78::z79::z80::z81::z82::z83::z84::z85::z86::z87::z88::z89::z90::z91::z92::z93::z94::z95::z96::z97::z98::z99::z100::z101::z102::z103::z104::z105::z106::z107::z108::z109::z110::z111::z112::z113::z114::z115::z116::z117::z118::z119::z120::z121::z122::z123::z124::z125::z126::z127::z128::z129::z130::z131::z132::z133::z134::z135::z136::z137::z138::z139::z140::z141::z142::z143::z144::z145::z146::z147::z148::z149::z150::z151::z152::z153::z154::z155::z156::z157::z158::z159::z160::z161::z162::z163::z164::z165::z166::z167::z168::z169::z170::z171::z172::z173::z174::z175::z176::z177::z178::z179::z180::z181::z182::z183::z184::z185::z186::z187::z188::z189::z190::z191::z192::z193::z194::z195::z196::z197::z198::z199::z200::z201::z202::z203::z204::z205::z206::z207::z208::z209::z210::z211::z212::z213::z214::z215::z216::z217::z218::z219::z220::z221::z222::z223::z224::z225::z226::z227::z228::z229::z230::z231::z232::z233::z234::z235::z236::z237::z238::z239::z240::z241::z242::z243::z244::z245::z246::z247::z248::z249::z250::z251::z252::z253::z254::z255::z256::z257::z258::z259::z260::z261::z262::z263::z264::z265::z266::z267::z268::z269::z270::z271::z272::z273::z274 :: []).toArray, []⟩ w := by
  have HFIN := Lib.hid hfin
  clear hfin
  have hni : (s.l.length : Int) ≤ 9 := by omega
  have c7 := cell_block HG.out.2.2.1 0
  simp only [gA, gB, gC] at c7
  conv => arg 2; whnf
  conv at hK1 => enter [a, w', 1, 2]; whnf
  go_wp2_with fail
  clear c7
  go_loopw [184] (fun u wr => ∃ k : Nat, k ≤ s.l.length ∧ u = .int .i64 k ∧ Below w.heap.size w wr) (fun u _ => s.l.length - (intOf u).toNat)
  case atStart => exact ⟨0, Nat.zero_le _, rfl, Below.refl _ _⟩
  case round =>
    obtain ⟨k, hk, rfl, hb⟩ := hrel
    by_cases hlt : k < s.l.length
    · have hki : (k : Int) < s.l.length := by omega
      have hg := obj_later hb HG.out.1
      have hb0' := Lib.hid hb
      go_upto_region 32 with fail
      refine ltu_reg32 s fa ka fc kc p p4 p7 turn k ((k + turn) % s.l.length) st fl su gu wr hn hlt ht rfl HV.out.st9 HV.out.fl9 HV.out.su9 HV.out.gu9 (HV.out.b1 k hlt) (HV.out.b2 k hlt) hg (obj_later hb HG.out.2.1) (obj_later hb HG.out.2.2.1) (HIM.out wr hb) (HKM.out wr hb) _ _ ?_
      intro s187 s188 s189 s190 s191 s192 s193 s194 s195 s196 s197 s198 s199 s200 s201 s202 s203 s204 s205 s206 s207 s208 s209 s210 s211 s212 s213 s214 s215 s216 s217 s218 s219 s220 s221 w2 hb2
      have HB2 := Lib.hid (hb.trans (hb2.mono hb.size))
      have hg2 := obj_later hb2 hg
      clear hb hb2 hg hb0'
      have cz := fun k => cell_block hg2 k
      have r0 := cz 0
      have r1 := cz 1
      have r2 := cz 2
      have r3 := cz 3
      have r4 := cz 4
      have r5 := cz 5
      have r6 := cz 6
      have r7 := cz 7
      have r8 := cz 8
      have r9 := cz 9
      have r10 := cz 10
      have r11 := cz 11
      have r12 := cz 12
      have r13 := cz 13
      have r14 := cz 14
      clear cz
      simp only [gA, gB, gC] at r0 r1 r2 r3 r4 r5 r6 r7 r8 r9 r10 r11 r12 r13 r14
      have hwh := iWhere_any s fa fc (k : Int) w2 (HIM.out w2 HB2.out) (by omega) (by omega)
      rw [HV.out.w1 k hlt] at hwh
      have HWS := Lib.hid hwh
      clear hwh hg2
      go_wp2_with fail
      refine HWS.out.mono ?_
      clear HWS
      rintro e w3 ⟨he, hb3⟩
      have HB3 := Lib.hid (HB2.out.trans (hb3.mono HB2.out.size))
      clear r0 r1 r2 r3 r4 r5 r6 r7 r8 r9 r10 r11 r12 r13 r14
      clear hb3
      cases hwk : ws k with
      | none =>
        rw [hwk] at he
        unfold whereV at he
        simp only [Option.isSome_none, Bool.false_eq_true, if_false] at he
        subst he
        go_upto_region 35 with fail
        obtain ⟨W3, hW3⟩ : ∃ W, (((w3.alloc (.cells #[.int .i64 0, .int .i64 0] 23)).alloc (.cells #[.int .i64 0, .int .i64 0] 23)).alloc (.cells #[.int .i64 0, .int .i64 0] 23)) = W := ⟨_, rfl⟩
        rw [hW3]
        try simp only [Nat.add_assoc, Nat.reduceAdd]
        have hst_W3 : Steps (fun _ => False) w3 W3 := by rw [← hW3]; exact ((Steps.alloc _ w3 _).trans (Steps.alloc (fun _ => False) _ _) (fun _ _ h => h)).trans (Steps.alloc (fun _ => False) _ _) (fun _ _ h => h)
        have hz_W3 : W3.heap.size = w3.heap.size + 3 := by rw [← hW3]; simp
        have g0_W3 : W3.heap[w3.heap.size]? = some (.cells #[.int .i64 0, .int .i64 0] 23) := by rw [← hW3]; simp only [alloc_get, World.size_alloc]; repeat (first | exact if_pos trivial | exact if_pos (by omega) | rw [if_neg (by omega)])
        have g1_W3 : W3.heap[w3.heap.size + 1]? = some (.cells #[.int .i64 0, .int .i64 0] 23) := by rw [← hW3]; simp only [alloc_get, World.size_alloc]; repeat (first | exact if_pos trivial | exact if_pos (by omega) | rw [if_neg (by omega)])
        have g2_W3 : W3.heap[w3.heap.size + 2]? = some (.cells #[.int .i64 0, .int .i64 0] 23) := by rw [← hW3]; simp only [alloc_get, World.size_alloc]; repeat (first | exact if_pos trivial | exact if_pos (by omega) | rw [if_neg (by omega)])
        clear hW3
        have hb34 := hst_W3.below (Nat.le_refl _) (fun _ _ h => h)
        have hl0 := (Array.getElem?_eq_some_iff.1 g0_W3).1
        have hl1 := (Array.getElem?_eq_some_iff.1 g1_W3).1
        have hl2 := (Array.getElem?_eq_some_iff.1 g2_W3).1
        obtain ⟨qa, hqa⟩ : ∃ q, w3.heap.size = q := ⟨_, rfl⟩
        rw [hqa] at g0_W3 g1_W3 g2_W3 hl0 hl1 hl2 ⊢
        have HBX3 := Lib.hid (HB3.out.trans (hb34.mono HB3.out.size))
        clear hst_W3 hz_W3 hb34 hqa
        have HWC : Hid (∀ W, Below W3.heap.size W3 W → Calls Try.prog 25 #[.agg #[.int .i64 x.ax.lo, .int .i64 x.ax.hi, .int .i64 x.ay.lo, .int .i64 x.ay.hi, .int .i64 x.bx.lo, .int .i64 x.bx.hi, .int .i64 x.by'.lo, .int .i64 x.by'.hi, .int .i64 x.f.lo, .int .i64 x.f.hi, .int .i64 x.g.lo, .int .i64 x.g.hi, .int .i64 x.limit, .int .i64 x.flaws, .slice (some ⟨gx, 0, none⟩) x.l.length s.l.length], .int .i64 (((k + turn) % s.l.length : Nat) : Int)] W fun e w' => e = .returned (.tuple #[.agg #[.int .i64 0, .int .i64 0], .agg #[.int .i64 0, .int .i64 0], .agg #[.int .i64 0, .int .i64 0], .int .i64 4]) ∧ Below W.heap.size W w') := Lib.hid (fun W h => by
          have hc := iWhere_any x (some ⟨gx, 0, none⟩) s.l.length (((k + turn) % s.l.length : Nat) : Int) W (HIX.out W (HBX3.out.trans (h.mono HBX3.out.size))) (by rw [hxl]; omega) (by rw [hxl]; omega)
          rw [HV.out.w2 k hlt, hwk] at hc
          exact hc)
        refine ltu_reg35 s x (some ⟨gx, 0, none⟩) s.l.length p4 p7 q10 turn k ((k + turn) % s.l.length) (0) (0) (0) (0) (0) (0) 4 W3 (by omega) hn (by omega) ht rfl (Lib.hid ⟨obj_later HBX3.out HG.out.2.1, obj_later HBX3.out HG.out.2.2.1⟩) (obj_later HBX3.out HG.out.2.2.2) HWC _ _ ?_
        intro s231 s232 s233 s234 s235 s236 s237 s238 s239 s240 q4 q5 q6 w5 ⟨y4, y5, y6, l4, l5, l6, hb5⟩
        have HB5 := Lib.hid (HBX3.out.trans (hb5.mono HBX3.out.size))
        have y1 := obj_later hb5 g0_W3
        have y2 := obj_later hb5 g1_W3
        have y3 := obj_later hb5 g2_W3
        clear g0_W3 g1_W3 g2_W3 hl0 hl1 hl2 l4 l5 l6 hb5 HWC
        go_upto_region 36 with fail
        clear y1 y2 y3 y4 y5 y6
        refine ltu_reg36n far qa (qa + 1) (qa + 2) q4 q5 q6 w5 _ _ ?_
        intro s241 s242 s243 s244 s245 s246 s247 s248 s249 s250 s251 s252 s253 s254 s255 s256 s257 s258 s259 s260 s261 s262 s263 s264 s265 s266 s267 s268 s269 s270 s271 w6 hb6
        have HB6 := Lib.hid (HB5.out.trans (hb6.mono HB5.out.size))
        clear hb6
        go_wp2_with fail
        go_roundw
        case rel => exact ⟨k + 1, by omega, by go_num, HB6.out⟩
        case measure => simp [intOf]; omega
      | some u =>
        have hbd := HV.out.bd k hlt u hwk
        rw [hwk] at he
        unfold whereV at he
        simp only [Option.isSome_some, if_true] at he
        subst he
        have HBD := Lib.hid hbd
        clear hbd
        go_upto_region 35 with fail
        obtain ⟨W3, hW3⟩ : ∃ W, (((w3.alloc (.cells #[.int .i64 u.x.lo, .int .i64 u.x.hi] 23)).alloc (.cells #[.int .i64 u.y.lo, .int .i64 u.y.hi] 23)).alloc (.cells #[.int .i64 u.s.lo, .int .i64 u.s.hi] 23)) = W := ⟨_, rfl⟩
        rw [hW3]
        try simp only [Nat.add_assoc, Nat.reduceAdd]
        have hst_W3 : Steps (fun _ => False) w3 W3 := by rw [← hW3]; exact ((Steps.alloc _ w3 _).trans (Steps.alloc (fun _ => False) _ _) (fun _ _ h => h)).trans (Steps.alloc (fun _ => False) _ _) (fun _ _ h => h)
        have hz_W3 : W3.heap.size = w3.heap.size + 3 := by rw [← hW3]; simp
        have g0_W3 : W3.heap[w3.heap.size]? = some (.cells #[.int .i64 u.x.lo, .int .i64 u.x.hi] 23) := by rw [← hW3]; simp only [alloc_get, World.size_alloc]; repeat (first | exact if_pos trivial | exact if_pos (by omega) | rw [if_neg (by omega)])
        have g1_W3 : W3.heap[w3.heap.size + 1]? = some (.cells #[.int .i64 u.y.lo, .int .i64 u.y.hi] 23) := by rw [← hW3]; simp only [alloc_get, World.size_alloc]; repeat (first | exact if_pos trivial | exact if_pos (by omega) | rw [if_neg (by omega)])
        have g2_W3 : W3.heap[w3.heap.size + 2]? = some (.cells #[.int .i64 u.s.lo, .int .i64 u.s.hi] 23) := by rw [← hW3]; simp only [alloc_get, World.size_alloc]; repeat (first | exact if_pos trivial | exact if_pos (by omega) | rw [if_neg (by omega)])
        clear hW3
        have hb34 := hst_W3.below (Nat.le_refl _) (fun _ _ h => h)
        have hl0 := (Array.getElem?_eq_some_iff.1 g0_W3).1
        have hl1 := (Array.getElem?_eq_some_iff.1 g1_W3).1
        have hl2 := (Array.getElem?_eq_some_iff.1 g2_W3).1
        obtain ⟨qa, hqa⟩ : ∃ q, w3.heap.size = q := ⟨_, rfl⟩
        rw [hqa] at g0_W3 g1_W3 g2_W3 hl0 hl1 hl2 ⊢
        have HBX3 := Lib.hid (HB3.out.trans (hb34.mono HB3.out.size))
        clear hst_W3 hz_W3 hb34 hqa
        have HWC : Hid (∀ W, Below W3.heap.size W3 W → Calls Try.prog 25 #[.agg #[.int .i64 x.ax.lo, .int .i64 x.ax.hi, .int .i64 x.ay.lo, .int .i64 x.ay.hi, .int .i64 x.bx.lo, .int .i64 x.bx.hi, .int .i64 x.by'.lo, .int .i64 x.by'.hi, .int .i64 x.f.lo, .int .i64 x.f.hi, .int .i64 x.g.lo, .int .i64 x.g.hi, .int .i64 x.limit, .int .i64 x.flaws, .slice (some ⟨gx, 0, none⟩) x.l.length s.l.length], .int .i64 (((k + turn) % s.l.length : Nat) : Int)] W fun e w' => e = .returned (.tuple #[.agg #[.int .i64 (u.x.lo + (far : Int)), .int .i64 (u.x.hi + (far : Int))], .agg #[.int .i64 (u.y.lo), .int .i64 (u.y.hi)], .agg #[.int .i64 (u.s.lo), .int .i64 (u.s.hi)], .int .i64 0]) ∧ Below W.heap.size W w') := Lib.hid (fun W h => by
          have hc := iWhere_any x (some ⟨gx, 0, none⟩) s.l.length (((k + turn) % s.l.length : Nat) : Int) W (HIX.out W (HBX3.out.trans (h.mono HBX3.out.size))) (by rw [hxl]; omega) (by rw [hxl]; omega)
          rw [HV.out.w2 k hlt, hwk] at hc
          exact hc)
        refine ltu_reg35 s x (some ⟨gx, 0, none⟩) s.l.length p4 p7 q10 turn k ((k + turn) % s.l.length) (u.x.lo + (far : Int)) (u.x.hi + (far : Int)) (u.y.lo) (u.y.hi) (u.s.lo) (u.s.hi) 0 W3 (by omega) hn (by omega) ht rfl (Lib.hid ⟨obj_later HBX3.out HG.out.2.1, obj_later HBX3.out HG.out.2.2.1⟩) (obj_later HBX3.out HG.out.2.2.2) HWC _ _ ?_
        intro s231 s232 s233 s234 s235 s236 s237 s238 s239 s240 q4 q5 q6 w5 ⟨y4, y5, y6, l4, l5, l6, hb5⟩
        have HB5 := Lib.hid (HBX3.out.trans (hb5.mono HBX3.out.size))
        have y1 := obj_later hb5 g0_W3
        have y2 := obj_later hb5 g1_W3
        have y3 := obj_later hb5 g2_W3
        clear g0_W3 g1_W3 g2_W3 hl0 hl1 hl2 l4 l5 l6 hb5 HWC
        go_upto_region 36 with fail
        refine ltu_reg36s u far qa (qa + 1) (qa + 2) q4 q5 q6 w5 hf HBD.out y1 y2 y3 y4 y5 y6 _ _ ?_
        clear y1 y2 y3 y4 y5 y6
        intro s241 s242 s243 s244 s245 s246 s247 s248 s249 s250 s251 s252 s253 s254 s255 s256 s257 s258 s259 s260 s261 s262 s263 s264 s265 s266 s267 s268 s269 s270 s271 w6 hb6
        have HB6 := Lib.hid (HB5.out.trans (hb6.mono HB5.out.size))
        clear hb6
        go_wp2_with fail
        go_roundw
        case rel => exact ⟨k + 1, by omega, by go_num, HB6.out⟩
        case measure => simp [intOf]; omega
    · obtain rfl : k = s.l.length := by omega
      clear hlt
      go_wp2_with fail
      exact HFIN.out _ _ _ _ _ _ _ _ _ _ _ _ _ _ _ _ _ _ _ _ _ _ _ _ _ _ _ _ _ _ _ _ _ _ _ _ _ _ _ _ _ _ _ _ _ _ _ _ _ _ _ _ _ _ _ _ _ _ _ _ _ _ _ _ _ _ _ _ _ _ _ _ _ _ _ _ _ _ _ _ _ _ _ _ _ _ _ _ _ _ _ _ _ _ _ _ _ _ _ _ _ _ hb
end Go.Proofs.Ytacioedolmaofaa
namespace Go.Proofs.Ytacioedolmaofaa
open Go.RowKit Go.Shelf
set_option maxHeartbeats 12800000
set_option maxRecDepth 100000
set_option linter.unusedSimpArgs false
set_option linter.unusedVariables false

theorem ltu_end (s x : ISheet) (fa ka : Option Addr) (fc kc p p4 p7 q10 gx far turn : Nat) (lo hi e4 : Int) (st fl su gu : Nat) (ws : Nat → Option IStar) (n1 n2 : Int) (w wt : World) {z0 z1 z4 z5 z6 z8 z9 z13 z14 z23 z24 z25 z26 z27 z28 z29 z30 z31 z32 z33 z34 z35 z36 z37 z38 z39 z40 z41 z42 z43 z44 z45 z46 z47 z48 z49 z50 z51 z52 z53 z54 z55 z56 z57 z58 z59 z60 z61 z62 z63 z64 z65 z66 z67 z68 z69 z70 z71 z72 z73 z74 z75 z76 z77 z78 z79 z80 z81 z82 z83 z84 z85 z86 z87 z88 z89 z90 z91 z92 z93 z94 z95 z96 z97 z98 z99 z100 z101 z102 z103 z104 z105 z106 z107 z108 z109 z110 z111 z112 z113 z114 z115 z116 z117 z118 z119 z120 z121 z122 z123 z124 z125 z126 z127 z128 z129 z130 z131 z132 z133 z134 z135 z136 z137 z138 z139 z140 z141 z142 z143 z144 z145 z146 z147 z148 z149 z150 z151 z152 z153 z154 z155 z156 z157 z158 z159 z160 z161 z162 z163 z164 z165 z166 z167 z168 z169 z170 z171 z172 z173 z174 z175 z176 z177 z178 z179 z180 z181 z182 z183 z184 z185 z186 z187 z188 z189 z190 z191 z192 z193 z194 z195 z196 z197 z198 z199 z200 z201 z202 z203 z204 z205 z206 z207 z208 z209 z210 z211 z212 z213 z214 z215 z216 z217 z218 z219 z220 z221 z222 z223 z224 z225 z226 z227 z228 z229 z230 z231 z232 z233 z234 z235 z236 z237 z238 z239 z240 z241 z242 z243 z244 z245 z246 z247 z248 z249 z250 z251 z252 z253 z254 z255 z256 z257 z258 z259 z260 z261 z262 z263 z264 z265 z266 z267 z268 z269 z270 z271 z272 z273 z274 : Value} (hf : far < 256) (ht : turn < 256) (hn : s.l.length ≤ 9) (hxl : x.l.length = s.l.length) (HIM : Hid (∀ W, Below w.heap.size w W → ImSl W fa s.l)) (HKM : Hid (∀ W, Below wt.heap.size wt W → ImSl W ka s.l)) (HIX : Hid (∀ W, Below wt.heap.size wt W → ImSl W (some ⟨gx, 0, none⟩) x.l)) (g : wt.heap[p]? = some (.cells #[.int .i64 s.ax.lo, .int .i64 s.ax.hi, .int .i64 s.ay.lo, .int .i64 s.ay.hi, .int .i64 s.bx.lo, .int .i64 s.bx.hi, .int .i64 s.by'.lo, .int .i64 s.by'.hi, .int .i64 s.f.lo, .int .i64 s.f.hi, .int .i64 s.g.lo, .int .i64 s.g.hi, .int .i64 s.limit, .int .i64 s.flaws, .slice fa s.l.length fc] 30)) (g4 : wt.heap[p4]? = some (.cells #[.int .u8 (turn : Int)] 5)) (g7 : wt.heap[p7]? = some (.cells #[.int .i64 (s.l.length : Int)] 3)) (gx10 : wt.heap[q10]? = some (.cells #[.int .i64 x.ax.lo, .int .i64 x.ax.hi, .int .i64 x.ay.lo, .int .i64 x.ay.hi, .int .i64 x.bx.lo, .int .i64 x.bx.hi, .int .i64 x.by'.lo, .int .i64 x.by'.hi, .int .i64 x.f.lo, .int .i64 x.f.hi, .int .i64 x.g.lo, .int .i64 x.g.hi, .int .i64 x.limit, .int .i64 x.flaws, .slice (some ⟨gx, 0, none⟩) x.l.length s.l.length] 30)) (hV : TurnV s x turn far lo hi e4 st fl su gu ws) (hb0 : Below w.heap.size w wt) (K : Act → World → Prop)
    (hK : ∀ a w', Code.wp Try.prog (sndC' ((Try.f10.body.bind (findSv 23)).getD .skip)) (bodyPost Try.prog Try.f10 fun e w' => e = .returned (.bool true) ∧ Below w.heap.size w w') a w' → K a w') :
    Code.wp Try.prog (fstC' ((Try.f10.body.bind (findSv 23)).getD .skip)) (Exit.then K (bodyPost Try.prog Try.f10 fun e w' => e = .returned (.bool true) ∧ Below w.heap.size w w')) ⟨(z0::z1::(.int .u8 (far : Int))::(.pointer (some ⟨p, 0, none⟩))::z4::z5::z6::(.pointer (some ⟨p7, 0, none⟩))::z8::z9::(.pointer (some ⟨q10, 0, none⟩))::(.slice ka s.l.length kc)::(.func (.func 38) #[] #[.pointer (some ⟨p4, 0, none⟩), .pointer (some ⟨p7, 0, none⟩)])::z13::z14::(.int .i64 n1)::(.int .i64 0)::(.int .i64 n1)::(.int .i64 0)::(.int .i64 n2)::(.int .i64 0)::(.int .i64 n2)::(.int .i64 0)::z23::z24::z25::z26::z27::z28::z29::z30::z31::z32::z33::z34::z35::z36::z37::z38::z39::z40::z41::z42::z43::z44::z45::z46::z47::z48::z49::z50::z51::z52::z53::z54::z55::z56::z57::z58::z59::z60::z61::z62::z63::z64::z65::z66::z67::z68::z69::z70::z71::z72::z73::z74::z75::z76::z77::z78::z79::z80::z81::z82::z83::z84::z85::z86::z87::z88::z89::z90::z91::z92::z93::z94::z95::z96::z97::z98::z99::z100::z101::z102::z103::z104::z105::z106::z107::z108::z109::z110::z111::z112::z113::z114::z115::z116::z117::z118::z119::z120::z121::z122::z123::z124::z125::z126::z127::z128::z129::z130::z131::z132::z133::z134::z135::z136::z137::z138::z139::z140::z141::z142::z143::z144::z145::z146::z147::z148::z149::z150::z151::z152::z153::z154::z155::z156::z157::z158::z159::z160::z161::z162::z163::z164::z165::z166::z167::z168::z169::z170::z171::z172::z173::z174::z175::z176::z177::z178::z179::z180::z181::z182::z183::z184::z185::z186::z187::z188::z189::z190::z191::z192::z193::z194::z195::z196::z197::z198::z199::z200::z201::z202::z203::z204::z205::z206::z207::z208::z209::z210::z211::z212::z213::z214::z215::z216::z217::z218::z219::z220::z221::z222::z223::z224::z225::z226::z227::z228::z229::z230::z231::z232::z233::z234::z235::z236::z237::z238::z239::z240::z241::z242::z243::z244::z245::z246::z247::z248::z249::z250::z251::z252::z253::z254::z255::z256::z257::z258::z259::z260::z261::z262::z263::z264::z265::z266::z267::z268::z269::z270::z271::z272::z273::z274 :: []).toArray, []⟩ wt := by
  conv => arg 2; whnf
  conv at hK => enter [a, w', 1, 2]; whnf
  have HT := Below.refl wt.heap.size wt
  have hsl : s.l.length < 9223372036854775807 := by omega
  have hxs : x.l.length < 9223372036854775807 := by omega
  have HSL := Lib.hid hsl
  have HXS := Lib.hid hxs
  have HXL := Lib.hid hxl
  clear hsl hxs hxl
  have HV := Lib.hid hV
  have hsr := hV.sr
  have hsx := hV.sx
  have htl := hV.tl
  have htx := hV.tx
  clear hV
  have cz := fun k => cell_block g k
  have cg0 := cz 0
  have cg1 := cz 1
  have cg2 := cz 2
  have cg3 := cz 3
  have cg4 := cz 4
  have cg5 := cz 5
  have cg6 := cz 6
  have cg7 := cz 7
  have cg8 := cz 8
  have cg9 := cz 9
  have cg10 := cz 10
  have cg11 := cz 11
  have cg12 := cz 12
  have cg13 := cz 13
  have cg14 := cz 14
  clear cz
  simp only [gA, gB, gC] at cg0 cg1 cg2 cg3 cg4 cg5 cg6 cg7 cg8 cg9 cg10 cg11 cg12 cg13 cg14
  go_wp2_with fail
  have hc := iStars_any s fa fc wt (HIM.out wt hb0) HSL.out
  refine hc.mono ?_
  clear hc
  rintro e w41 ⟨he, hb⟩
  clear cg0 cg1 cg2 cg3 cg4 cg5 cg6 cg7 cg8 cg9 cg10 cg11 cg12 cg13 cg14
  replace g := obj_later hb g
  replace gx10 := obj_later hb gx10
  replace g4 := obj_later hb g4
  replace g7 := obj_later hb g7
  replace hb0 := hb0.trans (hb.mono hb0.size)
  replace HT := HT.trans (hb.mono HT.size)
  clear hb
  rw [hsr] at he
  subst he
  clear hsr
  go_upto_region 24 with fail
  have gp := obj_new w41 (.cells #[.int .i64 lo, .int .i64 hi] 23)
  have hbl := below_alloc w41 (.cells #[.int .i64 lo, .int .i64 hi] 23)
  generalize w41.alloc (.cells #[.int .i64 lo, .int .i64 hi] 23) = W24 at gp hbl ⊢
  obtain ⟨qgp, hq⟩ : ∃ q, w41.heap.size = q := ⟨_, rfl⟩
  rw [hq] at gp ⊢
  clear hq
  replace g := obj_later hbl g
  replace gx10 := obj_later hbl gx10
  replace g4 := obj_later hbl g4
  replace g7 := obj_later hbl g7
  replace hb0 := hb0.trans (hbl.mono hb0.size)
  replace HT := HT.trans (hbl.mono HT.size)
  clear hbl
  have cz := fun k => cell_block gx10 k
  have cgx100 := cz 0
  have cgx101 := cz 1
  have cgx102 := cz 2
  have cgx103 := cz 3
  have cgx104 := cz 4
  have cgx105 := cz 5
  have cgx106 := cz 6
  have cgx107 := cz 7
  have cgx108 := cz 8
  have cgx109 := cz 9
  have cgx1010 := cz 10
  have cgx1011 := cz 11
  have cgx1012 := cz 12
  have cgx1013 := cz 13
  have cgx1014 := cz 14
  clear cz
  simp only [gA, gB, gC] at cgx100 cgx101 cgx102 cgx103 cgx104 cgx105 cgx106 cgx107 cgx108 cgx109 cgx1010 cgx1011 cgx1012 cgx1013 cgx1014
  go_wp2_with fail
  have hc := iStars_any x (some ⟨gx, 0, none⟩) s.l.length W24 (HIX.out W24 HT) HXS.out
  refine hc.mono ?_
  clear hc
  rintro e w42 ⟨he, hb⟩
  clear cgx100 cgx101 cgx102 cgx103 cgx104 cgx105 cgx106 cgx107 cgx108 cgx109 cgx1010 cgx1011 cgx1012 cgx1013 cgx1014
  replace g := obj_later hb g
  replace gx10 := obj_later hb gx10
  replace g4 := obj_later hb g4
  replace g7 := obj_later hb g7
  replace gp := obj_later hb gp
  replace hb0 := hb0.trans (hb.mono hb0.size)
  replace HT := HT.trans (hb.mono HT.size)
  clear hb
  rw [hsx] at he
  subst he
  clear hsx
  go_upto_region 25 with fail
  have gq := obj_new w42 (.cells #[.int .i64 lo, .int .i64 hi] 23)
  have hbl := below_alloc w42 (.cells #[.int .i64 lo, .int .i64 hi] 23)
  generalize w42.alloc (.cells #[.int .i64 lo, .int .i64 hi] 23) = W25 at gq hbl ⊢
  obtain ⟨qgq, hq⟩ : ∃ q, w42.heap.size = q := ⟨_, rfl⟩
  rw [hq] at gq ⊢
  clear hq
  replace g := obj_later hbl g
  replace gx10 := obj_later hbl gx10
  replace g4 := obj_later hbl g4
  replace g7 := obj_later hbl g7
  replace gp := obj_later hbl gp
  replace hb0 := hb0.trans (hbl.mono hb0.size)
  replace HT := HT.trans (hbl.mono HT.size)
  clear hbl
  have cz := fun k => cell_block g k
  have cg0 := cz 0
  have cg1 := cz 1
  have cg2 := cz 2
  have cg3 := cz 3
  have cg4 := cz 4
  have cg5 := cz 5
  have cg6 := cz 6
  have cg7 := cz 7
  have cg8 := cz 8
  have cg9 := cz 9
  have cg10 := cz 10
  have cg11 := cz 11
  have cg12 := cz 12
  have cg13 := cz 13
  have cg14 := cz 14
  clear cz
  simp only [gA, gB, gC] at cg0 cg1 cg2 cg3 cg4 cg5 cg6 cg7 cg8 cg9 cg10 cg11 cg12 cg13 cg14
  go_wp2_with fail
  have hc := iTell_any s fa fc W25 (HIM.out W25 hb0) HSL.out
  refine hc.mono ?_
  clear hc
  rintro e w43 ⟨he, hb⟩
  clear cg0 cg1 cg2 cg3 cg4 cg5 cg6 cg7 cg8 cg9 cg10 cg11 cg12 cg13 cg14
  replace g := obj_later hb g
  replace gx10 := obj_later hb gx10
  replace g4 := obj_later hb g4
  replace g7 := obj_later hb g7
  replace gp := obj_later hb gp
  replace gq := obj_later hb gq
  replace hb0 := hb0.trans (hb.mono hb0.size)
  replace HT := HT.trans (hb.mono HT.size)
  clear hb
  rw [htl] at he
  subst he
  clear htl
  have cz := fun k => cell_block gx10 k
  have cgx100 := cz 0
  have cgx101 := cz 1
  have cgx102 := cz 2
  have cgx103 := cz 3
  have cgx104 := cz 4
  have cgx105 := cz 5
  have cgx106 := cz 6
  have cgx107 := cz 7
  have cgx108 := cz 8
  have cgx109 := cz 9
  have cgx1010 := cz 10
  have cgx1011 := cz 11
  have cgx1012 := cz 12
  have cgx1013 := cz 13
  have cgx1014 := cz 14
  clear cz
  simp only [gA, gB, gC] at cgx100 cgx101 cgx102 cgx103 cgx104 cgx105 cgx106 cgx107 cgx108 cgx109 cgx1010 cgx1011 cgx1012 cgx1013 cgx1014
  go_wp2_with fail
  have hc := iTell_any x (some ⟨gx, 0, none⟩) s.l.length w43 (HIX.out w43 HT) HXS.out
  refine hc.mono ?_
  clear hc
  rintro e w44 ⟨he, hb⟩
  clear cgx100 cgx101 cgx102 cgx103 cgx104 cgx105 cgx106 cgx107 cgx108 cgx109 cgx1010 cgx1011 cgx1012 cgx1013 cgx1014
  replace g := obj_later hb g
  replace gx10 := obj_later hb gx10
  replace g4 := obj_later hb g4
  replace g7 := obj_later hb g7
  replace gp := obj_later hb gp
  replace gq := obj_later hb gq
  replace hb0 := hb0.trans (hb.mono hb0.size)
  replace HT := HT.trans (hb.mono HT.size)
  clear hb
  rw [htx] at he
  subst he
  clear htx
  have NQ := ispan_neq lo hi
  have cz := fun k => cell_block gp k
  have cgp0 := cz 0
  have cgp1 := cz 1
  clear cz
  simp only [gA, gB, gC] at cgp0 cgp1
  have cz := fun k => cell_block gq k
  have cgq0 := cz 0
  have cgq1 := cz 1
  clear cz
  simp only [gA, gB, gC] at cgq0 cgq1
  go_upto_region 29 with fail
  clear cgp0 cgp1 cgq0 cgq1
  clear NQ
  refine ltu_loop3 s x fa ka fc kc p p4 p7 q10 gx far turn lo hi e4 st fl su gu ws w44 hf ht hn HXL.out HV (Lib.hid (fun W h => HIM.out W (hb0.trans (h.mono hb0.size)))) (Lib.hid (fun W h => HKM.out W (HT.trans (h.mono HT.size)))) (Lib.hid (fun W h => HIX.out W (HT.trans (h.mono HT.size)))) (Lib.hid ⟨g, g4, g7, gx10⟩) _ _ _ (by assumption) ?_
  intro s6 s33 s34 s35 s36 s37 s38 s39 s40 s41 s183 s184 s185 s186 s187 s188 s189 s190 s191 s192 s193 s194 s195 s196 s197 s198 s199 s200 s201 s202 s203 s204 s205 s206 s207 s208 s209 s210 s211 s212 s213 s214 s215 s216 s217 s218 s219 s220 s221 s222 s223 s224 s225 s226 s227 s228 s229 s230 s231 s232 s233 s234 s235 s236 s237 s238 s239 s240 s241 s242 s243 s244 s245 s246 s247 s248 s249 s250 s251 s252 s253 s254 s255 s256 s257 s258 s259 s260 s261 s262 s263 s264 s265 s266 s267 s268 s269 s270 s271 s272 s273 w98 hb
  replace hb0 := hb0.trans (hb.mono hb0.size)
  clear hb HT g g4 g7 gx10 gp gq
  go_wp2_with fail
  refine (iawake_any _).mono ?_
  rintro e w99 ⟨rfl, hb⟩
  go_wp2
  go_ret
  exact ⟨rfl, hb0.trans (hb.mono hb0.size)⟩
end Go.Proofs.Ytacioedolmaofaa
namespace Go.Proofs.Ytacioedolmaofaa
open Go.RowKit Go.Shelf
set_option maxHeartbeats 12800000
set_option maxRecDepth 100000
set_option linter.unusedSimpArgs false
set_option linter.unusedVariables false

theorem ltu_mid (s x : ISheet) (fa ka : Option Addr) (fc kc p p4 p7 q10 gx far turn : Nat) (lo hi e4 : Int) (st fl su gu : Nat) (ws : Nat → Option IStar) (w wt : World) {z0 z1 z4 z5 z6 z8 z9 z13 z14 z15 z16 z17 z18 z19 z20 z21 z22 z23 z24 z25 z26 z27 z28 z29 z30 z31 z32 z33 z34 z35 z36 z37 z38 z39 z40 z41 z42 z43 z44 z45 z46 z47 z48 z49 z50 z51 z52 z53 z54 z55 z56 z57 z58 z59 z60 z61 z62 z63 z64 z65 z66 z67 z68 z69 z70 z71 z72 z73 z74 z75 z76 z77 z78 z79 z80 z81 z82 z83 z84 z85 z86 z87 z88 z89 z90 z91 z92 z93 z94 z95 z96 z97 z98 z99 z100 z101 z102 z103 z104 z105 z106 z107 z108 z109 z110 z111 z112 z113 z114 z115 z116 z117 z118 z119 z120 z121 z122 z123 z124 z125 z126 z127 z128 z129 z130 z131 z132 z133 z134 z135 z136 z137 z138 z139 z140 z141 z142 z143 z144 z145 z146 z147 z148 z149 z150 z151 z152 z153 z154 z155 z156 z157 z158 z159 z160 z161 z162 z163 z164 z165 z166 z167 z168 z169 z170 z171 z172 z173 z174 z175 z176 z177 z178 z179 z180 z181 z182 z183 z184 z185 z186 z187 z188 z189 z190 z191 z192 z193 z194 z195 z196 z197 z198 z199 z200 z201 z202 z203 z204 z205 z206 z207 z208 z209 z210 z211 z212 z213 z214 z215 z216 z217 z218 z219 z220 z221 z222 z223 z224 z225 z226 z227 z228 z229 z230 z231 z232 z233 z234 z235 z236 z237 z238 z239 z240 z241 z242 z243 z244 z245 z246 z247 z248 z249 z250 z251 z252 z253 z254 z255 z256 z257 z258 z259 z260 z261 z262 z263 z264 z265 z266 z267 z268 z269 z270 z271 z272 z273 z274 : Value} (hf : far < 256) (ht : turn < 256) (hn : s.l.length ≤ 9) (hxl : x.l.length = s.l.length) (HIM : Hid (∀ W, Below w.heap.size w W → ImSl W fa s.l)) (HKM : Hid (∀ W, Below wt.heap.size wt W → ImSl W ka s.l)) (HIX : Hid (∀ W, Below wt.heap.size wt W → ImSl W (some ⟨gx, 0, none⟩) x.l)) (g : wt.heap[p]? = some (.cells #[.int .i64 s.ax.lo, .int .i64 s.ax.hi, .int .i64 s.ay.lo, .int .i64 s.ay.hi, .int .i64 s.bx.lo, .int .i64 s.bx.hi, .int .i64 s.by'.lo, .int .i64 s.by'.hi, .int .i64 s.f.lo, .int .i64 s.f.hi, .int .i64 s.g.lo, .int .i64 s.g.hi, .int .i64 s.limit, .int .i64 s.flaws, .slice fa s.l.length fc] 30)) (g4 : wt.heap[p4]? = some (.cells #[.int .u8 (turn : Int)] 5)) (g7 : wt.heap[p7]? = some (.cells #[.int .i64 (s.l.length : Int)] 3)) (gx10 : wt.heap[q10]? = some (.cells #[.int .i64 x.ax.lo, .int .i64 x.ax.hi, .int .i64 x.ay.lo, .int .i64 x.ay.hi, .int .i64 x.bx.lo, .int .i64 x.bx.hi, .int .i64 x.by'.lo, .int .i64 x.by'.hi, .int .i64 x.f.lo, .int .i64 x.f.hi, .int .i64 x.g.lo, .int .i64 x.g.hi, .int .i64 x.limit, .int .i64 x.flaws, .slice (some ⟨gx, 0, none⟩) x.l.length s.l.length] 30)) (hok : s.ok = true) (hokx : x.ok = true) (hTI : TurnIs s x (fun i => (i + turn) % s.l.length) far) (hV : TurnV s x turn far lo hi e4 st fl su gu ws) (hb0 : Below w.heap.size w wt) (K : Act → World → Prop)
    (hK : ∀ a w', Code.wp Try.prog (sndC' ((Try.f10.body.bind (findSv 19)).getD .skip)) (bodyPost Try.prog Try.f10 fun e w' => e = .returned (.bool true) ∧ Below w.heap.size w w') a w' → K a w') :
    Code.wp Try.prog (fstC' ((Try.f10.body.bind (findSv 19)).getD .skip)) (Exit.then K (bodyPost Try.prog Try.f10 fun e w' => e = .returned (.bool true) ∧ Below w.heap.size w w')) ⟨(z0::z1::(.int .u8 (far : Int))::(.pointer (some ⟨p, 0, none⟩))::z4::z5::z6::(.pointer (some ⟨p7, 0, none⟩))::z8::z9::(.pointer (some ⟨q10, 0, none⟩))::(.slice ka s.l.length kc)::(.func (.func 38) #[] #[.pointer (some ⟨p4, 0, none⟩), .pointer (some ⟨p7, 0, none⟩)])::z13::z14::z15::z16::z17::z18::z19::z20::z21::z22::z23::z24::z25::z26::z27::z28::z29::z30::z31::z32::z33::z34::z35::z36::z37::z38::z39::z40::z41::z42::z43::z44::z45::z46::z47::z48::z49::z50::z51::z52::z53::z54::z55::z56::z57::z58::z59::z60::z61::z62::z63::z64::z65::z66::z67::z68::z69::z70::z71::z72::z73::z74::z75::z76::z77::z78::z79::z80::z81::z82::z83::z84::z85::z86::z87::z88::z89::z90::z91::z92::z93::z94::z95::z96::z97::z98::z99::z100::z101::z102::z103::z104::z105::z106::z107::z108::z109::z110::z111::z112::z113::z114::z115::z116::z117::z118::z119::z120::z121::z122::z123::z124::z125::z126::z127::z128::z129::z130::z131::z132::z133::z134::z135::z136::z137::z138::z139::z140::z141::z142::z143::z144::z145::z146::z147::z148::z149::z150::z151::z152::z153::z154::z155::z156::z157::z158::z159::z160::z161::z162::z163::z164::z165::z166::z167::z168::z169::z170::z171::z172::z173::z174::z175::z176::z177::z178::z179::z180::z181::z182::z183::z184::z185::z186::z187::z188::z189::z190::z191::z192::z193::z194::z195::z196::z197::z198::z199::z200::z201::z202::z203::z204::z205::z206::z207::z208::z209::z210::z211::z212::z213::z214::z215::z216::z217::z218::z219::z220::z221::z222::z223::z224::z225::z226::z227::z228::z229::z230::z231::z232::z233::z234::z235::z236::z237::z238::z239::z240::z241::z242::z243::z244::z245::z246::z247::z248::z249::z250::z251::z252::z253::z254::z255::z256::z257::z258::z259::z260::z261::z262::z263::z264::z265::z266::z267::z268::z269::z270::z271::z272::z273::z274 :: []).toArray, []⟩ wt := by
  conv => arg 2; whnf
  conv at hK => enter [a, w', 1, 2]; whnf
  have HT := Below.refl wt.heap.size wt
  have hsl : s.l.length < 9223372036854775807 := by omega
  have hxs : x.l.length < 9223372036854775807 := by omega
  have HSL := Lib.hid hsl
  have HXS := Lib.hid hxs
  have HXL := Lib.hid hxl
  clear hsl hxs hxl
  have hc1 : itCount s = (((wayTold s).many : Int), 0) := by unfold itCount; rw [if_pos hok]; rfl
  have hc2 : itCount x = (((wayTold s).many : Int), 0) := by unfold itCount; rw [if_pos hokx, hTI.many]; rfl
  have hn1 : itNeeds s = ((tellN s.trails s.l.length s.l.length 0 0).flaws, 0) := by unfold itNeeds; rw [if_pos hok]
  have hn2 : itNeeds x = ((tellN s.trails s.l.length s.l.length 0 0).flaws, 0) := by unfold itNeeds; rw [if_pos hokx, hTI.needs]
  obtain ⟨n1, hnn1⟩ : ∃ m, ((wayTold s).many : Int) = m := ⟨_, rfl⟩
  obtain ⟨n2, hnn2⟩ : ∃ m, (tellN s.trails s.l.length s.l.length 0 0).flaws = m := ⟨_, rfl⟩
  rw [hnn1] at hc1 hc2
  rw [hnn2] at hn1 hn2
  have HV := Lib.hid hV
  clear hnn1 hnn2 hTI hok hokx hV
  have cz := fun k => cell_block g k
  have cg0 := cz 0
  have cg1 := cz 1
  have cg2 := cz 2
  have cg3 := cz 3
  have cg4 := cz 4
  have cg5 := cz 5
  have cg6 := cz 6
  have cg7 := cz 7
  have cg8 := cz 8
  have cg9 := cz 9
  have cg10 := cz 10
  have cg11 := cz 11
  have cg12 := cz 12
  have cg13 := cz 13
  have cg14 := cz 14
  clear cz
  simp only [gA, gB, gC] at cg0 cg1 cg2 cg3 cg4 cg5 cg6 cg7 cg8 cg9 cg10 cg11 cg12 cg13 cg14
  go_wp2_with fail
  have hc := iCount_any s fa fc wt (HIM.out wt hb0) HSL.out
  refine hc.mono ?_
  clear hc
  rintro e w41 ⟨he, hb⟩
  clear cg0 cg1 cg2 cg3 cg4 cg5 cg6 cg7 cg8 cg9 cg10 cg11 cg12 cg13 cg14
  replace g := obj_later hb g
  replace gx10 := obj_later hb gx10
  replace g4 := obj_later hb g4
  replace g7 := obj_later hb g7
  replace hb0 := hb0.trans (hb.mono hb0.size)
  replace HT := HT.trans (hb.mono HT.size)
  clear hb
  rw [hc1] at he
  subst he
  clear hc1
  have cz := fun k => cell_block gx10 k
  have cgx100 := cz 0
  have cgx101 := cz 1
  have cgx102 := cz 2
  have cgx103 := cz 3
  have cgx104 := cz 4
  have cgx105 := cz 5
  have cgx106 := cz 6
  have cgx107 := cz 7
  have cgx108 := cz 8
  have cgx109 := cz 9
  have cgx1010 := cz 10
  have cgx1011 := cz 11
  have cgx1012 := cz 12
  have cgx1013 := cz 13
  have cgx1014 := cz 14
  clear cz
  simp only [gA, gB, gC] at cgx100 cgx101 cgx102 cgx103 cgx104 cgx105 cgx106 cgx107 cgx108 cgx109 cgx1010 cgx1011 cgx1012 cgx1013 cgx1014
  go_wp2_with fail
  have hc := iCount_any x (some ⟨gx, 0, none⟩) s.l.length w41 (HIX.out w41 HT) HXS.out
  refine hc.mono ?_
  clear hc
  rintro e w42 ⟨he, hb⟩
  clear cgx100 cgx101 cgx102 cgx103 cgx104 cgx105 cgx106 cgx107 cgx108 cgx109 cgx1010 cgx1011 cgx1012 cgx1013 cgx1014
  replace g := obj_later hb g
  replace gx10 := obj_later hb gx10
  replace g4 := obj_later hb g4
  replace g7 := obj_later hb g7
  replace hb0 := hb0.trans (hb.mono hb0.size)
  replace HT := HT.trans (hb.mono HT.size)
  clear hb
  rw [hc2] at he
  subst he
  clear hc2
  have cz := fun k => cell_block g k
  have cg0 := cz 0
  have cg1 := cz 1
  have cg2 := cz 2
  have cg3 := cz 3
  have cg4 := cz 4
  have cg5 := cz 5
  have cg6 := cz 6
  have cg7 := cz 7
  have cg8 := cz 8
  have cg9 := cz 9
  have cg10 := cz 10
  have cg11 := cz 11
  have cg12 := cz 12
  have cg13 := cz 13
  have cg14 := cz 14
  clear cz
  simp only [gA, gB, gC] at cg0 cg1 cg2 cg3 cg4 cg5 cg6 cg7 cg8 cg9 cg10 cg11 cg12 cg13 cg14
  go_wp2_with fail
  have hc := iNeeds_any s fa fc w42 (HIM.out w42 hb0) HSL.out
  refine hc.mono ?_
  clear hc
  rintro e w43 ⟨he, hb⟩
  clear cg0 cg1 cg2 cg3 cg4 cg5 cg6 cg7 cg8 cg9 cg10 cg11 cg12 cg13 cg14
  replace g := obj_later hb g
  replace gx10 := obj_later hb gx10
  replace g4 := obj_later hb g4
  replace g7 := obj_later hb g7
  replace hb0 := hb0.trans (hb.mono hb0.size)
  replace HT := HT.trans (hb.mono HT.size)
  clear hb
  rw [hn1] at he
  subst he
  clear hn1
  have cz := fun k => cell_block gx10 k
  have cgx100 := cz 0
  have cgx101 := cz 1
  have cgx102 := cz 2
  have cgx103 := cz 3
  have cgx104 := cz 4
  have cgx105 := cz 5
  have cgx106 := cz 6
  have cgx107 := cz 7
  have cgx108 := cz 8
  have cgx109 := cz 9
  have cgx1010 := cz 10
  have cgx1011 := cz 11
  have cgx1012 := cz 12
  have cgx1013 := cz 13
  have cgx1014 := cz 14
  clear cz
  simp only [gA, gB, gC] at cgx100 cgx101 cgx102 cgx103 cgx104 cgx105 cgx106 cgx107 cgx108 cgx109 cgx1010 cgx1011 cgx1012 cgx1013 cgx1014
  go_wp2_with fail
  have hc := iNeeds_any x (some ⟨gx, 0, none⟩) s.l.length w43 (HIX.out w43 HT) HXS.out
  refine hc.mono ?_
  clear hc
  rintro e w44 ⟨he, hb⟩
  clear cgx100 cgx101 cgx102 cgx103 cgx104 cgx105 cgx106 cgx107 cgx108 cgx109 cgx1010 cgx1011 cgx1012 cgx1013 cgx1014
  replace g := obj_later hb g
  replace gx10 := obj_later hb gx10
  replace g4 := obj_later hb g4
  replace g7 := obj_later hb g7
  replace hb0 := hb0.trans (hb.mono hb0.size)
  replace HT := HT.trans (hb.mono HT.size)
  clear hb
  rw [hn2] at he
  subst he
  clear hn2
  go_upto_region 23 with fail
  refine ltu_end s x fa ka fc kc p p4 p7 q10 gx far turn lo hi e4 st fl su gu ws n1 n2 w w44 hf ht hn HXL.out HIM (Lib.hid (fun W h => HKM.out W (HT.trans (h.mono HT.size)))) (Lib.hid (fun W h => HIX.out W (HT.trans (h.mono HT.size)))) g g4 g7 gx10 HV.out hb0 _ ?_
  assumption
end Go.Proofs.Ytacioedolmaofaa
namespace Go.Proofs.Ytacioedolmaofaa
open Go.RowKit Go.Shelf
set_option maxHeartbeats 12800000
set_option maxRecDepth 100000
set_option linter.unusedSimpArgs false
set_option linter.unusedVariables false

theorem lawTurnedI_any (s : ISheet) (fa : Option Addr) (fc turn far : Nat) (w : World) (ht : turn < 256) (hf : far < 256) (him : ImSl w fa s.l) :
    Calls Try.prog 10 #[.agg #[.int .i64 s.ax.lo, .int .i64 s.ax.hi, .int .i64 s.ay.lo, .int .i64 s.ay.hi, .int .i64 s.bx.lo, .int .i64 s.bx.hi, .int .i64 s.by'.lo, .int .i64 s.by'.hi, .int .i64 s.f.lo, .int .i64 s.f.hi, .int .i64 s.g.lo, .int .i64 s.g.hi, .int .i64 s.limit, .int .i64 s.flaws, .slice fa s.l.length fc], .int .u8 (turn : Int), .int .u8 (far : Int)] w fun e w' => e = .returned (.bool true) ∧ Below w.heap.size w w' := by
  have HIM : Hid (∀ W, Below w.heap.size w W → ImSl W fa s.l) := Lib.hid (fun W h => him.below h (Nat.le_refl _))
  clear him
  go_enter Try.func10, Try.ntmps10
  go_upto_region 1 with fail
  obtain ⟨W0, hW0⟩ : ∃ W, ((w.alloc (.cells #[.int .i64 s.ax.lo, .int .i64 s.ax.hi, .int .i64 s.ay.lo, .int .i64 s.ay.hi, .int .i64 s.bx.lo, .int .i64 s.bx.hi, .int .i64 s.by'.lo, .int .i64 s.by'.hi, .int .i64 s.f.lo, .int .i64 s.f.hi, .int .i64 s.g.lo, .int .i64 s.g.hi, .int .i64 s.limit, .int .i64 s.flaws, .slice fa s.l.length fc] 30)).alloc (.cells #[.int .u8 (turn : Int)] 5)) = W := ⟨_, rfl⟩
  rw [hW0]
  try simp only [Nat.add_assoc, Nat.reduceAdd]
  have hst_W0 : Steps (fun _ => False) w W0 := by rw [← hW0]; exact (Steps.alloc _ w _).trans (Steps.alloc (fun _ => False) _ _) (fun _ _ h => h)
  have hz_W0 : W0.heap.size = w.heap.size + 2 := by rw [← hW0]; simp
  have g0_W0 : W0.heap[w.heap.size]? = some (.cells #[.int .i64 s.ax.lo, .int .i64 s.ax.hi, .int .i64 s.ay.lo, .int .i64 s.ay.hi, .int .i64 s.bx.lo, .int .i64 s.bx.hi, .int .i64 s.by'.lo, .int .i64 s.by'.hi, .int .i64 s.f.lo, .int .i64 s.f.hi, .int .i64 s.g.lo, .int .i64 s.g.hi, .int .i64 s.limit, .int .i64 s.flaws, .slice fa s.l.length fc] 30) := by rw [← hW0]; simp only [alloc_get, World.size_alloc]; repeat (first | exact if_pos trivial | exact if_pos (by omega) | rw [if_neg (by omega)])
  have g1_W0 : W0.heap[w.heap.size + 1]? = some (.cells #[.int .u8 (turn : Int)] 5) := by rw [← hW0]; simp only [alloc_get, World.size_alloc]; repeat (first | exact if_pos trivial | exact if_pos (by omega) | rw [if_neg (by omega)])
  clear hW0
  have hb0 : Below w.heap.size w W0 := hst_W0.below (Nat.le_refl _) (fun _ _ h => h)
  have g := g0_W0
  have g4 := g1_W0
  have hpw : w.heap.size ≤ w.heap.size := Nat.le_refl _
  obtain ⟨p, hp⟩ : ∃ p, w.heap.size = p := ⟨_, rfl⟩
  rw [hp] at g g4
  try rw [hp]
  have HP := Lib.hid hp
  clear g0_W0 g1_W0 hst_W0 hz_W0 hp hpw
  have cz := fun k => cell_block g k
  have cg0 := cz 0
  have cg1 := cz 1
  have cg2 := cz 2
  have cg3 := cz 3
  have cg4 := cz 4
  have cg5 := cz 5
  have cg6 := cz 6
  have cg7 := cz 7
  have cg8 := cz 8
  have cg9 := cz 9
  have cg10 := cz 10
  have cg11 := cz 11
  have cg12 := cz 12
  have cg13 := cz 13
  have cg14 := cz 14
  clear cz
  simp only [gA, gB, gC] at cg0 cg1 cg2 cg3 cg4 cg5 cg6 cg7 cg8 cg9 cg10 cg11 cg12 cg13 cg14
  go_upto_region 2 with fail
  have g7 := obj_new W0 (.cells #[.int .i64 (s.l.length : Int)] 3)
  have hbl := below_alloc W0 (.cells #[.int .i64 (s.l.length : Int)] 3)
  generalize W0.alloc (.cells #[.int .i64 (s.l.length : Int)] 3) = W1 at g7 hbl ⊢
  obtain ⟨p7, hq⟩ : ∃ q, W0.heap.size = q := ⟨_, rfl⟩
  rw [hq] at g7 ⊢
  clear hq
  clear cg0 cg1 cg2 cg3 cg4 cg5 cg6 cg7 cg8 cg9 cg10 cg11 cg12 cg13 cg14
  replace g := obj_later hbl g
  replace g4 := obj_later hbl g4
  replace hb0 := hb0.trans (hbl.mono hb0.size)
  clear hbl
  have cz := fun k => cell_block g k
  have cg0 := cz 0
  have cg1 := cz 1
  have cg2 := cz 2
  have cg3 := cz 3
  have cg4 := cz 4
  have cg5 := cz 5
  have cg6 := cz 6
  have cg7 := cz 7
  have cg8 := cz 8
  have cg9 := cz 9
  have cg10 := cz 10
  have cg11 := cz 11
  have cg12 := cz 12
  have cg13 := cz 13
  have cg14 := cz 14
  clear cz
  simp only [gA, gB, gC] at cg0 cg1 cg2 cg3 cg4 cg5 cg6 cg7 cg8 cg9 cg10 cg11 cg12 cg13 cg14
  have cz := fun k => cell_block g7 k
  have cg70 := cz 0
  clear cz
  simp only [gA, gB, gC] at cg70
  by_cases h30 : 30 < (s.l.length : Int)
  · go_wp2_with fail
    refine (iawake_any _).mono ?_
    rintro e w99 ⟨rfl, hb⟩
    go_wp2
    go_ret
    exact ⟨rfl, hb0.trans (hb.mono hb0.size)⟩
  · have hlen : s.l.length < 9223372036854775807 := by omega
    have HLEN := Lib.hid hlen
    clear hlen
    go_wp2_with fail
    have hc := irSheet_any s fa fc W1 (HIM.out W1 hb0) HLEN.out
    refine hc.mono ?_
    clear hc
    rintro e w1 ⟨he, hb⟩
    clear cg0 cg1 cg2 cg3 cg4 cg5 cg6 cg7 cg8 cg9 cg10 cg11 cg12 cg13 cg14 cg70
    replace g := obj_later hb g
    replace g4 := obj_later hb g4
    replace g7 := obj_later hb g7
    replace hb0 := hb0.trans (hb.mono hb0.size)
    clear hb
    subst he
    cases hok : s.ok
    · clear hok
      go_wp2_with fail
      refine (iawake_any _).mono ?_
      rintro e w99 ⟨rfl, hb⟩
      go_wp2
      go_ret
      exact ⟨rfl, hb0.trans (hb.mono hb0.size)⟩
    · have hn : s.l.length ≤ 9 := ((iok_iff s).1 hok).2.2.2.2.2.2.2.2.2
      have HOK := Lib.hid hok
      clear hok
      go_upto_region 4 with fail
      refine ltu_loop1 s fa fc p far w w1 (Lib.hid hb0) hf HOK hn (Lib.hid (fun W h => HIM.out W (hb0.trans (h.mono hb0.size)))) (Lib.hid g) _ _ (by assumption) ?_
      intro s6 s9 s53 s54 s55 s56 s57 s58 s59 s60 s61 s62 s63 s64 s65 s66 s67 s68 w20 hall hb
      replace g := obj_later hb g
      replace g4 := obj_later hb g4
      replace g7 := obj_later hb g7
      replace hb0 := hb0.trans (hb.mono hb0.size)
      clear hb
      have HALL := Lib.hid hall
      clear hall
      go_upto_region 10 with fail
      have hp0 : p < w20.heap.size ∧ p + 1 < w20.heap.size ∧ p7 < w20.heap.size := ⟨(Array.getElem?_eq_some_iff.1 g).1, (Array.getElem?_eq_some_iff.1 g4).1, (Array.getElem?_eq_some_iff.1 g7).1⟩
      refine ltu_reg10 s fa fc p w20 hn (Lib.hid (fun W h => HIM.out W (hb0.trans (h.mono hb0.size)))) g _ _ ?_
      intro s69 s70 s71 s72 s73 ka kc q10 w21 ⟨g10, hka, hnq, hq10, hb⟩
      have hz20 := hb0.size
      replace g := obj_later hb g
      replace g4 := obj_later hb g4
      replace g7 := obj_later hb g7
      replace hb0 := hb0.trans (hb.mono hb0.size)
      clear hb
      obtain ⟨w22, hrun, hR, hb⟩ := imakeRow w21 s.l.length (by omega)
      obtain ⟨gx, hgx⟩ : ∃ q, w21.heap.size = q := ⟨_, rfl⟩
      rw [hgx] at hrun hR
      have hlt10 := (Array.getElem?_eq_some_iff.1 g10).1
      have hltp := (Array.getElem?_eq_some_iff.1 g).1
      have hlt4 := (Array.getElem?_eq_some_iff.1 g4).1
      have hlt7 := (Array.getElem?_eq_some_iff.1 g7).1
      have hzb := hb0.size
      have HNE : Hid (gx ≠ p ∧ gx ≠ p + 1 ∧ gx ≠ p7 ∧ gx ≠ q10 ∧ w.heap.size ≤ gx) := Lib.hid (by omega)
      have g7c := cell_block g7 0
      have g14 := cell_block (obj_later hb g10) 14
      have f14 := frozen_block (obj_later hb g10) 14
      have g7d := cell_block (obj_later hb g7) 0
      simp only [gA, gB, gC] at g7c g14 g7d
      have HGX := Lib.hid hgx
      clear hlt10 hltp hlt4 hlt7 hzb hgx
      go_upto_region 13 with fail
      have z10 := block_set (obj_later hb g10) 14 (.slice (some ⟨gx, 0, none⟩) s.l.length s.l.length)
      have x10 := Steps.setCell (own := fun j => j = q10) w22 (p := ⟨q10, 14, none⟩) rfl (.slice (some ⟨gx, 0, none⟩) s.l.length s.l.length)
      generalize w22.setCell ⟨q10, 14, none⟩ (.slice (some ⟨gx, 0, none⟩) s.l.length s.l.length) = w23 at z10 x10 ⊢
      have hne := HNE.out
      have G10 : w23.heap[q10]? = some (.cells #[.int .i64 s.ax.lo, .int .i64 s.ax.hi, .int .i64 s.ay.lo, .int .i64 s.ay.hi, .int .i64 s.bx.lo, .int .i64 s.bx.hi, .int .i64 s.by'.lo, .int .i64 s.by'.hi, .int .i64 s.f.lo, .int .i64 s.f.hi, .int .i64 s.g.lo, .int .i64 s.g.hi, .int .i64 s.limit, .int .i64 s.flaws, .slice (some ⟨gx, 0, none⟩) s.l.length s.l.length] 30) := z10.trans (by simp)
      have hb23 := hb0.trans (hb.mono hb0.size) |>.trans (x10.below (B := w.heap.size) (hb0.trans (hb.mono hb0.size)).size (fun j _ h => by omega))
      have G1 := x10.obj (k := p) (by omega) (obj_later hb g)
      have G4 := x10.obj (k := p + 1) (by omega) (obj_later hb g4)
      have G7 := x10.obj (k := p7) (by omega) (obj_later hb g7)
      have hR23 := hR.same (x10.block gx hR.lt (by omega))
      have hk22 := hka.below hb (Nat.le_refl _)
      have hk23 : ImSl w23 ka s.l := fun j hj => by
        obtain ⟨b, o, h1, h2, h3⟩ := hk22 j hj
        exact ⟨b, o, h1, Nat.lt_of_lt_of_le h2 x10.size, h3.same (x10.block b h2 (hnq _ h1 (fun e => by rw [e] at hj; exact absurd hj (Nat.not_lt_zero _))))⟩
      have hk21 : ∀ ad, ka = some ad → s.l ≠ [] → ad.block < gx := fun ad e h => by
        obtain ⟨b, o, h1, h2, _⟩ := hka 0 (List.length_pos_iff.2 h)
        rw [h1] at e
        cases e
        rw [← HGX.out]
        exact h2
      have HK21 := Lib.hid hk21
      have HK23 := Lib.hid hk23
      clear z10 x10 hb g g4 g7 g10 g7c g14 f14 g7d hrun hR hka hnq hk22 hk21 hk23 hb0 hne
      refine ltu_loop2 s fa fc p (p + 1) p7 q10 gx far turn w w23 hb23 hf ht HOK hn HIM (Lib.hid G1) (Lib.hid G4) (Lib.hid G7) (Lib.hid G10) (Lib.hid hR23) HNE _ _ _ (by assumption) ?_
      intro s13 s14 s78 s79 s80 s81 s82 s83 s84 s85 s86 s87 s88 s89 s90 s91 s92 s93 s94 s95 s96 s97 s98 s99 s100 s101 s102 s103 s104 s105 s106 s107 w30 hRx st
      have hne := HNE.out
      have hb30 := hb23.trans (st.below (B := w.heap.size) hb23.size (fun j _ h => by omega))
      have g := st.obj (k := p) (by omega) G1
      have g4 := st.obj (k := p + 1) (by omega) G4
      have g7 := st.obj (k := p7) (by omega) G7
      have g10 := st.obj (k := q10) (by omega) G10
      have hk30 : ImSl w30 ka s.l := fun j hj => by
        obtain ⟨b, o, h1, h2, h3⟩ := HK23.out j hj
        exact ⟨b, o, h1, Nat.lt_of_lt_of_le h2 st.size, h3.same (st.block b h2 (fun e => by have := HK21.out _ h1 (fun e => by rw [e] at hj; exact absurd hj (Nat.not_lt_zero _)); dsimp only at this; omega))⟩
      clear G1 G4 G7 G10 hR23 hb23 st hne
      have hX := turn_all HOK.out turn far HALL.out
      obtain ⟨lo, hi, e4, st, fl, su, gu, ws, hV⟩ := turnV HOK.out turn far HALL.out
      have hxl : (turnS s turn far).l.length = s.l.length := turnTo_len _ _ _ _
      have gx10 : w30.heap[q10]? = some (.cells #[.int .i64 (turnS s turn far).ax.lo, .int .i64 (turnS s turn far).ax.hi, .int .i64 (turnS s turn far).ay.lo, .int .i64 (turnS s turn far).ay.hi, .int .i64 (turnS s turn far).bx.lo, .int .i64 (turnS s turn far).bx.hi, .int .i64 (turnS s turn far).by'.lo, .int .i64 (turnS s turn far).by'.hi, .int .i64 (turnS s turn far).f.lo, .int .i64 (turnS s turn far).f.hi, .int .i64 (turnS s turn far).g.lo, .int .i64 (turnS s turn far).g.hi, .int .i64 (turnS s turn far).limit, .int .i64 (turnS s turn far).flaws, .slice (some ⟨gx, 0, none⟩) (turnS s turn far).l.length s.l.length] 30) := by rw [hxl]; exact g10
      obtain ⟨x, hx⟩ : ∃ x, turnS s turn far = x := ⟨_, rfl⟩
      rw [hx] at hX hV hxl gx10 hRx
      clear hx g10
      go_upto_region 19 with fail
      refine ltu_mid s x fa ka fc kc p (p + 1) p7 q10 gx far turn lo hi e4 st fl su gu ws w w30 hf ht hn hxl HIM (Lib.hid (fun W h => hk30.below h (Nat.le_refl _))) (Lib.hid (fun W h => (hRx.below h (Nat.le_refl _)).sl)) g g4 g7 gx10 HOK.out hX.1 hX.2 hV hb30 _ ?_
      assumption
end Go.Proofs.Ytacioedolmaofaa
namespace Go.Proofs.Ytacioedolmaofaa
open Go.RowKit Go.Shelf
set_option maxRecDepth 100000

theorem lawTurnedI_u8 (s : ISheet) (fa : Option Addr) (fc : Nat) (x y : Int) (w : World) (him : ImSl w fa s.l) (hx : 0 ≤ x ∧ x ≤ 255) (hy : 0 ≤ y ∧ y ≤ 255) :
    Calls Try.prog 10 #[.agg #[.int .i64 s.ax.lo, .int .i64 s.ax.hi, .int .i64 s.ay.lo, .int .i64 s.ay.hi, .int .i64 s.bx.lo, .int .i64 s.bx.hi, .int .i64 s.by'.lo, .int .i64 s.by'.hi, .int .i64 s.f.lo, .int .i64 s.f.hi, .int .i64 s.g.lo, .int .i64 s.g.hi, .int .i64 s.limit, .int .i64 s.flaws, .slice fa s.l.length fc], .int .u8 x, .int .u8 y] w fun e w' => e = .returned (.bool true) ∧ Below w.heap.size w w' := by
  obtain ⟨a, rfl⟩ := Int.eq_ofNat_of_zero_le hx.1
  obtain ⟨b, rfl⟩ := Int.eq_ofNat_of_zero_le hy.1
  exact lawTurnedI_any s fa fc a b w (by omega) (by omega) him
end Go.Proofs.Ytacioedolmaofaa
