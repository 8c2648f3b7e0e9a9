/- A slice of uint16 among the arguments, opened (image). -/
import Derived.Test.YtacioedolmaofaaLBA25
import Derived.Test.YtacioedolmaofaaLBT2
import Derived.OpenShut
namespace Go.Proofs.Ytacioedolmaofaa
open Go.RowKit Go.ChangeShapes Go.WideShapes Go.Deep
set_option maxRecDepth 100000
set_option maxHeartbeats 800000

theorem icells16 : Try.prog.cellsOf 114 = 1 := by kernel_rfl

/-- Numbers of sixteen bits by value. -/
theorem iu16_open {H : Type} {enc : TypeId × Value → H} {w : World} {base : Nat} {spare : Nat → Bool} {held : Bool} {r : Reach} {b0 : Nat} {v : Value} {d : DataW H} {p : List MemPlace} (hv : Value.okWide Try.prog w r b0 51 v) (h : DataW.Trod enc Try.prog w base spare held 51 v d p) :
    ∃ (a : Option Addr) (xs : List Nat) (cap : Nat), v = .slice a xs.length cap ∧ U16B w w.heap.size a xs ∧ (∀ x ∈ xs, x < 65536) ∧ xs.length ≤ 9223372036854775807 := by
  obtain ⟨a0, len, cap, rfl⟩ := okWide_slice Try.underlying51 hv
  obtain ⟨fuel, hf⟩ := h
  rcases open_ints Try.underlying51 Try.underlying114 icells16 hf with ⟨hcs, _⟩ | ⟨a, len', cap', zs, hcs, _, hl, hm, hz, _, hcell, hwz⟩
  · simp [Value.cells] at hcs
    obtain ⟨rfl, rfl, rfl⟩ := hcs
    exact ⟨none, [], 0, rfl, fun k hk => absurd hk (Nat.not_lt_zero _), by simp, by simp⟩
  · simp [Value.cells] at hcs
    obtain ⟨rfl, rfl, rfl⟩ := hcs
    have hzl : len ≤ zs.length := by rw [hz]; split <;> omega
    have hnn : ∀ n ∈ zs, 0 ≤ n ∧ n ≤ 65535 := fun n hn => bounds_u16 (hwz n hn)
    refine ⟨some a, (zs.take len).map Int.toNat, cap, by simp [hzl], fun k hk => ?_, fun x hx => ?_, ?_⟩
    · simp only [List.length_map, List.length_take] at hk
      have hc := hcell k (by omega)
      have hlen0 := hcell 0 (by omega)
      have e0 : a.add 0 = a := by simp [Addr.add]
      rw [e0] at hlen0
      obtain ⟨b, o, rfl⟩ := iaddr_plain hlen0
      have hadd : ((⟨b, o, none⟩ : Addr).add k) = ⟨b, o + k, none⟩ := by unfold Addr.add; split <;> simp_all
      rw [hadd] at hc
      refine ⟨b, o, rfl, World.block_lt_of_cell? w _ hc, ?_⟩
      rw [hc]
      have hkz : k < zs.length := by omega
      have hg : zs.getD k 0 = zs[k] := by rw [List.getD_eq_getElem?_getD, List.getElem?_eq_getElem hkz]; rfl
      rw [hg]
      have := hnn zs[k] (List.getElem_mem hkz)
      simp only [List.getElem_map, List.getElem_take]
      congr 2
      omega
    · obtain ⟨n, hn, rfl⟩ := List.mem_map.1 hx
      have := hnn n (List.mem_of_mem_take hn)
      omega
    · simp only [List.length_map, List.length_take]
      unfold maxLen at hm
      omega
end Go.Proofs.Ytacioedolmaofaa
