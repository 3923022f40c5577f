/- Proved: contracts of (*Disk).sectors and (*Disk).seen, by hand. No statement of the seat is proved here. -/
import Derived.Test.YtjkhmagnlaijhaaQFnExactDiskReadx0
import Derived.WalkKit
namespace Go.Proofs.Ytjkhmagnlaijhaa.Seen
open Go.RowKit Go.Proofs.YtjkhmagnlaijhaaW.PrintWords Go.Proofs.YtjkhmagnlaijhaaW.PrintLast Go.Proofs.YtjkhmagnlaijhaaW.PrintMore Go.Proofs.Ytjkhmagnlaijhaa.QFnExactDiskRead
set_option linter.unusedVariables false
set_option linter.unusedSimpArgs false
set_option maxHeartbeats 4000000 in
theorem sectors63 (g : Nat) (A : Option Addr) (n c : Nat) (A1 : Option Addr) (n1 c1 : Nat) (w : World) (hb : w.heap[g]? = some (.cells #[.slice A n c, .slice A1 n1 c1] 35 (0, 0))) (hn : n ≤ 9223372036854775807) :
    Calls Try.prog 63 #[.pointer (some ⟨g, 0, none⟩)] w fun e w' => e = .returned (.int .i64 ((n : Int) / 512)) ∧ w = w' := by
  have h0 : w.cell? ⟨g, 0, none⟩ = some (.slice A n c) := (blk_cell hb 0).trans rfl
  have HB := Aside0.mk hb
  clear hb
  go_enter Try.func63, Try.ntmps63
  go_wp2
  go_ret
  exact ⟨rfl, rfl⟩
/-- The sector as a reader sees it: i: how many of the pending writes are looked at. -/
def seenAt (l : List Int) (ps : List S89) (a : Int) : Nat → List Int
  | 0 => (l.take ((a + 1) * 512).toNat).drop (a * 512).toNat
  | i + 1 => if (rd_T89 ps (i : Int)).f0 = a then (rd_T89 ps (i : Int)).f1 else seenAt l ps a i
def SeenPost (xs : List Int) (w : World) (e : Ending) (w' : World) : Prop := ∃ A' c', e = .returned (.slice A' xs.length c') ∧ Kd.C (Kd.int .u8) w A' xs.length xs ∧ xs.length ≤ c' ∧ w = w'
theorem hit (l : List Int) (ps : List S89) (a : Int) (k : Nat) (h : (rd_T89 ps (k : Int)).f0 = a) : seenAt l ps a (k + 1) = (rd_T89 ps (k : Int)).f1 := by simp only [seenAt]; rw [if_pos h]
theorem miss (l : List Int) (ps : List S89) (a : Int) (k : Nat) (h : ¬ (rd_T89 ps (k : Int)).f0 = a) : seenAt l ps a (k + 1) = seenAt l ps a k := by simp only [seenAt]; rw [if_neg h]
set_option maxHeartbeats 8000000 in
set_option maxRecDepth 100000 in
theorem seen65 (g : Nat) (A : Option Addr) (c : Nat) (l : List Int) (A1 : Option Addr) (c1 : Nat) (ps : List S89) (a : Int) (w : World) (hb : w.heap[g]? = some (.cells #[.slice A l.length c, .slice A1 ps.length c1] 35 (0, 0))) (hr : Kd.C (Kd.int .u8) w A l.length l) (hc : l.length ≤ c) (hr1 : Kd.C k89 w A1 ps.length ps) (h0 : 0 ≤ a) (h1 : (a + 1) * 512 ≤ l.length) :
    Calls Try.prog 65 #[.pointer (some ⟨g, 0, none⟩), .int .i64 a] w (SeenPost (seenAt l ps a ps.length) w) := by
  have hl := Kd.C_max hr
  have hpl := Kd.C_max hr1
  obtain ⟨X, hX⟩ : ∃ X, X = seenAt l ps a ps.length := ⟨_, rfl⟩
  rw [← hX]
  have HX := Aside0.mk hX
  clear hX
  have hz0 : w.cell? ⟨g, 0, none⟩ = some (.slice A l.length c) := (blk_cell hb 0).trans rfl
  have hz1 : w.cell? ⟨g, 1, none⟩ = some (.slice A1 ps.length c1) := (blk_cell hb 1).trans rfl
  have HR := Aside0.mk hr
  have HR1 := Aside0.mk hr1
  have HC := Aside0.mk hc
  clear hb hr hr1 hc
  go_enter Try.func65, Try.ntmps65
  go_wp2
  go_loopg [5] ps.length (fun gg s5 wr => ∃ (z : Int) (i : Nat), Aside0 (z = (i : Int) - 1) ∧ Aside0 (i ≤ ps.length) ∧ Aside0 (i ≤ gg) ∧ s5 = .int .i64 z ∧ Aside0 (X = seenAt l ps a i) ∧ wr = w)
  case atStart => exact ⟨_, ps.length, ⟨rfl⟩, ⟨Nat.le_refl _⟩, ⟨Nat.le_refl _⟩, rfl, HX, rfl⟩
  case round =>
    obtain ⟨z, i, HZ, HI, HG, rfl, HS, rfl⟩ := hrel
    by_cases hp : 0 ≤ z
    · obtain ⟨k, hk⟩ : ∃ k : Nat, z = (k : Int) := ⟨z.toNat, by omega⟩
      have hik : i = k + 1 := by have := HZ.out; omega
      have hkl : k < ps.length := by have := HI.out; omega
      have hkg : k + 1 ≤ gk := by have := HG.out; omega
      subst hik
      subst hk
      clear HZ HI HG hp
      have p1 : (0 : Int) ≤ (k : Int) := by omega
      have q1 : (k : Int) < (ps.length : Int) := by omega
      obtain ⟨ad, A2, c2, eA, hx0, hx1, hl2, hC2⟩ := at_T89 HR1.out (k : Int) p1 q1
      cases eA
      rw [Int.toNat_natCast] at hx0 hx1
      have HL2 := Aside0.mk hl2
      have HC2 := Aside0.mk hC2
      clear hl2 hC2
      by_cases hf : (rd_T89 ps (k : Int)).f0 = a
      · have HX2 := Aside0.mk (HS.out.trans (hit l ps a k hf))
        have b1 : ((rd_T89 ps (k : Int)).f0 == a) = true := beq_iff_eq.mpr hf
        clear hf HS HX
        go_wp2
        go_ret
        rw [HX2.out]
        exact ⟨_, _, rfl, HC2.out, HL2.out, rfl⟩
      · have HX2 := Aside0.mk (HS.out.trans (miss l ps a k hf))
        have b1 : ((rd_T89 ps (k : Int)).f0 == a) = false := beq_eq_false_iff_ne.mpr hf
        clear hf HS
        go_wp2
        go_roundg k
        case measure => omega
        case rel => exact ⟨_, k, ⟨rfl⟩, ⟨by omega⟩, ⟨Nat.le_refl _⟩, rfl, HX2, rfl⟩
    · have hz : z = -1 := by have := HZ.out; omega
      have hi : i = 0 := by have := HZ.out; omega
      subst hi
      subst hz
      have HX2 : Aside0 (X = (l.take ((a + 1) * 512).toNat).drop (a * 512).toNat) := ⟨HS.out⟩
      clear HZ HI HG hp HS HX
      obtain ⟨i0, hi0, _, hsz, _⟩ := info_parts info5
      obtain ⟨A2, hcut, hA2, hC2⟩ := print_mid_of (P := Try.prog) (Value.int .u8) 0 27 5 .i64 .i64 Try.underlying27 hi0 hsz A c l (a * 512) ((a + 1) * 512) (by omega) (by omega) h1 HC.out
      have HA2 := Aside0.mk (Kd.C_of_reads (h1 := fun _ => rfl) (hA2 _ (Kd.reads_of_C HR.out)))
      have HC2 := Aside0.mk hC2
      clear hA2 hC2 hi0 hsz
      generalize hxs : (l.take ((a + 1) * 512).toNat).drop (a * 512).toNat = xs at HX2 hcut HA2 HC2
      clear hxs
      go_wp2
      go_ret
      rw [HX2.out]
      exact ⟨_, _, rfl, HA2.out, HC2.out, rfl⟩
end Go.Proofs.Ytjkhmagnlaijhaa.Seen
