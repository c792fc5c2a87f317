/- The statement VmValues. -/
import Derived.Test.YthdinhgadefgaaaDoorM20
set_option linter.unusedVariables false
set_option linter.unusedSimpArgs false
set_option maxRecDepth 100000
namespace Go.Proofs.YthdinhgadefgaaaDoor.K
open Go.RowKit Go.Proofs.YthdinhgadefgaaaDoorW.PrintWords Go.Proofs.YthdinhgadefgaaaDoorW.PrintLast Go.Proofs.YthdinhgadefgaaaDoorW.PrintMore Go.Proofs.YthdinhgadefgaaaDoor.U Go.Proofs.YthdinhgadefgaaaDoor.T Go.Proofs.YthdinhgadefgaaaDoor.V
attribute [local go_sem high] eqA_pair

theorem valP_in : ∀ x ∈ valP, In64 x.a := fun x hx => by
  have h0 : In64 0 := in64_small (by omega) (by omega)
  simp only [valP, List.mem_cons, List.not_mem_nil, or_false] at hx
  rcases hx with rfl | rfl | rfl | rfl | rfl | rfl | rfl | rfl
  · exact h0
  · exact in64_small (by show -1000000 ≤ (3 : Int); omega) (by show (3 : Int) ≤ 1000000; omega)
  · exact h0
  · exact h0
  · exact h0
  · exact h0
  · exact h0
  · exact h0
def valL : Obj := .cells ((valP.map cellI).flatten).toArray 51
set_option maxHeartbeats 6400000 in
theorem vmValues_walk (W : World) (hE : Env W) (key : ByteArray) (wkey : key.size ≤ 140737488351232) (A1 : Option Addr) (c1 : Nat) (vals : List ByteArray) (hr1 : Kd.C Kd.string W A1 vals.length vals) (hc1 : vals.length ≤ c1) (hg1 : ∀ s ∈ vals, s.size ≤ 9223372036854775807) :
    Calls Tryd.prog 10 #[.string key, .slice A1 vals.length c1] W fun e w' => e = .returned (.bool true) ∧ Below W.heap.size W w' := by
  have HE := Aside0.mk hE
  have HR1 := Aside0.mk (And.intro hr1 hc1)
  clear hE wkey hr1 hc1 hg1
  have hu := Tryd.underlying49
  by_cases hk : key.size ≤ 16
  case' neg =>
    have hkI : (16 : Int) < key.size := by omega
    clear hk
    go_enter Tryd.func10, Tryd.ntmps10
    go_wp2_with fail
    refine (awake6 W HE.out).mono ?_
    rintro e w1 ⟨rfl, hb1⟩
    have HB1 := Aside0.mk hb1
    clear hb1
    go_wp2_with fail
    go_ret
    exact ⟨rfl, HB1.out⟩
  have hkI : ¬ (16 : Int) < key.size := by omega
  by_cases hl : vals.length ≤ 50
  case' neg =>
    have hlI : (50 : Int) < vals.length := by omega
    clear hl hk
    go_enter Tryd.func10, Tryd.ntmps10
    go_wp2_with fail
    refine (awake6 W HE.out).mono ?_
    rintro e w1 ⟨rfl, hb1⟩
    have HB1 := Aside0.mk hb1
    clear hb1
    go_wp2_with fail
    go_ret
    exact ⟨rfl, HB1.out⟩
  have hlI : ¬ (50 : Int) < vals.length := by omega
  have HK := Aside0.mk hk
  have HL := Aside0.mk hl
  clear hk hl
  go_enter Tryd.func10, Tryd.ntmps10
  go_wp2_with fail
  clear hlI hkI
  go_loopg [5] vals.length (fun kq v5 w' => ∃ k : Nat, k + kq = vals.length ∧ v5 = .int .i64 k ∧ Aside0 (∀ v ∈ vals.take k, v.size ≤ 64) ∧ Aside0 (Below W.heap.size W w'))
  case atStart => exact ⟨0, by omega, rfl, ⟨by simp⟩, ⟨Below.refl _ _⟩⟩
  case round =>
    obtain ⟨k, hk, rfl, HT, HB⟩ := hrel
    by_cases hlt : k < vals.length
    · obtain ⟨ad, rfl, hx0⟩ := at_stringM (Kd.C_below HR1.out.1 HB.out) k hlt
      have hltI : (k : Int) < vals.length := by omega
      by_cases hv : (vals[k]'hlt).size ≤ 64
      · have hvI : ¬ (64 : Int) < (vals[k]'hlt).size := by omega
        have HT2 : Aside0 (∀ v ∈ vals.take (k + 1), v.size ≤ 64) := ⟨fun v hm => by
          rw [List.take_succ_eq_append_getElem hlt] at hm
          rcases List.mem_append.1 hm with h | h
          · exact HT.out v h
          · rw [List.mem_singleton.1 h]; exact hv⟩
        obtain ⟨v, hve⟩ : ∃ v, v = vals[k]'hlt := ⟨_, rfl⟩
        rw [← hve] at hx0 hvI
        clear hv hve
        have hl50 := HL.out
        go_wp2_with fail
        go_roundg (vals.length - (k + 1))
        case measure => omega
        case rel => exact ⟨k + 1, by omega, by have := HL.out; go_num, HT2, HB⟩
      · have hvI : (64 : Int) < (vals[k]'hlt).size := by omega
        obtain ⟨v, hve⟩ : ∃ v, v = vals[k]'hlt := ⟨_, rfl⟩
        rw [← hve] at hx0 hvI
        clear hv hve
        go_wp2_with fail
        refine (awake6 wr (HE.out.below HB.out)).mono ?_
        rintro e w1 ⟨rfl, hb1⟩
        have HB1 := Aside0.mk (two_belowM HB.out hb1)
        clear hb1
        go_wp2_with fail
        go_ret
        exact ⟨rfl, HB1.out⟩
    · have hltI : ¬ (k : Int) < vals.length := by omega
      have HV : Aside0 (∀ v ∈ vals, v.size ≤ 64) := ⟨by have := HT.out; rw [List.take_of_length_le (show vals.length ≤ k from by omega)] at this; exact this⟩
      have HBP := Aside0.mk ((Below.refl wr.heap.size wr).alloc (Nat.le_refl _) valL)
      have HRUN := Aside0.mk (⟨HE.out.below (two_belowM HB.out HBP.out), lit_ins wr valP 51 _ rfl (by decide), by decide, valP_in, Kd.C_below HR1.out.1 (two_belowM HB.out HBP.out), HR1.out.2, by have := HL.out; omega, fun x hx => by have := HV.out x hx; omega, in64_small (by omega) (by omega)⟩ : RunArgs (wr.alloc valL) (some ⟨wr.heap.size, 0, none⟩) 8 valP A1 c1 vals 2000)
      by_cases h40 : vals.length ≤ 40
      · have h40I : ¬ (40 : Int) < vals.length := by omega
        have hf := val_runs key HK.out vals HV.out h40
        have HF := Aside0.mk hf
        have hml : (vals.map (fun v => (⟨key, v⟩ : PairD))).length = vals.length := List.length_map ..
        have hst : IntKind.i64.wrap (7 * (vals.length : Int)) = 7 * vals.length := IntWalk.i64_in _ (by omega)
        have hst2 : IntKind.i64.wrap (7 * (vals.length : Int) + 3) = 7 * vals.length + 3 := IntWalk.i64_in _ (by omega)
        have hnn : ((vals.length : Int) != (vals.length : Int)) = false := by simp
        have hss : ((7 * (vals.length : Int) + 3) != (7 * (vals.length : Int) + 3)) = false := by simp
        clear hf h40
        go_wp2_with fail
        refine (vmRun _ 8 valP key A1 c1 vals 2000 _ HRUN.out).mono ?_
        rintro e w2 ⟨A, c, rfl, hC2, hb2⟩
        rw [HF.out.1] at hC2 ⊢
        rw [HF.out.2.1, hml]
        rw [hml] at hC2
        have HC2 := Aside0.mk hC2
        have HB2 := Aside0.mk (two_belowM HB.out (two_belowM HBP.out hb2))
        have HR2 := Aside0.mk (⟨HE.out.below HB2.out, Kd.C_below HRUN.out.hp hb2, by decide, valP_in, Kd.C_below HR1.out.1 HB2.out, HR1.out.2, HRUN.out.hvl, HRUN.out.hvv, HRUN.out.hf2⟩ : RunArgs w2 (some ⟨wr.heap.size, 0, none⟩) 8 valP A1 c1 vals 2000)
        clear hC2 hb2
        go_wp2_with fail
        refine (vmSteps _ 8 valP key A1 c1 vals 2000 _ HR2.out).mono ?_
        rintro e w3 ⟨rfl, hb3⟩
        rw [HF.out.2.2]
        have HC3 := Aside0.mk (Kd.C_below HC2.out hb3)
        have HB3 := Aside0.mk (two_belowM HB2.out hb3)
        clear hb3 HC2
        go_wp2_with fail
        go_loopg [9] vals.length (fun kq v9 w' => ∃ k : Nat, k + kq = vals.length ∧ v9 = .int .i64 k ∧ Drawn0 w3 w')
        case atStart => exact ⟨0, by omega, rfl, Drawn0.refl _⟩
        case round =>
          obtain ⟨k2, hk2, rfl, HD⟩ := hrel
          have HDB := Aside0.mk HD.below
          by_cases hlt2 : k2 < vals.length
          · obtain ⟨ad1, rfl, hx1⟩ := at_stringM (Kd.C_below HR1.out.1 (two_belowM HB3.out HDB.out)) k2 hlt2
            obtain ⟨ad2, rfl, hx2, hy2⟩ := at_pair2 (Kd.C_below HC3.out HDB.out) k2 (by rw [hml]; exact hlt2)
            rw [List.getElem_map] at hx2 hy2
            simp only at hx2 hy2
            obtain ⟨v, hve⟩ : ∃ v, v = vals[k2]'hlt2 := ⟨_, rfl⟩
            rw [← hve] at hx1 hy2
            have hltI2 : (k2 : Int) < vals.length := by omega
            have hpp : eqP key v key v = true := (eqP_iff ⟨key, v⟩ ⟨key, v⟩).2 rfl
            clear hve
            have hl50 := HL.out
            go_wp2_with fail
            go_quiet (fail)
            go_wp2_with fail
            go_roundg (vals.length - (k2 + 1))
            case measure => omega
            case rel => exact ⟨k2 + 1, by omega, by have := HL.out; go_num, by repeat (first | exact HD | apply Drawn0.step)⟩
          · have hltI2 : ¬ (k2 : Int) < vals.length := by omega
            have HBR := Aside0.mk (two_belowM HB3.out HDB.out)
            go_wp2_with fail
            refine (awake6 wr (HE.out.below HBR.out)).mono ?_
            rintro e w5 ⟨rfl, hb5⟩
            have HB5 := Aside0.mk (two_belowM HBR.out hb5)
            clear hb5
            go_wp2_with fail
            go_ret
            exact ⟨rfl, HB5.out⟩
      · have h40I : (40 : Int) < vals.length := by omega
        have HF := Aside0.mk (val_runs_many key HK.out vals HV.out (by omega) (by have := HL.out; omega))
        clear h40
        go_wp2_with fail
        refine (vmRun _ 8 valP key A1 c1 vals 2000 _ HRUN.out).mono ?_
        rintro e w2 ⟨A, c, rfl, hC2, hb2⟩
        rw [HF.out.1, HF.out.2]
        have HB2 := Aside0.mk (two_belowM HB.out (two_belowM HBP.out hb2))
        clear hC2 hb2
        go_wp2_with fail
        refine (awake6 w2 (HE.out.below HB2.out)).mono ?_
        rintro e w3 ⟨rfl, hb3⟩
        have HB3 := Aside0.mk (two_belowM HB2.out hb3)
        clear hb3
        go_wp2_with fail
        go_ret
        exact ⟨rfl, HB3.out⟩
end Go.Proofs.YthdinhgadefgaaaDoor.K
