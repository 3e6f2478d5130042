/-
  Own text: plain: what is done to a disk leaves it in order; how the power's count goes.
-/
import Derived.Test.YtcgapjieidmkpaaDoorPlDisk
set_option linter.unusedVariables false
namespace Go.Plain
section
variable {d : DS} {n : Nat}
theorem sy_ok (h : d.Ok n) : (syS d).2.Ok n := by
  unfold syS
  split
  · exact h
  · split
    · exact h
    · split
      · exact strk_ok h
      · have h1 := strk_ok h
        exact ⟨h1.w, h1.w, by simp, by simp, fun i _ _ => rfl⟩
theorem arm_ok (h : d.Ok n) (v : Int) (k : List Int) (t : Int) : (armS d v k t).Ok n := ⟨h.s, h.w, h.nd, h.lt, h.same⟩
theorem st_ok (h : d.Ok n) : (stS d).2.Ok n := by
  unfold stS
  split
  · exact ⟨h.s, h.w, h.nd, h.lt, h.same⟩
  · exact h
theorem cr_ok (h : d.Ok n) (k : List Int) (t : Int) : (crS d k t).2.Ok n := by
  unfold crS
  split
  · exact h
  · exact crash_ok h k t
theorem wr_ok (h : d.Ok n) (a : Int) (b : List UInt8) : (wrS n d a b).2.Ok n := by
  unfold wrS
  split
  · exact h
  · split
    · exact h
    · split
      · exact h
      · split
        · exact h
        · split
          · exact strk_ok h
          · rename_i h1 h2 h3 h4
            have hb : 0 < b.length := by
              rcases b with _ | ⟨x, r⟩
              · exact absurd rfl (by assumption)
              · simp
            exact put_ok (strk_ok h) hb (by omega)
theorem strk_arm : (strk d).2.armed ≤ d.armed := by
  unfold strk
  split
  · exact Nat.le_refl _
  · split
    · simp [crash]
    · exact Nat.sub_le _ _
theorem sy_arm : (syS d).2.armed ≤ d.armed := by
  unfold syS
  split
  · exact Nat.le_refl _
  · split
    · exact Nat.le_refl _
    · split
      · exact strk_arm
      · exact strk_arm
theorem st_arm : (stS d).2.armed ≤ d.armed := by
  unfold stS
  split <;> exact Nat.le_refl _
theorem cr_arm (k : List Int) (t : Int) : (crS d k t).2.armed ≤ d.armed := by
  unfold crS
  split
  · exact Nat.le_refl _
  · simp [crash]
theorem wr_arm (a : Int) (b : List UInt8) : (wrS n d a b).2.armed ≤ d.armed := by
  unfold wrS
  split
  · exact Nat.le_refl _
  · split
    · exact Nat.le_refl _
    · split
      · exact Nat.le_refl _
      · split
        · exact Nat.le_refl _
        · split
          · exact strk_arm
          · exact strk_arm
theorem arm_arm {v : Int} (h : v ≤ 9223372036854775807) (k : List Int) (t : Int) : (armS d v k t).armed ≤ 9223372036854775807 := by
  show (max v 0).toNat ≤ _
  omega
end
section
variable {d : DS} {n : Nat}
theorem strk_keep : (strk d).2.keep = d.keep := by
  unfold strk
  split
  · rfl
  · split <;> rfl
theorem sy_keep : (syS d).2.keep = d.keep := by
  unfold syS
  split
  · rfl
  · split
    · rfl
    · split
      · exact strk_keep
      · exact strk_keep
theorem st_keep : (stS d).2.keep = d.keep := by
  unfold stS
  split <;> rfl
theorem cr_keep (k : List Int) (t : Int) : (crS d k t).2.keep = d.keep := by
  unfold crS
  split <;> rfl
theorem wr_keep (a : Int) (b : List UInt8) : (wrS n d a b).2.keep = d.keep := by
  unfold wrS
  split
  · rfl
  · split
    · rfl
    · split
      · rfl
      · split
        · rfl
        · split
          · exact strk_keep
          · exact strk_keep
end
end Go.Plain
