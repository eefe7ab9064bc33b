/- The law SliceNone: runs. -/
import Derived.Test.YtgfnepigepnapaaGreatDoorSlB
import Derived.KernelRfl
set_option linter.unusedVariables false
set_option maxRecDepth 100000
set_option maxHeartbeats 0
namespace Go.Vm.Sl
open Go.Vm Go.Proofs
theorem Fixed_c0 : chkLf Fixed_0 (Fixed_run []) = true := by kernel_rfl
theorem Fixed_r : CoversL Fixed_run Fixed_d [] := Fixed_c0
theorem Make_c0 : chkLf Make_0 (Make_run []) = true := by kernel_rfl
theorem Make_r : CoversL Make_run Make_d [] := Make_c0
theorem Begin_c0 : chkLf Begin_0 (Begin_run []) = true := by kernel_rfl
theorem Begin_r : CoversL Begin_run Begin_d [] := Begin_c0
theorem Q4_c0 : chkLf Q4_0 (Q4_run []) = true := by kernel_rfl
theorem Q4_r : CoversL Q4_run Q4_d [] := Q4_c0
theorem Q5_c0 : chkLf Q5_0 (Q5_run []) = true := by kernel_rfl
theorem Q5_r : CoversL Q5_run Q5_d [] := Q5_c0
theorem Q6_c0 : chkLf Q6_0 (Q6_run []) = true := by kernel_rfl
theorem Q6_r : CoversL Q6_run Q6_d [] := Q6_c0
theorem Q7_c0 : chkLf Q7_0 (Q7_run [((.eq (.bin .shr .u64 (.wrap .u64 (.bin .shl .u64 (.v 1) (.c (.ofNat 32)))) (.c (.ofNat 32))) (.c (.ofNat 0))), true)]) = true := by kernel_rfl
theorem Q7_c1 : chkLf Q7_1 (Q7_run [((.eq (.bin .shr .u64 (.wrap .u64 (.bin .shl .u64 (.v 1) (.c (.ofNat 32)))) (.c (.ofNat 32))) (.c (.ofNat 0))), false)]) = true := by kernel_rfl
theorem Q7_r : CoversL Q7_run Q7_d [] := ⟨Q7_c0, Q7_c1⟩
theorem Q8_c0 : chkLf Q8_0 (Q8_run []) = true := by kernel_rfl
theorem Q8_r : CoversL Q8_run Q8_d [] := Q8_c0
theorem Q9_c0 : chkLf Q9_0 (Q9_run []) = true := by kernel_rfl
theorem Q9_r : CoversL Q9_run Q9_d [] := Q9_c0
theorem Q10_c0 : chkLf Q10_0 (Q10_run []) = true := by kernel_rfl
theorem Q10_r : CoversL Q10_run Q10_d [] := Q10_c0
theorem Q11_c0 : chkLf Q11_0 (Q11_run []) = true := by kernel_rfl
theorem Q11_r : CoversL Q11_run Q11_d [] := Q11_c0
theorem Q12_c0 : chkLf Q12_0 (Q12_run []) = true := by kernel_rfl
theorem Q12_r : CoversL Q12_run Q12_d [] := Q12_c0
theorem Q13_c0 : chkLf Q13_0 (Q13_run []) = true := by kernel_rfl
theorem Q13_r : CoversL Q13_run Q13_d [] := Q13_c0
theorem Q14_c0 : chkLf Q14_0 (Q14_run []) = true := by kernel_rfl
theorem Q14_r : CoversL Q14_run Q14_d [] := Q14_c0
theorem Q15_c0 : chkLf Q15_0 (Q15_run []) = true := by kernel_rfl
theorem Q15_r : CoversL Q15_run Q15_d [] := Q15_c0
theorem Q16_c0 : chkLf Q16_0 (Q16_run []) = true := by kernel_rfl
theorem Q16_r : CoversL Q16_run Q16_d [] := Q16_c0
theorem Q17_c0 : chkLf Q17_0 (Q17_run []) = true := by kernel_rfl
theorem Q17_r : CoversL Q17_run Q17_d [] := Q17_c0
theorem Q18_c0 : chkLf Q18_0 (Q18_run []) = true := by kernel_rfl
theorem Q18_r : CoversL Q18_run Q18_d [] := Q18_c0
theorem Q19_c0 : chkLf Q19_0 (Q19_run []) = true := by kernel_rfl
theorem Q19_r : CoversL Q19_run Q19_d [] := Q19_c0
theorem Q20_c0 : chkLf Q20_0 (Q20_run []) = true := by kernel_rfl
theorem Q20_r : CoversL Q20_run Q20_d [] := Q20_c0
theorem Q21_c0 : chkLf Q21_0 (Q21_run []) = true := by kernel_rfl
theorem Q21_r : CoversL Q21_run Q21_d [] := Q21_c0
theorem Q22_c0 : chkLf Q22_0 (Q22_run []) = true := by kernel_rfl
theorem Q22_r : CoversL Q22_run Q22_d [] := Q22_c0
theorem Q23_c0 : chkLf Q23_0 (Q23_run [((.eq (.bin .shr .u64 (.wrap .u64 (.bin .shl .u64 (.v 1) (.c (.ofNat 32)))) (.c (.ofNat 32))) (.c (.ofNat 0))), true)]) = true := by kernel_rfl
theorem Q23_c1 : chkLf Q23_1 (Q23_run [((.eq (.bin .shr .u64 (.wrap .u64 (.bin .shl .u64 (.v 1) (.c (.ofNat 32)))) (.c (.ofNat 32))) (.c (.ofNat 0))), false)]) = true := by kernel_rfl
theorem Q23_r : CoversL Q23_run Q23_d [] := ⟨Q23_c0, Q23_c1⟩
theorem Q24_c0 : chkLf Q24_0 (Q24_run []) = true := by kernel_rfl
theorem Q24_r : CoversL Q24_run Q24_d [] := Q24_c0
theorem Q25_c0 : chkLf Q25_0 (Q25_run []) = true := by kernel_rfl
theorem Q25_r : CoversL Q25_run Q25_d [] := Q25_c0
theorem Q26_c0 : chkLf Q26_0 (Q26_run []) = true := by kernel_rfl
theorem Q26_r : CoversL Q26_run Q26_d [] := Q26_c0
theorem Q27_c0 : chkLf Q27_0 (Q27_run []) = true := by kernel_rfl
theorem Q27_r : CoversL Q27_run Q27_d [] := Q27_c0
theorem Q28_c0 : chkLf Q28_0 (Q28_run []) = true := by kernel_rfl
theorem Q28_r : CoversL Q28_run Q28_d [] := Q28_c0
theorem Q29_c0 : chkLf Q29_0 (Q29_run []) = true := by kernel_rfl
theorem Q29_r : CoversL Q29_run Q29_d [] := Q29_c0
theorem Q30_c0 : chkLf Q30_0 (Q30_run []) = true := by kernel_rfl
theorem Q30_r : CoversL Q30_run Q30_d [] := Q30_c0
theorem Q31_c0 : chkLf Q31_0 (Q31_run []) = true := by kernel_rfl
theorem Q31_r : CoversL Q31_run Q31_d [] := Q31_c0
theorem Q32_c0 : chkLf Q32_0 (Q32_run []) = true := by kernel_rfl
theorem Q32_r : CoversL Q32_run Q32_d [] := Q32_c0
theorem Q33_c0 : chkLf Q33_0 (Q33_run []) = true := by kernel_rfl
theorem Q33_r : CoversL Q33_run Q33_d [] := Q33_c0
theorem Q34_c0 : chkLf Q34_0 (Q34_run []) = true := by kernel_rfl
theorem Q34_r : CoversL Q34_run Q34_d [] := Q34_c0
theorem Q35_c0 : chkLf Q35_0 (Q35_run []) = true := by kernel_rfl
theorem Q35_r : CoversL Q35_run Q35_d [] := Q35_c0
theorem Q36_c0 : chkLf Q36_0 (Q36_run []) = true := by kernel_rfl
theorem Q36_r : CoversL Q36_run Q36_d [] := Q36_c0
theorem C0_c0 : chkLf C0_0 (C0_run []) = true := by kernel_rfl
theorem C0_r : CoversL C0_run C0_d [] := C0_c0
theorem E0_c0 : chkLf E0_0 (E0_run []) = true := by kernel_rfl
theorem E0_r : CoversL E0_run E0_d [] := E0_c0
theorem F0_c0 : chkLf F0_0 (F0_run []) = true := by kernel_rfl
theorem F0_r : CoversL F0_run F0_d [] := F0_c0
theorem C1_c0 : chkLf C1_0 (C1_run []) = true := by kernel_rfl
theorem C1_r : CoversL C1_run C1_d [] := C1_c0
theorem E1_c0 : chkLf E1_0 (E1_run []) = true := by kernel_rfl
theorem E1_r : CoversL E1_run E1_d [] := E1_c0
theorem F1_c0 : chkLf F1_0 (F1_run []) = true := by kernel_rfl
theorem F1_r : CoversL F1_run F1_d [] := F1_c0
theorem C2_c0 : chkLf C2_0 (C2_run []) = true := by kernel_rfl
theorem C2_r : CoversL C2_run C2_d [] := C2_c0
theorem E2_c0 : chkLf E2_0 (E2_run []) = true := by kernel_rfl
theorem E2_r : CoversL E2_run E2_d [] := E2_c0
theorem F2_c0 : chkLf F2_0 (F2_run []) = true := by kernel_rfl
theorem F2_r : CoversL F2_run F2_d [] := F2_c0
theorem C3_c0 : chkLf C3_0 (C3_run []) = true := by kernel_rfl
theorem C3_r : CoversL C3_run C3_d [] := C3_c0
theorem E3_c0 : chkLf E3_0 (E3_run []) = true := by kernel_rfl
theorem E3_r : CoversL E3_run E3_d [] := E3_c0
theorem F3_c0 : chkLf F3_0 (F3_run []) = true := by kernel_rfl
theorem F3_r : CoversL F3_run F3_d [] := F3_c0
theorem C4_c0 : chkLf C4_0 (C4_run []) = true := by kernel_rfl
theorem C4_r : CoversL C4_run C4_d [] := C4_c0
theorem E4_c0 : chkLf E4_0 (E4_run []) = true := by kernel_rfl
theorem E4_r : CoversL E4_run E4_d [] := E4_c0
theorem F4_c0 : chkLf F4_0 (F4_run []) = true := by kernel_rfl
theorem F4_r : CoversL F4_run F4_d [] := F4_c0
theorem C5_c0 : chkLf C5_0 (C5_run []) = true := by kernel_rfl
theorem C5_r : CoversL C5_run C5_d [] := C5_c0
theorem E5_c0 : chkLf E5_0 (E5_run []) = true := by kernel_rfl
theorem E5_r : CoversL E5_run E5_d [] := E5_c0
theorem F5_c0 : chkLf F5_0 (F5_run []) = true := by kernel_rfl
theorem F5_r : CoversL F5_run F5_d [] := F5_c0
theorem C6_c0 : chkLf C6_0 (C6_run []) = true := by kernel_rfl
theorem C6_r : CoversL C6_run C6_d [] := C6_c0
theorem E6_c0 : chkLf E6_0 (E6_run []) = true := by kernel_rfl
theorem E6_r : CoversL E6_run E6_d [] := E6_c0
theorem F6_c0 : chkLf F6_0 (F6_run []) = true := by kernel_rfl
theorem F6_r : CoversL F6_run F6_d [] := F6_c0
theorem C7_c0 : chkLf C7_0 (C7_run []) = true := by kernel_rfl
theorem C7_r : CoversL C7_run C7_d [] := C7_c0
theorem E7_c0 : chkLf E7_0 (E7_run []) = true := by kernel_rfl
theorem E7_r : CoversL E7_run E7_d [] := E7_c0
theorem F7_c0 : chkLf F7_0 (F7_run []) = true := by kernel_rfl
theorem F7_r : CoversL F7_run F7_d [] := F7_c0
theorem C8_c0 : chkLf C8_0 (C8_run []) = true := by kernel_rfl
theorem C8_r : CoversL C8_run C8_d [] := C8_c0
theorem E8_c0 : chkLf E8_0 (E8_run []) = true := by kernel_rfl
theorem E8_r : CoversL E8_run E8_d [] := E8_c0
theorem F8_c0 : chkLf F8_0 (F8_run []) = true := by kernel_rfl
theorem F8_r : CoversL F8_run F8_d [] := F8_c0
theorem C9_c0 : chkLf C9_0 (C9_run []) = true := by kernel_rfl
theorem C9_r : CoversL C9_run C9_d [] := C9_c0
theorem E9_c0 : chkLf E9_0 (E9_run []) = true := by kernel_rfl
theorem E9_r : CoversL E9_run E9_d [] := E9_c0
theorem F9_c0 : chkLf F9_0 (F9_run []) = true := by kernel_rfl
theorem F9_r : CoversL F9_run F9_d [] := F9_c0
theorem C10_c0 : chkLf C10_0 (C10_run []) = true := by kernel_rfl
theorem C10_r : CoversL C10_run C10_d [] := C10_c0
theorem E10_c0 : chkLf E10_0 (E10_run []) = true := by kernel_rfl
theorem E10_r : CoversL E10_run E10_d [] := E10_c0
theorem F10_c0 : chkLf F10_0 (F10_run []) = true := by kernel_rfl
theorem F10_r : CoversL F10_run F10_d [] := F10_c0
theorem C11_c0 : chkLf C11_0 (C11_run []) = true := by kernel_rfl
theorem C11_r : CoversL C11_run C11_d [] := C11_c0
theorem E11_c0 : chkLf E11_0 (E11_run []) = true := by kernel_rfl
theorem E11_r : CoversL E11_run E11_d [] := E11_c0
theorem F11_c0 : chkLf F11_0 (F11_run []) = true := by kernel_rfl
theorem F11_r : CoversL F11_run F11_d [] := F11_c0
theorem C12_c0 : chkLf C12_0 (C12_run []) = true := by kernel_rfl
theorem C12_r : CoversL C12_run C12_d [] := C12_c0
theorem E12_c0 : chkLf E12_0 (E12_run []) = true := by kernel_rfl
theorem E12_r : CoversL E12_run E12_d [] := E12_c0
theorem F12_c0 : chkLf F12_0 (F12_run []) = true := by kernel_rfl
theorem F12_r : CoversL F12_run F12_d [] := F12_c0
theorem C13_c0 : chkLf C13_0 (C13_run []) = true := by kernel_rfl
theorem C13_r : CoversL C13_run C13_d [] := C13_c0
theorem E13_c0 : chkLf E13_0 (E13_run []) = true := by kernel_rfl
theorem E13_r : CoversL E13_run E13_d [] := E13_c0
theorem F13_c0 : chkLf F13_0 (F13_run []) = true := by kernel_rfl
theorem F13_r : CoversL F13_run F13_d [] := F13_c0
theorem C14_c0 : chkLf C14_0 (C14_run []) = true := by kernel_rfl
theorem C14_r : CoversL C14_run C14_d [] := C14_c0
theorem E14_c0 : chkLf E14_0 (E14_run []) = true := by kernel_rfl
theorem E14_r : CoversL E14_run E14_d [] := E14_c0
theorem F14_c0 : chkLf F14_0 (F14_run []) = true := by kernel_rfl
theorem F14_r : CoversL F14_run F14_d [] := F14_c0
theorem C15_c0 : chkLf C15_0 (C15_run []) = true := by kernel_rfl
theorem C15_r : CoversL C15_run C15_d [] := C15_c0
theorem E15_c0 : chkLf E15_0 (E15_run []) = true := by kernel_rfl
theorem E15_r : CoversL E15_run E15_d [] := E15_c0
theorem F15_c0 : chkLf F15_0 (F15_run []) = true := by kernel_rfl
theorem F15_r : CoversL F15_run F15_d [] := F15_c0
theorem C16_c0 : chkLf C16_0 (C16_run []) = true := by kernel_rfl
theorem C16_r : CoversL C16_run C16_d [] := C16_c0
theorem E16_c0 : chkLf E16_0 (E16_run []) = true := by kernel_rfl
theorem E16_r : CoversL E16_run E16_d [] := E16_c0
theorem F16_c0 : chkLf F16_0 (F16_run []) = true := by kernel_rfl
theorem F16_r : CoversL F16_run F16_d [] := F16_c0
theorem C17_c0 : chkLf C17_0 (C17_run []) = true := by kernel_rfl
theorem C17_r : CoversL C17_run C17_d [] := C17_c0
theorem E17_c0 : chkLf E17_0 (E17_run []) = true := by kernel_rfl
theorem E17_r : CoversL E17_run E17_d [] := E17_c0
theorem F17_c0 : chkLf F17_0 (F17_run []) = true := by kernel_rfl
theorem F17_r : CoversL F17_run F17_d [] := F17_c0
theorem C18_c0 : chkLf C18_0 (C18_run []) = true := by kernel_rfl
theorem C18_r : CoversL C18_run C18_d [] := C18_c0
theorem E18_c0 : chkLf E18_0 (E18_run []) = true := by kernel_rfl
theorem E18_r : CoversL E18_run E18_d [] := E18_c0
theorem F18_c0 : chkLf F18_0 (F18_run []) = true := by kernel_rfl
theorem F18_r : CoversL F18_run F18_d [] := F18_c0
theorem C19_c0 : chkLf C19_0 (C19_run []) = true := by kernel_rfl
theorem C19_r : CoversL C19_run C19_d [] := C19_c0
theorem E19_c0 : chkLf E19_0 (E19_run []) = true := by kernel_rfl
theorem E19_r : CoversL E19_run E19_d [] := E19_c0
theorem F19_c0 : chkLf F19_0 (F19_run []) = true := by kernel_rfl
theorem F19_r : CoversL F19_run F19_d [] := F19_c0
theorem C20_c0 : chkLf C20_0 (C20_run []) = true := by kernel_rfl
theorem C20_r : CoversL C20_run C20_d [] := C20_c0
theorem E20_c0 : chkLf E20_0 (E20_run []) = true := by kernel_rfl
theorem E20_r : CoversL E20_run E20_d [] := E20_c0
theorem F20_c0 : chkLf F20_0 (F20_run []) = true := by kernel_rfl
theorem F20_r : CoversL F20_run F20_d [] := F20_c0
theorem C21_c0 : chkLf C21_0 (C21_run []) = true := by kernel_rfl
theorem C21_r : CoversL C21_run C21_d [] := C21_c0
theorem E21_c0 : chkLf E21_0 (E21_run []) = true := by kernel_rfl
theorem E21_r : CoversL E21_run E21_d [] := E21_c0
theorem F21_c0 : chkLf F21_0 (F21_run []) = true := by kernel_rfl
theorem F21_r : CoversL F21_run F21_d [] := F21_c0
theorem C22_c0 : chkLf C22_0 (C22_run []) = true := by kernel_rfl
theorem C22_r : CoversL C22_run C22_d [] := C22_c0
theorem E22_c0 : chkLf E22_0 (E22_run []) = true := by kernel_rfl
theorem E22_r : CoversL E22_run E22_d [] := E22_c0
theorem F22_c0 : chkLf F22_0 (F22_run []) = true := by kernel_rfl
theorem F22_r : CoversL F22_run F22_d [] := F22_c0
theorem C23_c0 : chkLf C23_0 (C23_run []) = true := by kernel_rfl
theorem C23_r : CoversL C23_run C23_d [] := C23_c0
theorem E23_c0 : chkLf E23_0 (E23_run []) = true := by kernel_rfl
theorem E23_r : CoversL E23_run E23_d [] := E23_c0
theorem F23_c0 : chkLf F23_0 (F23_run []) = true := by kernel_rfl
theorem F23_r : CoversL F23_run F23_d [] := F23_c0
theorem C24_c0 : chkLf C24_0 (C24_run []) = true := by kernel_rfl
theorem C24_r : CoversL C24_run C24_d [] := C24_c0
theorem E24_c0 : chkLf E24_0 (E24_run []) = true := by kernel_rfl
theorem E24_r : CoversL E24_run E24_d [] := E24_c0
theorem F24_c0 : chkLf F24_0 (F24_run []) = true := by kernel_rfl
theorem F24_r : CoversL F24_run F24_d [] := F24_c0
theorem C25_c0 : chkLf C25_0 (C25_run []) = true := by kernel_rfl
theorem C25_r : CoversL C25_run C25_d [] := C25_c0
theorem E25_c0 : chkLf E25_0 (E25_run []) = true := by kernel_rfl
theorem E25_r : CoversL E25_run E25_d [] := E25_c0
theorem F25_c0 : chkLf F25_0 (F25_run []) = true := by kernel_rfl
theorem F25_r : CoversL F25_run F25_d [] := F25_c0
theorem C26_c0 : chkLf C26_0 (C26_run []) = true := by kernel_rfl
theorem C26_r : CoversL C26_run C26_d [] := C26_c0
theorem E26_c0 : chkLf E26_0 (E26_run []) = true := by kernel_rfl
theorem E26_r : CoversL E26_run E26_d [] := E26_c0
theorem F26_c0 : chkLf F26_0 (F26_run []) = true := by kernel_rfl
theorem F26_r : CoversL F26_run F26_d [] := F26_c0
theorem C27_c0 : chkLf C27_0 (C27_run []) = true := by kernel_rfl
theorem C27_r : CoversL C27_run C27_d [] := C27_c0
theorem E27_c0 : chkLf E27_0 (E27_run []) = true := by kernel_rfl
theorem E27_r : CoversL E27_run E27_d [] := E27_c0
theorem F27_c0 : chkLf F27_0 (F27_run []) = true := by kernel_rfl
theorem F27_r : CoversL F27_run F27_d [] := F27_c0
theorem C28_c0 : chkLf C28_0 (C28_run []) = true := by kernel_rfl
theorem C28_r : CoversL C28_run C28_d [] := C28_c0
theorem E28_c0 : chkLf E28_0 (E28_run []) = true := by kernel_rfl
theorem E28_r : CoversL E28_run E28_d [] := E28_c0
theorem F28_c0 : chkLf F28_0 (F28_run []) = true := by kernel_rfl
theorem F28_r : CoversL F28_run F28_d [] := F28_c0
theorem C29_c0 : chkLf C29_0 (C29_run []) = true := by kernel_rfl
theorem C29_r : CoversL C29_run C29_d [] := C29_c0
theorem E29_c0 : chkLf E29_0 (E29_run []) = true := by kernel_rfl
theorem E29_r : CoversL E29_run E29_d [] := E29_c0
theorem F29_c0 : chkLf F29_0 (F29_run []) = true := by kernel_rfl
theorem F29_r : CoversL F29_run F29_d [] := F29_c0
theorem C30_c0 : chkLf C30_0 (C30_run []) = true := by kernel_rfl
theorem C30_r : CoversL C30_run C30_d [] := C30_c0
theorem E30_c0 : chkLf E30_0 (E30_run []) = true := by kernel_rfl
theorem E30_r : CoversL E30_run E30_d [] := E30_c0
theorem F30_c0 : chkLf F30_0 (F30_run []) = true := by kernel_rfl
theorem F30_r : CoversL F30_run F30_d [] := F30_c0
theorem C31_c0 : chkLf C31_0 (C31_run []) = true := by kernel_rfl
theorem C31_r : CoversL C31_run C31_d [] := C31_c0
theorem E31_c0 : chkLf E31_0 (E31_run []) = true := by kernel_rfl
theorem E31_r : CoversL E31_run E31_d [] := E31_c0
theorem F31_c0 : chkLf F31_0 (F31_run []) = true := by kernel_rfl
theorem F31_r : CoversL F31_run F31_d [] := F31_c0
theorem C32_c0 : chkLf C32_0 (C32_run []) = true := by kernel_rfl
theorem C32_r : CoversL C32_run C32_d [] := C32_c0
theorem E32_c0 : chkLf E32_0 (E32_run []) = true := by kernel_rfl
theorem E32_r : CoversL E32_run E32_d [] := E32_c0
theorem F32_c0 : chkLf F32_0 (F32_run []) = true := by kernel_rfl
theorem F32_r : CoversL F32_run F32_d [] := F32_c0
end Go.Vm.Sl
