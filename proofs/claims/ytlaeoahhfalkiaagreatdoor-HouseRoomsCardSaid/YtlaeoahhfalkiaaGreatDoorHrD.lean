/- The law HouseRooms: what each call leaves. -/
import Derived.Test.YtlaeoahhfalkiaaGreatDoorHrB
set_option linter.unusedVariables false
set_option maxRecDepth 100000
set_option maxHeartbeats 0
namespace Go.Vm.Hr
open Go.Vm Go.Proofs
noncomputable section
def New_0 : Lf := ⟨(.p (some (64, 0))), t1, [(64, 1001), (65, 1000)], []⟩
def New_run (pc : List (BE × Bool)) : Rs V := evCall { cxb with pc := pc } 100000 7 [] (.mk t0 1000 .off)
def New_d : DL := (.leaf New_0)
def Rooms0_0 : Lf := ⟨(.i .i64 (.c (.ofNat 0))), t0, [], []⟩
def Rooms0_run (pc : List (BE × Bool)) : Rs V := evCall { cxb with pc := pc } 100000 12 [(.p (some (64, 0)))] (.mk t1 1000 .off)
def Rooms0_d : DL := (.leaf Rooms0_0)
def Fixed0_0 : Lf := ⟨(.agg [(.sl (some (66, 0)) 4 4), (.sl (some (67, 0)) 8 8), (.sl none 0 0), (.sl (some (68, 0)) 1 1), (.sl (some (69, 0)) 1 1), (.sl (some (70, 0)) 8 8), (.b (.c false)), (.i .u32 (.c (.ofNat 0))), (.sl none 0 0), (.b (.c false)), (.i .u32 (.c (.ofNat 0))), (.sl (some (71, 0)) 8 8), (.sl none 0 0)]), t2, [(66, 1006), (67, 1012), (68, 1007), (69, 1009), (70, 1051), (71, 1053), (72, 1002), (73, 1003), (74, 1004), (75, 1005), (76, 1008), (77, 1013), (78, 1014), (79, 1015), (80, 1016), (81, 1017), (82, 1018), (83, 1019), (84, 1020)], []⟩
def Fixed0_run (pc : List (BE × Bool)) : Rs V := evCall { cxb with pc := pc } 100000 9 [] (.mk t1 1000 .off)
def Fixed0_d : DL := (.leaf Fixed0_0)
def Make0_0 : Lf := ⟨(.tup [(.i .i64 (.c (.ofNat 0))), (.i .i64 (.c (.ofNat 0)))]), t3, [(85, 1112), (86, 1110), (87, 1108), (88, 1006), (89, 1109), (90, 1102), (91, 1007), (92, 1106), (93, 1004), (94, 1005), (95, 1009), (96, 1020), (97, 1027), (98, 1040), (99, 1051), (100, 1060), (101, 1068), (102, 1095)], []⟩
def Make0_run (pc : List (BE × Bool)) : Rs V := evCall { cxb with pc := pc } 100000 8 [(.p (some (64, 0))), (.agg [(.sl (some (66, 0)) 4 4), (.sl (some (67, 0)) 8 8), (.sl none 0 0), (.sl (some (68, 0)) 1 1), (.sl (some (69, 0)) 1 1), (.sl (some (70, 0)) 8 8), (.b (.c false)), (.i .u32 (.c (.ofNat 0))), (.sl none 0 0), (.b (.c false)), (.i .u32 (.c (.ofNat 0))), (.sl (some (71, 0)) 8 8), (.sl none 0 0)]), (.s [(114, 1), (97, 1)])] (.mk t2 1000 .off)
def Make0_d : DL := (.leaf Make0_0)
def Inv0_0 : Lf := ⟨(.i .i64 (.c (.ofNat 0))), t4, [(103, 1009), (104, 1012), (105, 1011), (106, 1040), (107, 1038), (108, 1039), (109, 1034), (110, 1036)], []⟩
def Inv0_run (pc : List (BE × Bool)) : Rs V := evCall { cxb with pc := pc } 100000 10 [(.p (some (64, 0))), (.i .i64 (.c (.ofNat 0))), (.i .u64 (.c (.ofNat 0))), (.s [(105, 1), (110, 1), (99, 1)]), (.i .u64 (.c (.ofNat 0))), (.sl (some (990, 0)) 1 1)] (.mk (Tr.set t3 990 (.cells 43 1 true true [((.i .u64 (.c (.ofNat 0))), 1)])) 1000 .off)
def Inv0_d : DL := (.leaf Inv0_0)
def P1_0_0_0 : Lf := ⟨(.sl none 0 0), t6, [(111, 1015)], []⟩
def P1_0_0_run (pc : List (BE × Bool)) : Rs V := evCall { cxb with pc := pc } 100000 11 [(.p (some (64, 0))), (.i .i64 (.c (.ofNat 0))), (.i .i64 (.c (.ofNat 3)))] (.mk t4 1000 .off)
def P1_0_0_d : DL := (.leaf P1_0_0_0)
def P1_0_1_0 : Lf := ⟨(.sl (some (111, 0)) 1 1), t7, [(111, 1032), (112, 1027)], []⟩
def P1_0_1_run (pc : List (BE × Bool)) : Rs V := evCall { cxb with pc := pc } 100000 11 [(.p (some (64, 0))), (.i .i64 (.c (.ofNat 0))), (.i .i64 (.c (.ofNat 3)))] (.mk t6 1000 .off)
def P1_0_1_d : DL := (.leaf P1_0_1_0)
def P1_0_2_0 : Lf := ⟨(.sl none 0 0), t8, [], []⟩
def P1_0_2_run (pc : List (BE × Bool)) : Rs V := evCall { cxb with pc := pc } 100000 11 [(.p (some (64, 0))), (.i .i64 (.c (.ofNat 0))), (.i .i64 (.c (.ofNat 3)))] (.mk t8 1000 .off)
def P1_0_2_d : DL := (.leaf P1_0_2_0)
def Rooms1_0 : Lf := ⟨(.i .i64 (.c (.ofNat 1))), t0, [], []⟩
def Rooms1_run (pc : List (BE × Bool)) : Rs V := evCall { cxb with pc := pc } 100000 12 [(.p (some (64, 0)))] (.mk t5 1000 .off)
def Rooms1_d : DL := (.leaf Rooms1_0)
def Fixed1_0 : Lf := ⟨(.agg [(.sl (some (111, 0)) 4 4), (.sl (some (112, 0)) 8 8), (.sl none 0 0), (.sl (some (113, 0)) 1 1), (.sl (some (114, 0)) 1 1), (.sl (some (115, 0)) 8 8), (.b (.c false)), (.i .u32 (.c (.ofNat 0))), (.sl none 0 0), (.b (.c false)), (.i .u32 (.c (.ofNat 0))), (.sl (some (116, 0)) 8 8), (.sl none 0 0)]), t9, [(111, 1006), (112, 1012), (113, 1007), (114, 1009), (115, 1051), (116, 1053), (117, 1002), (118, 1003), (119, 1004), (120, 1005), (121, 1008), (122, 1013), (123, 1014), (124, 1015), (125, 1016), (126, 1017), (127, 1018), (128, 1019), (129, 1020)], []⟩
def Fixed1_run (pc : List (BE × Bool)) : Rs V := evCall { cxb with pc := pc } 100000 9 [] (.mk t4 1000 .off)
def Fixed1_d : DL := (.leaf Fixed1_0)
def Make1_0 : Lf := ⟨(.tup [(.i .i64 (.c (.ofNat 1))), (.i .i64 (.c (.ofNat 0)))]), t10, [(130, 1112), (131, 1110), (132, 1108), (133, 1006), (134, 1109), (135, 1102), (136, 1007), (137, 1106), (138, 1004), (139, 1005), (140, 1009), (141, 1020), (142, 1027), (143, 1040), (144, 1051), (145, 1060), (146, 1068), (147, 1095)], []⟩
def Make1_run (pc : List (BE × Bool)) : Rs V := evCall { cxb with pc := pc } 100000 8 [(.p (some (64, 0))), (.agg [(.sl (some (111, 0)) 4 4), (.sl (some (112, 0)) 8 8), (.sl none 0 0), (.sl (some (113, 0)) 1 1), (.sl (some (114, 0)) 1 1), (.sl (some (115, 0)) 8 8), (.b (.c false)), (.i .u32 (.c (.ofNat 0))), (.sl none 0 0), (.b (.c false)), (.i .u32 (.c (.ofNat 0))), (.sl (some (116, 0)) 8 8), (.sl none 0 0)]), (.s [(114, 1), (98, 1)])] (.mk t9 1000 .off)
def Make1_d : DL := (.leaf Make1_0)
def Inv1_0 : Lf := ⟨(.i .i64 (.c (.ofNat 0))), t11, [(148, 1009), (149, 1012), (150, 1011), (151, 1040), (152, 1038), (153, 1039), (154, 1034), (155, 1036)], []⟩
def Inv1_run (pc : List (BE × Bool)) : Rs V := evCall { cxb with pc := pc } 100000 10 [(.p (some (64, 0))), (.i .i64 (.c (.ofNat 1))), (.i .u64 (.c (.ofNat 1))), (.s [(105, 1), (110, 1), (99, 1)]), (.i .u64 (.c (.ofNat 0))), (.sl (some (990, 0)) 1 1)] (.mk (Tr.set t10 990 (.cells 43 1 true true [((.i .u64 (.c (.ofNat 10))), 1)])) 1000 .off)
def Inv1_d : DL := (.leaf Inv1_0)
def P2_0_0_0 : Lf := ⟨(.sl none 0 0), t14, [(156, 1015)], []⟩
def P2_0_0_run (pc : List (BE × Bool)) : Rs V := evCall { cxb with pc := pc } 100000 11 [(.p (some (64, 0))), (.i .i64 (.c (.ofNat 0))), (.i .i64 (.c (.ofNat 3)))] (.mk t13 1000 .off)
def P2_0_0_d : DL := (.leaf P2_0_0_0)
def P2_0_1_0 : Lf := ⟨(.sl (some (156, 0)) 1 1), t15, [(156, 1032), (157, 1027)], []⟩
def P2_0_1_run (pc : List (BE × Bool)) : Rs V := evCall { cxb with pc := pc } 100000 11 [(.p (some (64, 0))), (.i .i64 (.c (.ofNat 0))), (.i .i64 (.c (.ofNat 3)))] (.mk t14 1000 .off)
def P2_0_1_d : DL := (.leaf P2_0_1_0)
def P2_0_2_0 : Lf := ⟨(.sl none 0 0), t16, [], []⟩
def P2_0_2_run (pc : List (BE × Bool)) : Rs V := evCall { cxb with pc := pc } 100000 11 [(.p (some (64, 0))), (.i .i64 (.c (.ofNat 0))), (.i .i64 (.c (.ofNat 3)))] (.mk t16 1000 .off)
def P2_0_2_d : DL := (.leaf P2_0_2_0)
def P2_1_0_0 : Lf := ⟨(.sl none 0 0), t18, [(156, 1015)], []⟩
def P2_1_0_run (pc : List (BE × Bool)) : Rs V := evCall { cxb with pc := pc } 100000 11 [(.p (some (64, 0))), (.i .i64 (.c (.ofNat 1))), (.i .i64 (.c (.ofNat 3)))] (.mk t17 1000 .off)
def P2_1_0_d : DL := (.leaf P2_1_0_0)
def P2_1_1_0 : Lf := ⟨(.sl (some (156, 0)) 1 1), t19, [(156, 1032), (157, 1027)], []⟩
def P2_1_1_run (pc : List (BE × Bool)) : Rs V := evCall { cxb with pc := pc } 100000 11 [(.p (some (64, 0))), (.i .i64 (.c (.ofNat 1))), (.i .i64 (.c (.ofNat 3)))] (.mk t18 1000 .off)
def P2_1_1_d : DL := (.leaf P2_1_1_0)
def P2_1_2_0 : Lf := ⟨(.sl none 0 0), t20, [], []⟩
def P2_1_2_run (pc : List (BE × Bool)) : Rs V := evCall { cxb with pc := pc } 100000 11 [(.p (some (64, 0))), (.i .i64 (.c (.ofNat 1))), (.i .i64 (.c (.ofNat 3)))] (.mk t20 1000 .off)
def P2_1_2_d : DL := (.leaf P2_1_2_0)
def Rooms2_0 : Lf := ⟨(.i .i64 (.c (.ofNat 2))), t0, [], []⟩
def Rooms2_run (pc : List (BE × Bool)) : Rs V := evCall { cxb with pc := pc } 100000 12 [(.p (some (64, 0)))] (.mk t12 1000 .off)
def Rooms2_d : DL := (.leaf Rooms2_0)
def Fixed2_0 : Lf := ⟨(.agg [(.sl (some (156, 0)) 4 4), (.sl (some (157, 0)) 8 8), (.sl none 0 0), (.sl (some (158, 0)) 1 1), (.sl (some (159, 0)) 1 1), (.sl (some (160, 0)) 8 8), (.b (.c false)), (.i .u32 (.c (.ofNat 0))), (.sl none 0 0), (.b (.c false)), (.i .u32 (.c (.ofNat 0))), (.sl (some (161, 0)) 8 8), (.sl none 0 0)]), t21, [(156, 1006), (157, 1012), (158, 1007), (159, 1009), (160, 1051), (161, 1053), (162, 1002), (163, 1003), (164, 1004), (165, 1005), (166, 1008), (167, 1013), (168, 1014), (169, 1015), (170, 1016), (171, 1017), (172, 1018), (173, 1019), (174, 1020)], []⟩
def Fixed2_run (pc : List (BE × Bool)) : Rs V := evCall { cxb with pc := pc } 100000 9 [] (.mk t11 1000 .off)
def Fixed2_d : DL := (.leaf Fixed2_0)
def Make2_0 : Lf := ⟨(.tup [(.i .i64 (.c (.ofNat 2))), (.i .i64 (.c (.ofNat 0)))]), t22, [(175, 1112), (176, 1110), (177, 1108), (178, 1006), (179, 1109), (180, 1102), (181, 1007), (182, 1106), (183, 1004), (184, 1005), (185, 1009), (186, 1020), (187, 1027), (188, 1040), (189, 1051), (190, 1060), (191, 1068), (192, 1095)], []⟩
def Make2_run (pc : List (BE × Bool)) : Rs V := evCall { cxb with pc := pc } 100000 8 [(.p (some (64, 0))), (.agg [(.sl (some (156, 0)) 4 4), (.sl (some (157, 0)) 8 8), (.sl none 0 0), (.sl (some (158, 0)) 1 1), (.sl (some (159, 0)) 1 1), (.sl (some (160, 0)) 8 8), (.b (.c false)), (.i .u32 (.c (.ofNat 0))), (.sl none 0 0), (.b (.c false)), (.i .u32 (.c (.ofNat 0))), (.sl (some (161, 0)) 8 8), (.sl none 0 0)]), (.s [(114, 1), (99, 1)])] (.mk t21 1000 .off)
def Make2_d : DL := (.leaf Make2_0)
def Inv2_0 : Lf := ⟨(.i .i64 (.c (.ofNat 0))), t23, [(193, 1009), (194, 1012), (195, 1011), (196, 1040), (197, 1038), (198, 1039), (199, 1034), (200, 1036)], []⟩
def Inv2_run (pc : List (BE × Bool)) : Rs V := evCall { cxb with pc := pc } 100000 10 [(.p (some (64, 0))), (.i .i64 (.c (.ofNat 2))), (.i .u64 (.c (.ofNat 2))), (.s [(105, 1), (110, 1), (99, 1)]), (.i .u64 (.c (.ofNat 0))), (.sl (some (990, 0)) 1 1)] (.mk (Tr.set t22 990 (.cells 43 1 true true [((.i .u64 (.c (.ofNat 20))), 1)])) 1000 .off)
def Inv2_d : DL := (.leaf Inv2_0)
def P3_0_0_0 : Lf := ⟨(.sl none 0 0), t26, [(201, 1015)], []⟩
def P3_0_0_run (pc : List (BE × Bool)) : Rs V := evCall { cxb with pc := pc } 100000 11 [(.p (some (64, 0))), (.i .i64 (.c (.ofNat 0))), (.i .i64 (.c (.ofNat 3)))] (.mk t25 1000 .off)
def P3_0_0_d : DL := (.leaf P3_0_0_0)
def P3_0_1_0 : Lf := ⟨(.sl (some (201, 0)) 1 1), t27, [(201, 1032), (202, 1027)], []⟩
def P3_0_1_run (pc : List (BE × Bool)) : Rs V := evCall { cxb with pc := pc } 100000 11 [(.p (some (64, 0))), (.i .i64 (.c (.ofNat 0))), (.i .i64 (.c (.ofNat 3)))] (.mk t26 1000 .off)
def P3_0_1_d : DL := (.leaf P3_0_1_0)
def P3_0_2_0 : Lf := ⟨(.sl none 0 0), t28, [], []⟩
def P3_0_2_run (pc : List (BE × Bool)) : Rs V := evCall { cxb with pc := pc } 100000 11 [(.p (some (64, 0))), (.i .i64 (.c (.ofNat 0))), (.i .i64 (.c (.ofNat 3)))] (.mk t28 1000 .off)
def P3_0_2_d : DL := (.leaf P3_0_2_0)
def P3_1_0_0 : Lf := ⟨(.sl none 0 0), t30, [(201, 1015)], []⟩
def P3_1_0_run (pc : List (BE × Bool)) : Rs V := evCall { cxb with pc := pc } 100000 11 [(.p (some (64, 0))), (.i .i64 (.c (.ofNat 1))), (.i .i64 (.c (.ofNat 3)))] (.mk t29 1000 .off)
def P3_1_0_d : DL := (.leaf P3_1_0_0)
def P3_1_1_0 : Lf := ⟨(.sl (some (201, 0)) 1 1), t31, [(201, 1032), (202, 1027)], []⟩
def P3_1_1_run (pc : List (BE × Bool)) : Rs V := evCall { cxb with pc := pc } 100000 11 [(.p (some (64, 0))), (.i .i64 (.c (.ofNat 1))), (.i .i64 (.c (.ofNat 3)))] (.mk t30 1000 .off)
def P3_1_1_d : DL := (.leaf P3_1_1_0)
def P3_1_2_0 : Lf := ⟨(.sl none 0 0), t32, [], []⟩
def P3_1_2_run (pc : List (BE × Bool)) : Rs V := evCall { cxb with pc := pc } 100000 11 [(.p (some (64, 0))), (.i .i64 (.c (.ofNat 1))), (.i .i64 (.c (.ofNat 3)))] (.mk t32 1000 .off)
def P3_1_2_d : DL := (.leaf P3_1_2_0)
def P3_2_0_0 : Lf := ⟨(.sl none 0 0), t34, [(201, 1015)], []⟩
def P3_2_0_run (pc : List (BE × Bool)) : Rs V := evCall { cxb with pc := pc } 100000 11 [(.p (some (64, 0))), (.i .i64 (.c (.ofNat 2))), (.i .i64 (.c (.ofNat 3)))] (.mk t33 1000 .off)
def P3_2_0_d : DL := (.leaf P3_2_0_0)
def P3_2_1_0 : Lf := ⟨(.sl (some (201, 0)) 1 1), t35, [(201, 1032), (202, 1027)], []⟩
def P3_2_1_run (pc : List (BE × Bool)) : Rs V := evCall { cxb with pc := pc } 100000 11 [(.p (some (64, 0))), (.i .i64 (.c (.ofNat 2))), (.i .i64 (.c (.ofNat 3)))] (.mk t34 1000 .off)
def P3_2_1_d : DL := (.leaf P3_2_1_0)
def P3_2_2_0 : Lf := ⟨(.sl none 0 0), t36, [], []⟩
def P3_2_2_run (pc : List (BE × Bool)) : Rs V := evCall { cxb with pc := pc } 100000 11 [(.p (some (64, 0))), (.i .i64 (.c (.ofNat 2))), (.i .i64 (.c (.ofNat 3)))] (.mk t36 1000 .off)
def P3_2_2_d : DL := (.leaf P3_2_2_0)
def Rooms3_0 : Lf := ⟨(.i .i64 (.c (.ofNat 3))), t0, [], []⟩
def Rooms3_run (pc : List (BE × Bool)) : Rs V := evCall { cxb with pc := pc } 100000 12 [(.p (some (64, 0)))] (.mk t24 1000 .off)
def Rooms3_d : DL := (.leaf Rooms3_0)
def Fixed3_0 : Lf := ⟨(.agg [(.sl (some (201, 0)) 4 4), (.sl (some (202, 0)) 8 8), (.sl none 0 0), (.sl (some (203, 0)) 1 1), (.sl (some (204, 0)) 1 1), (.sl (some (205, 0)) 8 8), (.b (.c false)), (.i .u32 (.c (.ofNat 0))), (.sl none 0 0), (.b (.c false)), (.i .u32 (.c (.ofNat 0))), (.sl (some (206, 0)) 8 8), (.sl none 0 0)]), t37, [(201, 1006), (202, 1012), (203, 1007), (204, 1009), (205, 1051), (206, 1053), (207, 1002), (208, 1003), (209, 1004), (210, 1005), (211, 1008), (212, 1013), (213, 1014), (214, 1015), (215, 1016), (216, 1017), (217, 1018), (218, 1019), (219, 1020)], []⟩
def Fixed3_run (pc : List (BE × Bool)) : Rs V := evCall { cxb with pc := pc } 100000 9 [] (.mk t23 1000 .off)
def Fixed3_d : DL := (.leaf Fixed3_0)
def Make3_0 : Lf := ⟨(.tup [(.i .i64 (.c (.ofNat 3))), (.i .i64 (.c (.ofNat 0)))]), t38, [(220, 1112), (221, 1110), (222, 1108), (223, 1006), (224, 1109), (225, 1102), (226, 1007), (227, 1106), (228, 1004), (229, 1005), (230, 1009), (231, 1020), (232, 1027), (233, 1040), (234, 1051), (235, 1060), (236, 1068), (237, 1095)], []⟩
def Make3_run (pc : List (BE × Bool)) : Rs V := evCall { cxb with pc := pc } 100000 8 [(.p (some (64, 0))), (.agg [(.sl (some (201, 0)) 4 4), (.sl (some (202, 0)) 8 8), (.sl none 0 0), (.sl (some (203, 0)) 1 1), (.sl (some (204, 0)) 1 1), (.sl (some (205, 0)) 8 8), (.b (.c false)), (.i .u32 (.c (.ofNat 0))), (.sl none 0 0), (.b (.c false)), (.i .u32 (.c (.ofNat 0))), (.sl (some (206, 0)) 8 8), (.sl none 0 0)]), (.s [(114, 1), (100, 1)])] (.mk t37 1000 .off)
def Make3_d : DL := (.leaf Make3_0)
def Inv3_0 : Lf := ⟨(.i .i64 (.c (.ofNat 0))), t39, [(238, 1009), (239, 1012), (240, 1011), (241, 1040), (242, 1038), (243, 1039), (244, 1034), (245, 1036)], []⟩
def Inv3_run (pc : List (BE × Bool)) : Rs V := evCall { cxb with pc := pc } 100000 10 [(.p (some (64, 0))), (.i .i64 (.c (.ofNat 3))), (.i .u64 (.c (.ofNat 3))), (.s [(105, 1), (110, 1), (99, 1)]), (.i .u64 (.c (.ofNat 0))), (.sl (some (990, 0)) 1 1)] (.mk (Tr.set t38 990 (.cells 43 1 true true [((.i .u64 (.c (.ofNat 30))), 1)])) 1000 .off)
def Inv3_d : DL := (.leaf Inv3_0)
def P4_0_0_0 : Lf := ⟨(.sl none 0 0), t42, [(246, 1015)], []⟩
def P4_0_0_run (pc : List (BE × Bool)) : Rs V := evCall { cxb with pc := pc } 100000 11 [(.p (some (64, 0))), (.i .i64 (.c (.ofNat 0))), (.i .i64 (.c (.ofNat 3)))] (.mk t41 1000 .off)
def P4_0_0_d : DL := (.leaf P4_0_0_0)
def P4_0_1_0 : Lf := ⟨(.sl (some (246, 0)) 1 1), t43, [(246, 1032), (247, 1027)], []⟩
def P4_0_1_run (pc : List (BE × Bool)) : Rs V := evCall { cxb with pc := pc } 100000 11 [(.p (some (64, 0))), (.i .i64 (.c (.ofNat 0))), (.i .i64 (.c (.ofNat 3)))] (.mk t42 1000 .off)
def P4_0_1_d : DL := (.leaf P4_0_1_0)
def P4_0_2_0 : Lf := ⟨(.sl none 0 0), t44, [], []⟩
def P4_0_2_run (pc : List (BE × Bool)) : Rs V := evCall { cxb with pc := pc } 100000 11 [(.p (some (64, 0))), (.i .i64 (.c (.ofNat 0))), (.i .i64 (.c (.ofNat 3)))] (.mk t44 1000 .off)
def P4_0_2_d : DL := (.leaf P4_0_2_0)
def P4_1_0_0 : Lf := ⟨(.sl none 0 0), t46, [(246, 1015)], []⟩
def P4_1_0_run (pc : List (BE × Bool)) : Rs V := evCall { cxb with pc := pc } 100000 11 [(.p (some (64, 0))), (.i .i64 (.c (.ofNat 1))), (.i .i64 (.c (.ofNat 3)))] (.mk t45 1000 .off)
def P4_1_0_d : DL := (.leaf P4_1_0_0)
def P4_1_1_0 : Lf := ⟨(.sl (some (246, 0)) 1 1), t47, [(246, 1032), (247, 1027)], []⟩
def P4_1_1_run (pc : List (BE × Bool)) : Rs V := evCall { cxb with pc := pc } 100000 11 [(.p (some (64, 0))), (.i .i64 (.c (.ofNat 1))), (.i .i64 (.c (.ofNat 3)))] (.mk t46 1000 .off)
def P4_1_1_d : DL := (.leaf P4_1_1_0)
def P4_1_2_0 : Lf := ⟨(.sl none 0 0), t48, [], []⟩
def P4_1_2_run (pc : List (BE × Bool)) : Rs V := evCall { cxb with pc := pc } 100000 11 [(.p (some (64, 0))), (.i .i64 (.c (.ofNat 1))), (.i .i64 (.c (.ofNat 3)))] (.mk t48 1000 .off)
def P4_1_2_d : DL := (.leaf P4_1_2_0)
def P4_2_0_0 : Lf := ⟨(.sl none 0 0), t50, [(246, 1015)], []⟩
def P4_2_0_run (pc : List (BE × Bool)) : Rs V := evCall { cxb with pc := pc } 100000 11 [(.p (some (64, 0))), (.i .i64 (.c (.ofNat 2))), (.i .i64 (.c (.ofNat 3)))] (.mk t49 1000 .off)
def P4_2_0_d : DL := (.leaf P4_2_0_0)
def P4_2_1_0 : Lf := ⟨(.sl (some (246, 0)) 1 1), t51, [(246, 1032), (247, 1027)], []⟩
def P4_2_1_run (pc : List (BE × Bool)) : Rs V := evCall { cxb with pc := pc } 100000 11 [(.p (some (64, 0))), (.i .i64 (.c (.ofNat 2))), (.i .i64 (.c (.ofNat 3)))] (.mk t50 1000 .off)
def P4_2_1_d : DL := (.leaf P4_2_1_0)
def P4_2_2_0 : Lf := ⟨(.sl none 0 0), t52, [], []⟩
def P4_2_2_run (pc : List (BE × Bool)) : Rs V := evCall { cxb with pc := pc } 100000 11 [(.p (some (64, 0))), (.i .i64 (.c (.ofNat 2))), (.i .i64 (.c (.ofNat 3)))] (.mk t52 1000 .off)
def P4_2_2_d : DL := (.leaf P4_2_2_0)
def P4_3_0_0 : Lf := ⟨(.sl none 0 0), t54, [(246, 1015)], []⟩
def P4_3_0_run (pc : List (BE × Bool)) : Rs V := evCall { cxb with pc := pc } 100000 11 [(.p (some (64, 0))), (.i .i64 (.c (.ofNat 3))), (.i .i64 (.c (.ofNat 3)))] (.mk t53 1000 .off)
def P4_3_0_d : DL := (.leaf P4_3_0_0)
def P4_3_1_0 : Lf := ⟨(.sl (some (246, 0)) 1 1), t55, [(246, 1032), (247, 1027)], []⟩
def P4_3_1_run (pc : List (BE × Bool)) : Rs V := evCall { cxb with pc := pc } 100000 11 [(.p (some (64, 0))), (.i .i64 (.c (.ofNat 3))), (.i .i64 (.c (.ofNat 3)))] (.mk t54 1000 .off)
def P4_3_1_d : DL := (.leaf P4_3_1_0)
def P4_3_2_0 : Lf := ⟨(.sl none 0 0), t56, [], []⟩
def P4_3_2_run (pc : List (BE × Bool)) : Rs V := evCall { cxb with pc := pc } 100000 11 [(.p (some (64, 0))), (.i .i64 (.c (.ofNat 3))), (.i .i64 (.c (.ofNat 3)))] (.mk t56 1000 .off)
def P4_3_2_d : DL := (.leaf P4_3_2_0)
def Rooms4_0 : Lf := ⟨(.i .i64 (.c (.ofNat 4))), t0, [], []⟩
def Rooms4_run (pc : List (BE × Bool)) : Rs V := evCall { cxb with pc := pc } 100000 12 [(.p (some (64, 0)))] (.mk t40 1000 .off)
def Rooms4_d : DL := (.leaf Rooms4_0)
def Fixed4_0 : Lf := ⟨(.agg [(.sl (some (246, 0)) 4 4), (.sl (some (247, 0)) 8 8), (.sl none 0 0), (.sl (some (248, 0)) 1 1), (.sl (some (249, 0)) 1 1), (.sl (some (250, 0)) 8 8), (.b (.c false)), (.i .u32 (.c (.ofNat 0))), (.sl none 0 0), (.b (.c false)), (.i .u32 (.c (.ofNat 0))), (.sl (some (251, 0)) 8 8), (.sl none 0 0)]), t57, [(246, 1006), (247, 1012), (248, 1007), (249, 1009), (250, 1051), (251, 1053), (252, 1002), (253, 1003), (254, 1004), (255, 1005), (256, 1008), (257, 1013), (258, 1014), (259, 1015), (260, 1016), (261, 1017), (262, 1018), (263, 1019), (264, 1020)], []⟩
def Fixed4_run (pc : List (BE × Bool)) : Rs V := evCall { cxb with pc := pc } 100000 9 [] (.mk t39 1000 .off)
def Fixed4_d : DL := (.leaf Fixed4_0)
def Make4_0 : Lf := ⟨(.tup [(.i .i64 (.c (.ofNat 4))), (.i .i64 (.c (.ofNat 0)))]), t58, [(265, 1112), (266, 1110), (267, 1108), (268, 1006), (269, 1109), (270, 1102), (271, 1007), (272, 1106), (273, 1004), (274, 1005), (275, 1009), (276, 1020), (277, 1027), (278, 1040), (279, 1051), (280, 1060), (281, 1068), (282, 1095)], []⟩
def Make4_run (pc : List (BE × Bool)) : Rs V := evCall { cxb with pc := pc } 100000 8 [(.p (some (64, 0))), (.agg [(.sl (some (246, 0)) 4 4), (.sl (some (247, 0)) 8 8), (.sl none 0 0), (.sl (some (248, 0)) 1 1), (.sl (some (249, 0)) 1 1), (.sl (some (250, 0)) 8 8), (.b (.c false)), (.i .u32 (.c (.ofNat 0))), (.sl none 0 0), (.b (.c false)), (.i .u32 (.c (.ofNat 0))), (.sl (some (251, 0)) 8 8), (.sl none 0 0)]), (.s [(114, 1), (101, 1)])] (.mk t57 1000 .off)
def Make4_d : DL := (.leaf Make4_0)
def Inv4_0 : Lf := ⟨(.i .i64 (.c (.ofNat 0))), t59, [(283, 1009), (284, 1012), (285, 1011), (286, 1040), (287, 1038), (288, 1039), (289, 1034), (290, 1036)], []⟩
def Inv4_run (pc : List (BE × Bool)) : Rs V := evCall { cxb with pc := pc } 100000 10 [(.p (some (64, 0))), (.i .i64 (.c (.ofNat 4))), (.i .u64 (.c (.ofNat 4))), (.s [(105, 1), (110, 1), (99, 1)]), (.i .u64 (.c (.ofNat 0))), (.sl (some (990, 0)) 1 1)] (.mk (Tr.set t58 990 (.cells 43 1 true true [((.i .u64 (.c (.ofNat 40))), 1)])) 1000 .off)
def Inv4_d : DL := (.leaf Inv4_0)
def P5_0_0_0 : Lf := ⟨(.sl none 0 0), t62, [(291, 1015)], []⟩
def P5_0_0_run (pc : List (BE × Bool)) : Rs V := evCall { cxb with pc := pc } 100000 11 [(.p (some (64, 0))), (.i .i64 (.c (.ofNat 0))), (.i .i64 (.c (.ofNat 3)))] (.mk t61 1000 .off)
def P5_0_0_d : DL := (.leaf P5_0_0_0)
def P5_0_1_0 : Lf := ⟨(.sl (some (291, 0)) 1 1), t63, [(291, 1032), (292, 1027)], []⟩
def P5_0_1_run (pc : List (BE × Bool)) : Rs V := evCall { cxb with pc := pc } 100000 11 [(.p (some (64, 0))), (.i .i64 (.c (.ofNat 0))), (.i .i64 (.c (.ofNat 3)))] (.mk t62 1000 .off)
def P5_0_1_d : DL := (.leaf P5_0_1_0)
def P5_0_2_0 : Lf := ⟨(.sl none 0 0), t64, [], []⟩
def P5_0_2_run (pc : List (BE × Bool)) : Rs V := evCall { cxb with pc := pc } 100000 11 [(.p (some (64, 0))), (.i .i64 (.c (.ofNat 0))), (.i .i64 (.c (.ofNat 3)))] (.mk t64 1000 .off)
def P5_0_2_d : DL := (.leaf P5_0_2_0)
def P5_1_0_0 : Lf := ⟨(.sl none 0 0), t66, [(291, 1015)], []⟩
def P5_1_0_run (pc : List (BE × Bool)) : Rs V := evCall { cxb with pc := pc } 100000 11 [(.p (some (64, 0))), (.i .i64 (.c (.ofNat 1))), (.i .i64 (.c (.ofNat 3)))] (.mk t65 1000 .off)
def P5_1_0_d : DL := (.leaf P5_1_0_0)
def P5_1_1_0 : Lf := ⟨(.sl (some (291, 0)) 1 1), t67, [(291, 1032), (292, 1027)], []⟩
def P5_1_1_run (pc : List (BE × Bool)) : Rs V := evCall { cxb with pc := pc } 100000 11 [(.p (some (64, 0))), (.i .i64 (.c (.ofNat 1))), (.i .i64 (.c (.ofNat 3)))] (.mk t66 1000 .off)
def P5_1_1_d : DL := (.leaf P5_1_1_0)
def P5_1_2_0 : Lf := ⟨(.sl none 0 0), t68, [], []⟩
def P5_1_2_run (pc : List (BE × Bool)) : Rs V := evCall { cxb with pc := pc } 100000 11 [(.p (some (64, 0))), (.i .i64 (.c (.ofNat 1))), (.i .i64 (.c (.ofNat 3)))] (.mk t68 1000 .off)
def P5_1_2_d : DL := (.leaf P5_1_2_0)
def P5_2_0_0 : Lf := ⟨(.sl none 0 0), t70, [(291, 1015)], []⟩
def P5_2_0_run (pc : List (BE × Bool)) : Rs V := evCall { cxb with pc := pc } 100000 11 [(.p (some (64, 0))), (.i .i64 (.c (.ofNat 2))), (.i .i64 (.c (.ofNat 3)))] (.mk t69 1000 .off)
def P5_2_0_d : DL := (.leaf P5_2_0_0)
def P5_2_1_0 : Lf := ⟨(.sl (some (291, 0)) 1 1), t71, [(291, 1032), (292, 1027)], []⟩
def P5_2_1_run (pc : List (BE × Bool)) : Rs V := evCall { cxb with pc := pc } 100000 11 [(.p (some (64, 0))), (.i .i64 (.c (.ofNat 2))), (.i .i64 (.c (.ofNat 3)))] (.mk t70 1000 .off)
def P5_2_1_d : DL := (.leaf P5_2_1_0)
def P5_2_2_0 : Lf := ⟨(.sl none 0 0), t72, [], []⟩
def P5_2_2_run (pc : List (BE × Bool)) : Rs V := evCall { cxb with pc := pc } 100000 11 [(.p (some (64, 0))), (.i .i64 (.c (.ofNat 2))), (.i .i64 (.c (.ofNat 3)))] (.mk t72 1000 .off)
def P5_2_2_d : DL := (.leaf P5_2_2_0)
def P5_3_0_0 : Lf := ⟨(.sl none 0 0), t74, [(291, 1015)], []⟩
def P5_3_0_run (pc : List (BE × Bool)) : Rs V := evCall { cxb with pc := pc } 100000 11 [(.p (some (64, 0))), (.i .i64 (.c (.ofNat 3))), (.i .i64 (.c (.ofNat 3)))] (.mk t73 1000 .off)
def P5_3_0_d : DL := (.leaf P5_3_0_0)
def P5_3_1_0 : Lf := ⟨(.sl (some (291, 0)) 1 1), t75, [(291, 1032), (292, 1027)], []⟩
def P5_3_1_run (pc : List (BE × Bool)) : Rs V := evCall { cxb with pc := pc } 100000 11 [(.p (some (64, 0))), (.i .i64 (.c (.ofNat 3))), (.i .i64 (.c (.ofNat 3)))] (.mk t74 1000 .off)
def P5_3_1_d : DL := (.leaf P5_3_1_0)
def P5_3_2_0 : Lf := ⟨(.sl none 0 0), t76, [], []⟩
def P5_3_2_run (pc : List (BE × Bool)) : Rs V := evCall { cxb with pc := pc } 100000 11 [(.p (some (64, 0))), (.i .i64 (.c (.ofNat 3))), (.i .i64 (.c (.ofNat 3)))] (.mk t76 1000 .off)
def P5_3_2_d : DL := (.leaf P5_3_2_0)
def P5_4_0_0 : Lf := ⟨(.sl none 0 0), t78, [(291, 1015)], []⟩
def P5_4_0_run (pc : List (BE × Bool)) : Rs V := evCall { cxb with pc := pc } 100000 11 [(.p (some (64, 0))), (.i .i64 (.c (.ofNat 4))), (.i .i64 (.c (.ofNat 3)))] (.mk t77 1000 .off)
def P5_4_0_d : DL := (.leaf P5_4_0_0)
def P5_4_1_0 : Lf := ⟨(.sl (some (291, 0)) 1 1), t79, [(291, 1032), (292, 1027)], []⟩
def P5_4_1_run (pc : List (BE × Bool)) : Rs V := evCall { cxb with pc := pc } 100000 11 [(.p (some (64, 0))), (.i .i64 (.c (.ofNat 4))), (.i .i64 (.c (.ofNat 3)))] (.mk t78 1000 .off)
def P5_4_1_d : DL := (.leaf P5_4_1_0)
def P5_4_2_0 : Lf := ⟨(.sl none 0 0), t80, [], []⟩
def P5_4_2_run (pc : List (BE × Bool)) : Rs V := evCall { cxb with pc := pc } 100000 11 [(.p (some (64, 0))), (.i .i64 (.c (.ofNat 4))), (.i .i64 (.c (.ofNat 3)))] (.mk t80 1000 .off)
def P5_4_2_d : DL := (.leaf P5_4_2_0)
def Rooms5_0 : Lf := ⟨(.i .i64 (.c (.ofNat 5))), t0, [], []⟩
def Rooms5_run (pc : List (BE × Bool)) : Rs V := evCall { cxb with pc := pc } 100000 12 [(.p (some (64, 0)))] (.mk t60 1000 .off)
def Rooms5_d : DL := (.leaf Rooms5_0)
def Fixed5_0 : Lf := ⟨(.agg [(.sl (some (291, 0)) 4 4), (.sl (some (292, 0)) 8 8), (.sl none 0 0), (.sl (some (293, 0)) 1 1), (.sl (some (294, 0)) 1 1), (.sl (some (295, 0)) 8 8), (.b (.c false)), (.i .u32 (.c (.ofNat 0))), (.sl none 0 0), (.b (.c false)), (.i .u32 (.c (.ofNat 0))), (.sl (some (296, 0)) 8 8), (.sl none 0 0)]), t81, [(291, 1006), (292, 1012), (293, 1007), (294, 1009), (295, 1051), (296, 1053), (297, 1002), (298, 1003), (299, 1004), (300, 1005), (301, 1008), (302, 1013), (303, 1014), (304, 1015), (305, 1016), (306, 1017), (307, 1018), (308, 1019), (309, 1020)], []⟩
def Fixed5_run (pc : List (BE × Bool)) : Rs V := evCall { cxb with pc := pc } 100000 9 [] (.mk t59 1000 .off)
def Fixed5_d : DL := (.leaf Fixed5_0)
def Make5_0 : Lf := ⟨(.tup [(.i .i64 (.c (.ofNat 5))), (.i .i64 (.c (.ofNat 0)))]), t82, [(310, 1112), (311, 1110), (312, 1108), (313, 1006), (314, 1109), (315, 1102), (316, 1007), (317, 1106), (318, 1004), (319, 1005), (320, 1009), (321, 1020), (322, 1027), (323, 1040), (324, 1051), (325, 1060), (326, 1068), (327, 1095)], []⟩
def Make5_run (pc : List (BE × Bool)) : Rs V := evCall { cxb with pc := pc } 100000 8 [(.p (some (64, 0))), (.agg [(.sl (some (291, 0)) 4 4), (.sl (some (292, 0)) 8 8), (.sl none 0 0), (.sl (some (293, 0)) 1 1), (.sl (some (294, 0)) 1 1), (.sl (some (295, 0)) 8 8), (.b (.c false)), (.i .u32 (.c (.ofNat 0))), (.sl none 0 0), (.b (.c false)), (.i .u32 (.c (.ofNat 0))), (.sl (some (296, 0)) 8 8), (.sl none 0 0)]), (.s [(114, 1), (102, 1)])] (.mk t81 1000 .off)
def Make5_d : DL := (.leaf Make5_0)
def Inv5_0 : Lf := ⟨(.i .i64 (.c (.ofNat 0))), t83, [(328, 1009), (329, 1012), (330, 1011), (331, 1040), (332, 1038), (333, 1039), (334, 1034), (335, 1036)], []⟩
def Inv5_run (pc : List (BE × Bool)) : Rs V := evCall { cxb with pc := pc } 100000 10 [(.p (some (64, 0))), (.i .i64 (.c (.ofNat 5))), (.i .u64 (.c (.ofNat 5))), (.s [(105, 1), (110, 1), (99, 1)]), (.i .u64 (.c (.ofNat 0))), (.sl (some (990, 0)) 1 1)] (.mk (Tr.set t82 990 (.cells 43 1 true true [((.i .u64 (.c (.ofNat 50))), 1)])) 1000 .off)
def Inv5_d : DL := (.leaf Inv5_0)
def P6_0_0_0 : Lf := ⟨(.sl none 0 0), t86, [(336, 1015)], []⟩
def P6_0_0_run (pc : List (BE × Bool)) : Rs V := evCall { cxb with pc := pc } 100000 11 [(.p (some (64, 0))), (.i .i64 (.c (.ofNat 0))), (.i .i64 (.c (.ofNat 3)))] (.mk t85 1000 .off)
def P6_0_0_d : DL := (.leaf P6_0_0_0)
def P6_0_1_0 : Lf := ⟨(.sl (some (336, 0)) 1 1), t87, [(336, 1032), (337, 1027)], []⟩
def P6_0_1_run (pc : List (BE × Bool)) : Rs V := evCall { cxb with pc := pc } 100000 11 [(.p (some (64, 0))), (.i .i64 (.c (.ofNat 0))), (.i .i64 (.c (.ofNat 3)))] (.mk t86 1000 .off)
def P6_0_1_d : DL := (.leaf P6_0_1_0)
def P6_0_2_0 : Lf := ⟨(.sl none 0 0), t88, [], []⟩
def P6_0_2_run (pc : List (BE × Bool)) : Rs V := evCall { cxb with pc := pc } 100000 11 [(.p (some (64, 0))), (.i .i64 (.c (.ofNat 0))), (.i .i64 (.c (.ofNat 3)))] (.mk t88 1000 .off)
def P6_0_2_d : DL := (.leaf P6_0_2_0)
def P6_1_0_0 : Lf := ⟨(.sl none 0 0), t90, [(336, 1015)], []⟩
def P6_1_0_run (pc : List (BE × Bool)) : Rs V := evCall { cxb with pc := pc } 100000 11 [(.p (some (64, 0))), (.i .i64 (.c (.ofNat 1))), (.i .i64 (.c (.ofNat 3)))] (.mk t89 1000 .off)
def P6_1_0_d : DL := (.leaf P6_1_0_0)
def P6_1_1_0 : Lf := ⟨(.sl (some (336, 0)) 1 1), t91, [(336, 1032), (337, 1027)], []⟩
def P6_1_1_run (pc : List (BE × Bool)) : Rs V := evCall { cxb with pc := pc } 100000 11 [(.p (some (64, 0))), (.i .i64 (.c (.ofNat 1))), (.i .i64 (.c (.ofNat 3)))] (.mk t90 1000 .off)
def P6_1_1_d : DL := (.leaf P6_1_1_0)
def P6_1_2_0 : Lf := ⟨(.sl none 0 0), t92, [], []⟩
def P6_1_2_run (pc : List (BE × Bool)) : Rs V := evCall { cxb with pc := pc } 100000 11 [(.p (some (64, 0))), (.i .i64 (.c (.ofNat 1))), (.i .i64 (.c (.ofNat 3)))] (.mk t92 1000 .off)
def P6_1_2_d : DL := (.leaf P6_1_2_0)
def P6_2_0_0 : Lf := ⟨(.sl none 0 0), t94, [(336, 1015)], []⟩
def P6_2_0_run (pc : List (BE × Bool)) : Rs V := evCall { cxb with pc := pc } 100000 11 [(.p (some (64, 0))), (.i .i64 (.c (.ofNat 2))), (.i .i64 (.c (.ofNat 3)))] (.mk t93 1000 .off)
def P6_2_0_d : DL := (.leaf P6_2_0_0)
def P6_2_1_0 : Lf := ⟨(.sl (some (336, 0)) 1 1), t95, [(336, 1032), (337, 1027)], []⟩
def P6_2_1_run (pc : List (BE × Bool)) : Rs V := evCall { cxb with pc := pc } 100000 11 [(.p (some (64, 0))), (.i .i64 (.c (.ofNat 2))), (.i .i64 (.c (.ofNat 3)))] (.mk t94 1000 .off)
def P6_2_1_d : DL := (.leaf P6_2_1_0)
def P6_2_2_0 : Lf := ⟨(.sl none 0 0), t96, [], []⟩
def P6_2_2_run (pc : List (BE × Bool)) : Rs V := evCall { cxb with pc := pc } 100000 11 [(.p (some (64, 0))), (.i .i64 (.c (.ofNat 2))), (.i .i64 (.c (.ofNat 3)))] (.mk t96 1000 .off)
def P6_2_2_d : DL := (.leaf P6_2_2_0)
def P6_3_0_0 : Lf := ⟨(.sl none 0 0), t98, [(336, 1015)], []⟩
def P6_3_0_run (pc : List (BE × Bool)) : Rs V := evCall { cxb with pc := pc } 100000 11 [(.p (some (64, 0))), (.i .i64 (.c (.ofNat 3))), (.i .i64 (.c (.ofNat 3)))] (.mk t97 1000 .off)
def P6_3_0_d : DL := (.leaf P6_3_0_0)
def P6_3_1_0 : Lf := ⟨(.sl (some (336, 0)) 1 1), t99, [(336, 1032), (337, 1027)], []⟩
def P6_3_1_run (pc : List (BE × Bool)) : Rs V := evCall { cxb with pc := pc } 100000 11 [(.p (some (64, 0))), (.i .i64 (.c (.ofNat 3))), (.i .i64 (.c (.ofNat 3)))] (.mk t98 1000 .off)
def P6_3_1_d : DL := (.leaf P6_3_1_0)
def P6_3_2_0 : Lf := ⟨(.sl none 0 0), t100, [], []⟩
def P6_3_2_run (pc : List (BE × Bool)) : Rs V := evCall { cxb with pc := pc } 100000 11 [(.p (some (64, 0))), (.i .i64 (.c (.ofNat 3))), (.i .i64 (.c (.ofNat 3)))] (.mk t100 1000 .off)
def P6_3_2_d : DL := (.leaf P6_3_2_0)
def P6_4_0_0 : Lf := ⟨(.sl none 0 0), t102, [(336, 1015)], []⟩
def P6_4_0_run (pc : List (BE × Bool)) : Rs V := evCall { cxb with pc := pc } 100000 11 [(.p (some (64, 0))), (.i .i64 (.c (.ofNat 4))), (.i .i64 (.c (.ofNat 3)))] (.mk t101 1000 .off)
def P6_4_0_d : DL := (.leaf P6_4_0_0)
def P6_4_1_0 : Lf := ⟨(.sl (some (336, 0)) 1 1), t103, [(336, 1032), (337, 1027)], []⟩
def P6_4_1_run (pc : List (BE × Bool)) : Rs V := evCall { cxb with pc := pc } 100000 11 [(.p (some (64, 0))), (.i .i64 (.c (.ofNat 4))), (.i .i64 (.c (.ofNat 3)))] (.mk t102 1000 .off)
def P6_4_1_d : DL := (.leaf P6_4_1_0)
def P6_4_2_0 : Lf := ⟨(.sl none 0 0), t104, [], []⟩
def P6_4_2_run (pc : List (BE × Bool)) : Rs V := evCall { cxb with pc := pc } 100000 11 [(.p (some (64, 0))), (.i .i64 (.c (.ofNat 4))), (.i .i64 (.c (.ofNat 3)))] (.mk t104 1000 .off)
def P6_4_2_d : DL := (.leaf P6_4_2_0)
def P6_5_0_0 : Lf := ⟨(.sl none 0 0), t106, [(336, 1015)], []⟩
def P6_5_0_run (pc : List (BE × Bool)) : Rs V := evCall { cxb with pc := pc } 100000 11 [(.p (some (64, 0))), (.i .i64 (.c (.ofNat 5))), (.i .i64 (.c (.ofNat 3)))] (.mk t105 1000 .off)
def P6_5_0_d : DL := (.leaf P6_5_0_0)
def P6_5_1_0 : Lf := ⟨(.sl (some (336, 0)) 1 1), t107, [(336, 1032), (337, 1027)], []⟩
def P6_5_1_run (pc : List (BE × Bool)) : Rs V := evCall { cxb with pc := pc } 100000 11 [(.p (some (64, 0))), (.i .i64 (.c (.ofNat 5))), (.i .i64 (.c (.ofNat 3)))] (.mk t106 1000 .off)
def P6_5_1_d : DL := (.leaf P6_5_1_0)
def P6_5_2_0 : Lf := ⟨(.sl none 0 0), t108, [], []⟩
def P6_5_2_run (pc : List (BE × Bool)) : Rs V := evCall { cxb with pc := pc } 100000 11 [(.p (some (64, 0))), (.i .i64 (.c (.ofNat 5))), (.i .i64 (.c (.ofNat 3)))] (.mk t108 1000 .off)
def P6_5_2_d : DL := (.leaf P6_5_2_0)
def Rooms6_0 : Lf := ⟨(.i .i64 (.c (.ofNat 6))), t0, [], []⟩
def Rooms6_run (pc : List (BE × Bool)) : Rs V := evCall { cxb with pc := pc } 100000 12 [(.p (some (64, 0)))] (.mk t84 1000 .off)
def Rooms6_d : DL := (.leaf Rooms6_0)
def Fixed6_0 : Lf := ⟨(.agg [(.sl (some (336, 0)) 4 4), (.sl (some (337, 0)) 8 8), (.sl none 0 0), (.sl (some (338, 0)) 1 1), (.sl (some (339, 0)) 1 1), (.sl (some (340, 0)) 8 8), (.b (.c false)), (.i .u32 (.c (.ofNat 0))), (.sl none 0 0), (.b (.c false)), (.i .u32 (.c (.ofNat 0))), (.sl (some (341, 0)) 8 8), (.sl none 0 0)]), t109, [(336, 1006), (337, 1012), (338, 1007), (339, 1009), (340, 1051), (341, 1053), (342, 1002), (343, 1003), (344, 1004), (345, 1005), (346, 1008), (347, 1013), (348, 1014), (349, 1015), (350, 1016), (351, 1017), (352, 1018), (353, 1019), (354, 1020)], []⟩
def Fixed6_run (pc : List (BE × Bool)) : Rs V := evCall { cxb with pc := pc } 100000 9 [] (.mk t83 1000 .off)
def Fixed6_d : DL := (.leaf Fixed6_0)
def Make6_0 : Lf := ⟨(.tup [(.i .i64 (.c (.ofNat 6))), (.i .i64 (.c (.ofNat 0)))]), t110, [(355, 1112), (356, 1110), (357, 1108), (358, 1006), (359, 1109), (360, 1102), (361, 1007), (362, 1106), (363, 1004), (364, 1005), (365, 1009), (366, 1020), (367, 1027), (368, 1040), (369, 1051), (370, 1060), (371, 1068), (372, 1095)], []⟩
def Make6_run (pc : List (BE × Bool)) : Rs V := evCall { cxb with pc := pc } 100000 8 [(.p (some (64, 0))), (.agg [(.sl (some (336, 0)) 4 4), (.sl (some (337, 0)) 8 8), (.sl none 0 0), (.sl (some (338, 0)) 1 1), (.sl (some (339, 0)) 1 1), (.sl (some (340, 0)) 8 8), (.b (.c false)), (.i .u32 (.c (.ofNat 0))), (.sl none 0 0), (.b (.c false)), (.i .u32 (.c (.ofNat 0))), (.sl (some (341, 0)) 8 8), (.sl none 0 0)]), (.s [(114, 1), (103, 1)])] (.mk t109 1000 .off)
def Make6_d : DL := (.leaf Make6_0)
def Inv6_0 : Lf := ⟨(.i .i64 (.c (.ofNat 0))), t111, [(373, 1009), (374, 1012), (375, 1011), (376, 1040), (377, 1038), (378, 1039), (379, 1034), (380, 1036)], []⟩
def Inv6_run (pc : List (BE × Bool)) : Rs V := evCall { cxb with pc := pc } 100000 10 [(.p (some (64, 0))), (.i .i64 (.c (.ofNat 6))), (.i .u64 (.c (.ofNat 6))), (.s [(105, 1), (110, 1), (99, 1)]), (.i .u64 (.c (.ofNat 0))), (.sl (some (990, 0)) 1 1)] (.mk (Tr.set t110 990 (.cells 43 1 true true [((.i .u64 (.c (.ofNat 60))), 1)])) 1000 .off)
def Inv6_d : DL := (.leaf Inv6_0)
def P7_0_0_0 : Lf := ⟨(.sl none 0 0), t114, [(381, 1015)], []⟩
def P7_0_0_run (pc : List (BE × Bool)) : Rs V := evCall { cxb with pc := pc } 100000 11 [(.p (some (64, 0))), (.i .i64 (.c (.ofNat 0))), (.i .i64 (.c (.ofNat 3)))] (.mk t113 1000 .off)
def P7_0_0_d : DL := (.leaf P7_0_0_0)
def P7_0_1_0 : Lf := ⟨(.sl (some (381, 0)) 1 1), t115, [(381, 1032), (382, 1027)], []⟩
def P7_0_1_run (pc : List (BE × Bool)) : Rs V := evCall { cxb with pc := pc } 100000 11 [(.p (some (64, 0))), (.i .i64 (.c (.ofNat 0))), (.i .i64 (.c (.ofNat 3)))] (.mk t114 1000 .off)
def P7_0_1_d : DL := (.leaf P7_0_1_0)
def P7_0_2_0 : Lf := ⟨(.sl none 0 0), t116, [], []⟩
def P7_0_2_run (pc : List (BE × Bool)) : Rs V := evCall { cxb with pc := pc } 100000 11 [(.p (some (64, 0))), (.i .i64 (.c (.ofNat 0))), (.i .i64 (.c (.ofNat 3)))] (.mk t116 1000 .off)
def P7_0_2_d : DL := (.leaf P7_0_2_0)
def P7_1_0_0 : Lf := ⟨(.sl none 0 0), t118, [(381, 1015)], []⟩
def P7_1_0_run (pc : List (BE × Bool)) : Rs V := evCall { cxb with pc := pc } 100000 11 [(.p (some (64, 0))), (.i .i64 (.c (.ofNat 1))), (.i .i64 (.c (.ofNat 3)))] (.mk t117 1000 .off)
def P7_1_0_d : DL := (.leaf P7_1_0_0)
def P7_1_1_0 : Lf := ⟨(.sl (some (381, 0)) 1 1), t119, [(381, 1032), (382, 1027)], []⟩
def P7_1_1_run (pc : List (BE × Bool)) : Rs V := evCall { cxb with pc := pc } 100000 11 [(.p (some (64, 0))), (.i .i64 (.c (.ofNat 1))), (.i .i64 (.c (.ofNat 3)))] (.mk t118 1000 .off)
def P7_1_1_d : DL := (.leaf P7_1_1_0)
def P7_1_2_0 : Lf := ⟨(.sl none 0 0), t120, [], []⟩
def P7_1_2_run (pc : List (BE × Bool)) : Rs V := evCall { cxb with pc := pc } 100000 11 [(.p (some (64, 0))), (.i .i64 (.c (.ofNat 1))), (.i .i64 (.c (.ofNat 3)))] (.mk t120 1000 .off)
def P7_1_2_d : DL := (.leaf P7_1_2_0)
def P7_2_0_0 : Lf := ⟨(.sl none 0 0), t122, [(381, 1015)], []⟩
def P7_2_0_run (pc : List (BE × Bool)) : Rs V := evCall { cxb with pc := pc } 100000 11 [(.p (some (64, 0))), (.i .i64 (.c (.ofNat 2))), (.i .i64 (.c (.ofNat 3)))] (.mk t121 1000 .off)
def P7_2_0_d : DL := (.leaf P7_2_0_0)
def P7_2_1_0 : Lf := ⟨(.sl (some (381, 0)) 1 1), t123, [(381, 1032), (382, 1027)], []⟩
def P7_2_1_run (pc : List (BE × Bool)) : Rs V := evCall { cxb with pc := pc } 100000 11 [(.p (some (64, 0))), (.i .i64 (.c (.ofNat 2))), (.i .i64 (.c (.ofNat 3)))] (.mk t122 1000 .off)
def P7_2_1_d : DL := (.leaf P7_2_1_0)
def P7_2_2_0 : Lf := ⟨(.sl none 0 0), t124, [], []⟩
def P7_2_2_run (pc : List (BE × Bool)) : Rs V := evCall { cxb with pc := pc } 100000 11 [(.p (some (64, 0))), (.i .i64 (.c (.ofNat 2))), (.i .i64 (.c (.ofNat 3)))] (.mk t124 1000 .off)
def P7_2_2_d : DL := (.leaf P7_2_2_0)
def P7_3_0_0 : Lf := ⟨(.sl none 0 0), t126, [(381, 1015)], []⟩
def P7_3_0_run (pc : List (BE × Bool)) : Rs V := evCall { cxb with pc := pc } 100000 11 [(.p (some (64, 0))), (.i .i64 (.c (.ofNat 3))), (.i .i64 (.c (.ofNat 3)))] (.mk t125 1000 .off)
def P7_3_0_d : DL := (.leaf P7_3_0_0)
def P7_3_1_0 : Lf := ⟨(.sl (some (381, 0)) 1 1), t127, [(381, 1032), (382, 1027)], []⟩
def P7_3_1_run (pc : List (BE × Bool)) : Rs V := evCall { cxb with pc := pc } 100000 11 [(.p (some (64, 0))), (.i .i64 (.c (.ofNat 3))), (.i .i64 (.c (.ofNat 3)))] (.mk t126 1000 .off)
def P7_3_1_d : DL := (.leaf P7_3_1_0)
def P7_3_2_0 : Lf := ⟨(.sl none 0 0), t128, [], []⟩
def P7_3_2_run (pc : List (BE × Bool)) : Rs V := evCall { cxb with pc := pc } 100000 11 [(.p (some (64, 0))), (.i .i64 (.c (.ofNat 3))), (.i .i64 (.c (.ofNat 3)))] (.mk t128 1000 .off)
def P7_3_2_d : DL := (.leaf P7_3_2_0)
def P7_4_0_0 : Lf := ⟨(.sl none 0 0), t130, [(381, 1015)], []⟩
def P7_4_0_run (pc : List (BE × Bool)) : Rs V := evCall { cxb with pc := pc } 100000 11 [(.p (some (64, 0))), (.i .i64 (.c (.ofNat 4))), (.i .i64 (.c (.ofNat 3)))] (.mk t129 1000 .off)
def P7_4_0_d : DL := (.leaf P7_4_0_0)
def P7_4_1_0 : Lf := ⟨(.sl (some (381, 0)) 1 1), t131, [(381, 1032), (382, 1027)], []⟩
def P7_4_1_run (pc : List (BE × Bool)) : Rs V := evCall { cxb with pc := pc } 100000 11 [(.p (some (64, 0))), (.i .i64 (.c (.ofNat 4))), (.i .i64 (.c (.ofNat 3)))] (.mk t130 1000 .off)
def P7_4_1_d : DL := (.leaf P7_4_1_0)
def P7_4_2_0 : Lf := ⟨(.sl none 0 0), t132, [], []⟩
def P7_4_2_run (pc : List (BE × Bool)) : Rs V := evCall { cxb with pc := pc } 100000 11 [(.p (some (64, 0))), (.i .i64 (.c (.ofNat 4))), (.i .i64 (.c (.ofNat 3)))] (.mk t132 1000 .off)
def P7_4_2_d : DL := (.leaf P7_4_2_0)
def P7_5_0_0 : Lf := ⟨(.sl none 0 0), t134, [(381, 1015)], []⟩
def P7_5_0_run (pc : List (BE × Bool)) : Rs V := evCall { cxb with pc := pc } 100000 11 [(.p (some (64, 0))), (.i .i64 (.c (.ofNat 5))), (.i .i64 (.c (.ofNat 3)))] (.mk t133 1000 .off)
def P7_5_0_d : DL := (.leaf P7_5_0_0)
def P7_5_1_0 : Lf := ⟨(.sl (some (381, 0)) 1 1), t135, [(381, 1032), (382, 1027)], []⟩
def P7_5_1_run (pc : List (BE × Bool)) : Rs V := evCall { cxb with pc := pc } 100000 11 [(.p (some (64, 0))), (.i .i64 (.c (.ofNat 5))), (.i .i64 (.c (.ofNat 3)))] (.mk t134 1000 .off)
def P7_5_1_d : DL := (.leaf P7_5_1_0)
def P7_5_2_0 : Lf := ⟨(.sl none 0 0), t136, [], []⟩
def P7_5_2_run (pc : List (BE × Bool)) : Rs V := evCall { cxb with pc := pc } 100000 11 [(.p (some (64, 0))), (.i .i64 (.c (.ofNat 5))), (.i .i64 (.c (.ofNat 3)))] (.mk t136 1000 .off)
def P7_5_2_d : DL := (.leaf P7_5_2_0)
def P7_6_0_0 : Lf := ⟨(.sl none 0 0), t138, [(381, 1015)], []⟩
def P7_6_0_run (pc : List (BE × Bool)) : Rs V := evCall { cxb with pc := pc } 100000 11 [(.p (some (64, 0))), (.i .i64 (.c (.ofNat 6))), (.i .i64 (.c (.ofNat 3)))] (.mk t137 1000 .off)
def P7_6_0_d : DL := (.leaf P7_6_0_0)
def P7_6_1_0 : Lf := ⟨(.sl (some (381, 0)) 1 1), t139, [(381, 1032), (382, 1027)], []⟩
def P7_6_1_run (pc : List (BE × Bool)) : Rs V := evCall { cxb with pc := pc } 100000 11 [(.p (some (64, 0))), (.i .i64 (.c (.ofNat 6))), (.i .i64 (.c (.ofNat 3)))] (.mk t138 1000 .off)
def P7_6_1_d : DL := (.leaf P7_6_1_0)
def P7_6_2_0 : Lf := ⟨(.sl none 0 0), t140, [], []⟩
def P7_6_2_run (pc : List (BE × Bool)) : Rs V := evCall { cxb with pc := pc } 100000 11 [(.p (some (64, 0))), (.i .i64 (.c (.ofNat 6))), (.i .i64 (.c (.ofNat 3)))] (.mk t140 1000 .off)
def P7_6_2_d : DL := (.leaf P7_6_2_0)
def Rooms7_0 : Lf := ⟨(.i .i64 (.c (.ofNat 7))), t0, [], []⟩
def Rooms7_run (pc : List (BE × Bool)) : Rs V := evCall { cxb with pc := pc } 100000 12 [(.p (some (64, 0)))] (.mk t112 1000 .off)
def Rooms7_d : DL := (.leaf Rooms7_0)
def Fixed7_0 : Lf := ⟨(.agg [(.sl (some (381, 0)) 4 4), (.sl (some (382, 0)) 8 8), (.sl none 0 0), (.sl (some (383, 0)) 1 1), (.sl (some (384, 0)) 1 1), (.sl (some (385, 0)) 8 8), (.b (.c false)), (.i .u32 (.c (.ofNat 0))), (.sl none 0 0), (.b (.c false)), (.i .u32 (.c (.ofNat 0))), (.sl (some (386, 0)) 8 8), (.sl none 0 0)]), t141, [(381, 1006), (382, 1012), (383, 1007), (384, 1009), (385, 1051), (386, 1053), (387, 1002), (388, 1003), (389, 1004), (390, 1005), (391, 1008), (392, 1013), (393, 1014), (394, 1015), (395, 1016), (396, 1017), (397, 1018), (398, 1019), (399, 1020)], []⟩
def Fixed7_run (pc : List (BE × Bool)) : Rs V := evCall { cxb with pc := pc } 100000 9 [] (.mk t111 1000 .off)
def Fixed7_d : DL := (.leaf Fixed7_0)
def Make7_0 : Lf := ⟨(.tup [(.i .i64 (.c (.ofNat 7))), (.i .i64 (.c (.ofNat 0)))]), t142, [(400, 1112), (401, 1110), (402, 1108), (403, 1006), (404, 1109), (405, 1102), (406, 1007), (407, 1106), (408, 1004), (409, 1005), (410, 1009), (411, 1020), (412, 1027), (413, 1040), (414, 1051), (415, 1060), (416, 1068), (417, 1095)], []⟩
def Make7_run (pc : List (BE × Bool)) : Rs V := evCall { cxb with pc := pc } 100000 8 [(.p (some (64, 0))), (.agg [(.sl (some (381, 0)) 4 4), (.sl (some (382, 0)) 8 8), (.sl none 0 0), (.sl (some (383, 0)) 1 1), (.sl (some (384, 0)) 1 1), (.sl (some (385, 0)) 8 8), (.b (.c false)), (.i .u32 (.c (.ofNat 0))), (.sl none 0 0), (.b (.c false)), (.i .u32 (.c (.ofNat 0))), (.sl (some (386, 0)) 8 8), (.sl none 0 0)]), (.s [(114, 1), (104, 1)])] (.mk t141 1000 .off)
def Make7_d : DL := (.leaf Make7_0)
def Inv7_0 : Lf := ⟨(.i .i64 (.c (.ofNat 0))), t143, [(418, 1009), (419, 1012), (420, 1011), (421, 1040), (422, 1038), (423, 1039), (424, 1034), (425, 1036)], []⟩
def Inv7_run (pc : List (BE × Bool)) : Rs V := evCall { cxb with pc := pc } 100000 10 [(.p (some (64, 0))), (.i .i64 (.c (.ofNat 7))), (.i .u64 (.c (.ofNat 7))), (.s [(105, 1), (110, 1), (99, 1)]), (.i .u64 (.c (.ofNat 0))), (.sl (some (990, 0)) 1 1)] (.mk (Tr.set t142 990 (.cells 43 1 true true [((.i .u64 (.c (.ofNat 70))), 1)])) 1000 .off)
def Inv7_d : DL := (.leaf Inv7_0)
def P8_0_0_0 : Lf := ⟨(.sl none 0 0), t146, [(426, 1015)], []⟩
def P8_0_0_run (pc : List (BE × Bool)) : Rs V := evCall { cxb with pc := pc } 100000 11 [(.p (some (64, 0))), (.i .i64 (.c (.ofNat 0))), (.i .i64 (.c (.ofNat 3)))] (.mk t145 1000 .off)
def P8_0_0_d : DL := (.leaf P8_0_0_0)
def P8_0_1_0 : Lf := ⟨(.sl (some (426, 0)) 1 1), t147, [(426, 1032), (427, 1027)], []⟩
def P8_0_1_run (pc : List (BE × Bool)) : Rs V := evCall { cxb with pc := pc } 100000 11 [(.p (some (64, 0))), (.i .i64 (.c (.ofNat 0))), (.i .i64 (.c (.ofNat 3)))] (.mk t146 1000 .off)
def P8_0_1_d : DL := (.leaf P8_0_1_0)
def P8_0_2_0 : Lf := ⟨(.sl none 0 0), t148, [], []⟩
def P8_0_2_run (pc : List (BE × Bool)) : Rs V := evCall { cxb with pc := pc } 100000 11 [(.p (some (64, 0))), (.i .i64 (.c (.ofNat 0))), (.i .i64 (.c (.ofNat 3)))] (.mk t148 1000 .off)
def P8_0_2_d : DL := (.leaf P8_0_2_0)
def P8_1_0_0 : Lf := ⟨(.sl none 0 0), t150, [(426, 1015)], []⟩
def P8_1_0_run (pc : List (BE × Bool)) : Rs V := evCall { cxb with pc := pc } 100000 11 [(.p (some (64, 0))), (.i .i64 (.c (.ofNat 1))), (.i .i64 (.c (.ofNat 3)))] (.mk t149 1000 .off)
def P8_1_0_d : DL := (.leaf P8_1_0_0)
def P8_1_1_0 : Lf := ⟨(.sl (some (426, 0)) 1 1), t151, [(426, 1032), (427, 1027)], []⟩
def P8_1_1_run (pc : List (BE × Bool)) : Rs V := evCall { cxb with pc := pc } 100000 11 [(.p (some (64, 0))), (.i .i64 (.c (.ofNat 1))), (.i .i64 (.c (.ofNat 3)))] (.mk t150 1000 .off)
def P8_1_1_d : DL := (.leaf P8_1_1_0)
def P8_1_2_0 : Lf := ⟨(.sl none 0 0), t152, [], []⟩
def P8_1_2_run (pc : List (BE × Bool)) : Rs V := evCall { cxb with pc := pc } 100000 11 [(.p (some (64, 0))), (.i .i64 (.c (.ofNat 1))), (.i .i64 (.c (.ofNat 3)))] (.mk t152 1000 .off)
def P8_1_2_d : DL := (.leaf P8_1_2_0)
def P8_2_0_0 : Lf := ⟨(.sl none 0 0), t154, [(426, 1015)], []⟩
def P8_2_0_run (pc : List (BE × Bool)) : Rs V := evCall { cxb with pc := pc } 100000 11 [(.p (some (64, 0))), (.i .i64 (.c (.ofNat 2))), (.i .i64 (.c (.ofNat 3)))] (.mk t153 1000 .off)
def P8_2_0_d : DL := (.leaf P8_2_0_0)
def P8_2_1_0 : Lf := ⟨(.sl (some (426, 0)) 1 1), t155, [(426, 1032), (427, 1027)], []⟩
def P8_2_1_run (pc : List (BE × Bool)) : Rs V := evCall { cxb with pc := pc } 100000 11 [(.p (some (64, 0))), (.i .i64 (.c (.ofNat 2))), (.i .i64 (.c (.ofNat 3)))] (.mk t154 1000 .off)
def P8_2_1_d : DL := (.leaf P8_2_1_0)
def P8_2_2_0 : Lf := ⟨(.sl none 0 0), t156, [], []⟩
def P8_2_2_run (pc : List (BE × Bool)) : Rs V := evCall { cxb with pc := pc } 100000 11 [(.p (some (64, 0))), (.i .i64 (.c (.ofNat 2))), (.i .i64 (.c (.ofNat 3)))] (.mk t156 1000 .off)
def P8_2_2_d : DL := (.leaf P8_2_2_0)
def P8_3_0_0 : Lf := ⟨(.sl none 0 0), t158, [(426, 1015)], []⟩
def P8_3_0_run (pc : List (BE × Bool)) : Rs V := evCall { cxb with pc := pc } 100000 11 [(.p (some (64, 0))), (.i .i64 (.c (.ofNat 3))), (.i .i64 (.c (.ofNat 3)))] (.mk t157 1000 .off)
def P8_3_0_d : DL := (.leaf P8_3_0_0)
def P8_3_1_0 : Lf := ⟨(.sl (some (426, 0)) 1 1), t159, [(426, 1032), (427, 1027)], []⟩
def P8_3_1_run (pc : List (BE × Bool)) : Rs V := evCall { cxb with pc := pc } 100000 11 [(.p (some (64, 0))), (.i .i64 (.c (.ofNat 3))), (.i .i64 (.c (.ofNat 3)))] (.mk t158 1000 .off)
def P8_3_1_d : DL := (.leaf P8_3_1_0)
def P8_3_2_0 : Lf := ⟨(.sl none 0 0), t160, [], []⟩
def P8_3_2_run (pc : List (BE × Bool)) : Rs V := evCall { cxb with pc := pc } 100000 11 [(.p (some (64, 0))), (.i .i64 (.c (.ofNat 3))), (.i .i64 (.c (.ofNat 3)))] (.mk t160 1000 .off)
def P8_3_2_d : DL := (.leaf P8_3_2_0)
def P8_4_0_0 : Lf := ⟨(.sl none 0 0), t162, [(426, 1015)], []⟩
def P8_4_0_run (pc : List (BE × Bool)) : Rs V := evCall { cxb with pc := pc } 100000 11 [(.p (some (64, 0))), (.i .i64 (.c (.ofNat 4))), (.i .i64 (.c (.ofNat 3)))] (.mk t161 1000 .off)
def P8_4_0_d : DL := (.leaf P8_4_0_0)
def P8_4_1_0 : Lf := ⟨(.sl (some (426, 0)) 1 1), t163, [(426, 1032), (427, 1027)], []⟩
def P8_4_1_run (pc : List (BE × Bool)) : Rs V := evCall { cxb with pc := pc } 100000 11 [(.p (some (64, 0))), (.i .i64 (.c (.ofNat 4))), (.i .i64 (.c (.ofNat 3)))] (.mk t162 1000 .off)
def P8_4_1_d : DL := (.leaf P8_4_1_0)
def P8_4_2_0 : Lf := ⟨(.sl none 0 0), t164, [], []⟩
def P8_4_2_run (pc : List (BE × Bool)) : Rs V := evCall { cxb with pc := pc } 100000 11 [(.p (some (64, 0))), (.i .i64 (.c (.ofNat 4))), (.i .i64 (.c (.ofNat 3)))] (.mk t164 1000 .off)
def P8_4_2_d : DL := (.leaf P8_4_2_0)
def P8_5_0_0 : Lf := ⟨(.sl none 0 0), t166, [(426, 1015)], []⟩
def P8_5_0_run (pc : List (BE × Bool)) : Rs V := evCall { cxb with pc := pc } 100000 11 [(.p (some (64, 0))), (.i .i64 (.c (.ofNat 5))), (.i .i64 (.c (.ofNat 3)))] (.mk t165 1000 .off)
def P8_5_0_d : DL := (.leaf P8_5_0_0)
def P8_5_1_0 : Lf := ⟨(.sl (some (426, 0)) 1 1), t167, [(426, 1032), (427, 1027)], []⟩
def P8_5_1_run (pc : List (BE × Bool)) : Rs V := evCall { cxb with pc := pc } 100000 11 [(.p (some (64, 0))), (.i .i64 (.c (.ofNat 5))), (.i .i64 (.c (.ofNat 3)))] (.mk t166 1000 .off)
def P8_5_1_d : DL := (.leaf P8_5_1_0)
def P8_5_2_0 : Lf := ⟨(.sl none 0 0), t168, [], []⟩
def P8_5_2_run (pc : List (BE × Bool)) : Rs V := evCall { cxb with pc := pc } 100000 11 [(.p (some (64, 0))), (.i .i64 (.c (.ofNat 5))), (.i .i64 (.c (.ofNat 3)))] (.mk t168 1000 .off)
def P8_5_2_d : DL := (.leaf P8_5_2_0)
def P8_6_0_0 : Lf := ⟨(.sl none 0 0), t170, [(426, 1015)], []⟩
def P8_6_0_run (pc : List (BE × Bool)) : Rs V := evCall { cxb with pc := pc } 100000 11 [(.p (some (64, 0))), (.i .i64 (.c (.ofNat 6))), (.i .i64 (.c (.ofNat 3)))] (.mk t169 1000 .off)
def P8_6_0_d : DL := (.leaf P8_6_0_0)
def P8_6_1_0 : Lf := ⟨(.sl (some (426, 0)) 1 1), t171, [(426, 1032), (427, 1027)], []⟩
def P8_6_1_run (pc : List (BE × Bool)) : Rs V := evCall { cxb with pc := pc } 100000 11 [(.p (some (64, 0))), (.i .i64 (.c (.ofNat 6))), (.i .i64 (.c (.ofNat 3)))] (.mk t170 1000 .off)
def P8_6_1_d : DL := (.leaf P8_6_1_0)
def P8_6_2_0 : Lf := ⟨(.sl none 0 0), t172, [], []⟩
def P8_6_2_run (pc : List (BE × Bool)) : Rs V := evCall { cxb with pc := pc } 100000 11 [(.p (some (64, 0))), (.i .i64 (.c (.ofNat 6))), (.i .i64 (.c (.ofNat 3)))] (.mk t172 1000 .off)
def P8_6_2_d : DL := (.leaf P8_6_2_0)
def P8_7_0_0 : Lf := ⟨(.sl none 0 0), t174, [(426, 1015)], []⟩
def P8_7_0_run (pc : List (BE × Bool)) : Rs V := evCall { cxb with pc := pc } 100000 11 [(.p (some (64, 0))), (.i .i64 (.c (.ofNat 7))), (.i .i64 (.c (.ofNat 3)))] (.mk t173 1000 .off)
def P8_7_0_d : DL := (.leaf P8_7_0_0)
def P8_7_1_0 : Lf := ⟨(.sl (some (426, 0)) 1 1), t175, [(426, 1032), (427, 1027)], []⟩
def P8_7_1_run (pc : List (BE × Bool)) : Rs V := evCall { cxb with pc := pc } 100000 11 [(.p (some (64, 0))), (.i .i64 (.c (.ofNat 7))), (.i .i64 (.c (.ofNat 3)))] (.mk t174 1000 .off)
def P8_7_1_d : DL := (.leaf P8_7_1_0)
def P8_7_2_0 : Lf := ⟨(.sl none 0 0), t176, [], []⟩
def P8_7_2_run (pc : List (BE × Bool)) : Rs V := evCall { cxb with pc := pc } 100000 11 [(.p (some (64, 0))), (.i .i64 (.c (.ofNat 7))), (.i .i64 (.c (.ofNat 3)))] (.mk t176 1000 .off)
def P8_7_2_d : DL := (.leaf P8_7_2_0)
def Rooms8_0 : Lf := ⟨(.i .i64 (.c (.ofNat 8))), t0, [], []⟩
def Rooms8_run (pc : List (BE × Bool)) : Rs V := evCall { cxb with pc := pc } 100000 12 [(.p (some (64, 0)))] (.mk t144 1000 .off)
def Rooms8_d : DL := (.leaf Rooms8_0)
def Fixed8_0 : Lf := ⟨(.agg [(.sl (some (426, 0)) 4 4), (.sl (some (427, 0)) 8 8), (.sl none 0 0), (.sl (some (428, 0)) 1 1), (.sl (some (429, 0)) 1 1), (.sl (some (430, 0)) 8 8), (.b (.c false)), (.i .u32 (.c (.ofNat 0))), (.sl none 0 0), (.b (.c false)), (.i .u32 (.c (.ofNat 0))), (.sl (some (431, 0)) 8 8), (.sl none 0 0)]), t177, [(426, 1006), (427, 1012), (428, 1007), (429, 1009), (430, 1051), (431, 1053), (432, 1002), (433, 1003), (434, 1004), (435, 1005), (436, 1008), (437, 1013), (438, 1014), (439, 1015), (440, 1016), (441, 1017), (442, 1018), (443, 1019), (444, 1020)], []⟩
def Fixed8_run (pc : List (BE × Bool)) : Rs V := evCall { cxb with pc := pc } 100000 9 [] (.mk t143 1000 .off)
def Fixed8_d : DL := (.leaf Fixed8_0)
def Make8_0 : Lf := ⟨(.tup [(.i .i64 (.c (.ofNat 0))), (.i .i64 (.c (.ofNat 12)))]), t143, [], []⟩
def Make8_run (pc : List (BE × Bool)) : Rs V := evCall { cxb with pc := pc } 100000 8 [(.p (some (64, 0))), (.agg [(.sl (some (426, 0)) 4 4), (.sl (some (427, 0)) 8 8), (.sl none 0 0), (.sl (some (428, 0)) 1 1), (.sl (some (429, 0)) 1 1), (.sl (some (430, 0)) 8 8), (.b (.c false)), (.i .u32 (.c (.ofNat 0))), (.sl none 0 0), (.b (.c false)), (.i .u32 (.c (.ofNat 0))), (.sl (some (431, 0)) 8 8), (.sl none 0 0)]), (.s [(114, 1), (105, 1)])] (.mk t177 1000 .off)
def Make8_d : DL := (.leaf Make8_0)
def Fixed9_0 : Lf := ⟨(.agg [(.sl (some (426, 0)) 4 4), (.sl (some (427, 0)) 8 8), (.sl none 0 0), (.sl (some (428, 0)) 1 1), (.sl (some (429, 0)) 1 1), (.sl (some (430, 0)) 8 8), (.b (.c false)), (.i .u32 (.c (.ofNat 0))), (.sl none 0 0), (.b (.c false)), (.i .u32 (.c (.ofNat 0))), (.sl (some (431, 0)) 8 8), (.sl none 0 0)]), t177, [(426, 1006), (427, 1012), (428, 1007), (429, 1009), (430, 1051), (431, 1053), (432, 1002), (433, 1003), (434, 1004), (435, 1005), (436, 1008), (437, 1013), (438, 1014), (439, 1015), (440, 1016), (441, 1017), (442, 1018), (443, 1019), (444, 1020)], []⟩
def Fixed9_run (pc : List (BE × Bool)) : Rs V := evCall { cxb with pc := pc } 100000 9 [] (.mk t143 1000 .off)
def Fixed9_d : DL := (.leaf Fixed9_0)
def Make9_0 : Lf := ⟨(.tup [(.i .i64 (.c (.ofNat 0))), (.i .i64 (.c (.ofNat 12)))]), t143, [], []⟩
def Make9_run (pc : List (BE × Bool)) : Rs V := evCall { cxb with pc := pc } 100000 8 [(.p (some (64, 0))), (.agg [(.sl (some (426, 0)) 4 4), (.sl (some (427, 0)) 8 8), (.sl none 0 0), (.sl (some (428, 0)) 1 1), (.sl (some (429, 0)) 1 1), (.sl (some (430, 0)) 8 8), (.b (.c false)), (.i .u32 (.c (.ofNat 0))), (.sl none 0 0), (.b (.c false)), (.i .u32 (.c (.ofNat 0))), (.sl (some (431, 0)) 8 8), (.sl none 0 0)]), (.s [(114, 1), (106, 1)])] (.mk t177 1000 .off)
def Make9_d : DL := (.leaf Make9_0)
def TB : Nat → Tr Ob
  | 0 => t1
  | 1 => t4
  | 2 => t11
  | 3 => t23
  | 4 => t39
  | 5 => t59
  | 6 => t83
  | 7 => t111
  | 8 => t143
  | _ => .nil
def TC : Nat → Tr Ob
  | 0 => t1
  | 1 => t5
  | 2 => t12
  | 3 => t24
  | 4 => t40
  | 5 => t60
  | 6 => t84
  | 7 => t112
  | 8 => t144
  | _ => .nil
def TF : Nat → Nat → Nat → Tr Ob
  | 1, 0, 0 => t4
  | 1, 1, 0 => t6
  | 1, 2, 0 => t8
  | 2, 0, 0 => t13
  | 2, 1, 0 => t14
  | 2, 2, 0 => t16
  | 2, 0, 1 => t17
  | 2, 1, 1 => t18
  | 2, 2, 1 => t20
  | 3, 0, 0 => t25
  | 3, 1, 0 => t26
  | 3, 2, 0 => t28
  | 3, 0, 1 => t29
  | 3, 1, 1 => t30
  | 3, 2, 1 => t32
  | 3, 0, 2 => t33
  | 3, 1, 2 => t34
  | 3, 2, 2 => t36
  | 4, 0, 0 => t41
  | 4, 1, 0 => t42
  | 4, 2, 0 => t44
  | 4, 0, 1 => t45
  | 4, 1, 1 => t46
  | 4, 2, 1 => t48
  | 4, 0, 2 => t49
  | 4, 1, 2 => t50
  | 4, 2, 2 => t52
  | 4, 0, 3 => t53
  | 4, 1, 3 => t54
  | 4, 2, 3 => t56
  | 5, 0, 0 => t61
  | 5, 1, 0 => t62
  | 5, 2, 0 => t64
  | 5, 0, 1 => t65
  | 5, 1, 1 => t66
  | 5, 2, 1 => t68
  | 5, 0, 2 => t69
  | 5, 1, 2 => t70
  | 5, 2, 2 => t72
  | 5, 0, 3 => t73
  | 5, 1, 3 => t74
  | 5, 2, 3 => t76
  | 5, 0, 4 => t77
  | 5, 1, 4 => t78
  | 5, 2, 4 => t80
  | 6, 0, 0 => t85
  | 6, 1, 0 => t86
  | 6, 2, 0 => t88
  | 6, 0, 1 => t89
  | 6, 1, 1 => t90
  | 6, 2, 1 => t92
  | 6, 0, 2 => t93
  | 6, 1, 2 => t94
  | 6, 2, 2 => t96
  | 6, 0, 3 => t97
  | 6, 1, 3 => t98
  | 6, 2, 3 => t100
  | 6, 0, 4 => t101
  | 6, 1, 4 => t102
  | 6, 2, 4 => t104
  | 6, 0, 5 => t105
  | 6, 1, 5 => t106
  | 6, 2, 5 => t108
  | 7, 0, 0 => t113
  | 7, 1, 0 => t114
  | 7, 2, 0 => t116
  | 7, 0, 1 => t117
  | 7, 1, 1 => t118
  | 7, 2, 1 => t120
  | 7, 0, 2 => t121
  | 7, 1, 2 => t122
  | 7, 2, 2 => t124
  | 7, 0, 3 => t125
  | 7, 1, 3 => t126
  | 7, 2, 3 => t128
  | 7, 0, 4 => t129
  | 7, 1, 4 => t130
  | 7, 2, 4 => t132
  | 7, 0, 5 => t133
  | 7, 1, 5 => t134
  | 7, 2, 5 => t136
  | 7, 0, 6 => t137
  | 7, 1, 6 => t138
  | 7, 2, 6 => t140
  | 8, 0, 0 => t145
  | 8, 1, 0 => t146
  | 8, 2, 0 => t148
  | 8, 0, 1 => t149
  | 8, 1, 1 => t150
  | 8, 2, 1 => t152
  | 8, 0, 2 => t153
  | 8, 1, 2 => t154
  | 8, 2, 2 => t156
  | 8, 0, 3 => t157
  | 8, 1, 3 => t158
  | 8, 2, 3 => t160
  | 8, 0, 4 => t161
  | 8, 1, 4 => t162
  | 8, 2, 4 => t164
  | 8, 0, 5 => t165
  | 8, 1, 5 => t166
  | 8, 2, 5 => t168
  | 8, 0, 6 => t169
  | 8, 1, 6 => t170
  | 8, 2, 6 => t172
  | 8, 0, 7 => t173
  | 8, 1, 7 => t174
  | 8, 2, 7 => t176
  | _, _, _ => .nil
def TX : Nat → Tr Ob
  | 0 => t2
  | 1 => t9
  | 2 => t21
  | 3 => t37
  | 4 => t57
  | 5 => t81
  | 6 => t109
  | 7 => t141
  | 8 => t177
  | 9 => t177
  | _ => .nil
def VX : Nat → V
  | 0 => (.agg [(.sl (some (66, 0)) 4 4), (.sl (some (67, 0)) 8 8), (.sl none 0 0), (.sl (some (68, 0)) 1 1), (.sl (some (69, 0)) 1 1), (.sl (some (70, 0)) 8 8), (.b (.c false)), (.i .u32 (.c (.ofNat 0))), (.sl none 0 0), (.b (.c false)), (.i .u32 (.c (.ofNat 0))), (.sl (some (71, 0)) 8 8), (.sl none 0 0)])
  | 1 => (.agg [(.sl (some (111, 0)) 4 4), (.sl (some (112, 0)) 8 8), (.sl none 0 0), (.sl (some (113, 0)) 1 1), (.sl (some (114, 0)) 1 1), (.sl (some (115, 0)) 8 8), (.b (.c false)), (.i .u32 (.c (.ofNat 0))), (.sl none 0 0), (.b (.c false)), (.i .u32 (.c (.ofNat 0))), (.sl (some (116, 0)) 8 8), (.sl none 0 0)])
  | 2 => (.agg [(.sl (some (156, 0)) 4 4), (.sl (some (157, 0)) 8 8), (.sl none 0 0), (.sl (some (158, 0)) 1 1), (.sl (some (159, 0)) 1 1), (.sl (some (160, 0)) 8 8), (.b (.c false)), (.i .u32 (.c (.ofNat 0))), (.sl none 0 0), (.b (.c false)), (.i .u32 (.c (.ofNat 0))), (.sl (some (161, 0)) 8 8), (.sl none 0 0)])
  | 3 => (.agg [(.sl (some (201, 0)) 4 4), (.sl (some (202, 0)) 8 8), (.sl none 0 0), (.sl (some (203, 0)) 1 1), (.sl (some (204, 0)) 1 1), (.sl (some (205, 0)) 8 8), (.b (.c false)), (.i .u32 (.c (.ofNat 0))), (.sl none 0 0), (.b (.c false)), (.i .u32 (.c (.ofNat 0))), (.sl (some (206, 0)) 8 8), (.sl none 0 0)])
  | 4 => (.agg [(.sl (some (246, 0)) 4 4), (.sl (some (247, 0)) 8 8), (.sl none 0 0), (.sl (some (248, 0)) 1 1), (.sl (some (249, 0)) 1 1), (.sl (some (250, 0)) 8 8), (.b (.c false)), (.i .u32 (.c (.ofNat 0))), (.sl none 0 0), (.b (.c false)), (.i .u32 (.c (.ofNat 0))), (.sl (some (251, 0)) 8 8), (.sl none 0 0)])
  | 5 => (.agg [(.sl (some (291, 0)) 4 4), (.sl (some (292, 0)) 8 8), (.sl none 0 0), (.sl (some (293, 0)) 1 1), (.sl (some (294, 0)) 1 1), (.sl (some (295, 0)) 8 8), (.b (.c false)), (.i .u32 (.c (.ofNat 0))), (.sl none 0 0), (.b (.c false)), (.i .u32 (.c (.ofNat 0))), (.sl (some (296, 0)) 8 8), (.sl none 0 0)])
  | 6 => (.agg [(.sl (some (336, 0)) 4 4), (.sl (some (337, 0)) 8 8), (.sl none 0 0), (.sl (some (338, 0)) 1 1), (.sl (some (339, 0)) 1 1), (.sl (some (340, 0)) 8 8), (.b (.c false)), (.i .u32 (.c (.ofNat 0))), (.sl none 0 0), (.b (.c false)), (.i .u32 (.c (.ofNat 0))), (.sl (some (341, 0)) 8 8), (.sl none 0 0)])
  | 7 => (.agg [(.sl (some (381, 0)) 4 4), (.sl (some (382, 0)) 8 8), (.sl none 0 0), (.sl (some (383, 0)) 1 1), (.sl (some (384, 0)) 1 1), (.sl (some (385, 0)) 8 8), (.b (.c false)), (.i .u32 (.c (.ofNat 0))), (.sl none 0 0), (.b (.c false)), (.i .u32 (.c (.ofNat 0))), (.sl (some (386, 0)) 8 8), (.sl none 0 0)])
  | 8 => (.agg [(.sl (some (426, 0)) 4 4), (.sl (some (427, 0)) 8 8), (.sl none 0 0), (.sl (some (428, 0)) 1 1), (.sl (some (429, 0)) 1 1), (.sl (some (430, 0)) 8 8), (.b (.c false)), (.i .u32 (.c (.ofNat 0))), (.sl none 0 0), (.b (.c false)), (.i .u32 (.c (.ofNat 0))), (.sl (some (431, 0)) 8 8), (.sl none 0 0)])
  | 9 => (.agg [(.sl (some (426, 0)) 4 4), (.sl (some (427, 0)) 8 8), (.sl none 0 0), (.sl (some (428, 0)) 1 1), (.sl (some (429, 0)) 1 1), (.sl (some (430, 0)) 8 8), (.b (.c false)), (.i .u32 (.c (.ofNat 0))), (.sl none 0 0), (.b (.c false)), (.i .u32 (.c (.ofNat 0))), (.sl (some (431, 0)) 8 8), (.sl none 0 0)])
  | _ => .ni
def TM : Nat → Tr Ob
  | 0 => t3
  | 1 => t10
  | 2 => t22
  | 3 => t38
  | 4 => t58
  | 5 => t82
  | 6 => t110
  | 7 => t142
  | 8 => t143
  | 9 => t143
  | _ => .nil
end
end Go.Vm.Hr
