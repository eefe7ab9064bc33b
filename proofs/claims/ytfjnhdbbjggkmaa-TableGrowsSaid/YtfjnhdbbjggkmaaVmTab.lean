/- The VM's tables for the program Try: its types and its functions, as trees; made by vmsum.py. -/
import Derived.Test.YtfjnhdbbjggkmaaProg
import Derived.Test.YtfjnhdbbjggkmaaVmDefs
import Derived.KernelRfl
set_option linter.unusedVariables false
namespace Go.Vm
open Go.Proofs
noncomputable section
set_option maxRecDepth 100000
def tI0 : TI := ⟨.other, 1, 0, (some (.tup [])), false, true⟩
def tI1 : TI := ⟨.func, 1, 8, (some .nf), false, true⟩
def tI2 : TI := ⟨(.int .i64), 1, 8, (some (.i .i64 (.c (.ofNat 0)))), false, true⟩
def tI3 : TI := ⟨(.int .i64), 1, 8, (some (.i .i64 (.c (.ofNat 0)))), false, true⟩
def tI4 : TI := ⟨.bool, 1, 1, (some (.b (.c false))), false, true⟩
def tI5 : TI := ⟨(.int .u8), 1, 1, (some (.i .u8 (.c (.ofNat 0)))), false, true⟩
def tI6 : TI := ⟨(.int .u8), 1, 1, (some (.i .u8 (.c (.ofNat 0)))), false, true⟩
def tI7 : TI := ⟨(.struct [(2, 0, false), (3, 1, false), (4, 2, false), (6, 3, false)]), 4, 24, (some (.agg [(.i .i64 (.c (.ofNat 0))), (.i .i64 (.c (.ofNat 0))), (.b (.c false)), (.i .u8 (.c (.ofNat 0)))])), true, true⟩
def tI8 : TI := ⟨(.struct [(2, 0, false), (3, 1, false), (4, 2, false), (6, 3, false)]), 4, 24, (some (.agg [(.i .i64 (.c (.ofNat 0))), (.i .i64 (.c (.ofNat 0))), (.b (.c false)), (.i .u8 (.c (.ofNat 0)))])), true, true⟩
def tI9 : TI := ⟨.string, 1, 16, (some (.s [])), false, true⟩
def tI10 : TI := ⟨.string, 1, 16, (some (.s [])), false, true⟩
def tI11 : TI := ⟨.string, 1, 16, (some (.s [])), false, true⟩
def tI12 : TI := ⟨(.int .u64), 1, 8, (some (.i .u64 (.c (.ofNat 0)))), false, true⟩
def tI13 : TI := ⟨(.struct [(9, 0, false), (12, 1, false)]), 2, 24, (some (.agg [(.s []), (.i .u64 (.c (.ofNat 0)))])), true, false⟩
def tI14 : TI := ⟨(.struct [(9, 0, false), (12, 1, false)]), 2, 24, (some (.agg [(.s []), (.i .u64 (.c (.ofNat 0)))])), true, false⟩
def tI15 : TI := ⟨(.pointer 73), 1, 8, (some (.p none)), false, true⟩
def tI16 : TI := ⟨(.pointer 76), 1, 8, (some (.p none)), false, true⟩
def tI17 : TI := ⟨(.pointer 85), 1, 8, (some (.p none)), false, true⟩
def tI18 : TI := ⟨(.struct [(17, 0, false)]), 1, 8, (some (.agg [(.p none)])), true, false⟩
def tI19 : TI := ⟨(.struct [(17, 0, false)]), 1, 8, (some (.agg [(.p none)])), true, false⟩
def tI20 : TI := ⟨(.iface true), 1, 16, (some .ni), false, true⟩
def tI21 : TI := ⟨(.int .i32), 1, 4, (some (.i .i32 (.c (.ofNat 0)))), false, true⟩
def tI22 : TI := ⟨(.slice 5), 1, 24, (some (.sl none 0 0)), false, true⟩
def tI23 : TI := ⟨(.int .u64), 1, 8, (some (.i .u64 (.c (.ofNat 0)))), false, true⟩
def tI24 : TI := ⟨.func, 1, 8, (some .nf), false, true⟩
def tI25 : TI := ⟨(.slice 3), 1, 24, (some (.sl none 0 0)), false, true⟩
def tI26 : TI := ⟨(.int .i64), 1, 8, (some (.i .i64 (.c (.ofNat 0)))), false, true⟩
def tI27 : TI := ⟨.func, 1, 8, (some .nf), false, true⟩
def tI28 : TI := ⟨(.int .u32), 1, 4, (some (.i .u32 (.c (.ofNat 0)))), false, true⟩
def tI29 : TI := ⟨.other, 1, 0, (some (.tup [(.i .u64 (.c (.ofNat 0))), (.i .i64 (.c (.ofNat 0)))])), false, true⟩
def tI30 : TI := ⟨.func, 1, 8, (some .nf), false, true⟩
def tI31 : TI := ⟨.func, 1, 8, (some .nf), false, true⟩
def tI32 : TI := ⟨.func, 1, 8, (some .nf), false, true⟩
def tI33 : TI := ⟨.other, 1, 0, (some (.tup [(.sl none 0 0), (.b (.c false))])), false, true⟩
def tI34 : TI := ⟨.func, 1, 8, (some .nf), false, true⟩
def tI35 : TI := ⟨(.struct [(28, 0, false), (28, 1, false), (4, 2, false)]), 3, 12, (some (.agg [(.i .u32 (.c (.ofNat 0))), (.i .u32 (.c (.ofNat 0))), (.b (.c false))])), true, true⟩
def tI36 : TI := ⟨(.struct [(28, 0, false), (28, 1, false), (4, 2, false)]), 3, 12, (some (.agg [(.i .u32 (.c (.ofNat 0))), (.i .u32 (.c (.ofNat 0))), (.b (.c false))])), true, true⟩
def tI37 : TI := ⟨.func, 1, 8, (some .nf), false, true⟩
def tI38 : TI := ⟨(.array 3 3), 3, 24, (some (.agg [(.i .i64 (.c (.ofNat 0))), (.i .i64 (.c (.ofNat 0))), (.i .i64 (.c (.ofNat 0)))])), true, true⟩
def tI39 : TI := ⟨(.slice 38), 1, 24, (some (.sl none 0 0)), false, true⟩
def tI40 : TI := ⟨.func, 1, 8, (some .nf), false, true⟩
def tI41 : TI := ⟨(.int .u64), 1, 8, (some (.i .u64 (.c (.ofNat 0)))), false, true⟩
def tI42 : TI := ⟨(.slice 23), 1, 24, (some (.sl none 0 0)), false, true⟩
def tI43 : TI := ⟨.func, 1, 8, (some .nf), false, true⟩
def tI44 : TI := ⟨.func, 1, 8, (some .nf), false, true⟩
def tI45 : TI := ⟨.func, 1, 8, (some .nf), false, true⟩
def tI46 : TI := ⟨.func, 1, 8, (some .nf), false, true⟩
def tI47 : TI := ⟨.func, 1, 8, (some .nf), false, true⟩
def tI48 : TI := ⟨.func, 1, 8, (some .nf), false, true⟩
def tI49 : TI := ⟨.func, 1, 8, (some .nf), false, true⟩
def tI50 : TI := ⟨.other, 1, 0, (some (.tup [(.sl none 0 0), (.b (.c false))])), false, true⟩
def tI51 : TI := ⟨.func, 1, 8, (some .nf), false, true⟩
def tI52 : TI := ⟨.func, 1, 8, (some .nf), false, true⟩
def tI53 : TI := ⟨.other, 1, 0, (some (.tup [(.sl none 0 0), (.i .i64 (.c (.ofNat 0)))])), false, true⟩
def tI54 : TI := ⟨.func, 1, 8, (some .nf), false, true⟩
def tI55 : TI := ⟨.func, 1, 8, (some .nf), false, true⟩
def tI56 : TI := ⟨(.slice 23), 1, 24, (some (.sl none 0 0)), false, true⟩
def tI57 : TI := ⟨.func, 1, 8, (some .nf), false, true⟩
def tI58 : TI := ⟨.func, 1, 8, (some .nf), false, true⟩
def tI59 : TI := ⟨.func, 1, 8, (some .nf), false, true⟩
def tI60 : TI := ⟨.func, 1, 8, (some .nf), false, true⟩
def tI61 : TI := ⟨.func, 1, 8, (some .nf), false, true⟩
def tI62 : TI := ⟨(.int .i8), 1, 1, (some (.i .i8 (.c (.ofNat 0)))), false, true⟩
def tI63 : TI := ⟨(.int .i16), 1, 2, (some (.i .i16 (.c (.ofNat 0)))), false, true⟩
def tI64 : TI := ⟨(.slice 42), 1, 24, (some (.sl none 0 0)), false, true⟩
def tI65 : TI := ⟨.other, 1, 0, (some (.tup [(.i .u64 (.c (.ofNat 0))), (.i .u64 (.c (.ofNat 0)))])), false, true⟩
def tI66 : TI := ⟨.func, 1, 8, (some .nf), false, true⟩
def tI67 : TI := ⟨.other, 1, 0, (some (.tup [(.i .u32 (.c (.ofNat 0))), (.i .u32 (.c (.ofNat 0)))])), false, true⟩
def tI68 : TI := ⟨.func, 1, 8, (some .nf), false, true⟩
def tI69 : TI := ⟨.other, 1, 0, (some (.tup [(.i .u64 (.c (.ofNat 0))), (.i .u64 (.c (.ofNat 0)))])), false, true⟩
def tI70 : TI := ⟨.func, 1, 8, (some .nf), false, true⟩
def tI71 : TI := ⟨.func, 1, 8, (some .nf), false, true⟩
def tI72 : TI := ⟨(.struct [(17, 0, false), (17, 1, false), (17, 2, false), (9, 3, false)]), 4, 40, (some (.agg [(.p none), (.p none), (.p none), (.s [])])), true, false⟩
def tI73 : TI := ⟨(.struct [(17, 0, false), (17, 1, false), (17, 2, false), (9, 3, false)]), 4, 40, (some (.agg [(.p none), (.p none), (.p none), (.s [])])), true, false⟩
def tI74 : TI := ⟨(.array 0 16), 0, 0, (some (.agg [])), true, true⟩
def tI75 : TI := ⟨(.struct [(74, 0, true)]), 0, 0, (some (.agg [])), true, false⟩
def tI76 : TI := ⟨(.struct [(74, 0, true)]), 0, 0, (some (.agg [])), true, false⟩
def tI77 : TI := ⟨.func, 1, 8, (some .nf), false, true⟩
def tI78 : TI := ⟨(.int .u8), 1, 1, (some (.i .u8 (.c (.ofNat 0)))), false, true⟩
def tI79 : TI := ⟨(.int .u8), 1, 1, (some (.i .u8 (.c (.ofNat 0)))), false, true⟩
def tI80 : TI := ⟨.func, 1, 8, (some .nf), false, true⟩
def tI81 : TI := ⟨(.pointer 5), 1, 8, (some (.p none)), false, true⟩
def tI82 : TI := ⟨(.int .i32), 1, 4, (some (.i .i32 (.c (.ofNat 0)))), false, true⟩
def tI83 : TI := ⟨(.int .i32), 1, 4, (some (.i .i32 (.c (.ofNat 0)))), false, true⟩
def tI84 : TI := ⟨(.struct [(12, 0, false), (12, 1, false), (28, 2, false), (78, 3, false), (5, 4, false), (5, 5, false), (79, 6, false), (80, 7, false), (81, 8, false), (82, 9, false), (83, 10, false)]), 11, 48, (some (.agg [(.i .u64 (.c (.ofNat 0))), (.i .u64 (.c (.ofNat 0))), (.i .u32 (.c (.ofNat 0))), (.i .u8 (.c (.ofNat 0))), (.i .u8 (.c (.ofNat 0))), (.i .u8 (.c (.ofNat 0))), (.i .u8 (.c (.ofNat 0))), .nf, (.p none), (.i .i32 (.c (.ofNat 0))), (.i .i32 (.c (.ofNat 0)))])), true, false⟩
def tI85 : TI := ⟨(.struct [(12, 0, false), (12, 1, false), (28, 2, false), (78, 3, false), (5, 4, false), (5, 5, false), (79, 6, false), (80, 7, false), (81, 8, false), (82, 9, false), (83, 10, false)]), 11, 48, (some (.agg [(.i .u64 (.c (.ofNat 0))), (.i .u64 (.c (.ofNat 0))), (.i .u32 (.c (.ofNat 0))), (.i .u8 (.c (.ofNat 0))), (.i .u8 (.c (.ofNat 0))), (.i .u8 (.c (.ofNat 0))), (.i .u8 (.c (.ofNat 0))), .nf, (.p none), (.i .i32 (.c (.ofNat 0))), (.i .i32 (.c (.ofNat 0)))])), true, false⟩
def tI86 : TI := ⟨.other, 1, 8, (some (.p none)), false, true⟩
def tyTab : Tr TI := (.node (.node (.node (.node (.node (.node (.node .nil (some tI63) .nil) (some tI31) .nil) (some tI15) (.node (.node .nil (some tI79) .nil) (some tI47) .nil)) (some tI7) (.node (.node (.node .nil (some tI71) .nil) (some tI39) .nil) (some tI23) (.node .nil (some tI55) .nil))) (some tI3) (.node (.node (.node (.node .nil (some tI67) .nil) (some tI35) .nil) (some tI19) (.node (.node .nil (some tI83) .nil) (some tI51) .nil)) (some tI11) (.node (.node (.node .nil (some tI75) .nil) (some tI43) .nil) (some tI27) (.node .nil (some tI59) .nil)))) (some tI1) (.node (.node (.node (.node (.node .nil (some tI65) .nil) (some tI33) .nil) (some tI17) (.node (.node .nil (some tI81) .nil) (some tI49) .nil)) (some tI9) (.node (.node (.node .nil (some tI73) .nil) (some tI41) .nil) (some tI25) (.node .nil (some tI57) .nil))) (some tI5) (.node (.node (.node (.node .nil (some tI69) .nil) (some tI37) .nil) (some tI21) (.node (.node .nil (some tI85) .nil) (some tI53) .nil)) (some tI13) (.node (.node (.node .nil (some tI77) .nil) (some tI45) .nil) (some tI29) (.node .nil (some tI61) .nil))))) (some tI0) (.node (.node (.node (.node (.node (.node .nil (some tI64) .nil) (some tI32) .nil) (some tI16) (.node (.node .nil (some tI80) .nil) (some tI48) .nil)) (some tI8) (.node (.node (.node .nil (some tI72) .nil) (some tI40) .nil) (some tI24) (.node .nil (some tI56) .nil))) (some tI4) (.node (.node (.node (.node .nil (some tI68) .nil) (some tI36) .nil) (some tI20) (.node (.node .nil (some tI84) .nil) (some tI52) .nil)) (some tI12) (.node (.node (.node .nil (some tI76) .nil) (some tI44) .nil) (some tI28) (.node .nil (some tI60) .nil)))) (some tI2) (.node (.node (.node (.node (.node .nil (some tI66) .nil) (some tI34) .nil) (some tI18) (.node (.node .nil (some tI82) .nil) (some tI50) .nil)) (some tI10) (.node (.node (.node .nil (some tI74) .nil) (some tI42) .nil) (some tI26) (.node .nil (some tI58) .nil))) (some tI6) (.node (.node (.node (.node .nil (some tI70) .nil) (some tI38) .nil) (some tI22) (.node (.node .nil (some tI86) .nil) (some tI54) .nil)) (some tI14) (.node (.node (.node .nil (some tI78) .nil) (some tI46) .nil) (some tI30) (.node .nil (some tI62) .nil))))))
def fuTab : Tr Fu := (.node (.node (.node (.node (.node (.node .nil (some (.mk 5 [.tmp 2] (bodyOf Try.f31))) .nil) (some (.mk 23 [.tmp 6] (bodyOf Try.f15))) .nil) (some (.mk 80 [.tmp 4] (bodyOf Try.f7))) (.node .nil (some (.mk 42 [.tmp 10] (bodyOf Try.f23))) .nil)) (some (.mk 142 [.tmp 10] (bodyOf Try.f3))) (.node (.node (.node .nil (some (.mk 17 [.tmp 4, .tmp 5] (bodyOf Try.f35))) .nil) (some (.mk 17 [.tmp 6] (bodyOf Try.f19))) .nil) (some (.mk 121 [.tmp 0] (bodyOf Try.f11))) (.node .nil (some (.mk 39 [.tmp 4] (bodyOf Try.f27))) .nil))) none (.node (.node (.node (.node .nil (some (.mk 27 [.tmp 4] (bodyOf Try.f33))) .nil) (some (.mk 67 [.tmp 0] (bodyOf Try.f17))) .nil) (some (.mk 87 [.tmp 8] (bodyOf Try.f9))) (.node .nil (some (.mk 44 [.tmp 8, .tmp 9] (bodyOf Try.f25))) .nil)) (some (.mk 85 [.tmp 8] (bodyOf Try.f5))) (.node (.node .nil (some (.mk 23 [.tmp 6] (bodyOf Try.f21))) .nil) (some (.mk 37 [.tmp 10] (bodyOf Try.f13))) (.node .nil (some (.mk 36 [.tmp 2] (bodyOf Try.f29))) .nil)))) none (.node (.node (.node (.node (.node .nil (some (.mk 97 [.tmp 4] (bodyOf Try.f32))) .nil) (some (.mk 45 [.tmp 6, .tmp 7] (bodyOf Try.f16))) .nil) (some (.mk 212 [.tmp 12] (bodyOf Try.f8))) (.node .nil (some (.mk 42 [.tmp 8, .tmp 9] (bodyOf Try.f24))) .nil)) (some (.mk 34 [.tmp 6] (bodyOf Try.f4))) (.node (.node (.node .nil (some (.mk 51 [.tmp 4, .tmp 5] (bodyOf Try.f36))) .nil) (some (.mk 26 [.tmp 4] (bodyOf Try.f20))) .nil) (some (.mk 62 [.tmp 0] (bodyOf Try.f12))) (.node .nil (some (.mk 21 [.tmp 6] (bodyOf Try.f28))) .nil))) (some (.mk 1 [] (bodyOf Try.f2))) (.node (.node (.node (.node .nil (some (.mk 30 [.tmp 4, .tmp 5] (bodyOf Try.f34))) .nil) (some (.mk 16 [.tmp 4, .tmp 5] (bodyOf Try.f18))) .nil) (some (.mk 48 [.tmp 10] (bodyOf Try.f10))) (.node .nil (some (.mk 40 [.tmp 10, .tmp 11] (bodyOf Try.f26))) .nil)) (some (.mk 111 [.tmp 4] (bodyOf Try.f6))) (.node (.node .nil (some (.mk 30 [.tmp 8] (bodyOf Try.f22))) .nil) (some (.mk 41 [.tmp 8, .tmp 9] (bodyOf Try.f14))) (.node .nil (some (.mk 48 [.tmp 4] (bodyOf Try.f30))) .nil)))))
/-- The same, with the calls whose answer is known. -/
def fuB : Tr Fu := (.node (.node (.node (.node (.node (.node .nil (some (.mk 5 [.tmp 2] (bodyOf Try.f31))) .nil) (some (.mk 23 [.tmp 6] (bodyOf Try.f15))) .nil) (some (.mk 80 [.tmp 4] (bodyOf Try.f7))) (.node .nil (some (.mk 42 [.tmp 10] (bodyOf Try.f23))) .nil)) (some (.mk 142 [.tmp 10] (bodyOf Try.f3))) (.node (.node (.node .nil (some (.mk 17 [.tmp 4, .tmp 5] (bodyOf Try.f35))) .nil) (some (.mk 17 [.tmp 6] (bodyOf Try.f19))) .nil) (some (.mk 121 [.tmp 0] (bodyOf Try.f11))) (.node .nil (some (.mk 39 [.tmp 4] (bodyOf Try.f27))) .nil))) none (.node (.node (.node (.node .nil (some (.mk 27 [.tmp 4] (bodyOf Try.f33))) .nil) (some (.sum (constG true))) .nil) (some (.mk 87 [.tmp 8] (bodyOf Try.f9))) (.node .nil (some (.mk 44 [.tmp 8, .tmp 9] (bodyOf Try.f25))) .nil)) (some (.mk 85 [.tmp 8] (bodyOf Try.f5))) (.node (.node .nil (some (.mk 23 [.tmp 6] (bodyOf Try.f21))) .nil) (some (.mk 37 [.tmp 10] (bodyOf Try.f13))) (.node .nil (some (.mk 36 [.tmp 2] (bodyOf Try.f29))) .nil)))) none (.node (.node (.node (.node (.node .nil (some (.mk 97 [.tmp 4] (bodyOf Try.f32))) .nil) (some (.mk 45 [.tmp 6, .tmp 7] (bodyOf Try.f16))) .nil) (some (.mk 212 [.tmp 12] (bodyOf Try.f8))) (.node .nil (some (.mk 42 [.tmp 8, .tmp 9] (bodyOf Try.f24))) .nil)) (some (.mk 34 [.tmp 6] (bodyOf Try.f4))) (.node (.node (.node .nil (some (.mk 51 [.tmp 4, .tmp 5] (bodyOf Try.f36))) .nil) (some (.mk 26 [.tmp 4] (bodyOf Try.f20))) .nil) (some (.sum (constG true))) (.node .nil (some (.mk 21 [.tmp 6] (bodyOf Try.f28))) .nil))) (some (.mk 1 [] (bodyOf Try.f2))) (.node (.node (.node (.node .nil (some (.mk 30 [.tmp 4, .tmp 5] (bodyOf Try.f34))) .nil) (some (.mk 16 [.tmp 4, .tmp 5] (bodyOf Try.f18))) .nil) (some (.mk 48 [.tmp 10] (bodyOf Try.f10))) (.node .nil (some (.mk 40 [.tmp 10, .tmp 11] (bodyOf Try.f26))) .nil)) (some (.mk 111 [.tmp 4] (bodyOf Try.f6))) (.node (.node .nil (some (.mk 30 [.tmp 8] (bodyOf Try.f22))) .nil) (some (.mk 41 [.tmp 8, .tmp 9] (bodyOf Try.f14))) (.node .nil (some (.mk 48 [.tmp 4] (bodyOf Try.f30))) .nil)))))
end
end Go.Vm
