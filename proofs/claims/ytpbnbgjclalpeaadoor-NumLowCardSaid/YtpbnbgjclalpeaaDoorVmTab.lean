/- The VM's tables for the program Tryd: its types and its functions, as trees; made by vmsum.py. -/
import Derived.Test.YtpbnbgjclalpeaaDoorProg
import Derived.Test.YtpbnbgjclalpeaaDoorVmDefs
import Derived.KernelRfl
set_option linter.unusedVariables false
namespace Go.Vm
open Go.Proofs
noncomputable section
set_option maxRecDepth 100000
def tI0 : TI := ⟨.other, 1, 0, (some (.tup [])), false, true⟩
def tI1 : TI := ⟨.func, 1, 8, (some .nf), false, true⟩
def tI2 : TI := ⟨(.int .i64), 1, 8, (some (.i .i64 (.c (.ofNat 0)))), false, true⟩
def tI3 : TI := ⟨(.int .i64), 1, 8, (some (.i .i64 (.c (.ofNat 0)))), false, true⟩
def tI4 : TI := ⟨.bool, 1, 1, (some (.b (.c false))), false, true⟩
def tI5 : TI := ⟨(.int .u8), 1, 1, (some (.i .u8 (.c (.ofNat 0)))), false, true⟩
def tI6 : TI := ⟨(.int .u8), 1, 1, (some (.i .u8 (.c (.ofNat 0)))), false, true⟩
def tI7 : TI := ⟨(.struct [(2, 0, false), (3, 1, false), (4, 2, false), (6, 3, false)]), 4, 24, (some (.agg [(.i .i64 (.c (.ofNat 0))), (.i .i64 (.c (.ofNat 0))), (.b (.c false)), (.i .u8 (.c (.ofNat 0)))])), true, true⟩
def tI8 : TI := ⟨(.struct [(2, 0, false), (3, 1, false), (4, 2, false), (6, 3, false)]), 4, 24, (some (.agg [(.i .i64 (.c (.ofNat 0))), (.i .i64 (.c (.ofNat 0))), (.b (.c false)), (.i .u8 (.c (.ofNat 0)))])), true, true⟩
def tI9 : TI := ⟨.string, 1, 16, (some (.s [])), false, true⟩
def tI10 : TI := ⟨.string, 1, 16, (some (.s [])), false, true⟩
def tI11 : TI := ⟨.string, 1, 16, (some (.s [])), false, true⟩
def tI12 : TI := ⟨(.int .u64), 1, 8, (some (.i .u64 (.c (.ofNat 0)))), false, true⟩
def tI13 : TI := ⟨(.struct [(9, 0, false), (12, 1, false)]), 2, 24, (some (.agg [(.s []), (.i .u64 (.c (.ofNat 0)))])), true, false⟩
def tI14 : TI := ⟨(.struct [(9, 0, false), (12, 1, false)]), 2, 24, (some (.agg [(.s []), (.i .u64 (.c (.ofNat 0)))])), true, false⟩
def tI15 : TI := ⟨(.pointer 60), 1, 8, (some (.p none)), false, true⟩
def tI16 : TI := ⟨(.pointer 63), 1, 8, (some (.p none)), false, true⟩
def tI17 : TI := ⟨(.pointer 72), 1, 8, (some (.p none)), false, true⟩
def tI18 : TI := ⟨(.struct [(17, 0, false)]), 1, 8, (some (.agg [(.p none)])), true, false⟩
def tI19 : TI := ⟨(.struct [(17, 0, false)]), 1, 8, (some (.agg [(.p none)])), true, false⟩
def tI20 : TI := ⟨(.iface true), 1, 16, (some .ni), false, true⟩
def tI21 : TI := ⟨(.int .i32), 1, 4, (some (.i .i32 (.c (.ofNat 0)))), false, true⟩
def tI22 : TI := ⟨(.int .u64), 1, 8, (some (.i .u64 (.c (.ofNat 0)))), false, true⟩
def tI23 : TI := ⟨.func, 1, 8, (some .nf), false, true⟩
def tI24 : TI := ⟨.other, 1, 0, (some (.tup [(.i .u64 (.c (.ofNat 0))), (.b (.c false))])), false, true⟩
def tI25 : TI := ⟨.func, 1, 8, (some .nf), false, true⟩
def tI26 : TI := ⟨.func, 1, 8, (some .nf), false, true⟩
def tI27 : TI := ⟨.func, 1, 8, (some .nf), false, true⟩
def tI28 : TI := ⟨(.int .i64), 1, 8, (some (.i .i64 (.c (.ofNat 0)))), false, true⟩
def tI29 : TI := ⟨.other, 1, 0, (some (.tup [(.i .u64 (.c (.ofNat 0))), (.i .i64 (.c (.ofNat 0)))])), false, true⟩
def tI30 : TI := ⟨.func, 1, 8, (some .nf), false, true⟩
def tI31 : TI := ⟨.func, 1, 8, (some .nf), false, true⟩
def tI32 : TI := ⟨(.int .u32), 1, 4, (some (.i .u32 (.c (.ofNat 0)))), false, true⟩
def tI33 : TI := ⟨(.slice 22), 1, 24, (some (.sl none 0 0)), false, true⟩
def tI34 : TI := ⟨(.slice 3), 1, 24, (some (.sl none 0 0)), false, true⟩
def tI35 : TI := ⟨.func, 1, 8, (some .nf), false, true⟩
def tI36 : TI := ⟨(.slice 4), 1, 24, (some (.sl none 0 0)), false, true⟩
def tI37 : TI := ⟨.func, 1, 8, (some .nf), false, true⟩
def tI38 : TI := ⟨(.int .i8), 1, 1, (some (.i .i8 (.c (.ofNat 0)))), false, true⟩
def tI39 : TI := ⟨(.int .i16), 1, 2, (some (.i .i16 (.c (.ofNat 0)))), false, true⟩
def tI40 : TI := ⟨.func, 1, 8, (some .nf), false, true⟩
def tI41 : TI := ⟨(.int .u64), 1, 8, (some (.i .u64 (.c (.ofNat 0)))), false, true⟩
def tI42 : TI := ⟨.func, 1, 8, (some .nf), false, true⟩
def tI43 : TI := ⟨.func, 1, 8, (some .nf), false, true⟩
def tI44 : TI := ⟨.func, 1, 8, (some .nf), false, true⟩
def tI45 : TI := ⟨.func, 1, 8, (some .nf), false, true⟩
def tI46 : TI := ⟨.func, 1, 8, (some .nf), false, true⟩
def tI47 : TI := ⟨.func, 1, 8, (some .nf), false, true⟩
def tI48 : TI := ⟨.func, 1, 8, (some .nf), false, true⟩
def tI49 : TI := ⟨(.struct [(3, 0, false)]), 1, 8, (some (.agg [(.i .i64 (.c (.ofNat 0)))])), true, true⟩
def tI50 : TI := ⟨(.struct [(3, 0, false)]), 1, 8, (some (.agg [(.i .i64 (.c (.ofNat 0)))])), true, true⟩
def tI51 : TI := ⟨.func, 1, 8, (some .nf), false, true⟩
def tI52 : TI := ⟨.func, 1, 8, (some .nf), false, true⟩
def tI53 : TI := ⟨.func, 1, 8, (some .nf), false, true⟩
def tI54 : TI := ⟨(.array 32 5), 32, 32, (some (.agg [(.i .u8 (.c (.ofNat 0))), (.i .u8 (.c (.ofNat 0))), (.i .u8 (.c (.ofNat 0))), (.i .u8 (.c (.ofNat 0))), (.i .u8 (.c (.ofNat 0))), (.i .u8 (.c (.ofNat 0))), (.i .u8 (.c (.ofNat 0))), (.i .u8 (.c (.ofNat 0))), (.i .u8 (.c (.ofNat 0))), (.i .u8 (.c (.ofNat 0))), (.i .u8 (.c (.ofNat 0))), (.i .u8 (.c (.ofNat 0))), (.i .u8 (.c (.ofNat 0))), (.i .u8 (.c (.ofNat 0))), (.i .u8 (.c (.ofNat 0))), (.i .u8 (.c (.ofNat 0))), (.i .u8 (.c (.ofNat 0))), (.i .u8 (.c (.ofNat 0))), (.i .u8 (.c (.ofNat 0))), (.i .u8 (.c (.ofNat 0))), (.i .u8 (.c (.ofNat 0))), (.i .u8 (.c (.ofNat 0))), (.i .u8 (.c (.ofNat 0))), (.i .u8 (.c (.ofNat 0))), (.i .u8 (.c (.ofNat 0))), (.i .u8 (.c (.ofNat 0))), (.i .u8 (.c (.ofNat 0))), (.i .u8 (.c (.ofNat 0))), (.i .u8 (.c (.ofNat 0))), (.i .u8 (.c (.ofNat 0))), (.i .u8 (.c (.ofNat 0))), (.i .u8 (.c (.ofNat 0)))])), true, true⟩
def tI55 : TI := ⟨(.array 64 5), 64, 64, (some (.agg [(.i .u8 (.c (.ofNat 0))), (.i .u8 (.c (.ofNat 0))), (.i .u8 (.c (.ofNat 0))), (.i .u8 (.c (.ofNat 0))), (.i .u8 (.c (.ofNat 0))), (.i .u8 (.c (.ofNat 0))), (.i .u8 (.c (.ofNat 0))), (.i .u8 (.c (.ofNat 0))), (.i .u8 (.c (.ofNat 0))), (.i .u8 (.c (.ofNat 0))), (.i .u8 (.c (.ofNat 0))), (.i .u8 (.c (.ofNat 0))), (.i .u8 (.c (.ofNat 0))), (.i .u8 (.c (.ofNat 0))), (.i .u8 (.c (.ofNat 0))), (.i .u8 (.c (.ofNat 0))), (.i .u8 (.c (.ofNat 0))), (.i .u8 (.c (.ofNat 0))), (.i .u8 (.c (.ofNat 0))), (.i .u8 (.c (.ofNat 0))), (.i .u8 (.c (.ofNat 0))), (.i .u8 (.c (.ofNat 0))), (.i .u8 (.c (.ofNat 0))), (.i .u8 (.c (.ofNat 0))), (.i .u8 (.c (.ofNat 0))), (.i .u8 (.c (.ofNat 0))), (.i .u8 (.c (.ofNat 0))), (.i .u8 (.c (.ofNat 0))), (.i .u8 (.c (.ofNat 0))), (.i .u8 (.c (.ofNat 0))), (.i .u8 (.c (.ofNat 0))), (.i .u8 (.c (.ofNat 0))), (.i .u8 (.c (.ofNat 0))), (.i .u8 (.c (.ofNat 0))), (.i .u8 (.c (.ofNat 0))), (.i .u8 (.c (.ofNat 0))), (.i .u8 (.c (.ofNat 0))), (.i .u8 (.c (.ofNat 0))), (.i .u8 (.c (.ofNat 0))), (.i .u8 (.c (.ofNat 0))), (.i .u8 (.c (.ofNat 0))), (.i .u8 (.c (.ofNat 0))), (.i .u8 (.c (.ofNat 0))), (.i .u8 (.c (.ofNat 0))), (.i .u8 (.c (.ofNat 0))), (.i .u8 (.c (.ofNat 0))), (.i .u8 (.c (.ofNat 0))), (.i .u8 (.c (.ofNat 0))), (.i .u8 (.c (.ofNat 0))), (.i .u8 (.c (.ofNat 0))), (.i .u8 (.c (.ofNat 0))), (.i .u8 (.c (.ofNat 0))), (.i .u8 (.c (.ofNat 0))), (.i .u8 (.c (.ofNat 0))), (.i .u8 (.c (.ofNat 0))), (.i .u8 (.c (.ofNat 0))), (.i .u8 (.c (.ofNat 0))), (.i .u8 (.c (.ofNat 0))), (.i .u8 (.c (.ofNat 0))), (.i .u8 (.c (.ofNat 0))), (.i .u8 (.c (.ofNat 0))), (.i .u8 (.c (.ofNat 0))), (.i .u8 (.c (.ofNat 0))), (.i .u8 (.c (.ofNat 0)))])), true, true⟩
def tI56 : TI := ⟨.func, 1, 8, (some .nf), false, true⟩
def tI57 : TI := ⟨.func, 1, 8, (some .nf), false, true⟩
def tI58 : TI := ⟨.func, 1, 8, (some .nf), false, true⟩
def tI59 : TI := ⟨(.struct [(17, 0, false), (17, 1, false), (17, 2, false), (9, 3, false)]), 4, 40, (some (.agg [(.p none), (.p none), (.p none), (.s [])])), true, false⟩
def tI60 : TI := ⟨(.struct [(17, 0, false), (17, 1, false), (17, 2, false), (9, 3, false)]), 4, 40, (some (.agg [(.p none), (.p none), (.p none), (.s [])])), true, false⟩
def tI61 : TI := ⟨(.array 0 16), 0, 0, (some (.agg [])), true, true⟩
def tI62 : TI := ⟨(.struct [(61, 0, true)]), 0, 0, (some (.agg [])), true, false⟩
def tI63 : TI := ⟨(.struct [(61, 0, true)]), 0, 0, (some (.agg [])), true, false⟩
def tI64 : TI := ⟨.func, 1, 8, (some .nf), false, true⟩
def tI65 : TI := ⟨(.int .u8), 1, 1, (some (.i .u8 (.c (.ofNat 0)))), false, true⟩
def tI66 : TI := ⟨(.int .u8), 1, 1, (some (.i .u8 (.c (.ofNat 0)))), false, true⟩
def tI67 : TI := ⟨.func, 1, 8, (some .nf), false, true⟩
def tI68 : TI := ⟨(.pointer 5), 1, 8, (some (.p none)), false, true⟩
def tI69 : TI := ⟨(.int .i32), 1, 4, (some (.i .i32 (.c (.ofNat 0)))), false, true⟩
def tI70 : TI := ⟨(.int .i32), 1, 4, (some (.i .i32 (.c (.ofNat 0)))), false, true⟩
def tI71 : TI := ⟨(.struct [(12, 0, false), (12, 1, false), (32, 2, false), (65, 3, false), (5, 4, false), (5, 5, false), (66, 6, false), (67, 7, false), (68, 8, false), (69, 9, false), (70, 10, false)]), 11, 48, (some (.agg [(.i .u64 (.c (.ofNat 0))), (.i .u64 (.c (.ofNat 0))), (.i .u32 (.c (.ofNat 0))), (.i .u8 (.c (.ofNat 0))), (.i .u8 (.c (.ofNat 0))), (.i .u8 (.c (.ofNat 0))), (.i .u8 (.c (.ofNat 0))), .nf, (.p none), (.i .i32 (.c (.ofNat 0))), (.i .i32 (.c (.ofNat 0)))])), true, false⟩
def tI72 : TI := ⟨(.struct [(12, 0, false), (12, 1, false), (32, 2, false), (65, 3, false), (5, 4, false), (5, 5, false), (66, 6, false), (67, 7, false), (68, 8, false), (69, 9, false), (70, 10, false)]), 11, 48, (some (.agg [(.i .u64 (.c (.ofNat 0))), (.i .u64 (.c (.ofNat 0))), (.i .u32 (.c (.ofNat 0))), (.i .u8 (.c (.ofNat 0))), (.i .u8 (.c (.ofNat 0))), (.i .u8 (.c (.ofNat 0))), (.i .u8 (.c (.ofNat 0))), .nf, (.p none), (.i .i32 (.c (.ofNat 0))), (.i .i32 (.c (.ofNat 0)))])), true, false⟩
def tI73 : TI := ⟨.other, 1, 8, (some (.p none)), false, true⟩
def tyTab : Tr TI := (.node (.node (.node (.node (.node (.node (.node .nil (some tI63) .nil) (some tI31) .nil) (some tI15) (.node .nil (some tI47) .nil)) (some tI7) (.node (.node (.node .nil (some tI71) .nil) (some tI39) .nil) (some tI23) (.node .nil (some tI55) .nil))) (some tI3) (.node (.node (.node (.node .nil (some tI67) .nil) (some tI35) .nil) (some tI19) (.node .nil (some tI51) .nil)) (some tI11) (.node (.node .nil (some tI43) .nil) (some tI27) (.node .nil (some tI59) .nil)))) (some tI1) (.node (.node (.node (.node (.node .nil (some tI65) .nil) (some tI33) .nil) (some tI17) (.node .nil (some tI49) .nil)) (some tI9) (.node (.node (.node .nil (some tI73) .nil) (some tI41) .nil) (some tI25) (.node .nil (some tI57) .nil))) (some tI5) (.node (.node (.node (.node .nil (some tI69) .nil) (some tI37) .nil) (some tI21) (.node .nil (some tI53) .nil)) (some tI13) (.node (.node .nil (some tI45) .nil) (some tI29) (.node .nil (some tI61) .nil))))) (some tI0) (.node (.node (.node (.node (.node (.node .nil (some tI64) .nil) (some tI32) .nil) (some tI16) (.node .nil (some tI48) .nil)) (some tI8) (.node (.node (.node .nil (some tI72) .nil) (some tI40) .nil) (some tI24) (.node .nil (some tI56) .nil))) (some tI4) (.node (.node (.node (.node .nil (some tI68) .nil) (some tI36) .nil) (some tI20) (.node .nil (some tI52) .nil)) (some tI12) (.node (.node .nil (some tI44) .nil) (some tI28) (.node .nil (some tI60) .nil)))) (some tI2) (.node (.node (.node (.node (.node .nil (some tI66) .nil) (some tI34) .nil) (some tI18) (.node .nil (some tI50) .nil)) (some tI10) (.node (.node .nil (some tI42) .nil) (some tI26) (.node .nil (some tI58) .nil))) (some tI6) (.node (.node (.node (.node .nil (some tI70) .nil) (some tI38) .nil) (some tI22) (.node .nil (some tI54) .nil)) (some tI14) (.node (.node .nil (some tI46) .nil) (some tI30) (.node .nil (some tI62) .nil))))))
def fuTab : Tr Fu := (.node (.node (.node (.node (.node (.node (.node .nil (some (.mk 2 [] (bodyOf Tryd.f63))) .nil) (some (.mk 60 [.tmp 10] (bodyOf Tryd.f31))) .nil) (some (.mk 57 [.tmp 2] (bodyOf Tryd.f15))) .nil) (some (.mk 115 [.tmp 4] (bodyOf Tryd.f7))) (.node (.node .nil (some (.mk 13 [.tmp 4] (bodyOf Tryd.f39))) .nil) (some (.mk 21 [.tmp 2] (bodyOf Tryd.f23))) .nil)) (some (.mk 38 [.tmp 4] (bodyOf Tryd.f3))) (.node (.node (.node .nil (some (.mk 133 [.tmp 8, .tmp 9] (bodyOf Tryd.f35))) .nil) (some (.mk 13 [.tmp 2] (bodyOf Tryd.f19))) .nil) (some (.mk 95 [.tmp 8] (bodyOf Tryd.f11))) (.node .nil (some (.mk 6 [.tmp 2] (bodyOf Tryd.f27))) .nil))) none (.node (.node (.node (.node .nil (some (.mk 11 [.tmp 4] (bodyOf Tryd.f33))) .nil) (some (.mk 74 [.tmp 6, .tmp 7] (bodyOf Tryd.f17))) .nil) (some (.mk 141 [.tmp 2] (bodyOf Tryd.f9))) (.node (.node .nil (some (.mk 17 [.tmp 4] (bodyOf Tryd.f41))) .nil) (some (.mk 14 [.tmp 2] (bodyOf Tryd.f25))) .nil)) (some (.mk 88 [.tmp 4] (bodyOf Tryd.f5))) (.node (.node (.node .nil (some (.mk 25 [.tmp 2] (bodyOf Tryd.f37))) .nil) (some (.mk 6 [.tmp 2] (bodyOf Tryd.f21))) .nil) (some (.mk 86 [.tmp 4, .tmp 5] (bodyOf Tryd.f13))) (.node .nil (some (.mk 4 [.tmp 2] (bodyOf Tryd.f29))) .nil)))) none (.node (.node (.node (.node (.node .nil (some (.mk 89 [.tmp 8, .tmp 9] (bodyOf Tryd.f32))) .nil) (some (.mk 77 [.tmp 2] (bodyOf Tryd.f16))) .nil) (some (.mk 126 [.tmp 4] (bodyOf Tryd.f8))) (.node (.node .nil (some (.mk 18 [.tmp 6] (bodyOf Tryd.f40))) .nil) (some (.mk 6 [.tmp 2] (bodyOf Tryd.f24))) .nil)) (some (.mk 35 [.tmp 6] (bodyOf Tryd.f4))) (.node (.node (.node .nil (some (.mk 19 [.tmp 2] (bodyOf Tryd.f36))) .nil) (some (.mk 4 [.tmp 2] (bodyOf Tryd.f20))) .nil) (some (.mk 44 [.tmp 0] (bodyOf Tryd.f12))) (.node .nil (some (.mk 12 [.tmp 4] (bodyOf Tryd.f28))) .nil))) (some (.mk 1 [] (bodyOf Tryd.f2))) (.node (.node (.node (.node .nil (some (.mk 70 [.tmp 10] (bodyOf Tryd.f34))) .nil) (some (.mk 61 [.tmp 6, .tmp 7] (bodyOf Tryd.f18))) .nil) (some (.mk 90 [.tmp 0] (bodyOf Tryd.f10))) (.node (.node .nil (some (.mk 17 [.tmp 4] (bodyOf Tryd.f42))) .nil) (some (.mk 35 [.tmp 2] (bodyOf Tryd.f26))) .nil)) (some (.mk 184 [.tmp 4] (bodyOf Tryd.f6))) (.node (.node (.node .nil (some (.mk 67 [.tmp 8, .tmp 9] (bodyOf Tryd.f38))) .nil) (some (.mk 14 [.tmp 2] (bodyOf Tryd.f22))) .nil) (some (.mk 134 [.tmp 4, .tmp 5] (bodyOf Tryd.f14))) (.node .nil (some (.mk 13 [.tmp 4] (bodyOf Tryd.f30))) .nil)))))
/-- The same, with the calls whose answer is known. -/
def fuB : Tr Fu := (.node (.node (.node (.node (.node (.node (.node .nil (some (.mk 2 [] (bodyOf Tryd.f63))) .nil) (some (.mk 60 [.tmp 10] (bodyOf Tryd.f31))) .nil) (some (.mk 57 [.tmp 2] (bodyOf Tryd.f15))) .nil) (some (.mk 115 [.tmp 4] (bodyOf Tryd.f7))) (.node (.node .nil (some (.mk 13 [.tmp 4] (bodyOf Tryd.f39))) .nil) (some (.mk 21 [.tmp 2] (bodyOf Tryd.f23))) .nil)) (some (.mk 38 [.tmp 4] (bodyOf Tryd.f3))) (.node (.node (.node .nil (some (.mk 133 [.tmp 8, .tmp 9] (bodyOf Tryd.f35))) .nil) (some (.mk 13 [.tmp 2] (bodyOf Tryd.f19))) .nil) (some (.mk 95 [.tmp 8] (bodyOf Tryd.f11))) (.node .nil (some (.mk 6 [.tmp 2] (bodyOf Tryd.f27))) .nil))) none (.node (.node (.node (.node .nil (some (.mk 11 [.tmp 4] (bodyOf Tryd.f33))) .nil) (some (.mk 74 [.tmp 6, .tmp 7] (bodyOf Tryd.f17))) .nil) (some (.mk 141 [.tmp 2] (bodyOf Tryd.f9))) (.node (.node .nil (some (.mk 17 [.tmp 4] (bodyOf Tryd.f41))) .nil) (some (.mk 14 [.tmp 2] (bodyOf Tryd.f25))) .nil)) (some (.mk 88 [.tmp 4] (bodyOf Tryd.f5))) (.node (.node (.node .nil (some (.mk 25 [.tmp 2] (bodyOf Tryd.f37))) .nil) (some (.mk 6 [.tmp 2] (bodyOf Tryd.f21))) .nil) (some (.mk 86 [.tmp 4, .tmp 5] (bodyOf Tryd.f13))) (.node .nil (some (.mk 4 [.tmp 2] (bodyOf Tryd.f29))) .nil)))) none (.node (.node (.node (.node (.node .nil (some (.mk 89 [.tmp 8, .tmp 9] (bodyOf Tryd.f32))) .nil) (some (.mk 77 [.tmp 2] (bodyOf Tryd.f16))) .nil) (some (.mk 126 [.tmp 4] (bodyOf Tryd.f8))) (.node (.node .nil (some (.mk 18 [.tmp 6] (bodyOf Tryd.f40))) .nil) (some (.mk 6 [.tmp 2] (bodyOf Tryd.f24))) .nil)) (some (.mk 35 [.tmp 6] (bodyOf Tryd.f4))) (.node (.node (.node .nil (some (.mk 19 [.tmp 2] (bodyOf Tryd.f36))) .nil) (some (.mk 4 [.tmp 2] (bodyOf Tryd.f20))) .nil) (some (.sum (constG true))) (.node .nil (some (.mk 12 [.tmp 4] (bodyOf Tryd.f28))) .nil))) (some (.mk 1 [] (bodyOf Tryd.f2))) (.node (.node (.node (.node .nil (some (.mk 70 [.tmp 10] (bodyOf Tryd.f34))) .nil) (some (.mk 61 [.tmp 6, .tmp 7] (bodyOf Tryd.f18))) .nil) (some (.mk 90 [.tmp 0] (bodyOf Tryd.f10))) (.node (.node .nil (some (.mk 17 [.tmp 4] (bodyOf Tryd.f42))) .nil) (some (.mk 35 [.tmp 2] (bodyOf Tryd.f26))) .nil)) (some (.mk 184 [.tmp 4] (bodyOf Tryd.f6))) (.node (.node (.node .nil (some (.mk 67 [.tmp 8, .tmp 9] (bodyOf Tryd.f38))) .nil) (some (.mk 14 [.tmp 2] (bodyOf Tryd.f22))) .nil) (some (.mk 134 [.tmp 4, .tmp 5] (bodyOf Tryd.f14))) (.node .nil (some (.mk 13 [.tmp 4] (bodyOf Tryd.f30))) .nil)))))
end
end Go.Vm
