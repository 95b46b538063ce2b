/- Facts on the types and functions of this seat; no condition. -/
import Derived.Test.YtgmcdlfmifijlaaDDat
import Derived.Test.YtgmcdlfmifijlaaDPlAuth
import Derived.Test.YtgmcdlfmifijlaaProg
set_option linter.unusedVariables false
set_option linter.unusedSimpArgs false
namespace Go.Proofs.Ytgmcdlfmifijlaa.Dev
open Go.RowKit

theorem sz3 : (Try.prog.info? 3).map (fun i => i.size) = some 1 := by kernel_rfl
theorem sz4 : (Try.prog.info? 4).map (fun i => i.size) = some 1 := by kernel_rfl
theorem sz5 : (Try.prog.info? 5).map (fun i => i.size) = some 1 := by kernel_rfl
theorem sz6 : (Try.prog.info? 6).map (fun i => i.size) = some 1 := by kernel_rfl
theorem sz21 : (Try.prog.info? 21).map (fun i => i.size) = some 1 := by kernel_rfl
theorem sz22 : (Try.prog.info? 22).map (fun i => i.size) = some 1 := by kernel_rfl
theorem sz24 : (Try.prog.info? 24).map (fun i => i.size) = some 1 := by kernel_rfl
theorem sz25 : (Try.prog.info? 25).map (fun i => i.size) = some 3 := by kernel_rfl
theorem sz26 : (Try.prog.info? 26).map (fun i => i.size) = some 3 := by kernel_rfl
theorem sz27 : (Try.prog.info? 27).map (fun i => i.size) = some 1 := by kernel_rfl
theorem sz31 : (Try.prog.info? 31).map (fun i => i.size) = some 4 := by kernel_rfl
theorem sz32 : (Try.prog.info? 32).map (fun i => i.size) = some 4 := by kernel_rfl
theorem sz40 : (Try.prog.info? 40).map (fun i => i.size) = some 3 := by kernel_rfl
theorem sz41 : (Try.prog.info? 41).map (fun i => i.size) = some 3 := by kernel_rfl
theorem sz42 : (Try.prog.info? 42).map (fun i => i.size) = some 1 := by kernel_rfl
theorem sz43 : (Try.prog.info? 43).map (fun i => i.size) = some 2 := by kernel_rfl
theorem sz44 : (Try.prog.info? 44).map (fun i => i.size) = some 2 := by kernel_rfl
theorem sz46 : (Try.prog.info? 46).map (fun i => i.size) = some 2 := by kernel_rfl
theorem sz47 : (Try.prog.info? 47).map (fun i => i.size) = some 2 := by kernel_rfl
theorem sz56 : (Try.prog.info? 56).map (fun i => i.size) = some 1 := by kernel_rfl
theorem sz57 : (Try.prog.info? 57).map (fun i => i.size) = some 2 := by kernel_rfl
theorem sz58 : (Try.prog.info? 58).map (fun i => i.size) = some 2 := by kernel_rfl
theorem sz59 : (Try.prog.info? 59).map (fun i => i.size) = some 4 := by kernel_rfl
theorem sz60 : (Try.prog.info? 60).map (fun i => i.size) = some 4 := by kernel_rfl
theorem sz69 : (Try.prog.info? 69).map (fun i => i.size) = some 1 := by kernel_rfl
theorem sz70 : (Try.prog.info? 70).map (fun i => i.size) = some 3 := by kernel_rfl
theorem sz71 : (Try.prog.info? 71).map (fun i => i.size) = some 3 := by kernel_rfl
theorem sz74 : (Try.prog.info? 74).map (fun i => i.size) = some 8 := by kernel_rfl
theorem sz75 : (Try.prog.info? 75).map (fun i => i.size) = some 8 := by kernel_rfl
theorem sz83 : (Try.prog.info? 83).map (fun i => i.size) = some 1 := by kernel_rfl
theorem sz84 : (Try.prog.info? 84).map (fun i => i.size) = some 1 := by kernel_rfl
theorem sz85 : (Try.prog.info? 85).map (fun i => i.size) = some 2 := by kernel_rfl
theorem sz86 : (Try.prog.info? 86).map (fun i => i.size) = some 2 := by kernel_rfl
theorem sz91 : (Try.prog.info? 91).map (fun i => i.size) = some 6 := by kernel_rfl
theorem sz92 : (Try.prog.info? 92).map (fun i => i.size) = some 6 := by kernel_rfl
theorem sz102 : (Try.prog.info? 102).map (fun i => i.size) = some 1 := by kernel_rfl
theorem sz110 : (Try.prog.info? 110).map (fun i => i.size) = some 2 := by kernel_rfl
theorem sz111 : (Try.prog.info? 111).map (fun i => i.size) = some 2 := by kernel_rfl
theorem sz114 : (Try.prog.info? 114).map (fun i => i.size) = some 1 := by kernel_rfl
theorem sz115 : (Try.prog.info? 115).map (fun i => i.size) = some 1 := by kernel_rfl
theorem sz126 : (Try.prog.info? 126).map (fun i => i.size) = some 4 := by kernel_rfl
theorem sz127 : (Try.prog.info? 127).map (fun i => i.size) = some 4 := by kernel_rfl
theorem sz136 : (Try.prog.info? 136).map (fun i => i.size) = some 1 := by kernel_rfl
theorem sz168 : (Try.prog.info? 168).map (fun i => i.size) = some 1 := by kernel_rfl
theorem zv3 : (Try.prog.info? 3).bind (fun i => i.zero) = some (.int .i64 0) := by kernel_rfl
theorem zv4 : (Try.prog.info? 4).bind (fun i => i.zero) = some (.bool false) := by kernel_rfl
theorem zv5 : (Try.prog.info? 5).bind (fun i => i.zero) = some (.int .u8 0) := by kernel_rfl
theorem zv6 : (Try.prog.info? 6).bind (fun i => i.zero) = some (.int .u8 0) := by kernel_rfl
theorem zv21 : (Try.prog.info? 21).bind (fun i => i.zero) = some (.int .i32 0) := by kernel_rfl
theorem zv22 : (Try.prog.info? 22).bind (fun i => i.zero) = some (.slice none 0 0) := by kernel_rfl
theorem zv24 : (Try.prog.info? 24).bind (fun i => i.zero) = some (.slice none 0 0) := by kernel_rfl
theorem zv25 : (Try.prog.info? 25).bind (fun i => i.zero) = some (.agg #[.int .i64 0, .slice none 0 0, .slice none 0 0]) := by kernel_rfl
theorem bld25 : Bld Try.prog 25 [.int .i64 0, .slice none 0 0, .slice none 0 0] [(0, 1), (1, 1), (2, 1)] := ⟨by kernel_rfl, by kernel_rfl⟩
theorem zv26 : (Try.prog.info? 26).bind (fun i => i.zero) = some (.agg #[.int .i64 0, .slice none 0 0, .slice none 0 0]) := by kernel_rfl
theorem bld26 : Bld Try.prog 26 [.int .i64 0, .slice none 0 0, .slice none 0 0] [(0, 1), (1, 1), (2, 1)] := ⟨by kernel_rfl, by kernel_rfl⟩
theorem zv27 : (Try.prog.info? 27).bind (fun i => i.zero) = some (.int .i64 0) := by kernel_rfl
theorem zv31 : (Try.prog.info? 31).bind (fun i => i.zero) = some (.agg #[.int .i64 0, .int .i64 0, .int .i64 0, .int .i64 0]) := by kernel_rfl
theorem bld31 : Bld Try.prog 31 [.int .i64 0, .int .i64 0, .int .i64 0, .int .i64 0] [(0, 1), (1, 1), (2, 1), (3, 1)] := ⟨by kernel_rfl, by kernel_rfl⟩
theorem zv32 : (Try.prog.info? 32).bind (fun i => i.zero) = some (.agg #[.int .i64 0, .int .i64 0, .int .i64 0, .int .i64 0]) := by kernel_rfl
theorem bld32 : Bld Try.prog 32 [.int .i64 0, .int .i64 0, .int .i64 0, .int .i64 0] [(0, 1), (1, 1), (2, 1), (3, 1)] := ⟨by kernel_rfl, by kernel_rfl⟩
theorem zv40 : (Try.prog.info? 40).bind (fun i => i.zero) = some (.agg #[.int .i64 0, .int .i64 0, .int .i64 0]) := by kernel_rfl
theorem bld40 : Bld Try.prog 40 [.int .i64 0, .int .i64 0, .int .i64 0] [(0, 1), (1, 1), (2, 1)] := ⟨by kernel_rfl, by kernel_rfl⟩
theorem zv41 : (Try.prog.info? 41).bind (fun i => i.zero) = some (.agg #[.int .i64 0, .int .i64 0, .int .i64 0]) := by kernel_rfl
theorem bld41 : Bld Try.prog 41 [.int .i64 0, .int .i64 0, .int .i64 0] [(0, 1), (1, 1), (2, 1)] := ⟨by kernel_rfl, by kernel_rfl⟩
theorem zv42 : (Try.prog.info? 42).bind (fun i => i.zero) = some (.slice none 0 0) := by kernel_rfl
theorem zv43 : (Try.prog.info? 43).bind (fun i => i.zero) = some (.agg #[.int .i64 0, .int .i64 0]) := by kernel_rfl
theorem bld43 : Bld Try.prog 43 [.int .i64 0, .int .i64 0] [(0, 1), (1, 1)] := ⟨by kernel_rfl, by kernel_rfl⟩
theorem zv44 : (Try.prog.info? 44).bind (fun i => i.zero) = some (.agg #[.int .i64 0, .int .i64 0]) := by kernel_rfl
theorem bld44 : Bld Try.prog 44 [.int .i64 0, .int .i64 0] [(0, 1), (1, 1)] := ⟨by kernel_rfl, by kernel_rfl⟩
theorem zv46 : (Try.prog.info? 46).bind (fun i => i.zero) = some (.agg #[.int .i64 0, .int .i64 0]) := by kernel_rfl
theorem bld46 : Bld Try.prog 46 [.int .i64 0, .int .i64 0] [(0, 1), (1, 1)] := ⟨by kernel_rfl, by kernel_rfl⟩
theorem zv47 : (Try.prog.info? 47).bind (fun i => i.zero) = some (.agg #[.int .i64 0, .int .i64 0]) := by kernel_rfl
theorem bld47 : Bld Try.prog 47 [.int .i64 0, .int .i64 0] [(0, 1), (1, 1)] := ⟨by kernel_rfl, by kernel_rfl⟩
theorem zv56 : (Try.prog.info? 56).bind (fun i => i.zero) = some (.slice none 0 0) := by kernel_rfl
theorem zv57 : (Try.prog.info? 57).bind (fun i => i.zero) = some (.agg #[.int .i64 0, .slice none 0 0]) := by kernel_rfl
theorem bld57 : Bld Try.prog 57 [.int .i64 0, .slice none 0 0] [(0, 1), (1, 1)] := ⟨by kernel_rfl, by kernel_rfl⟩
theorem zv58 : (Try.prog.info? 58).bind (fun i => i.zero) = some (.agg #[.int .i64 0, .slice none 0 0]) := by kernel_rfl
theorem bld58 : Bld Try.prog 58 [.int .i64 0, .slice none 0 0] [(0, 1), (1, 1)] := ⟨by kernel_rfl, by kernel_rfl⟩
theorem zv59 : (Try.prog.info? 59).bind (fun i => i.zero) = some (.agg #[.int .i64 0, .int .i64 0, .int .i64 0, .int .i64 0]) := by kernel_rfl
theorem bld59 : Bld Try.prog 59 [.int .i64 0, .int .i64 0, .int .i64 0, .int .i64 0] [(0, 1), (1, 1), (2, 1), (3, 1)] := ⟨by kernel_rfl, by kernel_rfl⟩
theorem zv60 : (Try.prog.info? 60).bind (fun i => i.zero) = some (.agg #[.int .i64 0, .int .i64 0, .int .i64 0, .int .i64 0]) := by kernel_rfl
theorem bld60 : Bld Try.prog 60 [.int .i64 0, .int .i64 0, .int .i64 0, .int .i64 0] [(0, 1), (1, 1), (2, 1), (3, 1)] := ⟨by kernel_rfl, by kernel_rfl⟩
theorem zv69 : (Try.prog.info? 69).bind (fun i => i.zero) = some (.slice none 0 0) := by kernel_rfl
theorem zv70 : (Try.prog.info? 70).bind (fun i => i.zero) = some (.agg #[.int .i64 0, .int .i64 0, .int .i64 0]) := by kernel_rfl
theorem bld70 : Bld Try.prog 70 [.int .i64 0, .int .i64 0, .int .i64 0] [(0, 1), (1, 1), (2, 1)] := ⟨by kernel_rfl, by kernel_rfl⟩
theorem zv71 : (Try.prog.info? 71).bind (fun i => i.zero) = some (.agg #[.int .i64 0, .int .i64 0, .int .i64 0]) := by kernel_rfl
theorem bld71 : Bld Try.prog 71 [.int .i64 0, .int .i64 0, .int .i64 0] [(0, 1), (1, 1), (2, 1)] := ⟨by kernel_rfl, by kernel_rfl⟩
theorem zv74 : (Try.prog.info? 74).bind (fun i => i.zero) = some (.agg #[.int .i64 0, .int .i64 0, .int .i64 0, .int .i64 0, .int .i64 0, .int .i64 0, .int .i64 0, .bool false]) := by kernel_rfl
theorem bld74 : Bld Try.prog 74 [.int .i64 0, .int .i64 0, .int .i64 0, .int .i64 0, .int .i64 0, .int .i64 0, .int .i64 0, .bool false] [(0, 1), (1, 1), (2, 1), (3, 1), (4, 1), (5, 1), (6, 1), (7, 1)] := ⟨by kernel_rfl, by kernel_rfl⟩
theorem zv75 : (Try.prog.info? 75).bind (fun i => i.zero) = some (.agg #[.int .i64 0, .int .i64 0, .int .i64 0, .int .i64 0, .int .i64 0, .int .i64 0, .int .i64 0, .bool false]) := by kernel_rfl
theorem bld75 : Bld Try.prog 75 [.int .i64 0, .int .i64 0, .int .i64 0, .int .i64 0, .int .i64 0, .int .i64 0, .int .i64 0, .bool false] [(0, 1), (1, 1), (2, 1), (3, 1), (4, 1), (5, 1), (6, 1), (7, 1)] := ⟨by kernel_rfl, by kernel_rfl⟩
theorem zv83 : (Try.prog.info? 83).bind (fun i => i.zero) = some (.slice none 0 0) := by kernel_rfl
theorem zv84 : (Try.prog.info? 84).bind (fun i => i.zero) = some (.slice none 0 0) := by kernel_rfl
theorem zv85 : (Try.prog.info? 85).bind (fun i => i.zero) = some (.agg #[.int .i64 0, .int .i64 0]) := by kernel_rfl
theorem bld85 : Bld Try.prog 85 [.int .i64 0, .int .i64 0] [(0, 1), (1, 1)] := ⟨by kernel_rfl, by kernel_rfl⟩
theorem zv86 : (Try.prog.info? 86).bind (fun i => i.zero) = some (.agg #[.int .i64 0, .int .i64 0]) := by kernel_rfl
theorem bld86 : Bld Try.prog 86 [.int .i64 0, .int .i64 0] [(0, 1), (1, 1)] := ⟨by kernel_rfl, by kernel_rfl⟩
theorem zv91 : (Try.prog.info? 91).bind (fun i => i.zero) = some (.agg #[.int .i64 0, .int .i64 0, .int .i64 0, .int .i64 0, .int .i64 0, .slice none 0 0]) := by kernel_rfl
theorem bld91 : Bld Try.prog 91 [.int .i64 0, .int .i64 0, .int .i64 0, .int .i64 0, .int .i64 0, .slice none 0 0] [(0, 1), (1, 1), (2, 3), (5, 1)] := ⟨by kernel_rfl, by kernel_rfl⟩
theorem zv92 : (Try.prog.info? 92).bind (fun i => i.zero) = some (.agg #[.int .i64 0, .int .i64 0, .int .i64 0, .int .i64 0, .int .i64 0, .slice none 0 0]) := by kernel_rfl
theorem bld92 : Bld Try.prog 92 [.int .i64 0, .int .i64 0, .int .i64 0, .int .i64 0, .int .i64 0, .slice none 0 0] [(0, 1), (1, 1), (2, 3), (5, 1)] := ⟨by kernel_rfl, by kernel_rfl⟩
theorem zv102 : (Try.prog.info? 102).bind (fun i => i.zero) = some (.slice none 0 0) := by kernel_rfl
theorem zv110 : (Try.prog.info? 110).bind (fun i => i.zero) = some (.agg #[.int .i64 0, .int .i64 0]) := by kernel_rfl
theorem bld110 : Bld Try.prog 110 [.int .i64 0, .int .i64 0] [(0, 1), (1, 1)] := ⟨by kernel_rfl, by kernel_rfl⟩
theorem zv111 : (Try.prog.info? 111).bind (fun i => i.zero) = some (.agg #[.int .i64 0, .int .i64 0]) := by kernel_rfl
theorem bld111 : Bld Try.prog 111 [.int .i64 0, .int .i64 0] [(0, 1), (1, 1)] := ⟨by kernel_rfl, by kernel_rfl⟩
theorem zv114 : (Try.prog.info? 114).bind (fun i => i.zero) = some (.slice none 0 0) := by kernel_rfl
theorem zv115 : (Try.prog.info? 115).bind (fun i => i.zero) = some (.slice none 0 0) := by kernel_rfl
theorem zv126 : (Try.prog.info? 126).bind (fun i => i.zero) = some (.agg #[.int .i64 0, .int .i64 0, .int .i64 0, .int .i64 0]) := by kernel_rfl
theorem bld126 : Bld Try.prog 126 [.int .i64 0, .int .i64 0, .int .i64 0, .int .i64 0] [(0, 1), (1, 1), (2, 1), (3, 1)] := ⟨by kernel_rfl, by kernel_rfl⟩
theorem zv127 : (Try.prog.info? 127).bind (fun i => i.zero) = some (.agg #[.int .i64 0, .int .i64 0, .int .i64 0, .int .i64 0]) := by kernel_rfl
theorem bld127 : Bld Try.prog 127 [.int .i64 0, .int .i64 0, .int .i64 0, .int .i64 0] [(0, 1), (1, 1), (2, 1), (3, 1)] := ⟨by kernel_rfl, by kernel_rfl⟩
theorem zv136 : (Try.prog.info? 136).bind (fun i => i.zero) = some (.slice none 0 0) := by kernel_rfl
theorem zv168 : (Try.prog.info? 168).bind (fun i => i.zero) = some (.int .u64 0) := by kernel_rfl
theorem inf32 : (Try.prog.info? 32).map (fun i => (i.zero, i.size, i.bytes)) = some (some (.agg #[.int .i64 0, .int .i64 0, .int .i64 0, .int .i64 0]), 4, 32) := by kernel_rfl
theorem sl22 : SlT Try.prog 22 32 4 32 := slT_mk Try.underlying22 inf32 rfl (by decide)
theorem inf3 : (Try.prog.info? 3).map (fun i => (i.zero, i.size, i.bytes)) = some (some (.int .i64 0), 1, 8) := by kernel_rfl
theorem sl24 : SlT Try.prog 24 3 1 8 := slT_mk Try.underlying24 inf3 rfl (by decide)
theorem inf44 : (Try.prog.info? 44).map (fun i => (i.zero, i.size, i.bytes)) = some (some (.agg #[.int .i64 0, .int .i64 0]), 2, 16) := by kernel_rfl
theorem sl42 : SlT Try.prog 42 44 2 16 := slT_mk Try.underlying42 inf44 rfl (by decide)
theorem inf60 : (Try.prog.info? 60).map (fun i => (i.zero, i.size, i.bytes)) = some (some (.agg #[.int .i64 0, .int .i64 0, .int .i64 0, .int .i64 0]), 4, 32) := by kernel_rfl
theorem sl56 : SlT Try.prog 56 60 4 32 := slT_mk Try.underlying56 inf60 rfl (by decide)
theorem inf71 : (Try.prog.info? 71).map (fun i => (i.zero, i.size, i.bytes)) = some (some (.agg #[.int .i64 0, .int .i64 0, .int .i64 0]), 3, 24) := by kernel_rfl
theorem sl69 : SlT Try.prog 69 71 3 24 := slT_mk Try.underlying69 inf71 rfl (by decide)
theorem inf27 : (Try.prog.info? 27).map (fun i => (i.zero, i.size, i.bytes)) = some (some (.int .i64 0), 1, 8) := by kernel_rfl
theorem sl83 : SlT Try.prog 83 27 1 8 := slT_mk Try.underlying83 inf27 rfl (by decide)
theorem inf86 : (Try.prog.info? 86).map (fun i => (i.zero, i.size, i.bytes)) = some (some (.agg #[.int .i64 0, .int .i64 0]), 2, 16) := by kernel_rfl
theorem sl84 : SlT Try.prog 84 86 2 16 := slT_mk Try.underlying84 inf86 rfl (by decide)
theorem inf111 : (Try.prog.info? 111).map (fun i => (i.zero, i.size, i.bytes)) = some (some (.agg #[.int .i64 0, .int .i64 0]), 2, 16) := by kernel_rfl
theorem sl102 : SlT Try.prog 102 111 2 16 := slT_mk Try.underlying102 inf111 rfl (by decide)
theorem inf127 : (Try.prog.info? 127).map (fun i => (i.zero, i.size, i.bytes)) = some (some (.agg #[.int .i64 0, .int .i64 0, .int .i64 0, .int .i64 0]), 4, 32) := by kernel_rfl
theorem sl114 : SlT Try.prog 114 127 4 32 := slT_mk Try.underlying114 inf127 rfl (by decide)
theorem inf5 : (Try.prog.info? 5).map (fun i => (i.zero, i.size, i.bytes)) = some (some (.int .u8 0), 1, 1) := by kernel_rfl
theorem sl115 : SlT Try.prog 115 5 1 1 := slT_mk Try.underlying115 inf5 rfl (by decide)
theorem inf42 : (Try.prog.info? 42).map (fun i => (i.zero, i.size, i.bytes)) = some (some (.slice none 0 0), 1, 24) := by kernel_rfl
theorem sl136 : SlT Try.prog 136 42 1 24 := slT_mk Try.underlying136 inf42 rfl (by decide)
theorem en29 : Enters Try.prog 29 := fun args w => run_enter Try.func29 (by kernel_rfl) rfl args w
theorem en30 : Enters Try.prog 30 := fun args w => run_enter Try.func30 (by kernel_rfl) rfl args w
theorem en31 : Enters Try.prog 31 := fun args w => run_enter Try.func31 (by kernel_rfl) rfl args w
theorem en32 : Enters Try.prog 32 := fun args w => run_enter Try.func32 (by kernel_rfl) rfl args w
theorem en33 : Enters Try.prog 33 := fun args w => run_enter Try.func33 (by kernel_rfl) rfl args w
theorem en34 : Enters Try.prog 34 := fun args w => run_enter Try.func34 (by kernel_rfl) rfl args w
theorem en35 : Enters Try.prog 35 := fun args w => run_enter Try.func35 (by kernel_rfl) rfl args w
theorem en36 : Enters Try.prog 36 := fun args w => run_enter Try.func36 (by kernel_rfl) rfl args w
theorem en37 : Enters Try.prog 37 := fun args w => run_enter Try.func37 (by kernel_rfl) rfl args w
theorem en38 : Enters Try.prog 38 := fun args w => run_enter Try.func38 (by kernel_rfl) rfl args w
theorem en39 : Enters Try.prog 39 := fun args w => run_enter Try.func39 (by kernel_rfl) rfl args w
theorem en40 : Enters Try.prog 40 := fun args w => run_enter Try.func40 (by kernel_rfl) rfl args w
theorem en41 : Enters Try.prog 41 := fun args w => run_enter Try.func41 (by kernel_rfl) rfl args w
theorem en42 : Enters Try.prog 42 := fun args w => run_enter Try.func42 (by kernel_rfl) rfl args w
theorem en43 : Enters Try.prog 43 := fun args w => run_enter Try.func43 (by kernel_rfl) rfl args w
theorem en44 : Enters Try.prog 44 := fun args w => run_enter Try.func44 (by kernel_rfl) rfl args w
theorem en45 : Enters Try.prog 45 := fun args w => run_enter Try.func45 (by kernel_rfl) rfl args w
theorem en46 : Enters Try.prog 46 := fun args w => run_enter Try.func46 (by kernel_rfl) rfl args w
theorem en47 : Enters Try.prog 47 := fun args w => run_enter Try.func47 (by kernel_rfl) rfl args w
theorem en48 : Enters Try.prog 48 := fun args w => run_enter Try.func48 (by kernel_rfl) rfl args w
theorem en49 : Enters Try.prog 49 := fun args w => run_enter Try.func49 (by kernel_rfl) rfl args w
theorem en50 : Enters Try.prog 50 := fun args w => run_enter Try.func50 (by kernel_rfl) rfl args w
theorem en51 : Enters Try.prog 51 := fun args w => run_enter Try.func51 (by kernel_rfl) rfl args w
theorem en52 : Enters Try.prog 52 := fun args w => run_enter Try.func52 (by kernel_rfl) rfl args w
theorem en53 : Enters Try.prog 53 := fun args w => run_enter Try.func53 (by kernel_rfl) rfl args w
theorem en54 : Enters Try.prog 54 := fun args w => run_enter Try.func54 (by kernel_rfl) rfl args w
theorem en55 : Enters Try.prog 55 := fun args w => run_enter Try.func55 (by kernel_rfl) rfl args w
theorem en56 : Enters Try.prog 56 := fun args w => run_enter Try.func56 (by kernel_rfl) rfl args w
theorem en57 : Enters Try.prog 57 := fun args w => run_enter Try.func57 (by kernel_rfl) rfl args w
theorem en58 : Enters Try.prog 58 := fun args w => run_enter Try.func58 (by kernel_rfl) rfl args w
theorem en59 : Enters Try.prog 59 := fun args w => run_enter Try.func59 (by kernel_rfl) rfl args w
theorem en60 : Enters Try.prog 60 := fun args w => run_enter Try.func60 (by kernel_rfl) rfl args w
theorem en61 : Enters Try.prog 61 := fun args w => run_enter Try.func61 (by kernel_rfl) rfl args w
theorem en62 : Enters Try.prog 62 := fun args w => run_enter Try.func62 (by kernel_rfl) rfl args w
theorem en63 : Enters Try.prog 63 := fun args w => run_enter Try.func63 (by kernel_rfl) rfl args w
theorem en64 : Enters Try.prog 64 := fun args w => run_enter Try.func64 (by kernel_rfl) rfl args w
theorem en65 : Enters Try.prog 65 := fun args w => run_enter Try.func65 (by kernel_rfl) rfl args w
theorem en66 : Enters Try.prog 66 := fun args w => run_enter Try.func66 (by kernel_rfl) rfl args w
theorem en67 : Enters Try.prog 67 := fun args w => run_enter Try.func67 (by kernel_rfl) rfl args w
theorem en68 : Enters Try.prog 68 := fun args w => run_enter Try.func68 (by kernel_rfl) rfl args w
theorem en69 : Enters Try.prog 69 := fun args w => run_enter Try.func69 (by kernel_rfl) rfl args w
theorem en70 : Enters Try.prog 70 := fun args w => run_enter Try.func70 (by kernel_rfl) rfl args w
theorem en71 : Enters Try.prog 71 := fun args w => run_enter Try.func71 (by kernel_rfl) rfl args w
theorem en72 : Enters Try.prog 72 := fun args w => run_enter Try.func72 (by kernel_rfl) rfl args w
theorem en73 : Enters Try.prog 73 := fun args w => run_enter Try.func73 (by kernel_rfl) rfl args w
theorem en74 : Enters Try.prog 74 := fun args w => run_enter Try.func74 (by kernel_rfl) rfl args w
theorem en75 : Enters Try.prog 75 := fun args w => run_enter Try.func75 (by kernel_rfl) rfl args w
theorem en76 : Enters Try.prog 76 := fun args w => run_enter Try.func76 (by kernel_rfl) rfl args w
theorem en77 : Enters Try.prog 77 := fun args w => run_enter Try.func77 (by kernel_rfl) rfl args w
theorem en78 : Enters Try.prog 78 := fun args w => run_enter Try.func78 (by kernel_rfl) rfl args w
theorem en79 : Enters Try.prog 79 := fun args w => run_enter Try.func79 (by kernel_rfl) rfl args w
theorem en80 : Enters Try.prog 80 := fun args w => run_enter Try.func80 (by kernel_rfl) rfl args w
theorem en81 : Enters Try.prog 81 := fun args w => run_enter Try.func81 (by kernel_rfl) rfl args w
theorem en82 : Enters Try.prog 82 := fun args w => run_enter Try.func82 (by kernel_rfl) rfl args w
theorem en83 : Enters Try.prog 83 := fun args w => run_enter Try.func83 (by kernel_rfl) rfl args w
theorem en84 : Enters Try.prog 84 := fun args w => run_enter Try.func84 (by kernel_rfl) rfl args w
theorem en85 : Enters Try.prog 85 := fun args w => run_enter Try.func85 (by kernel_rfl) rfl args w
theorem en86 : Enters Try.prog 86 := fun args w => run_enter Try.func86 (by kernel_rfl) rfl args w
theorem en87 : Enters Try.prog 87 := fun args w => run_enter Try.func87 (by kernel_rfl) rfl args w
theorem en88 : Enters Try.prog 88 := fun args w => run_enter Try.func88 (by kernel_rfl) rfl args w
theorem en89 : Enters Try.prog 89 := fun args w => run_enter Try.func89 (by kernel_rfl) rfl args w
theorem en90 : Enters Try.prog 90 := fun args w => run_enter Try.func90 (by kernel_rfl) rfl args w
theorem en91 : Enters Try.prog 91 := fun args w => run_enter Try.func91 (by kernel_rfl) rfl args w
theorem en92 : Enters Try.prog 92 := fun args w => run_enter Try.func92 (by kernel_rfl) rfl args w
theorem en93 : Enters Try.prog 93 := fun args w => run_enter Try.func93 (by kernel_rfl) rfl args w
theorem en94 : Enters Try.prog 94 := fun args w => run_enter Try.func94 (by kernel_rfl) rfl args w
theorem en95 : Enters Try.prog 95 := fun args w => run_enter Try.func95 (by kernel_rfl) rfl args w
theorem en96 : Enters Try.prog 96 := fun args w => run_enter Try.func96 (by kernel_rfl) rfl args w
theorem en97 : Enters Try.prog 97 := fun args w => run_enter Try.func97 (by kernel_rfl) rfl args w
theorem en98 : Enters Try.prog 98 := fun args w => run_enter Try.func98 (by kernel_rfl) rfl args w
theorem en99 : Enters Try.prog 99 := fun args w => run_enter Try.func99 (by kernel_rfl) rfl args w
theorem en100 : Enters Try.prog 100 := fun args w => run_enter Try.func100 (by kernel_rfl) rfl args w
theorem en101 : Enters Try.prog 101 := fun args w => run_enter Try.func101 (by kernel_rfl) rfl args w
theorem en102 : Enters Try.prog 102 := fun args w => run_enter Try.func102 (by kernel_rfl) rfl args w
theorem en103 : Enters Try.prog 103 := fun args w => run_enter Try.func103 (by kernel_rfl) rfl args w
theorem en104 : Enters Try.prog 104 := fun args w => run_enter Try.func104 (by kernel_rfl) rfl args w
theorem en105 : Enters Try.prog 105 := fun args w => run_enter Try.func105 (by kernel_rfl) rfl args w
theorem en106 : Enters Try.prog 106 := fun args w => run_enter Try.func106 (by kernel_rfl) rfl args w
theorem en107 : Enters Try.prog 107 := fun args w => run_enter Try.func107 (by kernel_rfl) rfl args w
theorem en108 : Enters Try.prog 108 := fun args w => run_enter Try.func108 (by kernel_rfl) rfl args w
theorem en109 : Enters Try.prog 109 := fun args w => run_enter Try.func109 (by kernel_rfl) rfl args w
theorem en110 : Enters Try.prog 110 := fun args w => run_enter Try.func110 (by kernel_rfl) rfl args w
theorem en111 : Enters Try.prog 111 := fun args w => run_enter Try.func111 (by kernel_rfl) rfl args w
theorem en112 : Enters Try.prog 112 := fun args w => run_enter Try.func112 (by kernel_rfl) rfl args w
theorem en113 : Enters Try.prog 113 := fun args w => run_enter Try.func113 (by kernel_rfl) rfl args w
theorem en114 : Enters Try.prog 114 := fun args w => run_enter Try.func114 (by kernel_rfl) rfl args w
theorem en115 : Enters Try.prog 115 := fun args w => run_enter Try.func115 (by kernel_rfl) rfl args w
theorem en116 : Enters Try.prog 116 := fun args w => run_enter Try.func116 (by kernel_rfl) rfl args w
theorem en117 : Enters Try.prog 117 := fun args w => run_enter Try.func117 (by kernel_rfl) rfl args w
theorem en118 : Enters Try.prog 118 := fun args w => run_enter Try.func118 (by kernel_rfl) rfl args w
theorem en119 : Enters Try.prog 119 := fun args w => run_enter Try.func119 (by kernel_rfl) rfl args w
theorem en120 : Enters Try.prog 120 := fun args w => run_enter Try.func120 (by kernel_rfl) rfl args w
theorem en121 : Enters Try.prog 121 := fun args w => run_enter Try.func121 (by kernel_rfl) rfl args w
theorem en122 : Enters Try.prog 122 := fun args w => run_enter Try.func122 (by kernel_rfl) rfl args w
theorem en123 : Enters Try.prog 123 := fun args w => run_enter Try.func123 (by kernel_rfl) rfl args w
theorem en124 : Enters Try.prog 124 := fun args w => run_enter Try.func124 (by kernel_rfl) rfl args w
theorem en125 : Enters Try.prog 125 := fun args w => run_enter Try.func125 (by kernel_rfl) rfl args w
theorem en126 : Enters Try.prog 126 := fun args w => run_enter Try.func126 (by kernel_rfl) rfl args w
theorem en127 : Enters Try.prog 127 := fun args w => run_enter Try.func127 (by kernel_rfl) rfl args w
theorem en128 : Enters Try.prog 128 := fun args w => run_enter Try.func128 (by kernel_rfl) rfl args w
theorem en129 : Enters Try.prog 129 := fun args w => run_enter Try.func129 (by kernel_rfl) rfl args w
theorem en130 : Enters Try.prog 130 := fun args w => run_enter Try.func130 (by kernel_rfl) rfl args w
theorem en131 : Enters Try.prog 131 := fun args w => run_enter Try.func131 (by kernel_rfl) rfl args w
theorem en132 : Enters Try.prog 132 := fun args w => run_enter Try.func132 (by kernel_rfl) rfl args w
theorem en133 : Enters Try.prog 133 := fun args w => run_enter Try.func133 (by kernel_rfl) rfl args w
theorem en134 : Enters Try.prog 134 := fun args w => run_enter Try.func134 (by kernel_rfl) rfl args w
theorem en136 : Enters Try.prog 136 := fun args w => run_enter Try.func136 (by kernel_rfl) rfl args w
theorem en137 : Enters Try.prog 137 := fun args w => run_enter Try.func137 (by kernel_rfl) rfl args w
theorem en138 : Enters Try.prog 138 := fun args w => run_enter Try.func138 (by kernel_rfl) rfl args w
theorem en139 : Enters Try.prog 139 := fun args w => run_enter Try.func139 (by kernel_rfl) rfl args w
theorem en140 : Enters Try.prog 140 := fun args w => run_enter Try.func140 (by kernel_rfl) rfl args w
theorem en141 : Enters Try.prog 141 := fun args w => run_enter Try.func141 (by kernel_rfl) rfl args w
theorem en142 : Enters Try.prog 142 := fun args w => run_enter Try.func142 (by kernel_rfl) rfl args w
theorem mixed : Try.prog.follows .mixedOrders = true := by kernel_rfl
theorem cmp32 (a0 a1 a2 a3 b0 b1 b2 b3 : Int) : CmpS Try.prog 32 [.int .i64 a0, .int .i64 a1, .int .i64 a2, .int .i64 a3] [.int .i64 b0, .int .i64 b1, .int .i64 b2, .int .i64 b3] := ⟨_, Try.underlying32, by kernel_rfl, by kernel_rfl, ⟨⟨by decide, rfl, .inl ⟨_, _, _, _, Try.underlying3, rfl, rfl⟩⟩, ⟨by decide, rfl, .inl ⟨_, _, _, _, Try.underlying3, rfl, rfl⟩⟩, ⟨by decide, rfl, .inl ⟨_, _, _, _, Try.underlying3, rfl, rfl⟩⟩, ⟨by decide, rfl, .inl ⟨_, _, _, _, Try.underlying3, rfl, rfl⟩⟩, trivial⟩⟩
theorem same32 (x y : Advice) : sameL [.int .i64 x.card, .int .i64 x.shop, .int .i64 x.sum, .int .i64 x.time] [.int .i64 y.card, .int .i64 y.shop, .int .i64 y.sum, .int .i64 y.time] = decide (x = y) := by
  obtain ⟨a0, a1, a2, a3⟩ := x; obtain ⟨b0, b1, b2, b3⟩ := y
  simp only [sameL, sameV, Advice.mk.injEq, Bool.and_true, Bool.decide_and]
theorem cmp44 (a0 a1 b0 b1 : Int) : CmpS Try.prog 44 [.int .i64 a0, .int .i64 a1] [.int .i64 b0, .int .i64 b1] := ⟨_, Try.underlying44, by kernel_rfl, by kernel_rfl, ⟨⟨by decide, rfl, .inl ⟨_, _, _, _, Try.underlying3, rfl, rfl⟩⟩, ⟨by decide, rfl, .inl ⟨_, _, _, _, Try.underlying3, rfl, rfl⟩⟩, trivial⟩⟩
theorem same44 (x y : Use) : sameL [.int .i64 x.time, .int .i64 x.sum] [.int .i64 y.time, .int .i64 y.sum] = decide (x = y) := by
  obtain ⟨a0, a1⟩ := x; obtain ⟨b0, b1⟩ := y
  simp only [sameL, sameV, Use.mk.injEq, Bool.and_true, Bool.decide_and]
theorem cmp60 (a0 a1 a2 a3 b0 b1 b2 b3 : Int) : CmpS Try.prog 60 [.int .i64 a0, .int .i64 a1, .int .i64 a2, .int .i64 a3] [.int .i64 b0, .int .i64 b1, .int .i64 b2, .int .i64 b3] := ⟨_, Try.underlying60, by kernel_rfl, by kernel_rfl, ⟨⟨by decide, rfl, .inl ⟨_, _, _, _, Try.underlying3, rfl, rfl⟩⟩, ⟨by decide, rfl, .inl ⟨_, _, _, _, Try.underlying3, rfl, rfl⟩⟩, ⟨by decide, rfl, .inl ⟨_, _, _, _, Try.underlying3, rfl, rfl⟩⟩, ⟨by decide, rfl, .inl ⟨_, _, _, _, Try.underlying3, rfl, rfl⟩⟩, trivial⟩⟩
theorem same60 (x y : Transfer) : sameL [.int .i64 x.number, .int .i64 x.kind, .int .i64 x.auth, .int .i64 x.sum] [.int .i64 y.number, .int .i64 y.kind, .int .i64 y.auth, .int .i64 y.sum] = decide (x = y) := by
  obtain ⟨a0, a1, a2, a3⟩ := x; obtain ⟨b0, b1, b2, b3⟩ := y
  simp only [sameL, sameV, Transfer.mk.injEq, Bool.and_true, Bool.decide_and]
theorem cmp111 (a0 a1 b0 b1 : Int) : CmpS Try.prog 111 [.int .i64 a0, .int .i64 a1] [.int .i64 b0, .int .i64 b1] := ⟨_, Try.underlying111, by kernel_rfl, by kernel_rfl, ⟨⟨by decide, rfl, .inl ⟨_, _, _, _, Try.underlying3, rfl, rfl⟩⟩, ⟨by decide, rfl, .inl ⟨_, _, _, _, Try.underlying3, rfl, rfl⟩⟩, trivial⟩⟩
theorem same111 (x y : Entry) : sameL [.int .i64 x.account, .int .i64 x.sum] [.int .i64 y.account, .int .i64 y.sum] = decide (x = y) := by
  obtain ⟨a0, a1⟩ := x; obtain ⟨b0, b1⟩ := y
  simp only [sameL, sameV, Entry.mk.injEq, Bool.and_true, Bool.decide_and]
theorem cmp127 (a0 a1 a2 a3 b0 b1 b2 b3 : Int) : CmpS Try.prog 127 [.int .i64 a0, .int .i64 a1, .int .i64 a2, .int .i64 a3] [.int .i64 b0, .int .i64 b1, .int .i64 b2, .int .i64 b3] := ⟨_, Try.underlying127, by kernel_rfl, by kernel_rfl, ⟨⟨by decide, rfl, .inl ⟨_, _, _, _, Try.underlying3, rfl, rfl⟩⟩, ⟨by decide, rfl, .inl ⟨_, _, _, _, Try.underlying3, rfl, rfl⟩⟩, ⟨by decide, rfl, .inl ⟨_, _, _, _, Try.underlying3, rfl, rfl⟩⟩, ⟨by decide, rfl, .inl ⟨_, _, _, _, Try.underlying3, rfl, rfl⟩⟩, trivial⟩⟩
theorem same127 (x y : Record) : sameL [.int .i64 x.shop, .int .i64 x.auth, .int .i64 x.kind, .int .i64 x.sum] [.int .i64 y.shop, .int .i64 y.auth, .int .i64 y.kind, .int .i64 y.sum] = decide (x = y) := by
  obtain ⟨a0, a1, a2, a3⟩ := x; obtain ⟨b0, b1, b2, b3⟩ := y
  simp only [sameL, sameV, Record.mk.injEq, Bool.and_true, Bool.decide_and]
theorem cmp71 (a0 a1 a2 b0 b1 b2 : Int) : CmpS Try.prog 71 [.int .i64 a0, .int .i64 a1, .int .i64 a2] [.int .i64 b0, .int .i64 b1, .int .i64 b2] := ⟨_, Try.underlying71, by kernel_rfl, by kernel_rfl, ⟨⟨by decide, rfl, .inl ⟨_, _, _, _, Try.underlying3, rfl, rfl⟩⟩, ⟨by decide, rfl, .inl ⟨_, _, _, _, Try.underlying3, rfl, rfl⟩⟩, ⟨by decide, rfl, .inl ⟨_, _, _, _, Try.underlying3, rfl, rfl⟩⟩, trivial⟩⟩
theorem same71 (x y : Act) : sameL [.int .i64 x.kind, .int .i64 x.at_, .int .i64 x.sum] [.int .i64 y.kind, .int .i64 y.at_, .int .i64 y.sum] = decide (x = y) := by
  obtain ⟨a0, a1, a2⟩ := x; obtain ⟨b0, b1, b2⟩ := y
  simp only [sameL, sameV, Act.mk.injEq, Bool.and_true, Bool.decide_and]
theorem cmp86 (a0 a1 b0 b1 : Int) : CmpS Try.prog 86 [.int .i64 a0, .int .i64 a1] [.int .i64 b0, .int .i64 b1] := ⟨_, Try.underlying86, by kernel_rfl, by kernel_rfl, ⟨⟨by decide, rfl, .inl ⟨_, _, _, _, Try.underlying3, rfl, rfl⟩⟩, ⟨by decide, rfl, .inl ⟨_, _, _, _, Try.underlying3, rfl, rfl⟩⟩, trivial⟩⟩
theorem same86 (x y : Step) : sameL [.int .i64 x.kind, .int .i64 x.n] [.int .i64 y.kind, .int .i64 y.n] = decide (x = y) := by
  obtain ⟨a0, a1⟩ := x; obtain ⟨b0, b1⟩ := y
  simp only [sameL, sameV, Step.mk.injEq, Bool.and_true, Bool.decide_and]
theorem cmp47 (a0 a1 b0 b1 : Int) : CmpS Try.prog 47 [.int .i64 a0, .int .i64 a1] [.int .i64 b0, .int .i64 b1] := ⟨_, Try.underlying47, by kernel_rfl, by kernel_rfl, ⟨⟨by decide, rfl, .inl ⟨_, _, _, _, Try.underlying27, rfl, rfl⟩⟩, ⟨by decide, rfl, .inl ⟨_, _, _, _, Try.underlying3, rfl, rfl⟩⟩, trivial⟩⟩
theorem cmp41 (a0 a1 a2 b0 b1 b2 : Int) : CmpS Try.prog 41 [.int .i64 a0, .int .i64 a1, .int .i64 a2] [.int .i64 b0, .int .i64 b1, .int .i64 b2] := ⟨_, Try.underlying41, by kernel_rfl, by kernel_rfl, ⟨⟨by decide, rfl, .inl ⟨_, _, _, _, Try.underlying3, rfl, rfl⟩⟩, ⟨by decide, rfl, .inl ⟨_, _, _, _, Try.underlying3, rfl, rfl⟩⟩, ⟨by decide, rfl, .inl ⟨_, _, _, _, Try.underlying3, rfl, rfl⟩⟩, trivial⟩⟩
theorem cmp75 (a0 : Int) (a1 : Int) (a2 : Int) (a3 : Int) (a4 : Int) (a5 : Int) (a6 : Int) (a7 : Bool) (b0 : Int) (b1 : Int) (b2 : Int) (b3 : Int) (b4 : Int) (b5 : Int) (b6 : Int) (b7 : Bool) : CmpS Try.prog 75 [.int .i64 a0, .int .i64 a1, .int .i64 a2, .int .i64 a3, .int .i64 a4, .int .i64 a5, .int .i64 a6, .bool a7] [.int .i64 b0, .int .i64 b1, .int .i64 b2, .int .i64 b3, .int .i64 b4, .int .i64 b5, .int .i64 b6, .bool b7] := ⟨_, Try.underlying75, by kernel_rfl, by kernel_rfl, ⟨⟨by decide, rfl, .inl ⟨_, _, _, _, Try.underlying3, rfl, rfl⟩⟩, ⟨by decide, rfl, .inl ⟨_, _, _, _, Try.underlying3, rfl, rfl⟩⟩, ⟨by decide, rfl, .inl ⟨_, _, _, _, Try.underlying3, rfl, rfl⟩⟩, ⟨by decide, rfl, .inl ⟨_, _, _, _, Try.underlying3, rfl, rfl⟩⟩, ⟨by decide, rfl, .inl ⟨_, _, _, _, Try.underlying3, rfl, rfl⟩⟩, ⟨by decide, rfl, .inl ⟨_, _, _, _, Try.underlying3, rfl, rfl⟩⟩, ⟨by decide, rfl, .inl ⟨_, _, _, _, Try.underlying3, rfl, rfl⟩⟩, ⟨by decide, rfl, .inr ⟨_, _, Try.underlying4, rfl, rfl⟩⟩, trivial⟩⟩
theorem same75 (x y : Auth) : sameL [.int .i64 x.card, .int .i64 x.shop, .int .i64 x.sum, .int .i64 x.captured, .int .i64 x.refunded, .int .i64 x.disputed, .int .i64 x.till, .bool x.shut] [.int .i64 y.card, .int .i64 y.shop, .int .i64 y.sum, .int .i64 y.captured, .int .i64 y.refunded, .int .i64 y.disputed, .int .i64 y.till, .bool y.shut] = decide (x = y) := by
  obtain ⟨a0, a1, a2, a3, a4, a5, a6, a7⟩ := x; obtain ⟨b0, b1, b2, b3, b4, b5, b6, b7⟩ := y
  simp only [sameL, sameV, Auth.mk.injEq, Bool.and_true, Bool.decide_and]; congr 7

theorem g_makeI {P : Program} {st : AState} {o : Oper} {t e bytes n : Nat} {x y : Operand} {i j : Int} (k : Nat) (hT : SlT P t e 1 bytes) (hz : (P.info? e).bind (fun i => i.zero) = some (.int .i64 0)) (ho : o.op = .makeSlice t x y) (hx : ev st x (.v (.c (.d (.v (.int .i64 i)))))) (hy : ev st y (.v (.c (.d (.v (.int .i64 j))))))
    (hi : i = n) (hj : j = n) (hb : bytes * n ≤ 281474976710656) (h63 : n ≤ 9223372036854775807) : GOp P o st (.v (.c (.s k 0 1 n))) [(k, .arr e 1 ((List.replicate n 0).map rI))] [] := by
  have h := g_make k hT hz rfl rfl ho hx hy hi hj hb h63
  have e1 : List.replicate n [D.v (.int .i64 0)] = (List.replicate n (0 : Int)).map rI := by rw [List.map_replicate]; rfl
  rw [e1] at h
  exact h

end Go.Proofs.Ytgmcdlfmifijlaa.Dev
