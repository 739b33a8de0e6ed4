/- GateSames: contracts out of the kit's shelf, laid here. VARIABLES: a known pair of numbers. (of the seat YthjggpnmhddglaaGreatDoor) -/
import Derived.Test.YthjggpnmhddglaaGreatDoorCore12
import Derived.Test.YthjggpnmhddglaaGreatDoorProg
import Derived.KernelRfl
import Derived.Shelf.Small.Strs
import Derived.Shelf.Strings.Search3
import Derived.Shelf.Sort.Plain
import Derived.Shelf.Slices.CompactS
import Derived.Shelf.Slices.In.SortNone
import Derived.ChangeSame
import Derived.ChangeAt
import Derived.Below
namespace Go.Proofs.YthjggpnmhddglaaGreatDoor
open Go Go.Sc
set_option maxRecDepth 100000
variable [Inhabited Mx]
def tyL : List Nat := [1000000, 35, 101, 93, 9, 148, 133, 151, 52, 51, 49, 112, 108, 109, 107]
def tkL : List Nat := [2000000, 2000001, 2000002, 2000003, 2000004, 2000005, 2000006, 2000007, 2000008, 4, 2000010, 2000011, 2000012, 2000013, 2000014, 2000015, 2000016, 2000017, 2000018, 2000019, 2000020, 2000021, 2000022, 2000023, 2000024, 2000025, 2000026, 2000027, 2000028, 2000029, 2000030, 2000031, 2000032, 2000033, 2000034, 1, 2000036, 2000037, 2000038, 2000039, 2000040, 2000041, 2000042, 2000043, 2000044, 2000045, 2000046, 2000047, 2000048, 10, 2000050, 9, 8, 2000053, 2000054, 2000055, 2000056, 2000057, 2000058, 2000059, 2000060, 2000061, 2000062, 2000063, 2000064, 2000065, 2000066, 2000067, 2000068, 2000069, 2000070, 2000071, 2000072, 2000073, 2000074, 2000075, 2000076, 2000077, 2000078, 2000079, 2000080, 2000081, 2000082, 2000083, 2000084, 2000085, 2000086, 2000087, 2000088, 2000089, 2000090, 2000091, 2000092, 3, 2000094, 2000095, 2000096, 2000097, 2000098, 2000099, 2000100, 2, 2000102, 2000103, 2000104, 2000105, 2000106, 14, 12, 13, 2000110, 2000111, 11, 2000113, 2000114, 2000115, 2000116, 2000117, 2000118, 2000119, 2000120, 2000121, 2000122, 2000123, 2000124, 2000125, 2000126, 2000127, 2000128, 2000129, 2000130, 2000131, 2000132, 6, 2000134, 2000135, 2000136, 2000137, 2000138, 2000139, 2000140, 2000141, 2000142, 2000143, 2000144, 2000145, 2000146, 2000147, 5, 2000149, 2000150, 7, 2000152, 2000153, 2000154, 2000155, 2000156, 2000157, 2000158, 2000159, 2000160, 2000161, 2000162, 2000163, 2000164, 2000165, 2000166, 2000167, 2000168, 2000169, 2000170, 2000171, 2000172, 2000173, 2000174, 2000175, 2000176, 2000177, 2000178, 2000179, 2000180, 2000181, 2000182, 2000183, 2000184, 2000185, 2000186, 2000187, 2000188, 2000189, 2000190, 2000191, 2000192, 2000193, 2000194, 2000195, 2000196, 2000197, 2000198, 2000199, 2000200, 2000201, 2000202, 2000203, 2000204, 2000205, 2000206, 2000207, 2000208, 2000209, 2000210, 2000211, 2000212, 2000213, 2000214, 2000215, 2000216, 2000217, 2000218, 2000219, 2000220, 2000221, 2000222, 2000223, 2000224, 2000225, 2000226]
def fnL : List Nat := [1000000, 90, 80, 1000003, 105, 106, 114, 113, 115, 117, 116, 119, 118, 120, 122, 123, 79, 124, 125, 88, 126, 89, 104, 82, 84, 91, 1000026, 1000027, 1000028, 1000029, 1000030, 1000031, 1000032, 1000033, 1000034, 1000035, 1000036, 1000037, 1000038, 1000039, 1000040, 1000041, 1000042, 1000043, 1000044, 1000045, 1000046, 1000047, 1000048, 1000049, 1000050, 1000051, 1000052, 16, 1000054, 1000055, 1000056, 1000057, 1000058, 57, 1000060, 1000061, 38, 1000063, 1000064, 1000065, 74, 63, 64, 65, 66, 1000071, 76, 77, 78, 150, 1000076, 17, 1000078, 1000079, 1000080, 1000081, 1000082, 1000083, 39, 1000085, 1000086, 18, 1000088, 9, 1000090, 1000091, 1000092, 1000093, 1000094, 1000095, 1000096, 1000097, 42, 1000099, 15, 36, 1000102, 1000103, 1000104, 37, 58, 1000107, 59, 60, 61, 62, 75, 1000113, 1000114, 1000115, 1000116, 1000117, 1000118, 1000119, 1000120, 1000121, 1000122, 1000123, 1000124, 11, 12, 1000127, 144, 1000129, 23, 24, 25, 26, 27, 28, 44, 43, 46, 48, 47, 45, 67, 68, 69, 81, 1000146, 148, 1000148, 147, 146, 154, 152, 153, 151, 1000155, 31, 1000157, 1000158, 1000159, 51, 50, 1000162, 1000163, 1000164, 1000165, 1000166, 1000167, 1000168, 4, 1000170, 1000171, 1000172, 1000173, 1000174, 1000175, 1000176, 1000177, 1000178, 1000179, 22, 32, 6, 1000183, 34, 7, 5, 1000187, 1000188, 53, 52, 13, 54, 71, 72, 73, 29, 87, 86, 30, 49, 93, 94, 95, 96, 97, 98, 99, 100, 101, 102, 103, 70, 107, 108, 109, 110, 111, 112, 83, 85, 121, 92, 1000223, 1000224, 1000225, 1000226, 1000227, 1000228, 1000229, 1000230, 8, 1000232, 14, 33, 35, 55, 56, 1000238, 1000239, 1000240, 1000241, 1000242, 10, 3, 21, 20, 19, 40, 41]
def fkL : List Nat := [2000000, 2000001, 2000002, 244, 169, 186, 182, 185, 231, 89, 243, 125, 126, 191, 233, 100, 53, 77, 87, 247, 246, 245, 180, 130, 131, 132, 133, 134, 135, 196, 199, 156, 181, 234, 184, 235, 101, 105, 62, 84, 248, 249, 98, 137, 136, 141, 138, 140, 139, 200, 161, 160, 190, 189, 192, 236, 237, 59, 106, 108, 109, 110, 111, 67, 68, 69, 70, 142, 143, 144, 212, 193, 194, 195, 66, 112, 72, 73, 74, 16, 2, 145, 23, 219, 24, 220, 198, 197, 19, 21, 1, 25, 222, 201, 202, 203, 204, 205, 206, 207, 208, 209, 210, 211, 22, 4, 5, 213, 214, 215, 216, 217, 218, 7, 6, 8, 10, 9, 12, 11, 13, 221, 14, 15, 17, 18, 20, 2000127, 2000128, 2000129, 2000130, 2000131, 2000132, 2000133, 2000134, 2000135, 2000136, 2000137, 2000138, 2000139, 2000140, 2000141, 2000142, 2000143, 128, 2000145, 150, 149, 147, 2000149, 75, 154, 152, 153, 151, 2000155, 2000156, 2000157, 2000158, 2000159, 2000160, 2000161, 2000162, 2000163, 2000164, 2000165, 2000166, 2000167, 2000168, 2000169, 2000170, 2000171, 2000172, 2000173, 2000174, 2000175]
def gnL : List Nat := [1000000, 3, 4, 1000003, 1, 0, 2]
def gkL : List Nat := [5, 4, 6, 1, 2]
def E : Env := { ty := fun k => tyL.getD k 3000000, tk := fun t => tkL.getD t 3000000, fn := fun k => fnL.getD k 3000000, fk := fun f => fkL.getD f 3000000, gn := fun k => gnL.getD k 3000000, gk := fun g => gkL.getD g 3000000, gl := fun g => if g = 5 then some [.val (.int .i64 0), .val (.int .i64 (-1))] else if g = 4 then some [.val (.iface 143 (.agg #[.pointer (some ⟨5, 31, none⟩)]))] else if g = 6 then some [.val (.int .i64 (default : Mx).v)] else none }
theorem b_law_GateSames (a0 a1 : AV) (H : AH) (R : Kt) : bodyW E Tryz.prog Tryz.f3 (.seq none .leaf (.seq none .leaf (.seq none .leaf (.seq none (.seq none .leaf (.two (.seq none .leaf .leaf) .leaf)) (.seq none (.seq none .leaf (.two (.seq none .leaf .leaf) .leaf)) (.seq none .leaf (.seq none .leaf (.seq none .leaf .leaf)))))))) [a0, a1] H R = F.law_GateSames E Tryz.prog a0 a1 H R := by kernel_rfl
theorem b_law_read (a0 : AV) (H : AH) (R : Kt) : bodyW E Tryz.prog Tryz.f4 (.seq none .leaf (.seq none (.seq none .leaf (.two (.seq none .leaf .leaf) .leaf)) (.seq none .leaf (.seq none (.seq none .leaf (.two (.seq none .leaf .leaf) .leaf)) (.seq none .leaf (.seq none (.seq none .leaf (.two (.seq none .leaf .leaf) .leaf)) (.seq none .leaf .leaf))))))) [a0] H R = F.law_read E Tryz.prog a0 H R := by kernel_rfl
theorem b_pref_Expr_Size (a0 : AV) (H : AH) (R : Kt) : bodyW E Tryz.prog Tryz.f5 (.seq none .leaf (.seq none .leaf (.seq none (.seq none .leaf (.one (.loop [3, 11] (.seq none .leaf (.seq none (.two .leaf .leaf) (.seq none (.one (.seq none .leaf .leaf)) .leaf)))))) (.seq none .leaf .leaf)))) [a0] H R = F.pref_Expr_Size E Tryz.prog a0 H R := by kernel_rfl
theorem b_pref_Expr_Names (a0 : AV) (H : AH) (R : Kt) : bodyW E Tryz.prog Tryz.f6 (.seq none .leaf (.seq none .leaf .leaf)) [a0] H R = F.pref_Expr_Names E Tryz.prog a0 H R := by kernel_rfl
theorem b_pref_Expr_Edges (a0 : AV) (H : AH) (R : Kt) : bodyW E Tryz.prog Tryz.f7 (.seq none .leaf (.seq none .leaf .leaf)) [a0] H R = F.pref_Expr_Edges E Tryz.prog a0 H R := by kernel_rfl
theorem b_gate_Same (a0 a1 : AV) (H : AH) (R : Kt) : bodyW E Tryz.prog Tryz.f8 (.seq none .leaf (.seq none (.seq none .leaf (.two (.seq none .leaf .leaf) .leaf)) (.seq none .leaf (.seq none .leaf (.seq none (.seq none .leaf (.two (.seq none .leaf .leaf) .leaf)) (.seq none .leaf (.seq none .leaf (.seq none (.seq none .leaf (.one (.seq none .leaf (.two (.seq none .leaf .leaf) (.seq none .leaf (.two (.seq none .leaf .leaf) .leaf)))))) (.seq none .leaf .leaf))))))))) [a0, a1] H R = F.gate_Same E Tryz.prog a0 a1 H R := by kernel_rfl
theorem b_law_bare (a0 a1 : AV) (H : AH) (R : Kt) : bodyW E Tryz.prog Tryz.f9 (.seq none .leaf (.seq none .leaf .leaf)) [a0, a1] H R = F.law_bare E Tryz.prog a0 a1 H R := by kernel_rfl
theorem b_ref_GateSame (a0 a1 : AV) (H : AH) (R : Kt) : bodyW E Tryz.prog Tryz.f10 (.seq none .leaf (.seq none .leaf (.seq none .draw (.seq none .leaf .leaf)))) [a0, a1] H R = F.ref_GateSame E Tryz.prog a0 a1 H R := by kernel_rfl
theorem b_ref_ExprParse (a0 : AV) (H : AH) (R : Kt) : bodyW E Tryz.prog Tryz.f11 (.seq none .leaf (.seq none (.seq none .leaf (.two (.seq none .leaf .leaf) .leaf)) (.seq none .leaf (.seq none .leaf (.seq (some []) (.seq none .leaf (.two .leaf .leaf)) (.seq none (.seq none .leaf (.two (.seq none .draw .leaf) .leaf)) (.seq none .draw .leaf))))))) [a0] H R = F.ref_ExprParse E Tryz.prog a0 H R := by kernel_rfl
theorem b_expr_Parse (a0 : AV) (H : AH) (R : Kt) : bodyW E Tryz.prog Tryz.f12 (.seq none .leaf (.seq none (.seq none .leaf (.two (.seq none .leaf .leaf) .leaf)) (.seq none .leaf (.seq none .leaf (.seq none (.seq none .leaf (.two (.seq none .leaf .leaf) .leaf)) (.seq none (.seq none .leaf (.seq none .leaf (.two (.seq none .leaf .leaf) .leaf))) (.seq none .leaf .leaf))))))) [a0] H R = F.expr_Parse E Tryz.prog a0 H R := by kernel_rfl
theorem b_pref_Expr_named (a0 a1 : AV) (H : AH) (R : Kt) : bodyW E Tryz.prog Tryz.f13 (.seq none .leaf (.seq none .leaf (.seq none .leaf (.seq none .leaf (.seq none .leaf (.seq none .leaf .leaf)))))) [a0, a1] H R = F.pref_Expr_named E Tryz.prog a0 a1 H R := by kernel_rfl
theorem b_gate_Of (a0 : AV) (H : AH) (R : Kt) : bodyW E Tryz.prog Tryz.f14 (.seq none .leaf (.seq none (.seq none .leaf (.two (.seq none .leaf .leaf) .leaf)) (.seq none (.seq none .leaf (.two (.seq none .leaf .leaf) .leaf)) (.seq none .leaf (.seq none (.seq none .leaf (.one (.loop [26] (.seq none .leaf (.seq none (.two .leaf .leaf) (.seq none (.one (.seq none .leaf .draw)) .leaf)))))) (.seq none (.seq none .leaf (.one (.loop [41] (.seq none .leaf (.seq none (.two .leaf .leaf) (.seq none (.one (.seq none .leaf .draw)) .leaf)))))) (.seq none .leaf (.seq none .leaf .leaf)))))))) [a0] H R = F.gate_Of E Tryz.prog a0 H R := by kernel_rfl
theorem b_gate_Solve (a0 : AV) (H : AH) (R : Kt) : bodyW E Tryz.prog Tryz.f15 (.seq none .leaf (.seq none (.seq none .leaf (.seq none .leaf (.two (.seq none .leaf .leaf) .leaf))) (.seq none .draw (.seq none .leaf (.seq none (.one (.seq none .leaf (.two (.seq none .leaf .leaf) (.seq none .leaf (.two (.seq none .leaf .leaf) .leaf))))) (.seq none .leaf (.seq none (.seq none .leaf (.one (.loop [8, 42] (.seq none .leaf (.seq none (.two .leaf .leaf) (.seq none (.one (.seq none .leaf .leaf)) .leaf)))))) (.seq none .leaf .leaf)))))))) [a0] H R = F.gate_Solve E Tryz.prog a0 H R := by kernel_rfl
theorem b_law_at (a0 a1 : AV) (H : AH) (R : Kt) : bodyW E Tryz.prog Tryz.f17 (.seq none .leaf (.seq none .leaf (.seq none .leaf .leaf))) [a0, a1] H R = F.law_at E Tryz.prog a0 a1 H R := by kernel_rfl
theorem b_ref_Bare (a0 : AV) (H : AH) (R : Kt) : bodyW E Tryz.prog Tryz.f18 (.seq none .leaf (.seq none .leaf .leaf)) [a0] H R = F.ref_Bare E Tryz.prog a0 H R := by kernel_rfl
theorem b_ref_cases (a0 a1 a2 : AV) (H : AH) (R : Kt) : bodyW E Tryz.prog Tryz.f19 (.seq none .leaf (.seq none .leaf (.one (.loop [7] (.seq none (.seq none .leaf (.two .leaf .leaf)) (.seq none (.one (.seq none .leaf (.seq none .leaf (.two .leaf .leaf)))) (.seq none (.seq none .leaf .leaf) .leaf))))))) [a0, a1, a2] H R = F.ref_cases E Tryz.prog a0 a1 a2 H R := by kernel_rfl
theorem b_ref_both (a0 a1 : AV) (H : AH) (R : Kt) : bodyW E Tryz.prog Tryz.f20 (.seq none .leaf (.seq none .leaf (.seq none (.seq none .leaf (.one (.loop [16] (.seq none .leaf (.seq none (.two .leaf .leaf) (.seq none (.one (.seq none .leaf .leaf)) .leaf)))))) (.seq none .leaf .leaf)))) [a0, a1] H R = F.ref_both E Tryz.prog a0 a1 H R := by kernel_rfl
theorem b_ref_GateSame_c1 (a0 a1 a2 a3 a4 : AV) (H : AH) (R : Kt) : bodyW E Tryz.prog Tryz.f21 (.seq none .leaf (.seq none .draw (.seq none .leaf .leaf))) [a0, a1, a2, a3, a4] H R = F.ref_GateSame_c1 E Tryz.prog a0 a1 a2 a3 a4 H R := by kernel_rfl
theorem b_pref_Expr_Eval (a0 a1 a2 : AV) (H : AH) (R : Kt) : bodyW E Tryz.prog Tryz.f22 (.seq none .leaf (.seq none (.seq none .leaf (.one (.seq none .leaf (.two (.seq none .leaf .leaf) (.seq none .leaf (.two (.seq none .leaf .leaf) (.seq none .leaf (.two (.seq none .leaf .leaf) (.seq none .leaf (.two (.seq none .leaf .leaf) (.seq none .leaf (.two (.seq none .leaf .leaf) (.seq (some [70]) (.seq none .leaf (.two .leaf .leaf)) (.two (.seq none .leaf (.seq none (.seq none .leaf (.one (.loop [7, 78] (.seq none .leaf (.seq none (.two .leaf .leaf) (.seq (some [7]) (.one (.seq none .leaf (.seq none .leaf (.two .leaf .leaf)))) .leaf)))))) (.seq none .leaf .leaf))) .leaf)))))))))))))) (.seq none .leaf .leaf))) [a0, a1, a2] H R = F.pref_Expr_Eval E Tryz.prog a0 a1 a2 H R := by kernel_rfl
theorem b_pref_parser_whole (a0 a1 : AV) (H : AH) (R : Kt) : bodyW E Tryz.prog Tryz.f23 (.seq none .leaf (.seq none .leaf .leaf)) [a0, a1] H R = F.pref_parser_whole E Tryz.prog a0 a1 H R := by kernel_rfl
theorem b_pref_parser_next (a0 : AV) (H : AH) (R : Kt) : bodyW E Tryz.prog Tryz.f24 (.seq none .leaf (.seq none .leaf (.seq none (.seq none .draw (.two (.seq none .draw .leaf) .leaf)) (.seq none .leaf .leaf)))) [a0] H R = F.pref_parser_next E Tryz.prog a0 H R := by kernel_rfl
theorem b_pref_parser_fail (a0 a1 : AV) (H : AH) (R : Kt) : bodyW E Tryz.prog Tryz.f25 (.seq none .leaf (.seq none .leaf (.seq (some []) (.seq none .leaf (.two .leaf .leaf)) (.seq none .leaf .leaf)))) [a0, a1] H R = F.pref_parser_fail E Tryz.prog a0 a1 H R := by kernel_rfl
theorem b_pexpr_reader_or (a0 a1 : AV) (H : AH) (R : Kt) : bodyW E Tryz.prog Tryz.f26 (.seq none .leaf (.seq none .leaf (.seq none (.seq none .leaf (.two (.seq none .leaf .leaf) .leaf)) (.seq none (.seq none .leaf (.two (.seq none .leaf .leaf) .leaf)) (.seq none .leaf .leaf))))) [a0, a1] H R = F.pexpr_reader_or E Tryz.prog a0 a1 H R := by kernel_rfl
theorem b_pexpr_reader_blanks (a0 : AV) (H : AH) (R : Kt) : bodyW E Tryz.prog Tryz.f27 (.one (.loop [] (.seq none (.seq none .draw (.two .leaf .leaf)) (.one .leaf)))) [a0] H R = F.pexpr_reader_blanks E Tryz.prog a0 H R := by kernel_rfl
theorem b_pexpr_reader_fail (a0 a1 : AV) (H : AH) (R : Kt) : bodyW E Tryz.prog Tryz.f28 (.seq none .leaf (.seq none .leaf (.seq none .leaf .leaf))) [a0, a1] H R = F.pexpr_reader_fail E Tryz.prog a0 a1 H R := by kernel_rfl
theorem b_pref_Expr_named_c1 (a0 a1 a2 a3 : AV) (H : AH) (R : Kt) : bodyW E Tryz.prog Tryz.f29 (.seq (some []) (.seq none .draw (.two (.seq none .leaf (.seq none (.one (.loop [5] (.seq none (.seq none .draw (.two .leaf .leaf)) (.one .leaf)))) (.seq none .draw (.two (.seq none .leaf (.seq none .draw .draw)) .leaf)))) .leaf)) (.seq none .leaf (.one (.loop [76] (.seq none .leaf (.seq none (.two .leaf .leaf) (.seq none (.one (.seq none .leaf .leaf)) .leaf))))))) [a0, a1, a2, a3] H R = F.pref_Expr_named_c1 E Tryz.prog a0 a1 a2 a3 H R := by kernel_rfl
theorem b_expr_Size (a0 : AV) (H : AH) (R : Kt) : bodyW E Tryz.prog Tryz.f31 (.seq none .leaf (.seq none .leaf (.seq none .leaf (.seq none .leaf .leaf)))) [a0] H R = F.expr_Size E Tryz.prog a0 H R := by kernel_rfl
theorem b_expr_Names (a0 : AV) (H : AH) (R : Kt) : bodyW E Tryz.prog Tryz.f32 (.seq none .leaf (.seq none .leaf .leaf)) [a0] H R = F.expr_Names E Tryz.prog a0 H R := by kernel_rfl
theorem b_pgate_builder_fresh (a0 : AV) (H : AH) (R : Kt) : bodyW E Tryz.prog Tryz.f33 (.seq none .leaf (.seq none .leaf (.seq none .leaf .leaf))) [a0] H R = F.pgate_builder_fresh E Tryz.prog a0 H R := by kernel_rfl
theorem b_expr_Edges (a0 : AV) (H : AH) (R : Kt) : bodyW E Tryz.prog Tryz.f34 (.seq none .leaf (.seq none .leaf .leaf)) [a0] H R = F.expr_Edges E Tryz.prog a0 H R := by kernel_rfl
theorem b_pgate_builder_lit (a0 a1 : AV) (H : AH) (R : Kt) : bodyW E Tryz.prog Tryz.f35 (.seq none .leaf (.seq none (.seq none .leaf (.one (.seq none .leaf (.two (.seq none .leaf (.seq none .leaf .leaf)) (.seq none .leaf (.two (.seq none .leaf (.seq none .draw .leaf)) (.seq none .leaf (.two (.seq none .leaf (.seq none .draw .leaf)) (.seq none .leaf (.two (.seq none .leaf (.seq none .leaf .leaf)) (.seq none .leaf (.two (.seq none .leaf (.seq none .leaf (.seq none (.seq none .leaf (.one (.loop [10, 83] (.seq none .leaf (.seq none (.two .leaf .leaf) (.seq none (.one (.seq none .leaf .leaf)) .leaf)))))) (.seq none .leaf .leaf)))) (.seq none .leaf (.two (.seq none .leaf (.seq none .leaf (.seq none (.seq none .leaf (.one (.loop [14, 102] (.seq none .leaf (.seq none (.two .leaf .leaf) (.seq none (.one (.seq none .leaf .leaf)) .leaf)))))) (.seq none .leaf .leaf)))) .leaf)))))))))))))) (.seq none .leaf (.seq (some []) (.seq none .leaf (.seq none .leaf (.two .leaf .leaf))) (.seq none .leaf .leaf))))) [a0, a1] H R = F.pgate_builder_lit E Tryz.prog a0 a1 H R := by kernel_rfl
theorem b_gate_Check (a0 : AV) (H : AH) (R : Kt) : bodyW E Tryz.prog Tryz.f36 (.seq none .leaf (.seq none (.seq none .leaf (.two (.seq none .leaf .leaf) .leaf)) (.seq none (.seq none .leaf (.one (.loop [23] (.seq none .leaf (.seq none (.two .leaf .leaf) (.seq none (.one (.seq none .leaf (.seq none .leaf (.two (.seq none .leaf .leaf) .leaf)))) .leaf)))))) (.seq none .leaf .leaf)))) [a0] H R = F.gate_Check E Tryz.prog a0 H R := by kernel_rfl
theorem b_pgate_solver_search (a0 : AV) (H : AH) (R : Kt) : bodyW E Tryz.prog Tryz.f37 (.seq none .leaf (.seq none (.seq none .leaf (.seq none .leaf (.two (.seq none .leaf .leaf) .leaf))) (.seq none .leaf (.seq none (.seq none .leaf (.two (.seq none .leaf (.seq none .leaf .leaf)) .leaf)) (.seq none .leaf (.seq none (.seq none .leaf (.two (.seq none .leaf .leaf) .leaf)) (.seq none (.seq none .leaf (.one (.loop [49] (.seq none .leaf (.seq none (.two .leaf .leaf) (.seq none (.one (.seq none .leaf (.seq none .leaf (.seq none .leaf (.seq none (.seq none .leaf (.seq none .leaf (.two (.seq none .leaf .leaf) .leaf))) .leaf))))) .leaf)))))) (.seq none .leaf (.seq none .leaf .leaf))))))))) [a0] H R = F.pgate_solver_search E Tryz.prog a0 H R := by kernel_rfl
theorem b_plain_Place (a0 : AV) (H : AH) (R : Kt) : bodyW E Tryz.prog Tryz.f39 (.seq none .leaf (.seq none .leaf (.seq (some []) (.one (.loop [0] (.seq none (.seq none .leaf (.two .leaf .leaf)) (.one (.seq none (.seq none .leaf (.seq none .leaf (.two (.seq none .draw .leaf) .leaf))) (.seq none .leaf (.seq none (.seq none .leaf (.two .leaf .leaf)) .leaf))))))) (.seq none .leaf .leaf)))) [a0] H R = F.plain_Place E Tryz.prog a0 H R := by kernel_rfl
theorem b_ref_cases_c1 (a0 a1 a2 a3 : AV) (H : AH) (R : Kt) : bodyW E Tryz.prog Tryz.f40 (.seq none .leaf (.seq none .leaf .leaf)) [a0, a1, a2, a3] H R = F.ref_cases_c1 E Tryz.prog a0 a1 a2 a3 H R := by kernel_rfl
theorem b_ref_cases_c1_c1 (a0 a1 a2 a3 a4 : AV) (H : AH) (R : Kt) : bodyW E Tryz.prog Tryz.f41 (.seq none .leaf (.seq none .draw .leaf)) [a0, a1, a2, a3, a4] H R = F.ref_cases_c1_c1 E Tryz.prog a0 a1 a2 a3 a4 H R := by kernel_rfl
theorem b_ref_index (a0 a1 : AV) (H : AH) (R : Kt) : bodyW E Tryz.prog Tryz.f42 (.seq none .leaf (.seq none (.seq none .leaf (.one (.loop [9] (.seq none .leaf (.seq none (.two .leaf .leaf) (.seq none (.one (.seq none .leaf (.seq none .leaf (.two (.seq none .leaf .leaf) .leaf)))) .leaf)))))) (.seq none .leaf .leaf))) [a0, a1] H R = F.ref_index E Tryz.prog a0 a1 H R := by kernel_rfl
theorem b_pref_parser_row (a0 a1 a2 a3 : AV) (H : AH) (R : Kt) : bodyW E Tryz.prog Tryz.f43 (.seq none .leaf (.seq none .leaf (.seq none (.one (.loop [9] (.seq none (.seq none .leaf (.two .leaf .leaf)) (.one (.seq none .leaf .leaf))))) (.seq none (.seq none .leaf (.two (.seq none .leaf .leaf) .leaf)) (.seq none .leaf .leaf))))) [a0, a1, a2, a3] H R = F.pref_parser_row E Tryz.prog a0 a1 a2 a3 H R := by kernel_rfl
theorem b_pref_parser_whole_c1 (a0 a1 : AV) (H : AH) (R : Kt) : bodyW E Tryz.prog Tryz.f44 (.seq none .leaf (.seq none .leaf .leaf)) [a0, a1] H R = F.pref_parser_whole_c1 E Tryz.prog a0 a1 H R := by kernel_rfl
theorem b_pref_parser_piece (a0 a1 : AV) (H : AH) (R : Kt) : bodyW E Tryz.prog Tryz.f45 (.seq none .leaf (.seq none (.seq none .leaf (.two (.seq none .leaf .leaf) .leaf)) (.seq none (.seq none .leaf (.two (.seq none .leaf .leaf) .leaf)) (.seq none (.seq none .leaf (.seq none .leaf (.one (.seq none .leaf (.two (.seq none .leaf (.seq none .leaf .leaf)) (.seq none .leaf (.two (.seq none .leaf (.seq none .leaf (.seq none (.seq none .leaf (.two (.seq none .leaf .leaf) .leaf)) (.seq none .leaf (.seq none .leaf .leaf))))) (.seq (some [70]) (.seq none .leaf (.two .leaf .leaf)) (.two (.seq none .leaf (.seq none .leaf .leaf)) (.seq (some [84]) (.seq none .leaf (.two .leaf .leaf)) (.two (.seq none .leaf (.seq none .leaf .leaf)) .leaf))))))))))) (.seq none .leaf .leaf))))) [a0, a1] H R = F.pref_parser_piece E Tryz.prog a0 a1 H R := by kernel_rfl
theorem b_pref_parser_skip (a0 : AV) (H : AH) (R : Kt) : bodyW E Tryz.prog Tryz.f46 (.one (.loop [] (.seq none (.seq none .draw (.two .leaf .leaf)) (.one .leaf)))) [a0] H R = F.pref_parser_skip E Tryz.prog a0 H R := by kernel_rfl
theorem b_pexpr_reader_several (a0 a1 a2 a3 : AV) (H : AH) (R : Kt) : bodyW E Tryz.prog Tryz.f47 (.seq none .leaf (.seq none .leaf (.one (.loop [10] (.one (.seq none .leaf (.seq none (.seq none .leaf (.two (.seq none .leaf .leaf) .leaf)) (.seq none .leaf (.seq none .leaf (.two (.seq none .leaf .leaf) .leaf)))))))))) [a0, a1, a2, a3] H R = F.pexpr_reader_several E Tryz.prog a0 a1 a2 a3 H R := by kernel_rfl
theorem b_pexpr_reader_and (a0 a1 : AV) (H : AH) (R : Kt) : bodyW E Tryz.prog Tryz.f48 (.seq none .leaf (.seq none .leaf (.seq none (.seq none .leaf (.two (.seq none .leaf .leaf) .leaf)) (.seq none (.seq none .leaf (.two (.seq none .leaf .leaf) .leaf)) (.seq none .leaf .leaf))))) [a0, a1] H R = F.pexpr_reader_and E Tryz.prog a0 a1 H R := by kernel_rfl
theorem b_expr_walk (a0 a1 : AV) (H : AH) (R : Kt) : bodyW E Tryz.prog Tryz.f50 (.seq none .leaf (.seq none .leaf (.one (.seq none .leaf (.two (.seq none .leaf .leaf) (.seq none .leaf (.two (.seq none .leaf (.seq none .leaf (.one (.loop [27] (.seq none .leaf (.seq none (.two .leaf .leaf) (.seq none (.one (.seq none .leaf .leaf)) .leaf))))))) (.seq none .leaf (.two (.seq none .leaf (.seq none .leaf (.one (.loop [40] (.seq none .leaf (.seq none (.two .leaf .leaf) (.seq none (.one (.seq none .leaf .leaf)) .leaf))))))) .leaf))))))))) [a0, a1] H R = F.expr_walk E Tryz.prog a0 a1 H R := by kernel_rfl
theorem b_expr_Size_c1 (a0 a1 : AV) (H : AH) (R : Kt) : bodyW E Tryz.prog Tryz.f51 .leaf [a0, a1] H R = F.expr_Size_c1 E Tryz.prog a0 a1 H R := by kernel_rfl
theorem b_expr_sorted (a0 a1 : AV) (H : AH) (R : Kt) : bodyW E Tryz.prog Tryz.f52 (.seq none .leaf (.seq none .leaf (.seq none .leaf (.seq none .leaf (.seq none .leaf .leaf))))) [a0, a1] H R = F.expr_sorted E Tryz.prog a0 a1 H R := by kernel_rfl
theorem b_expr_Names_c1 (a0 : AV) (H : AH) (R : Kt) : bodyW E Tryz.prog Tryz.f53 (.seq none .leaf (.seq none (.seq none .leaf (.one (.seq none .leaf (.two (.seq none .leaf (.seq none .leaf .leaf)) (.seq none .leaf (.two (.seq none .leaf (.seq none .leaf .leaf)) (.seq none .leaf (.two (.seq none .leaf (.seq none .leaf .leaf)) .leaf)))))))) (.seq none .leaf .leaf))) [a0] H R = F.expr_Names_c1 E Tryz.prog a0 H R := by kernel_rfl
theorem b_expr_Edges_c1 (a0 : AV) (H : AH) (R : Kt) : bodyW E Tryz.prog Tryz.f54 (.seq none .leaf (.seq none (.seq none .leaf (.one (.seq none .leaf (.two (.seq none .leaf (.seq none .leaf .leaf)) (.seq none .leaf (.two (.seq none .leaf (.seq none .leaf .leaf)) .leaf)))))) (.seq none .leaf .leaf))) [a0] H R = F.expr_Edges_c1 E Tryz.prog a0 H R := by kernel_rfl
theorem b_pgate_builder_and (a0 a1 : AV) (H : AH) (R : Kt) : bodyW E Tryz.prog Tryz.f55 (.seq none .leaf (.seq none .leaf (.seq none .leaf (.seq none (.seq none .leaf (.one (.loop [6, 15] (.seq none .leaf (.seq none (.two .leaf .leaf) (.seq none (.one (.seq none .leaf (.seq none .leaf .leaf))) .leaf)))))) (.seq none .leaf (.seq none .leaf .leaf)))))) [a0, a1] H R = F.pgate_builder_and E Tryz.prog a0 a1 H R := by kernel_rfl
theorem b_pgate_builder_add (a0 a1 : AV) (H : AH) (R : Kt) : bodyW E Tryz.prog Tryz.f56 .leaf [a0, a1] H R = F.pgate_builder_add E Tryz.prog a0 a1 H R := by kernel_rfl
theorem b_slices_ContainsFunc_Lint_int (a0 a1 : AV) (H : AH) (R : Kt) : bodyW E Tryz.prog Tryz.f57 (.seq none .leaf (.seq none .leaf .leaf)) [a0, a1] H R = F.slices_ContainsFunc_Lint_int E Tryz.prog a0 a1 H R := by kernel_rfl
theorem b_gate_Check_c1 (a0 a1 : AV) (H : AH) (R : Kt) : bodyW E Tryz.prog Tryz.f58 (.seq none .leaf (.seq none .leaf .leaf)) [a0, a1] H R = F.gate_Check_c1 E Tryz.prog a0 a1 H R := by kernel_rfl
theorem b_pgate_solver_spread (a0 : AV) (H : AH) (R : Kt) : bodyW E Tryz.prog Tryz.f59 (.seq none .leaf (.seq none (.seq none .leaf (.one (.loop [3] (.seq none (.seq none .leaf (.two .leaf .leaf)) (.one (.seq none .leaf (.seq none .leaf (.one (.loop [3, 18] (.seq none .leaf (.seq none (.two .leaf .leaf) (.seq (some [3]) (.one (.seq none .leaf (.seq none .leaf (.seq none (.seq none .leaf (.one (.loop [6, 7, 8, 24] (.seq none .leaf (.seq none (.two .leaf .leaf) (.seq (some [6, 7, 8]) (.one (.seq none .leaf (.seq none .leaf (.one (.seq none .leaf (.two .leaf (.seq none .leaf (.two (.seq (some [7]) (.seq none .leaf (.two .leaf .leaf)) .leaf) .leaf)))))))) .leaf)))))) (.one (.seq none .leaf (.two .leaf (.seq none .leaf (.two (.seq none .leaf .leaf) (.seq none .leaf .leaf)))))))))) .leaf)))))))))))) (.seq none .leaf .leaf))) [a0] H R = F.pgate_solver_spread E Tryz.prog a0 H R := by kernel_rfl
theorem b_pgate_solver_back (a0 a1 : AV) (H : AH) (R : Kt) : bodyW E Tryz.prog Tryz.f60 (.seq none (.seq none .leaf (.one (.loop [13] (.seq none .leaf (.seq none (.two .leaf .leaf) (.seq none (.one (.seq none .leaf .leaf)) .leaf)))))) .leaf) [a0, a1] H R = F.pgate_solver_back E Tryz.prog a0 a1 H R := by kernel_rfl
theorem b_slices_Index_Lint_int (a0 a1 : AV) (H : AH) (R : Kt) : bodyW E Tryz.prog Tryz.f61 (.seq none .leaf (.seq none (.seq none .leaf (.one (.loop [8] (.seq none .leaf (.seq none (.two .leaf .leaf) (.seq none (.one (.seq none .leaf (.seq none .leaf (.two (.seq none .leaf .leaf) .leaf)))) .leaf)))))) (.seq none .leaf .leaf))) [a0, a1] H R = F.slices_Index_Lint_int E Tryz.prog a0 a1 H R := by kernel_rfl
theorem b_pgate_solver_set (a0 a1 : AV) (H : AH) (R : Kt) : bodyW E Tryz.prog Tryz.f62 (.seq (some []) (.seq none .leaf (.two .leaf .leaf)) .leaf) [a0, a1] H R = F.pgate_solver_set E Tryz.prog a0 a1 H R := by kernel_rfl
theorem b_pref_parser_word (a0 : AV) (H : AH) (R : Kt) : bodyW E Tryz.prog Tryz.f67 (.seq none .leaf (.seq none .leaf (.seq none .leaf (.seq none (.one (.loop [3] (.seq none (.seq none .leaf (.two .leaf .leaf)) (.one .leaf)))) (.seq none .draw (.seq (some []) (.one (.seq none .leaf (.two .leaf (.seq none .leaf (.two .leaf .leaf))))) (.seq none .leaf .leaf))))))) [a0] H R = F.pref_parser_word E Tryz.prog a0 H R := by kernel_rfl
theorem b_pexpr_reader_take (a0 a1 : AV) (H : AH) (R : Kt) : bodyW E Tryz.prog Tryz.f68 (.seq none .leaf (.seq none .leaf (.seq none (.seq none .draw (.two (.seq none .leaf (.seq none .leaf .leaf)) .leaf)) (.seq none .leaf .leaf)))) [a0, a1] H R = F.pexpr_reader_take E Tryz.prog a0 a1 H R := by kernel_rfl
theorem b_pexpr_reader_one (a0 a1 : AV) (H : AH) (R : Kt) : bodyW E Tryz.prog Tryz.f69 (.seq none .leaf (.seq none (.seq none .leaf (.two (.seq none .leaf .leaf) .leaf)) (.seq none (.one (.seq none .leaf (.two (.seq none .leaf (.seq none (.seq none .leaf (.two (.seq none .leaf .leaf) .leaf)) (.seq none .leaf .leaf))) (.seq none .leaf (.two (.seq none .leaf (.seq none (.seq none .leaf (.two (.seq none .leaf .leaf) .leaf)) (.seq none (.seq none .leaf (.two (.seq none .leaf .leaf) .leaf)) (.seq none .leaf .leaf)))) (.seq none .leaf (.two (.seq none .leaf .leaf) (.seq none .leaf (.two (.seq none .leaf .leaf) (.seq none .leaf (.two (.seq none .leaf (.seq none .leaf .leaf)) (.seq none .leaf (.two (.seq none .leaf (.seq none .leaf .leaf)) .leaf))))))))))))) (.seq none .leaf (.seq none .leaf .leaf))))) [a0, a1] H R = F.pexpr_reader_one E Tryz.prog a0 a1 H R := by kernel_rfl
theorem b_expr_sorted_c1 (a0 a1 a2 : AV) (H : AH) (R : Kt) : bodyW E Tryz.prog Tryz.f71 (.seq none .leaf (.seq none .leaf (.two .leaf .leaf))) [a0, a1, a2] H R = F.expr_sorted_c1 E Tryz.prog a0 a1 a2 H R := by kernel_rfl
theorem b_slices_IndexFunc_Lint_int (a0 a1 : AV) (H : AH) (R : Kt) : bodyW E Tryz.prog Tryz.f74 (.seq none .leaf (.seq none (.seq none .leaf (.one (.loop [8] (.seq none .leaf (.seq none (.two .leaf .leaf) (.seq none (.one (.seq none .leaf (.seq none .leaf (.two (.seq none .leaf .leaf) .leaf)))) .leaf)))))) (.seq none .leaf .leaf))) [a0, a1] H R = F.slices_IndexFunc_Lint_int E Tryz.prog a0 a1 H R := by kernel_rfl
theorem b_pgate_solver_is (a0 a1 : AV) (H : AH) (R : Kt) : bodyW E Tryz.prog Tryz.f75 (.seq none .leaf (.seq none (.seq none .leaf (.two (.seq none .leaf .leaf) .leaf)) (.seq none .leaf .leaf))) [a0, a1] H R = F.pgate_solver_is E Tryz.prog a0 a1 H R := by kernel_rfl
theorem b_strings_ContainsRune (a0 a1 : AV) (H : AH) (R : Kt) : bodyW E Tryz.prog Tryz.f79 (.seq none .leaf (.seq none .leaf .leaf)) [a0, a1] H R = F.strings_ContainsRune E Tryz.prog a0 a1 H R := by kernel_rfl
theorem b_ref_NameCheck (a0 : AV) (H : AH) (R : Kt) : bodyW E Tryz.prog Tryz.f80 (.seq none .leaf (.seq none (.seq none .leaf (.one (.loop [8] (.seq none .leaf (.seq none (.two .leaf .leaf) (.seq none (.one (.seq none .leaf (.seq none .leaf (.seq none .leaf (.seq none .leaf (.two (.seq none .leaf .leaf) .leaf)))))) .leaf)))))) (.seq none (.seq none .leaf (.one (.seq (some [41]) (.seq none .leaf (.two .leaf (.seq none .leaf (.two .leaf (.seq none .leaf (.two .leaf (.seq none .leaf (.two .leaf (.seq none .leaf (.two .leaf (.seq none .leaf (.two .leaf (.seq none .leaf (.two .leaf (.seq none .leaf (.two .leaf (.seq none .leaf (.two .leaf .leaf)))))))))))))))))) (.two (.seq none .leaf .leaf) .leaf)))) (.seq none .leaf .leaf)))) [a0] H R = F.ref_NameCheck E Tryz.prog a0 H R := by kernel_rfl
theorem b_pexpr_reader_word (a0 : AV) (H : AH) (R : Kt) : bodyW E Tryz.prog Tryz.f81 (.seq none .leaf (.seq none .leaf (.seq none .leaf (.seq none (.one (.loop [4] (.seq none (.seq none .leaf (.two .leaf .leaf)) (.one .leaf)))) (.seq none .draw (.seq none (.seq none .leaf (.two (.seq none .leaf .leaf) .leaf)) (.seq none (.seq none .leaf (.two (.seq none .leaf .leaf) .leaf)) (.seq none .leaf (.seq none .leaf .leaf))))))))) [a0] H R = F.pexpr_reader_word E Tryz.prog a0 H R := by kernel_rfl
theorem b_strings_IndexRune_ScV11 (a0 a1 : AV) (H : AH) (R : Kt) : bodyW E Tryz.prog Tryz.f88 (.seq none .leaf (.one (.seq none .leaf (.two (.seq none .leaf .leaf) (.seq none .leaf (.two (.seq none (.seq none .leaf (.one (.loop [] (.seq none .leaf (.seq none (.two .leaf .leaf) (.one (.seq none .leaf (.seq none .leaf (.two (.seq none .leaf .leaf) .leaf))))))))) (.seq none .leaf .leaf)) (.seq none .leaf (.two (.seq none .leaf .leaf) (.one (.seq none .leaf (.seq none .leaf (.seq none .leaf (.seq none .leaf (.seq none (.one (.loop [9] (.seq none (.seq none .leaf (.two .leaf .leaf)) (.one (.one (.seq (some [9]) (.seq none .draw (.two (.seq none .draw (.seq none (.seq none .leaf (.two (.seq none .leaf .leaf) .leaf)) .leaf)) .leaf)) (.seq none (.seq none .leaf (.one (.loop [12] (.seq none (.seq none .leaf (.two .leaf .leaf)) (.seq none (.one (.seq none .draw (.two .leaf .leaf))) .leaf))))) (.seq none (.seq none .leaf .leaf) (.seq none .leaf (.seq none .leaf (.seq none .leaf (.seq none .leaf (.two .leaf .leaf))))))))))))) (.seq none (.seq none .leaf .leaf) (.seq none .leaf (.seq none (.two (.seq none .leaf (.seq none .leaf (.two (.seq none .leaf .leaf) .leaf))) (.one (.seq none .leaf (.seq none .leaf (.seq none .leaf (.one (.loop [] (.seq none (.seq none .leaf (.two .leaf .leaf)) (.seq none (.one (.seq none .leaf (.two (.seq none (.seq none .leaf (.one (.loop [] (.seq none (.seq none .leaf (.two .leaf .leaf)) (.seq none (.one (.seq none .leaf (.two .leaf .leaf))) .leaf))))) (.seq none .leaf .leaf)) .leaf))) .leaf))))))))) (.seq none .leaf .leaf)))))))))))))))))) [a0, a1] H R = F.strings_IndexRune_ScV11 E Tryz.prog a0 a1 H R := by kernel_rfl
theorem b_expr_Name (a0 : AV) (H : AH) (R : Kt) : bodyW E Tryz.prog Tryz.f90 (.seq none .leaf (.seq none .leaf .leaf)) [a0] H R = F.expr_Name E Tryz.prog a0 H R := by kernel_rfl
theorem b_unicode_utf8_ValidRune (a0 : AV) (H : AH) (R : Kt) : bodyW E Tryz.prog Tryz.f104 (.seq none .leaf (.seq none (.one (.seq none .leaf (.two (.seq none .leaf .leaf) (.seq none .leaf (.two (.seq none .leaf .leaf) .leaf))))) (.seq none .leaf .leaf))) [a0] H R = F.unicode_utf8_ValidRune E Tryz.prog a0 H R := by kernel_rfl
theorem b_strings_Trim (a0 a1 : AV) (H : AH) (R : Kt) : bodyW E Tryz.prog Tryz.f105 (.seq none .leaf (.seq none (.seq none .leaf (.two (.seq none .leaf .leaf) .leaf)) (.seq none (.seq none .leaf (.two (.seq none .draw .leaf) .leaf)) (.seq none (.seq none .leaf (.seq none .leaf (.two (.seq none .leaf .leaf) .leaf))) (.seq none .leaf .leaf))))) [a0, a1] H R = F.strings_Trim E Tryz.prog a0 a1 H R := by kernel_rfl
theorem b_slices_Contains_Lstring_string (a0 a1 : AV) (H : AH) (R : Kt) : bodyW E Tryz.prog Tryz.f106 (.seq none .leaf (.seq none .leaf .leaf)) [a0, a1] H R = F.slices_Contains_Lstring_string E Tryz.prog a0 a1 H R := by kernel_rfl
theorem b_strings_trimLeftByte (a0 a1 : AV) (H : AH) (R : Kt) : bodyW E Tryz.prog Tryz.f113 (.seq none .leaf (.seq none (.one (.loop [0] (.seq none (.seq none .leaf (.two .leaf .leaf)) (.one .leaf)))) (.seq none .leaf .leaf))) [a0, a1] H R = F.strings_trimLeftByte E Tryz.prog a0 a1 H R := by kernel_rfl
theorem b_strings_trimRightByte (a0 a1 : AV) (H : AH) (R : Kt) : bodyW E Tryz.prog Tryz.f114 (.seq none .leaf (.seq none (.one (.loop [0] (.seq none (.seq none .leaf (.two .leaf .leaf)) (.one .leaf)))) (.seq none .leaf .leaf))) [a0, a1] H R = F.strings_trimRightByte E Tryz.prog a0 a1 H R := by kernel_rfl
theorem b_strings_makeASCIISet (a0 : AV) (H : AH) (R : Kt) : bodyW E Tryz.prog Tryz.f115 (.seq none .leaf (.seq none (.seq none .leaf (.one (.loop [4] (.seq none (.seq none .leaf (.two .leaf .leaf)) (.seq none (.one (.seq none .leaf (.seq none (.seq none .leaf (.two (.seq none .leaf .leaf) .leaf)) .leaf))) .leaf))))) (.seq none .leaf .leaf))) [a0] H R = F.strings_makeASCIISet E Tryz.prog a0 H R := by kernel_rfl
theorem b_strings_trimLeftASCII (a0 a1 : AV) (H : AH) (R : Kt) : bodyW E Tryz.prog Tryz.f116 (.seq none .leaf (.seq (some [0]) (.one (.loop [0] (.seq none (.seq none .leaf (.two .leaf .leaf)) (.one (.seq none (.seq none .leaf (.two .leaf .leaf)) .leaf))))) (.seq none .leaf .leaf))) [a0, a1] H R = F.strings_trimLeftASCII E Tryz.prog a0 a1 H R := by kernel_rfl
theorem b_strings_trimRightASCII (a0 a1 : AV) (H : AH) (R : Kt) : bodyW E Tryz.prog Tryz.f117 (.seq none .leaf (.seq (some [0]) (.one (.loop [0] (.seq none (.seq none .leaf (.two .leaf .leaf)) (.one (.seq none (.seq none .leaf (.two .leaf .leaf)) .leaf))))) (.seq none .leaf .leaf))) [a0, a1] H R = F.strings_trimRightASCII E Tryz.prog a0 a1 H R := by kernel_rfl
theorem b_slices_Index_Lstring_string (a0 a1 : AV) (H : AH) (R : Kt) : bodyW E Tryz.prog Tryz.f120 (.seq none .leaf (.seq none (.seq none .leaf (.one (.loop [8] (.seq none .leaf (.seq none (.two .leaf .leaf) (.seq none (.one (.seq none .leaf (.seq none .leaf (.two (.seq none .leaf .leaf) .leaf)))) .leaf)))))) (.seq none .leaf .leaf))) [a0, a1] H R = F.slices_Index_Lstring_string E Tryz.prog a0 a1 H R := by kernel_rfl
theorem b_pstrings_asciiSet_contains (a0 a1 : AV) (H : AH) (R : Kt) : bodyW E Tryz.prog Tryz.f122 (.seq none .leaf (.seq none .leaf .leaf)) [a0, a1] H R = F.pstrings_asciiSet_contains E Tryz.prog a0 a1 H R := by kernel_rfl
theorem c_law_read (a0 : AV) (H : AH) (R : Kt) (h : F.law_read E Tryz.prog a0 H R) : ACalls E Tryz.prog 169 [a0] H R :=
  acalls_of_body (show Tryz.prog.funcs[E.fn 169]? = some Tryz.f4 from Tryz.func4) (by kernel_rfl) ((b_law_read a0 H R).mpr h)
theorem c_pref_Expr_Size (a0 : AV) (H : AH) (R : Kt) (h : F.pref_Expr_Size E Tryz.prog a0 H R) : ACalls E Tryz.prog 186 [a0] H R :=
  acalls_of_body (show Tryz.prog.funcs[E.fn 186]? = some Tryz.f5 from Tryz.func5) (by kernel_rfl) ((b_pref_Expr_Size a0 H R).mpr h)
theorem c_pref_Expr_Names (a0 : AV) (H : AH) (R : Kt) (h : F.pref_Expr_Names E Tryz.prog a0 H R) : ACalls E Tryz.prog 182 [a0] H R :=
  acalls_of_body (show Tryz.prog.funcs[E.fn 182]? = some Tryz.f6 from Tryz.func6) (by kernel_rfl) ((b_pref_Expr_Names a0 H R).mpr h)
theorem c_pref_Expr_Edges (a0 : AV) (H : AH) (R : Kt) (h : F.pref_Expr_Edges E Tryz.prog a0 H R) : ACalls E Tryz.prog 185 [a0] H R :=
  acalls_of_body (show Tryz.prog.funcs[E.fn 185]? = some Tryz.f7 from Tryz.func7) (by kernel_rfl) ((b_pref_Expr_Edges a0 H R).mpr h)
theorem c_gate_Same (a0 a1 : AV) (H : AH) (R : Kt) (h : F.gate_Same E Tryz.prog a0 a1 H R) : ACalls E Tryz.prog 231 [a0, a1] H R :=
  acalls_of_body (show Tryz.prog.funcs[E.fn 231]? = some Tryz.f8 from Tryz.func8) (by kernel_rfl) ((b_gate_Same a0 a1 H R).mpr h)
theorem c_law_bare (a0 a1 : AV) (H : AH) (R : Kt) (h : F.law_bare E Tryz.prog a0 a1 H R) : ACalls E Tryz.prog 89 [a0, a1] H R :=
  acalls_of_body (show Tryz.prog.funcs[E.fn 89]? = some Tryz.f9 from Tryz.func9) (by kernel_rfl) ((b_law_bare a0 a1 H R).mpr h)
theorem c_ref_GateSame (a0 a1 : AV) (H : AH) (R : Kt) (h : F.ref_GateSame E Tryz.prog a0 a1 H R) : ACalls E Tryz.prog 243 [a0, a1] H R :=
  acalls_of_body (show Tryz.prog.funcs[E.fn 243]? = some Tryz.f10 from Tryz.func10) (by kernel_rfl) ((b_ref_GateSame a0 a1 H R).mpr h)
theorem c_ref_ExprParse (a0 : AV) (H : AH) (R : Kt) (h : F.ref_ExprParse E Tryz.prog a0 H R) : ACalls E Tryz.prog 125 [a0] H R :=
  acalls_of_body (show Tryz.prog.funcs[E.fn 125]? = some Tryz.f11 from Tryz.func11) (by kernel_rfl) ((b_ref_ExprParse a0 H R).mpr h)
theorem c_expr_Parse (a0 : AV) (H : AH) (R : Kt) (h : F.expr_Parse E Tryz.prog a0 H R) : ACalls E Tryz.prog 126 [a0] H R :=
  acalls_of_body (show Tryz.prog.funcs[E.fn 126]? = some Tryz.f12 from Tryz.func12) (by kernel_rfl) ((b_expr_Parse a0 H R).mpr h)
theorem c_pref_Expr_named (a0 a1 : AV) (H : AH) (R : Kt) (h : F.pref_Expr_named E Tryz.prog a0 a1 H R) : ACalls E Tryz.prog 191 [a0, a1] H R :=
  acalls_of_body (show Tryz.prog.funcs[E.fn 191]? = some Tryz.f13 from Tryz.func13) (by kernel_rfl) ((b_pref_Expr_named a0 a1 H R).mpr h)
theorem c_gate_Of (a0 : AV) (H : AH) (R : Kt) (h : F.gate_Of E Tryz.prog a0 H R) : ACalls E Tryz.prog 233 [a0] H R :=
  acalls_of_body (show Tryz.prog.funcs[E.fn 233]? = some Tryz.f14 from Tryz.func14) (by kernel_rfl) ((b_gate_Of a0 H R).mpr h)
theorem c_gate_Solve (a0 : AV) (H : AH) (R : Kt) (h : F.gate_Solve E Tryz.prog a0 H R) : ACalls E Tryz.prog 100 [a0] H R :=
  acalls_of_body (show Tryz.prog.funcs[E.fn 100]? = some Tryz.f15 from Tryz.func15) (by kernel_rfl) ((b_gate_Solve a0 H R).mpr h)
theorem c_law_at (a0 a1 : AV) (H : AH) (R : Kt) (h : F.law_at E Tryz.prog a0 a1 H R) : ACalls E Tryz.prog 77 [a0, a1] H R :=
  acalls_of_body (show Tryz.prog.funcs[E.fn 77]? = some Tryz.f17 from Tryz.func17) (by kernel_rfl) ((b_law_at a0 a1 H R).mpr h)
theorem c_ref_Bare (a0 : AV) (H : AH) (R : Kt) (h : F.ref_Bare E Tryz.prog a0 H R) : ACalls E Tryz.prog 87 [a0] H R :=
  acalls_of_body (show Tryz.prog.funcs[E.fn 87]? = some Tryz.f18 from Tryz.func18) (by kernel_rfl) ((b_ref_Bare a0 H R).mpr h)
theorem c_ref_cases (a0 a1 a2 : AV) (H : AH) (R : Kt) (h : F.ref_cases E Tryz.prog a0 a1 a2 H R) : ACalls E Tryz.prog 247 [a0, a1, a2] H R :=
  acalls_of_body (show Tryz.prog.funcs[E.fn 247]? = some Tryz.f19 from Tryz.func19) (by kernel_rfl) ((b_ref_cases a0 a1 a2 H R).mpr h)
theorem c_ref_both (a0 a1 : AV) (H : AH) (R : Kt) (h : F.ref_both E Tryz.prog a0 a1 H R) : ACalls E Tryz.prog 246 [a0, a1] H R :=
  acalls_of_body (show Tryz.prog.funcs[E.fn 246]? = some Tryz.f20 from Tryz.func20) (by kernel_rfl) ((b_ref_both a0 a1 H R).mpr h)
theorem c_ref_GateSame_c1 (a0 a1 a2 a3 a4 : AV) (H : AH) (R : Kt) (h : F.ref_GateSame_c1 E Tryz.prog a0 a1 a2 a3 a4 H R) : ACalls E Tryz.prog 245 [a0, a1, a2, a3, a4] H R :=
  acalls_of_body (show Tryz.prog.funcs[E.fn 245]? = some Tryz.f21 from Tryz.func21) (by kernel_rfl) ((b_ref_GateSame_c1 a0 a1 a2 a3 a4 H R).mpr h)
theorem c_pref_Expr_Eval (a0 a1 a2 : AV) (H : AH) (R : Kt) (h : F.pref_Expr_Eval E Tryz.prog a0 a1 a2 H R) : ACalls E Tryz.prog 180 [a0, a1, a2] H R :=
  acalls_of_body (show Tryz.prog.funcs[E.fn 180]? = some Tryz.f22 from Tryz.func22) (by kernel_rfl) ((b_pref_Expr_Eval a0 a1 a2 H R).mpr h)
theorem c_pref_parser_whole (a0 a1 : AV) (H : AH) (R : Kt) (h : F.pref_parser_whole E Tryz.prog a0 a1 H R) : ACalls E Tryz.prog 130 [a0, a1] H R :=
  acalls_of_body (show Tryz.prog.funcs[E.fn 130]? = some Tryz.f23 from Tryz.func23) (by kernel_rfl) ((b_pref_parser_whole a0 a1 H R).mpr h)
theorem c_pref_parser_next (a0 : AV) (H : AH) (R : Kt) (h : F.pref_parser_next E Tryz.prog a0 H R) : ACalls E Tryz.prog 131 [a0] H R :=
  acalls_of_body (show Tryz.prog.funcs[E.fn 131]? = some Tryz.f24 from Tryz.func24) (by kernel_rfl) ((b_pref_parser_next a0 H R).mpr h)
theorem c_pref_parser_fail (a0 a1 : AV) (H : AH) (R : Kt) (h : F.pref_parser_fail E Tryz.prog a0 a1 H R) : ACalls E Tryz.prog 132 [a0, a1] H R :=
  acalls_of_body (show Tryz.prog.funcs[E.fn 132]? = some Tryz.f25 from Tryz.func25) (by kernel_rfl) ((b_pref_parser_fail a0 a1 H R).mpr h)
theorem c_pexpr_reader_or (a0 a1 : AV) (H : AH) (R : Kt) (h : F.pexpr_reader_or E Tryz.prog a0 a1 H R) : ACalls E Tryz.prog 133 [a0, a1] H R :=
  acalls_of_body (show Tryz.prog.funcs[E.fn 133]? = some Tryz.f26 from Tryz.func26) (by kernel_rfl) ((b_pexpr_reader_or a0 a1 H R).mpr h)
theorem c_pexpr_reader_blanks (a0 : AV) (H : AH) (R : Kt) (h : F.pexpr_reader_blanks E Tryz.prog a0 H R) : ACalls E Tryz.prog 134 [a0] H R :=
  acalls_of_body (show Tryz.prog.funcs[E.fn 134]? = some Tryz.f27 from Tryz.func27) (by kernel_rfl) ((b_pexpr_reader_blanks a0 H R).mpr h)
theorem c_pexpr_reader_fail (a0 a1 : AV) (H : AH) (R : Kt) (h : F.pexpr_reader_fail E Tryz.prog a0 a1 H R) : ACalls E Tryz.prog 135 [a0, a1] H R :=
  acalls_of_body (show Tryz.prog.funcs[E.fn 135]? = some Tryz.f28 from Tryz.func28) (by kernel_rfl) ((b_pexpr_reader_fail a0 a1 H R).mpr h)
theorem c_pref_Expr_named_c1 (a0 a1 a2 a3 : AV) (H : AH) (R : Kt) (h : F.pref_Expr_named_c1 E Tryz.prog a0 a1 a2 a3 H R) : ACalls E Tryz.prog 196 [a0, a1, a2, a3] H R :=
  acalls_of_body (show Tryz.prog.funcs[E.fn 196]? = some Tryz.f29 from Tryz.func29) (by kernel_rfl) ((b_pref_Expr_named_c1 a0 a1 a2 a3 H R).mpr h)
theorem c_expr_Size (a0 : AV) (H : AH) (R : Kt) (h : F.expr_Size E Tryz.prog a0 H R) : ACalls E Tryz.prog 156 [a0] H R :=
  acalls_of_body (show Tryz.prog.funcs[E.fn 156]? = some Tryz.f31 from Tryz.func31) (by kernel_rfl) ((b_expr_Size a0 H R).mpr h)
theorem c_expr_Names (a0 : AV) (H : AH) (R : Kt) (h : F.expr_Names E Tryz.prog a0 H R) : ACalls E Tryz.prog 181 [a0] H R :=
  acalls_of_body (show Tryz.prog.funcs[E.fn 181]? = some Tryz.f32 from Tryz.func32) (by kernel_rfl) ((b_expr_Names a0 H R).mpr h)
theorem c_pgate_builder_fresh (a0 : AV) (H : AH) (R : Kt) (h : F.pgate_builder_fresh E Tryz.prog a0 H R) : ACalls E Tryz.prog 234 [a0] H R :=
  acalls_of_body (show Tryz.prog.funcs[E.fn 234]? = some Tryz.f33 from Tryz.func33) (by kernel_rfl) ((b_pgate_builder_fresh a0 H R).mpr h)
theorem c_expr_Edges (a0 : AV) (H : AH) (R : Kt) (h : F.expr_Edges E Tryz.prog a0 H R) : ACalls E Tryz.prog 184 [a0] H R :=
  acalls_of_body (show Tryz.prog.funcs[E.fn 184]? = some Tryz.f34 from Tryz.func34) (by kernel_rfl) ((b_expr_Edges a0 H R).mpr h)
theorem c_pgate_builder_lit (a0 a1 : AV) (H : AH) (R : Kt) (h : F.pgate_builder_lit E Tryz.prog a0 a1 H R) : ACalls E Tryz.prog 235 [a0, a1] H R :=
  acalls_of_body (show Tryz.prog.funcs[E.fn 235]? = some Tryz.f35 from Tryz.func35) (by kernel_rfl) ((b_pgate_builder_lit a0 a1 H R).mpr h)
theorem c_gate_Check (a0 : AV) (H : AH) (R : Kt) (h : F.gate_Check E Tryz.prog a0 H R) : ACalls E Tryz.prog 101 [a0] H R :=
  acalls_of_body (show Tryz.prog.funcs[E.fn 101]? = some Tryz.f36 from Tryz.func36) (by kernel_rfl) ((b_gate_Check a0 H R).mpr h)
theorem c_pgate_solver_search (a0 : AV) (H : AH) (R : Kt) (h : F.pgate_solver_search E Tryz.prog a0 H R) : ACalls E Tryz.prog 105 [a0] H R :=
  acalls_of_body (show Tryz.prog.funcs[E.fn 105]? = some Tryz.f37 from Tryz.func37) (by kernel_rfl) ((b_pgate_solver_search a0 H R).mpr h)
theorem c_plain_Place (a0 : AV) (H : AH) (R : Kt) (h : F.plain_Place E Tryz.prog a0 H R) : ACalls E Tryz.prog 84 [a0] H R :=
  acalls_of_body (show Tryz.prog.funcs[E.fn 84]? = some Tryz.f39 from Tryz.func39) (by kernel_rfl) ((b_plain_Place a0 H R).mpr h)
theorem c_ref_cases_c1 (a0 a1 a2 a3 : AV) (H : AH) (R : Kt) (h : F.ref_cases_c1 E Tryz.prog a0 a1 a2 a3 H R) : ACalls E Tryz.prog 248 [a0, a1, a2, a3] H R :=
  acalls_of_body (show Tryz.prog.funcs[E.fn 248]? = some Tryz.f40 from Tryz.func40) (by kernel_rfl) ((b_ref_cases_c1 a0 a1 a2 a3 H R).mpr h)
theorem c_ref_cases_c1_c1 (a0 a1 a2 a3 a4 : AV) (H : AH) (R : Kt) (h : F.ref_cases_c1_c1 E Tryz.prog a0 a1 a2 a3 a4 H R) : ACalls E Tryz.prog 249 [a0, a1, a2, a3, a4] H R :=
  acalls_of_body (show Tryz.prog.funcs[E.fn 249]? = some Tryz.f41 from Tryz.func41) (by kernel_rfl) ((b_ref_cases_c1_c1 a0 a1 a2 a3 a4 H R).mpr h)
theorem c_ref_index (a0 a1 : AV) (H : AH) (R : Kt) (h : F.ref_index E Tryz.prog a0 a1 H R) : ACalls E Tryz.prog 98 [a0, a1] H R :=
  acalls_of_body (show Tryz.prog.funcs[E.fn 98]? = some Tryz.f42 from Tryz.func42) (by kernel_rfl) ((b_ref_index a0 a1 H R).mpr h)
theorem c_pref_parser_row (a0 a1 a2 a3 : AV) (H : AH) (R : Kt) (h : F.pref_parser_row E Tryz.prog a0 a1 a2 a3 H R) : ACalls E Tryz.prog 137 [a0, a1, a2, a3] H R :=
  acalls_of_body (show Tryz.prog.funcs[E.fn 137]? = some Tryz.f43 from Tryz.func43) (by kernel_rfl) ((b_pref_parser_row a0 a1 a2 a3 H R).mpr h)
theorem c_pref_parser_whole_c1 (a0 a1 : AV) (H : AH) (R : Kt) (h : F.pref_parser_whole_c1 E Tryz.prog a0 a1 H R) : ACalls E Tryz.prog 136 [a0, a1] H R :=
  acalls_of_body (show Tryz.prog.funcs[E.fn 136]? = some Tryz.f44 from Tryz.func44) (by kernel_rfl) ((b_pref_parser_whole_c1 a0 a1 H R).mpr h)
theorem c_pref_parser_piece (a0 a1 : AV) (H : AH) (R : Kt) (h : F.pref_parser_piece E Tryz.prog a0 a1 H R) : ACalls E Tryz.prog 141 [a0, a1] H R :=
  acalls_of_body (show Tryz.prog.funcs[E.fn 141]? = some Tryz.f45 from Tryz.func45) (by kernel_rfl) ((b_pref_parser_piece a0 a1 H R).mpr h)
theorem c_pref_parser_skip (a0 : AV) (H : AH) (R : Kt) (h : F.pref_parser_skip E Tryz.prog a0 H R) : ACalls E Tryz.prog 138 [a0] H R :=
  acalls_of_body (show Tryz.prog.funcs[E.fn 138]? = some Tryz.f46 from Tryz.func46) (by kernel_rfl) ((b_pref_parser_skip a0 H R).mpr h)
theorem c_pexpr_reader_several (a0 a1 a2 a3 : AV) (H : AH) (R : Kt) (h : F.pexpr_reader_several E Tryz.prog a0 a1 a2 a3 H R) : ACalls E Tryz.prog 140 [a0, a1, a2, a3] H R :=
  acalls_of_body (show Tryz.prog.funcs[E.fn 140]? = some Tryz.f47 from Tryz.func47) (by kernel_rfl) ((b_pexpr_reader_several a0 a1 a2 a3 H R).mpr h)
theorem c_pexpr_reader_and (a0 a1 : AV) (H : AH) (R : Kt) (h : F.pexpr_reader_and E Tryz.prog a0 a1 H R) : ACalls E Tryz.prog 139 [a0, a1] H R :=
  acalls_of_body (show Tryz.prog.funcs[E.fn 139]? = some Tryz.f48 from Tryz.func48) (by kernel_rfl) ((b_pexpr_reader_and a0 a1 H R).mpr h)
theorem c_expr_walk (a0 a1 : AV) (H : AH) (R : Kt) (h : F.expr_walk E Tryz.prog a0 a1 H R) : ACalls E Tryz.prog 161 [a0, a1] H R :=
  acalls_of_body (show Tryz.prog.funcs[E.fn 161]? = some Tryz.f50 from Tryz.func50) (by kernel_rfl) ((b_expr_walk a0 a1 H R).mpr h)
theorem c_expr_Size_c1 (a0 a1 : AV) (H : AH) (R : Kt) (h : F.expr_Size_c1 E Tryz.prog a0 a1 H R) : ACalls E Tryz.prog 160 [a0, a1] H R :=
  acalls_of_body (show Tryz.prog.funcs[E.fn 160]? = some Tryz.f51 from Tryz.func51) (by kernel_rfl) ((b_expr_Size_c1 a0 a1 H R).mpr h)
theorem c_expr_sorted (a0 a1 : AV) (H : AH) (R : Kt) (h : F.expr_sorted E Tryz.prog a0 a1 H R) : ACalls E Tryz.prog 190 [a0, a1] H R :=
  acalls_of_body (show Tryz.prog.funcs[E.fn 190]? = some Tryz.f52 from Tryz.func52) (by kernel_rfl) ((b_expr_sorted a0 a1 H R).mpr h)
theorem c_expr_Names_c1 (a0 : AV) (H : AH) (R : Kt) (h : F.expr_Names_c1 E Tryz.prog a0 H R) : ACalls E Tryz.prog 189 [a0] H R :=
  acalls_of_body (show Tryz.prog.funcs[E.fn 189]? = some Tryz.f53 from Tryz.func53) (by kernel_rfl) ((b_expr_Names_c1 a0 H R).mpr h)
theorem c_expr_Edges_c1 (a0 : AV) (H : AH) (R : Kt) (h : F.expr_Edges_c1 E Tryz.prog a0 H R) : ACalls E Tryz.prog 192 [a0] H R :=
  acalls_of_body (show Tryz.prog.funcs[E.fn 192]? = some Tryz.f54 from Tryz.func54) (by kernel_rfl) ((b_expr_Edges_c1 a0 H R).mpr h)
theorem c_pgate_builder_and (a0 a1 : AV) (H : AH) (R : Kt) (h : F.pgate_builder_and E Tryz.prog a0 a1 H R) : ACalls E Tryz.prog 236 [a0, a1] H R :=
  acalls_of_body (show Tryz.prog.funcs[E.fn 236]? = some Tryz.f55 from Tryz.func55) (by kernel_rfl) ((b_pgate_builder_and a0 a1 H R).mpr h)
theorem c_pgate_builder_add (a0 a1 : AV) (H : AH) (R : Kt) (h : F.pgate_builder_add E Tryz.prog a0 a1 H R) : ACalls E Tryz.prog 237 [a0, a1] H R :=
  acalls_of_body (show Tryz.prog.funcs[E.fn 237]? = some Tryz.f56 from Tryz.func56) (by kernel_rfl) ((b_pgate_builder_add a0 a1 H R).mpr h)
theorem c_slices_ContainsFunc_Lint_int (a0 a1 : AV) (H : AH) (R : Kt) (h : F.slices_ContainsFunc_Lint_int E Tryz.prog a0 a1 H R) : ACalls E Tryz.prog 59 [a0, a1] H R :=
  acalls_of_body (show Tryz.prog.funcs[E.fn 59]? = some Tryz.f57 from Tryz.func57) (by kernel_rfl) ((b_slices_ContainsFunc_Lint_int a0 a1 H R).mpr h)
theorem c_gate_Check_c1 (a0 a1 : AV) (H : AH) (R : Kt) (h : F.gate_Check_c1 E Tryz.prog a0 a1 H R) : ACalls E Tryz.prog 106 [a0, a1] H R :=
  acalls_of_body (show Tryz.prog.funcs[E.fn 106]? = some Tryz.f58 from Tryz.func58) (by kernel_rfl) ((b_gate_Check_c1 a0 a1 H R).mpr h)
theorem c_pgate_solver_spread (a0 : AV) (H : AH) (R : Kt) (h : F.pgate_solver_spread E Tryz.prog a0 H R) : ACalls E Tryz.prog 108 [a0] H R :=
  acalls_of_body (show Tryz.prog.funcs[E.fn 108]? = some Tryz.f59 from Tryz.func59) (by kernel_rfl) ((b_pgate_solver_spread a0 H R).mpr h)
theorem c_pgate_solver_back (a0 a1 : AV) (H : AH) (R : Kt) (h : F.pgate_solver_back E Tryz.prog a0 a1 H R) : ACalls E Tryz.prog 109 [a0, a1] H R :=
  acalls_of_body (show Tryz.prog.funcs[E.fn 109]? = some Tryz.f60 from Tryz.func60) (by kernel_rfl) ((b_pgate_solver_back a0 a1 H R).mpr h)
theorem c_slices_Index_Lint_int (a0 a1 : AV) (H : AH) (R : Kt) (h : F.slices_Index_Lint_int E Tryz.prog a0 a1 H R) : ACalls E Tryz.prog 110 [a0, a1] H R :=
  acalls_of_body (show Tryz.prog.funcs[E.fn 110]? = some Tryz.f61 from Tryz.func61) (by kernel_rfl) ((b_slices_Index_Lint_int a0 a1 H R).mpr h)
theorem c_pgate_solver_set (a0 a1 : AV) (H : AH) (R : Kt) (h : F.pgate_solver_set E Tryz.prog a0 a1 H R) : ACalls E Tryz.prog 111 [a0, a1] H R :=
  acalls_of_body (show Tryz.prog.funcs[E.fn 111]? = some Tryz.f62 from Tryz.func62) (by kernel_rfl) ((b_pgate_solver_set a0 a1 H R).mpr h)
theorem c_pref_parser_word (a0 : AV) (H : AH) (R : Kt) (h : F.pref_parser_word E Tryz.prog a0 H R) : ACalls E Tryz.prog 142 [a0] H R :=
  acalls_of_body (show Tryz.prog.funcs[E.fn 142]? = some Tryz.f67 from Tryz.func67) (by kernel_rfl) ((b_pref_parser_word a0 H R).mpr h)
theorem c_pexpr_reader_take (a0 a1 : AV) (H : AH) (R : Kt) (h : F.pexpr_reader_take E Tryz.prog a0 a1 H R) : ACalls E Tryz.prog 143 [a0, a1] H R :=
  acalls_of_body (show Tryz.prog.funcs[E.fn 143]? = some Tryz.f68 from Tryz.func68) (by kernel_rfl) ((b_pexpr_reader_take a0 a1 H R).mpr h)
theorem c_pexpr_reader_one (a0 a1 : AV) (H : AH) (R : Kt) (h : F.pexpr_reader_one E Tryz.prog a0 a1 H R) : ACalls E Tryz.prog 144 [a0, a1] H R :=
  acalls_of_body (show Tryz.prog.funcs[E.fn 144]? = some Tryz.f69 from Tryz.func69) (by kernel_rfl) ((b_pexpr_reader_one a0 a1 H R).mpr h)
theorem c_expr_sorted_c1 (a0 a1 a2 : AV) (H : AH) (R : Kt) (h : F.expr_sorted_c1 E Tryz.prog a0 a1 a2 H R) : ACalls E Tryz.prog 193 [a0, a1, a2] H R :=
  acalls_of_body (show Tryz.prog.funcs[E.fn 193]? = some Tryz.f71 from Tryz.func71) (by kernel_rfl) ((b_expr_sorted_c1 a0 a1 a2 H R).mpr h)
theorem c_slices_IndexFunc_Lint_int (a0 a1 : AV) (H : AH) (R : Kt) (h : F.slices_IndexFunc_Lint_int E Tryz.prog a0 a1 H R) : ACalls E Tryz.prog 66 [a0, a1] H R :=
  acalls_of_body (show Tryz.prog.funcs[E.fn 66]? = some Tryz.f74 from Tryz.func74) (by kernel_rfl) ((b_slices_IndexFunc_Lint_int a0 a1 H R).mpr h)
theorem c_pgate_solver_is (a0 a1 : AV) (H : AH) (R : Kt) (h : F.pgate_solver_is E Tryz.prog a0 a1 H R) : ACalls E Tryz.prog 112 [a0, a1] H R :=
  acalls_of_body (show Tryz.prog.funcs[E.fn 112]? = some Tryz.f75 from Tryz.func75) (by kernel_rfl) ((b_pgate_solver_is a0 a1 H R).mpr h)
theorem c_strings_ContainsRune (a0 a1 : AV) (H : AH) (R : Kt) (h : F.strings_ContainsRune E Tryz.prog a0 a1 H R) : ACalls E Tryz.prog 16 [a0, a1] H R :=
  acalls_of_body (show Tryz.prog.funcs[E.fn 16]? = some Tryz.f79 from Tryz.func79) (by kernel_rfl) ((b_strings_ContainsRune a0 a1 H R).mpr h)
theorem c_ref_NameCheck (a0 : AV) (H : AH) (R : Kt) (h : F.ref_NameCheck E Tryz.prog a0 H R) : ACalls E Tryz.prog 2 [a0] H R :=
  acalls_of_body (show Tryz.prog.funcs[E.fn 2]? = some Tryz.f80 from Tryz.func80) (by kernel_rfl) ((b_ref_NameCheck a0 H R).mpr h)
theorem c_pexpr_reader_word (a0 : AV) (H : AH) (R : Kt) (h : F.pexpr_reader_word E Tryz.prog a0 H R) : ACalls E Tryz.prog 145 [a0] H R :=
  acalls_of_body (show Tryz.prog.funcs[E.fn 145]? = some Tryz.f81 from Tryz.func81) (by kernel_rfl) ((b_pexpr_reader_word a0 H R).mpr h)
theorem c_strings_IndexRune_ScV11 (a0 a1 : AV) (H : AH) (R : Kt) (h : F.strings_IndexRune_ScV11 E Tryz.prog a0 a1 H R) : ACalls E Tryz.prog 19 [a0, a1] H R :=
  acalls_of_body (show Tryz.prog.funcs[E.fn 19]? = some Tryz.f88 from Tryz.func88) (by kernel_rfl) ((b_strings_IndexRune_ScV11 a0 a1 H R).mpr h)
theorem c_expr_Name (a0 : AV) (H : AH) (R : Kt) (h : F.expr_Name E Tryz.prog a0 H R) : ACalls E Tryz.prog 1 [a0] H R :=
  acalls_of_body (show Tryz.prog.funcs[E.fn 1]? = some Tryz.f90 from Tryz.func90) (by kernel_rfl) ((b_expr_Name a0 H R).mpr h)
theorem c_unicode_utf8_ValidRune (a0 : AV) (H : AH) (R : Kt) (h : F.unicode_utf8_ValidRune E Tryz.prog a0 H R) : ACalls E Tryz.prog 22 [a0] H R :=
  acalls_of_body (show Tryz.prog.funcs[E.fn 22]? = some Tryz.f104 from Tryz.func104) (by kernel_rfl) ((b_unicode_utf8_ValidRune a0 H R).mpr h)
theorem c_strings_Trim (a0 a1 : AV) (H : AH) (R : Kt) (h : F.strings_Trim E Tryz.prog a0 a1 H R) : ACalls E Tryz.prog 4 [a0, a1] H R :=
  acalls_of_body (show Tryz.prog.funcs[E.fn 4]? = some Tryz.f105 from Tryz.func105) (by kernel_rfl) ((b_strings_Trim a0 a1 H R).mpr h)
theorem c_slices_Contains_Lstring_string (a0 a1 : AV) (H : AH) (R : Kt) (h : F.slices_Contains_Lstring_string E Tryz.prog a0 a1 H R) : ACalls E Tryz.prog 5 [a0, a1] H R :=
  acalls_of_body (show Tryz.prog.funcs[E.fn 5]? = some Tryz.f106 from Tryz.func106) (by kernel_rfl) ((b_slices_Contains_Lstring_string a0 a1 H R).mpr h)
theorem c_strings_trimLeftByte (a0 a1 : AV) (H : AH) (R : Kt) (h : F.strings_trimLeftByte E Tryz.prog a0 a1 H R) : ACalls E Tryz.prog 7 [a0, a1] H R :=
  acalls_of_body (show Tryz.prog.funcs[E.fn 7]? = some Tryz.f113 from Tryz.func113) (by kernel_rfl) ((b_strings_trimLeftByte a0 a1 H R).mpr h)
theorem c_strings_trimRightByte (a0 a1 : AV) (H : AH) (R : Kt) (h : F.strings_trimRightByte E Tryz.prog a0 a1 H R) : ACalls E Tryz.prog 6 [a0, a1] H R :=
  acalls_of_body (show Tryz.prog.funcs[E.fn 6]? = some Tryz.f114 from Tryz.func114) (by kernel_rfl) ((b_strings_trimRightByte a0 a1 H R).mpr h)
theorem c_strings_makeASCIISet (a0 : AV) (H : AH) (R : Kt) (h : F.strings_makeASCIISet E Tryz.prog a0 H R) : ACalls E Tryz.prog 8 [a0] H R :=
  acalls_of_body (show Tryz.prog.funcs[E.fn 8]? = some Tryz.f115 from Tryz.func115) (by kernel_rfl) ((b_strings_makeASCIISet a0 H R).mpr h)
theorem c_strings_trimLeftASCII (a0 a1 : AV) (H : AH) (R : Kt) (h : F.strings_trimLeftASCII E Tryz.prog a0 a1 H R) : ACalls E Tryz.prog 10 [a0, a1] H R :=
  acalls_of_body (show Tryz.prog.funcs[E.fn 10]? = some Tryz.f116 from Tryz.func116) (by kernel_rfl) ((b_strings_trimLeftASCII a0 a1 H R).mpr h)
theorem c_strings_trimRightASCII (a0 a1 : AV) (H : AH) (R : Kt) (h : F.strings_trimRightASCII E Tryz.prog a0 a1 H R) : ACalls E Tryz.prog 9 [a0, a1] H R :=
  acalls_of_body (show Tryz.prog.funcs[E.fn 9]? = some Tryz.f117 from Tryz.func117) (by kernel_rfl) ((b_strings_trimRightASCII a0 a1 H R).mpr h)
theorem c_slices_Index_Lstring_string (a0 a1 : AV) (H : AH) (R : Kt) (h : F.slices_Index_Lstring_string E Tryz.prog a0 a1 H R) : ACalls E Tryz.prog 13 [a0, a1] H R :=
  acalls_of_body (show Tryz.prog.funcs[E.fn 13]? = some Tryz.f120 from Tryz.func120) (by kernel_rfl) ((b_slices_Index_Lstring_string a0 a1 H R).mpr h)
theorem c_pstrings_asciiSet_contains (a0 a1 : AV) (H : AH) (R : Kt) (h : F.pstrings_asciiSet_contains E Tryz.prog a0 a1 H R) : ACalls E Tryz.prog 14 [a0, a1] H R :=
  acalls_of_body (show Tryz.prog.funcs[E.fn 14]? = some Tryz.f122 from Tryz.func122) (by kernel_rfl) ((b_pstrings_asciiSet_contains a0 a1 H R).mpr h)
end Go.Proofs.YthjggpnmhddglaaGreatDoor
set_option maxRecDepth 100000
namespace Go.Proofs
open Go.Shelf
def Tryz.lays137_ren : Go.Shelf.Ren := ⟨fun | 137 => 89 | 217 => 82 | 266 => 91 | n => n, fun | 9 => 9 | 5 => 5 | 3 => 3 | n => n, fun | n => n⟩
theorem Tryz.lays137 : Go.Proofs.Lays.n137 Tryz.prog Tryz.lays137_ren := {
  mixed := by kernel_rfl
  f137 := Tryz.func89.trans (congrArg some (by kernel_rfl))
  f217 := Tryz.func82.trans (congrArg some (by kernel_rfl))
  f266 := Tryz.func91.trans (congrArg some (by kernel_rfl))
  t3 := Tryz.underlying3
  a3 := Tryz.isAgg3
  z3 := Tryz.sizeOf3
  v3 := Tryz.zeroValue3
  t5 := Tryz.underlying5
  a5 := Tryz.isAgg5
  z5 := Tryz.sizeOf5
  v5 := Tryz.zeroValue5
  t9 := Tryz.underlying9
  a9 := Tryz.isAgg9
  z9 := Tryz.sizeOf9
  v9 := Tryz.zeroValue9 }
open Go.RowKit in
theorem Tryz.strings_IndexByte (s : ByteArray) (c : Int) (w : World) :
    Calls Tryz.prog 89 #[.string s, .int .u8 c] w fun e w' => e = .returned (.int .i64 (Lib.indexByte s.data.toList c.toNat.toUInt8)) ∧ w' = w := Any.strings_IndexByte Tryz.lays137 s c w
def Tryz.lays144_ren : Go.Shelf.Ren := ⟨fun | 144 => 30 | 143 => 49 | 219 => 70 | 217 => 82 | 225 => 83 | 224 => 84 | 267 => 85 | 266 => 91 | 314 => 92 | n => n, fun | 9 => 9 | 4 => 4 | 3 => 3 | 5 => 5 | 46 => 158 | 146 => 163 | 51 => 162 | n => n, fun | 1 => 2 | n => n⟩
theorem Tryz.lays144 : Go.Proofs.Lays.n144 Tryz.prog Tryz.lays144_ren := {
  mixed := by kernel_rfl
  f143 := Tryz.func49.trans (congrArg some (by kernel_rfl))
  f144 := Tryz.func30.trans (congrArg some (by kernel_rfl))
  f217 := Tryz.func82.trans (congrArg some (by kernel_rfl))
  f219 := Tryz.func70.trans (congrArg some (by kernel_rfl))
  f224 := Tryz.func84.trans (congrArg some (by kernel_rfl))
  f225 := Tryz.func83.trans (congrArg some (by kernel_rfl))
  f266 := Tryz.func91.trans (congrArg some (by kernel_rfl))
  f267 := Tryz.func85.trans (congrArg some (by kernel_rfl))
  f314 := Tryz.func92.trans (congrArg some (by kernel_rfl))
  t3 := Tryz.underlying3
  a3 := Tryz.isAgg3
  z3 := Tryz.sizeOf3
  v3 := Tryz.zeroValue3
  t4 := Tryz.underlying4
  a4 := Tryz.isAgg4
  z4 := Tryz.sizeOf4
  v4 := Tryz.zeroValue4
  t5 := Tryz.underlying5
  a5 := Tryz.isAgg5
  z5 := Tryz.sizeOf5
  v5 := Tryz.zeroValue5
  t9 := Tryz.underlying9
  a9 := Tryz.isAgg9
  z9 := Tryz.sizeOf9
  v9 := Tryz.zeroValue9
  t46 := Tryz.underlying158
  a46 := Tryz.isAgg158
  z46 := Tryz.sizeOf158
  v46 := Tryz.zeroValue158
  t51 := Tryz.underlying162
  a51 := Tryz.isAgg162
  z51 := Tryz.sizeOf162
  v51 := Tryz.zeroValue162
  t146 := Tryz.underlying163
  a146 := Tryz.isAgg163
  z146 := Tryz.sizeOf163
  v146 := Tryz.zeroValue163
  g1 := by kernel_rfl }
open Go.RowKit Go.Lib in
theorem Tryz.strings_Contains (s sub : ByteArray) (m : Int) (w : World) (hs : s.size < 4294967281) (hm : w.cell? ⟨2, 0, none⟩ = some (.int .i64 m)) :
    Calls Tryz.prog 30 #[.string s, .string sub] w fun e w' => e = .returned (.bool (Lib.contains s.data.toList sub.data.toList)) ∧ w' = w := Any.strings_Contains Tryz.lays144 s sub m w hs hm
def Tryz.lays190_ren : Go.Shelf.Ren := ⟨fun | 190 => 72 | 125 => 87 | 258 => 86 | 128 => 102 | 129 => 103 | 302 => 93 | 303 => 94 | 304 => 95 | 305 => 96 | 306 => 97 | 307 => 98 | 308 => 99 | 309 => 100 | 310 => 101 | 333 => 107 | 329 => 108 | 330 => 109 | 334 => 110 | 335 => 111 | 336 => 112 | 344 => 121 | n => n, fun | 31 => 28 | 9 => 9 | 3 => 3 | 46 => 158 | 0 => 0 | 51 => 162 | 53 => 175 | 4 => 4 | 183 => 167 | 182 => 166 | 131 => 171 | 5 => 5 | 218 => 179 | 222 => 183 | 228 => 192 | 229 => 193 | n => n, fun | n => n⟩
theorem Tryz.lays190 : Go.Proofs.Lays.n190 Tryz.prog Tryz.lays190_ren := {
  mixed := by kernel_rfl
  f125 := Tryz.func87.trans (congrArg some (by kernel_rfl))
  f128 := Tryz.func102.trans (congrArg some (by kernel_rfl))
  f129 := Tryz.func103.trans (congrArg some (by kernel_rfl))
  f190 := Tryz.func72.trans (congrArg some (by kernel_rfl))
  f258 := Tryz.func86.trans (congrArg some (by kernel_rfl))
  f302 := Tryz.func93.trans (congrArg some (by kernel_rfl))
  f303 := Tryz.func94.trans (congrArg some (by kernel_rfl))
  f304 := Tryz.func95.trans (congrArg some (by kernel_rfl))
  f305 := Tryz.func96.trans (congrArg some (by kernel_rfl))
  f306 := Tryz.func97.trans (congrArg some (by kernel_rfl))
  f307 := Tryz.func98.trans (congrArg some (by kernel_rfl))
  f308 := Tryz.func99.trans (congrArg some (by kernel_rfl))
  f309 := Tryz.func100.trans (congrArg some (by kernel_rfl))
  f310 := Tryz.func101.trans (congrArg some (by kernel_rfl))
  f329 := Tryz.func108.trans (congrArg some (by kernel_rfl))
  f330 := Tryz.func109.trans (congrArg some (by kernel_rfl))
  f333 := Tryz.func107.trans (congrArg some (by kernel_rfl))
  f334 := Tryz.func110.trans (congrArg some (by kernel_rfl))
  f335 := Tryz.func111.trans (congrArg some (by kernel_rfl))
  f336 := Tryz.func112.trans (congrArg some (by kernel_rfl))
  f344 := Tryz.func121.trans (congrArg some (by kernel_rfl))
  t0 := Tryz.underlying0
  a0 := Tryz.isAgg0
  z0 := Tryz.sizeOf0
  v0 := Tryz.zeroValue0
  t3 := Tryz.underlying3
  a3 := Tryz.isAgg3
  z3 := Tryz.sizeOf3
  v3 := Tryz.zeroValue3
  t4 := Tryz.underlying4
  a4 := Tryz.isAgg4
  z4 := Tryz.sizeOf4
  v4 := Tryz.zeroValue4
  t5 := Tryz.underlying5
  a5 := Tryz.isAgg5
  z5 := Tryz.sizeOf5
  v5 := Tryz.zeroValue5
  t9 := Tryz.underlying9
  a9 := Tryz.isAgg9
  z9 := Tryz.sizeOf9
  v9 := Tryz.zeroValue9
  t31 := Tryz.underlying28
  a31 := Tryz.isAgg28
  z31 := Tryz.sizeOf28
  v31 := Tryz.zeroValue28
  t46 := Tryz.underlying158
  a46 := Tryz.isAgg158
  z46 := Tryz.sizeOf158
  v46 := Tryz.zeroValue158
  t51 := Tryz.underlying162
  a51 := Tryz.isAgg162
  z51 := Tryz.sizeOf162
  v51 := Tryz.zeroValue162
  t53 := Tryz.underlying175
  a53 := Tryz.isAgg175
  z53 := Tryz.sizeOf175
  v53 := Tryz.zeroValue175
  t131 := Tryz.underlying171
  a131 := Tryz.isAgg171
  z131 := Tryz.sizeOf171
  v131 := Tryz.zeroValue171
  t182 := Tryz.underlying166
  a182 := Tryz.isAgg166
  z182 := Tryz.sizeOf166
  v182 := Tryz.zeroValue166
  t183 := Tryz.underlying167
  a183 := Tryz.isAgg167
  z183 := Tryz.sizeOf167
  v183 := Tryz.zeroValue167
  t218 := Tryz.underlying179
  a218 := Tryz.isAgg179
  z218 := Tryz.sizeOf179
  v218 := Tryz.zeroValue179
  t222 := Tryz.underlying183
  a222 := Tryz.isAgg183
  z222 := Tryz.sizeOf183
  v222 := Tryz.zeroValue183
  t228 := Tryz.underlying192
  a228 := Tryz.isAgg192
  z228 := Tryz.sizeOf192
  v228 := Tryz.zeroValue192
  t229 := Tryz.underlying193
  a229 := Tryz.isAgg193
  z229 := Tryz.sizeOf193
  v229 := Tryz.zeroValue193 }
open Go.Sort Go.RowKit in
theorem Tryz.slices_Sort_string (blk off cap : Nat) (ss : List (List UInt8)) (w : World) (hH : Holds encStr w blk off ss.toArray) (hblk : blk < w.heap.size) (hsz : ss.length < 4611686018427387904) :
    Calls Tryz.prog 72 #[.slice (some ⟨blk, off, none⟩) ss.length cap] w fun e w' =>
      e = .returned (.tuple #[]) ∧ ∃ n os, w' = grow (putRow encStr (Sort.ahead w n) blk off (ss.mergeSort fun x y => decide (x ≤ y)).toArray) os := Any.slices_Sort_string Tryz.lays190 blk off cap ss w hH hblk hsz
def Tryz.lays194_ren : Go.Shelf.Ren := ⟨fun | 194 => 73 | n => n, fun | 31 => 28 | 9 => 9 | 3 => 3 | 4 => 4 | 0 => 0 | n => n, fun | n => n⟩
theorem Tryz.lays194 : Go.Proofs.Lays.n194 Tryz.prog Tryz.lays194_ren := {
  mixed := by kernel_rfl
  f194 := Tryz.func73.trans (congrArg some (by kernel_rfl))
  t0 := Tryz.underlying0
  a0 := Tryz.isAgg0
  z0 := Tryz.sizeOf0
  v0 := Tryz.zeroValue0
  t3 := Tryz.underlying3
  a3 := Tryz.isAgg3
  z3 := Tryz.sizeOf3
  v3 := Tryz.zeroValue3
  t4 := Tryz.underlying4
  a4 := Tryz.isAgg4
  z4 := Tryz.sizeOf4
  v4 := Tryz.zeroValue4
  t9 := Tryz.underlying9
  a9 := Tryz.isAgg9
  z9 := Tryz.sizeOf9
  v9 := Tryz.zeroValue9
  t31 := Tryz.underlying28
  a31 := Tryz.isAgg28
  z31 := Tryz.sizeOf28
  v31 := Tryz.zeroValue28 }
open Go.RowKit Go.Lib Go.Sort in
theorem Tryz.slices_Compact_string (blk off cap : Nat) (zs : List (List UInt8)) (w : World) (hH : Holds encStr w blk off zs.toArray) (hsz : zs.length ≤ 9223372036854775807) (hcap : zs.length ≤ cap) :
    Calls Tryz.prog 73 #[.slice (some ⟨blk, off, none⟩) zs.length cap] w fun e w' => e = .returned (.slice (some ⟨blk, off, none⟩) (Lib.compact zs).length cap) ∧ ∃ q, w' = putRow encStr (Sort.ahead w q) blk off (Lib.compact zs ++ List.replicate (zs.length - (Lib.compact zs).length) []).toArray := Any.slices_Compact_string Tryz.lays194 blk off cap zs w hH hsz hcap
open Go.RowKit Go.Lib Go.Sort in
theorem Tryz.slices_Compact_string_empty (a : Option Addr) (cap : Nat) (w : World) :
    Calls Tryz.prog 73 #[.slice a 0 cap] w fun e w' => e = .returned (.slice a 0 cap) ∧ w' = w := Any.slices_Compact_string_empty Tryz.lays194 a cap w
open Go.RowKit Go.Sort in
theorem Tryz.slices_Sort_string_none (p : Option Addr) (cap : Nat) (w : World) :
    Calls Tryz.prog 72 #[.slice p 0 cap] w fun e w' => e = .returned (.tuple #[]) ∧ w' = w := Any.slices_Sort_string_none Tryz.lays190 p cap w
end Go.Proofs
namespace Go.Proofs.YthjggpnmhddglaaGreatDoor
open Go Go.Sc
variable [Inhabited Mx]
theorem ixB (s : Str) (c : UInt8) : FX E Tryz.prog 21 [S s, By c] (Z (idx s c)) := FX.indexByte (show Tryz.prog.funcs[E.fn 21]? = some Tryz.f89 from Tryz.func89) (by kernel_rfl) (by kernel_rfl) Tryz.strings_IndexByte s c
theorem conB (s t : Str) (hs : s.length ≤ 1000) : FX E Tryz.prog 199 [S s, S t] (Bo (Lib.contains s t)) := FX.contains (gk := 6) (show Tryz.prog.funcs[E.fn 199]? = some Tryz.f30 from Tryz.func30) (by kernel_rfl) (by kernel_rfl) (show E.gl 6 = some [.val (.int .i64 (default : Mx).v)] from rfl) Tryz.strings_Contains s t hs
theorem sortNB : FX E Tryz.prog 194 [nilS] (.tup []) := FX.sortNil (show Tryz.prog.funcs[E.fn 194]? = some Tryz.f72 from Tryz.func72) (by kernel_rfl) (by kernel_rfl) Tryz.slices_Sort_string_none
theorem sortCB {H : AH} {b g : Nat} {l : List Str} (hl : l.length < 4611686018427387904) (hb : H.bs[b]? = some (.cells g 1 (l.map fun s => S s))) : ACalls E Tryz.prog 194 [.slL b 0 l.length g] H fun r H' => r = .tup [] ∧ H' = ⟨H.bs.set b (.cells g 1 ((sortS l).map fun s => S s)), H.ctr⟩ := sort_calls (show Tryz.prog.funcs[E.fn 194]? = some Tryz.f72 from Tryz.func72) (by kernel_rfl) (by kernel_rfl) Tryz.slices_Sort_string_none Tryz.slices_Sort_string hl hb
theorem compNB : FX E Tryz.prog 195 [nilS] nilS := FX.compactNil (show Tryz.prog.funcs[E.fn 195]? = some Tryz.f73 from Tryz.func73) (by kernel_rfl) (by kernel_rfl) Tryz.slices_Compact_string_empty
theorem compCB {H : AH} {b g : Nat} {l : List Str} (hl : l.length < 4611686018427387904) (hb : H.bs[b]? = some (.cells g 1 (l.map fun s => S s))) : ACalls E Tryz.prog 195 [.slL b 0 l.length g] H fun r H' => r = .slL b 0 (packS l).length g ∧ H' = ⟨H.bs.set b (.cells g 1 ((packS l ++ List.replicate (l.length - (packS l).length) []).map fun s => S s)), H.ctr⟩ := compact_calls (show Tryz.prog.funcs[E.fn 195]? = some Tryz.f73 from Tryz.func73) (by kernel_rfl) (by kernel_rfl) Tryz.slices_Compact_string_empty Tryz.slices_Compact_string hl hb
end Go.Proofs.YthjggpnmhddglaaGreatDoor
namespace Go.Sc
open Go Go.ChangeShapes Go.WideShapes Go.ChangeAt Go.RowKit
section
variable {P : Program} {W : World} {E : Env}
theorem laid_struct2 {l : List (String × DataW Unit)} {n : String} {a b : Int} {g : Nat} {ty : TypeId} {f0 f1 : Field} (h : laidMetH P l W) (hm : (n, DataW.agg [.lit (.int .i64 a), .lit (.int .i64 b)]) ∈ l) (hn : P.globalNamed n = some g) (ht : (P.globals[g]?).map (·.type) = some ty)
    (hu : P.underlying ty = some (.struct #[f0, f1])) (e0 : P.underlying f0.type = some (.int .i64)) (e1 : P.underlying f1.type = some (.int .i64)) (o0 : f0.offset = 0) (o1 : f1.offset = 1) (c0 : P.cellsOf f0.type = 1) (c1 : P.cellsOf f1.type = 1) : CRel E (Cx.start W) [Z a, Z b] g 0 := by
  obtain ⟨h1, _⟩ := laidMetH_iff.1 h
  obtain ⟨ps, h2, _⟩ := h1
  obtain ⟨g', t', cs, fuel, p, k1, k2, k3, k4⟩ := laid_at (l := l) h2 (List.mem_filter.2 ⟨hm, by rfl⟩)
  rw [hn] at k1; injection k1 with k1; subst k1
  rw [ht] at k2; injection k2 with k2; subst k2
  obtain ⟨y0, y1, m', hx, hl, x0, x1⟩ := trod_struct2 hu k4
  simp only [World.var?, hn, Option.bind_some] at k3
  split at k3
  · rename_i cs' ty' fr hW
    injection k3 with k3; subst k3
    have hlt : g < W.heap.size := by
      by_cases h : g < W.heap.size
      · exact h
      · rw [Array.getElem?_eq_none (by omega)] at hW; cases hW
    injection hx with hx1 hx2
    injection hx1 with hx1
    injection hx1 with hxa hx1
    injection hx1 with hxb _
    rw [o0, c0] at x0
    rw [o1, c1] at x1
    obtain ⟨w0, hw0, hv0, _⟩ := DataW.trod_int e0 x0
    obtain ⟨w1, hw1, hv1, _⟩ := DataW.trod_int e1 x1
    rw [hv0] at hxa
    rw [hv1] at hxb
    injection hxa with hxa
    injection hxa with _ hxa
    injection hxb with hxb
    injection hxb with _ hxb
    subst hxa; subst hxb
    have q0 : cs'.toList[0]? = some (.int .i64 a) := by
      have := congrArg (·[0]?) hw0
      simpa using this
    have q1 : cs'.toList[1]? = some (.int .i64 b) := by
      have := congrArg (·[0]?) hw1
      simp only [List.getElem?_take, List.getElem?_drop, List.getElem?_cons_zero] at this
      simpa using this
    refine crel_start hlt fun i y hi => ?_
    match i with
    | 0 => simp only [List.getElem?_cons_zero, Option.some.injEq] at hi; subst hi; exact ⟨.int .i64 a, by simp only [World.cell?, hW]; simpa using q0, by simp [VRel]⟩
    | 1 => simp only [List.getElem?_cons_succ, List.getElem?_cons_zero, Option.some.injEq] at hi; subst hi; exact ⟨.int .i64 b, by simp only [World.cell?, hW]; simpa using q1, by simp [VRel]⟩
    | i + 2 => simp at hi
  · cases k3
end
theorem least_isNone (l : List String) : (Instr.least l).isNone = l.isEmpty := by
  cases l <;> simp [Instr.least]
theorem missing_isNone (want : Array (String × TypeId)) (got : Array Method) : (Instr.missingMethod want got).isNone = want.toList.all fun x => got.any fun m => m.name == x.1 && m.sig == x.2 := by
  unfold Instr.missingMethod
  generalize hm : (want.toList.filter _).map (·.1) = missing
  have h1 : (want.toList.all fun x => got.any fun m => m.name == x.1 && m.sig == x.2) = missing.isEmpty := by
    rw [← hm]
    generalize want.toList = l
    induction l with
    | nil => rfl
    | cons a l ih =>
      simp only [List.all_cons, List.filter_cons]
      cases h : (got.any fun m => m.name == a.1 && m.sig == a.2) with
      | true => simpa [h] using ih
      | false => simp
  rw [h1]
  simp only
  rw [List.partition_eq_filter_filter]
  simp only
  cases missing with
  | nil => simp [Instr.least]
  | cons s l =>
    simp only [List.isEmpty_cons]
    cases he : Instr.least (List.filter (not ∘ fun x => String.contains x '.') (s :: l)) with
    | some y => rfl
    | none =>
      have h2 := least_isNone (List.filter (not ∘ fun x => String.contains x '.') (s :: l))
      rw [he] at h2
      simp only [Option.isNone_none, Bool.true_eq, List.isEmpty_iff, List.filter_eq_nil_iff] at h2
      have h3 := h2 s (by simp)
      have h4 : (s.contains '.') = true := by simpa using h3
      show (Instr.least _).isNone = false
      rw [least_isNone]
      simp only [List.filter_cons, h4, if_true, List.map_cons, List.isEmpty_cons]
def hasMB (E : Env) (P : Program) (kt k : Nat) (b : Bool) : Bool :=
  match P.underlying (E.ty kt) with
  | some (.interface want) => (match P.info? (E.ty k) with
    | some i => (want.toList.all fun x => i.methods.any fun m => m.name == x.1 && m.sig == x.2) == b
    | none => false)
  | _ => true
theorem HasM.of {E : Env} {P : Program} {kt k : Nat} {b : Bool} (h : hasMB E P kt k b = true) : HasM E P kt k b := fun want hw => by
  unfold hasMB at h
  rw [hw] at h
  simp only at h
  split at h
  · rename_i i hi
    exact ⟨i, hi, by rw [missing_isNone]; simpa using h⟩
  · cases h
end Go.Sc
