/- GateTseitin: contracts out of the kit's shelf, laid here. A PACKAGE-LEVEL NUMBER THAT MAY BE ANY: told to the contract of a row; strings.Contains out of the kit's shelf. VARIABLES: a known pair of numbers. (of the seat YtnellomaabbpkaaGreatDoor) -/
import Derived.Test.YtnellomaabbpkaaGreatDoorCore10
import Derived.Test.YtnellomaabbpkaaGreatDoorProg
import Derived.KernelRfl
import Derived.Shelf.Small.Strs
import Derived.Shelf.Sort.Plain
import Derived.Shelf.Slices.CompactS
import Derived.Shelf.Slices.In.SortNone
import Derived.SizedLaws
import Derived.Shelf.Vars
import Derived.Lib.IndexMore
import Derived.ChangeSame
import Derived.ChangeAt
import Derived.Below
namespace Go.Proofs.YtnellomaabbpkaaGreatDoor
open Go Go.Sc
set_option maxRecDepth 100000
variable [Inhabited Mx]
def tyL : List Nat := [1000000, 36, 82, 65, 9, 120, 123, 125, 78, 75, 73, 71, 55, 56, 54]
def tkL : List Nat := [2000000, 2000001, 2000002, 2000003, 2000004, 2000005, 2000006, 2000007, 2000008, 4, 2000010, 2000011, 2000012, 2000013, 2000014, 2000015, 2000016, 2000017, 2000018, 2000019, 2000020, 2000021, 2000022, 2000023, 2000024, 2000025, 2000026, 2000027, 2000028, 2000029, 2000030, 2000031, 2000032, 2000033, 2000034, 2000035, 1, 2000037, 2000038, 2000039, 2000040, 2000041, 2000042, 2000043, 2000044, 2000045, 2000046, 2000047, 2000048, 2000049, 2000050, 2000051, 2000052, 2000053, 14, 12, 13, 2000057, 2000058, 2000059, 2000060, 2000061, 2000062, 2000063, 2000064, 3, 2000066, 2000067, 2000068, 2000069, 2000070, 11, 2000072, 10, 2000074, 9, 2000076, 2000077, 8, 2000079, 2000080, 2000081, 2, 2000083, 2000084, 2000085, 2000086, 2000087, 2000088, 2000089, 2000090, 2000091, 2000092, 2000093, 2000094, 2000095, 2000096, 2000097, 2000098, 2000099, 2000100, 2000101, 2000102, 2000103, 2000104, 2000105, 2000106, 2000107, 2000108, 2000109, 2000110, 2000111, 2000112, 2000113, 2000114, 2000115, 2000116, 2000117, 2000118, 2000119, 5, 2000121, 2000122, 6, 2000124, 7, 2000126, 2000127, 2000128, 2000129, 2000130, 2000131, 2000132, 2000133, 2000134, 2000135, 2000136, 2000137, 2000138, 2000139, 2000140, 2000141, 2000142, 2000143, 2000144, 2000145, 2000146, 2000147, 2000148, 2000149, 2000150, 2000151, 2000152, 2000153, 2000154, 2000155, 2000156, 2000157, 2000158, 2000159, 2000160, 2000161, 2000162, 2000163, 2000164, 2000165, 2000166, 2000167, 2000168, 2000169, 2000170, 2000171, 2000172, 2000173, 2000174, 2000175, 2000176, 2000177, 2000178, 2000179, 2000180, 2000181, 2000182, 2000183, 2000184, 2000185, 2000186, 2000187, 2000188, 2000189, 2000190, 2000191, 2000192, 2000193, 2000194, 2000195, 2000196, 2000197, 2000198, 2000199, 2000200, 2000201]
def fnL : List Nat := [1000000, 74, 1000002, 1000003, 82, 83, 87, 86, 88, 90, 89, 92, 91, 93, 94, 95, 96, 97, 98, 99, 100, 73, 101, 81, 102, 85, 1000026, 1000027, 1000028, 1000029, 1000030, 1000031, 1000032, 1000033, 1000034, 1000035, 1000036, 1000037, 1000038, 1000039, 1000040, 1000041, 1000042, 1000043, 1000044, 1000045, 1000046, 1000047, 1000048, 1000049, 1000050, 1000051, 1000052, 9, 1000054, 1000055, 1000056, 1000057, 1000058, 44, 1000060, 1000061, 23, 1000063, 1000064, 1000065, 59, 40, 41, 42, 43, 1000071, 56, 57, 58, 130, 1000076, 1000077, 1000078, 1000079, 1000080, 1000081, 1000082, 1000083, 1000084, 1000085, 1000086, 1000087, 1000088, 1000089, 1000090, 1000091, 1000092, 1000093, 1000094, 1000095, 1000096, 1000097, 1000098, 1000099, 10, 24, 1000102, 1000103, 1000104, 25, 45, 1000107, 46, 47, 48, 49, 60, 1000113, 1000114, 1000115, 1000116, 1000117, 1000118, 1000119, 1000120, 1000121, 1000122, 1000123, 1000124, 1000125, 4, 1000127, 1000128, 1000129, 1000130, 1000131, 1000132, 13, 14, 15, 1000136, 1000137, 1000138, 32, 31, 1000141, 1000142, 52, 53, 61, 1000146, 128, 1000148, 127, 126, 125, 123, 124, 122, 1000155, 20, 12, 11, 1000159, 37, 33, 27, 26, 29, 28, 30, 50, 51, 1000169, 1000170, 1000171, 1000172, 1000173, 1000174, 1000175, 1000176, 1000177, 1000178, 1000179, 1000180, 6, 1000182, 1000183, 7, 1000185, 1000186, 1000187, 1000188, 18, 17, 1000191, 19, 34, 35, 36, 1000196, 55, 54, 1000199, 1000200, 62, 63, 64, 65, 66, 67, 68, 69, 70, 71, 72, 1000212, 75, 76, 77, 78, 79, 80, 103, 1000220, 84, 1000222, 1000223, 1000224, 1000225, 1000226, 1000227, 1000228, 1000229, 5, 16, 1000232, 8, 21, 22, 38, 39, 3]
def fkL : List Nat := [2000000, 2000001, 2000002, 238, 126, 230, 181, 184, 233, 53, 100, 158, 157, 133, 134, 135, 231, 190, 189, 192, 156, 234, 235, 62, 101, 105, 163, 162, 165, 164, 166, 140, 139, 161, 193, 194, 195, 160, 236, 237, 67, 68, 69, 70, 59, 106, 108, 109, 110, 111, 167, 168, 143, 144, 198, 197, 72, 73, 74, 66, 112, 145, 201, 202, 203, 204, 205, 206, 207, 208, 209, 210, 211, 21, 1, 213, 214, 215, 216, 217, 218, 23, 4, 5, 221, 25, 7, 6, 8, 10, 9, 12, 11, 13, 14, 15, 16, 17, 18, 19, 20, 22, 24, 219, 2000104, 2000105, 2000106, 2000107, 2000108, 2000109, 2000110, 2000111, 2000112, 2000113, 2000114, 2000115, 2000116, 2000117, 2000118, 2000119, 2000120, 2000121, 154, 152, 153, 151, 150, 149, 147, 2000129, 75, 2000131, 2000132, 2000133, 2000134, 2000135, 2000136, 2000137, 2000138, 2000139, 2000140, 2000141, 2000142, 2000143, 2000144, 2000145, 2000146, 2000147, 2000148, 2000149, 2000150]
def gnL : List Nat := [1000000, 2, 3, 1000003, 0, 1000005, 1]
def gkL : List Nat := [4, 6, 1, 2]
def E : Env := { ty := fun k => tyL.getD k 3000000, tk := fun t => tkL.getD t 3000000, fn := fun k => fnL.getD k 3000000, fk := fun f => fkL.getD f 3000000, gn := fun k => gnL.getD k 3000000, gk := fun g => gkL.getD g 3000000, gl := fun g => if g = 4 then some [.val (.iface 115 (.agg #[.pointer (some ⟨4, 26, none⟩)]))] else if g = 6 then some [.val (.int .i64 (default : Mx).v)] else none }
theorem b_keep_GateTseitin (a0 a1 a2 : AV) (H : AH) (R : Kt) : bodyW E Tryz.prog Tryz.f3 (.seq none .leaf (.seq none (.seq none .leaf (.two (.seq none .leaf .leaf) .leaf)) (.seq none .leaf (.seq none (.seq none .leaf (.two (.seq none .leaf .leaf) .leaf)) (.seq none .leaf (.seq none (.seq none .leaf (.two (.seq none .leaf .leaf) .leaf)) (.seq none .leaf (.seq none (.seq none .leaf (.two (.seq none .leaf .leaf) .leaf)) (.seq none .leaf (.seq none .leaf (.seq none (.seq none .leaf (.two (.seq none .leaf .leaf) .leaf)) (.seq none (.seq none .leaf (.two (.seq none .leaf .leaf) .leaf)) (.seq none .leaf (.seq none (.seq none .leaf (.one (.loop [14, 16] (.seq none (.seq none .leaf (.two .leaf .leaf)) (.seq (some [14]) (.one (.seq none .leaf (.two .leaf .leaf))) .leaf))))) (.seq none (.seq none .leaf (.one (.loop [15, 17] (.seq none (.seq none .leaf (.two .leaf .leaf)) (.seq (some [15]) (.one (.seq none .leaf (.two .leaf .leaf))) .leaf))))) (.seq none .leaf .leaf)))))))))))))))) [a0, a1, a2] H R = F.keep_GateTseitin E Tryz.prog a0 a1 a2 H R := by kernel_rfl
theorem b_expr_Parse (a0 : AV) (H : AH) (R : Kt) : bodyW E Tryz.prog Tryz.f4 (.seq none .leaf (.seq none (.seq none .leaf (.two (.seq none .leaf .leaf) .leaf)) (.seq none .leaf (.seq none .leaf (.seq none (.seq none .leaf (.two (.seq none .leaf .leaf) .leaf)) (.seq none (.seq none .leaf (.seq none .leaf (.two (.seq none .leaf .leaf) .leaf))) (.seq none .leaf .leaf))))))) [a0] H R = F.expr_Parse E Tryz.prog a0 H R := by kernel_rfl
theorem b_keep_gated (H : AH) (R : Kt) : bodyW E Tryz.prog Tryz.f5 (.seq none .leaf (.seq none .leaf (.seq none .leaf (.seq none .leaf (.seq none (.seq none .leaf (.two (.seq none .leaf .leaf) .leaf)) (.seq none .leaf (.seq none .leaf (.seq none .leaf .leaf)))))))) [] H R = F.keep_gated E Tryz.prog H R := by kernel_rfl
theorem b_expr_Names (a0 : AV) (H : AH) (R : Kt) : bodyW E Tryz.prog Tryz.f6 (.seq none .leaf (.seq none .leaf .leaf)) [a0] H R = F.expr_Names E Tryz.prog a0 H R := by kernel_rfl
theorem b_expr_Edges (a0 : AV) (H : AH) (R : Kt) : bodyW E Tryz.prog Tryz.f7 (.seq none .leaf (.seq none .leaf .leaf)) [a0] H R = F.expr_Edges E Tryz.prog a0 H R := by kernel_rfl
theorem b_gate_Of (a0 : AV) (H : AH) (R : Kt) : bodyW E Tryz.prog Tryz.f8 (.seq none .leaf (.seq none (.seq none .leaf (.two (.seq none .leaf .leaf) .leaf)) (.seq none (.seq none .leaf (.two (.seq none .leaf .leaf) .leaf)) (.seq none .leaf (.seq none (.seq none .leaf (.one (.loop [26] (.seq none .leaf (.seq none (.two .leaf .leaf) (.seq none (.one (.seq none .leaf .draw)) .leaf)))))) (.seq none (.seq none .leaf (.one (.loop [41] (.seq none .leaf (.seq none (.two .leaf .leaf) (.seq none (.one (.seq none .leaf .draw)) .leaf)))))) (.seq none .leaf (.seq none .leaf .leaf)))))))) [a0] H R = F.gate_Of E Tryz.prog a0 H R := by kernel_rfl
theorem b_gate_Solve (a0 : AV) (H : AH) (R : Kt) : bodyW E Tryz.prog Tryz.f10 (.seq none .leaf (.seq none (.seq none .leaf (.seq none .leaf (.two (.seq none .leaf .leaf) .leaf))) (.seq none .draw (.seq none .leaf (.seq none (.one (.seq none .leaf (.two (.seq none .leaf .leaf) (.seq none .leaf (.two (.seq none .leaf .leaf) .leaf))))) (.seq none .leaf (.seq none (.seq none .leaf (.one (.loop [8, 42] (.seq none .leaf (.seq none (.two .leaf .leaf) (.seq none (.one (.seq none .leaf .leaf)) .leaf)))))) (.seq none .leaf .leaf)))))))) [a0] H R = F.gate_Solve E Tryz.prog a0 H R := by kernel_rfl
theorem b_expr_Eval (a0 a1 a2 : AV) (H : AH) (R : Kt) : bodyW E Tryz.prog Tryz.f11 (.seq none .leaf (.seq none (.seq none .leaf (.one (.seq none .leaf (.two (.seq none .leaf (.seq none .leaf .leaf)) (.seq none .leaf (.two (.seq none .leaf (.seq none .leaf .leaf)) (.seq none .leaf (.two (.seq none .leaf (.seq none .leaf .leaf)) (.seq none .leaf (.two (.seq none .leaf (.seq none .leaf .leaf)) (.seq none .leaf (.two (.seq none .leaf (.seq none .leaf .leaf)) (.seq none .leaf (.two (.seq none .leaf (.seq none .leaf .leaf)) (.seq none .leaf (.two (.seq none .leaf (.seq none .leaf .leaf)) .leaf)))))))))))))))) (.seq none .leaf .leaf))) [a0, a1, a2] H R = F.expr_Eval E Tryz.prog a0 a1 a2 H R := by kernel_rfl
theorem b_keep_among (a0 : AV) (H : AH) (R : Kt) : bodyW E Tryz.prog Tryz.f12 (.seq none .leaf (.seq none .leaf .leaf)) [a0] H R = F.keep_among E Tryz.prog a0 H R := by kernel_rfl
theorem b_pexpr_reader_or (a0 a1 : AV) (H : AH) (R : Kt) : bodyW E Tryz.prog Tryz.f13 (.seq none .leaf (.seq none .leaf (.seq none (.seq none .leaf (.two (.seq none .leaf .leaf) .leaf)) (.seq none (.seq none .leaf (.two (.seq none .leaf .leaf) .leaf)) (.seq none .leaf .leaf))))) [a0, a1] H R = F.pexpr_reader_or E Tryz.prog a0 a1 H R := by kernel_rfl
theorem b_pexpr_reader_blanks (a0 : AV) (H : AH) (R : Kt) : bodyW E Tryz.prog Tryz.f14 (.one (.loop [] (.seq none (.seq none .draw (.two .leaf .leaf)) (.one .leaf)))) [a0] H R = F.pexpr_reader_blanks E Tryz.prog a0 H R := by kernel_rfl
theorem b_pexpr_reader_fail (a0 a1 : AV) (H : AH) (R : Kt) : bodyW E Tryz.prog Tryz.f15 (.seq none .leaf (.seq none .leaf (.seq none .leaf .leaf))) [a0, a1] H R = F.pexpr_reader_fail E Tryz.prog a0 a1 H R := by kernel_rfl
theorem b_gate_Same (a0 a1 : AV) (H : AH) (R : Kt) : bodyW E Tryz.prog Tryz.f16 (.seq none .leaf (.seq none (.seq none .leaf (.two (.seq none .leaf .leaf) .leaf)) (.seq none .leaf (.seq none .leaf (.seq none (.seq none .leaf (.two (.seq none .leaf .leaf) .leaf)) (.seq none .leaf (.seq none .leaf (.seq none (.seq none .leaf (.one (.seq none .leaf (.two (.seq none .leaf .leaf) (.seq none .leaf (.two (.seq none .leaf .leaf) .leaf)))))) (.seq none .leaf .leaf))))))))) [a0, a1] H R = F.gate_Same E Tryz.prog a0 a1 H R := by kernel_rfl
theorem b_expr_sorted (a0 a1 : AV) (H : AH) (R : Kt) : bodyW E Tryz.prog Tryz.f17 (.seq none .leaf (.seq none .leaf (.seq none .leaf (.seq none .leaf (.seq none .leaf .leaf))))) [a0, a1] H R = F.expr_sorted E Tryz.prog a0 a1 H R := by kernel_rfl
theorem b_expr_Names_c1 (a0 : AV) (H : AH) (R : Kt) : bodyW E Tryz.prog Tryz.f18 (.seq none .leaf (.seq none (.seq none .leaf (.one (.seq none .leaf (.two (.seq none .leaf (.seq none .leaf .leaf)) (.seq none .leaf (.two (.seq none .leaf (.seq none .leaf .leaf)) (.seq none .leaf (.two (.seq none .leaf (.seq none .leaf .leaf)) .leaf)))))))) (.seq none .leaf .leaf))) [a0] H R = F.expr_Names_c1 E Tryz.prog a0 H R := by kernel_rfl
theorem b_expr_Edges_c1 (a0 : AV) (H : AH) (R : Kt) : bodyW E Tryz.prog Tryz.f19 (.seq none .leaf (.seq none (.seq none .leaf (.one (.seq none .leaf (.two (.seq none .leaf (.seq none .leaf .leaf)) (.seq none .leaf (.two (.seq none .leaf (.seq none .leaf .leaf)) .leaf)))))) (.seq none .leaf .leaf))) [a0] H R = F.expr_Edges_c1 E Tryz.prog a0 H R := by kernel_rfl
theorem b_expr_Size (a0 : AV) (H : AH) (R : Kt) : bodyW E Tryz.prog Tryz.f20 (.seq none .leaf (.seq none .leaf (.seq none .leaf (.seq none .leaf .leaf)))) [a0] H R = F.expr_Size E Tryz.prog a0 H R := by kernel_rfl
theorem b_pgate_builder_fresh (a0 : AV) (H : AH) (R : Kt) : bodyW E Tryz.prog Tryz.f21 (.seq none .leaf (.seq none .leaf (.seq none .leaf .leaf))) [a0] H R = F.pgate_builder_fresh E Tryz.prog a0 H R := by kernel_rfl
theorem b_pgate_builder_lit (a0 a1 : AV) (H : AH) (R : Kt) : bodyW E Tryz.prog Tryz.f22 (.seq none .leaf (.seq none (.seq none .leaf (.one (.seq none .leaf (.two (.seq none .leaf (.seq none .leaf .leaf)) (.seq none .leaf (.two (.seq none .leaf (.seq none .draw .leaf)) (.seq none .leaf (.two (.seq none .leaf (.seq none .draw .leaf)) (.seq none .leaf (.two (.seq none .leaf (.seq none .leaf .leaf)) (.seq none .leaf (.two (.seq none .leaf (.seq none .leaf (.seq none (.seq none .leaf (.one (.loop [10, 83] (.seq none .leaf (.seq none (.two .leaf .leaf) (.seq none (.one (.seq none .leaf .leaf)) .leaf)))))) (.seq none .leaf .leaf)))) (.seq none .leaf (.two (.seq none .leaf (.seq none .leaf (.seq none (.seq none .leaf (.one (.loop [14, 102] (.seq none .leaf (.seq none (.two .leaf .leaf) (.seq none (.one (.seq none .leaf .leaf)) .leaf)))))) (.seq none .leaf .leaf)))) .leaf)))))))))))))) (.seq none .leaf (.seq (some []) (.seq none .leaf (.seq none .leaf (.two .leaf .leaf))) (.seq none .leaf .leaf))))) [a0, a1] H R = F.pgate_builder_lit E Tryz.prog a0 a1 H R := by kernel_rfl
theorem b_gate_Check (a0 : AV) (H : AH) (R : Kt) : bodyW E Tryz.prog Tryz.f24 (.seq none .leaf (.seq none (.seq none .leaf (.two (.seq none .leaf .leaf) .leaf)) (.seq none (.seq none .leaf (.one (.loop [23] (.seq none .leaf (.seq none (.two .leaf .leaf) (.seq none (.one (.seq none .leaf (.seq none .leaf (.two (.seq none .leaf .leaf) .leaf)))) .leaf)))))) (.seq none .leaf .leaf)))) [a0] H R = F.gate_Check E Tryz.prog a0 H R := by kernel_rfl
theorem b_pgate_solver_search (a0 : AV) (H : AH) (R : Kt) : bodyW E Tryz.prog Tryz.f25 (.seq none .leaf (.seq none (.seq none .leaf (.seq none .leaf (.two (.seq none .leaf .leaf) .leaf))) (.seq none .leaf (.seq none (.seq none .leaf (.two (.seq none .leaf (.seq none .leaf .leaf)) .leaf)) (.seq none .leaf (.seq none (.seq none .leaf (.two (.seq none .leaf .leaf) .leaf)) (.seq none (.seq none .leaf (.one (.loop [49] (.seq none .leaf (.seq none (.two .leaf .leaf) (.seq none (.one (.seq none .leaf (.seq none .leaf (.seq none .leaf (.seq none (.seq none .leaf (.seq none .leaf (.two (.seq none .leaf .leaf) .leaf))) .leaf))))) .leaf)))))) (.seq none .leaf (.seq none .leaf .leaf))))))))) [a0] H R = F.pgate_solver_search E Tryz.prog a0 H R := by kernel_rfl
theorem b_slices_ContainsFunc_expr_And_expr_Expr (a0 a1 : AV) (H : AH) (R : Kt) : bodyW E Tryz.prog Tryz.f26 (.seq none .leaf (.seq none .leaf .leaf)) [a0, a1] H R = F.slices_ContainsFunc_expr_And_expr_Expr E Tryz.prog a0 a1 H R := by kernel_rfl
theorem b_expr_Eval_c1 (a0 a1 a2 : AV) (H : AH) (R : Kt) : bodyW E Tryz.prog Tryz.f27 (.seq none .leaf (.seq none .leaf .leaf)) [a0, a1, a2] H R = F.expr_Eval_c1 E Tryz.prog a0 a1 a2 H R := by kernel_rfl
theorem b_slices_ContainsFunc_expr_Or_expr_Expr (a0 a1 : AV) (H : AH) (R : Kt) : bodyW E Tryz.prog Tryz.f28 (.seq none .leaf (.seq none .leaf .leaf)) [a0, a1] H R = F.slices_ContainsFunc_expr_Or_expr_Expr E Tryz.prog a0 a1 H R := by kernel_rfl
theorem b_expr_Eval_c2 (a0 a1 a2 : AV) (H : AH) (R : Kt) : bodyW E Tryz.prog Tryz.f29 (.seq none .leaf (.seq none .leaf .leaf)) [a0, a1, a2] H R = F.expr_Eval_c2 E Tryz.prog a0 a1 a2 H R := by kernel_rfl
theorem b_keep_among_c1 (a0 a1 : AV) (H : AH) (R : Kt) : bodyW E Tryz.prog Tryz.f30 (.seq none .leaf (.seq none (.seq none .leaf (.one (.loop [4] (.seq none (.seq none .leaf (.two .leaf .leaf)) (.seq none (.one (.seq none .leaf (.two (.seq none .leaf .leaf) .leaf))) .leaf))))) (.seq none .leaf .leaf))) [a0, a1] H R = F.keep_among_c1 E Tryz.prog a0 a1 H R := by kernel_rfl
theorem b_pexpr_reader_several (a0 a1 a2 a3 : AV) (H : AH) (R : Kt) : bodyW E Tryz.prog Tryz.f31 (.seq none .leaf (.seq none .leaf (.one (.loop [10] (.one (.seq none .leaf (.seq none (.seq none .leaf (.two (.seq none .leaf .leaf) .leaf)) (.seq none .leaf (.seq none .leaf (.two (.seq none .leaf .leaf) .leaf)))))))))) [a0, a1, a2, a3] H R = F.pexpr_reader_several E Tryz.prog a0 a1 a2 a3 H R := by kernel_rfl
theorem b_pexpr_reader_and (a0 a1 : AV) (H : AH) (R : Kt) : bodyW E Tryz.prog Tryz.f32 (.seq none .leaf (.seq none .leaf (.seq none (.seq none .leaf (.two (.seq none .leaf .leaf) .leaf)) (.seq none (.seq none .leaf (.two (.seq none .leaf .leaf) .leaf)) (.seq none .leaf .leaf))))) [a0, a1] H R = F.pexpr_reader_and E Tryz.prog a0 a1 H R := by kernel_rfl
theorem b_expr_walk (a0 a1 : AV) (H : AH) (R : Kt) : bodyW E Tryz.prog Tryz.f33 (.seq none .leaf (.seq none .leaf (.one (.seq none .leaf (.two (.seq none .leaf .leaf) (.seq none .leaf (.two (.seq none .leaf (.seq none .leaf (.one (.loop [27] (.seq none .leaf (.seq none (.two .leaf .leaf) (.seq none (.one (.seq none .leaf .leaf)) .leaf))))))) (.seq none .leaf (.two (.seq none .leaf (.seq none .leaf (.one (.loop [40] (.seq none .leaf (.seq none (.two .leaf .leaf) (.seq none (.one (.seq none .leaf .leaf)) .leaf))))))) .leaf))))))))) [a0, a1] H R = F.expr_walk E Tryz.prog a0 a1 H R := by kernel_rfl
theorem b_expr_sorted_c1 (a0 a1 a2 : AV) (H : AH) (R : Kt) : bodyW E Tryz.prog Tryz.f34 (.seq none .leaf (.seq none .leaf (.two .leaf .leaf))) [a0, a1, a2] H R = F.expr_sorted_c1 E Tryz.prog a0 a1 a2 H R := by kernel_rfl
theorem b_expr_Size_c1 (a0 a1 : AV) (H : AH) (R : Kt) : bodyW E Tryz.prog Tryz.f37 .leaf [a0, a1] H R = F.expr_Size_c1 E Tryz.prog a0 a1 H R := by kernel_rfl
theorem b_pgate_builder_and (a0 a1 : AV) (H : AH) (R : Kt) : bodyW E Tryz.prog Tryz.f38 (.seq none .leaf (.seq none .leaf (.seq none .leaf (.seq none (.seq none .leaf (.one (.loop [6, 15] (.seq none .leaf (.seq none (.two .leaf .leaf) (.seq none (.one (.seq none .leaf (.seq none .leaf .leaf))) .leaf)))))) (.seq none .leaf (.seq none .leaf .leaf)))))) [a0, a1] H R = F.pgate_builder_and E Tryz.prog a0 a1 H R := by kernel_rfl
theorem b_pgate_builder_add (a0 a1 : AV) (H : AH) (R : Kt) : bodyW E Tryz.prog Tryz.f39 .leaf [a0, a1] H R = F.pgate_builder_add E Tryz.prog a0 a1 H R := by kernel_rfl
theorem b_slices_ContainsFunc_Lint_int (a0 a1 : AV) (H : AH) (R : Kt) : bodyW E Tryz.prog Tryz.f44 (.seq none .leaf (.seq none .leaf .leaf)) [a0, a1] H R = F.slices_ContainsFunc_Lint_int E Tryz.prog a0 a1 H R := by kernel_rfl
theorem b_gate_Check_c1 (a0 a1 : AV) (H : AH) (R : Kt) : bodyW E Tryz.prog Tryz.f45 (.seq none .leaf (.seq none .leaf .leaf)) [a0, a1] H R = F.gate_Check_c1 E Tryz.prog a0 a1 H R := by kernel_rfl
theorem b_pgate_solver_spread (a0 : AV) (H : AH) (R : Kt) : bodyW E Tryz.prog Tryz.f46 (.seq none .leaf (.seq none (.seq none .leaf (.one (.loop [3] (.seq none (.seq none .leaf (.two .leaf .leaf)) (.one (.seq none .leaf (.seq none .leaf (.one (.loop [3, 18] (.seq none .leaf (.seq none (.two .leaf .leaf) (.seq (some [3]) (.one (.seq none .leaf (.seq none .leaf (.seq none (.seq none .leaf (.one (.loop [6, 7, 8, 24] (.seq none .leaf (.seq none (.two .leaf .leaf) (.seq (some [6, 7, 8]) (.one (.seq none .leaf (.seq none .leaf (.one (.seq none .leaf (.two .leaf (.seq none .leaf (.two (.seq (some [7]) (.seq none .leaf (.two .leaf .leaf)) .leaf) .leaf)))))))) .leaf)))))) (.one (.seq none .leaf (.two .leaf (.seq none .leaf (.two (.seq none .leaf .leaf) (.seq none .leaf .leaf)))))))))) .leaf)))))))))))) (.seq none .leaf .leaf))) [a0] H R = F.pgate_solver_spread E Tryz.prog a0 H R := by kernel_rfl
theorem b_pgate_solver_back (a0 a1 : AV) (H : AH) (R : Kt) : bodyW E Tryz.prog Tryz.f47 (.seq none (.seq none .leaf (.one (.loop [13] (.seq none .leaf (.seq none (.two .leaf .leaf) (.seq none (.one (.seq none .leaf .leaf)) .leaf)))))) .leaf) [a0, a1] H R = F.pgate_solver_back E Tryz.prog a0 a1 H R := by kernel_rfl
theorem b_slices_Index_Lint_int (a0 a1 : AV) (H : AH) (R : Kt) : bodyW E Tryz.prog Tryz.f48 (.seq none .leaf (.seq none (.seq none .leaf (.one (.loop [8] (.seq none .leaf (.seq none (.two .leaf .leaf) (.seq none (.one (.seq none .leaf (.seq none .leaf (.two (.seq none .leaf .leaf) .leaf)))) .leaf)))))) (.seq none .leaf .leaf))) [a0, a1] H R = F.slices_Index_Lint_int E Tryz.prog a0 a1 H R := by kernel_rfl
theorem b_pgate_solver_set (a0 a1 : AV) (H : AH) (R : Kt) : bodyW E Tryz.prog Tryz.f49 (.seq (some []) (.seq none .leaf (.two .leaf .leaf)) .leaf) [a0, a1] H R = F.pgate_solver_set E Tryz.prog a0 a1 H R := by kernel_rfl
theorem b_slices_IndexFunc_expr_And_expr_Expr (a0 a1 : AV) (H : AH) (R : Kt) : bodyW E Tryz.prog Tryz.f50 (.seq none .leaf (.seq none (.seq none .leaf (.one (.loop [8] (.seq none .leaf (.seq none (.two .leaf .leaf) (.seq none (.one (.seq none .leaf (.seq none .leaf (.two (.seq none .leaf .leaf) .leaf)))) .leaf)))))) (.seq none .leaf .leaf))) [a0, a1] H R = F.slices_IndexFunc_expr_And_expr_Expr E Tryz.prog a0 a1 H R := by kernel_rfl
theorem b_slices_IndexFunc_expr_Or_expr_Expr (a0 a1 : AV) (H : AH) (R : Kt) : bodyW E Tryz.prog Tryz.f51 (.seq none .leaf (.seq none (.seq none .leaf (.one (.loop [8] (.seq none .leaf (.seq none (.two .leaf .leaf) (.seq none (.one (.seq none .leaf (.seq none .leaf (.two (.seq none .leaf .leaf) .leaf)))) .leaf)))))) (.seq none .leaf .leaf))) [a0, a1] H R = F.slices_IndexFunc_expr_Or_expr_Expr E Tryz.prog a0 a1 H R := by kernel_rfl
theorem b_pexpr_reader_take (a0 a1 : AV) (H : AH) (R : Kt) : bodyW E Tryz.prog Tryz.f52 (.seq none .leaf (.seq none .leaf (.seq none (.seq none .draw (.two (.seq none .leaf (.seq none .leaf .leaf)) .leaf)) (.seq none .leaf .leaf)))) [a0, a1] H R = F.pexpr_reader_take E Tryz.prog a0 a1 H R := by kernel_rfl
theorem b_pexpr_reader_one (a0 a1 : AV) (H : AH) (R : Kt) : bodyW E Tryz.prog Tryz.f53 (.seq none .leaf (.seq none (.seq none .leaf (.two (.seq none .leaf .leaf) .leaf)) (.seq none (.one (.seq none .leaf (.two (.seq none .leaf (.seq none (.seq none .leaf (.two (.seq none .leaf .leaf) .leaf)) (.seq none .leaf .leaf))) (.seq none .leaf (.two (.seq none .leaf (.seq none (.seq none .leaf (.two (.seq none .leaf .leaf) .leaf)) (.seq none (.seq none .leaf (.two (.seq none .leaf .leaf) .leaf)) (.seq none .leaf .leaf)))) (.seq none .leaf (.two (.seq none .leaf .leaf) (.seq none .leaf (.two (.seq none .leaf .leaf) (.seq none .leaf (.two (.seq none .leaf (.seq none .leaf .leaf)) (.seq none .leaf (.two (.seq none .leaf (.seq none .leaf .leaf)) .leaf))))))))))))) (.seq none .leaf (.seq none .leaf .leaf))))) [a0, a1] H R = F.pexpr_reader_one E Tryz.prog a0 a1 H R := by kernel_rfl
theorem b_slices_IndexFunc_Lint_int (a0 a1 : AV) (H : AH) (R : Kt) : bodyW E Tryz.prog Tryz.f59 (.seq none .leaf (.seq none (.seq none .leaf (.one (.loop [8] (.seq none .leaf (.seq none (.two .leaf .leaf) (.seq none (.one (.seq none .leaf (.seq none .leaf (.two (.seq none .leaf .leaf) .leaf)))) .leaf)))))) (.seq none .leaf .leaf))) [a0, a1] H R = F.slices_IndexFunc_Lint_int E Tryz.prog a0 a1 H R := by kernel_rfl
theorem b_pgate_solver_is (a0 a1 : AV) (H : AH) (R : Kt) : bodyW E Tryz.prog Tryz.f60 (.seq none .leaf (.seq none (.seq none .leaf (.two (.seq none .leaf .leaf) .leaf)) (.seq none .leaf .leaf))) [a0, a1] H R = F.pgate_solver_is E Tryz.prog a0 a1 H R := by kernel_rfl
theorem b_pexpr_reader_word (a0 : AV) (H : AH) (R : Kt) : bodyW E Tryz.prog Tryz.f61 (.seq none .leaf (.seq none .leaf (.seq none .leaf (.seq none (.one (.loop [4] (.seq none (.seq none .leaf (.two .leaf .leaf)) (.one .leaf)))) (.seq none .draw (.seq none (.seq none .leaf (.two (.seq none .leaf .leaf) .leaf)) (.seq none (.seq none .leaf (.two (.seq none .leaf .leaf) .leaf)) (.seq none .leaf (.seq none .leaf .leaf))))))))) [a0] H R = F.pexpr_reader_word E Tryz.prog a0 H R := by kernel_rfl
theorem b_expr_Name (a0 : AV) (H : AH) (R : Kt) : bodyW E Tryz.prog Tryz.f74 (.seq none .leaf (.seq none .leaf .leaf)) [a0] H R = F.expr_Name E Tryz.prog a0 H R := by kernel_rfl
theorem b_strings_Trim (a0 a1 : AV) (H : AH) (R : Kt) : bodyW E Tryz.prog Tryz.f82 (.seq none .leaf (.seq none (.seq none .leaf (.two (.seq none .leaf .leaf) .leaf)) (.seq none (.seq none .leaf (.two (.seq none .draw .leaf) .leaf)) (.seq none (.seq none .leaf (.seq none .leaf (.two (.seq none .leaf .leaf) .leaf))) (.seq none .leaf .leaf))))) [a0, a1] H R = F.strings_Trim E Tryz.prog a0 a1 H R := by kernel_rfl
theorem b_slices_Contains_Lstring_string (a0 a1 : AV) (H : AH) (R : Kt) : bodyW E Tryz.prog Tryz.f83 (.seq none .leaf (.seq none .leaf .leaf)) [a0, a1] H R = F.slices_Contains_Lstring_string E Tryz.prog a0 a1 H R := by kernel_rfl
theorem b_strings_trimLeftByte (a0 a1 : AV) (H : AH) (R : Kt) : bodyW E Tryz.prog Tryz.f86 (.seq none .leaf (.seq none (.one (.loop [0] (.seq none (.seq none .leaf (.two .leaf .leaf)) (.one .leaf)))) (.seq none .leaf .leaf))) [a0, a1] H R = F.strings_trimLeftByte E Tryz.prog a0 a1 H R := by kernel_rfl
theorem b_strings_trimRightByte (a0 a1 : AV) (H : AH) (R : Kt) : bodyW E Tryz.prog Tryz.f87 (.seq none .leaf (.seq none (.one (.loop [0] (.seq none (.seq none .leaf (.two .leaf .leaf)) (.one .leaf)))) (.seq none .leaf .leaf))) [a0, a1] H R = F.strings_trimRightByte E Tryz.prog a0 a1 H R := by kernel_rfl
theorem b_strings_makeASCIISet (a0 : AV) (H : AH) (R : Kt) : bodyW E Tryz.prog Tryz.f88 (.seq none .leaf (.seq none (.seq none .leaf (.one (.loop [4] (.seq none (.seq none .leaf (.two .leaf .leaf)) (.seq none (.one (.seq none .leaf (.seq none (.seq none .leaf (.two (.seq none .leaf .leaf) .leaf)) .leaf))) .leaf))))) (.seq none .leaf .leaf))) [a0] H R = F.strings_makeASCIISet E Tryz.prog a0 H R := by kernel_rfl
theorem b_strings_trimLeftASCII (a0 a1 : AV) (H : AH) (R : Kt) : bodyW E Tryz.prog Tryz.f89 (.seq none .leaf (.seq (some [0]) (.one (.loop [0] (.seq none (.seq none .leaf (.two .leaf .leaf)) (.one (.seq none (.seq none .leaf (.two .leaf .leaf)) .leaf))))) (.seq none .leaf .leaf))) [a0, a1] H R = F.strings_trimLeftASCII E Tryz.prog a0 a1 H R := by kernel_rfl
theorem b_strings_trimRightASCII (a0 a1 : AV) (H : AH) (R : Kt) : bodyW E Tryz.prog Tryz.f90 (.seq none .leaf (.seq (some [0]) (.one (.loop [0] (.seq none (.seq none .leaf (.two .leaf .leaf)) (.one (.seq none (.seq none .leaf (.two .leaf .leaf)) .leaf))))) (.seq none .leaf .leaf))) [a0, a1] H R = F.strings_trimRightASCII E Tryz.prog a0 a1 H R := by kernel_rfl
theorem b_slices_Index_Lstring_string (a0 a1 : AV) (H : AH) (R : Kt) : bodyW E Tryz.prog Tryz.f93 (.seq none .leaf (.seq none (.seq none .leaf (.one (.loop [8] (.seq none .leaf (.seq none (.two .leaf .leaf) (.seq none (.one (.seq none .leaf (.seq none .leaf (.two (.seq none .leaf .leaf) .leaf)))) .leaf)))))) (.seq none .leaf .leaf))) [a0, a1] H R = F.slices_Index_Lstring_string E Tryz.prog a0 a1 H R := by kernel_rfl
theorem b_pstrings_asciiSet_contains (a0 a1 : AV) (H : AH) (R : Kt) : bodyW E Tryz.prog Tryz.f94 (.seq none .leaf (.seq none .leaf .leaf)) [a0, a1] H R = F.pstrings_asciiSet_contains E Tryz.prog a0 a1 H R := by kernel_rfl
theorem b_strings_ContainsRune (a0 a1 : AV) (H : AH) (R : Kt) : bodyW E Tryz.prog Tryz.f96 (.seq none .leaf (.seq none .leaf .leaf)) [a0, a1] H R = F.strings_ContainsRune E Tryz.prog a0 a1 H R := by kernel_rfl
theorem b_strings_IndexRune_ScV11 (a0 a1 : AV) (H : AH) (R : Kt) : bodyW E Tryz.prog Tryz.f99 (.seq none .leaf (.one (.seq none .leaf (.two (.seq none .leaf .leaf) (.seq none .leaf (.two (.seq none (.seq none .leaf (.one (.loop [] (.seq none .leaf (.seq none (.two .leaf .leaf) (.one (.seq none .leaf (.seq none .leaf (.two (.seq none .leaf .leaf) .leaf))))))))) (.seq none .leaf .leaf)) (.seq none .leaf (.two (.seq none .leaf .leaf) (.one (.seq none .leaf (.seq none .leaf (.seq none .leaf (.seq none .leaf (.seq none (.one (.loop [9] (.seq none (.seq none .leaf (.two .leaf .leaf)) (.one (.one (.seq (some [9]) (.seq none .draw (.two (.seq none .draw (.seq none (.seq none .leaf (.two (.seq none .leaf .leaf) .leaf)) .leaf)) .leaf)) (.seq none (.seq none .leaf (.one (.loop [12] (.seq none (.seq none .leaf (.two .leaf .leaf)) (.seq none (.one (.seq none .draw (.two .leaf .leaf))) .leaf))))) (.seq none (.seq none .leaf .leaf) (.seq none .leaf (.seq none .leaf (.seq none .leaf (.seq none .leaf (.two .leaf .leaf))))))))))))) (.seq none (.seq none .leaf .leaf) (.seq none .leaf (.seq none (.two (.seq none .leaf (.seq none .leaf (.two (.seq none .leaf .leaf) .leaf))) (.one (.seq none .leaf (.seq none .leaf (.seq none .leaf (.one (.loop [] (.seq none (.seq none .leaf (.two .leaf .leaf)) (.seq none (.one (.seq none .leaf (.two (.seq none (.seq none .leaf (.one (.loop [] (.seq none (.seq none .leaf (.two .leaf .leaf)) (.seq none (.one (.seq none .leaf (.two .leaf .leaf))) .leaf))))) (.seq none .leaf .leaf)) .leaf))) .leaf))))))))) (.seq none .leaf .leaf)))))))))))))))))) [a0, a1] H R = F.strings_IndexRune_ScV11 E Tryz.prog a0 a1 H R := by kernel_rfl
theorem b_unicode_utf8_ValidRune (a0 : AV) (H : AH) (R : Kt) : bodyW E Tryz.prog Tryz.f101 (.seq none .leaf (.seq none (.one (.seq none .leaf (.two (.seq none .leaf .leaf) (.seq none .leaf (.two (.seq none .leaf .leaf) .leaf))))) (.seq none .leaf .leaf))) [a0] H R = F.unicode_utf8_ValidRune E Tryz.prog a0 H R := by kernel_rfl
theorem c_expr_Parse (a0 : AV) (H : AH) (R : Kt) (h : F.expr_Parse E Tryz.prog a0 H R) : ACalls E Tryz.prog 126 [a0] H R :=
  acalls_of_body (show Tryz.prog.funcs[E.fn 126]? = some Tryz.f4 from Tryz.func4) (by kernel_rfl) ((b_expr_Parse a0 H R).mpr h)
theorem c_keep_gated (H : AH) (R : Kt) (h : F.keep_gated E Tryz.prog H R) : ACalls E Tryz.prog 230 [] H R :=
  acalls_of_body (show Tryz.prog.funcs[E.fn 230]? = some Tryz.f5 from Tryz.func5) (by kernel_rfl) ((b_keep_gated H R).mpr h)
theorem c_expr_Names (a0 : AV) (H : AH) (R : Kt) (h : F.expr_Names E Tryz.prog a0 H R) : ACalls E Tryz.prog 181 [a0] H R :=
  acalls_of_body (show Tryz.prog.funcs[E.fn 181]? = some Tryz.f6 from Tryz.func6) (by kernel_rfl) ((b_expr_Names a0 H R).mpr h)
theorem c_expr_Edges (a0 : AV) (H : AH) (R : Kt) (h : F.expr_Edges E Tryz.prog a0 H R) : ACalls E Tryz.prog 184 [a0] H R :=
  acalls_of_body (show Tryz.prog.funcs[E.fn 184]? = some Tryz.f7 from Tryz.func7) (by kernel_rfl) ((b_expr_Edges a0 H R).mpr h)
theorem c_gate_Of (a0 : AV) (H : AH) (R : Kt) (h : F.gate_Of E Tryz.prog a0 H R) : ACalls E Tryz.prog 233 [a0] H R :=
  acalls_of_body (show Tryz.prog.funcs[E.fn 233]? = some Tryz.f8 from Tryz.func8) (by kernel_rfl) ((b_gate_Of a0 H R).mpr h)
theorem c_gate_Solve (a0 : AV) (H : AH) (R : Kt) (h : F.gate_Solve E Tryz.prog a0 H R) : ACalls E Tryz.prog 100 [a0] H R :=
  acalls_of_body (show Tryz.prog.funcs[E.fn 100]? = some Tryz.f10 from Tryz.func10) (by kernel_rfl) ((b_gate_Solve a0 H R).mpr h)
theorem c_expr_Eval (a0 a1 a2 : AV) (H : AH) (R : Kt) (h : F.expr_Eval E Tryz.prog a0 a1 a2 H R) : ACalls E Tryz.prog 158 [a0, a1, a2] H R :=
  acalls_of_body (show Tryz.prog.funcs[E.fn 158]? = some Tryz.f11 from Tryz.func11) (by kernel_rfl) ((b_expr_Eval a0 a1 a2 H R).mpr h)
theorem c_keep_among (a0 : AV) (H : AH) (R : Kt) (h : F.keep_among E Tryz.prog a0 H R) : ACalls E Tryz.prog 157 [a0] H R :=
  acalls_of_body (show Tryz.prog.funcs[E.fn 157]? = some Tryz.f12 from Tryz.func12) (by kernel_rfl) ((b_keep_among a0 H R).mpr h)
theorem c_pexpr_reader_or (a0 a1 : AV) (H : AH) (R : Kt) (h : F.pexpr_reader_or E Tryz.prog a0 a1 H R) : ACalls E Tryz.prog 133 [a0, a1] H R :=
  acalls_of_body (show Tryz.prog.funcs[E.fn 133]? = some Tryz.f13 from Tryz.func13) (by kernel_rfl) ((b_pexpr_reader_or a0 a1 H R).mpr h)
theorem c_pexpr_reader_blanks (a0 : AV) (H : AH) (R : Kt) (h : F.pexpr_reader_blanks E Tryz.prog a0 H R) : ACalls E Tryz.prog 134 [a0] H R :=
  acalls_of_body (show Tryz.prog.funcs[E.fn 134]? = some Tryz.f14 from Tryz.func14) (by kernel_rfl) ((b_pexpr_reader_blanks a0 H R).mpr h)
theorem c_pexpr_reader_fail (a0 a1 : AV) (H : AH) (R : Kt) (h : F.pexpr_reader_fail E Tryz.prog a0 a1 H R) : ACalls E Tryz.prog 135 [a0, a1] H R :=
  acalls_of_body (show Tryz.prog.funcs[E.fn 135]? = some Tryz.f15 from Tryz.func15) (by kernel_rfl) ((b_pexpr_reader_fail a0 a1 H R).mpr h)
theorem c_gate_Same (a0 a1 : AV) (H : AH) (R : Kt) (h : F.gate_Same E Tryz.prog a0 a1 H R) : ACalls E Tryz.prog 231 [a0, a1] H R :=
  acalls_of_body (show Tryz.prog.funcs[E.fn 231]? = some Tryz.f16 from Tryz.func16) (by kernel_rfl) ((b_gate_Same a0 a1 H R).mpr h)
theorem c_expr_sorted (a0 a1 : AV) (H : AH) (R : Kt) (h : F.expr_sorted E Tryz.prog a0 a1 H R) : ACalls E Tryz.prog 190 [a0, a1] H R :=
  acalls_of_body (show Tryz.prog.funcs[E.fn 190]? = some Tryz.f17 from Tryz.func17) (by kernel_rfl) ((b_expr_sorted a0 a1 H R).mpr h)
theorem c_expr_Names_c1 (a0 : AV) (H : AH) (R : Kt) (h : F.expr_Names_c1 E Tryz.prog a0 H R) : ACalls E Tryz.prog 189 [a0] H R :=
  acalls_of_body (show Tryz.prog.funcs[E.fn 189]? = some Tryz.f18 from Tryz.func18) (by kernel_rfl) ((b_expr_Names_c1 a0 H R).mpr h)
theorem c_expr_Edges_c1 (a0 : AV) (H : AH) (R : Kt) (h : F.expr_Edges_c1 E Tryz.prog a0 H R) : ACalls E Tryz.prog 192 [a0] H R :=
  acalls_of_body (show Tryz.prog.funcs[E.fn 192]? = some Tryz.f19 from Tryz.func19) (by kernel_rfl) ((b_expr_Edges_c1 a0 H R).mpr h)
theorem c_expr_Size (a0 : AV) (H : AH) (R : Kt) (h : F.expr_Size E Tryz.prog a0 H R) : ACalls E Tryz.prog 156 [a0] H R :=
  acalls_of_body (show Tryz.prog.funcs[E.fn 156]? = some Tryz.f20 from Tryz.func20) (by kernel_rfl) ((b_expr_Size a0 H R).mpr h)
theorem c_pgate_builder_fresh (a0 : AV) (H : AH) (R : Kt) (h : F.pgate_builder_fresh E Tryz.prog a0 H R) : ACalls E Tryz.prog 234 [a0] H R :=
  acalls_of_body (show Tryz.prog.funcs[E.fn 234]? = some Tryz.f21 from Tryz.func21) (by kernel_rfl) ((b_pgate_builder_fresh a0 H R).mpr h)
theorem c_pgate_builder_lit (a0 a1 : AV) (H : AH) (R : Kt) (h : F.pgate_builder_lit E Tryz.prog a0 a1 H R) : ACalls E Tryz.prog 235 [a0, a1] H R :=
  acalls_of_body (show Tryz.prog.funcs[E.fn 235]? = some Tryz.f22 from Tryz.func22) (by kernel_rfl) ((b_pgate_builder_lit a0 a1 H R).mpr h)
theorem c_gate_Check (a0 : AV) (H : AH) (R : Kt) (h : F.gate_Check E Tryz.prog a0 H R) : ACalls E Tryz.prog 101 [a0] H R :=
  acalls_of_body (show Tryz.prog.funcs[E.fn 101]? = some Tryz.f24 from Tryz.func24) (by kernel_rfl) ((b_gate_Check a0 H R).mpr h)
theorem c_pgate_solver_search (a0 : AV) (H : AH) (R : Kt) (h : F.pgate_solver_search E Tryz.prog a0 H R) : ACalls E Tryz.prog 105 [a0] H R :=
  acalls_of_body (show Tryz.prog.funcs[E.fn 105]? = some Tryz.f25 from Tryz.func25) (by kernel_rfl) ((b_pgate_solver_search a0 H R).mpr h)
theorem c_slices_ContainsFunc_expr_And_expr_Expr (a0 a1 : AV) (H : AH) (R : Kt) (h : F.slices_ContainsFunc_expr_And_expr_Expr E Tryz.prog a0 a1 H R) : ACalls E Tryz.prog 163 [a0, a1] H R :=
  acalls_of_body (show Tryz.prog.funcs[E.fn 163]? = some Tryz.f26 from Tryz.func26) (by kernel_rfl) ((b_slices_ContainsFunc_expr_And_expr_Expr a0 a1 H R).mpr h)
theorem c_expr_Eval_c1 (a0 a1 a2 : AV) (H : AH) (R : Kt) (h : F.expr_Eval_c1 E Tryz.prog a0 a1 a2 H R) : ACalls E Tryz.prog 162 [a0, a1, a2] H R :=
  acalls_of_body (show Tryz.prog.funcs[E.fn 162]? = some Tryz.f27 from Tryz.func27) (by kernel_rfl) ((b_expr_Eval_c1 a0 a1 a2 H R).mpr h)
theorem c_slices_ContainsFunc_expr_Or_expr_Expr (a0 a1 : AV) (H : AH) (R : Kt) (h : F.slices_ContainsFunc_expr_Or_expr_Expr E Tryz.prog a0 a1 H R) : ACalls E Tryz.prog 165 [a0, a1] H R :=
  acalls_of_body (show Tryz.prog.funcs[E.fn 165]? = some Tryz.f28 from Tryz.func28) (by kernel_rfl) ((b_slices_ContainsFunc_expr_Or_expr_Expr a0 a1 H R).mpr h)
theorem c_expr_Eval_c2 (a0 a1 a2 : AV) (H : AH) (R : Kt) (h : F.expr_Eval_c2 E Tryz.prog a0 a1 a2 H R) : ACalls E Tryz.prog 164 [a0, a1, a2] H R :=
  acalls_of_body (show Tryz.prog.funcs[E.fn 164]? = some Tryz.f29 from Tryz.func29) (by kernel_rfl) ((b_expr_Eval_c2 a0 a1 a2 H R).mpr h)
theorem c_keep_among_c1 (a0 a1 : AV) (H : AH) (R : Kt) (h : F.keep_among_c1 E Tryz.prog a0 a1 H R) : ACalls E Tryz.prog 166 [a0, a1] H R :=
  acalls_of_body (show Tryz.prog.funcs[E.fn 166]? = some Tryz.f30 from Tryz.func30) (by kernel_rfl) ((b_keep_among_c1 a0 a1 H R).mpr h)
theorem c_pexpr_reader_several (a0 a1 a2 a3 : AV) (H : AH) (R : Kt) (h : F.pexpr_reader_several E Tryz.prog a0 a1 a2 a3 H R) : ACalls E Tryz.prog 140 [a0, a1, a2, a3] H R :=
  acalls_of_body (show Tryz.prog.funcs[E.fn 140]? = some Tryz.f31 from Tryz.func31) (by kernel_rfl) ((b_pexpr_reader_several a0 a1 a2 a3 H R).mpr h)
theorem c_pexpr_reader_and (a0 a1 : AV) (H : AH) (R : Kt) (h : F.pexpr_reader_and E Tryz.prog a0 a1 H R) : ACalls E Tryz.prog 139 [a0, a1] H R :=
  acalls_of_body (show Tryz.prog.funcs[E.fn 139]? = some Tryz.f32 from Tryz.func32) (by kernel_rfl) ((b_pexpr_reader_and a0 a1 H R).mpr h)
theorem c_expr_walk (a0 a1 : AV) (H : AH) (R : Kt) (h : F.expr_walk E Tryz.prog a0 a1 H R) : ACalls E Tryz.prog 161 [a0, a1] H R :=
  acalls_of_body (show Tryz.prog.funcs[E.fn 161]? = some Tryz.f33 from Tryz.func33) (by kernel_rfl) ((b_expr_walk a0 a1 H R).mpr h)
theorem c_expr_sorted_c1 (a0 a1 a2 : AV) (H : AH) (R : Kt) (h : F.expr_sorted_c1 E Tryz.prog a0 a1 a2 H R) : ACalls E Tryz.prog 193 [a0, a1, a2] H R :=
  acalls_of_body (show Tryz.prog.funcs[E.fn 193]? = some Tryz.f34 from Tryz.func34) (by kernel_rfl) ((b_expr_sorted_c1 a0 a1 a2 H R).mpr h)
theorem c_expr_Size_c1 (a0 a1 : AV) (H : AH) (R : Kt) (h : F.expr_Size_c1 E Tryz.prog a0 a1 H R) : ACalls E Tryz.prog 160 [a0, a1] H R :=
  acalls_of_body (show Tryz.prog.funcs[E.fn 160]? = some Tryz.f37 from Tryz.func37) (by kernel_rfl) ((b_expr_Size_c1 a0 a1 H R).mpr h)
theorem c_pgate_builder_and (a0 a1 : AV) (H : AH) (R : Kt) (h : F.pgate_builder_and E Tryz.prog a0 a1 H R) : ACalls E Tryz.prog 236 [a0, a1] H R :=
  acalls_of_body (show Tryz.prog.funcs[E.fn 236]? = some Tryz.f38 from Tryz.func38) (by kernel_rfl) ((b_pgate_builder_and a0 a1 H R).mpr h)
theorem c_pgate_builder_add (a0 a1 : AV) (H : AH) (R : Kt) (h : F.pgate_builder_add E Tryz.prog a0 a1 H R) : ACalls E Tryz.prog 237 [a0, a1] H R :=
  acalls_of_body (show Tryz.prog.funcs[E.fn 237]? = some Tryz.f39 from Tryz.func39) (by kernel_rfl) ((b_pgate_builder_add a0 a1 H R).mpr h)
theorem c_slices_ContainsFunc_Lint_int (a0 a1 : AV) (H : AH) (R : Kt) (h : F.slices_ContainsFunc_Lint_int E Tryz.prog a0 a1 H R) : ACalls E Tryz.prog 59 [a0, a1] H R :=
  acalls_of_body (show Tryz.prog.funcs[E.fn 59]? = some Tryz.f44 from Tryz.func44) (by kernel_rfl) ((b_slices_ContainsFunc_Lint_int a0 a1 H R).mpr h)
theorem c_gate_Check_c1 (a0 a1 : AV) (H : AH) (R : Kt) (h : F.gate_Check_c1 E Tryz.prog a0 a1 H R) : ACalls E Tryz.prog 106 [a0, a1] H R :=
  acalls_of_body (show Tryz.prog.funcs[E.fn 106]? = some Tryz.f45 from Tryz.func45) (by kernel_rfl) ((b_gate_Check_c1 a0 a1 H R).mpr h)
theorem c_pgate_solver_spread (a0 : AV) (H : AH) (R : Kt) (h : F.pgate_solver_spread E Tryz.prog a0 H R) : ACalls E Tryz.prog 108 [a0] H R :=
  acalls_of_body (show Tryz.prog.funcs[E.fn 108]? = some Tryz.f46 from Tryz.func46) (by kernel_rfl) ((b_pgate_solver_spread a0 H R).mpr h)
theorem c_pgate_solver_back (a0 a1 : AV) (H : AH) (R : Kt) (h : F.pgate_solver_back E Tryz.prog a0 a1 H R) : ACalls E Tryz.prog 109 [a0, a1] H R :=
  acalls_of_body (show Tryz.prog.funcs[E.fn 109]? = some Tryz.f47 from Tryz.func47) (by kernel_rfl) ((b_pgate_solver_back a0 a1 H R).mpr h)
theorem c_slices_Index_Lint_int (a0 a1 : AV) (H : AH) (R : Kt) (h : F.slices_Index_Lint_int E Tryz.prog a0 a1 H R) : ACalls E Tryz.prog 110 [a0, a1] H R :=
  acalls_of_body (show Tryz.prog.funcs[E.fn 110]? = some Tryz.f48 from Tryz.func48) (by kernel_rfl) ((b_slices_Index_Lint_int a0 a1 H R).mpr h)
theorem c_pgate_solver_set (a0 a1 : AV) (H : AH) (R : Kt) (h : F.pgate_solver_set E Tryz.prog a0 a1 H R) : ACalls E Tryz.prog 111 [a0, a1] H R :=
  acalls_of_body (show Tryz.prog.funcs[E.fn 111]? = some Tryz.f49 from Tryz.func49) (by kernel_rfl) ((b_pgate_solver_set a0 a1 H R).mpr h)
theorem c_slices_IndexFunc_expr_And_expr_Expr (a0 a1 : AV) (H : AH) (R : Kt) (h : F.slices_IndexFunc_expr_And_expr_Expr E Tryz.prog a0 a1 H R) : ACalls E Tryz.prog 167 [a0, a1] H R :=
  acalls_of_body (show Tryz.prog.funcs[E.fn 167]? = some Tryz.f50 from Tryz.func50) (by kernel_rfl) ((b_slices_IndexFunc_expr_And_expr_Expr a0 a1 H R).mpr h)
theorem c_slices_IndexFunc_expr_Or_expr_Expr (a0 a1 : AV) (H : AH) (R : Kt) (h : F.slices_IndexFunc_expr_Or_expr_Expr E Tryz.prog a0 a1 H R) : ACalls E Tryz.prog 168 [a0, a1] H R :=
  acalls_of_body (show Tryz.prog.funcs[E.fn 168]? = some Tryz.f51 from Tryz.func51) (by kernel_rfl) ((b_slices_IndexFunc_expr_Or_expr_Expr a0 a1 H R).mpr h)
theorem c_pexpr_reader_take (a0 a1 : AV) (H : AH) (R : Kt) (h : F.pexpr_reader_take E Tryz.prog a0 a1 H R) : ACalls E Tryz.prog 143 [a0, a1] H R :=
  acalls_of_body (show Tryz.prog.funcs[E.fn 143]? = some Tryz.f52 from Tryz.func52) (by kernel_rfl) ((b_pexpr_reader_take a0 a1 H R).mpr h)
theorem c_pexpr_reader_one (a0 a1 : AV) (H : AH) (R : Kt) (h : F.pexpr_reader_one E Tryz.prog a0 a1 H R) : ACalls E Tryz.prog 144 [a0, a1] H R :=
  acalls_of_body (show Tryz.prog.funcs[E.fn 144]? = some Tryz.f53 from Tryz.func53) (by kernel_rfl) ((b_pexpr_reader_one a0 a1 H R).mpr h)
theorem c_slices_IndexFunc_Lint_int (a0 a1 : AV) (H : AH) (R : Kt) (h : F.slices_IndexFunc_Lint_int E Tryz.prog a0 a1 H R) : ACalls E Tryz.prog 66 [a0, a1] H R :=
  acalls_of_body (show Tryz.prog.funcs[E.fn 66]? = some Tryz.f59 from Tryz.func59) (by kernel_rfl) ((b_slices_IndexFunc_Lint_int a0 a1 H R).mpr h)
theorem c_pgate_solver_is (a0 a1 : AV) (H : AH) (R : Kt) (h : F.pgate_solver_is E Tryz.prog a0 a1 H R) : ACalls E Tryz.prog 112 [a0, a1] H R :=
  acalls_of_body (show Tryz.prog.funcs[E.fn 112]? = some Tryz.f60 from Tryz.func60) (by kernel_rfl) ((b_pgate_solver_is a0 a1 H R).mpr h)
theorem c_pexpr_reader_word (a0 : AV) (H : AH) (R : Kt) (h : F.pexpr_reader_word E Tryz.prog a0 H R) : ACalls E Tryz.prog 145 [a0] H R :=
  acalls_of_body (show Tryz.prog.funcs[E.fn 145]? = some Tryz.f61 from Tryz.func61) (by kernel_rfl) ((b_pexpr_reader_word a0 H R).mpr h)
theorem c_expr_Name (a0 : AV) (H : AH) (R : Kt) (h : F.expr_Name E Tryz.prog a0 H R) : ACalls E Tryz.prog 1 [a0] H R :=
  acalls_of_body (show Tryz.prog.funcs[E.fn 1]? = some Tryz.f74 from Tryz.func74) (by kernel_rfl) ((b_expr_Name a0 H R).mpr h)
theorem c_strings_Trim (a0 a1 : AV) (H : AH) (R : Kt) (h : F.strings_Trim E Tryz.prog a0 a1 H R) : ACalls E Tryz.prog 4 [a0, a1] H R :=
  acalls_of_body (show Tryz.prog.funcs[E.fn 4]? = some Tryz.f82 from Tryz.func82) (by kernel_rfl) ((b_strings_Trim a0 a1 H R).mpr h)
theorem c_slices_Contains_Lstring_string (a0 a1 : AV) (H : AH) (R : Kt) (h : F.slices_Contains_Lstring_string E Tryz.prog a0 a1 H R) : ACalls E Tryz.prog 5 [a0, a1] H R :=
  acalls_of_body (show Tryz.prog.funcs[E.fn 5]? = some Tryz.f83 from Tryz.func83) (by kernel_rfl) ((b_slices_Contains_Lstring_string a0 a1 H R).mpr h)
theorem c_strings_trimLeftByte (a0 a1 : AV) (H : AH) (R : Kt) (h : F.strings_trimLeftByte E Tryz.prog a0 a1 H R) : ACalls E Tryz.prog 7 [a0, a1] H R :=
  acalls_of_body (show Tryz.prog.funcs[E.fn 7]? = some Tryz.f86 from Tryz.func86) (by kernel_rfl) ((b_strings_trimLeftByte a0 a1 H R).mpr h)
theorem c_strings_trimRightByte (a0 a1 : AV) (H : AH) (R : Kt) (h : F.strings_trimRightByte E Tryz.prog a0 a1 H R) : ACalls E Tryz.prog 6 [a0, a1] H R :=
  acalls_of_body (show Tryz.prog.funcs[E.fn 6]? = some Tryz.f87 from Tryz.func87) (by kernel_rfl) ((b_strings_trimRightByte a0 a1 H R).mpr h)
theorem c_strings_makeASCIISet (a0 : AV) (H : AH) (R : Kt) (h : F.strings_makeASCIISet E Tryz.prog a0 H R) : ACalls E Tryz.prog 8 [a0] H R :=
  acalls_of_body (show Tryz.prog.funcs[E.fn 8]? = some Tryz.f88 from Tryz.func88) (by kernel_rfl) ((b_strings_makeASCIISet a0 H R).mpr h)
theorem c_strings_trimLeftASCII (a0 a1 : AV) (H : AH) (R : Kt) (h : F.strings_trimLeftASCII E Tryz.prog a0 a1 H R) : ACalls E Tryz.prog 10 [a0, a1] H R :=
  acalls_of_body (show Tryz.prog.funcs[E.fn 10]? = some Tryz.f89 from Tryz.func89) (by kernel_rfl) ((b_strings_trimLeftASCII a0 a1 H R).mpr h)
theorem c_strings_trimRightASCII (a0 a1 : AV) (H : AH) (R : Kt) (h : F.strings_trimRightASCII E Tryz.prog a0 a1 H R) : ACalls E Tryz.prog 9 [a0, a1] H R :=
  acalls_of_body (show Tryz.prog.funcs[E.fn 9]? = some Tryz.f90 from Tryz.func90) (by kernel_rfl) ((b_strings_trimRightASCII a0 a1 H R).mpr h)
theorem c_slices_Index_Lstring_string (a0 a1 : AV) (H : AH) (R : Kt) (h : F.slices_Index_Lstring_string E Tryz.prog a0 a1 H R) : ACalls E Tryz.prog 13 [a0, a1] H R :=
  acalls_of_body (show Tryz.prog.funcs[E.fn 13]? = some Tryz.f93 from Tryz.func93) (by kernel_rfl) ((b_slices_Index_Lstring_string a0 a1 H R).mpr h)
theorem c_pstrings_asciiSet_contains (a0 a1 : AV) (H : AH) (R : Kt) (h : F.pstrings_asciiSet_contains E Tryz.prog a0 a1 H R) : ACalls E Tryz.prog 14 [a0, a1] H R :=
  acalls_of_body (show Tryz.prog.funcs[E.fn 14]? = some Tryz.f94 from Tryz.func94) (by kernel_rfl) ((b_pstrings_asciiSet_contains a0 a1 H R).mpr h)
theorem c_strings_ContainsRune (a0 a1 : AV) (H : AH) (R : Kt) (h : F.strings_ContainsRune E Tryz.prog a0 a1 H R) : ACalls E Tryz.prog 16 [a0, a1] H R :=
  acalls_of_body (show Tryz.prog.funcs[E.fn 16]? = some Tryz.f96 from Tryz.func96) (by kernel_rfl) ((b_strings_ContainsRune a0 a1 H R).mpr h)
theorem c_strings_IndexRune_ScV11 (a0 a1 : AV) (H : AH) (R : Kt) (h : F.strings_IndexRune_ScV11 E Tryz.prog a0 a1 H R) : ACalls E Tryz.prog 19 [a0, a1] H R :=
  acalls_of_body (show Tryz.prog.funcs[E.fn 19]? = some Tryz.f99 from Tryz.func99) (by kernel_rfl) ((b_strings_IndexRune_ScV11 a0 a1 H R).mpr h)
theorem c_unicode_utf8_ValidRune (a0 : AV) (H : AH) (R : Kt) (h : F.unicode_utf8_ValidRune E Tryz.prog a0 H R) : ACalls E Tryz.prog 22 [a0] H R :=
  acalls_of_body (show Tryz.prog.funcs[E.fn 22]? = some Tryz.f101 from Tryz.func101) (by kernel_rfl) ((b_unicode_utf8_ValidRune a0 H R).mpr h)
end Go.Proofs.YtnellomaabbpkaaGreatDoor
set_option maxRecDepth 100000
namespace Go.Proofs
open Go.Shelf
def Tryz.lays137_ren : Go.Shelf.Ren := ⟨fun | 137 => 73 | 217 => 81 | 266 => 85 | n => n, fun | 9 => 9 | 5 => 5 | 3 => 3 | n => n, fun | n => n⟩
theorem Tryz.lays137 : Go.Proofs.Lays.n137 Tryz.prog Tryz.lays137_ren := {
  mixed := by kernel_rfl
  f137 := Tryz.func73.trans (congrArg some (by kernel_rfl))
  f217 := Tryz.func81.trans (congrArg some (by kernel_rfl))
  f266 := Tryz.func85.trans (congrArg some (by kernel_rfl))
  t3 := Tryz.underlying3
  a3 := Tryz.isAgg3
  z3 := Tryz.sizeOf3
  v3 := Tryz.zeroValue3
  t5 := Tryz.underlying5
  a5 := Tryz.isAgg5
  z5 := Tryz.sizeOf5
  v5 := Tryz.zeroValue5
  t9 := Tryz.underlying9
  a9 := Tryz.isAgg9
  z9 := Tryz.sizeOf9
  v9 := Tryz.zeroValue9 }
open Go.RowKit in
theorem Tryz.strings_IndexByte (s : ByteArray) (c : Int) (w : World) :
    Calls Tryz.prog 73 #[.string s, .int .u8 c] w fun e w' => e = .returned (.int .i64 (Lib.indexByte s.data.toList c.toNat.toUInt8)) ∧ w' = w := Any.strings_IndexByte Tryz.lays137 s c w
def Tryz.lays190_ren : Go.Shelf.Ren := ⟨fun | 190 => 35 | 125 => 55 | 258 => 54 | 128 => 71 | 129 => 72 | 302 => 62 | 303 => 63 | 304 => 64 | 305 => 65 | 306 => 66 | 307 => 67 | 308 => 68 | 309 => 69 | 310 => 70 | 333 => 75 | 329 => 76 | 330 => 77 | 334 => 78 | 335 => 79 | 336 => 80 | 344 => 84 | n => n, fun | 31 => 22 | 9 => 9 | 3 => 3 | 46 => 113 | 0 => 0 | 51 => 142 | 53 => 144 | 4 => 4 | 183 => 134 | 182 => 133 | 131 => 139 | 5 => 5 | 218 => 146 | 222 => 150 | 228 => 154 | 229 => 155 | n => n, fun | n => n⟩
theorem Tryz.lays190 : Go.Proofs.Lays.n190 Tryz.prog Tryz.lays190_ren := {
  mixed := by kernel_rfl
  f125 := Tryz.func55.trans (congrArg some (by kernel_rfl))
  f128 := Tryz.func71.trans (congrArg some (by kernel_rfl))
  f129 := Tryz.func72.trans (congrArg some (by kernel_rfl))
  f190 := Tryz.func35.trans (congrArg some (by kernel_rfl))
  f258 := Tryz.func54.trans (congrArg some (by kernel_rfl))
  f302 := Tryz.func62.trans (congrArg some (by kernel_rfl))
  f303 := Tryz.func63.trans (congrArg some (by kernel_rfl))
  f304 := Tryz.func64.trans (congrArg some (by kernel_rfl))
  f305 := Tryz.func65.trans (congrArg some (by kernel_rfl))
  f306 := Tryz.func66.trans (congrArg some (by kernel_rfl))
  f307 := Tryz.func67.trans (congrArg some (by kernel_rfl))
  f308 := Tryz.func68.trans (congrArg some (by kernel_rfl))
  f309 := Tryz.func69.trans (congrArg some (by kernel_rfl))
  f310 := Tryz.func70.trans (congrArg some (by kernel_rfl))
  f329 := Tryz.func76.trans (congrArg some (by kernel_rfl))
  f330 := Tryz.func77.trans (congrArg some (by kernel_rfl))
  f333 := Tryz.func75.trans (congrArg some (by kernel_rfl))
  f334 := Tryz.func78.trans (congrArg some (by kernel_rfl))
  f335 := Tryz.func79.trans (congrArg some (by kernel_rfl))
  f336 := Tryz.func80.trans (congrArg some (by kernel_rfl))
  f344 := Tryz.func84.trans (congrArg some (by kernel_rfl))
  t0 := Tryz.underlying0
  a0 := Tryz.isAgg0
  z0 := Tryz.sizeOf0
  v0 := Tryz.zeroValue0
  t3 := Tryz.underlying3
  a3 := Tryz.isAgg3
  z3 := Tryz.sizeOf3
  v3 := Tryz.zeroValue3
  t4 := Tryz.underlying4
  a4 := Tryz.isAgg4
  z4 := Tryz.sizeOf4
  v4 := Tryz.zeroValue4
  t5 := Tryz.underlying5
  a5 := Tryz.isAgg5
  z5 := Tryz.sizeOf5
  v5 := Tryz.zeroValue5
  t9 := Tryz.underlying9
  a9 := Tryz.isAgg9
  z9 := Tryz.sizeOf9
  v9 := Tryz.zeroValue9
  t31 := Tryz.underlying22
  a31 := Tryz.isAgg22
  z31 := Tryz.sizeOf22
  v31 := Tryz.zeroValue22
  t46 := Tryz.underlying113
  a46 := Tryz.isAgg113
  z46 := Tryz.sizeOf113
  v46 := Tryz.zeroValue113
  t51 := Tryz.underlying142
  a51 := Tryz.isAgg142
  z51 := Tryz.sizeOf142
  v51 := Tryz.zeroValue142
  t53 := Tryz.underlying144
  a53 := Tryz.isAgg144
  z53 := Tryz.sizeOf144
  v53 := Tryz.zeroValue144
  t131 := Tryz.underlying139
  a131 := Tryz.isAgg139
  z131 := Tryz.sizeOf139
  v131 := Tryz.zeroValue139
  t182 := Tryz.underlying133
  a182 := Tryz.isAgg133
  z182 := Tryz.sizeOf133
  v182 := Tryz.zeroValue133
  t183 := Tryz.underlying134
  a183 := Tryz.isAgg134
  z183 := Tryz.sizeOf134
  v183 := Tryz.zeroValue134
  t218 := Tryz.underlying146
  a218 := Tryz.isAgg146
  z218 := Tryz.sizeOf146
  v218 := Tryz.zeroValue146
  t222 := Tryz.underlying150
  a222 := Tryz.isAgg150
  z222 := Tryz.sizeOf150
  v222 := Tryz.zeroValue150
  t228 := Tryz.underlying154
  a228 := Tryz.isAgg154
  z228 := Tryz.sizeOf154
  v228 := Tryz.zeroValue154
  t229 := Tryz.underlying155
  a229 := Tryz.isAgg155
  z229 := Tryz.sizeOf155
  v229 := Tryz.zeroValue155 }
open Go.Sort Go.RowKit in
theorem Tryz.slices_Sort_string (blk off cap : Nat) (ss : List (List UInt8)) (w : World) (hH : Holds encStr w blk off ss.toArray) (hblk : blk < w.heap.size) (hsz : ss.length < 4611686018427387904) :
    Calls Tryz.prog 35 #[.slice (some ⟨blk, off, none⟩) ss.length cap] w fun e w' =>
      e = .returned (.tuple #[]) ∧ ∃ n os, w' = grow (putRow encStr (Sort.ahead w n) blk off (ss.mergeSort fun x y => decide (x ≤ y)).toArray) os := Any.slices_Sort_string Tryz.lays190 blk off cap ss w hH hblk hsz
def Tryz.lays194_ren : Go.Shelf.Ren := ⟨fun | 194 => 36 | n => n, fun | 31 => 22 | 9 => 9 | 3 => 3 | 4 => 4 | 0 => 0 | n => n, fun | n => n⟩
theorem Tryz.lays194 : Go.Proofs.Lays.n194 Tryz.prog Tryz.lays194_ren := {
  mixed := by kernel_rfl
  f194 := Tryz.func36.trans (congrArg some (by kernel_rfl))
  t0 := Tryz.underlying0
  a0 := Tryz.isAgg0
  z0 := Tryz.sizeOf0
  v0 := Tryz.zeroValue0
  t3 := Tryz.underlying3
  a3 := Tryz.isAgg3
  z3 := Tryz.sizeOf3
  v3 := Tryz.zeroValue3
  t4 := Tryz.underlying4
  a4 := Tryz.isAgg4
  z4 := Tryz.sizeOf4
  v4 := Tryz.zeroValue4
  t9 := Tryz.underlying9
  a9 := Tryz.isAgg9
  z9 := Tryz.sizeOf9
  v9 := Tryz.zeroValue9
  t31 := Tryz.underlying22
  a31 := Tryz.isAgg22
  z31 := Tryz.sizeOf22
  v31 := Tryz.zeroValue22 }
open Go.RowKit Go.Lib Go.Sort in
theorem Tryz.slices_Compact_string (blk off cap : Nat) (zs : List (List UInt8)) (w : World) (hH : Holds encStr w blk off zs.toArray) (hsz : zs.length ≤ 9223372036854775807) (hcap : zs.length ≤ cap) :
    Calls Tryz.prog 36 #[.slice (some ⟨blk, off, none⟩) zs.length cap] w fun e w' => e = .returned (.slice (some ⟨blk, off, none⟩) (Lib.compact zs).length cap) ∧ ∃ q, w' = putRow encStr (Sort.ahead w q) blk off (Lib.compact zs ++ List.replicate (zs.length - (Lib.compact zs).length) []).toArray := Any.slices_Compact_string Tryz.lays194 blk off cap zs w hH hsz hcap
open Go.RowKit Go.Lib Go.Sort in
theorem Tryz.slices_Compact_string_empty (a : Option Addr) (cap : Nat) (w : World) :
    Calls Tryz.prog 36 #[.slice a 0 cap] w fun e w' => e = .returned (.slice a 0 cap) ∧ w' = w := Any.slices_Compact_string_empty Tryz.lays194 a cap w
open Go.RowKit Go.Sort in
theorem Tryz.slices_Sort_string_none (p : Option Addr) (cap : Nat) (w : World) :
    Calls Tryz.prog 35 #[.slice p 0 cap] w fun e w' => e = .returned (.tuple #[]) ∧ w' = w := Any.slices_Sort_string_none Tryz.lays190 p cap w
end Go.Proofs
namespace Go.Proofs.YtnellomaabbpkaaGreatDoor
open Go Go.Sc
variable [Inhabited Mx]
theorem ixB (s : Str) (c : UInt8) : FX E Tryz.prog 21 [S s, By c] (Z (idx s c)) := FX.indexByte (show Tryz.prog.funcs[E.fn 21]? = some Tryz.f73 from Tryz.func73) (by kernel_rfl) (by kernel_rfl) Tryz.strings_IndexByte s c
theorem sortNB : FX E Tryz.prog 194 [nilS] (.tup []) := FX.sortNil (show Tryz.prog.funcs[E.fn 194]? = some Tryz.f35 from Tryz.func35) (by kernel_rfl) (by kernel_rfl) Tryz.slices_Sort_string_none
theorem sortCB {H : AH} {b g : Nat} {l : List Str} (hl : l.length < 4611686018427387904) (hb : H.bs[b]? = some (.cells g 1 (l.map fun s => S s))) : ACalls E Tryz.prog 194 [.slL b 0 l.length g] H fun r H' => r = .tup [] ∧ H' = ⟨H.bs.set b (.cells g 1 ((sortS l).map fun s => S s)), H.ctr⟩ := sort_calls (show Tryz.prog.funcs[E.fn 194]? = some Tryz.f35 from Tryz.func35) (by kernel_rfl) (by kernel_rfl) Tryz.slices_Sort_string_none Tryz.slices_Sort_string hl hb
theorem compNB : FX E Tryz.prog 195 [nilS] nilS := FX.compactNil (show Tryz.prog.funcs[E.fn 195]? = some Tryz.f36 from Tryz.func36) (by kernel_rfl) (by kernel_rfl) Tryz.slices_Compact_string_empty
theorem compCB {H : AH} {b g : Nat} {l : List Str} (hl : l.length < 4611686018427387904) (hb : H.bs[b]? = some (.cells g 1 (l.map fun s => S s))) : ACalls E Tryz.prog 195 [.slL b 0 l.length g] H fun r H' => r = .slL b 0 (packS l).length g ∧ H' = ⟨H.bs.set b (.cells g 1 ((packS l ++ List.replicate (l.length - (packS l).length) []).map fun s => S s)), H.ctr⟩ := compact_calls (show Tryz.prog.funcs[E.fn 195]? = some Tryz.f36 from Tryz.func36) (by kernel_rfl) (by kernel_rfl) Tryz.slices_Compact_string_empty Tryz.slices_Compact_string hl hb
end Go.Proofs.YtnellomaabbpkaaGreatDoor
namespace Go.Sc
open Go Go.RowKit
set_option linter.unusedVariables false
section
variable {H : Type} {enc : TypeId × Value → H}
/-- the row out of a contract that is told what is listed, and the world's shape -/
theorem handed_shaped {C : Checked} {os : Os} {f : FuncId} {fn : Func} {s : ChangeSpec} {again : Bool} {X : World → Prop} (hX : ∀ w w' : World, w.heap = w'.heap → X w → X w')
    (own : ownKnob C.prog.godebug = none) (started : os.Started) (noInit : C.prog.inits.idxOf? f = none) (hfn : C.prog.funcs[f]? = some fn)
    (wit : ∃ (w : World) (tape : Tape) (i : Input), w.os = os ∧ (w.forCall tape i).Shaped C.prog ∧ i.vars = [] ∧ Input.okWide C.prog (w.forCall tape i) .any w.heap.size f i ∧
      ((s.pre enc C.prog fn [] false (w.forCall tape i).memory i.args ∧ X (w.forCall tape i).memory) ∧ sizedMet enc C.prog fn (OpenSpec.ofChange s) false (w.forCall tape i).memory i.args) ∧ ({} : Assume).holds C.prog (lone (Frame.enter C.prog f i.args .normal) [] (w.forCall tape i)))
    (k : ∀ (W : World) (base : Nat) (args : Array Value) (ds gs : List (DataW H)) (before : List MemPlace), W.ShapedOpen C.prog → X W →
      (∀ (j : Nat) t v, fn.params[j]? = some t → args[j]? = some v → Value.okWide C.prog W .any base t v) → DataW.Whole enc C.prog fn.params.toList s.vars false W args.toList ds gs before →
      (DataW.weightsEach C.prog (fn.params.toList ++ s.plain.varTypes C.prog) (ds ++ gs)).all (· ≤ reachBytes) = true → Calls C.prog f args W fun e W' => ∃ v, e = .returned v ∧ s.post enc C.prog fn false true false again W args v W') :
    ReturnsInHanded {} C os f .any (fun w args => (s.pre enc C.prog fn [] false w args ∧ X w) ∧ sizedMet enc C.prog fn (OpenSpec.ofChange s) false w args) (s.post enc C.prog fn false true false again) :=
  returnsInHanded_of_calls own started noInit wit fun w tape i _ hsh _ hok hpre _ => by
    have hv := hok.2.2.2
    obtain ⟨fn', h1, _, _, _, _, hval⟩ := hv
    obtain rfl : fn' = fn := Option.some.inj (h1.symm.trans hfn)
    obtain ⟨⟨⟨ds, gs, before, hw, _⟩, hx⟩, hz⟩ := hpre
    refine (k (w.forCall tape i) w.heap.size i.args ds gs before hsh (hX _ _ (by rfl) hx) hval (DataW.Whole.of_heap (w' := w.forCall tape i) (by rfl) hw) (hz.weights hw)).mono fun e W' h => ?_
    obtain ⟨v, rfl, hp⟩ := h
    exact ChangeSpec.post_blind hp
end
section
variable {E : Env} {P : Program}
theorem FX.contains {k gk : Nat} {m : Int} {fn : Func} (hf : P.funcs[E.fn k]? = some fn) (hn : (fn.name == "runtime.NumGoroutine") = false) (hb : fn.body.isNone = false) (hgl : E.gl gk = some [.val (.int .i64 m)])
    (h : ∀ (s sub : ByteArray) (m : Int) (w : World), s.size < 4294967281 → w.cell? ⟨E.gn gk, 0, none⟩ = some (.int .i64 m) → Calls P (E.fn k) #[.string s, .string sub] w fun e w' => e = .returned (.bool (Lib.contains s.data.toList sub.data.toList)) ∧ w' = w)
    (s t : Str) (hs : s.length ≤ 1000) : FX E P k [S s, S t] (Bo (Lib.contains s t)) := by
  refine FX.ofCalls hf hn hb (by simp [AV.closedL, AV.closed]) (by simp [AV.flat]) (by simp [AV.closed]) fun cx vs _ hg hv => ?_
  simp only [LRel, VRel] at hv
  obtain ⟨v0, _, rfl, rfl, v1, _, rfl, rfl, rfl⟩ := hv
  have hc := hg gk _ hgl
  simp only [CRel, VRel] at hc
  obtain ⟨⟨_, u, hu, rfl⟩, _⟩ := hc
  refine (h ⟨s.toArray⟩ ⟨t.toArray⟩ m cx.w (by simp [ByteArray.size]; omega) hu).mono ?_
  rintro e w' ⟨rfl, rfl⟩
  exact ⟨_, rfl, Below.refl _ _, by simp [VRel]⟩
end
end Go.Sc
namespace Go.Sc
open Go Go.ChangeShapes Go.WideShapes Go.ChangeAt Go.RowKit
section
variable {P : Program} {W : World} {E : Env}
end
theorem least_isNone (l : List String) : (Instr.least l).isNone = l.isEmpty := by
  cases l <;> simp [Instr.least]
theorem missing_isNone (want : Array (String × TypeId)) (got : Array Method) : (Instr.missingMethod want got).isNone = want.toList.all fun x => got.any fun m => m.name == x.1 && m.sig == x.2 := by
  unfold Instr.missingMethod
  generalize hm : (want.toList.filter _).map (·.1) = missing
  have h1 : (want.toList.all fun x => got.any fun m => m.name == x.1 && m.sig == x.2) = missing.isEmpty := by
    rw [← hm]
    generalize want.toList = l
    induction l with
    | nil => rfl
    | cons a l ih =>
      simp only [List.all_cons, List.filter_cons]
      cases h : (got.any fun m => m.name == a.1 && m.sig == a.2) with
      | true => simpa [h] using ih
      | false => simp
  rw [h1]
  simp only
  rw [List.partition_eq_filter_filter]
  simp only
  cases missing with
  | nil => simp [Instr.least]
  | cons s l =>
    simp only [List.isEmpty_cons]
    cases he : Instr.least (List.filter (not ∘ fun x => String.contains x '.') (s :: l)) with
    | some y => rfl
    | none =>
      have h2 := least_isNone (List.filter (not ∘ fun x => String.contains x '.') (s :: l))
      rw [he] at h2
      simp only [Option.isNone_none, Bool.true_eq, List.isEmpty_iff, List.filter_eq_nil_iff] at h2
      have h3 := h2 s (by simp)
      have h4 : (s.contains '.') = true := by simpa using h3
      show (Instr.least _).isNone = false
      rw [least_isNone]
      simp only [List.filter_cons, h4, if_true, List.map_cons, List.isEmpty_cons]
def hasMB (E : Env) (P : Program) (kt k : Nat) (b : Bool) : Bool :=
  match P.underlying (E.ty kt) with
  | some (.interface want) => (match P.info? (E.ty k) with
    | some i => (want.toList.all fun x => i.methods.any fun m => m.name == x.1 && m.sig == x.2) == b
    | none => false)
  | _ => true
theorem HasM.of {E : Env} {P : Program} {kt k : Nat} {b : Bool} (h : hasMB E P kt k b = true) : HasM E P kt k b := fun want hw => by
  unfold hasMB at h
  rw [hw] at h
  simp only at h
  split at h
  · rename_i i hi
    exact ⟨i, hi, by rw [missing_isNone]; simpa using h⟩
  · cases h
end Go.Sc
