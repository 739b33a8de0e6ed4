/- GateTidy: contracts out of the kit's shelf, laid here. A PACKAGE-LEVEL NUMBER THAT MAY BE ANY: told to the contract of a row; strings.Contains out of the kit's shelf. VARIABLES: a known pair of numbers. (of the seat YtmklekabnghafaaGreatDoor) -/
import Derived.Test.YtmklekabnghafaaGreatDoorCore11
import Derived.Test.YtmklekabnghafaaGreatDoorProg
import Derived.KernelRfl
import Derived.Shelf.Strings.OnBuilder
import Derived.Shelf.Small.Strs
import Derived.Shelf.Sort.Plain
import Derived.Shelf.Slices.CompactS
import Derived.Shelf.Slices.In.SortNone
import Derived.SizedLaws
import Derived.Shelf.Vars
import Derived.Lib.IndexMore
import Derived.ChangeSame
import Derived.ChangeAt
import Derived.Below
namespace Go.Proofs.YtmklekabnghafaaGreatDoor
open Go Go.Sc
set_option maxRecDepth 100000
variable [Inhabited Mx]
def tyL : List Nat := [1000000, 39, 75, 91, 9, 146, 149, 151, 56, 55, 53, 67, 47, 48, 46]
def tkL : List Nat := [2000000, 2000001, 2000002, 2000003, 2000004, 2000005, 2000006, 2000007, 2000008, 4, 2000010, 2000011, 2000012, 2000013, 2000014, 2000015, 2000016, 2000017, 2000018, 2000019, 2000020, 2000021, 2000022, 2000023, 2000024, 2000025, 2000026, 2000027, 2000028, 2000029, 2000030, 2000031, 2000032, 2000033, 2000034, 2000035, 2000036, 2000037, 2000038, 1, 2000040, 2000041, 2000042, 2000043, 2000044, 2000045, 14, 12, 13, 2000049, 2000050, 2000051, 2000052, 10, 2000054, 9, 8, 2000057, 2000058, 2000059, 2000060, 2000061, 2000062, 2000063, 2000064, 2000065, 2000066, 11, 2000068, 2000069, 2000070, 2000071, 2000072, 2000073, 2000074, 2, 2000076, 2000077, 2000078, 2000079, 2000080, 2000081, 2000082, 2000083, 2000084, 2000085, 2000086, 2000087, 2000088, 2000089, 2000090, 3, 2000092, 2000093, 2000094, 2000095, 2000096, 2000097, 2000098, 2000099, 2000100, 2000101, 2000102, 2000103, 2000104, 2000105, 2000106, 2000107, 2000108, 2000109, 2000110, 2000111, 2000112, 2000113, 2000114, 2000115, 2000116, 2000117, 2000118, 2000119, 2000120, 2000121, 2000122, 2000123, 2000124, 2000125, 2000126, 2000127, 2000128, 2000129, 2000130, 2000131, 2000132, 2000133, 2000134, 2000135, 2000136, 2000137, 2000138, 2000139, 2000140, 2000141, 2000142, 2000143, 2000144, 2000145, 5, 2000147, 2000148, 6, 2000150, 7, 2000152, 2000153, 2000154, 2000155, 2000156, 2000157, 2000158, 2000159, 2000160, 2000161, 2000162, 2000163, 2000164, 2000165, 2000166, 2000167, 2000168, 2000169, 2000170, 2000171, 2000172, 2000173, 2000174, 2000175, 2000176, 2000177, 2000178, 2000179, 2000180, 2000181, 2000182, 2000183, 2000184, 2000185, 2000186, 2000187, 2000188, 2000189, 2000190, 2000191, 2000192, 2000193, 2000194, 2000195, 2000196, 2000197, 2000198, 2000199, 2000200, 2000201, 2000202, 2000203, 2000204, 2000205, 2000206, 2000207, 2000208, 2000209, 2000210, 2000211, 2000212, 2000213, 2000214, 2000215, 2000216, 2000217, 2000218]
def fnL : List Nat := [1000000, 82, 1000002, 1000003, 90, 42, 94, 93, 95, 97, 96, 99, 98, 62, 100, 101, 102, 103, 104, 105, 106, 81, 107, 89, 108, 92, 1000026, 1000027, 1000028, 1000029, 1000030, 1000031, 1000032, 1000033, 1000034, 1000035, 1000036, 1000037, 1000038, 1000039, 1000040, 1000041, 1000042, 1000043, 1000044, 1000045, 1000046, 1000047, 1000048, 1000049, 1000050, 1000051, 1000052, 23, 1000054, 1000055, 1000056, 1000057, 1000058, 52, 1000060, 1000061, 39, 1000063, 1000064, 1000065, 76, 58, 59, 60, 61, 1000071, 78, 79, 80, 146, 1000076, 1000077, 1000078, 1000079, 1000080, 1000081, 1000082, 1000083, 1000084, 1000085, 1000086, 1000087, 1000088, 1000089, 1000090, 1000091, 1000092, 1000093, 1000094, 1000095, 1000096, 1000097, 1000098, 1000099, 22, 37, 1000102, 1000103, 1000104, 38, 53, 1000107, 54, 55, 56, 57, 77, 1000113, 1000114, 1000115, 1000116, 1000117, 131, 132, 133, 134, 135, 137, 136, 1000125, 4, 41, 1000128, 1000129, 1000130, 1000131, 1000132, 13, 14, 15, 1000136, 1000137, 1000138, 31, 30, 1000141, 1000142, 46, 47, 64, 129, 143, 130, 142, 141, 144, 139, 140, 128, 1000155, 8, 12, 11, 1000159, 20, 19, 26, 25, 28, 27, 29, 44, 45, 1000169, 10, 1000171, 1000172, 24, 1000174, 40, 43, 63, 1000178, 1000179, 1000180, 6, 1000182, 1000183, 7, 1000185, 1000186, 1000187, 1000188, 17, 16, 1000191, 18, 32, 33, 34, 1000196, 49, 48, 1000199, 1000200, 65, 66, 67, 68, 69, 70, 71, 72, 73, 74, 75, 1000212, 83, 84, 85, 86, 87, 88, 109, 1000220, 91, 1000222, 1000223, 1000224, 1000225, 1000226, 1000227, 1000228, 1000229, 5, 9, 3, 21, 35, 36, 50, 51]
def fkL : List Nat := [2000000, 2000001, 2000002, 232, 126, 230, 181, 184, 156, 231, 170, 158, 157, 133, 134, 135, 190, 189, 192, 161, 160, 233, 100, 53, 173, 163, 162, 165, 164, 166, 140, 139, 193, 194, 195, 234, 235, 101, 105, 62, 175, 127, 5, 176, 167, 168, 143, 144, 198, 197, 236, 237, 59, 106, 108, 109, 110, 111, 67, 68, 69, 70, 13, 177, 145, 201, 202, 203, 204, 205, 206, 207, 208, 209, 210, 211, 66, 112, 72, 73, 74, 21, 1, 213, 214, 215, 216, 217, 218, 23, 4, 221, 25, 7, 6, 8, 10, 9, 12, 11, 14, 15, 16, 17, 18, 19, 20, 22, 24, 219, 2000110, 2000111, 2000112, 2000113, 2000114, 2000115, 2000116, 2000117, 2000118, 2000119, 2000120, 2000121, 2000122, 2000123, 2000124, 2000125, 2000126, 2000127, 154, 146, 148, 118, 119, 120, 121, 122, 124, 123, 2000138, 152, 153, 150, 149, 147, 151, 2000145, 75, 2000147, 2000148, 2000149, 2000150, 2000151, 2000152, 2000153, 2000154, 2000155, 2000156, 2000157, 2000158, 2000159, 2000160, 2000161, 2000162, 2000163, 2000164, 2000165, 2000166, 2000167]
def gnL : List Nat := [1000000, 2, 3, 1000003, 0, 1000005, 1]
def gkL : List Nat := [4, 6, 1, 2]
def E : Env := { ty := fun k => tyL.getD k 3000000, tk := fun t => tkL.getD t 3000000, fn := fun k => fnL.getD k 3000000, fk := fun f => fkL.getD f 3000000, gn := fun k => gnL.getD k 3000000, gk := fun g => gkL.getD g 3000000, gl := fun g => if g = 4 then some [.val (.iface 141 (.agg #[.pointer (some ⟨4, 26, none⟩)]))] else if g = 6 then some [.val (.int .i64 (default : Mx).v)] else none }
theorem b_keep_GateTidy (a0 a1 a2 a3 : AV) (H : AH) (R : Kt) : bodyW E Tryz.prog Tryz.f3 (.seq none .leaf (.seq none (.seq none .leaf (.two (.seq none .leaf .leaf) .leaf)) (.seq none .leaf (.seq none .leaf (.seq none (.seq none .leaf (.two (.seq none .leaf .leaf) .leaf)) (.seq none (.seq none .leaf (.two (.seq none .leaf .leaf) .leaf)) (.seq none .leaf (.seq none .leaf (.seq none .leaf (.seq none .leaf .leaf)))))))))) [a0, a1, a2, a3] H R = F.keep_GateTidy E Tryz.prog a0 a1 a2 a3 H R := by kernel_rfl
theorem b_expr_Parse (a0 : AV) (H : AH) (R : Kt) : bodyW E Tryz.prog Tryz.f4 (.seq none .leaf (.seq none (.seq none .leaf (.two (.seq none .leaf .leaf) .leaf)) (.seq none .leaf (.seq none .leaf (.seq none (.seq none .leaf (.two (.seq none .leaf .leaf) .leaf)) (.seq none (.seq none .leaf (.seq none .leaf (.two (.seq none .leaf .leaf) .leaf))) (.seq none .leaf .leaf))))))) [a0] H R = F.expr_Parse E Tryz.prog a0 H R := by kernel_rfl
theorem b_keep_gated (H : AH) (R : Kt) : bodyW E Tryz.prog Tryz.f5 (.seq none .leaf (.seq none .leaf (.seq none .leaf (.seq none .leaf (.seq none (.seq none .leaf (.two (.seq none .leaf .leaf) .leaf)) (.seq none .leaf (.seq none .leaf (.seq none .leaf .leaf)))))))) [] H R = F.keep_gated E Tryz.prog H R := by kernel_rfl
theorem b_expr_Names (a0 : AV) (H : AH) (R : Kt) : bodyW E Tryz.prog Tryz.f6 (.seq none .leaf (.seq none .leaf .leaf)) [a0] H R = F.expr_Names E Tryz.prog a0 H R := by kernel_rfl
theorem b_expr_Edges (a0 : AV) (H : AH) (R : Kt) : bodyW E Tryz.prog Tryz.f7 (.seq none .leaf (.seq none .leaf .leaf)) [a0] H R = F.expr_Edges E Tryz.prog a0 H R := by kernel_rfl
theorem b_expr_Size (a0 : AV) (H : AH) (R : Kt) : bodyW E Tryz.prog Tryz.f8 (.seq none .leaf (.seq none .leaf (.seq none .leaf (.seq none .leaf .leaf)))) [a0] H R = F.expr_Size E Tryz.prog a0 H R := by kernel_rfl
theorem b_gate_Same (a0 a1 : AV) (H : AH) (R : Kt) : bodyW E Tryz.prog Tryz.f9 (.seq none .leaf (.seq none (.seq none .leaf (.two (.seq none .leaf .leaf) .leaf)) (.seq none .leaf (.seq none .leaf (.seq none (.seq none .leaf (.two (.seq none .leaf .leaf) .leaf)) (.seq none .leaf (.seq none .leaf (.seq none (.seq none .leaf (.one (.seq none .leaf (.two (.seq none .leaf .leaf) (.seq none .leaf (.two (.seq none .leaf .leaf) .leaf)))))) (.seq none .leaf .leaf))))))))) [a0, a1] H R = F.gate_Same E Tryz.prog a0 a1 H R := by kernel_rfl
theorem b_expr_Tidy (a0 : AV) (H : AH) (R : Kt) : bodyW E Tryz.prog Tryz.f10 (.seq none .leaf (.seq none (.seq none .leaf (.one (.seq none .leaf (.two (.seq none .leaf (.seq none .leaf (.one (.seq none .leaf (.two (.seq none .leaf (.seq none .leaf .leaf)) (.seq none .leaf (.two (.seq none .leaf (.seq none .leaf .leaf)) (.seq none .leaf (.seq none .leaf .leaf))))))))) (.seq none .leaf (.two (.seq none .leaf (.seq none .leaf (.seq none (.one (.seq none .leaf (.two (.seq none .leaf .leaf) (.seq none .leaf (.two (.seq none .leaf .leaf) (.seq none .leaf (.two (.seq none .leaf .leaf) .leaf))))))) (.seq none .leaf .leaf)))) (.seq none .leaf (.two (.seq none .leaf (.seq none .leaf (.seq none (.one (.seq none .leaf (.two (.seq none .leaf .leaf) (.seq none .leaf (.two (.seq none .leaf .leaf) (.seq none .leaf (.two (.seq none .leaf .leaf) .leaf))))))) (.seq none .leaf .leaf)))) .leaf)))))))) (.seq none .leaf .leaf))) [a0] H R = F.expr_Tidy E Tryz.prog a0 H R := by kernel_rfl
theorem b_expr_Eval (a0 a1 a2 : AV) (H : AH) (R : Kt) : bodyW E Tryz.prog Tryz.f11 (.seq none .leaf (.seq none (.seq none .leaf (.one (.seq none .leaf (.two (.seq none .leaf (.seq none .leaf .leaf)) (.seq none .leaf (.two (.seq none .leaf (.seq none .leaf .leaf)) (.seq none .leaf (.two (.seq none .leaf (.seq none .leaf .leaf)) (.seq none .leaf (.two (.seq none .leaf (.seq none .leaf .leaf)) (.seq none .leaf (.two (.seq none .leaf (.seq none .leaf .leaf)) (.seq none .leaf (.two (.seq none .leaf (.seq none .leaf .leaf)) (.seq none .leaf (.two (.seq none .leaf (.seq none .leaf .leaf)) .leaf)))))))))))))))) (.seq none .leaf .leaf))) [a0, a1, a2] H R = F.expr_Eval E Tryz.prog a0 a1 a2 H R := by kernel_rfl
theorem b_keep_among (a0 : AV) (H : AH) (R : Kt) : bodyW E Tryz.prog Tryz.f12 (.seq none .leaf (.seq none .leaf .leaf)) [a0] H R = F.keep_among E Tryz.prog a0 H R := by kernel_rfl
theorem b_pexpr_reader_or (a0 a1 : AV) (H : AH) (R : Kt) : bodyW E Tryz.prog Tryz.f13 (.seq none .leaf (.seq none .leaf (.seq none (.seq none .leaf (.two (.seq none .leaf .leaf) .leaf)) (.seq none (.seq none .leaf (.two (.seq none .leaf .leaf) .leaf)) (.seq none .leaf .leaf))))) [a0, a1] H R = F.pexpr_reader_or E Tryz.prog a0 a1 H R := by kernel_rfl
theorem b_pexpr_reader_blanks (a0 : AV) (H : AH) (R : Kt) : bodyW E Tryz.prog Tryz.f14 (.one (.loop [] (.seq none (.seq none .draw (.two .leaf .leaf)) (.one .leaf)))) [a0] H R = F.pexpr_reader_blanks E Tryz.prog a0 H R := by kernel_rfl
theorem b_pexpr_reader_fail (a0 a1 : AV) (H : AH) (R : Kt) : bodyW E Tryz.prog Tryz.f15 (.seq none .leaf (.seq none .leaf (.seq none .leaf .leaf))) [a0, a1] H R = F.pexpr_reader_fail E Tryz.prog a0 a1 H R := by kernel_rfl
theorem b_expr_sorted (a0 a1 : AV) (H : AH) (R : Kt) : bodyW E Tryz.prog Tryz.f16 (.seq none .leaf (.seq none .leaf (.seq none .leaf (.seq none .leaf (.seq none .leaf .leaf))))) [a0, a1] H R = F.expr_sorted E Tryz.prog a0 a1 H R := by kernel_rfl
theorem b_expr_Names_c1 (a0 : AV) (H : AH) (R : Kt) : bodyW E Tryz.prog Tryz.f17 (.seq none .leaf (.seq none (.seq none .leaf (.one (.seq none .leaf (.two (.seq none .leaf (.seq none .leaf .leaf)) (.seq none .leaf (.two (.seq none .leaf (.seq none .leaf .leaf)) (.seq none .leaf (.two (.seq none .leaf (.seq none .leaf .leaf)) .leaf)))))))) (.seq none .leaf .leaf))) [a0] H R = F.expr_Names_c1 E Tryz.prog a0 H R := by kernel_rfl
theorem b_expr_Edges_c1 (a0 : AV) (H : AH) (R : Kt) : bodyW E Tryz.prog Tryz.f18 (.seq none .leaf (.seq none (.seq none .leaf (.one (.seq none .leaf (.two (.seq none .leaf (.seq none .leaf .leaf)) (.seq none .leaf (.two (.seq none .leaf (.seq none .leaf .leaf)) .leaf)))))) (.seq none .leaf .leaf))) [a0] H R = F.expr_Edges_c1 E Tryz.prog a0 H R := by kernel_rfl
theorem b_expr_walk (a0 a1 : AV) (H : AH) (R : Kt) : bodyW E Tryz.prog Tryz.f19 (.seq none .leaf (.seq none .leaf (.one (.seq none .leaf (.two (.seq none .leaf .leaf) (.seq none .leaf (.two (.seq none .leaf (.seq none .leaf (.one (.loop [27] (.seq none .leaf (.seq none (.two .leaf .leaf) (.seq none (.one (.seq none .leaf .leaf)) .leaf))))))) (.seq none .leaf (.two (.seq none .leaf (.seq none .leaf (.one (.loop [40] (.seq none .leaf (.seq none (.two .leaf .leaf) (.seq none (.one (.seq none .leaf .leaf)) .leaf))))))) .leaf))))))))) [a0, a1] H R = F.expr_walk E Tryz.prog a0 a1 H R := by kernel_rfl
theorem b_expr_Size_c1 (a0 a1 : AV) (H : AH) (R : Kt) : bodyW E Tryz.prog Tryz.f20 .leaf [a0, a1] H R = F.expr_Size_c1 E Tryz.prog a0 a1 H R := by kernel_rfl
theorem b_gate_Of (a0 : AV) (H : AH) (R : Kt) : bodyW E Tryz.prog Tryz.f21 (.seq none .leaf (.seq none (.seq none .leaf (.two (.seq none .leaf .leaf) .leaf)) (.seq none (.seq none .leaf (.two (.seq none .leaf .leaf) .leaf)) (.seq none .leaf (.seq none (.seq none .leaf (.one (.loop [26] (.seq none .leaf (.seq none (.two .leaf .leaf) (.seq none (.one (.seq none .leaf .draw)) .leaf)))))) (.seq none (.seq none .leaf (.one (.loop [41] (.seq none .leaf (.seq none (.two .leaf .leaf) (.seq none (.one (.seq none .leaf .draw)) .leaf)))))) (.seq none .leaf (.seq none .leaf .leaf)))))))) [a0] H R = F.gate_Of E Tryz.prog a0 H R := by kernel_rfl
theorem b_gate_Solve (a0 : AV) (H : AH) (R : Kt) : bodyW E Tryz.prog Tryz.f22 (.seq none .leaf (.seq none (.seq none .leaf (.seq none .leaf (.two (.seq none .leaf .leaf) .leaf))) (.seq none .draw (.seq none .leaf (.seq none (.one (.seq none .leaf (.two (.seq none .leaf .leaf) (.seq none .leaf (.two (.seq none .leaf .leaf) .leaf))))) (.seq none .leaf (.seq none (.seq none .leaf (.one (.loop [8, 42] (.seq none .leaf (.seq none (.two .leaf .leaf) (.seq none (.one (.seq none .leaf .leaf)) .leaf)))))) (.seq none .leaf .leaf)))))))) [a0] H R = F.gate_Solve E Tryz.prog a0 H R := by kernel_rfl
theorem b_expr_parts (a0 a1 : AV) (H : AH) (R : Kt) : bodyW E Tryz.prog Tryz.f24 (.seq none .leaf (.seq none .leaf (.seq none .leaf (.seq none .leaf (.seq none (.seq none .leaf (.one (.loop [19] (.seq none .leaf (.seq none (.two .leaf .leaf) (.seq none (.one (.seq none .leaf (.seq none .leaf (.seq (some [11]) (.seq none .leaf (.one (.seq none .leaf (.two (.seq none .leaf (.seq none .leaf (.two (.seq none .leaf .leaf) .leaf))) (.seq none .leaf (.two (.seq none .leaf (.seq none .leaf (.seq none .leaf (.two .leaf .leaf)))) (.seq none .leaf (.two (.seq none .leaf (.seq none .leaf (.seq none .leaf (.two .leaf .leaf)))) (.seq none .leaf .leaf))))))))) (.seq none .leaf (.two (.seq none .leaf .leaf) .leaf)))))) .leaf)))))) (.seq none .leaf .leaf)))))) [a0, a1] H R = F.expr_parts E Tryz.prog a0 a1 H R := by kernel_rfl
theorem b_slices_ContainsFunc_expr_And_expr_Expr (a0 a1 : AV) (H : AH) (R : Kt) : bodyW E Tryz.prog Tryz.f25 (.seq none .leaf (.seq none .leaf .leaf)) [a0, a1] H R = F.slices_ContainsFunc_expr_And_expr_Expr E Tryz.prog a0 a1 H R := by kernel_rfl
theorem b_expr_Eval_c1 (a0 a1 a2 : AV) (H : AH) (R : Kt) : bodyW E Tryz.prog Tryz.f26 (.seq none .leaf (.seq none .leaf .leaf)) [a0, a1, a2] H R = F.expr_Eval_c1 E Tryz.prog a0 a1 a2 H R := by kernel_rfl
theorem b_slices_ContainsFunc_expr_Or_expr_Expr (a0 a1 : AV) (H : AH) (R : Kt) : bodyW E Tryz.prog Tryz.f27 (.seq none .leaf (.seq none .leaf .leaf)) [a0, a1] H R = F.slices_ContainsFunc_expr_Or_expr_Expr E Tryz.prog a0 a1 H R := by kernel_rfl
theorem b_expr_Eval_c2 (a0 a1 a2 : AV) (H : AH) (R : Kt) : bodyW E Tryz.prog Tryz.f28 (.seq none .leaf (.seq none .leaf .leaf)) [a0, a1, a2] H R = F.expr_Eval_c2 E Tryz.prog a0 a1 a2 H R := by kernel_rfl
theorem b_keep_among_c1 (a0 a1 : AV) (H : AH) (R : Kt) : bodyW E Tryz.prog Tryz.f29 (.seq none .leaf (.seq none (.seq none .leaf (.one (.loop [4] (.seq none (.seq none .leaf (.two .leaf .leaf)) (.seq none (.one (.seq none .leaf (.two (.seq none .leaf .leaf) .leaf))) .leaf))))) (.seq none .leaf .leaf))) [a0, a1] H R = F.keep_among_c1 E Tryz.prog a0 a1 H R := by kernel_rfl
theorem b_pexpr_reader_several (a0 a1 a2 a3 : AV) (H : AH) (R : Kt) : bodyW E Tryz.prog Tryz.f30 (.seq none .leaf (.seq none .leaf (.one (.loop [10] (.one (.seq none .leaf (.seq none (.seq none .leaf (.two (.seq none .leaf .leaf) .leaf)) (.seq none .leaf (.seq none .leaf (.two (.seq none .leaf .leaf) .leaf)))))))))) [a0, a1, a2, a3] H R = F.pexpr_reader_several E Tryz.prog a0 a1 a2 a3 H R := by kernel_rfl
theorem b_pexpr_reader_and (a0 a1 : AV) (H : AH) (R : Kt) : bodyW E Tryz.prog Tryz.f31 (.seq none .leaf (.seq none .leaf (.seq none (.seq none .leaf (.two (.seq none .leaf .leaf) .leaf)) (.seq none (.seq none .leaf (.two (.seq none .leaf .leaf) .leaf)) (.seq none .leaf .leaf))))) [a0, a1] H R = F.pexpr_reader_and E Tryz.prog a0 a1 H R := by kernel_rfl
theorem b_expr_sorted_c1 (a0 a1 a2 : AV) (H : AH) (R : Kt) : bodyW E Tryz.prog Tryz.f32 (.seq none .leaf (.seq none .leaf (.two .leaf .leaf))) [a0, a1, a2] H R = F.expr_sorted_c1 E Tryz.prog a0 a1 a2 H R := by kernel_rfl
theorem b_pgate_builder_fresh (a0 : AV) (H : AH) (R : Kt) : bodyW E Tryz.prog Tryz.f35 (.seq none .leaf (.seq none .leaf (.seq none .leaf .leaf))) [a0] H R = F.pgate_builder_fresh E Tryz.prog a0 H R := by kernel_rfl
theorem b_pgate_builder_lit (a0 a1 : AV) (H : AH) (R : Kt) : bodyW E Tryz.prog Tryz.f36 (.seq none .leaf (.seq none (.seq none .leaf (.one (.seq none .leaf (.two (.seq none .leaf (.seq none .leaf .leaf)) (.seq none .leaf (.two (.seq none .leaf (.seq none .draw .leaf)) (.seq none .leaf (.two (.seq none .leaf (.seq none .draw .leaf)) (.seq none .leaf (.two (.seq none .leaf (.seq none .leaf .leaf)) (.seq none .leaf (.two (.seq none .leaf (.seq none .leaf (.seq none (.seq none .leaf (.one (.loop [10, 83] (.seq none .leaf (.seq none (.two .leaf .leaf) (.seq none (.one (.seq none .leaf .leaf)) .leaf)))))) (.seq none .leaf .leaf)))) (.seq none .leaf (.two (.seq none .leaf (.seq none .leaf (.seq none (.seq none .leaf (.one (.loop [14, 102] (.seq none .leaf (.seq none (.two .leaf .leaf) (.seq none (.one (.seq none .leaf .leaf)) .leaf)))))) (.seq none .leaf .leaf)))) .leaf)))))))))))))) (.seq none .leaf (.seq (some []) (.seq none .leaf (.seq none .leaf (.two .leaf .leaf))) (.seq none .leaf .leaf))))) [a0, a1] H R = F.pgate_builder_lit E Tryz.prog a0 a1 H R := by kernel_rfl
theorem b_gate_Check (a0 : AV) (H : AH) (R : Kt) : bodyW E Tryz.prog Tryz.f37 (.seq none .leaf (.seq none (.seq none .leaf (.two (.seq none .leaf .leaf) .leaf)) (.seq none (.seq none .leaf (.one (.loop [23] (.seq none .leaf (.seq none (.two .leaf .leaf) (.seq none (.one (.seq none .leaf (.seq none .leaf (.two (.seq none .leaf .leaf) .leaf)))) .leaf)))))) (.seq none .leaf .leaf)))) [a0] H R = F.gate_Check E Tryz.prog a0 H R := by kernel_rfl
theorem b_pgate_solver_search (a0 : AV) (H : AH) (R : Kt) : bodyW E Tryz.prog Tryz.f38 (.seq none .leaf (.seq none (.seq none .leaf (.seq none .leaf (.two (.seq none .leaf .leaf) .leaf))) (.seq none .leaf (.seq none (.seq none .leaf (.two (.seq none .leaf (.seq none .leaf .leaf)) .leaf)) (.seq none .leaf (.seq none (.seq none .leaf (.two (.seq none .leaf .leaf) .leaf)) (.seq none (.seq none .leaf (.one (.loop [49] (.seq none .leaf (.seq none (.two .leaf .leaf) (.seq none (.one (.seq none .leaf (.seq none .leaf (.seq none .leaf (.seq none (.seq none .leaf (.seq none .leaf (.two (.seq none .leaf .leaf) .leaf))) .leaf))))) .leaf)))))) (.seq none .leaf (.seq none .leaf .leaf))))))))) [a0] H R = F.pgate_solver_search E Tryz.prog a0 H R := by kernel_rfl
theorem b_expr_parts_c1 (a0 a1 a2 : AV) (H : AH) (R : Kt) : bodyW E Tryz.prog Tryz.f40 (.seq none .leaf (.seq none .leaf (.seq none (.seq none .leaf (.two (.seq none .leaf .leaf) .leaf)) (.seq none .leaf (.seq (some [6]) (.seq none .leaf (.seq none .leaf (.two .leaf .leaf))) (.seq none (.seq none .leaf (.two (.seq none .leaf .leaf) .leaf)) (.seq (some []) .draw (.seq none .leaf .leaf)))))))) [a0, a1, a2] H R = F.expr_parts_c1 E Tryz.prog a0 a1 a2 H R := by kernel_rfl
theorem b_expr_Text (a0 : AV) (H : AH) (R : Kt) : bodyW E Tryz.prog Tryz.f41 (.seq none .leaf (.seq none (.seq none .leaf (.two (.seq none .leaf .leaf) .leaf)) (.seq none .leaf .leaf))) [a0] H R = F.expr_Text E Tryz.prog a0 H R := by kernel_rfl
theorem b_slices_Contains_Lstring_string (a0 a1 : AV) (H : AH) (R : Kt) : bodyW E Tryz.prog Tryz.f42 (.seq none .leaf (.seq none .leaf .leaf)) [a0, a1] H R = F.slices_Contains_Lstring_string E Tryz.prog a0 a1 H R := by kernel_rfl
theorem b_slices_ContainsFunc_Lexpr_Expr_expr_Expr (a0 a1 : AV) (H : AH) (R : Kt) : bodyW E Tryz.prog Tryz.f43 (.seq none .leaf (.seq none .leaf .leaf)) [a0, a1] H R = F.slices_ContainsFunc_Lexpr_Expr_expr_Expr E Tryz.prog a0 a1 H R := by kernel_rfl
theorem b_slices_IndexFunc_expr_And_expr_Expr (a0 a1 : AV) (H : AH) (R : Kt) : bodyW E Tryz.prog Tryz.f44 (.seq none .leaf (.seq none (.seq none .leaf (.one (.loop [8] (.seq none .leaf (.seq none (.two .leaf .leaf) (.seq none (.one (.seq none .leaf (.seq none .leaf (.two (.seq none .leaf .leaf) .leaf)))) .leaf)))))) (.seq none .leaf .leaf))) [a0, a1] H R = F.slices_IndexFunc_expr_And_expr_Expr E Tryz.prog a0 a1 H R := by kernel_rfl
theorem b_slices_IndexFunc_expr_Or_expr_Expr (a0 a1 : AV) (H : AH) (R : Kt) : bodyW E Tryz.prog Tryz.f45 (.seq none .leaf (.seq none (.seq none .leaf (.one (.loop [8] (.seq none .leaf (.seq none (.two .leaf .leaf) (.seq none (.one (.seq none .leaf (.seq none .leaf (.two (.seq none .leaf .leaf) .leaf)))) .leaf)))))) (.seq none .leaf .leaf))) [a0, a1] H R = F.slices_IndexFunc_expr_Or_expr_Expr E Tryz.prog a0 a1 H R := by kernel_rfl
theorem b_pexpr_reader_take (a0 a1 : AV) (H : AH) (R : Kt) : bodyW E Tryz.prog Tryz.f46 (.seq none .leaf (.seq none .leaf (.seq none (.seq none .draw (.two (.seq none .leaf (.seq none .leaf .leaf)) .leaf)) (.seq none .leaf .leaf)))) [a0, a1] H R = F.pexpr_reader_take E Tryz.prog a0 a1 H R := by kernel_rfl
theorem b_pexpr_reader_one (a0 a1 : AV) (H : AH) (R : Kt) : bodyW E Tryz.prog Tryz.f47 (.seq none .leaf (.seq none (.seq none .leaf (.two (.seq none .leaf .leaf) .leaf)) (.seq none (.one (.seq none .leaf (.two (.seq none .leaf (.seq none (.seq none .leaf (.two (.seq none .leaf .leaf) .leaf)) (.seq none .leaf .leaf))) (.seq none .leaf (.two (.seq none .leaf (.seq none (.seq none .leaf (.two (.seq none .leaf .leaf) .leaf)) (.seq none (.seq none .leaf (.two (.seq none .leaf .leaf) .leaf)) (.seq none .leaf .leaf)))) (.seq none .leaf (.two (.seq none .leaf .leaf) (.seq none .leaf (.two (.seq none .leaf .leaf) (.seq none .leaf (.two (.seq none .leaf (.seq none .leaf .leaf)) (.seq none .leaf (.two (.seq none .leaf (.seq none .leaf .leaf)) .leaf))))))))))))) (.seq none .leaf (.seq none .leaf .leaf))))) [a0, a1] H R = F.pexpr_reader_one E Tryz.prog a0 a1 H R := by kernel_rfl
theorem b_pgate_builder_and (a0 a1 : AV) (H : AH) (R : Kt) : bodyW E Tryz.prog Tryz.f50 (.seq none .leaf (.seq none .leaf (.seq none .leaf (.seq none (.seq none .leaf (.one (.loop [6, 15] (.seq none .leaf (.seq none (.two .leaf .leaf) (.seq none (.one (.seq none .leaf (.seq none .leaf .leaf))) .leaf)))))) (.seq none .leaf (.seq none .leaf .leaf)))))) [a0, a1] H R = F.pgate_builder_and E Tryz.prog a0 a1 H R := by kernel_rfl
theorem b_pgate_builder_add (a0 a1 : AV) (H : AH) (R : Kt) : bodyW E Tryz.prog Tryz.f51 .leaf [a0, a1] H R = F.pgate_builder_add E Tryz.prog a0 a1 H R := by kernel_rfl
theorem b_slices_ContainsFunc_Lint_int (a0 a1 : AV) (H : AH) (R : Kt) : bodyW E Tryz.prog Tryz.f52 (.seq none .leaf (.seq none .leaf .leaf)) [a0, a1] H R = F.slices_ContainsFunc_Lint_int E Tryz.prog a0 a1 H R := by kernel_rfl
theorem b_gate_Check_c1 (a0 a1 : AV) (H : AH) (R : Kt) : bodyW E Tryz.prog Tryz.f53 (.seq none .leaf (.seq none .leaf .leaf)) [a0, a1] H R = F.gate_Check_c1 E Tryz.prog a0 a1 H R := by kernel_rfl
theorem b_pgate_solver_spread (a0 : AV) (H : AH) (R : Kt) : bodyW E Tryz.prog Tryz.f54 (.seq none .leaf (.seq none (.seq none .leaf (.one (.loop [3] (.seq none (.seq none .leaf (.two .leaf .leaf)) (.one (.seq none .leaf (.seq none .leaf (.one (.loop [3, 18] (.seq none .leaf (.seq none (.two .leaf .leaf) (.seq (some [3]) (.one (.seq none .leaf (.seq none .leaf (.seq none (.seq none .leaf (.one (.loop [6, 7, 8, 24] (.seq none .leaf (.seq none (.two .leaf .leaf) (.seq (some [6, 7, 8]) (.one (.seq none .leaf (.seq none .leaf (.one (.seq none .leaf (.two .leaf (.seq none .leaf (.two (.seq (some [7]) (.seq none .leaf (.two .leaf .leaf)) .leaf) .leaf)))))))) .leaf)))))) (.one (.seq none .leaf (.two .leaf (.seq none .leaf (.two (.seq none .leaf .leaf) (.seq none .leaf .leaf)))))))))) .leaf)))))))))))) (.seq none .leaf .leaf))) [a0] H R = F.pgate_solver_spread E Tryz.prog a0 H R := by kernel_rfl
theorem b_pgate_solver_back (a0 a1 : AV) (H : AH) (R : Kt) : bodyW E Tryz.prog Tryz.f55 (.seq none (.seq none .leaf (.one (.loop [13] (.seq none .leaf (.seq none (.two .leaf .leaf) (.seq none (.one (.seq none .leaf .leaf)) .leaf)))))) .leaf) [a0, a1] H R = F.pgate_solver_back E Tryz.prog a0 a1 H R := by kernel_rfl
theorem b_slices_Index_Lint_int (a0 a1 : AV) (H : AH) (R : Kt) : bodyW E Tryz.prog Tryz.f56 (.seq none .leaf (.seq none (.seq none .leaf (.one (.loop [8] (.seq none .leaf (.seq none (.two .leaf .leaf) (.seq none (.one (.seq none .leaf (.seq none .leaf (.two (.seq none .leaf .leaf) .leaf)))) .leaf)))))) (.seq none .leaf .leaf))) [a0, a1] H R = F.slices_Index_Lint_int E Tryz.prog a0 a1 H R := by kernel_rfl
theorem b_pgate_solver_set (a0 a1 : AV) (H : AH) (R : Kt) : bodyW E Tryz.prog Tryz.f57 (.seq (some []) (.seq none .leaf (.two .leaf .leaf)) .leaf) [a0, a1] H R = F.pgate_solver_set E Tryz.prog a0 a1 H R := by kernel_rfl
theorem b_slices_Index_Lstring_string (a0 a1 : AV) (H : AH) (R : Kt) : bodyW E Tryz.prog Tryz.f62 (.seq none .leaf (.seq none (.seq none .leaf (.one (.loop [8] (.seq none .leaf (.seq none (.two .leaf .leaf) (.seq none (.one (.seq none .leaf (.seq none .leaf (.two (.seq none .leaf .leaf) .leaf)))) .leaf)))))) (.seq none .leaf .leaf))) [a0, a1] H R = F.slices_Index_Lstring_string E Tryz.prog a0 a1 H R := by kernel_rfl
theorem b_slices_IndexFunc_Lexpr_Expr_expr_Expr (a0 a1 : AV) (H : AH) (R : Kt) : bodyW E Tryz.prog Tryz.f63 (.seq none .leaf (.seq none (.seq none .leaf (.one (.loop [8] (.seq none .leaf (.seq none (.two .leaf .leaf) (.seq none (.one (.seq none .leaf (.seq none .leaf (.two (.seq none .leaf .leaf) .leaf)))) .leaf)))))) (.seq none .leaf .leaf))) [a0, a1] H R = F.slices_IndexFunc_Lexpr_Expr_expr_Expr E Tryz.prog a0 a1 H R := by kernel_rfl
theorem b_pexpr_reader_word (a0 : AV) (H : AH) (R : Kt) : bodyW E Tryz.prog Tryz.f64 (.seq none .leaf (.seq none .leaf (.seq none .leaf (.seq none (.one (.loop [4] (.seq none (.seq none .leaf (.two .leaf .leaf)) (.one .leaf)))) (.seq none .draw (.seq none (.seq none .leaf (.two (.seq none .leaf .leaf) .leaf)) (.seq none (.seq none .leaf (.two (.seq none .leaf .leaf) .leaf)) (.seq none .leaf (.seq none .leaf .leaf))))))))) [a0] H R = F.pexpr_reader_word E Tryz.prog a0 H R := by kernel_rfl
theorem b_slices_IndexFunc_Lint_int (a0 a1 : AV) (H : AH) (R : Kt) : bodyW E Tryz.prog Tryz.f76 (.seq none .leaf (.seq none (.seq none .leaf (.one (.loop [8] (.seq none .leaf (.seq none (.two .leaf .leaf) (.seq none (.one (.seq none .leaf (.seq none .leaf (.two (.seq none .leaf .leaf) .leaf)))) .leaf)))))) (.seq none .leaf .leaf))) [a0, a1] H R = F.slices_IndexFunc_Lint_int E Tryz.prog a0 a1 H R := by kernel_rfl
theorem b_pgate_solver_is (a0 a1 : AV) (H : AH) (R : Kt) : bodyW E Tryz.prog Tryz.f77 (.seq none .leaf (.seq none (.seq none .leaf (.two (.seq none .leaf .leaf) .leaf)) (.seq none .leaf .leaf))) [a0, a1] H R = F.pgate_solver_is E Tryz.prog a0 a1 H R := by kernel_rfl
theorem b_expr_Name (a0 : AV) (H : AH) (R : Kt) : bodyW E Tryz.prog Tryz.f82 (.seq none .leaf (.seq none .leaf .leaf)) [a0] H R = F.expr_Name E Tryz.prog a0 H R := by kernel_rfl
theorem b_strings_Trim (a0 a1 : AV) (H : AH) (R : Kt) : bodyW E Tryz.prog Tryz.f90 (.seq none .leaf (.seq none (.seq none .leaf (.two (.seq none .leaf .leaf) .leaf)) (.seq none (.seq none .leaf (.two (.seq none .draw .leaf) .leaf)) (.seq none (.seq none .leaf (.seq none .leaf (.two (.seq none .leaf .leaf) .leaf))) (.seq none .leaf .leaf))))) [a0, a1] H R = F.strings_Trim E Tryz.prog a0 a1 H R := by kernel_rfl
theorem b_strings_trimLeftByte (a0 a1 : AV) (H : AH) (R : Kt) : bodyW E Tryz.prog Tryz.f93 (.seq none .leaf (.seq none (.one (.loop [0] (.seq none (.seq none .leaf (.two .leaf .leaf)) (.one .leaf)))) (.seq none .leaf .leaf))) [a0, a1] H R = F.strings_trimLeftByte E Tryz.prog a0 a1 H R := by kernel_rfl
theorem b_strings_trimRightByte (a0 a1 : AV) (H : AH) (R : Kt) : bodyW E Tryz.prog Tryz.f94 (.seq none .leaf (.seq none (.one (.loop [0] (.seq none (.seq none .leaf (.two .leaf .leaf)) (.one .leaf)))) (.seq none .leaf .leaf))) [a0, a1] H R = F.strings_trimRightByte E Tryz.prog a0 a1 H R := by kernel_rfl
theorem b_strings_makeASCIISet (a0 : AV) (H : AH) (R : Kt) : bodyW E Tryz.prog Tryz.f95 (.seq none .leaf (.seq none (.seq none .leaf (.one (.loop [4] (.seq none (.seq none .leaf (.two .leaf .leaf)) (.seq none (.one (.seq none .leaf (.seq none (.seq none .leaf (.two (.seq none .leaf .leaf) .leaf)) .leaf))) .leaf))))) (.seq none .leaf .leaf))) [a0] H R = F.strings_makeASCIISet E Tryz.prog a0 H R := by kernel_rfl
theorem b_strings_trimLeftASCII (a0 a1 : AV) (H : AH) (R : Kt) : bodyW E Tryz.prog Tryz.f96 (.seq none .leaf (.seq (some [0]) (.one (.loop [0] (.seq none (.seq none .leaf (.two .leaf .leaf)) (.one (.seq none (.seq none .leaf (.two .leaf .leaf)) .leaf))))) (.seq none .leaf .leaf))) [a0, a1] H R = F.strings_trimLeftASCII E Tryz.prog a0 a1 H R := by kernel_rfl
theorem b_strings_trimRightASCII (a0 a1 : AV) (H : AH) (R : Kt) : bodyW E Tryz.prog Tryz.f97 (.seq none .leaf (.seq (some [0]) (.one (.loop [0] (.seq none (.seq none .leaf (.two .leaf .leaf)) (.one (.seq none (.seq none .leaf (.two .leaf .leaf)) .leaf))))) (.seq none .leaf .leaf))) [a0, a1] H R = F.strings_trimRightASCII E Tryz.prog a0 a1 H R := by kernel_rfl
theorem b_pstrings_asciiSet_contains (a0 a1 : AV) (H : AH) (R : Kt) : bodyW E Tryz.prog Tryz.f100 (.seq none .leaf (.seq none .leaf .leaf)) [a0, a1] H R = F.pstrings_asciiSet_contains E Tryz.prog a0 a1 H R := by kernel_rfl
theorem b_strings_ContainsRune (a0 a1 : AV) (H : AH) (R : Kt) : bodyW E Tryz.prog Tryz.f102 (.seq none .leaf (.seq none .leaf .leaf)) [a0, a1] H R = F.strings_ContainsRune E Tryz.prog a0 a1 H R := by kernel_rfl
theorem b_strings_IndexRune_ScV11 (a0 a1 : AV) (H : AH) (R : Kt) : bodyW E Tryz.prog Tryz.f105 (.seq none .leaf (.one (.seq none .leaf (.two (.seq none .leaf .leaf) (.seq none .leaf (.two (.seq none (.seq none .leaf (.one (.loop [] (.seq none .leaf (.seq none (.two .leaf .leaf) (.one (.seq none .leaf (.seq none .leaf (.two (.seq none .leaf .leaf) .leaf))))))))) (.seq none .leaf .leaf)) (.seq none .leaf (.two (.seq none .leaf .leaf) (.one (.seq none .leaf (.seq none .leaf (.seq none .leaf (.seq none .leaf (.seq none (.one (.loop [9] (.seq none (.seq none .leaf (.two .leaf .leaf)) (.one (.one (.seq (some [9]) (.seq none .draw (.two (.seq none .draw (.seq none (.seq none .leaf (.two (.seq none .leaf .leaf) .leaf)) .leaf)) .leaf)) (.seq none (.seq none .leaf (.one (.loop [12] (.seq none (.seq none .leaf (.two .leaf .leaf)) (.seq none (.one (.seq none .draw (.two .leaf .leaf))) .leaf))))) (.seq none (.seq none .leaf .leaf) (.seq none .leaf (.seq none .leaf (.seq none .leaf (.seq none .leaf (.two .leaf .leaf))))))))))))) (.seq none (.seq none .leaf .leaf) (.seq none .leaf (.seq none (.two (.seq none .leaf (.seq none .leaf (.two (.seq none .leaf .leaf) .leaf))) (.one (.seq none .leaf (.seq none .leaf (.seq none .leaf (.one (.loop [] (.seq none (.seq none .leaf (.two .leaf .leaf)) (.seq none (.one (.seq none .leaf (.two (.seq none (.seq none .leaf (.one (.loop [] (.seq none (.seq none .leaf (.two .leaf .leaf)) (.seq none (.one (.seq none .leaf (.two .leaf .leaf))) .leaf))))) (.seq none .leaf .leaf)) .leaf))) .leaf))))))))) (.seq none .leaf .leaf)))))))))))))))))) [a0, a1] H R = F.strings_IndexRune_ScV11 E Tryz.prog a0 a1 H R := by kernel_rfl
theorem b_unicode_utf8_ValidRune (a0 : AV) (H : AH) (R : Kt) : bodyW E Tryz.prog Tryz.f107 (.seq none .leaf (.seq none (.one (.seq none .leaf (.two (.seq none .leaf .leaf) (.seq none .leaf (.two (.seq none .leaf .leaf) .leaf))))) (.seq none .leaf .leaf))) [a0] H R = F.unicode_utf8_ValidRune E Tryz.prog a0 H R := by kernel_rfl
theorem b_expr_Bit_Text (a0 : AV) (H : AH) (R : Kt) : bodyW E Tryz.prog Tryz.f128 (.seq none .leaf (.seq none .leaf .leaf)) [a0] H R = F.expr_Bit_Text E Tryz.prog a0 H R := by kernel_rfl
theorem b_expr_write (a0 a1 : AV) (H : AH) (R : Kt) : bodyW E Tryz.prog Tryz.f129 (.seq none .leaf (.seq none (.seq none .leaf (.one (.seq none .leaf (.two (.seq none .leaf (.seq none (.seq none .leaf (.two (.seq none .leaf .leaf) .leaf)) (.seq none .leaf .leaf))) (.seq none .leaf (.two (.seq none .leaf (.seq none .leaf .leaf)) (.seq none .leaf (.two (.seq none .leaf (.seq none .leaf .leaf)) (.seq none .leaf (.two (.seq none .leaf (.seq none .leaf .leaf)) (.seq none .leaf (.two (.seq none .leaf (.seq none .leaf .leaf)) (.seq none .leaf (.two (.seq none .leaf (.seq none .leaf .leaf)) (.seq none .leaf (.two (.seq none .leaf (.seq none .leaf .leaf)) .leaf)))))))))))))))) (.seq none .leaf .leaf))) [a0, a1] H R = F.expr_write E Tryz.prog a0 a1 H R := by kernel_rfl
theorem b_expr_join (a0 a1 a2 a3 : AV) (H : AH) (R : Kt) : bodyW E Tryz.prog Tryz.f130 (.seq none .leaf (.seq none .leaf (.seq none (.seq none .leaf (.one (.loop [9, 14] (.seq none .leaf (.seq none (.two .leaf .leaf) (.seq none (.one (.seq none .leaf .leaf)) .leaf)))))) (.seq none (.seq none .leaf (.two (.seq none .leaf .leaf) .leaf)) (.seq none .leaf .leaf))))) [a0, a1, a2, a3] H R = F.expr_join E Tryz.prog a0 a1 a2 a3 H R := by kernel_rfl
theorem b_expr_Rise_Text (a0 : AV) (H : AH) (R : Kt) : bodyW E Tryz.prog Tryz.f139 (.seq none .leaf (.seq none .leaf .leaf)) [a0] H R = F.expr_Rise_Text E Tryz.prog a0 H R := by kernel_rfl
theorem b_expr_Fall_Text (a0 : AV) (H : AH) (R : Kt) : bodyW E Tryz.prog Tryz.f140 (.seq none .leaf (.seq none .leaf .leaf)) [a0] H R = F.expr_Fall_Text E Tryz.prog a0 H R := by kernel_rfl
theorem b_expr_Not_Text (a0 : AV) (H : AH) (R : Kt) : bodyW E Tryz.prog Tryz.f141 (.seq none .leaf (.seq none .leaf .leaf)) [a0] H R = F.expr_Not_Text E Tryz.prog a0 H R := by kernel_rfl
theorem b_expr_And_Text (a0 : AV) (H : AH) (R : Kt) : bodyW E Tryz.prog Tryz.f142 (.seq none .leaf (.seq none .leaf .leaf)) [a0] H R = F.expr_And_Text E Tryz.prog a0 H R := by kernel_rfl
theorem b_expr_Or_Text (a0 : AV) (H : AH) (R : Kt) : bodyW E Tryz.prog Tryz.f143 (.seq none .leaf (.seq none .leaf .leaf)) [a0] H R = F.expr_Or_Text E Tryz.prog a0 H R := by kernel_rfl
theorem b_expr_Const_Text (a0 : AV) (H : AH) (R : Kt) : bodyW E Tryz.prog Tryz.f144 (.seq none .leaf (.seq none .leaf .leaf)) [a0] H R = F.expr_Const_Text E Tryz.prog a0 H R := by kernel_rfl
theorem c_expr_Parse (a0 : AV) (H : AH) (R : Kt) (h : F.expr_Parse E Tryz.prog a0 H R) : ACalls E Tryz.prog 126 [a0] H R :=
  acalls_of_body (show Tryz.prog.funcs[E.fn 126]? = some Tryz.f4 from Tryz.func4) (by kernel_rfl) ((b_expr_Parse a0 H R).mpr h)
theorem c_keep_gated (H : AH) (R : Kt) (h : F.keep_gated E Tryz.prog H R) : ACalls E Tryz.prog 230 [] H R :=
  acalls_of_body (show Tryz.prog.funcs[E.fn 230]? = some Tryz.f5 from Tryz.func5) (by kernel_rfl) ((b_keep_gated H R).mpr h)
theorem c_expr_Names (a0 : AV) (H : AH) (R : Kt) (h : F.expr_Names E Tryz.prog a0 H R) : ACalls E Tryz.prog 181 [a0] H R :=
  acalls_of_body (show Tryz.prog.funcs[E.fn 181]? = some Tryz.f6 from Tryz.func6) (by kernel_rfl) ((b_expr_Names a0 H R).mpr h)
theorem c_expr_Edges (a0 : AV) (H : AH) (R : Kt) (h : F.expr_Edges E Tryz.prog a0 H R) : ACalls E Tryz.prog 184 [a0] H R :=
  acalls_of_body (show Tryz.prog.funcs[E.fn 184]? = some Tryz.f7 from Tryz.func7) (by kernel_rfl) ((b_expr_Edges a0 H R).mpr h)
theorem c_expr_Size (a0 : AV) (H : AH) (R : Kt) (h : F.expr_Size E Tryz.prog a0 H R) : ACalls E Tryz.prog 156 [a0] H R :=
  acalls_of_body (show Tryz.prog.funcs[E.fn 156]? = some Tryz.f8 from Tryz.func8) (by kernel_rfl) ((b_expr_Size a0 H R).mpr h)
theorem c_gate_Same (a0 a1 : AV) (H : AH) (R : Kt) (h : F.gate_Same E Tryz.prog a0 a1 H R) : ACalls E Tryz.prog 231 [a0, a1] H R :=
  acalls_of_body (show Tryz.prog.funcs[E.fn 231]? = some Tryz.f9 from Tryz.func9) (by kernel_rfl) ((b_gate_Same a0 a1 H R).mpr h)
theorem c_expr_Tidy (a0 : AV) (H : AH) (R : Kt) (h : F.expr_Tidy E Tryz.prog a0 H R) : ACalls E Tryz.prog 170 [a0] H R :=
  acalls_of_body (show Tryz.prog.funcs[E.fn 170]? = some Tryz.f10 from Tryz.func10) (by kernel_rfl) ((b_expr_Tidy a0 H R).mpr h)
theorem c_expr_Eval (a0 a1 a2 : AV) (H : AH) (R : Kt) (h : F.expr_Eval E Tryz.prog a0 a1 a2 H R) : ACalls E Tryz.prog 158 [a0, a1, a2] H R :=
  acalls_of_body (show Tryz.prog.funcs[E.fn 158]? = some Tryz.f11 from Tryz.func11) (by kernel_rfl) ((b_expr_Eval a0 a1 a2 H R).mpr h)
theorem c_keep_among (a0 : AV) (H : AH) (R : Kt) (h : F.keep_among E Tryz.prog a0 H R) : ACalls E Tryz.prog 157 [a0] H R :=
  acalls_of_body (show Tryz.prog.funcs[E.fn 157]? = some Tryz.f12 from Tryz.func12) (by kernel_rfl) ((b_keep_among a0 H R).mpr h)
theorem c_pexpr_reader_or (a0 a1 : AV) (H : AH) (R : Kt) (h : F.pexpr_reader_or E Tryz.prog a0 a1 H R) : ACalls E Tryz.prog 133 [a0, a1] H R :=
  acalls_of_body (show Tryz.prog.funcs[E.fn 133]? = some Tryz.f13 from Tryz.func13) (by kernel_rfl) ((b_pexpr_reader_or a0 a1 H R).mpr h)
theorem c_pexpr_reader_blanks (a0 : AV) (H : AH) (R : Kt) (h : F.pexpr_reader_blanks E Tryz.prog a0 H R) : ACalls E Tryz.prog 134 [a0] H R :=
  acalls_of_body (show Tryz.prog.funcs[E.fn 134]? = some Tryz.f14 from Tryz.func14) (by kernel_rfl) ((b_pexpr_reader_blanks a0 H R).mpr h)
theorem c_pexpr_reader_fail (a0 a1 : AV) (H : AH) (R : Kt) (h : F.pexpr_reader_fail E Tryz.prog a0 a1 H R) : ACalls E Tryz.prog 135 [a0, a1] H R :=
  acalls_of_body (show Tryz.prog.funcs[E.fn 135]? = some Tryz.f15 from Tryz.func15) (by kernel_rfl) ((b_pexpr_reader_fail a0 a1 H R).mpr h)
theorem c_expr_sorted (a0 a1 : AV) (H : AH) (R : Kt) (h : F.expr_sorted E Tryz.prog a0 a1 H R) : ACalls E Tryz.prog 190 [a0, a1] H R :=
  acalls_of_body (show Tryz.prog.funcs[E.fn 190]? = some Tryz.f16 from Tryz.func16) (by kernel_rfl) ((b_expr_sorted a0 a1 H R).mpr h)
theorem c_expr_Names_c1 (a0 : AV) (H : AH) (R : Kt) (h : F.expr_Names_c1 E Tryz.prog a0 H R) : ACalls E Tryz.prog 189 [a0] H R :=
  acalls_of_body (show Tryz.prog.funcs[E.fn 189]? = some Tryz.f17 from Tryz.func17) (by kernel_rfl) ((b_expr_Names_c1 a0 H R).mpr h)
theorem c_expr_Edges_c1 (a0 : AV) (H : AH) (R : Kt) (h : F.expr_Edges_c1 E Tryz.prog a0 H R) : ACalls E Tryz.prog 192 [a0] H R :=
  acalls_of_body (show Tryz.prog.funcs[E.fn 192]? = some Tryz.f18 from Tryz.func18) (by kernel_rfl) ((b_expr_Edges_c1 a0 H R).mpr h)
theorem c_expr_walk (a0 a1 : AV) (H : AH) (R : Kt) (h : F.expr_walk E Tryz.prog a0 a1 H R) : ACalls E Tryz.prog 161 [a0, a1] H R :=
  acalls_of_body (show Tryz.prog.funcs[E.fn 161]? = some Tryz.f19 from Tryz.func19) (by kernel_rfl) ((b_expr_walk a0 a1 H R).mpr h)
theorem c_expr_Size_c1 (a0 a1 : AV) (H : AH) (R : Kt) (h : F.expr_Size_c1 E Tryz.prog a0 a1 H R) : ACalls E Tryz.prog 160 [a0, a1] H R :=
  acalls_of_body (show Tryz.prog.funcs[E.fn 160]? = some Tryz.f20 from Tryz.func20) (by kernel_rfl) ((b_expr_Size_c1 a0 a1 H R).mpr h)
theorem c_gate_Of (a0 : AV) (H : AH) (R : Kt) (h : F.gate_Of E Tryz.prog a0 H R) : ACalls E Tryz.prog 233 [a0] H R :=
  acalls_of_body (show Tryz.prog.funcs[E.fn 233]? = some Tryz.f21 from Tryz.func21) (by kernel_rfl) ((b_gate_Of a0 H R).mpr h)
theorem c_gate_Solve (a0 : AV) (H : AH) (R : Kt) (h : F.gate_Solve E Tryz.prog a0 H R) : ACalls E Tryz.prog 100 [a0] H R :=
  acalls_of_body (show Tryz.prog.funcs[E.fn 100]? = some Tryz.f22 from Tryz.func22) (by kernel_rfl) ((b_gate_Solve a0 H R).mpr h)
theorem c_expr_parts (a0 a1 : AV) (H : AH) (R : Kt) (h : F.expr_parts E Tryz.prog a0 a1 H R) : ACalls E Tryz.prog 173 [a0, a1] H R :=
  acalls_of_body (show Tryz.prog.funcs[E.fn 173]? = some Tryz.f24 from Tryz.func24) (by kernel_rfl) ((b_expr_parts a0 a1 H R).mpr h)
theorem c_slices_ContainsFunc_expr_And_expr_Expr (a0 a1 : AV) (H : AH) (R : Kt) (h : F.slices_ContainsFunc_expr_And_expr_Expr E Tryz.prog a0 a1 H R) : ACalls E Tryz.prog 163 [a0, a1] H R :=
  acalls_of_body (show Tryz.prog.funcs[E.fn 163]? = some Tryz.f25 from Tryz.func25) (by kernel_rfl) ((b_slices_ContainsFunc_expr_And_expr_Expr a0 a1 H R).mpr h)
theorem c_expr_Eval_c1 (a0 a1 a2 : AV) (H : AH) (R : Kt) (h : F.expr_Eval_c1 E Tryz.prog a0 a1 a2 H R) : ACalls E Tryz.prog 162 [a0, a1, a2] H R :=
  acalls_of_body (show Tryz.prog.funcs[E.fn 162]? = some Tryz.f26 from Tryz.func26) (by kernel_rfl) ((b_expr_Eval_c1 a0 a1 a2 H R).mpr h)
theorem c_slices_ContainsFunc_expr_Or_expr_Expr (a0 a1 : AV) (H : AH) (R : Kt) (h : F.slices_ContainsFunc_expr_Or_expr_Expr E Tryz.prog a0 a1 H R) : ACalls E Tryz.prog 165 [a0, a1] H R :=
  acalls_of_body (show Tryz.prog.funcs[E.fn 165]? = some Tryz.f27 from Tryz.func27) (by kernel_rfl) ((b_slices_ContainsFunc_expr_Or_expr_Expr a0 a1 H R).mpr h)
theorem c_expr_Eval_c2 (a0 a1 a2 : AV) (H : AH) (R : Kt) (h : F.expr_Eval_c2 E Tryz.prog a0 a1 a2 H R) : ACalls E Tryz.prog 164 [a0, a1, a2] H R :=
  acalls_of_body (show Tryz.prog.funcs[E.fn 164]? = some Tryz.f28 from Tryz.func28) (by kernel_rfl) ((b_expr_Eval_c2 a0 a1 a2 H R).mpr h)
theorem c_keep_among_c1 (a0 a1 : AV) (H : AH) (R : Kt) (h : F.keep_among_c1 E Tryz.prog a0 a1 H R) : ACalls E Tryz.prog 166 [a0, a1] H R :=
  acalls_of_body (show Tryz.prog.funcs[E.fn 166]? = some Tryz.f29 from Tryz.func29) (by kernel_rfl) ((b_keep_among_c1 a0 a1 H R).mpr h)
theorem c_pexpr_reader_several (a0 a1 a2 a3 : AV) (H : AH) (R : Kt) (h : F.pexpr_reader_several E Tryz.prog a0 a1 a2 a3 H R) : ACalls E Tryz.prog 140 [a0, a1, a2, a3] H R :=
  acalls_of_body (show Tryz.prog.funcs[E.fn 140]? = some Tryz.f30 from Tryz.func30) (by kernel_rfl) ((b_pexpr_reader_several a0 a1 a2 a3 H R).mpr h)
theorem c_pexpr_reader_and (a0 a1 : AV) (H : AH) (R : Kt) (h : F.pexpr_reader_and E Tryz.prog a0 a1 H R) : ACalls E Tryz.prog 139 [a0, a1] H R :=
  acalls_of_body (show Tryz.prog.funcs[E.fn 139]? = some Tryz.f31 from Tryz.func31) (by kernel_rfl) ((b_pexpr_reader_and a0 a1 H R).mpr h)
theorem c_expr_sorted_c1 (a0 a1 a2 : AV) (H : AH) (R : Kt) (h : F.expr_sorted_c1 E Tryz.prog a0 a1 a2 H R) : ACalls E Tryz.prog 193 [a0, a1, a2] H R :=
  acalls_of_body (show Tryz.prog.funcs[E.fn 193]? = some Tryz.f32 from Tryz.func32) (by kernel_rfl) ((b_expr_sorted_c1 a0 a1 a2 H R).mpr h)
theorem c_pgate_builder_fresh (a0 : AV) (H : AH) (R : Kt) (h : F.pgate_builder_fresh E Tryz.prog a0 H R) : ACalls E Tryz.prog 234 [a0] H R :=
  acalls_of_body (show Tryz.prog.funcs[E.fn 234]? = some Tryz.f35 from Tryz.func35) (by kernel_rfl) ((b_pgate_builder_fresh a0 H R).mpr h)
theorem c_pgate_builder_lit (a0 a1 : AV) (H : AH) (R : Kt) (h : F.pgate_builder_lit E Tryz.prog a0 a1 H R) : ACalls E Tryz.prog 235 [a0, a1] H R :=
  acalls_of_body (show Tryz.prog.funcs[E.fn 235]? = some Tryz.f36 from Tryz.func36) (by kernel_rfl) ((b_pgate_builder_lit a0 a1 H R).mpr h)
theorem c_gate_Check (a0 : AV) (H : AH) (R : Kt) (h : F.gate_Check E Tryz.prog a0 H R) : ACalls E Tryz.prog 101 [a0] H R :=
  acalls_of_body (show Tryz.prog.funcs[E.fn 101]? = some Tryz.f37 from Tryz.func37) (by kernel_rfl) ((b_gate_Check a0 H R).mpr h)
theorem c_pgate_solver_search (a0 : AV) (H : AH) (R : Kt) (h : F.pgate_solver_search E Tryz.prog a0 H R) : ACalls E Tryz.prog 105 [a0] H R :=
  acalls_of_body (show Tryz.prog.funcs[E.fn 105]? = some Tryz.f38 from Tryz.func38) (by kernel_rfl) ((b_pgate_solver_search a0 H R).mpr h)
theorem c_expr_parts_c1 (a0 a1 a2 : AV) (H : AH) (R : Kt) (h : F.expr_parts_c1 E Tryz.prog a0 a1 a2 H R) : ACalls E Tryz.prog 175 [a0, a1, a2] H R :=
  acalls_of_body (show Tryz.prog.funcs[E.fn 175]? = some Tryz.f40 from Tryz.func40) (by kernel_rfl) ((b_expr_parts_c1 a0 a1 a2 H R).mpr h)
theorem c_expr_Text (a0 : AV) (H : AH) (R : Kt) (h : F.expr_Text E Tryz.prog a0 H R) : ACalls E Tryz.prog 127 [a0] H R :=
  acalls_of_body (show Tryz.prog.funcs[E.fn 127]? = some Tryz.f41 from Tryz.func41) (by kernel_rfl) ((b_expr_Text a0 H R).mpr h)
theorem c_slices_Contains_Lstring_string (a0 a1 : AV) (H : AH) (R : Kt) (h : F.slices_Contains_Lstring_string E Tryz.prog a0 a1 H R) : ACalls E Tryz.prog 5 [a0, a1] H R :=
  acalls_of_body (show Tryz.prog.funcs[E.fn 5]? = some Tryz.f42 from Tryz.func42) (by kernel_rfl) ((b_slices_Contains_Lstring_string a0 a1 H R).mpr h)
theorem c_slices_ContainsFunc_Lexpr_Expr_expr_Expr (a0 a1 : AV) (H : AH) (R : Kt) (h : F.slices_ContainsFunc_Lexpr_Expr_expr_Expr E Tryz.prog a0 a1 H R) : ACalls E Tryz.prog 176 [a0, a1] H R :=
  acalls_of_body (show Tryz.prog.funcs[E.fn 176]? = some Tryz.f43 from Tryz.func43) (by kernel_rfl) ((b_slices_ContainsFunc_Lexpr_Expr_expr_Expr a0 a1 H R).mpr h)
theorem c_slices_IndexFunc_expr_And_expr_Expr (a0 a1 : AV) (H : AH) (R : Kt) (h : F.slices_IndexFunc_expr_And_expr_Expr E Tryz.prog a0 a1 H R) : ACalls E Tryz.prog 167 [a0, a1] H R :=
  acalls_of_body (show Tryz.prog.funcs[E.fn 167]? = some Tryz.f44 from Tryz.func44) (by kernel_rfl) ((b_slices_IndexFunc_expr_And_expr_Expr a0 a1 H R).mpr h)
theorem c_slices_IndexFunc_expr_Or_expr_Expr (a0 a1 : AV) (H : AH) (R : Kt) (h : F.slices_IndexFunc_expr_Or_expr_Expr E Tryz.prog a0 a1 H R) : ACalls E Tryz.prog 168 [a0, a1] H R :=
  acalls_of_body (show Tryz.prog.funcs[E.fn 168]? = some Tryz.f45 from Tryz.func45) (by kernel_rfl) ((b_slices_IndexFunc_expr_Or_expr_Expr a0 a1 H R).mpr h)
theorem c_pexpr_reader_take (a0 a1 : AV) (H : AH) (R : Kt) (h : F.pexpr_reader_take E Tryz.prog a0 a1 H R) : ACalls E Tryz.prog 143 [a0, a1] H R :=
  acalls_of_body (show Tryz.prog.funcs[E.fn 143]? = some Tryz.f46 from Tryz.func46) (by kernel_rfl) ((b_pexpr_reader_take a0 a1 H R).mpr h)
theorem c_pexpr_reader_one (a0 a1 : AV) (H : AH) (R : Kt) (h : F.pexpr_reader_one E Tryz.prog a0 a1 H R) : ACalls E Tryz.prog 144 [a0, a1] H R :=
  acalls_of_body (show Tryz.prog.funcs[E.fn 144]? = some Tryz.f47 from Tryz.func47) (by kernel_rfl) ((b_pexpr_reader_one a0 a1 H R).mpr h)
theorem c_pgate_builder_and (a0 a1 : AV) (H : AH) (R : Kt) (h : F.pgate_builder_and E Tryz.prog a0 a1 H R) : ACalls E Tryz.prog 236 [a0, a1] H R :=
  acalls_of_body (show Tryz.prog.funcs[E.fn 236]? = some Tryz.f50 from Tryz.func50) (by kernel_rfl) ((b_pgate_builder_and a0 a1 H R).mpr h)
theorem c_pgate_builder_add (a0 a1 : AV) (H : AH) (R : Kt) (h : F.pgate_builder_add E Tryz.prog a0 a1 H R) : ACalls E Tryz.prog 237 [a0, a1] H R :=
  acalls_of_body (show Tryz.prog.funcs[E.fn 237]? = some Tryz.f51 from Tryz.func51) (by kernel_rfl) ((b_pgate_builder_add a0 a1 H R).mpr h)
theorem c_slices_ContainsFunc_Lint_int (a0 a1 : AV) (H : AH) (R : Kt) (h : F.slices_ContainsFunc_Lint_int E Tryz.prog a0 a1 H R) : ACalls E Tryz.prog 59 [a0, a1] H R :=
  acalls_of_body (show Tryz.prog.funcs[E.fn 59]? = some Tryz.f52 from Tryz.func52) (by kernel_rfl) ((b_slices_ContainsFunc_Lint_int a0 a1 H R).mpr h)
theorem c_gate_Check_c1 (a0 a1 : AV) (H : AH) (R : Kt) (h : F.gate_Check_c1 E Tryz.prog a0 a1 H R) : ACalls E Tryz.prog 106 [a0, a1] H R :=
  acalls_of_body (show Tryz.prog.funcs[E.fn 106]? = some Tryz.f53 from Tryz.func53) (by kernel_rfl) ((b_gate_Check_c1 a0 a1 H R).mpr h)
theorem c_pgate_solver_spread (a0 : AV) (H : AH) (R : Kt) (h : F.pgate_solver_spread E Tryz.prog a0 H R) : ACalls E Tryz.prog 108 [a0] H R :=
  acalls_of_body (show Tryz.prog.funcs[E.fn 108]? = some Tryz.f54 from Tryz.func54) (by kernel_rfl) ((b_pgate_solver_spread a0 H R).mpr h)
theorem c_pgate_solver_back (a0 a1 : AV) (H : AH) (R : Kt) (h : F.pgate_solver_back E Tryz.prog a0 a1 H R) : ACalls E Tryz.prog 109 [a0, a1] H R :=
  acalls_of_body (show Tryz.prog.funcs[E.fn 109]? = some Tryz.f55 from Tryz.func55) (by kernel_rfl) ((b_pgate_solver_back a0 a1 H R).mpr h)
theorem c_slices_Index_Lint_int (a0 a1 : AV) (H : AH) (R : Kt) (h : F.slices_Index_Lint_int E Tryz.prog a0 a1 H R) : ACalls E Tryz.prog 110 [a0, a1] H R :=
  acalls_of_body (show Tryz.prog.funcs[E.fn 110]? = some Tryz.f56 from Tryz.func56) (by kernel_rfl) ((b_slices_Index_Lint_int a0 a1 H R).mpr h)
theorem c_pgate_solver_set (a0 a1 : AV) (H : AH) (R : Kt) (h : F.pgate_solver_set E Tryz.prog a0 a1 H R) : ACalls E Tryz.prog 111 [a0, a1] H R :=
  acalls_of_body (show Tryz.prog.funcs[E.fn 111]? = some Tryz.f57 from Tryz.func57) (by kernel_rfl) ((b_pgate_solver_set a0 a1 H R).mpr h)
theorem c_slices_Index_Lstring_string (a0 a1 : AV) (H : AH) (R : Kt) (h : F.slices_Index_Lstring_string E Tryz.prog a0 a1 H R) : ACalls E Tryz.prog 13 [a0, a1] H R :=
  acalls_of_body (show Tryz.prog.funcs[E.fn 13]? = some Tryz.f62 from Tryz.func62) (by kernel_rfl) ((b_slices_Index_Lstring_string a0 a1 H R).mpr h)
theorem c_slices_IndexFunc_Lexpr_Expr_expr_Expr (a0 a1 : AV) (H : AH) (R : Kt) (h : F.slices_IndexFunc_Lexpr_Expr_expr_Expr E Tryz.prog a0 a1 H R) : ACalls E Tryz.prog 177 [a0, a1] H R :=
  acalls_of_body (show Tryz.prog.funcs[E.fn 177]? = some Tryz.f63 from Tryz.func63) (by kernel_rfl) ((b_slices_IndexFunc_Lexpr_Expr_expr_Expr a0 a1 H R).mpr h)
theorem c_pexpr_reader_word (a0 : AV) (H : AH) (R : Kt) (h : F.pexpr_reader_word E Tryz.prog a0 H R) : ACalls E Tryz.prog 145 [a0] H R :=
  acalls_of_body (show Tryz.prog.funcs[E.fn 145]? = some Tryz.f64 from Tryz.func64) (by kernel_rfl) ((b_pexpr_reader_word a0 H R).mpr h)
theorem c_slices_IndexFunc_Lint_int (a0 a1 : AV) (H : AH) (R : Kt) (h : F.slices_IndexFunc_Lint_int E Tryz.prog a0 a1 H R) : ACalls E Tryz.prog 66 [a0, a1] H R :=
  acalls_of_body (show Tryz.prog.funcs[E.fn 66]? = some Tryz.f76 from Tryz.func76) (by kernel_rfl) ((b_slices_IndexFunc_Lint_int a0 a1 H R).mpr h)
theorem c_pgate_solver_is (a0 a1 : AV) (H : AH) (R : Kt) (h : F.pgate_solver_is E Tryz.prog a0 a1 H R) : ACalls E Tryz.prog 112 [a0, a1] H R :=
  acalls_of_body (show Tryz.prog.funcs[E.fn 112]? = some Tryz.f77 from Tryz.func77) (by kernel_rfl) ((b_pgate_solver_is a0 a1 H R).mpr h)
theorem c_expr_Name (a0 : AV) (H : AH) (R : Kt) (h : F.expr_Name E Tryz.prog a0 H R) : ACalls E Tryz.prog 1 [a0] H R :=
  acalls_of_body (show Tryz.prog.funcs[E.fn 1]? = some Tryz.f82 from Tryz.func82) (by kernel_rfl) ((b_expr_Name a0 H R).mpr h)
theorem c_strings_Trim (a0 a1 : AV) (H : AH) (R : Kt) (h : F.strings_Trim E Tryz.prog a0 a1 H R) : ACalls E Tryz.prog 4 [a0, a1] H R :=
  acalls_of_body (show Tryz.prog.funcs[E.fn 4]? = some Tryz.f90 from Tryz.func90) (by kernel_rfl) ((b_strings_Trim a0 a1 H R).mpr h)
theorem c_strings_trimLeftByte (a0 a1 : AV) (H : AH) (R : Kt) (h : F.strings_trimLeftByte E Tryz.prog a0 a1 H R) : ACalls E Tryz.prog 7 [a0, a1] H R :=
  acalls_of_body (show Tryz.prog.funcs[E.fn 7]? = some Tryz.f93 from Tryz.func93) (by kernel_rfl) ((b_strings_trimLeftByte a0 a1 H R).mpr h)
theorem c_strings_trimRightByte (a0 a1 : AV) (H : AH) (R : Kt) (h : F.strings_trimRightByte E Tryz.prog a0 a1 H R) : ACalls E Tryz.prog 6 [a0, a1] H R :=
  acalls_of_body (show Tryz.prog.funcs[E.fn 6]? = some Tryz.f94 from Tryz.func94) (by kernel_rfl) ((b_strings_trimRightByte a0 a1 H R).mpr h)
theorem c_strings_makeASCIISet (a0 : AV) (H : AH) (R : Kt) (h : F.strings_makeASCIISet E Tryz.prog a0 H R) : ACalls E Tryz.prog 8 [a0] H R :=
  acalls_of_body (show Tryz.prog.funcs[E.fn 8]? = some Tryz.f95 from Tryz.func95) (by kernel_rfl) ((b_strings_makeASCIISet a0 H R).mpr h)
theorem c_strings_trimLeftASCII (a0 a1 : AV) (H : AH) (R : Kt) (h : F.strings_trimLeftASCII E Tryz.prog a0 a1 H R) : ACalls E Tryz.prog 10 [a0, a1] H R :=
  acalls_of_body (show Tryz.prog.funcs[E.fn 10]? = some Tryz.f96 from Tryz.func96) (by kernel_rfl) ((b_strings_trimLeftASCII a0 a1 H R).mpr h)
theorem c_strings_trimRightASCII (a0 a1 : AV) (H : AH) (R : Kt) (h : F.strings_trimRightASCII E Tryz.prog a0 a1 H R) : ACalls E Tryz.prog 9 [a0, a1] H R :=
  acalls_of_body (show Tryz.prog.funcs[E.fn 9]? = some Tryz.f97 from Tryz.func97) (by kernel_rfl) ((b_strings_trimRightASCII a0 a1 H R).mpr h)
theorem c_pstrings_asciiSet_contains (a0 a1 : AV) (H : AH) (R : Kt) (h : F.pstrings_asciiSet_contains E Tryz.prog a0 a1 H R) : ACalls E Tryz.prog 14 [a0, a1] H R :=
  acalls_of_body (show Tryz.prog.funcs[E.fn 14]? = some Tryz.f100 from Tryz.func100) (by kernel_rfl) ((b_pstrings_asciiSet_contains a0 a1 H R).mpr h)
theorem c_strings_ContainsRune (a0 a1 : AV) (H : AH) (R : Kt) (h : F.strings_ContainsRune E Tryz.prog a0 a1 H R) : ACalls E Tryz.prog 16 [a0, a1] H R :=
  acalls_of_body (show Tryz.prog.funcs[E.fn 16]? = some Tryz.f102 from Tryz.func102) (by kernel_rfl) ((b_strings_ContainsRune a0 a1 H R).mpr h)
theorem c_strings_IndexRune_ScV11 (a0 a1 : AV) (H : AH) (R : Kt) (h : F.strings_IndexRune_ScV11 E Tryz.prog a0 a1 H R) : ACalls E Tryz.prog 19 [a0, a1] H R :=
  acalls_of_body (show Tryz.prog.funcs[E.fn 19]? = some Tryz.f105 from Tryz.func105) (by kernel_rfl) ((b_strings_IndexRune_ScV11 a0 a1 H R).mpr h)
theorem c_unicode_utf8_ValidRune (a0 : AV) (H : AH) (R : Kt) (h : F.unicode_utf8_ValidRune E Tryz.prog a0 H R) : ACalls E Tryz.prog 22 [a0] H R :=
  acalls_of_body (show Tryz.prog.funcs[E.fn 22]? = some Tryz.f107 from Tryz.func107) (by kernel_rfl) ((b_unicode_utf8_ValidRune a0 H R).mpr h)
theorem c_expr_Bit_Text (a0 : AV) (H : AH) (R : Kt) (h : F.expr_Bit_Text E Tryz.prog a0 H R) : ACalls E Tryz.prog 154 [a0] H R :=
  acalls_of_body (show Tryz.prog.funcs[E.fn 154]? = some Tryz.f128 from Tryz.func128) (by kernel_rfl) ((b_expr_Bit_Text a0 H R).mpr h)
theorem c_expr_write (a0 a1 : AV) (H : AH) (R : Kt) (h : F.expr_write E Tryz.prog a0 a1 H R) : ACalls E Tryz.prog 146 [a0, a1] H R :=
  acalls_of_body (show Tryz.prog.funcs[E.fn 146]? = some Tryz.f129 from Tryz.func129) (by kernel_rfl) ((b_expr_write a0 a1 H R).mpr h)
theorem c_expr_join (a0 a1 a2 a3 : AV) (H : AH) (R : Kt) (h : F.expr_join E Tryz.prog a0 a1 a2 a3 H R) : ACalls E Tryz.prog 148 [a0, a1, a2, a3] H R :=
  acalls_of_body (show Tryz.prog.funcs[E.fn 148]? = some Tryz.f130 from Tryz.func130) (by kernel_rfl) ((b_expr_join a0 a1 a2 a3 H R).mpr h)
theorem c_expr_Rise_Text (a0 : AV) (H : AH) (R : Kt) (h : F.expr_Rise_Text E Tryz.prog a0 H R) : ACalls E Tryz.prog 152 [a0] H R :=
  acalls_of_body (show Tryz.prog.funcs[E.fn 152]? = some Tryz.f139 from Tryz.func139) (by kernel_rfl) ((b_expr_Rise_Text a0 H R).mpr h)
theorem c_expr_Fall_Text (a0 : AV) (H : AH) (R : Kt) (h : F.expr_Fall_Text E Tryz.prog a0 H R) : ACalls E Tryz.prog 153 [a0] H R :=
  acalls_of_body (show Tryz.prog.funcs[E.fn 153]? = some Tryz.f140 from Tryz.func140) (by kernel_rfl) ((b_expr_Fall_Text a0 H R).mpr h)
theorem c_expr_Not_Text (a0 : AV) (H : AH) (R : Kt) (h : F.expr_Not_Text E Tryz.prog a0 H R) : ACalls E Tryz.prog 150 [a0] H R :=
  acalls_of_body (show Tryz.prog.funcs[E.fn 150]? = some Tryz.f141 from Tryz.func141) (by kernel_rfl) ((b_expr_Not_Text a0 H R).mpr h)
theorem c_expr_And_Text (a0 : AV) (H : AH) (R : Kt) (h : F.expr_And_Text E Tryz.prog a0 H R) : ACalls E Tryz.prog 149 [a0] H R :=
  acalls_of_body (show Tryz.prog.funcs[E.fn 149]? = some Tryz.f142 from Tryz.func142) (by kernel_rfl) ((b_expr_And_Text a0 H R).mpr h)
theorem c_expr_Or_Text (a0 : AV) (H : AH) (R : Kt) (h : F.expr_Or_Text E Tryz.prog a0 H R) : ACalls E Tryz.prog 147 [a0] H R :=
  acalls_of_body (show Tryz.prog.funcs[E.fn 147]? = some Tryz.f143 from Tryz.func143) (by kernel_rfl) ((b_expr_Or_Text a0 H R).mpr h)
theorem c_expr_Const_Text (a0 : AV) (H : AH) (R : Kt) (h : F.expr_Const_Text E Tryz.prog a0 H R) : ACalls E Tryz.prog 151 [a0] H R :=
  acalls_of_body (show Tryz.prog.funcs[E.fn 151]? = some Tryz.f144 from Tryz.func144) (by kernel_rfl) ((b_expr_Const_Text a0 H R).mpr h)
end Go.Proofs.YtmklekabnghafaaGreatDoor
set_option maxRecDepth 100000
namespace Go.Proofs
open Go.Shelf
def Tryz.lays156_ren : Go.Shelf.Ren := ⟨fun | 156 => 131 | 165 => 132 | 166 => 133 | 169 => 134 | 240 => 135 | 241 => 136 | 276 => 137 | 277 => 138 | n => n, fun | 31 => 22 | 9 => 9 | 3 => 3 | 4 => 4 | 0 => 0 | 20 => 20 | 72 => 201 | 76 => 202 | 70 => 198 | 37 => 199 | 75 => 26 | 127 => 190 | 164 => 108 | 5 => 5 | 80 => 120 | n => n, fun | n => n⟩
theorem Tryz.lays156 : Go.Proofs.Lays.n156 Tryz.prog Tryz.lays156_ren := {
  mixed := by kernel_rfl
  f156 := Tryz.func131.trans (congrArg some (by kernel_rfl))
  f165 := Tryz.func132.trans (congrArg some (by kernel_rfl))
  f166 := Tryz.func133.trans (congrArg some (by kernel_rfl))
  f169 := Tryz.func134.trans (congrArg some (by kernel_rfl))
  f240 := Tryz.func135.trans (congrArg some (by kernel_rfl))
  f241 := Tryz.func136.trans (congrArg some (by kernel_rfl))
  f276 := Tryz.func137.trans (congrArg some (by kernel_rfl))
  f277 := Tryz.func138.trans (congrArg some (by kernel_rfl))
  t0 := Tryz.underlying0
  a0 := Tryz.isAgg0
  z0 := Tryz.sizeOf0
  v0 := Tryz.zeroValue0
  t3 := Tryz.underlying3
  a3 := Tryz.isAgg3
  z3 := Tryz.sizeOf3
  v3 := Tryz.zeroValue3
  t4 := Tryz.underlying4
  a4 := Tryz.isAgg4
  z4 := Tryz.sizeOf4
  v4 := Tryz.zeroValue4
  t9 := Tryz.underlying9
  a9 := Tryz.isAgg9
  z9 := Tryz.sizeOf9
  v9 := Tryz.zeroValue9
  t20 := Tryz.underlying20
  a20 := Tryz.isAgg20
  z20 := Tryz.sizeOf20
  v20 := Tryz.zeroValue20
  t31 := Tryz.underlying22
  a31 := Tryz.isAgg22
  z31 := Tryz.sizeOf22
  v31 := Tryz.zeroValue22
  t37 := Tryz.underlying199
  a37 := Tryz.isAgg199
  z37 := Tryz.sizeOf199
  v37 := Tryz.zeroValue199
  t70 := Tryz.underlying198
  a70 := Tryz.isAgg198
  z70 := Tryz.sizeOf198
  v70 := Tryz.zeroValue198
  t72 := Tryz.underlying201
  a72 := Tryz.isAgg201
  z72 := Tryz.sizeOf201
  v72 := Tryz.zeroValue201
  t75 := Tryz.underlying26
  a75 := Tryz.isAgg26
  z75 := Tryz.sizeOf26
  v75 := Tryz.zeroValue26
  t76 := Tryz.underlying202
  a76 := Tryz.isAgg202
  z76 := Tryz.sizeOf202
  v76 := Tryz.zeroValue202
  t127 := Tryz.underlying190
  a127 := Tryz.isAgg190
  z127 := Tryz.sizeOf190
  v127 := Tryz.zeroValue190
  t164 := Tryz.underlying108
  a164 := Tryz.isAgg108
  z164 := Tryz.sizeOf108
  v164 := Tryz.zeroValue108 }
theorem Tryz.Builder_Extra_156 : Builder.Extra Tryz.prog Tryz.lays156_ren := {
  sizeBuilder := by kernel_rfl
  liesBuilder := by kernel_rfl
  t5 := Tryz.underlying5
  a5 := Tryz.isAgg5
  z5 := Tryz.sizeOf5
  v5 := Tryz.zeroValue5
  infoByte := by kernel_rfl
  cellsByte := by kernel_rfl
  sizeByte := by kernel_rfl
  neB5 := by decide }
open Go.RowKit in
theorem Tryz.strings_Join_none (a : Option Addr) (c : Nat) (sep : ByteArray) (w : World) :
    Calls Tryz.prog 131 #[.slice a 0 c, .string sep] w fun e w' => e = .returned (.string ⟨#[]⟩) ∧ w' = w := Any.strings_Join_none Tryz.lays156 Tryz.Builder_Extra_156 a c sep w
open Go.RowKit in
theorem Tryz.strings_Join (bk o c : Nat) (xs : List ByteArray) (sep : ByteArray) (w : World) (hcells : ∀ (j : Nat) x, xs[j]? = some x → w.cell? ⟨bk, o + j, none⟩ = some (.string x)) (hbk : bk < w.heap.size) (hN : xs.length ≤ 140737488355328) (hcap : xs.length ≤ c) (hlen : (Lib.join (xs.map (·.data.toList)) sep.data.toList).length ≤ 140737488355328) :
    Calls Tryz.prog 131 #[.slice (some ⟨bk, o, none⟩) xs.length c, .string sep] w fun e w' => e = .returned (.string ⟨(Lib.join (xs.map (·.data.toList)) sep.data.toList).toArray⟩) ∧ Below w.heap.size w w' := Any.strings_Join Tryz.lays156 Tryz.Builder_Extra_156 bk o c xs sep w hcells hbk hN hcap hlen
def Tryz.lays137_ren : Go.Shelf.Ren := ⟨fun | 137 => 81 | 217 => 89 | 266 => 92 | n => n, fun | 9 => 9 | 5 => 5 | 3 => 3 | n => n, fun | n => n⟩
theorem Tryz.lays137 : Go.Proofs.Lays.n137 Tryz.prog Tryz.lays137_ren := {
  mixed := by kernel_rfl
  f137 := Tryz.func81.trans (congrArg some (by kernel_rfl))
  f217 := Tryz.func89.trans (congrArg some (by kernel_rfl))
  f266 := Tryz.func92.trans (congrArg some (by kernel_rfl))
  t3 := Tryz.underlying3
  a3 := Tryz.isAgg3
  z3 := Tryz.sizeOf3
  v3 := Tryz.zeroValue3
  t5 := Tryz.underlying5
  a5 := Tryz.isAgg5
  z5 := Tryz.sizeOf5
  v5 := Tryz.zeroValue5
  t9 := Tryz.underlying9
  a9 := Tryz.isAgg9
  z9 := Tryz.sizeOf9
  v9 := Tryz.zeroValue9 }
open Go.RowKit in
theorem Tryz.strings_IndexByte (s : ByteArray) (c : Int) (w : World) :
    Calls Tryz.prog 81 #[.string s, .int .u8 c] w fun e w' => e = .returned (.int .i64 (Lib.indexByte s.data.toList c.toNat.toUInt8)) ∧ w' = w := Any.strings_IndexByte Tryz.lays137 s c w
def Tryz.lays190_ren : Go.Shelf.Ren := ⟨fun | 190 => 33 | 125 => 49 | 258 => 48 | 128 => 74 | 129 => 75 | 302 => 65 | 303 => 66 | 304 => 67 | 305 => 68 | 306 => 69 | 307 => 70 | 308 => 71 | 309 => 72 | 310 => 73 | 333 => 83 | 329 => 84 | 330 => 85 | 334 => 86 | 335 => 87 | 336 => 88 | 344 => 91 | n => n, fun | 31 => 22 | 9 => 9 | 3 => 3 | 46 => 100 | 0 => 0 | 51 => 135 | 53 => 137 | 4 => 4 | 183 => 127 | 182 => 126 | 131 => 132 | 5 => 5 | 218 => 155 | 222 => 159 | 228 => 162 | 229 => 163 | n => n, fun | n => n⟩
theorem Tryz.lays190 : Go.Proofs.Lays.n190 Tryz.prog Tryz.lays190_ren := {
  mixed := by kernel_rfl
  f125 := Tryz.func49.trans (congrArg some (by kernel_rfl))
  f128 := Tryz.func74.trans (congrArg some (by kernel_rfl))
  f129 := Tryz.func75.trans (congrArg some (by kernel_rfl))
  f190 := Tryz.func33.trans (congrArg some (by kernel_rfl))
  f258 := Tryz.func48.trans (congrArg some (by kernel_rfl))
  f302 := Tryz.func65.trans (congrArg some (by kernel_rfl))
  f303 := Tryz.func66.trans (congrArg some (by kernel_rfl))
  f304 := Tryz.func67.trans (congrArg some (by kernel_rfl))
  f305 := Tryz.func68.trans (congrArg some (by kernel_rfl))
  f306 := Tryz.func69.trans (congrArg some (by kernel_rfl))
  f307 := Tryz.func70.trans (congrArg some (by kernel_rfl))
  f308 := Tryz.func71.trans (congrArg some (by kernel_rfl))
  f309 := Tryz.func72.trans (congrArg some (by kernel_rfl))
  f310 := Tryz.func73.trans (congrArg some (by kernel_rfl))
  f329 := Tryz.func84.trans (congrArg some (by kernel_rfl))
  f330 := Tryz.func85.trans (congrArg some (by kernel_rfl))
  f333 := Tryz.func83.trans (congrArg some (by kernel_rfl))
  f334 := Tryz.func86.trans (congrArg some (by kernel_rfl))
  f335 := Tryz.func87.trans (congrArg some (by kernel_rfl))
  f336 := Tryz.func88.trans (congrArg some (by kernel_rfl))
  f344 := Tryz.func91.trans (congrArg some (by kernel_rfl))
  t0 := Tryz.underlying0
  a0 := Tryz.isAgg0
  z0 := Tryz.sizeOf0
  v0 := Tryz.zeroValue0
  t3 := Tryz.underlying3
  a3 := Tryz.isAgg3
  z3 := Tryz.sizeOf3
  v3 := Tryz.zeroValue3
  t4 := Tryz.underlying4
  a4 := Tryz.isAgg4
  z4 := Tryz.sizeOf4
  v4 := Tryz.zeroValue4
  t5 := Tryz.underlying5
  a5 := Tryz.isAgg5
  z5 := Tryz.sizeOf5
  v5 := Tryz.zeroValue5
  t9 := Tryz.underlying9
  a9 := Tryz.isAgg9
  z9 := Tryz.sizeOf9
  v9 := Tryz.zeroValue9
  t31 := Tryz.underlying22
  a31 := Tryz.isAgg22
  z31 := Tryz.sizeOf22
  v31 := Tryz.zeroValue22
  t46 := Tryz.underlying100
  a46 := Tryz.isAgg100
  z46 := Tryz.sizeOf100
  v46 := Tryz.zeroValue100
  t51 := Tryz.underlying135
  a51 := Tryz.isAgg135
  z51 := Tryz.sizeOf135
  v51 := Tryz.zeroValue135
  t53 := Tryz.underlying137
  a53 := Tryz.isAgg137
  z53 := Tryz.sizeOf137
  v53 := Tryz.zeroValue137
  t131 := Tryz.underlying132
  a131 := Tryz.isAgg132
  z131 := Tryz.sizeOf132
  v131 := Tryz.zeroValue132
  t182 := Tryz.underlying126
  a182 := Tryz.isAgg126
  z182 := Tryz.sizeOf126
  v182 := Tryz.zeroValue126
  t183 := Tryz.underlying127
  a183 := Tryz.isAgg127
  z183 := Tryz.sizeOf127
  v183 := Tryz.zeroValue127
  t218 := Tryz.underlying155
  a218 := Tryz.isAgg155
  z218 := Tryz.sizeOf155
  v218 := Tryz.zeroValue155
  t222 := Tryz.underlying159
  a222 := Tryz.isAgg159
  z222 := Tryz.sizeOf159
  v222 := Tryz.zeroValue159
  t228 := Tryz.underlying162
  a228 := Tryz.isAgg162
  z228 := Tryz.sizeOf162
  v228 := Tryz.zeroValue162
  t229 := Tryz.underlying163
  a229 := Tryz.isAgg163
  z229 := Tryz.sizeOf163
  v229 := Tryz.zeroValue163 }
open Go.Sort Go.RowKit in
theorem Tryz.slices_Sort_string (blk off cap : Nat) (ss : List (List UInt8)) (w : World) (hH : Holds encStr w blk off ss.toArray) (hblk : blk < w.heap.size) (hsz : ss.length < 4611686018427387904) :
    Calls Tryz.prog 33 #[.slice (some ⟨blk, off, none⟩) ss.length cap] w fun e w' =>
      e = .returned (.tuple #[]) ∧ ∃ n os, w' = grow (putRow encStr (Sort.ahead w n) blk off (ss.mergeSort fun x y => decide (x ≤ y)).toArray) os := Any.slices_Sort_string Tryz.lays190 blk off cap ss w hH hblk hsz
def Tryz.lays194_ren : Go.Shelf.Ren := ⟨fun | 194 => 34 | n => n, fun | 31 => 22 | 9 => 9 | 3 => 3 | 4 => 4 | 0 => 0 | n => n, fun | n => n⟩
theorem Tryz.lays194 : Go.Proofs.Lays.n194 Tryz.prog Tryz.lays194_ren := {
  mixed := by kernel_rfl
  f194 := Tryz.func34.trans (congrArg some (by kernel_rfl))
  t0 := Tryz.underlying0
  a0 := Tryz.isAgg0
  z0 := Tryz.sizeOf0
  v0 := Tryz.zeroValue0
  t3 := Tryz.underlying3
  a3 := Tryz.isAgg3
  z3 := Tryz.sizeOf3
  v3 := Tryz.zeroValue3
  t4 := Tryz.underlying4
  a4 := Tryz.isAgg4
  z4 := Tryz.sizeOf4
  v4 := Tryz.zeroValue4
  t9 := Tryz.underlying9
  a9 := Tryz.isAgg9
  z9 := Tryz.sizeOf9
  v9 := Tryz.zeroValue9
  t31 := Tryz.underlying22
  a31 := Tryz.isAgg22
  z31 := Tryz.sizeOf22
  v31 := Tryz.zeroValue22 }
open Go.RowKit Go.Lib Go.Sort in
theorem Tryz.slices_Compact_string (blk off cap : Nat) (zs : List (List UInt8)) (w : World) (hH : Holds encStr w blk off zs.toArray) (hsz : zs.length ≤ 9223372036854775807) (hcap : zs.length ≤ cap) :
    Calls Tryz.prog 34 #[.slice (some ⟨blk, off, none⟩) zs.length cap] w fun e w' => e = .returned (.slice (some ⟨blk, off, none⟩) (Lib.compact zs).length cap) ∧ ∃ q, w' = putRow encStr (Sort.ahead w q) blk off (Lib.compact zs ++ List.replicate (zs.length - (Lib.compact zs).length) []).toArray := Any.slices_Compact_string Tryz.lays194 blk off cap zs w hH hsz hcap
open Go.RowKit Go.Lib Go.Sort in
theorem Tryz.slices_Compact_string_empty (a : Option Addr) (cap : Nat) (w : World) :
    Calls Tryz.prog 34 #[.slice a 0 cap] w fun e w' => e = .returned (.slice a 0 cap) ∧ w' = w := Any.slices_Compact_string_empty Tryz.lays194 a cap w
open Go.RowKit Go.Sort in
theorem Tryz.slices_Sort_string_none (p : Option Addr) (cap : Nat) (w : World) :
    Calls Tryz.prog 33 #[.slice p 0 cap] w fun e w' => e = .returned (.tuple #[]) ∧ w' = w := Any.slices_Sort_string_none Tryz.lays190 p cap w
end Go.Proofs
namespace Go.Proofs.YtmklekabnghafaaGreatDoor
open Go Go.Sc
variable [Inhabited Mx]
theorem ixB (s : Str) (c : UInt8) : FX E Tryz.prog 21 [S s, By c] (Z (idx s c)) := FX.indexByte (show Tryz.prog.funcs[E.fn 21]? = some Tryz.f81 from Tryz.func81) (by kernel_rfl) (by kernel_rfl) Tryz.strings_IndexByte s c
theorem joinB (l : List Str) (sep : Str) (hl : l.length ≤ 140737488355328) (hj : (joinS sep l).length ≤ 140737488355328) : FX E Tryz.prog 118 [Lm S l, S sep] (S (joinS sep l)) := FX.join (show Tryz.prog.funcs[E.fn 118]? = some Tryz.f131 from Tryz.func131) (by kernel_rfl) (by kernel_rfl) Tryz.strings_Join_none Tryz.strings_Join l sep hl hj
theorem sortNB : FX E Tryz.prog 194 [nilS] (.tup []) := FX.sortNil (show Tryz.prog.funcs[E.fn 194]? = some Tryz.f33 from Tryz.func33) (by kernel_rfl) (by kernel_rfl) Tryz.slices_Sort_string_none
theorem sortCB {H : AH} {b g : Nat} {l : List Str} (hl : l.length < 4611686018427387904) (hb : H.bs[b]? = some (.cells g 1 (l.map fun s => S s))) : ACalls E Tryz.prog 194 [.slL b 0 l.length g] H fun r H' => r = .tup [] ∧ H' = ⟨H.bs.set b (.cells g 1 ((sortS l).map fun s => S s)), H.ctr⟩ := sort_calls (show Tryz.prog.funcs[E.fn 194]? = some Tryz.f33 from Tryz.func33) (by kernel_rfl) (by kernel_rfl) Tryz.slices_Sort_string_none Tryz.slices_Sort_string hl hb
theorem compNB : FX E Tryz.prog 195 [nilS] nilS := FX.compactNil (show Tryz.prog.funcs[E.fn 195]? = some Tryz.f34 from Tryz.func34) (by kernel_rfl) (by kernel_rfl) Tryz.slices_Compact_string_empty
theorem compCB {H : AH} {b g : Nat} {l : List Str} (hl : l.length < 4611686018427387904) (hb : H.bs[b]? = some (.cells g 1 (l.map fun s => S s))) : ACalls E Tryz.prog 195 [.slL b 0 l.length g] H fun r H' => r = .slL b 0 (packS l).length g ∧ H' = ⟨H.bs.set b (.cells g 1 ((packS l ++ List.replicate (l.length - (packS l).length) []).map fun s => S s)), H.ctr⟩ := compact_calls (show Tryz.prog.funcs[E.fn 195]? = some Tryz.f34 from Tryz.func34) (by kernel_rfl) (by kernel_rfl) Tryz.slices_Compact_string_empty Tryz.slices_Compact_string hl hb
end Go.Proofs.YtmklekabnghafaaGreatDoor
namespace Go.Sc
open Go Go.RowKit
set_option linter.unusedVariables false
section
variable {H : Type} {enc : TypeId × Value → H}
/-- the row out of a contract that is told what is listed, and the world's shape -/
theorem handed_shaped {C : Checked} {os : Os} {f : FuncId} {fn : Func} {s : ChangeSpec} {again : Bool} {X : World → Prop} (hX : ∀ w w' : World, w.heap = w'.heap → X w → X w')
    (own : ownKnob C.prog.godebug = none) (started : os.Started) (noInit : C.prog.inits.idxOf? f = none) (hfn : C.prog.funcs[f]? = some fn)
    (wit : ∃ (w : World) (tape : Tape) (i : Input), w.os = os ∧ (w.forCall tape i).Shaped C.prog ∧ i.vars = [] ∧ Input.okWide C.prog (w.forCall tape i) .any w.heap.size f i ∧
      ((s.pre enc C.prog fn [] false (w.forCall tape i).memory i.args ∧ X (w.forCall tape i).memory) ∧ sizedMet enc C.prog fn (OpenSpec.ofChange s) false (w.forCall tape i).memory i.args) ∧ ({} : Assume).holds C.prog (lone (Frame.enter C.prog f i.args .normal) [] (w.forCall tape i)))
    (k : ∀ (W : World) (base : Nat) (args : Array Value) (ds gs : List (DataW H)) (before : List MemPlace), W.ShapedOpen C.prog → X W →
      (∀ (j : Nat) t v, fn.params[j]? = some t → args[j]? = some v → Value.okWide C.prog W .any base t v) → DataW.Whole enc C.prog fn.params.toList s.vars false W args.toList ds gs before →
      (DataW.weightsEach C.prog (fn.params.toList ++ s.plain.varTypes C.prog) (ds ++ gs)).all (· ≤ reachBytes) = true → Calls C.prog f args W fun e W' => ∃ v, e = .returned v ∧ s.post enc C.prog fn false true false again W args v W') :
    ReturnsInHanded {} C os f .any (fun w args => (s.pre enc C.prog fn [] false w args ∧ X w) ∧ sizedMet enc C.prog fn (OpenSpec.ofChange s) false w args) (s.post enc C.prog fn false true false again) :=
  returnsInHanded_of_calls own started noInit wit fun w tape i _ hsh _ hok hpre _ => by
    have hv := hok.2.2.2
    obtain ⟨fn', h1, _, _, _, _, hval⟩ := hv
    obtain rfl : fn' = fn := Option.some.inj (h1.symm.trans hfn)
    obtain ⟨⟨⟨ds, gs, before, hw, _⟩, hx⟩, hz⟩ := hpre
    refine (k (w.forCall tape i) w.heap.size i.args ds gs before hsh (hX _ _ (by rfl) hx) hval (DataW.Whole.of_heap (w' := w.forCall tape i) (by rfl) hw) (hz.weights hw)).mono fun e W' h => ?_
    obtain ⟨v, rfl, hp⟩ := h
    exact ChangeSpec.post_blind hp
end
section
variable {E : Env} {P : Program}
theorem FX.contains {k gk : Nat} {m : Int} {fn : Func} (hf : P.funcs[E.fn k]? = some fn) (hn : (fn.name == "runtime.NumGoroutine") = false) (hb : fn.body.isNone = false) (hgl : E.gl gk = some [.val (.int .i64 m)])
    (h : ∀ (s sub : ByteArray) (m : Int) (w : World), s.size < 4294967281 → w.cell? ⟨E.gn gk, 0, none⟩ = some (.int .i64 m) → Calls P (E.fn k) #[.string s, .string sub] w fun e w' => e = .returned (.bool (Lib.contains s.data.toList sub.data.toList)) ∧ w' = w)
    (s t : Str) (hs : s.length ≤ 1000) : FX E P k [S s, S t] (Bo (Lib.contains s t)) := by
  refine FX.ofCalls hf hn hb (by simp [AV.closedL, AV.closed]) (by simp [AV.flat]) (by simp [AV.closed]) fun cx vs _ hg hv => ?_
  simp only [LRel, VRel] at hv
  obtain ⟨v0, _, rfl, rfl, v1, _, rfl, rfl, rfl⟩ := hv
  have hc := hg gk _ hgl
  simp only [CRel, VRel] at hc
  obtain ⟨⟨_, u, hu, rfl⟩, _⟩ := hc
  refine (h ⟨s.toArray⟩ ⟨t.toArray⟩ m cx.w (by simp [ByteArray.size]; omega) hu).mono ?_
  rintro e w' ⟨rfl, rfl⟩
  exact ⟨_, rfl, Below.refl _ _, by simp [VRel]⟩
end
end Go.Sc
namespace Go.Sc
open Go Go.ChangeShapes Go.WideShapes Go.ChangeAt Go.RowKit
section
variable {P : Program} {W : World} {E : Env}
end
theorem least_isNone (l : List String) : (Instr.least l).isNone = l.isEmpty := by
  cases l <;> simp [Instr.least]
theorem missing_isNone (want : Array (String × TypeId)) (got : Array Method) : (Instr.missingMethod want got).isNone = want.toList.all fun x => got.any fun m => m.name == x.1 && m.sig == x.2 := by
  unfold Instr.missingMethod
  generalize hm : (want.toList.filter _).map (·.1) = missing
  have h1 : (want.toList.all fun x => got.any fun m => m.name == x.1 && m.sig == x.2) = missing.isEmpty := by
    rw [← hm]
    generalize want.toList = l
    induction l with
    | nil => rfl
    | cons a l ih =>
      simp only [List.all_cons, List.filter_cons]
      cases h : (got.any fun m => m.name == a.1 && m.sig == a.2) with
      | true => simpa [h] using ih
      | false => simp
  rw [h1]
  simp only
  rw [List.partition_eq_filter_filter]
  simp only
  cases missing with
  | nil => simp [Instr.least]
  | cons s l =>
    simp only [List.isEmpty_cons]
    cases he : Instr.least (List.filter (not ∘ fun x => String.contains x '.') (s :: l)) with
    | some y => rfl
    | none =>
      have h2 := least_isNone (List.filter (not ∘ fun x => String.contains x '.') (s :: l))
      rw [he] at h2
      simp only [Option.isNone_none, Bool.true_eq, List.isEmpty_iff, List.filter_eq_nil_iff] at h2
      have h3 := h2 s (by simp)
      have h4 : (s.contains '.') = true := by simpa using h3
      show (Instr.least _).isNone = false
      rw [least_isNone]
      simp only [List.filter_cons, h4, if_true, List.map_cons, List.isEmpty_cons]
def hasMB (E : Env) (P : Program) (kt k : Nat) (b : Bool) : Bool :=
  match P.underlying (E.ty kt) with
  | some (.interface want) => (match P.info? (E.ty k) with
    | some i => (want.toList.all fun x => i.methods.any fun m => m.name == x.1 && m.sig == x.2) == b
    | none => false)
  | _ => true
theorem HasM.of {E : Env} {P : Program} {kt k : Nat} {b : Bool} (h : hasMB E P kt k b = true) : HasM E P kt k b := fun want hw => by
  unfold hasMB at h
  rw [hw] at h
  simp only at h
  split at h
  · rename_i i hi
    exact ⟨i, hi, by rw [missing_isNone]; simpa using h⟩
  · cases h
end Go.Sc
