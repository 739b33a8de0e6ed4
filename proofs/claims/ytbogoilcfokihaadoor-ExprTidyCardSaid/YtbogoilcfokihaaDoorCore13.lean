/- CONTRACTS OUT OF THE KIT's SHELF: strings.Join, strings.IndexByte. ExprTidy: contracts out of the kit's shelf, laid here. VARIABLES: a known pair of numbers. (of the seat YtbogoilcfokihaaDoor) -/
import Derived.Test.YtbogoilcfokihaaDoorCore12
import Derived.Test.YtbogoilcfokihaaDoorProg
import Derived.KernelRfl
import Derived.Lib.Join
import Derived.Lib.Bytealg
import Derived.Shelf.Strings.OnBuilder
import Derived.Shelf.Small.Strs
import Derived.ChangeSame
import Derived.ChangeAt
import Derived.Below
namespace Go.Proofs.YtbogoilcfokihaaDoor
open Go Go.Sc
set_option maxRecDepth 100000
def tyL : List Nat := [1000000, 37, 62, 1000003, 9, 1000005, 1000006, 1000007, 50, 47, 44, 45, 52, 53, 51]
def tkL : List Nat := [2000000, 2000001, 2000002, 2000003, 2000004, 2000005, 2000006, 2000007, 2000008, 4, 2000010, 2000011, 2000012, 2000013, 2000014, 2000015, 2000016, 2000017, 2000018, 2000019, 2000020, 2000021, 2000022, 2000023, 2000024, 2000025, 2000026, 2000027, 2000028, 2000029, 2000030, 2000031, 2000032, 2000033, 2000034, 2000035, 2000036, 1, 2000038, 2000039, 2000040, 2000041, 2000042, 2000043, 10, 11, 2000046, 9, 2000048, 2000049, 8, 14, 12, 13, 2000054, 2000055, 2000056, 2000057, 2000058, 2000059, 2000060, 2000061, 2, 2000063, 2000064, 2000065, 2000066, 2000067, 2000068, 2000069, 2000070, 2000071, 2000072, 2000073, 2000074, 2000075, 2000076, 2000077, 2000078, 2000079, 2000080, 2000081, 2000082, 2000083, 2000084, 2000085, 2000086, 2000087, 2000088, 2000089, 2000090, 2000091, 2000092, 2000093, 2000094, 2000095, 2000096, 2000097, 2000098, 2000099, 2000100, 2000101, 2000102, 2000103, 2000104, 2000105, 2000106, 2000107, 2000108, 2000109, 2000110, 2000111, 2000112, 2000113, 2000114, 2000115, 2000116, 2000117, 2000118, 2000119, 2000120, 2000121, 2000122]
def fnL : List Nat := [1000000, 35, 1000002, 1000003, 37, 25, 40, 39, 41, 43, 42, 45, 44, 31, 46, 47, 48, 49, 50, 51, 52, 34, 53, 36, 54, 38, 1000026, 1000027, 1000028, 1000029, 1000030, 1000031, 1000032, 1000033, 1000034, 1000035, 1000036, 1000037, 1000038, 1000039, 1000040, 1000041, 1000042, 1000043, 1000044, 1000045, 1000046, 1000047, 1000048, 1000049, 1000050, 1000051, 1000052, 1000053, 1000054, 1000055, 1000056, 1000057, 1000058, 1000059, 1000060, 1000061, 1000062, 1000063, 1000064, 1000065, 1000066, 1000067, 1000068, 1000069, 1000070, 1000071, 1000072, 1000073, 1000074, 1000075, 1000076, 1000077, 1000078, 1000079, 1000080, 1000081, 1000082, 1000083, 1000084, 1000085, 1000086, 1000087, 1000088, 1000089, 1000090, 1000091, 1000092, 1000093, 1000094, 1000095, 1000096, 1000097, 1000098, 1000099, 1000100, 1000101, 1000102, 1000103, 1000104, 1000105, 1000106, 1000107, 1000108, 1000109, 1000110, 1000111, 1000112, 1000113, 1000114, 1000115, 1000116, 1000117, 75, 76, 77, 78, 79, 81, 80, 1000125, 4, 10, 1000128, 1000129, 1000130, 1000131, 1000132, 11, 12, 13, 1000136, 1000137, 1000138, 23, 22, 1000141, 1000142, 29, 30, 33, 73, 85, 74, 84, 72, 83, 87, 88, 86, 5, 9, 8, 7, 1000159, 21, 20, 16, 15, 18, 17, 19, 27, 28, 1000169, 6, 1000171, 1000172, 14, 1000174, 24, 26, 32, 3, 1000179, 1000180, 1000181, 1000182, 1000183, 1000184, 1000185, 1000186, 1000187, 1000188, 1000189, 1000190, 1000191, 1000192, 1000193, 1000194, 1000195, 1000196, 1000197, 1000198, 1000199, 1000200, 1000201, 1000202, 1000203, 1000204, 1000205, 1000206, 1000207, 1000208, 1000209, 1000210, 1000211, 1000212, 1000213, 1000214, 1000215, 1000216, 1000217, 1000218, 55]
def fkL : List Nat := [2000000, 2000001, 2000002, 178, 126, 155, 170, 158, 157, 156, 127, 133, 134, 135, 173, 163, 162, 165, 164, 166, 161, 160, 140, 139, 175, 5, 176, 167, 168, 143, 144, 13, 177, 145, 21, 1, 23, 4, 25, 7, 6, 8, 10, 9, 12, 11, 14, 15, 16, 17, 18, 19, 20, 22, 24, 219, 2000056, 2000057, 2000058, 2000059, 2000060, 2000061, 2000062, 2000063, 2000064, 2000065, 2000066, 2000067, 2000068, 2000069, 2000070, 2000071, 150, 146, 148, 118, 119, 120, 121, 122, 124, 123, 2000082, 151, 149, 147, 154, 152, 153, 2000089, 2000090, 2000091, 2000092, 2000093, 2000094, 2000095]
def gnL : List Nat := [1000000, 1, 2, 1000003, 1000004, 1000005, 0]
def gkL : List Nat := [6, 1, 2]
def E : Env := { ty := fun k => tyL.getD k 3000000, tk := fun t => tkL.getD t 3000000, fn := fun k => fnL.getD k 3000000, fk := fun f => fkL.getD f 3000000, gn := fun k => gnL.getD k 3000000, gk := fun g => gkL.getD g 3000000, gl := fun _ => none }
theorem b_keep_ExprTidy (a0 a1 a2 : AV) (H : AH) (R : Kt) : bodyW E Tryd.prog Tryd.f3 (.seq none .leaf (.seq none (.seq none .leaf (.two (.seq none .leaf .leaf) .leaf)) (.seq none .leaf (.seq none (.seq none .leaf (.two (.seq none .leaf .leaf) .leaf)) (.seq none .leaf (.seq none .leaf .leaf)))))) [a0, a1, a2] H R = F.keep_ExprTidy E Tryd.prog a0 a1 a2 H R := by kernel_rfl
theorem b_expr_Parse (a0 : AV) (H : AH) (R : Kt) : bodyW E Tryd.prog Tryd.f4 (.seq none .leaf (.seq none (.seq none .leaf (.two (.seq none .leaf .leaf) .leaf)) (.seq none .leaf (.seq none .leaf (.seq none (.seq none .leaf (.two (.seq none .leaf .leaf) .leaf)) (.seq none (.seq none .leaf (.seq none .leaf (.two (.seq none .leaf .leaf) .leaf))) (.seq none .leaf .leaf))))))) [a0] H R = F.expr_Parse E Tryd.prog a0 H R := by kernel_rfl
theorem b_keep_says (H : AH) (R : Kt) : bodyW E Tryd.prog Tryd.f5 (.seq none .leaf (.seq none .leaf (.seq none .leaf .leaf))) [] H R = F.keep_says E Tryd.prog H R := by kernel_rfl
theorem b_expr_Tidy (a0 : AV) (H : AH) (R : Kt) : bodyW E Tryd.prog Tryd.f6 (.seq none .leaf (.seq none (.seq none .leaf (.one (.seq none .leaf (.two (.seq none .leaf (.seq none .leaf (.one (.seq none .leaf (.two (.seq none .leaf (.seq none .leaf .leaf)) (.seq none .leaf (.two (.seq none .leaf (.seq none .leaf .leaf)) (.seq none .leaf (.seq none .leaf .leaf))))))))) (.seq none .leaf (.two (.seq none .leaf (.seq none .leaf (.seq none (.one (.seq none .leaf (.two (.seq none .leaf .leaf) (.seq none .leaf (.two (.seq none .leaf .leaf) (.seq none .leaf (.two (.seq none .leaf .leaf) .leaf))))))) (.seq none .leaf .leaf)))) (.seq none .leaf (.two (.seq none .leaf (.seq none .leaf (.seq none (.one (.seq none .leaf (.two (.seq none .leaf .leaf) (.seq none .leaf (.two (.seq none .leaf .leaf) (.seq none .leaf (.two (.seq none .leaf .leaf) .leaf))))))) (.seq none .leaf .leaf)))) .leaf)))))))) (.seq none .leaf .leaf))) [a0] H R = F.expr_Tidy E Tryd.prog a0 H R := by kernel_rfl
theorem b_expr_Eval (a0 a1 a2 : AV) (H : AH) (R : Kt) : bodyW E Tryd.prog Tryd.f7 (.seq none .leaf (.seq none (.seq none .leaf (.one (.seq none .leaf (.two (.seq none .leaf (.seq none .leaf .leaf)) (.seq none .leaf (.two (.seq none .leaf (.seq none .leaf .leaf)) (.seq none .leaf (.two (.seq none .leaf (.seq none .leaf .leaf)) (.seq none .leaf (.two (.seq none .leaf (.seq none .leaf .leaf)) (.seq none .leaf (.two (.seq none .leaf (.seq none .leaf .leaf)) (.seq none .leaf (.two (.seq none .leaf (.seq none .leaf .leaf)) (.seq none .leaf (.two (.seq none .leaf (.seq none .leaf .leaf)) .leaf)))))))))))))))) (.seq none .leaf .leaf))) [a0, a1, a2] H R = F.expr_Eval E Tryd.prog a0 a1 a2 H R := by kernel_rfl
theorem b_keep_among (a0 : AV) (H : AH) (R : Kt) : bodyW E Tryd.prog Tryd.f8 (.seq none .leaf (.seq none .leaf .leaf)) [a0] H R = F.keep_among E Tryd.prog a0 H R := by kernel_rfl
theorem b_expr_Size (a0 : AV) (H : AH) (R : Kt) : bodyW E Tryd.prog Tryd.f9 (.seq none .leaf (.seq none .leaf (.seq none .leaf (.seq none .leaf .leaf)))) [a0] H R = F.expr_Size E Tryd.prog a0 H R := by kernel_rfl
theorem b_expr_Text (a0 : AV) (H : AH) (R : Kt) : bodyW E Tryd.prog Tryd.f10 (.seq none .leaf (.seq none (.seq none .leaf (.two (.seq none .leaf .leaf) .leaf)) (.seq none .leaf .leaf))) [a0] H R = F.expr_Text E Tryd.prog a0 H R := by kernel_rfl
theorem b_pexpr_reader_or (a0 a1 : AV) (H : AH) (R : Kt) : bodyW E Tryd.prog Tryd.f11 (.seq none .leaf (.seq none .leaf (.seq none (.seq none .leaf (.two (.seq none .leaf .leaf) .leaf)) (.seq none (.seq none .leaf (.two (.seq none .leaf .leaf) .leaf)) (.seq none .leaf .leaf))))) [a0, a1] H R = F.pexpr_reader_or E Tryd.prog a0 a1 H R := by kernel_rfl
theorem b_pexpr_reader_blanks (a0 : AV) (H : AH) (R : Kt) : bodyW E Tryd.prog Tryd.f12 (.one (.loop [] (.seq none (.seq none .draw (.two .leaf .leaf)) (.one .leaf)))) [a0] H R = F.pexpr_reader_blanks E Tryd.prog a0 H R := by kernel_rfl
theorem b_pexpr_reader_fail (a0 a1 : AV) (H : AH) (R : Kt) : bodyW E Tryd.prog Tryd.f13 (.seq none .leaf (.seq none .leaf (.seq none .leaf .leaf))) [a0, a1] H R = F.pexpr_reader_fail E Tryd.prog a0 a1 H R := by kernel_rfl
theorem b_expr_parts (a0 a1 : AV) (H : AH) (R : Kt) : bodyW E Tryd.prog Tryd.f14 (.seq none .leaf (.seq none .leaf (.seq none .leaf (.seq none .leaf (.seq none (.seq none .leaf (.one (.loop [19] (.seq none .leaf (.seq none (.two .leaf .leaf) (.seq none (.one (.seq none .leaf (.seq none .leaf (.seq (some [11]) (.seq none .leaf (.one (.seq none .leaf (.two (.seq none .leaf (.seq none .leaf (.two (.seq none .leaf .leaf) .leaf))) (.seq none .leaf (.two (.seq none .leaf (.seq none .leaf (.seq none .leaf (.two .leaf .leaf)))) (.seq none .leaf (.two (.seq none .leaf (.seq none .leaf (.seq none .leaf (.two .leaf .leaf)))) (.seq none .leaf .leaf))))))))) (.seq none .leaf (.two (.seq none .leaf .leaf) .leaf)))))) .leaf)))))) (.seq none .leaf .leaf)))))) [a0, a1] H R = F.expr_parts E Tryd.prog a0 a1 H R := by kernel_rfl
theorem b_slices_ContainsFunc_expr_And_expr_Expr (a0 a1 : AV) (H : AH) (R : Kt) : bodyW E Tryd.prog Tryd.f15 (.seq none .leaf (.seq none .leaf .leaf)) [a0, a1] H R = F.slices_ContainsFunc_expr_And_expr_Expr E Tryd.prog a0 a1 H R := by kernel_rfl
theorem b_expr_Eval_c1 (a0 a1 a2 : AV) (H : AH) (R : Kt) : bodyW E Tryd.prog Tryd.f16 (.seq none .leaf (.seq none .leaf .leaf)) [a0, a1, a2] H R = F.expr_Eval_c1 E Tryd.prog a0 a1 a2 H R := by kernel_rfl
theorem b_slices_ContainsFunc_expr_Or_expr_Expr (a0 a1 : AV) (H : AH) (R : Kt) : bodyW E Tryd.prog Tryd.f17 (.seq none .leaf (.seq none .leaf .leaf)) [a0, a1] H R = F.slices_ContainsFunc_expr_Or_expr_Expr E Tryd.prog a0 a1 H R := by kernel_rfl
theorem b_expr_Eval_c2 (a0 a1 a2 : AV) (H : AH) (R : Kt) : bodyW E Tryd.prog Tryd.f18 (.seq none .leaf (.seq none .leaf .leaf)) [a0, a1, a2] H R = F.expr_Eval_c2 E Tryd.prog a0 a1 a2 H R := by kernel_rfl
theorem b_keep_among_c1 (a0 a1 : AV) (H : AH) (R : Kt) : bodyW E Tryd.prog Tryd.f19 (.seq none .leaf (.seq none (.seq none .leaf (.one (.loop [4] (.seq none (.seq none .leaf (.two .leaf .leaf)) (.seq none (.one (.seq none .leaf (.two (.seq none .leaf .leaf) .leaf))) .leaf))))) (.seq none .leaf .leaf))) [a0, a1] H R = F.keep_among_c1 E Tryd.prog a0 a1 H R := by kernel_rfl
theorem b_expr_walk (a0 a1 : AV) (H : AH) (R : Kt) : bodyW E Tryd.prog Tryd.f20 (.seq none .leaf (.seq none .leaf (.one (.seq none .leaf (.two (.seq none .leaf .leaf) (.seq none .leaf (.two (.seq none .leaf (.seq none .leaf (.one (.loop [27] (.seq none .leaf (.seq none (.two .leaf .leaf) (.seq none (.one (.seq none .leaf .leaf)) .leaf))))))) (.seq none .leaf (.two (.seq none .leaf (.seq none .leaf (.one (.loop [40] (.seq none .leaf (.seq none (.two .leaf .leaf) (.seq none (.one (.seq none .leaf .leaf)) .leaf))))))) .leaf))))))))) [a0, a1] H R = F.expr_walk E Tryd.prog a0 a1 H R := by kernel_rfl
theorem b_expr_Size_c1 (a0 a1 : AV) (H : AH) (R : Kt) : bodyW E Tryd.prog Tryd.f21 .leaf [a0, a1] H R = F.expr_Size_c1 E Tryd.prog a0 a1 H R := by kernel_rfl
theorem b_pexpr_reader_several (a0 a1 a2 a3 : AV) (H : AH) (R : Kt) : bodyW E Tryd.prog Tryd.f22 (.seq none .leaf (.seq none .leaf (.one (.loop [10] (.one (.seq none .leaf (.seq none (.seq none .leaf (.two (.seq none .leaf .leaf) .leaf)) (.seq none .leaf (.seq none .leaf (.two (.seq none .leaf .leaf) .leaf)))))))))) [a0, a1, a2, a3] H R = F.pexpr_reader_several E Tryd.prog a0 a1 a2 a3 H R := by kernel_rfl
theorem b_pexpr_reader_and (a0 a1 : AV) (H : AH) (R : Kt) : bodyW E Tryd.prog Tryd.f23 (.seq none .leaf (.seq none .leaf (.seq none (.seq none .leaf (.two (.seq none .leaf .leaf) .leaf)) (.seq none (.seq none .leaf (.two (.seq none .leaf .leaf) .leaf)) (.seq none .leaf .leaf))))) [a0, a1] H R = F.pexpr_reader_and E Tryd.prog a0 a1 H R := by kernel_rfl
theorem b_expr_parts_c1 (a0 a1 a2 : AV) (H : AH) (R : Kt) : bodyW E Tryd.prog Tryd.f24 (.seq none .leaf (.seq none .leaf (.seq none (.seq none .leaf (.two (.seq none .leaf .leaf) .leaf)) (.seq none .leaf (.seq (some [6]) (.seq none .leaf (.seq none .leaf (.two .leaf .leaf))) (.seq none (.seq none .leaf (.two (.seq none .leaf .leaf) .leaf)) (.seq (some []) .draw (.seq none .leaf .leaf)))))))) [a0, a1, a2] H R = F.expr_parts_c1 E Tryd.prog a0 a1 a2 H R := by kernel_rfl
theorem b_slices_Contains_Lstring_string (a0 a1 : AV) (H : AH) (R : Kt) : bodyW E Tryd.prog Tryd.f25 (.seq none .leaf (.seq none .leaf .leaf)) [a0, a1] H R = F.slices_Contains_Lstring_string E Tryd.prog a0 a1 H R := by kernel_rfl
theorem b_slices_ContainsFunc_Lexpr_Expr_expr_Expr (a0 a1 : AV) (H : AH) (R : Kt) : bodyW E Tryd.prog Tryd.f26 (.seq none .leaf (.seq none .leaf .leaf)) [a0, a1] H R = F.slices_ContainsFunc_Lexpr_Expr_expr_Expr E Tryd.prog a0 a1 H R := by kernel_rfl
theorem b_slices_IndexFunc_expr_And_expr_Expr (a0 a1 : AV) (H : AH) (R : Kt) : bodyW E Tryd.prog Tryd.f27 (.seq none .leaf (.seq none (.seq none .leaf (.one (.loop [8] (.seq none .leaf (.seq none (.two .leaf .leaf) (.seq none (.one (.seq none .leaf (.seq none .leaf (.two (.seq none .leaf .leaf) .leaf)))) .leaf)))))) (.seq none .leaf .leaf))) [a0, a1] H R = F.slices_IndexFunc_expr_And_expr_Expr E Tryd.prog a0 a1 H R := by kernel_rfl
theorem b_slices_IndexFunc_expr_Or_expr_Expr (a0 a1 : AV) (H : AH) (R : Kt) : bodyW E Tryd.prog Tryd.f28 (.seq none .leaf (.seq none (.seq none .leaf (.one (.loop [8] (.seq none .leaf (.seq none (.two .leaf .leaf) (.seq none (.one (.seq none .leaf (.seq none .leaf (.two (.seq none .leaf .leaf) .leaf)))) .leaf)))))) (.seq none .leaf .leaf))) [a0, a1] H R = F.slices_IndexFunc_expr_Or_expr_Expr E Tryd.prog a0 a1 H R := by kernel_rfl
theorem b_pexpr_reader_take (a0 a1 : AV) (H : AH) (R : Kt) : bodyW E Tryd.prog Tryd.f29 (.seq none .leaf (.seq none .leaf (.seq none (.seq none .draw (.two (.seq none .leaf (.seq none .leaf .leaf)) .leaf)) (.seq none .leaf .leaf)))) [a0, a1] H R = F.pexpr_reader_take E Tryd.prog a0 a1 H R := by kernel_rfl
theorem b_pexpr_reader_one (a0 a1 : AV) (H : AH) (R : Kt) : bodyW E Tryd.prog Tryd.f30 (.seq none .leaf (.seq none (.seq none .leaf (.two (.seq none .leaf .leaf) .leaf)) (.seq none (.one (.seq none .leaf (.two (.seq none .leaf (.seq none (.seq none .leaf (.two (.seq none .leaf .leaf) .leaf)) (.seq none .leaf .leaf))) (.seq none .leaf (.two (.seq none .leaf (.seq none (.seq none .leaf (.two (.seq none .leaf .leaf) .leaf)) (.seq none (.seq none .leaf (.two (.seq none .leaf .leaf) .leaf)) (.seq none .leaf .leaf)))) (.seq none .leaf (.two (.seq none .leaf .leaf) (.seq none .leaf (.two (.seq none .leaf .leaf) (.seq none .leaf (.two (.seq none .leaf (.seq none .leaf .leaf)) (.seq none .leaf (.two (.seq none .leaf (.seq none .leaf .leaf)) .leaf))))))))))))) (.seq none .leaf (.seq none .leaf .leaf))))) [a0, a1] H R = F.pexpr_reader_one E Tryd.prog a0 a1 H R := by kernel_rfl
theorem b_slices_Index_Lstring_string (a0 a1 : AV) (H : AH) (R : Kt) : bodyW E Tryd.prog Tryd.f31 (.seq none .leaf (.seq none (.seq none .leaf (.one (.loop [8] (.seq none .leaf (.seq none (.two .leaf .leaf) (.seq none (.one (.seq none .leaf (.seq none .leaf (.two (.seq none .leaf .leaf) .leaf)))) .leaf)))))) (.seq none .leaf .leaf))) [a0, a1] H R = F.slices_Index_Lstring_string E Tryd.prog a0 a1 H R := by kernel_rfl
theorem b_slices_IndexFunc_Lexpr_Expr_expr_Expr (a0 a1 : AV) (H : AH) (R : Kt) : bodyW E Tryd.prog Tryd.f32 (.seq none .leaf (.seq none (.seq none .leaf (.one (.loop [8] (.seq none .leaf (.seq none (.two .leaf .leaf) (.seq none (.one (.seq none .leaf (.seq none .leaf (.two (.seq none .leaf .leaf) .leaf)))) .leaf)))))) (.seq none .leaf .leaf))) [a0, a1] H R = F.slices_IndexFunc_Lexpr_Expr_expr_Expr E Tryd.prog a0 a1 H R := by kernel_rfl
theorem b_pexpr_reader_word (a0 : AV) (H : AH) (R : Kt) : bodyW E Tryd.prog Tryd.f33 (.seq none .leaf (.seq none .leaf (.seq none .leaf (.seq none (.one (.loop [4] (.seq none (.seq none .leaf (.two .leaf .leaf)) (.one .leaf)))) (.seq none .draw (.seq none (.seq none .leaf (.two (.seq none .leaf .leaf) .leaf)) (.seq none (.seq none .leaf (.two (.seq none .leaf .leaf) .leaf)) (.seq none .leaf (.seq none .leaf .leaf))))))))) [a0] H R = F.pexpr_reader_word E Tryd.prog a0 H R := by kernel_rfl
theorem b_strings_IndexByte (a0 a1 : AV) (H : AH) (R : Kt) : bodyW E Tryd.prog Tryd.f34 (.seq none .leaf (.seq none .leaf .leaf)) [a0, a1] H R = F.strings_IndexByte E Tryd.prog a0 a1 H R := by kernel_rfl
theorem b_expr_Name (a0 : AV) (H : AH) (R : Kt) : bodyW E Tryd.prog Tryd.f35 (.seq none .leaf (.seq none .leaf .leaf)) [a0] H R = F.expr_Name E Tryd.prog a0 H R := by kernel_rfl
theorem b_internal_stringslite_IndexByte (a0 a1 : AV) (H : AH) (R : Kt) : bodyW E Tryd.prog Tryd.f36 (.seq none .leaf (.seq none .leaf .leaf)) [a0, a1] H R = F.internal_stringslite_IndexByte E Tryd.prog a0 a1 H R := by kernel_rfl
theorem b_strings_Trim (a0 a1 : AV) (H : AH) (R : Kt) : bodyW E Tryd.prog Tryd.f37 (.seq none .leaf (.seq none (.seq none .leaf (.two (.seq none .leaf .leaf) .leaf)) (.seq none (.seq none .leaf (.two (.seq none .draw .leaf) .leaf)) (.seq none (.seq none .leaf (.seq none .leaf (.two (.seq none .leaf .leaf) .leaf))) (.seq none .leaf .leaf))))) [a0, a1] H R = F.strings_Trim E Tryd.prog a0 a1 H R := by kernel_rfl
theorem b_strings_trimLeftByte (a0 a1 : AV) (H : AH) (R : Kt) : bodyW E Tryd.prog Tryd.f39 (.seq none .leaf (.seq none (.one (.loop [0] (.seq none (.seq none .leaf (.two .leaf .leaf)) (.one .leaf)))) (.seq none .leaf .leaf))) [a0, a1] H R = F.strings_trimLeftByte E Tryd.prog a0 a1 H R := by kernel_rfl
theorem b_strings_trimRightByte (a0 a1 : AV) (H : AH) (R : Kt) : bodyW E Tryd.prog Tryd.f40 (.seq none .leaf (.seq none (.one (.loop [0] (.seq none (.seq none .leaf (.two .leaf .leaf)) (.one .leaf)))) (.seq none .leaf .leaf))) [a0, a1] H R = F.strings_trimRightByte E Tryd.prog a0 a1 H R := by kernel_rfl
theorem b_strings_makeASCIISet (a0 : AV) (H : AH) (R : Kt) : bodyW E Tryd.prog Tryd.f41 (.seq none .leaf (.seq none (.seq none .leaf (.one (.loop [4] (.seq none (.seq none .leaf (.two .leaf .leaf)) (.seq none (.one (.seq none .leaf (.seq none (.seq none .leaf (.two (.seq none .leaf .leaf) .leaf)) .leaf))) .leaf))))) (.seq none .leaf .leaf))) [a0] H R = F.strings_makeASCIISet E Tryd.prog a0 H R := by kernel_rfl
theorem b_strings_trimLeftASCII (a0 a1 : AV) (H : AH) (R : Kt) : bodyW E Tryd.prog Tryd.f42 (.seq none .leaf (.seq (some [0]) (.one (.loop [0] (.seq none (.seq none .leaf (.two .leaf .leaf)) (.one (.seq none (.seq none .leaf (.two .leaf .leaf)) .leaf))))) (.seq none .leaf .leaf))) [a0, a1] H R = F.strings_trimLeftASCII E Tryd.prog a0 a1 H R := by kernel_rfl
theorem b_strings_trimRightASCII (a0 a1 : AV) (H : AH) (R : Kt) : bodyW E Tryd.prog Tryd.f43 (.seq none .leaf (.seq (some [0]) (.one (.loop [0] (.seq none (.seq none .leaf (.two .leaf .leaf)) (.one (.seq none (.seq none .leaf (.two .leaf .leaf)) .leaf))))) (.seq none .leaf .leaf))) [a0, a1] H R = F.strings_trimRightASCII E Tryd.prog a0 a1 H R := by kernel_rfl
theorem b_strings_trimLeftUnicode (a0 a1 : AV) (H : AH) (R : Kt) : bodyW E Tryd.prog Tryd.f44 (.seq none .leaf (.seq (some [0]) (.one (.loop [0] (.seq none (.seq none .leaf (.two .leaf .leaf)) (.one (.seq none .leaf (.seq none (.seq none .leaf (.two .leaf .leaf)) .leaf)))))) (.seq none .leaf .leaf))) [a0, a1] H R = F.strings_trimLeftUnicode E Tryd.prog a0 a1 H R := by kernel_rfl
theorem b_strings_trimRightUnicode (a0 a1 : AV) (H : AH) (R : Kt) : bodyW E Tryd.prog Tryd.f45 (.seq none .leaf (.seq (some [0]) (.one (.loop [0] (.seq none (.seq none .leaf (.two .leaf .leaf)) (.one (.seq none .leaf (.seq (some [5, 6]) (.seq none .leaf (.two .leaf .leaf)) (.seq none (.seq none .leaf (.two .leaf .leaf)) .leaf))))))) (.seq none .leaf .leaf))) [a0, a1] H R = F.strings_trimRightUnicode E Tryd.prog a0 a1 H R := by kernel_rfl
theorem b_pstrings_asciiSet_contains (a0 a1 : AV) (H : AH) (R : Kt) : bodyW E Tryd.prog Tryd.f46 (.seq none .leaf (.seq none .leaf .leaf)) [a0, a1] H R = F.pstrings_asciiSet_contains E Tryd.prog a0 a1 H R := by kernel_rfl
theorem b_unicode_utf8_DecodeRuneInString (a0 : AV) (H : AH) (R : Kt) : bodyW E Tryd.prog Tryd.f47 (.seq none .leaf (.seq none (.seq none .leaf (.two (.seq none .leaf .leaf) .leaf)) .leaf)) [a0] H R = F.unicode_utf8_DecodeRuneInString E Tryd.prog a0 H R := by kernel_rfl
theorem b_strings_ContainsRune (a0 a1 : AV) (H : AH) (R : Kt) : bodyW E Tryd.prog Tryd.f48 (.seq none .leaf (.seq none .leaf .leaf)) [a0, a1] H R = F.strings_ContainsRune E Tryd.prog a0 a1 H R := by kernel_rfl
theorem b_unicode_utf8_DecodeLastRuneInString (a0 : AV) (H : AH) (R : Kt) : bodyW E Tryd.prog Tryd.f49 (.seq none .leaf (.seq none .leaf (.seq none (.seq none .leaf (.two (.seq none .leaf .leaf) .leaf)) (.seq none .leaf (.seq none .leaf (.seq none (.seq none .leaf (.two (.seq none .leaf .leaf) .leaf)) (.seq none .leaf (.seq (some [5]) (.seq none .leaf (.one (.loop [5] (.seq none (.seq none .leaf (.two .leaf .leaf)) (.seq none (.one (.seq none .leaf (.two .leaf .leaf))) .leaf))))) (.seq (some [5]) (.seq none .leaf (.two .leaf .leaf)) (.seq none .leaf (.seq none (.seq none .leaf (.two (.seq none .leaf .leaf) .leaf)) (.seq none .leaf .leaf)))))))))))) [a0] H R = F.unicode_utf8_DecodeLastRuneInString E Tryd.prog a0 H R := by kernel_rfl
theorem b_unicode_utf8_decodeRuneInStringSlow (a0 : AV) (H : AH) (R : Kt) : bodyW E Tryd.prog Tryd.f50 (.seq none .leaf (.seq none .leaf (.seq none (.seq none .leaf (.two (.seq none .leaf .leaf) .leaf)) (.seq none .leaf (.seq none .leaf (.seq none (.seq none .leaf (.two (.seq none .leaf (.seq none .leaf .leaf)) .leaf)) (.seq none .leaf (.seq none .leaf (.seq none (.seq none .leaf (.two (.seq none .leaf .leaf) .leaf)) (.seq none .leaf (.seq none (.seq none .leaf (.two (.seq none .leaf .leaf) .leaf)) (.seq none (.seq none .leaf (.two (.seq none .leaf .leaf) .leaf)) (.seq none .leaf (.seq none (.seq none .leaf (.two (.seq none .leaf .leaf) .leaf)) (.seq none (.seq none .leaf (.two (.seq none .leaf .leaf) .leaf)) (.seq none .leaf (.seq none (.seq none .leaf (.two (.seq none .leaf .leaf) .leaf)) (.seq none .leaf .leaf)))))))))))))))))) [a0] H R = F.unicode_utf8_decodeRuneInStringSlow E Tryd.prog a0 H R := by kernel_rfl
theorem b_strings_IndexRune_ScV11 (a0 a1 : AV) (H : AH) (R : Kt) : bodyW E Tryd.prog Tryd.f51 (.seq none .leaf (.one (.seq none .leaf (.two (.seq none .leaf .leaf) (.seq none .leaf (.two (.seq none (.seq none .leaf (.one (.loop [] (.seq none .leaf (.seq none (.two .leaf .leaf) (.one (.seq none .leaf (.seq none .leaf (.two (.seq none .leaf .leaf) .leaf))))))))) (.seq none .leaf .leaf)) (.seq none .leaf (.two (.seq none .leaf .leaf) (.one (.seq none .leaf (.seq none .leaf (.seq none .leaf (.seq none .leaf (.seq none (.one (.loop [9] (.seq none (.seq none .leaf (.two .leaf .leaf)) (.one (.one (.seq (some [9]) (.seq none .draw (.two (.seq none .draw (.seq none (.seq none .leaf (.two (.seq none .leaf .leaf) .leaf)) .leaf)) .leaf)) (.seq none (.seq none .leaf (.one (.loop [12] (.seq none (.seq none .leaf (.two .leaf .leaf)) (.seq none (.one (.seq none .draw (.two .leaf .leaf))) .leaf))))) (.seq none (.seq none .leaf .leaf) (.seq none .leaf (.seq none .leaf (.seq none .leaf (.seq none .leaf (.two .leaf .leaf))))))))))))) (.seq none (.seq none .leaf .leaf) (.seq none .leaf (.seq none (.two (.seq none .leaf (.seq none .leaf (.two (.seq none .leaf .leaf) .leaf))) (.one (.seq none .leaf (.seq none .leaf (.seq none .leaf (.one (.loop [] (.seq none (.seq none .leaf (.two .leaf .leaf)) (.seq none (.one (.seq none .leaf (.two (.seq none (.seq none .leaf (.one (.loop [] (.seq none (.seq none .leaf (.two .leaf .leaf)) (.seq none (.one (.seq none .leaf (.two .leaf .leaf))) .leaf))))) (.seq none .leaf .leaf)) .leaf))) .leaf))))))))) (.seq none .leaf .leaf)))))))))))))))))) [a0, a1] H R = F.strings_IndexRune_ScV11 E Tryd.prog a0 a1 H R := by kernel_rfl
theorem b_unicode_utf8_RuneStart (a0 : AV) (H : AH) (R : Kt) : bodyW E Tryd.prog Tryd.f52 (.seq none .leaf (.seq none .leaf .leaf)) [a0] H R = F.unicode_utf8_RuneStart E Tryd.prog a0 H R := by kernel_rfl
theorem b_unicode_utf8_ValidRune (a0 : AV) (H : AH) (R : Kt) : bodyW E Tryd.prog Tryd.f53 (.seq none .leaf (.seq none (.one (.seq none .leaf (.two (.seq none .leaf .leaf) (.seq none .leaf (.two (.seq none .leaf .leaf) .leaf))))) (.seq none .leaf .leaf))) [a0] H R = F.unicode_utf8_ValidRune E Tryd.prog a0 H R := by kernel_rfl
theorem b_internal_bytealg_Cutover (a0 : AV) (H : AH) (R : Kt) : bodyW E Tryd.prog Tryd.f54 (.seq none .leaf (.seq none .leaf .leaf)) [a0] H R = F.internal_bytealg_Cutover E Tryd.prog a0 H R := by kernel_rfl
theorem b_expr_Not_Text (a0 : AV) (H : AH) (R : Kt) : bodyW E Tryd.prog Tryd.f72 (.seq none .leaf (.seq none .leaf .leaf)) [a0] H R = F.expr_Not_Text E Tryd.prog a0 H R := by kernel_rfl
theorem b_expr_write (a0 a1 : AV) (H : AH) (R : Kt) : bodyW E Tryd.prog Tryd.f73 (.seq none .leaf (.seq none (.seq none .leaf (.one (.seq none .leaf (.two (.seq none .leaf (.seq none (.seq none .leaf (.two (.seq none .leaf .leaf) .leaf)) (.seq none .leaf .leaf))) (.seq none .leaf (.two (.seq none .leaf (.seq none .leaf .leaf)) (.seq none .leaf (.two (.seq none .leaf (.seq none .leaf .leaf)) (.seq none .leaf (.two (.seq none .leaf (.seq none .leaf .leaf)) (.seq none .leaf (.two (.seq none .leaf (.seq none .leaf .leaf)) (.seq none .leaf (.two (.seq none .leaf (.seq none .leaf .leaf)) (.seq none .leaf (.two (.seq none .leaf (.seq none .leaf .leaf)) .leaf)))))))))))))))) (.seq none .leaf .leaf))) [a0, a1] H R = F.expr_write E Tryd.prog a0 a1 H R := by kernel_rfl
theorem b_expr_join (a0 a1 a2 a3 : AV) (H : AH) (R : Kt) : bodyW E Tryd.prog Tryd.f74 (.seq none .leaf (.seq none .leaf (.seq none (.seq none .leaf (.one (.loop [9, 14] (.seq none .leaf (.seq none (.two .leaf .leaf) (.seq none (.one (.seq none .leaf .leaf)) .leaf)))))) (.seq none (.seq none .leaf (.two (.seq none .leaf .leaf) .leaf)) (.seq none .leaf .leaf))))) [a0, a1, a2, a3] H R = F.expr_join E Tryd.prog a0 a1 a2 a3 H R := by kernel_rfl
theorem b_strings_Join (a0 a1 : AV) (H : AH) (R : Kt) : bodyW E Tryd.prog Tryd.f75 (.seq none .leaf (.seq none (.seq none .leaf (.one (.seq none .leaf (.two (.seq none .leaf .leaf) (.seq none .leaf (.two (.seq none .leaf .leaf) .leaf)))))) (.seq none .leaf (.seq (some [5]) (.seq none .leaf (.two (.seq (some []) (.seq none .leaf (.two .leaf .leaf)) .leaf) .leaf)) (.seq none (.seq none .leaf (.one (.loop [5, 41] (.seq none .leaf (.seq none (.two .leaf .leaf) (.seq none (.one (.seq none .leaf (.seq (some []) (.seq none .leaf (.two .leaf .leaf)) .leaf))) .leaf)))))) (.seq none .leaf (.seq none .leaf (.seq none .leaf (.seq none (.seq none .leaf (.one (.loop [65] (.seq none .leaf (.seq none (.two .leaf .leaf) (.seq none (.one (.seq none .leaf (.seq none .leaf .leaf))) .leaf)))))) (.seq none .leaf .leaf)))))))))) [a0, a1] H R = F.strings_Join E Tryd.prog a0 a1 H R := by kernel_rfl
theorem b_pstrings_Builder_Grow (a0 a1 : AV) (H : AH) (R : Kt) : bodyW E Tryd.prog Tryd.f76 (.seq none .leaf (.seq (some []) (.seq none .leaf (.two .leaf .leaf)) (.seq none .draw (.two .leaf .leaf)))) [a0, a1] H R = F.pstrings_Builder_Grow E Tryd.prog a0 a1 H R := by kernel_rfl
theorem b_pstrings_Builder_WriteString (a0 a1 : AV) (H : AH) (R : Kt) : bodyW E Tryd.prog Tryd.f77 (.seq none .leaf (.seq none .leaf (.seq none .leaf (.seq none .leaf .leaf)))) [a0, a1] H R = F.pstrings_Builder_WriteString E Tryd.prog a0 a1 H R := by kernel_rfl
theorem b_pstrings_Builder_String (a0 : AV) (H : AH) (R : Kt) : bodyW E Tryd.prog Tryd.f78 (.seq none .leaf (.seq none .draw .leaf)) [a0] H R = F.pstrings_Builder_String E Tryd.prog a0 H R := by kernel_rfl
theorem b_pstrings_Builder_copyCheck (a0 : AV) (H : AH) (R : Kt) : bodyW E Tryd.prog Tryd.f79 (.seq none .leaf (.two .leaf (.seq none .leaf (.two .leaf .leaf)))) [a0] H R = F.pstrings_Builder_copyCheck E Tryd.prog a0 H R := by kernel_rfl
theorem b_pstrings_Builder_grow (a0 a1 : AV) (H : AH) (R : Kt) : bodyW E Tryd.prog Tryd.f80 (.seq none .draw (.seq none .leaf .leaf)) [a0, a1] H R = F.pstrings_Builder_grow E Tryd.prog a0 a1 H R := by kernel_rfl
theorem b_expr_Const_Text (a0 : AV) (H : AH) (R : Kt) : bodyW E Tryd.prog Tryd.f83 (.seq none .leaf (.seq none .leaf .leaf)) [a0] H R = F.expr_Const_Text E Tryd.prog a0 H R := by kernel_rfl
theorem b_expr_And_Text (a0 : AV) (H : AH) (R : Kt) : bodyW E Tryd.prog Tryd.f84 (.seq none .leaf (.seq none .leaf .leaf)) [a0] H R = F.expr_And_Text E Tryd.prog a0 H R := by kernel_rfl
theorem b_expr_Or_Text (a0 : AV) (H : AH) (R : Kt) : bodyW E Tryd.prog Tryd.f85 (.seq none .leaf (.seq none .leaf .leaf)) [a0] H R = F.expr_Or_Text E Tryd.prog a0 H R := by kernel_rfl
theorem b_expr_Bit_Text (a0 : AV) (H : AH) (R : Kt) : bodyW E Tryd.prog Tryd.f86 (.seq none .leaf (.seq none .leaf .leaf)) [a0] H R = F.expr_Bit_Text E Tryd.prog a0 H R := by kernel_rfl
theorem b_expr_Rise_Text (a0 : AV) (H : AH) (R : Kt) : bodyW E Tryd.prog Tryd.f87 (.seq none .leaf (.seq none .leaf .leaf)) [a0] H R = F.expr_Rise_Text E Tryd.prog a0 H R := by kernel_rfl
theorem b_expr_Fall_Text (a0 : AV) (H : AH) (R : Kt) : bodyW E Tryd.prog Tryd.f88 (.seq none .leaf (.seq none .leaf .leaf)) [a0] H R = F.expr_Fall_Text E Tryd.prog a0 H R := by kernel_rfl
theorem c_keep_ExprTidy (a0 a1 a2 : AV) (H : AH) (R : Kt) (h : F.keep_ExprTidy E Tryd.prog a0 a1 a2 H R) : ACalls E Tryd.prog 178 [a0, a1, a2] H R :=
  acalls_of_body (show Tryd.prog.funcs[E.fn 178]? = some Tryd.f3 from Tryd.func3) (by kernel_rfl) ((b_keep_ExprTidy a0 a1 a2 H R).mpr h)
theorem c_expr_Parse (a0 : AV) (H : AH) (R : Kt) (h : F.expr_Parse E Tryd.prog a0 H R) : ACalls E Tryd.prog 126 [a0] H R :=
  acalls_of_body (show Tryd.prog.funcs[E.fn 126]? = some Tryd.f4 from Tryd.func4) (by kernel_rfl) ((b_expr_Parse a0 H R).mpr h)
theorem c_keep_says (H : AH) (R : Kt) (h : F.keep_says E Tryd.prog H R) : ACalls E Tryd.prog 155 [] H R :=
  acalls_of_body (show Tryd.prog.funcs[E.fn 155]? = some Tryd.f5 from Tryd.func5) (by kernel_rfl) ((b_keep_says H R).mpr h)
theorem c_expr_Tidy (a0 : AV) (H : AH) (R : Kt) (h : F.expr_Tidy E Tryd.prog a0 H R) : ACalls E Tryd.prog 170 [a0] H R :=
  acalls_of_body (show Tryd.prog.funcs[E.fn 170]? = some Tryd.f6 from Tryd.func6) (by kernel_rfl) ((b_expr_Tidy a0 H R).mpr h)
theorem c_expr_Eval (a0 a1 a2 : AV) (H : AH) (R : Kt) (h : F.expr_Eval E Tryd.prog a0 a1 a2 H R) : ACalls E Tryd.prog 158 [a0, a1, a2] H R :=
  acalls_of_body (show Tryd.prog.funcs[E.fn 158]? = some Tryd.f7 from Tryd.func7) (by kernel_rfl) ((b_expr_Eval a0 a1 a2 H R).mpr h)
theorem c_keep_among (a0 : AV) (H : AH) (R : Kt) (h : F.keep_among E Tryd.prog a0 H R) : ACalls E Tryd.prog 157 [a0] H R :=
  acalls_of_body (show Tryd.prog.funcs[E.fn 157]? = some Tryd.f8 from Tryd.func8) (by kernel_rfl) ((b_keep_among a0 H R).mpr h)
theorem c_expr_Size (a0 : AV) (H : AH) (R : Kt) (h : F.expr_Size E Tryd.prog a0 H R) : ACalls E Tryd.prog 156 [a0] H R :=
  acalls_of_body (show Tryd.prog.funcs[E.fn 156]? = some Tryd.f9 from Tryd.func9) (by kernel_rfl) ((b_expr_Size a0 H R).mpr h)
theorem c_expr_Text (a0 : AV) (H : AH) (R : Kt) (h : F.expr_Text E Tryd.prog a0 H R) : ACalls E Tryd.prog 127 [a0] H R :=
  acalls_of_body (show Tryd.prog.funcs[E.fn 127]? = some Tryd.f10 from Tryd.func10) (by kernel_rfl) ((b_expr_Text a0 H R).mpr h)
theorem c_pexpr_reader_or (a0 a1 : AV) (H : AH) (R : Kt) (h : F.pexpr_reader_or E Tryd.prog a0 a1 H R) : ACalls E Tryd.prog 133 [a0, a1] H R :=
  acalls_of_body (show Tryd.prog.funcs[E.fn 133]? = some Tryd.f11 from Tryd.func11) (by kernel_rfl) ((b_pexpr_reader_or a0 a1 H R).mpr h)
theorem c_pexpr_reader_blanks (a0 : AV) (H : AH) (R : Kt) (h : F.pexpr_reader_blanks E Tryd.prog a0 H R) : ACalls E Tryd.prog 134 [a0] H R :=
  acalls_of_body (show Tryd.prog.funcs[E.fn 134]? = some Tryd.f12 from Tryd.func12) (by kernel_rfl) ((b_pexpr_reader_blanks a0 H R).mpr h)
theorem c_pexpr_reader_fail (a0 a1 : AV) (H : AH) (R : Kt) (h : F.pexpr_reader_fail E Tryd.prog a0 a1 H R) : ACalls E Tryd.prog 135 [a0, a1] H R :=
  acalls_of_body (show Tryd.prog.funcs[E.fn 135]? = some Tryd.f13 from Tryd.func13) (by kernel_rfl) ((b_pexpr_reader_fail a0 a1 H R).mpr h)
theorem c_expr_parts (a0 a1 : AV) (H : AH) (R : Kt) (h : F.expr_parts E Tryd.prog a0 a1 H R) : ACalls E Tryd.prog 173 [a0, a1] H R :=
  acalls_of_body (show Tryd.prog.funcs[E.fn 173]? = some Tryd.f14 from Tryd.func14) (by kernel_rfl) ((b_expr_parts a0 a1 H R).mpr h)
theorem c_slices_ContainsFunc_expr_And_expr_Expr (a0 a1 : AV) (H : AH) (R : Kt) (h : F.slices_ContainsFunc_expr_And_expr_Expr E Tryd.prog a0 a1 H R) : ACalls E Tryd.prog 163 [a0, a1] H R :=
  acalls_of_body (show Tryd.prog.funcs[E.fn 163]? = some Tryd.f15 from Tryd.func15) (by kernel_rfl) ((b_slices_ContainsFunc_expr_And_expr_Expr a0 a1 H R).mpr h)
theorem c_expr_Eval_c1 (a0 a1 a2 : AV) (H : AH) (R : Kt) (h : F.expr_Eval_c1 E Tryd.prog a0 a1 a2 H R) : ACalls E Tryd.prog 162 [a0, a1, a2] H R :=
  acalls_of_body (show Tryd.prog.funcs[E.fn 162]? = some Tryd.f16 from Tryd.func16) (by kernel_rfl) ((b_expr_Eval_c1 a0 a1 a2 H R).mpr h)
theorem c_slices_ContainsFunc_expr_Or_expr_Expr (a0 a1 : AV) (H : AH) (R : Kt) (h : F.slices_ContainsFunc_expr_Or_expr_Expr E Tryd.prog a0 a1 H R) : ACalls E Tryd.prog 165 [a0, a1] H R :=
  acalls_of_body (show Tryd.prog.funcs[E.fn 165]? = some Tryd.f17 from Tryd.func17) (by kernel_rfl) ((b_slices_ContainsFunc_expr_Or_expr_Expr a0 a1 H R).mpr h)
theorem c_expr_Eval_c2 (a0 a1 a2 : AV) (H : AH) (R : Kt) (h : F.expr_Eval_c2 E Tryd.prog a0 a1 a2 H R) : ACalls E Tryd.prog 164 [a0, a1, a2] H R :=
  acalls_of_body (show Tryd.prog.funcs[E.fn 164]? = some Tryd.f18 from Tryd.func18) (by kernel_rfl) ((b_expr_Eval_c2 a0 a1 a2 H R).mpr h)
theorem c_keep_among_c1 (a0 a1 : AV) (H : AH) (R : Kt) (h : F.keep_among_c1 E Tryd.prog a0 a1 H R) : ACalls E Tryd.prog 166 [a0, a1] H R :=
  acalls_of_body (show Tryd.prog.funcs[E.fn 166]? = some Tryd.f19 from Tryd.func19) (by kernel_rfl) ((b_keep_among_c1 a0 a1 H R).mpr h)
theorem c_expr_walk (a0 a1 : AV) (H : AH) (R : Kt) (h : F.expr_walk E Tryd.prog a0 a1 H R) : ACalls E Tryd.prog 161 [a0, a1] H R :=
  acalls_of_body (show Tryd.prog.funcs[E.fn 161]? = some Tryd.f20 from Tryd.func20) (by kernel_rfl) ((b_expr_walk a0 a1 H R).mpr h)
theorem c_expr_Size_c1 (a0 a1 : AV) (H : AH) (R : Kt) (h : F.expr_Size_c1 E Tryd.prog a0 a1 H R) : ACalls E Tryd.prog 160 [a0, a1] H R :=
  acalls_of_body (show Tryd.prog.funcs[E.fn 160]? = some Tryd.f21 from Tryd.func21) (by kernel_rfl) ((b_expr_Size_c1 a0 a1 H R).mpr h)
theorem c_pexpr_reader_several (a0 a1 a2 a3 : AV) (H : AH) (R : Kt) (h : F.pexpr_reader_several E Tryd.prog a0 a1 a2 a3 H R) : ACalls E Tryd.prog 140 [a0, a1, a2, a3] H R :=
  acalls_of_body (show Tryd.prog.funcs[E.fn 140]? = some Tryd.f22 from Tryd.func22) (by kernel_rfl) ((b_pexpr_reader_several a0 a1 a2 a3 H R).mpr h)
theorem c_pexpr_reader_and (a0 a1 : AV) (H : AH) (R : Kt) (h : F.pexpr_reader_and E Tryd.prog a0 a1 H R) : ACalls E Tryd.prog 139 [a0, a1] H R :=
  acalls_of_body (show Tryd.prog.funcs[E.fn 139]? = some Tryd.f23 from Tryd.func23) (by kernel_rfl) ((b_pexpr_reader_and a0 a1 H R).mpr h)
theorem c_expr_parts_c1 (a0 a1 a2 : AV) (H : AH) (R : Kt) (h : F.expr_parts_c1 E Tryd.prog a0 a1 a2 H R) : ACalls E Tryd.prog 175 [a0, a1, a2] H R :=
  acalls_of_body (show Tryd.prog.funcs[E.fn 175]? = some Tryd.f24 from Tryd.func24) (by kernel_rfl) ((b_expr_parts_c1 a0 a1 a2 H R).mpr h)
theorem c_slices_Contains_Lstring_string (a0 a1 : AV) (H : AH) (R : Kt) (h : F.slices_Contains_Lstring_string E Tryd.prog a0 a1 H R) : ACalls E Tryd.prog 5 [a0, a1] H R :=
  acalls_of_body (show Tryd.prog.funcs[E.fn 5]? = some Tryd.f25 from Tryd.func25) (by kernel_rfl) ((b_slices_Contains_Lstring_string a0 a1 H R).mpr h)
theorem c_slices_ContainsFunc_Lexpr_Expr_expr_Expr (a0 a1 : AV) (H : AH) (R : Kt) (h : F.slices_ContainsFunc_Lexpr_Expr_expr_Expr E Tryd.prog a0 a1 H R) : ACalls E Tryd.prog 176 [a0, a1] H R :=
  acalls_of_body (show Tryd.prog.funcs[E.fn 176]? = some Tryd.f26 from Tryd.func26) (by kernel_rfl) ((b_slices_ContainsFunc_Lexpr_Expr_expr_Expr a0 a1 H R).mpr h)
theorem c_slices_IndexFunc_expr_And_expr_Expr (a0 a1 : AV) (H : AH) (R : Kt) (h : F.slices_IndexFunc_expr_And_expr_Expr E Tryd.prog a0 a1 H R) : ACalls E Tryd.prog 167 [a0, a1] H R :=
  acalls_of_body (show Tryd.prog.funcs[E.fn 167]? = some Tryd.f27 from Tryd.func27) (by kernel_rfl) ((b_slices_IndexFunc_expr_And_expr_Expr a0 a1 H R).mpr h)
theorem c_slices_IndexFunc_expr_Or_expr_Expr (a0 a1 : AV) (H : AH) (R : Kt) (h : F.slices_IndexFunc_expr_Or_expr_Expr E Tryd.prog a0 a1 H R) : ACalls E Tryd.prog 168 [a0, a1] H R :=
  acalls_of_body (show Tryd.prog.funcs[E.fn 168]? = some Tryd.f28 from Tryd.func28) (by kernel_rfl) ((b_slices_IndexFunc_expr_Or_expr_Expr a0 a1 H R).mpr h)
theorem c_pexpr_reader_take (a0 a1 : AV) (H : AH) (R : Kt) (h : F.pexpr_reader_take E Tryd.prog a0 a1 H R) : ACalls E Tryd.prog 143 [a0, a1] H R :=
  acalls_of_body (show Tryd.prog.funcs[E.fn 143]? = some Tryd.f29 from Tryd.func29) (by kernel_rfl) ((b_pexpr_reader_take a0 a1 H R).mpr h)
theorem c_pexpr_reader_one (a0 a1 : AV) (H : AH) (R : Kt) (h : F.pexpr_reader_one E Tryd.prog a0 a1 H R) : ACalls E Tryd.prog 144 [a0, a1] H R :=
  acalls_of_body (show Tryd.prog.funcs[E.fn 144]? = some Tryd.f30 from Tryd.func30) (by kernel_rfl) ((b_pexpr_reader_one a0 a1 H R).mpr h)
theorem c_slices_Index_Lstring_string (a0 a1 : AV) (H : AH) (R : Kt) (h : F.slices_Index_Lstring_string E Tryd.prog a0 a1 H R) : ACalls E Tryd.prog 13 [a0, a1] H R :=
  acalls_of_body (show Tryd.prog.funcs[E.fn 13]? = some Tryd.f31 from Tryd.func31) (by kernel_rfl) ((b_slices_Index_Lstring_string a0 a1 H R).mpr h)
theorem c_slices_IndexFunc_Lexpr_Expr_expr_Expr (a0 a1 : AV) (H : AH) (R : Kt) (h : F.slices_IndexFunc_Lexpr_Expr_expr_Expr E Tryd.prog a0 a1 H R) : ACalls E Tryd.prog 177 [a0, a1] H R :=
  acalls_of_body (show Tryd.prog.funcs[E.fn 177]? = some Tryd.f32 from Tryd.func32) (by kernel_rfl) ((b_slices_IndexFunc_Lexpr_Expr_expr_Expr a0 a1 H R).mpr h)
theorem c_pexpr_reader_word (a0 : AV) (H : AH) (R : Kt) (h : F.pexpr_reader_word E Tryd.prog a0 H R) : ACalls E Tryd.prog 145 [a0] H R :=
  acalls_of_body (show Tryd.prog.funcs[E.fn 145]? = some Tryd.f33 from Tryd.func33) (by kernel_rfl) ((b_pexpr_reader_word a0 H R).mpr h)
theorem c_strings_IndexByte (a0 a1 : AV) (H : AH) (R : Kt) (h : F.strings_IndexByte E Tryd.prog a0 a1 H R) : ACalls E Tryd.prog 21 [a0, a1] H R :=
  acalls_of_body (show Tryd.prog.funcs[E.fn 21]? = some Tryd.f34 from Tryd.func34) (by kernel_rfl) ((b_strings_IndexByte a0 a1 H R).mpr h)
theorem c_expr_Name (a0 : AV) (H : AH) (R : Kt) (h : F.expr_Name E Tryd.prog a0 H R) : ACalls E Tryd.prog 1 [a0] H R :=
  acalls_of_body (show Tryd.prog.funcs[E.fn 1]? = some Tryd.f35 from Tryd.func35) (by kernel_rfl) ((b_expr_Name a0 H R).mpr h)
theorem c_internal_stringslite_IndexByte (a0 a1 : AV) (H : AH) (R : Kt) (h : F.internal_stringslite_IndexByte E Tryd.prog a0 a1 H R) : ACalls E Tryd.prog 23 [a0, a1] H R :=
  acalls_of_body (show Tryd.prog.funcs[E.fn 23]? = some Tryd.f36 from Tryd.func36) (by kernel_rfl) ((b_internal_stringslite_IndexByte a0 a1 H R).mpr h)
theorem c_strings_Trim (a0 a1 : AV) (H : AH) (R : Kt) (h : F.strings_Trim E Tryd.prog a0 a1 H R) : ACalls E Tryd.prog 4 [a0, a1] H R :=
  acalls_of_body (show Tryd.prog.funcs[E.fn 4]? = some Tryd.f37 from Tryd.func37) (by kernel_rfl) ((b_strings_Trim a0 a1 H R).mpr h)
theorem c_strings_trimLeftByte (a0 a1 : AV) (H : AH) (R : Kt) (h : F.strings_trimLeftByte E Tryd.prog a0 a1 H R) : ACalls E Tryd.prog 7 [a0, a1] H R :=
  acalls_of_body (show Tryd.prog.funcs[E.fn 7]? = some Tryd.f39 from Tryd.func39) (by kernel_rfl) ((b_strings_trimLeftByte a0 a1 H R).mpr h)
theorem c_strings_trimRightByte (a0 a1 : AV) (H : AH) (R : Kt) (h : F.strings_trimRightByte E Tryd.prog a0 a1 H R) : ACalls E Tryd.prog 6 [a0, a1] H R :=
  acalls_of_body (show Tryd.prog.funcs[E.fn 6]? = some Tryd.f40 from Tryd.func40) (by kernel_rfl) ((b_strings_trimRightByte a0 a1 H R).mpr h)
theorem c_strings_makeASCIISet (a0 : AV) (H : AH) (R : Kt) (h : F.strings_makeASCIISet E Tryd.prog a0 H R) : ACalls E Tryd.prog 8 [a0] H R :=
  acalls_of_body (show Tryd.prog.funcs[E.fn 8]? = some Tryd.f41 from Tryd.func41) (by kernel_rfl) ((b_strings_makeASCIISet a0 H R).mpr h)
theorem c_strings_trimLeftASCII (a0 a1 : AV) (H : AH) (R : Kt) (h : F.strings_trimLeftASCII E Tryd.prog a0 a1 H R) : ACalls E Tryd.prog 10 [a0, a1] H R :=
  acalls_of_body (show Tryd.prog.funcs[E.fn 10]? = some Tryd.f42 from Tryd.func42) (by kernel_rfl) ((b_strings_trimLeftASCII a0 a1 H R).mpr h)
theorem c_strings_trimRightASCII (a0 a1 : AV) (H : AH) (R : Kt) (h : F.strings_trimRightASCII E Tryd.prog a0 a1 H R) : ACalls E Tryd.prog 9 [a0, a1] H R :=
  acalls_of_body (show Tryd.prog.funcs[E.fn 9]? = some Tryd.f43 from Tryd.func43) (by kernel_rfl) ((b_strings_trimRightASCII a0 a1 H R).mpr h)
theorem c_strings_trimLeftUnicode (a0 a1 : AV) (H : AH) (R : Kt) (h : F.strings_trimLeftUnicode E Tryd.prog a0 a1 H R) : ACalls E Tryd.prog 12 [a0, a1] H R :=
  acalls_of_body (show Tryd.prog.funcs[E.fn 12]? = some Tryd.f44 from Tryd.func44) (by kernel_rfl) ((b_strings_trimLeftUnicode a0 a1 H R).mpr h)
theorem c_strings_trimRightUnicode (a0 a1 : AV) (H : AH) (R : Kt) (h : F.strings_trimRightUnicode E Tryd.prog a0 a1 H R) : ACalls E Tryd.prog 11 [a0, a1] H R :=
  acalls_of_body (show Tryd.prog.funcs[E.fn 11]? = some Tryd.f45 from Tryd.func45) (by kernel_rfl) ((b_strings_trimRightUnicode a0 a1 H R).mpr h)
theorem c_pstrings_asciiSet_contains (a0 a1 : AV) (H : AH) (R : Kt) (h : F.pstrings_asciiSet_contains E Tryd.prog a0 a1 H R) : ACalls E Tryd.prog 14 [a0, a1] H R :=
  acalls_of_body (show Tryd.prog.funcs[E.fn 14]? = some Tryd.f46 from Tryd.func46) (by kernel_rfl) ((b_pstrings_asciiSet_contains a0 a1 H R).mpr h)
theorem c_unicode_utf8_DecodeRuneInString (a0 : AV) (H : AH) (R : Kt) (h : F.unicode_utf8_DecodeRuneInString E Tryd.prog a0 H R) : ACalls E Tryd.prog 15 [a0] H R :=
  acalls_of_body (show Tryd.prog.funcs[E.fn 15]? = some Tryd.f47 from Tryd.func47) (by kernel_rfl) ((b_unicode_utf8_DecodeRuneInString a0 H R).mpr h)
theorem c_strings_ContainsRune (a0 a1 : AV) (H : AH) (R : Kt) (h : F.strings_ContainsRune E Tryd.prog a0 a1 H R) : ACalls E Tryd.prog 16 [a0, a1] H R :=
  acalls_of_body (show Tryd.prog.funcs[E.fn 16]? = some Tryd.f48 from Tryd.func48) (by kernel_rfl) ((b_strings_ContainsRune a0 a1 H R).mpr h)
theorem c_unicode_utf8_DecodeLastRuneInString (a0 : AV) (H : AH) (R : Kt) (h : F.unicode_utf8_DecodeLastRuneInString E Tryd.prog a0 H R) : ACalls E Tryd.prog 17 [a0] H R :=
  acalls_of_body (show Tryd.prog.funcs[E.fn 17]? = some Tryd.f49 from Tryd.func49) (by kernel_rfl) ((b_unicode_utf8_DecodeLastRuneInString a0 H R).mpr h)
theorem c_unicode_utf8_decodeRuneInStringSlow (a0 : AV) (H : AH) (R : Kt) (h : F.unicode_utf8_decodeRuneInStringSlow E Tryd.prog a0 H R) : ACalls E Tryd.prog 18 [a0] H R :=
  acalls_of_body (show Tryd.prog.funcs[E.fn 18]? = some Tryd.f50 from Tryd.func50) (by kernel_rfl) ((b_unicode_utf8_decodeRuneInStringSlow a0 H R).mpr h)
theorem c_strings_IndexRune_ScV11 (a0 a1 : AV) (H : AH) (R : Kt) (h : F.strings_IndexRune_ScV11 E Tryd.prog a0 a1 H R) : ACalls E Tryd.prog 19 [a0, a1] H R :=
  acalls_of_body (show Tryd.prog.funcs[E.fn 19]? = some Tryd.f51 from Tryd.func51) (by kernel_rfl) ((b_strings_IndexRune_ScV11 a0 a1 H R).mpr h)
theorem c_unicode_utf8_RuneStart (a0 : AV) (H : AH) (R : Kt) (h : F.unicode_utf8_RuneStart E Tryd.prog a0 H R) : ACalls E Tryd.prog 20 [a0] H R :=
  acalls_of_body (show Tryd.prog.funcs[E.fn 20]? = some Tryd.f52 from Tryd.func52) (by kernel_rfl) ((b_unicode_utf8_RuneStart a0 H R).mpr h)
theorem c_unicode_utf8_ValidRune (a0 : AV) (H : AH) (R : Kt) (h : F.unicode_utf8_ValidRune E Tryd.prog a0 H R) : ACalls E Tryd.prog 22 [a0] H R :=
  acalls_of_body (show Tryd.prog.funcs[E.fn 22]? = some Tryd.f53 from Tryd.func53) (by kernel_rfl) ((b_unicode_utf8_ValidRune a0 H R).mpr h)
theorem c_internal_bytealg_Cutover (a0 : AV) (H : AH) (R : Kt) (h : F.internal_bytealg_Cutover E Tryd.prog a0 H R) : ACalls E Tryd.prog 24 [a0] H R :=
  acalls_of_body (show Tryd.prog.funcs[E.fn 24]? = some Tryd.f54 from Tryd.func54) (by kernel_rfl) ((b_internal_bytealg_Cutover a0 H R).mpr h)
theorem c_expr_Not_Text (a0 : AV) (H : AH) (R : Kt) (h : F.expr_Not_Text E Tryd.prog a0 H R) : ACalls E Tryd.prog 150 [a0] H R :=
  acalls_of_body (show Tryd.prog.funcs[E.fn 150]? = some Tryd.f72 from Tryd.func72) (by kernel_rfl) ((b_expr_Not_Text a0 H R).mpr h)
theorem c_expr_write (a0 a1 : AV) (H : AH) (R : Kt) (h : F.expr_write E Tryd.prog a0 a1 H R) : ACalls E Tryd.prog 146 [a0, a1] H R :=
  acalls_of_body (show Tryd.prog.funcs[E.fn 146]? = some Tryd.f73 from Tryd.func73) (by kernel_rfl) ((b_expr_write a0 a1 H R).mpr h)
theorem c_expr_join (a0 a1 a2 a3 : AV) (H : AH) (R : Kt) (h : F.expr_join E Tryd.prog a0 a1 a2 a3 H R) : ACalls E Tryd.prog 148 [a0, a1, a2, a3] H R :=
  acalls_of_body (show Tryd.prog.funcs[E.fn 148]? = some Tryd.f74 from Tryd.func74) (by kernel_rfl) ((b_expr_join a0 a1 a2 a3 H R).mpr h)
theorem c_strings_Join (a0 a1 : AV) (H : AH) (R : Kt) (h : F.strings_Join E Tryd.prog a0 a1 H R) : ACalls E Tryd.prog 118 [a0, a1] H R :=
  acalls_of_body (show Tryd.prog.funcs[E.fn 118]? = some Tryd.f75 from Tryd.func75) (by kernel_rfl) ((b_strings_Join a0 a1 H R).mpr h)
theorem c_pstrings_Builder_Grow (a0 a1 : AV) (H : AH) (R : Kt) (h : F.pstrings_Builder_Grow E Tryd.prog a0 a1 H R) : ACalls E Tryd.prog 119 [a0, a1] H R :=
  acalls_of_body (show Tryd.prog.funcs[E.fn 119]? = some Tryd.f76 from Tryd.func76) (by kernel_rfl) ((b_pstrings_Builder_Grow a0 a1 H R).mpr h)
theorem c_pstrings_Builder_WriteString (a0 a1 : AV) (H : AH) (R : Kt) (h : F.pstrings_Builder_WriteString E Tryd.prog a0 a1 H R) : ACalls E Tryd.prog 120 [a0, a1] H R :=
  acalls_of_body (show Tryd.prog.funcs[E.fn 120]? = some Tryd.f77 from Tryd.func77) (by kernel_rfl) ((b_pstrings_Builder_WriteString a0 a1 H R).mpr h)
theorem c_pstrings_Builder_String (a0 : AV) (H : AH) (R : Kt) (h : F.pstrings_Builder_String E Tryd.prog a0 H R) : ACalls E Tryd.prog 121 [a0] H R :=
  acalls_of_body (show Tryd.prog.funcs[E.fn 121]? = some Tryd.f78 from Tryd.func78) (by kernel_rfl) ((b_pstrings_Builder_String a0 H R).mpr h)
theorem c_pstrings_Builder_copyCheck (a0 : AV) (H : AH) (R : Kt) (h : F.pstrings_Builder_copyCheck E Tryd.prog a0 H R) : ACalls E Tryd.prog 122 [a0] H R :=
  acalls_of_body (show Tryd.prog.funcs[E.fn 122]? = some Tryd.f79 from Tryd.func79) (by kernel_rfl) ((b_pstrings_Builder_copyCheck a0 H R).mpr h)
theorem c_pstrings_Builder_grow (a0 a1 : AV) (H : AH) (R : Kt) (h : F.pstrings_Builder_grow E Tryd.prog a0 a1 H R) : ACalls E Tryd.prog 124 [a0, a1] H R :=
  acalls_of_body (show Tryd.prog.funcs[E.fn 124]? = some Tryd.f80 from Tryd.func80) (by kernel_rfl) ((b_pstrings_Builder_grow a0 a1 H R).mpr h)
theorem c_expr_Const_Text (a0 : AV) (H : AH) (R : Kt) (h : F.expr_Const_Text E Tryd.prog a0 H R) : ACalls E Tryd.prog 151 [a0] H R :=
  acalls_of_body (show Tryd.prog.funcs[E.fn 151]? = some Tryd.f83 from Tryd.func83) (by kernel_rfl) ((b_expr_Const_Text a0 H R).mpr h)
theorem c_expr_And_Text (a0 : AV) (H : AH) (R : Kt) (h : F.expr_And_Text E Tryd.prog a0 H R) : ACalls E Tryd.prog 149 [a0] H R :=
  acalls_of_body (show Tryd.prog.funcs[E.fn 149]? = some Tryd.f84 from Tryd.func84) (by kernel_rfl) ((b_expr_And_Text a0 H R).mpr h)
theorem c_expr_Or_Text (a0 : AV) (H : AH) (R : Kt) (h : F.expr_Or_Text E Tryd.prog a0 H R) : ACalls E Tryd.prog 147 [a0] H R :=
  acalls_of_body (show Tryd.prog.funcs[E.fn 147]? = some Tryd.f85 from Tryd.func85) (by kernel_rfl) ((b_expr_Or_Text a0 H R).mpr h)
theorem c_expr_Bit_Text (a0 : AV) (H : AH) (R : Kt) (h : F.expr_Bit_Text E Tryd.prog a0 H R) : ACalls E Tryd.prog 154 [a0] H R :=
  acalls_of_body (show Tryd.prog.funcs[E.fn 154]? = some Tryd.f86 from Tryd.func86) (by kernel_rfl) ((b_expr_Bit_Text a0 H R).mpr h)
theorem c_expr_Rise_Text (a0 : AV) (H : AH) (R : Kt) (h : F.expr_Rise_Text E Tryd.prog a0 H R) : ACalls E Tryd.prog 152 [a0] H R :=
  acalls_of_body (show Tryd.prog.funcs[E.fn 152]? = some Tryd.f87 from Tryd.func87) (by kernel_rfl) ((b_expr_Rise_Text a0 H R).mpr h)
theorem c_expr_Fall_Text (a0 : AV) (H : AH) (R : Kt) (h : F.expr_Fall_Text E Tryd.prog a0 H R) : ACalls E Tryd.prog 153 [a0] H R :=
  acalls_of_body (show Tryd.prog.funcs[E.fn 153]? = some Tryd.f88 from Tryd.func88) (by kernel_rfl) ((b_expr_Fall_Text a0 H R).mpr h)
end Go.Proofs.YtbogoilcfokihaaDoor
namespace Go.Sc
set_option linter.unusedSimpArgs false
open Go Go.RowKit
section
variable {E : Env} {P : Program}
theorem intercalate_joinS (sep : Str) : ∀ l : List Str, sep.intercalate l = joinS sep l
  | [] => by simp [List.intercalate, joinS]
  | [x] => by simp [List.intercalate, joinS]
  | x :: y :: l => by
    have := intercalate_joinS sep (y :: l)
    simp only [List.intercalate, List.intersperse, List.flatten_cons, joinS] at this ⊢
    rw [this]; simp
theorem indexByte_idx (c : UInt8) : ∀ s : Str, Lib.indexByte s c = idx s c
  | [] => by simp [Lib.indexByte, idx]
  | x :: s => by
    have ih := indexByte_idx c s
    unfold Lib.indexByte
    by_cases h : x = c
    · subst h; simp [idx]
    · have h' : ¬ c = x := fun e => h e.symm
      have hb : (x == c) = false := by simpa using h
      by_cases hm : c ∈ s
      · simp [idx, hm, h, h', ih, List.idxOf_cons, hb] <;> omega
      · simp [idx, hm, h, h', ih]
theorem cell_in {w : World} {b o : Nat} {v : Value} (h : w.cell? ⟨b, o, none⟩ = some v) : b < w.heap.size := by
  by_cases hb : b < w.heap.size
  · exact hb
  · simp [World.cell?, Array.getElem?_eq_none (Nat.le_of_not_lt hb)] at h
theorem FX.indexByte {k : Nat} {fn : Func} (hf : P.funcs[E.fn k]? = some fn) (hn : (fn.name == "runtime.NumGoroutine") = false) (hb : fn.body.isNone = false)
    (h : ∀ (s : ByteArray) (c : Int) (w : World), Calls P (E.fn k) #[.string s, .int .u8 c] w fun e w' => e = .returned (.int .i64 (Lib.indexByte s.data.toList c.toNat.toUInt8)) ∧ w' = w) (s : Str) (c : UInt8) : FX E P k [S s, By c] (Z (idx s c)) := by
  refine FX.ofCalls hf hn hb (by simp [AV.closedL, AV.closed]) (by simp [AV.flat]) (by simp [AV.closed]) fun cx vs _ _ hv => ?_
  simp only [LRel, VRel] at hv
  obtain ⟨v0, _, rfl, rfl, v1, _, rfl, rfl, rfl⟩ := hv
  refine (h ⟨s.toArray⟩ c.toNat cx.w).mono ?_
  rintro e w' ⟨rfl, rfl⟩
  refine ⟨_, rfl, Below.refl _ _, ?_⟩
  have e1 : (((c.toNat : Nat) : Int).toNat).toUInt8 = c := by simp
  rw [e1, indexByte_idx]
  simp [VRel]
theorem FX.join {k : Nat} {fn : Func} (hf : P.funcs[E.fn k]? = some fn) (hn : (fn.name == "runtime.NumGoroutine") = false) (hb : fn.body.isNone = false)
    (h0 : ∀ (a : Option Addr) (c : Nat) (sep : ByteArray) (w : World), Calls P (E.fn k) #[.slice a 0 c, .string sep] w fun e w' => e = .returned (.string ⟨#[]⟩) ∧ w' = w)
    (h1 : ∀ (bk o c : Nat) (xs : List ByteArray) (sep : ByteArray) (w : World), (∀ (j : Nat) x, xs[j]? = some x → w.cell? ⟨bk, o + j, none⟩ = some (.string x)) → bk < w.heap.size → xs.length ≤ 140737488355328 → xs.length ≤ c → (Lib.join (xs.map (·.data.toList)) sep.data.toList).length ≤ 140737488355328 →
      Calls P (E.fn k) #[.slice (some ⟨bk, o, none⟩) xs.length c, .string sep] w fun e w' => e = .returned (.string ⟨(Lib.join (xs.map (·.data.toList)) sep.data.toList).toArray⟩) ∧ Below w.heap.size w w')
    (l : List Str) (sep : Str) (hl : l.length ≤ 140737488355328) (hj : (joinS sep l).length ≤ 140737488355328) : FX E P k [Lm S l, S sep] (S (joinS sep l)) := by
  refine FX.ofCalls hf hn hb (by simp only [AV.closedL, Lm, AV.closed]; exact ⟨closed_S l, trivial, trivial⟩) (by simp [AV.flat]) (by simp [AV.closed]) fun cx vs _ _ hv => ?_
  simp only [LRel] at hv
  obtain ⟨v0, _, rfl, hv0, v1, _, rfl, hv1, rfl⟩ := hv
  simp only [VRel] at hv1
  subst hv1
  simp only [Lm, VRel] at hv0
  cases l with
  | nil =>
    have hz : ∃ a c, v0 = .slice a 0 c := by
      rcases hv0 with ⟨rfl, _⟩ | ⟨p, cap, rfl, _⟩
      · exact ⟨_, _, rfl⟩
      · exact ⟨_, _, rfl⟩
    obtain ⟨a, c, rfl⟩ := hz
    refine (h0 a c ⟨sep.toArray⟩ cx.w).mono ?_
    rintro e w' ⟨rfl, rfl⟩
    exact ⟨_, rfl, Below.refl _ _, by simp [VRel, joinS]⟩
  | cons x l =>
    rcases hv0 with ⟨_, h⟩ | ⟨p, cap, rfl, hcap, hc⟩
    · simp at h
    rcases hc with hc | ⟨b, o, rfl, hc⟩
    · simp at hcap; omega
    have hcells : ∀ (j : Nat) y, ((x :: l).map fun s : Str => (⟨s.toArray⟩ : ByteArray))[j]? = some y → cx.w.cell? ⟨b, o + j, none⟩ = some (.string y) := fun j y hy => by
      rw [List.getElem?_map] at hy
      simp only [Option.map_eq_some_iff] at hy
      obtain ⟨s, hs, rfl⟩ := hy
      obtain ⟨u, hu, hv⟩ := hc.get (i := j) (x := S s) (by rw [List.getElem?_map, hs]; rfl)
      simp only [VRel] at hv
      rw [hu, hv]
    have hb0 := cell_in (hcells 0 ⟨x.toArray⟩ (by simp))
    have hlen : ((x :: l).map fun s : Str => (⟨s.toArray⟩ : ByteArray)).length = (x :: l).length := by simp
    have hjj : Lib.join (((x :: l).map fun s : Str => (⟨s.toArray⟩ : ByteArray)).map (·.data.toList)) (⟨sep.toArray⟩ : ByteArray).data.toList = joinS sep (x :: l) := by
      unfold Lib.join
      rw [List.map_map, intercalate_joinS]
      congr 1
      simp [Function.comp_def]
    have := h1 b o cap ((x :: l).map fun s => ⟨s.toArray⟩) ⟨sep.toArray⟩ cx.w hcells hb0 (by rw [hlen]; exact hl) (by rw [hlen]; exact hcap) (by rw [hjj]; exact hj)
    rw [hlen, hjj] at this
    refine this.mono ?_
    rintro e w' ⟨rfl, bel⟩
    exact ⟨_, rfl, bel, by simp [VRel]⟩
end
end Go.Sc
set_option maxRecDepth 100000
namespace Go.Proofs
open Go.Shelf
def Tryd.lays156_ren : Go.Shelf.Ren := ⟨fun | 156 => 75 | 165 => 76 | 166 => 77 | 169 => 78 | 240 => 79 | 241 => 80 | 276 => 81 | 277 => 82 | n => n, fun | 31 => 22 | 9 => 9 | 3 => 3 | 4 => 4 | 0 => 0 | 20 => 20 | 72 => 117 | 76 => 119 | 70 => 114 | 37 => 115 | 75 => 26 | 127 => 106 | 164 => 121 | 5 => 5 | 80 => 59 | n => n, fun | n => n⟩
theorem Tryd.lays156 : Go.Proofs.Lays.n156 Tryd.prog Tryd.lays156_ren := {
  mixed := by kernel_rfl
  f156 := Tryd.func75.trans (congrArg some (by kernel_rfl))
  f165 := Tryd.func76.trans (congrArg some (by kernel_rfl))
  f166 := Tryd.func77.trans (congrArg some (by kernel_rfl))
  f169 := Tryd.func78.trans (congrArg some (by kernel_rfl))
  f240 := Tryd.func79.trans (congrArg some (by kernel_rfl))
  f241 := Tryd.func80.trans (congrArg some (by kernel_rfl))
  f276 := Tryd.func81.trans (congrArg some (by kernel_rfl))
  f277 := Tryd.func82.trans (congrArg some (by kernel_rfl))
  t0 := Tryd.underlying0
  a0 := Tryd.isAgg0
  z0 := Tryd.sizeOf0
  v0 := Tryd.zeroValue0
  t3 := Tryd.underlying3
  a3 := Tryd.isAgg3
  z3 := Tryd.sizeOf3
  v3 := Tryd.zeroValue3
  t4 := Tryd.underlying4
  a4 := Tryd.isAgg4
  z4 := Tryd.sizeOf4
  v4 := Tryd.zeroValue4
  t9 := Tryd.underlying9
  a9 := Tryd.isAgg9
  z9 := Tryd.sizeOf9
  v9 := Tryd.zeroValue9
  t20 := Tryd.underlying20
  a20 := Tryd.isAgg20
  z20 := Tryd.sizeOf20
  v20 := Tryd.zeroValue20
  t31 := Tryd.underlying22
  a31 := Tryd.isAgg22
  z31 := Tryd.sizeOf22
  v31 := Tryd.zeroValue22
  t37 := Tryd.underlying115
  a37 := Tryd.isAgg115
  z37 := Tryd.sizeOf115
  v37 := Tryd.zeroValue115
  t70 := Tryd.underlying114
  a70 := Tryd.isAgg114
  z70 := Tryd.sizeOf114
  v70 := Tryd.zeroValue114
  t72 := Tryd.underlying117
  a72 := Tryd.isAgg117
  z72 := Tryd.sizeOf117
  v72 := Tryd.zeroValue117
  t75 := Tryd.underlying26
  a75 := Tryd.isAgg26
  z75 := Tryd.sizeOf26
  v75 := Tryd.zeroValue26
  t76 := Tryd.underlying119
  a76 := Tryd.isAgg119
  z76 := Tryd.sizeOf119
  v76 := Tryd.zeroValue119
  t127 := Tryd.underlying106
  a127 := Tryd.isAgg106
  z127 := Tryd.sizeOf106
  v127 := Tryd.zeroValue106
  t164 := Tryd.underlying121
  a164 := Tryd.isAgg121
  z164 := Tryd.sizeOf121
  v164 := Tryd.zeroValue121 }
theorem Tryd.Builder_Extra_156 : Builder.Extra Tryd.prog Tryd.lays156_ren := {
  sizeBuilder := by kernel_rfl
  liesBuilder := by kernel_rfl
  t5 := Tryd.underlying5
  a5 := Tryd.isAgg5
  z5 := Tryd.sizeOf5
  v5 := Tryd.zeroValue5
  infoByte := by kernel_rfl
  cellsByte := by kernel_rfl
  sizeByte := by kernel_rfl
  neB5 := by decide }
open Go.RowKit in
theorem Tryd.strings_Join_none (a : Option Addr) (c : Nat) (sep : ByteArray) (w : World) :
    Calls Tryd.prog 75 #[.slice a 0 c, .string sep] w fun e w' => e = .returned (.string ⟨#[]⟩) ∧ w' = w := Any.strings_Join_none Tryd.lays156 Tryd.Builder_Extra_156 a c sep w
open Go.RowKit in
theorem Tryd.strings_Join (bk o c : Nat) (xs : List ByteArray) (sep : ByteArray) (w : World) (hcells : ∀ (j : Nat) x, xs[j]? = some x → w.cell? ⟨bk, o + j, none⟩ = some (.string x)) (hbk : bk < w.heap.size) (hN : xs.length ≤ 140737488355328) (hcap : xs.length ≤ c) (hlen : (Lib.join (xs.map (·.data.toList)) sep.data.toList).length ≤ 140737488355328) :
    Calls Tryd.prog 75 #[.slice (some ⟨bk, o, none⟩) xs.length c, .string sep] w fun e w' => e = .returned (.string ⟨(Lib.join (xs.map (·.data.toList)) sep.data.toList).toArray⟩) ∧ Below w.heap.size w w' := Any.strings_Join Tryd.lays156 Tryd.Builder_Extra_156 bk o c xs sep w hcells hbk hN hcap hlen
def Tryd.lays137_ren : Go.Shelf.Ren := ⟨fun | 137 => 34 | 217 => 36 | 266 => 38 | n => n, fun | 9 => 9 | 5 => 5 | 3 => 3 | n => n, fun | n => n⟩
theorem Tryd.lays137 : Go.Proofs.Lays.n137 Tryd.prog Tryd.lays137_ren := {
  mixed := by kernel_rfl
  f137 := Tryd.func34.trans (congrArg some (by kernel_rfl))
  f217 := Tryd.func36.trans (congrArg some (by kernel_rfl))
  f266 := Tryd.func38.trans (congrArg some (by kernel_rfl))
  t3 := Tryd.underlying3
  a3 := Tryd.isAgg3
  z3 := Tryd.sizeOf3
  v3 := Tryd.zeroValue3
  t5 := Tryd.underlying5
  a5 := Tryd.isAgg5
  z5 := Tryd.sizeOf5
  v5 := Tryd.zeroValue5
  t9 := Tryd.underlying9
  a9 := Tryd.isAgg9
  z9 := Tryd.sizeOf9
  v9 := Tryd.zeroValue9 }
open Go.RowKit in
theorem Tryd.strings_IndexByte (s : ByteArray) (c : Int) (w : World) :
    Calls Tryd.prog 34 #[.string s, .int .u8 c] w fun e w' => e = .returned (.int .i64 (Lib.indexByte s.data.toList c.toNat.toUInt8)) ∧ w' = w := Any.strings_IndexByte Tryd.lays137 s c w
end Go.Proofs
namespace Go.Proofs.YtbogoilcfokihaaDoor
open Go Go.Sc
theorem ixB (s : Str) (c : UInt8) : FX E Tryd.prog 21 [S s, By c] (Z (idx s c)) := FX.indexByte (show Tryd.prog.funcs[E.fn 21]? = some Tryd.f34 from Tryd.func34) (by kernel_rfl) (by kernel_rfl) Tryd.strings_IndexByte s c
theorem joinB (l : List Str) (sep : Str) (hl : l.length ≤ 140737488355328) (hj : (joinS sep l).length ≤ 140737488355328) : FX E Tryd.prog 118 [Lm S l, S sep] (S (joinS sep l)) := FX.join (show Tryd.prog.funcs[E.fn 118]? = some Tryd.f75 from Tryd.func75) (by kernel_rfl) (by kernel_rfl) Tryd.strings_Join_none Tryd.strings_Join l sep hl hj
end Go.Proofs.YtbogoilcfokihaaDoor
namespace Go.Sc
open Go Go.ChangeShapes Go.WideShapes Go.ChangeAt Go.RowKit
section
variable {P : Program} {W : World} {E : Env}
theorem laid_struct2 {l : List (String × DataW Unit)} {n : String} {a b : Int} {g : Nat} {ty : TypeId} {f0 f1 : Field} (h : laidMetH P l W) (hm : (n, DataW.agg [.lit (.int .i64 a), .lit (.int .i64 b)]) ∈ l) (hn : P.globalNamed n = some g) (ht : (P.globals[g]?).map (·.type) = some ty)
    (hu : P.underlying ty = some (.struct #[f0, f1])) (e0 : P.underlying f0.type = some (.int .i64)) (e1 : P.underlying f1.type = some (.int .i64)) (o0 : f0.offset = 0) (o1 : f1.offset = 1) (c0 : P.cellsOf f0.type = 1) (c1 : P.cellsOf f1.type = 1) : CRel E (Cx.start W) [Z a, Z b] g 0 := by
  obtain ⟨h1, _⟩ := laidMetH_iff.1 h
  obtain ⟨ps, h2, _⟩ := h1
  obtain ⟨g', t', cs, fuel, p, k1, k2, k3, k4⟩ := laid_at (l := l) h2 (List.mem_filter.2 ⟨hm, by rfl⟩)
  rw [hn] at k1; injection k1 with k1; subst k1
  rw [ht] at k2; injection k2 with k2; subst k2
  obtain ⟨y0, y1, m', hx, hl, x0, x1⟩ := trod_struct2 hu k4
  simp only [World.var?, hn, Option.bind_some] at k3
  split at k3
  · rename_i cs' ty' fr hW
    injection k3 with k3; subst k3
    have hlt : g < W.heap.size := by
      by_cases h : g < W.heap.size
      · exact h
      · rw [Array.getElem?_eq_none (by omega)] at hW; cases hW
    injection hx with hx1 hx2
    injection hx1 with hx1
    injection hx1 with hxa hx1
    injection hx1 with hxb _
    rw [o0, c0] at x0
    rw [o1, c1] at x1
    obtain ⟨w0, hw0, hv0, _⟩ := DataW.trod_int e0 x0
    obtain ⟨w1, hw1, hv1, _⟩ := DataW.trod_int e1 x1
    rw [hv0] at hxa
    rw [hv1] at hxb
    injection hxa with hxa
    injection hxa with _ hxa
    injection hxb with hxb
    injection hxb with _ hxb
    subst hxa; subst hxb
    have q0 : cs'.toList[0]? = some (.int .i64 a) := by
      have := congrArg (·[0]?) hw0
      simpa using this
    have q1 : cs'.toList[1]? = some (.int .i64 b) := by
      have := congrArg (·[0]?) hw1
      simp only [List.getElem?_take, List.getElem?_drop, List.getElem?_cons_zero] at this
      simpa using this
    refine crel_start hlt fun i y hi => ?_
    match i with
    | 0 => simp only [List.getElem?_cons_zero, Option.some.injEq] at hi; subst hi; exact ⟨.int .i64 a, by simp only [World.cell?, hW]; simpa using q0, by simp [VRel]⟩
    | 1 => simp only [List.getElem?_cons_succ, List.getElem?_cons_zero, Option.some.injEq] at hi; subst hi; exact ⟨.int .i64 b, by simp only [World.cell?, hW]; simpa using q1, by simp [VRel]⟩
    | i + 2 => simp at hi
  · cases k3
end
theorem least_isNone (l : List String) : (Instr.least l).isNone = l.isEmpty := by
  cases l <;> simp [Instr.least]
theorem missing_isNone (want : Array (String × TypeId)) (got : Array Method) : (Instr.missingMethod want got).isNone = want.toList.all fun x => got.any fun m => m.name == x.1 && m.sig == x.2 := by
  unfold Instr.missingMethod
  generalize hm : (want.toList.filter _).map (·.1) = missing
  have h1 : (want.toList.all fun x => got.any fun m => m.name == x.1 && m.sig == x.2) = missing.isEmpty := by
    rw [← hm]
    generalize want.toList = l
    induction l with
    | nil => rfl
    | cons a l ih =>
      simp only [List.all_cons, List.filter_cons]
      cases h : (got.any fun m => m.name == a.1 && m.sig == a.2) with
      | true => simpa [h] using ih
      | false => simp
  rw [h1]
  simp only
  rw [List.partition_eq_filter_filter]
  simp only
  cases missing with
  | nil => simp [Instr.least]
  | cons s l =>
    simp only [List.isEmpty_cons]
    cases he : Instr.least (List.filter (not ∘ fun x => String.contains x '.') (s :: l)) with
    | some y => rfl
    | none =>
      have h2 := least_isNone (List.filter (not ∘ fun x => String.contains x '.') (s :: l))
      rw [he] at h2
      simp only [Option.isNone_none, Bool.true_eq, List.isEmpty_iff, List.filter_eq_nil_iff] at h2
      have h3 := h2 s (by simp)
      have h4 : (s.contains '.') = true := by simpa using h3
      show (Instr.least _).isNone = false
      rw [least_isNone]
      simp only [List.filter_cons, h4, if_true, List.map_cons, List.isEmpty_cons]
def hasMB (E : Env) (P : Program) (kt k : Nat) (b : Bool) : Bool :=
  match P.underlying (E.ty kt) with
  | some (.interface want) => (match P.info? (E.ty k) with
    | some i => (want.toList.all fun x => i.methods.any fun m => m.name == x.1 && m.sig == x.2) == b
    | none => false)
  | _ => true
theorem HasM.of {E : Env} {P : Program} {kt k : Nat} {b : Bool} (h : hasMB E P kt k b = true) : HasM E P kt k b := fun want hw => by
  unfold hasMB at h
  rw [hw] at h
  simp only at h
  split at h
  · rename_i i hi
    exact ⟨i, hi, by rw [missing_isNone]; simpa using h⟩
  · cases h
end Go.Sc
