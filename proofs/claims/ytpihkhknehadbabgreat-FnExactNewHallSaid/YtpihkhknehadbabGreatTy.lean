/- Kinds of cells, the table of types. By a program of this session. No condition. -/
import Derived.Test.YtpihkhknehadbabGreatEngA
namespace Go.Proofs.YtpihkhknehadbabGreat.Eng
open Go.Proofs
set_option linter.unusedVariables false
noncomputable def K2 : Ty := (.cons (.int .i64) .nil)
noncomputable def K4 : Ty := (.cons .bool .nil)
noncomputable def K12 : Ty := (.cons (.int .u64) .nil)
noncomputable def K22 : Ty := (.cons (.slice (.cons (.int .i64) .nil)) .nil)
noncomputable def K25 : Ty := (.cons (.int .i64) (.cons (.int .i64) .nil))
noncomputable def K27 : Ty := (.cons (.slice (.cons (.int .i64) (.cons (.int .i64) (.cons (.int .i64) .nil)))) .nil)
noncomputable def K28 : Ty := (.cons (.int .i64) (.cons (.int .i64) (.cons .bool (.cons (.slice (.cons (.int .i64) (.cons (.int .i64) (.cons (.int .i64) .nil)))) .nil))))
noncomputable def K30 : Ty := (.cons (.slice (.cons (.int .i64) (.cons (.int .i64) (.cons (.slice (.cons (.int .i64) .nil)) .nil)))) .nil)
noncomputable def K31 : Ty := (.cons (.slice (.cons (.int .i64) (.cons (.slice (.cons (.int .i64) .nil)) .nil))) .nil)
noncomputable def K32 : Ty := (.cons (.slice (.cons (.int .i64) .nil)) (.cons (.int .i64) (.cons (.slice (.cons (.int .i64) (.cons (.int .i64) (.cons (.slice (.cons (.int .i64) .nil)) .nil)))) (.cons (.slice (.cons (.int .i64) (.cons (.slice (.cons (.int .i64) .nil)) .nil))) .nil))))
noncomputable def K34 : Ty := (.cons (.slice (.cons (.slice (.cons (.int .i64) (.cons (.int .i64) .nil))) .nil)) .nil)
noncomputable def K35 : Ty := (.cons (.int .i64) (.cons (.slice (.cons (.slice (.cons (.int .i64) (.cons (.int .i64) .nil))) .nil)) .nil))
noncomputable def K37 : Ty := (.cons (.slice (.cons (.int .i64) (.cons (.int .i64) (.cons (.int .i64) (.cons .bool (.cons (.int .i64) .nil)))))) .nil)
noncomputable def K55 : Ty := (.cons (.slice (.cons (.int .i64) (.cons (.int .i64) (.cons (.int .i64) (.cons (.int .i64) (.cons (.int .i64) .nil)))))) .nil)
noncomputable def K57 : Ty := (.cons (.slice (.cons (.int .i64) (.cons (.int .i64) (.cons (.int .i64) (.cons (.int .i64) (.cons (.int .i64) (.cons (.int .i64) (.cons (.int .i64) (.cons (.int .i64) (.cons (.int .i64) (.cons (.int .i64) .nil))))))))))) .nil)
noncomputable def K58 : Ty := (.cons (.int .i64) (.cons (.slice (.cons (.int .i64) .nil)) (.cons (.int .i64) (.cons (.int .i64) (.cons (.int .i64) (.cons (.int .i64) (.cons .bool (.cons (.slice (.cons (.int .i64) (.cons (.int .i64) (.cons (.int .i64) .nil)))) (.cons (.slice (.cons (.int .i64) .nil)) (.cons (.int .i64) (.cons (.slice (.cons (.int .i64) (.cons (.int .i64) (.cons (.slice (.cons (.int .i64) .nil)) .nil)))) (.cons (.slice (.cons (.int .i64) (.cons (.slice (.cons (.int .i64) .nil)) .nil))) (.cons (.int .i64) (.cons (.slice (.cons (.slice (.cons (.int .i64) (.cons (.int .i64) .nil))) .nil)) (.cons (.slice (.cons (.int .i64) (.cons (.int .i64) (.cons (.int .i64) (.cons (.int .i64) (.cons (.int .i64) .nil)))))) (.cons (.slice (.cons (.int .i64) (.cons (.int .i64) (.cons (.int .i64) (.cons .bool (.cons (.int .i64) .nil)))))) (.cons (.slice (.cons (.int .i64) (.cons (.int .i64) (.cons (.int .i64) (.cons (.int .i64) (.cons (.int .i64) (.cons (.int .i64) (.cons (.int .i64) (.cons (.int .i64) (.cons (.int .i64) (.cons (.int .i64) .nil))))))))))) .nil)))))))))))))))))
noncomputable def K93 : Ty := (.cons (.int .i64) (.cons (.int .i64) (.cons (.int .i64) (.cons .bool (.cons (.int .i64) .nil)))))
noncomputable def K113 : Ty := (.cons (.int .i64) (.cons (.int .i64) (.cons (.slice (.cons (.int .i64) .nil)) .nil)))
noncomputable def K116 : Ty := (.cons (.int .i64) (.cons (.slice (.cons (.int .i64) .nil)) .nil))
noncomputable def K119 : Ty := (.cons (.slice (.cons (.int .i64) (.cons (.int .i64) .nil))) .nil)
noncomputable def K132 : Ty := (.cons (.int .i64) (.cons (.int .i64) (.cons (.int .i64) .nil)))
noncomputable def K149 : Ty := (.cons (.int .i64) (.cons (.int .i64) (.cons (.int .i64) (.cons (.int .i64) (.cons (.int .i64) (.cons (.int .i64) (.cons (.int .i64) (.cons (.int .i64) (.cons (.int .i64) (.cons (.int .i64) .nil))))))))))
noncomputable def K157 : Ty := (.cons (.int .i64) (.cons (.int .i64) (.cons (.int .i64) (.cons (.int .i64) (.cons (.int .i64) .nil)))))
noncomputable def tabR : List (Nat × TI) := [(3, ⟨false, K2, 0, false, false, []⟩),
  (4, ⟨false, K4, 0, false, false, []⟩),
  (22, ⟨false, K22, 3, false, false, []⟩),
  (24, ⟨true, K22, 0, false, false, [(0, 1, false)]⟩),
  (26, ⟨true, K25, 0, false, true, [(0, 1, false), (1, 1, false)]⟩),
  (27, ⟨false, K27, 139, false, false, []⟩),
  (29, ⟨true, K28, 0, false, false, [(0, 1, false), (1, 1, false), (2, 1, false), (3, 1, false)]⟩),
  (30, ⟨false, K30, 114, false, false, []⟩),
  (31, ⟨false, K31, 117, false, false, []⟩),
  (33, ⟨true, K32, 0, false, false, [(0, 1, false), (1, 1, false), (2, 1, false), (3, 1, false)]⟩),
  (34, ⟨false, K34, 119, false, false, []⟩),
  (36, ⟨true, K35, 0, false, false, [(0, 1, false), (1, 1, false)]⟩),
  (37, ⟨false, K37, 96, false, false, []⟩),
  (43, ⟨true, K22, 0, false, false, [(0, 1, false)]⟩),
  (44, ⟨true, K25, 0, false, true, [(0, 1, false), (1, 1, false)]⟩),
  (45, ⟨false, K27, 133, false, false, []⟩),
  (47, ⟨true, K28, 0, false, false, [(0, 1, false), (1, 1, false), (2, 1, false), (3, 1, false)]⟩),
  (48, ⟨false, K30, 134, false, false, []⟩),
  (49, ⟨false, K31, 141, false, false, []⟩),
  (51, ⟨true, K32, 0, false, false, [(0, 1, false), (1, 1, false), (2, 1, false), (3, 1, false)]⟩),
  (52, ⟨false, K34, 135, false, false, []⟩),
  (54, ⟨true, K35, 0, false, false, [(0, 1, false), (1, 1, false)]⟩),
  (55, ⟨false, K55, 158, false, false, []⟩),
  (56, ⟨false, K37, 94, false, false, []⟩),
  (57, ⟨false, K57, 150, false, false, []⟩),
  (59, ⟨true, K58, 0, false, false, [(0, 1, false), (1, 1, true), (2, 2, true), (4, 4, true), (8, 4, true), (12, 2, true), (14, 1, false), (15, 1, false), (16, 1, false)]⟩),
  (94, ⟨true, K93, 0, false, true, [(0, 1, false), (1, 1, false), (2, 1, false), (3, 1, false), (4, 1, false)]⟩),
  (96, ⟨true, K93, 0, false, true, [(0, 1, false), (1, 1, false), (2, 1, false), (3, 1, false), (4, 1, false)]⟩),
  (114, ⟨true, K113, 0, false, false, [(0, 1, false), (1, 1, false), (2, 1, false)]⟩),
  (117, ⟨true, K116, 0, false, false, [(0, 1, false), (1, 1, false)]⟩),
  (119, ⟨false, K119, 173, false, false, []⟩),
  (133, ⟨true, K132, 0, false, true, [(0, 1, false), (1, 1, false), (2, 1, false)]⟩),
  (134, ⟨true, K113, 0, false, false, [(0, 1, false), (1, 1, false), (2, 1, false)]⟩),
  (135, ⟨false, K119, 137, false, false, []⟩),
  (137, ⟨true, K25, 0, false, true, [(0, 1, false), (1, 1, false)]⟩),
  (139, ⟨true, K132, 0, false, true, [(0, 1, false), (1, 1, false), (2, 1, false)]⟩),
  (141, ⟨true, K116, 0, false, false, [(0, 1, false), (1, 1, false)]⟩),
  (146, ⟨true, K132, 0, false, true, [(0, 1, false), (1, 1, false), (2, 1, false)]⟩),
  (148, ⟨true, K132, 0, false, true, [(0, 1, false), (1, 1, false), (2, 1, false)]⟩),
  (150, ⟨true, K149, 0, false, false, [(0, 3, true), (3, 1, false), (4, 1, false), (5, 1, false), (6, 1, false), (7, 3, true)]⟩),
  (158, ⟨true, K157, 0, false, true, [(0, 1, false), (1, 1, false), (2, 1, false), (3, 1, false), (4, 1, false)]⟩),
  (173, ⟨true, K25, 0, false, true, [(0, 1, false), (1, 1, false)]⟩),
  (200, ⟨false, K12, 0, false, false, []⟩)]
noncomputable def tabO : List (Nat × TI) := [(3, ⟨false, K2, 0, false, false, []⟩),
  (4, ⟨false, K4, 0, false, false, []⟩),
  (22, ⟨false, K22, 3, false, false, []⟩),
  (24, ⟨true, K22, 0, false, false, [(0, 1, false)]⟩),
  (26, ⟨true, K25, 0, false, true, [(0, 1, false), (1, 1, false)]⟩),
  (27, ⟨false, K27, 139, false, false, []⟩),
  (29, ⟨true, K28, 0, false, false, [(0, 1, false), (1, 1, false), (2, 1, false), (3, 1, false)]⟩),
  (30, ⟨false, K30, 114, true, false, []⟩),
  (31, ⟨false, K31, 117, true, false, []⟩),
  (33, ⟨true, K32, 0, false, false, [(0, 1, false), (1, 1, false), (2, 1, false), (3, 1, false)]⟩),
  (34, ⟨false, K34, 119, true, false, []⟩),
  (36, ⟨true, K35, 0, false, false, [(0, 1, false), (1, 1, false)]⟩),
  (37, ⟨false, K37, 96, false, false, []⟩),
  (43, ⟨true, K22, 0, false, false, [(0, 1, false)]⟩),
  (44, ⟨true, K25, 0, false, true, [(0, 1, false), (1, 1, false)]⟩),
  (45, ⟨false, K27, 133, false, false, []⟩),
  (47, ⟨true, K28, 0, false, false, [(0, 1, false), (1, 1, false), (2, 1, false), (3, 1, false)]⟩),
  (48, ⟨false, K30, 134, true, false, []⟩),
  (49, ⟨false, K31, 141, true, false, []⟩),
  (51, ⟨true, K32, 0, false, false, [(0, 1, false), (1, 1, false), (2, 1, false), (3, 1, false)]⟩),
  (52, ⟨false, K34, 135, true, false, []⟩),
  (54, ⟨true, K35, 0, false, false, [(0, 1, false), (1, 1, false)]⟩),
  (55, ⟨false, K55, 158, false, false, []⟩),
  (56, ⟨false, K37, 94, false, false, []⟩),
  (57, ⟨false, K57, 150, false, false, []⟩),
  (59, ⟨true, K58, 0, false, false, [(0, 1, false), (1, 1, true), (2, 2, true), (4, 4, true), (8, 4, true), (12, 2, true), (14, 1, false), (15, 1, false), (16, 1, false)]⟩),
  (94, ⟨true, K93, 0, false, true, [(0, 1, false), (1, 1, false), (2, 1, false), (3, 1, false), (4, 1, false)]⟩),
  (96, ⟨true, K93, 0, false, true, [(0, 1, false), (1, 1, false), (2, 1, false), (3, 1, false), (4, 1, false)]⟩),
  (114, ⟨true, K113, 0, false, false, [(0, 1, false), (1, 1, false), (2, 1, false)]⟩),
  (117, ⟨true, K116, 0, false, false, [(0, 1, false), (1, 1, false)]⟩),
  (119, ⟨false, K119, 173, false, false, []⟩),
  (133, ⟨true, K132, 0, false, true, [(0, 1, false), (1, 1, false), (2, 1, false)]⟩),
  (134, ⟨true, K113, 0, false, false, [(0, 1, false), (1, 1, false), (2, 1, false)]⟩),
  (135, ⟨false, K119, 137, false, false, []⟩),
  (137, ⟨true, K25, 0, false, true, [(0, 1, false), (1, 1, false)]⟩),
  (139, ⟨true, K132, 0, false, true, [(0, 1, false), (1, 1, false), (2, 1, false)]⟩),
  (141, ⟨true, K116, 0, false, false, [(0, 1, false), (1, 1, false)]⟩),
  (146, ⟨true, K132, 0, false, true, [(0, 1, false), (1, 1, false), (2, 1, false)]⟩),
  (148, ⟨true, K132, 0, false, true, [(0, 1, false), (1, 1, false), (2, 1, false)]⟩),
  (150, ⟨true, K149, 0, false, false, [(0, 3, true), (3, 1, false), (4, 1, false), (5, 1, false), (6, 1, false), (7, 3, true)]⟩),
  (158, ⟨true, K157, 0, false, true, [(0, 1, false), (1, 1, false), (2, 1, false), (3, 1, false), (4, 1, false)]⟩),
  (173, ⟨true, K25, 0, false, true, [(0, 1, false), (1, 1, false)]⟩),
  (200, ⟨false, K12, 0, false, false, []⟩)]
end Go.Proofs.YtpihkhknehadbabGreat.Eng
