/- Kinds of cells, the table of types. By a program of this session. No condition. -/
import Derived.Test.YtcfbjloblbhdhaaEngA
namespace Go.Proofs.Ytcfbjloblbhdhaa.Eng
open Go.Proofs
set_option linter.unusedVariables false
noncomputable def K2 : Ty := (.cons (.int .i64) .nil)
noncomputable def K4 : Ty := (.cons .bool .nil)
noncomputable def K5 : Ty := (.cons (.int .u8) .nil)
noncomputable def K12 : Ty := (.cons (.int .u64) .nil)
noncomputable def K22 : Ty := (.cons (.slice (.cons (.int .u8) .nil)) .nil)
noncomputable def K24 : Ty := (.cons (.slice (.cons (.int .i64) (.cons (.int .i64) (.cons (.int .i64) (.cons (.int .i64) (.cons (.int .i64) .nil)))))) .nil)
noncomputable def K27 : Ty := (.cons (.slice (.cons (.int .i64) .nil)) .nil)
noncomputable def K29 : Ty := (.cons (.int .i64) (.cons (.int .i64) (.cons (.int .i64) (.cons (.int .i64) (.cons (.int .i64) .nil)))))
noncomputable def K41 : Ty := (.cons (.int .i64) (.cons (.int .i64) .nil))
noncomputable def K43 : Ty := (.cons (.slice (.cons (.int .i64) (.cons (.int .i64) (.cons (.int .i64) .nil)))) .nil)
noncomputable def K45 : Ty := (.cons (.slice (.cons (.int .i64) (.cons (.int .i64) (.cons (.slice (.cons (.int .i64) .nil)) .nil)))) .nil)
noncomputable def K79 : Ty := (.cons (.int .i64) (.cons (.int .i64) (.cons (.int .i64) .nil)))
noncomputable def K88 : Ty := (.cons (.int .i64) (.cons (.int .i64) (.cons (.slice (.cons (.int .i64) .nil)) .nil)))
noncomputable def K105 : Ty := (.cons (.slice (.cons (.int .u8) .nil)) (.cons (.int .i64) (.cons (.int .i64) .nil)))
noncomputable def tabR : List (Nat × TI) := [(3, ⟨false, K2, 0, false, false, []⟩),
  (4, ⟨false, K4, 0, false, false, []⟩),
  (5, ⟨false, K5, 0, false, false, []⟩),
  (22, ⟨false, K22, 5, false, false, []⟩),
  (24, ⟨false, K24, 30, false, false, []⟩),
  (27, ⟨false, K27, 3, false, false, []⟩),
  (30, ⟨true, K29, 0, false, true, [(0, 1, false), (1, 1, false), (2, 1, false), (3, 1, false), (4, 1, false)]⟩),
  (42, ⟨true, K41, 0, false, true, [(0, 1, false), (1, 1, false)]⟩),
  (43, ⟨false, K43, 82, false, false, []⟩),
  (45, ⟨false, K45, 89, false, false, []⟩),
  (47, ⟨true, K41, 0, false, true, [(0, 1, false), (1, 1, false)]⟩),
  (49, ⟨false, K43, 80, false, false, []⟩),
  (80, ⟨true, K79, 0, false, true, [(0, 1, false), (1, 1, false), (2, 1, false)]⟩),
  (82, ⟨true, K79, 0, false, true, [(0, 1, false), (1, 1, false), (2, 1, false)]⟩),
  (89, ⟨true, K88, 0, false, false, [(0, 1, false), (1, 1, false), (2, 1, false)]⟩),
  (106, ⟨true, K105, 0, false, false, [(0, 1, false), (1, 1, false), (2, 1, false)]⟩),
  (111, ⟨false, K12, 0, false, false, []⟩)]
noncomputable def tabO : List (Nat × TI) := [(3, ⟨false, K2, 0, false, false, []⟩),
  (4, ⟨false, K4, 0, false, false, []⟩),
  (5, ⟨false, K5, 0, false, false, []⟩),
  (22, ⟨false, K22, 5, false, false, []⟩),
  (24, ⟨false, K24, 30, false, false, []⟩),
  (27, ⟨false, K27, 3, false, false, []⟩),
  (30, ⟨true, K29, 0, false, true, [(0, 1, false), (1, 1, false), (2, 1, false), (3, 1, false), (4, 1, false)]⟩),
  (42, ⟨true, K41, 0, false, true, [(0, 1, false), (1, 1, false)]⟩),
  (43, ⟨false, K43, 82, false, false, []⟩),
  (45, ⟨false, K45, 89, true, false, []⟩),
  (47, ⟨true, K41, 0, false, true, [(0, 1, false), (1, 1, false)]⟩),
  (49, ⟨false, K43, 80, false, false, []⟩),
  (80, ⟨true, K79, 0, false, true, [(0, 1, false), (1, 1, false), (2, 1, false)]⟩),
  (82, ⟨true, K79, 0, false, true, [(0, 1, false), (1, 1, false), (2, 1, false)]⟩),
  (89, ⟨true, K88, 0, false, false, [(0, 1, false), (1, 1, false), (2, 1, false)]⟩),
  (106, ⟨true, K105, 0, false, false, [(0, 1, false), (1, 1, false), (2, 1, false)]⟩),
  (111, ⟨false, K12, 0, false, false, []⟩)]
end Go.Proofs.Ytcfbjloblbhdhaa.Eng
