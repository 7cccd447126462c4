/- Kinds of cells, the table of types. By a program of this session. No condition. -/
import Derived.Test.YtcfbjloblbhdhaaGreatEngA
namespace Go.Proofs.YtcfbjloblbhdhaaGreat.Eng
open Go.Proofs
set_option linter.unusedVariables false
noncomputable def K2 : Ty := (.cons (.int .i64) .nil)
noncomputable def K4 : Ty := (.cons .bool .nil)
noncomputable def K5 : Ty := (.cons (.int .u8) .nil)
noncomputable def K12 : Ty := (.cons (.int .u64) .nil)
noncomputable def K22 : Ty := (.cons (.slice (.cons (.int .u8) .nil)) .nil)
noncomputable def K24 : Ty := (.cons (.slice (.cons (.int .i64) .nil)) .nil)
noncomputable def K27 : Ty := (.cons (.int .i64) (.cons (.int .i64) .nil))
noncomputable def K29 : Ty := (.cons (.slice (.cons (.int .i64) (.cons (.int .i64) (.cons (.int .i64) .nil)))) .nil)
noncomputable def K30 : Ty := (.cons (.int .i64) (.cons (.int .i64) (.cons .bool (.cons (.slice (.cons (.int .i64) (.cons (.int .i64) (.cons (.int .i64) .nil)))) .nil))))
noncomputable def K32 : Ty := (.cons (.slice (.cons (.int .i64) (.cons (.int .i64) (.cons (.slice (.cons (.int .i64) .nil)) .nil)))) .nil)
noncomputable def K33 : Ty := (.cons (.slice (.cons (.int .i64) (.cons (.slice (.cons (.int .i64) .nil)) .nil))) .nil)
noncomputable def K34 : Ty := (.cons (.slice (.cons (.int .i64) .nil)) (.cons (.int .i64) (.cons (.slice (.cons (.int .i64) (.cons (.int .i64) (.cons (.slice (.cons (.int .i64) .nil)) .nil)))) (.cons (.slice (.cons (.int .i64) (.cons (.slice (.cons (.int .i64) .nil)) .nil))) .nil))))
noncomputable def K36 : Ty := (.cons (.slice (.cons (.slice (.cons (.int .i64) (.cons (.int .i64) .nil))) .nil)) .nil)
noncomputable def K37 : Ty := (.cons (.int .i64) (.cons (.slice (.cons (.slice (.cons (.int .i64) (.cons (.int .i64) .nil))) .nil)) .nil))
noncomputable def K39 : Ty := (.cons (.slice (.cons (.int .i64) (.cons (.int .i64) (.cons (.int .i64) (.cons (.int .i64) (.cons (.int .i64) .nil)))))) .nil)
noncomputable def K40 : Ty := (.cons (.slice (.cons (.int .i64) (.cons (.int .i64) (.cons (.int .i64) (.cons .bool (.cons (.int .i64) .nil)))))) .nil)
noncomputable def K41 : Ty := (.cons (.slice (.cons (.int .i64) (.cons (.int .i64) (.cons (.int .i64) (.cons (.int .i64) (.cons (.int .i64) (.cons (.int .i64) (.cons (.int .i64) (.cons (.int .i64) (.cons (.int .i64) (.cons (.int .i64) .nil))))))))))) .nil)
noncomputable def K42 : Ty := (.cons (.int .i64) (.cons (.slice (.cons (.int .i64) .nil)) (.cons (.int .i64) (.cons (.int .i64) (.cons (.int .i64) (.cons (.int .i64) (.cons .bool (.cons (.slice (.cons (.int .i64) (.cons (.int .i64) (.cons (.int .i64) .nil)))) (.cons (.slice (.cons (.int .i64) .nil)) (.cons (.int .i64) (.cons (.slice (.cons (.int .i64) (.cons (.int .i64) (.cons (.slice (.cons (.int .i64) .nil)) .nil)))) (.cons (.slice (.cons (.int .i64) (.cons (.slice (.cons (.int .i64) .nil)) .nil))) (.cons (.int .i64) (.cons (.slice (.cons (.slice (.cons (.int .i64) (.cons (.int .i64) .nil))) .nil)) (.cons (.slice (.cons (.int .i64) (.cons (.int .i64) (.cons (.int .i64) (.cons (.int .i64) (.cons (.int .i64) .nil)))))) (.cons (.slice (.cons (.int .i64) (.cons (.int .i64) (.cons (.int .i64) (.cons .bool (.cons (.int .i64) .nil)))))) (.cons (.slice (.cons (.int .i64) (.cons (.int .i64) (.cons (.int .i64) (.cons (.int .i64) (.cons (.int .i64) (.cons (.int .i64) (.cons (.int .i64) (.cons (.int .i64) (.cons (.int .i64) (.cons (.int .i64) .nil))))))))))) .nil)))))))))))))))))
noncomputable def K47 : Ty := (.cons (.int .i64) (.cons (.int .i64) (.cons (.int .i64) .nil)))
noncomputable def K51 : Ty := (.cons (.int .i64) (.cons (.int .i64) (.cons (.int .i64) (.cons (.int .i64) (.cons (.int .i64) (.cons (.int .i64) (.cons (.int .i64) (.cons (.int .i64) (.cons (.int .i64) (.cons (.int .i64) .nil))))))))))
noncomputable def K86 : Ty := (.cons (.int .i64) (.cons (.int .i64) (.cons (.int .i64) (.cons .bool (.cons (.int .i64) .nil)))))
noncomputable def K90 : Ty := (.cons (.slice (.cons (.int .i64) (.cons (.int .i64) .nil))) .nil)
noncomputable def K116 : Ty := (.cons (.int .i64) (.cons (.int .i64) (.cons (.int .i64) (.cons (.int .i64) (.cons (.int .i64) .nil)))))
noncomputable def K118 : Ty := (.cons (.int .i64) (.cons (.int .i64) (.cons (.int .i64) (.cons (.int .i64) (.cons (.int .i64) (.cons (.int .i64) (.cons (.int .i64) (.cons (.int .i64) (.cons (.int .i64) (.cons (.int .i64) (.cons (.int .i64) (.cons (.int .i64) (.cons (.int .i64) (.cons (.int .i64) .nil))))))))))))))
noncomputable def K124 : Ty := (.cons (.slice (.cons (.int .u8) .nil)) (.cons (.int .i64) (.cons (.int .i64) .nil)))
noncomputable def K135 : Ty := (.cons (.int .i64) (.cons (.int .i64) (.cons (.slice (.cons (.int .i64) .nil)) .nil)))
noncomputable def K151 : Ty := (.cons (.int .i64) (.cons (.slice (.cons (.int .i64) .nil)) .nil))
noncomputable def tabR : List (Nat × TI) := [(3, ⟨false, K2, 0, false, false, []⟩),
  (4, ⟨false, K4, 0, false, false, []⟩),
  (5, ⟨false, K5, 0, false, false, []⟩),
  (22, ⟨false, K22, 5, false, false, []⟩),
  (24, ⟨false, K24, 3, false, false, []⟩),
  (26, ⟨true, K24, 0, false, false, [(0, 1, false)]⟩),
  (28, ⟨true, K27, 0, false, true, [(0, 1, false), (1, 1, false)]⟩),
  (29, ⟨false, K29, 85, false, false, []⟩),
  (31, ⟨true, K30, 0, false, false, [(0, 1, false), (1, 1, false), (2, 1, false), (3, 1, false)]⟩),
  (32, ⟨false, K32, 136, false, false, []⟩),
  (33, ⟨false, K33, 152, false, false, []⟩),
  (35, ⟨true, K34, 0, false, false, [(0, 1, false), (1, 1, false), (2, 1, false), (3, 1, false)]⟩),
  (36, ⟨false, K36, 90, false, false, []⟩),
  (38, ⟨true, K37, 0, false, false, [(0, 1, false), (1, 1, false)]⟩),
  (39, ⟨false, K39, 117, false, false, []⟩),
  (40, ⟨false, K40, 87, false, false, []⟩),
  (41, ⟨false, K41, 52, false, false, []⟩),
  (43, ⟨true, K42, 0, false, false, [(0, 1, false), (1, 1, true), (2, 2, true), (4, 4, true), (8, 4, true), (12, 2, true), (14, 1, false), (15, 1, false), (16, 1, false)]⟩),
  (48, ⟨true, K47, 0, false, true, [(0, 1, false), (1, 1, false), (2, 1, false)]⟩),
  (50, ⟨true, K47, 0, false, true, [(0, 1, false), (1, 1, false), (2, 1, false)]⟩),
  (52, ⟨true, K51, 0, false, true, [(0, 3, true), (3, 1, false), (4, 1, false), (5, 1, false), (6, 1, false), (7, 3, true)]⟩),
  (85, ⟨true, K47, 0, false, true, [(0, 1, false), (1, 1, false), (2, 1, false)]⟩),
  (87, ⟨true, K86, 0, false, true, [(0, 1, false), (1, 1, false), (2, 1, false), (3, 1, false), (4, 1, false)]⟩),
  (89, ⟨true, K27, 0, false, true, [(0, 1, false), (1, 1, false)]⟩),
  (90, ⟨false, K90, 89, false, false, []⟩),
  (117, ⟨true, K116, 0, false, true, [(0, 1, false), (1, 1, false), (2, 1, false), (3, 1, false), (4, 1, false)]⟩),
  (119, ⟨true, K118, 0, false, true, [(0, 1, false), (1, 1, false), (2, 1, false), (3, 1, false), (4, 1, false), (5, 1, false), (6, 3, true), (9, 5, true)]⟩),
  (125, ⟨true, K124, 0, false, false, [(0, 1, false), (1, 1, false), (2, 1, false)]⟩),
  (136, ⟨true, K135, 0, false, false, [(0, 1, false), (1, 1, false), (2, 1, false)]⟩),
  (152, ⟨true, K151, 0, false, false, [(0, 1, false), (1, 1, false)]⟩),
  (206, ⟨false, K12, 0, false, false, []⟩),
  (236, ⟨false, K29, 240, false, false, []⟩),
  (240, ⟨true, K47, 0, false, true, [(0, 1, false), (1, 1, false), (2, 1, false)]⟩),
  (241, ⟨false, K32, 309, false, false, []⟩),
  (247, ⟨false, K29, 284, false, false, []⟩),
  (273, ⟨true, K27, 0, false, true, [(0, 1, false), (1, 1, false)]⟩),
  (284, ⟨true, K47, 0, false, true, [(0, 1, false), (1, 1, false), (2, 1, false)]⟩),
  (309, ⟨true, K135, 0, false, false, [(0, 1, false), (1, 1, false), (2, 1, false)]⟩)]
noncomputable def tabO : List (Nat × TI) := [(3, ⟨false, K2, 0, false, false, []⟩),
  (4, ⟨false, K4, 0, false, false, []⟩),
  (5, ⟨false, K5, 0, false, false, []⟩),
  (22, ⟨false, K22, 5, false, false, []⟩),
  (24, ⟨false, K24, 3, false, false, []⟩),
  (26, ⟨true, K24, 0, false, false, [(0, 1, false)]⟩),
  (28, ⟨true, K27, 0, false, true, [(0, 1, false), (1, 1, false)]⟩),
  (29, ⟨false, K29, 85, false, false, []⟩),
  (31, ⟨true, K30, 0, false, false, [(0, 1, false), (1, 1, false), (2, 1, false), (3, 1, false)]⟩),
  (32, ⟨false, K32, 136, true, false, []⟩),
  (33, ⟨false, K33, 152, true, false, []⟩),
  (35, ⟨true, K34, 0, false, false, [(0, 1, false), (1, 1, false), (2, 1, false), (3, 1, false)]⟩),
  (36, ⟨false, K36, 90, true, false, []⟩),
  (38, ⟨true, K37, 0, false, false, [(0, 1, false), (1, 1, false)]⟩),
  (39, ⟨false, K39, 117, false, false, []⟩),
  (40, ⟨false, K40, 87, false, false, []⟩),
  (41, ⟨false, K41, 52, false, false, []⟩),
  (43, ⟨true, K42, 0, false, false, [(0, 1, false), (1, 1, true), (2, 2, true), (4, 4, true), (8, 4, true), (12, 2, true), (14, 1, false), (15, 1, false), (16, 1, false)]⟩),
  (48, ⟨true, K47, 0, false, true, [(0, 1, false), (1, 1, false), (2, 1, false)]⟩),
  (50, ⟨true, K47, 0, false, true, [(0, 1, false), (1, 1, false), (2, 1, false)]⟩),
  (52, ⟨true, K51, 0, false, true, [(0, 3, true), (3, 1, false), (4, 1, false), (5, 1, false), (6, 1, false), (7, 3, true)]⟩),
  (85, ⟨true, K47, 0, false, true, [(0, 1, false), (1, 1, false), (2, 1, false)]⟩),
  (87, ⟨true, K86, 0, false, true, [(0, 1, false), (1, 1, false), (2, 1, false), (3, 1, false), (4, 1, false)]⟩),
  (89, ⟨true, K27, 0, false, true, [(0, 1, false), (1, 1, false)]⟩),
  (90, ⟨false, K90, 89, false, false, []⟩),
  (117, ⟨true, K116, 0, false, true, [(0, 1, false), (1, 1, false), (2, 1, false), (3, 1, false), (4, 1, false)]⟩),
  (119, ⟨true, K118, 0, false, true, [(0, 1, false), (1, 1, false), (2, 1, false), (3, 1, false), (4, 1, false), (5, 1, false), (6, 3, true), (9, 5, true)]⟩),
  (125, ⟨true, K124, 0, false, false, [(0, 1, false), (1, 1, false), (2, 1, false)]⟩),
  (136, ⟨true, K135, 0, false, false, [(0, 1, false), (1, 1, false), (2, 1, false)]⟩),
  (152, ⟨true, K151, 0, false, false, [(0, 1, false), (1, 1, false)]⟩),
  (206, ⟨false, K12, 0, false, false, []⟩),
  (236, ⟨false, K29, 240, false, false, []⟩),
  (240, ⟨true, K47, 0, false, true, [(0, 1, false), (1, 1, false), (2, 1, false)]⟩),
  (241, ⟨false, K32, 309, true, false, []⟩),
  (247, ⟨false, K29, 284, false, false, []⟩),
  (273, ⟨true, K27, 0, false, true, [(0, 1, false), (1, 1, false)]⟩),
  (284, ⟨true, K47, 0, false, true, [(0, 1, false), (1, 1, false), (2, 1, false)]⟩),
  (309, ⟨true, K135, 0, false, false, [(0, 1, false), (1, 1, false), (2, 1, false)]⟩)]
end Go.Proofs.YtcfbjloblbhdhaaGreat.Eng
