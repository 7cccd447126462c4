/- Kinds of cells, the table of types. By a program of this session. No condition. -/
import Derived.Test.YtpihkhknehadbaaGreatEngA
namespace Go.Proofs.YtpihkhknehadbaaGreat.Eng
open Go.Proofs
set_option linter.unusedVariables false
noncomputable def K2 : Ty := (.cons (.int .i64) .nil)
noncomputable def K4 : Ty := (.cons .bool .nil)
noncomputable def K5 : Ty := (.cons (.int .u8) .nil)
noncomputable def K12 : Ty := (.cons (.int .u64) .nil)
noncomputable def K22 : Ty := (.cons (.slice (.cons (.int .i64) .nil)) .nil)
noncomputable def K25 : Ty := (.cons (.int .i64) (.cons (.int .i64) .nil))
noncomputable def K27 : Ty := (.cons (.slice (.cons (.int .i64) (.cons (.int .i64) (.cons (.int .i64) .nil)))) .nil)
noncomputable def K28 : Ty := (.cons (.int .i64) (.cons (.int .i64) (.cons .bool (.cons (.slice (.cons (.int .i64) (.cons (.int .i64) (.cons (.int .i64) .nil)))) .nil))))
noncomputable def K30 : Ty := (.cons (.slice (.cons (.int .i64) (.cons (.int .i64) (.cons (.slice (.cons (.int .i64) .nil)) .nil)))) .nil)
noncomputable def K31 : Ty := (.cons (.slice (.cons (.int .i64) (.cons (.slice (.cons (.int .i64) .nil)) .nil))) .nil)
noncomputable def K32 : Ty := (.cons (.slice (.cons (.int .i64) .nil)) (.cons (.int .i64) (.cons (.slice (.cons (.int .i64) (.cons (.int .i64) (.cons (.slice (.cons (.int .i64) .nil)) .nil)))) (.cons (.slice (.cons (.int .i64) (.cons (.slice (.cons (.int .i64) .nil)) .nil))) .nil))))
noncomputable def K34 : Ty := (.cons (.slice (.cons (.slice (.cons (.int .i64) (.cons (.int .i64) .nil))) .nil)) .nil)
noncomputable def K35 : Ty := (.cons (.int .i64) (.cons (.slice (.cons (.slice (.cons (.int .i64) (.cons (.int .i64) .nil))) .nil)) .nil))
noncomputable def K37 : Ty := (.cons (.slice (.cons (.int .i64) (.cons (.int .i64) (.cons (.int .i64) (.cons (.int .i64) (.cons (.int .i64) .nil)))))) .nil)
noncomputable def K38 : Ty := (.cons (.slice (.cons (.int .i64) (.cons (.int .i64) (.cons (.int .i64) (.cons .bool (.cons (.int .i64) .nil)))))) .nil)
noncomputable def K39 : Ty := (.cons (.slice (.cons (.int .i64) (.cons (.int .i64) (.cons (.int .i64) (.cons (.int .i64) (.cons (.int .i64) (.cons (.int .i64) (.cons (.int .i64) (.cons (.int .i64) (.cons (.int .i64) (.cons (.int .i64) .nil))))))))))) .nil)
noncomputable def K40 : Ty := (.cons (.int .i64) (.cons (.slice (.cons (.int .i64) .nil)) (.cons (.int .i64) (.cons (.int .i64) (.cons (.int .i64) (.cons (.int .i64) (.cons .bool (.cons (.slice (.cons (.int .i64) (.cons (.int .i64) (.cons (.int .i64) .nil)))) (.cons (.slice (.cons (.int .i64) .nil)) (.cons (.int .i64) (.cons (.slice (.cons (.int .i64) (.cons (.int .i64) (.cons (.slice (.cons (.int .i64) .nil)) .nil)))) (.cons (.slice (.cons (.int .i64) (.cons (.slice (.cons (.int .i64) .nil)) .nil))) (.cons (.int .i64) (.cons (.slice (.cons (.slice (.cons (.int .i64) (.cons (.int .i64) .nil))) .nil)) (.cons (.slice (.cons (.int .i64) (.cons (.int .i64) (.cons (.int .i64) (.cons (.int .i64) (.cons (.int .i64) .nil)))))) (.cons (.slice (.cons (.int .i64) (.cons (.int .i64) (.cons (.int .i64) (.cons .bool (.cons (.int .i64) .nil)))))) (.cons (.slice (.cons (.int .i64) (.cons (.int .i64) (.cons (.int .i64) (.cons (.int .i64) (.cons (.int .i64) (.cons (.int .i64) (.cons (.int .i64) (.cons (.int .i64) (.cons (.int .i64) (.cons (.int .i64) .nil))))))))))) .nil)))))))))))))))))
noncomputable def K69 : Ty := (.cons (.slice (.cons (.int .u8) .nil)) .nil)
noncomputable def K72 : Ty := (.cons (.int .i64) (.cons (.int .i64) (.cons (.int .i64) .nil)))
noncomputable def K76 : Ty := (.cons (.int .i64) (.cons (.int .i64) (.cons (.int .i64) (.cons (.int .i64) (.cons (.int .i64) (.cons (.int .i64) (.cons (.int .i64) (.cons (.int .i64) (.cons (.int .i64) (.cons (.int .i64) .nil))))))))))
noncomputable def K97 : Ty := (.cons (.int .i64) (.cons (.int .i64) (.cons (.int .i64) (.cons .bool (.cons (.int .i64) .nil)))))
noncomputable def K102 : Ty := (.cons (.int .i64) (.cons (.int .i64) (.cons (.slice (.cons (.int .i64) .nil)) .nil)))
noncomputable def K104 : Ty := (.cons (.slice (.cons (.int .i64) (.cons (.int .i64) .nil))) .nil)
noncomputable def K147 : Ty := (.cons (.int .i64) (.cons (.slice (.cons (.int .i64) .nil)) .nil))
noncomputable def K150 : Ty := (.cons (.int .i64) (.cons (.int .i64) (.cons (.int .i64) (.cons (.int .i64) (.cons (.int .i64) .nil)))))
noncomputable def K193 : Ty := (.cons (.int .i64) (.cons (.int .i64) (.cons (.int .i64) (.cons (.int .i64) (.cons (.int .i64) (.cons (.int .i64) (.cons (.int .i64) (.cons (.int .i64) (.cons (.int .i64) (.cons (.int .i64) (.cons (.int .i64) (.cons (.int .i64) (.cons (.int .i64) (.cons (.int .i64) .nil))))))))))))))
noncomputable def K196 : Ty := (.cons (.slice (.cons (.int .u8) .nil)) (.cons (.int .i64) (.cons (.int .i64) .nil)))
noncomputable def tabR : List (Nat × TI) := [(3, ⟨false, K2, 0, false, false, []⟩),
  (4, ⟨false, K4, 0, false, false, []⟩),
  (5, ⟨false, K5, 0, false, false, []⟩),
  (22, ⟨false, K22, 3, false, false, []⟩),
  (24, ⟨true, K22, 0, false, false, [(0, 1, false)]⟩),
  (26, ⟨true, K25, 0, false, true, [(0, 1, false), (1, 1, false)]⟩),
  (27, ⟨false, K27, 214, false, false, []⟩),
  (29, ⟨true, K28, 0, false, false, [(0, 1, false), (1, 1, false), (2, 1, false), (3, 1, false)]⟩),
  (30, ⟨false, K30, 208, false, false, []⟩),
  (31, ⟨false, K31, 210, false, false, []⟩),
  (33, ⟨true, K32, 0, false, false, [(0, 1, false), (1, 1, false), (2, 1, false), (3, 1, false)]⟩),
  (34, ⟨false, K34, 212, false, false, []⟩),
  (36, ⟨true, K35, 0, false, false, [(0, 1, false), (1, 1, false)]⟩),
  (37, ⟨false, K37, 159, false, false, []⟩),
  (38, ⟨false, K38, 161, false, false, []⟩),
  (39, ⟨false, K39, 166, false, false, []⟩),
  (41, ⟨true, K40, 0, false, false, [(0, 1, false), (1, 1, true), (2, 2, true), (4, 4, true), (8, 4, true), (12, 2, true), (14, 1, false), (15, 1, false), (16, 1, false)]⟩),
  (44, ⟨true, K22, 0, false, false, [(0, 1, false)]⟩),
  (45, ⟨true, K25, 0, false, true, [(0, 1, false), (1, 1, false)]⟩),
  (46, ⟨false, K27, 101, false, false, []⟩),
  (48, ⟨true, K28, 0, false, false, [(0, 1, false), (1, 1, false), (2, 1, false), (3, 1, false)]⟩),
  (49, ⟨false, K30, 103, false, false, []⟩),
  (50, ⟨false, K31, 148, false, false, []⟩),
  (52, ⟨true, K32, 0, false, false, [(0, 1, false), (1, 1, false), (2, 1, false), (3, 1, false)]⟩),
  (53, ⟨false, K34, 104, false, false, []⟩),
  (55, ⟨true, K35, 0, false, false, [(0, 1, false), (1, 1, false)]⟩),
  (56, ⟨false, K37, 151, false, false, []⟩),
  (57, ⟨false, K38, 98, false, false, []⟩),
  (58, ⟨false, K39, 77, false, false, []⟩),
  (60, ⟨true, K40, 0, false, false, [(0, 1, false), (1, 1, true), (2, 2, true), (4, 4, true), (8, 4, true), (12, 2, true), (14, 1, false), (15, 1, false), (16, 1, false)]⟩),
  (69, ⟨false, K69, 5, false, false, []⟩),
  (73, ⟨true, K72, 0, false, true, [(0, 1, false), (1, 1, false), (2, 1, false)]⟩),
  (75, ⟨true, K72, 0, false, true, [(0, 1, false), (1, 1, false), (2, 1, false)]⟩),
  (77, ⟨true, K76, 0, false, false, [(0, 3, true), (3, 1, false), (4, 1, false), (5, 1, false), (6, 1, false), (7, 3, true)]⟩),
  (98, ⟨true, K97, 0, false, true, [(0, 1, false), (1, 1, false), (2, 1, false), (3, 1, false), (4, 1, false)]⟩),
  (101, ⟨true, K72, 0, false, true, [(0, 1, false), (1, 1, false), (2, 1, false)]⟩),
  (103, ⟨true, K102, 0, false, false, [(0, 1, false), (1, 1, false), (2, 1, false)]⟩),
  (104, ⟨false, K104, 106, false, false, []⟩),
  (106, ⟨true, K25, 0, false, true, [(0, 1, false), (1, 1, false)]⟩),
  (148, ⟨true, K147, 0, false, false, [(0, 1, false), (1, 1, false)]⟩),
  (151, ⟨true, K150, 0, false, true, [(0, 1, false), (1, 1, false), (2, 1, false), (3, 1, false), (4, 1, false)]⟩),
  (159, ⟨true, K150, 0, false, true, [(0, 1, false), (1, 1, false), (2, 1, false), (3, 1, false), (4, 1, false)]⟩),
  (161, ⟨true, K97, 0, false, true, [(0, 1, false), (1, 1, false), (2, 1, false), (3, 1, false), (4, 1, false)]⟩),
  (163, ⟨true, K72, 0, false, true, [(0, 1, false), (1, 1, false), (2, 1, false)]⟩),
  (164, ⟨true, K72, 0, false, true, [(0, 1, false), (1, 1, false), (2, 1, false)]⟩),
  (166, ⟨true, K76, 0, false, false, [(0, 3, true), (3, 1, false), (4, 1, false), (5, 1, false), (6, 1, false), (7, 3, true)]⟩),
  (194, ⟨true, K193, 0, false, false, [(0, 1, false), (1, 1, false), (2, 1, false), (3, 1, false), (4, 1, false), (5, 1, false), (6, 3, true), (9, 5, true)]⟩),
  (197, ⟨true, K196, 0, false, false, [(0, 1, false), (1, 1, false), (2, 1, false)]⟩),
  (208, ⟨true, K102, 0, false, false, [(0, 1, false), (1, 1, false), (2, 1, false)]⟩),
  (210, ⟨true, K147, 0, false, false, [(0, 1, false), (1, 1, false)]⟩),
  (212, ⟨false, K104, 244, false, false, []⟩),
  (214, ⟨true, K72, 0, false, true, [(0, 1, false), (1, 1, false), (2, 1, false)]⟩),
  (227, ⟨false, K12, 0, false, false, []⟩),
  (244, ⟨true, K25, 0, false, true, [(0, 1, false), (1, 1, false)]⟩),
  (265, ⟨false, K27, 269, false, false, []⟩),
  (269, ⟨true, K72, 0, false, true, [(0, 1, false), (1, 1, false), (2, 1, false)]⟩),
  (270, ⟨false, K30, 306, false, false, []⟩),
  (276, ⟨false, K27, 300, false, false, []⟩),
  (289, ⟨true, K25, 0, false, true, [(0, 1, false), (1, 1, false)]⟩),
  (300, ⟨true, K72, 0, false, true, [(0, 1, false), (1, 1, false), (2, 1, false)]⟩),
  (306, ⟨true, K102, 0, false, false, [(0, 1, false), (1, 1, false), (2, 1, false)]⟩)]
noncomputable def tabO : List (Nat × TI) := [(3, ⟨false, K2, 0, false, false, []⟩),
  (4, ⟨false, K4, 0, false, false, []⟩),
  (5, ⟨false, K5, 0, false, false, []⟩),
  (22, ⟨false, K22, 3, false, false, []⟩),
  (24, ⟨true, K22, 0, false, false, [(0, 1, false)]⟩),
  (26, ⟨true, K25, 0, false, true, [(0, 1, false), (1, 1, false)]⟩),
  (27, ⟨false, K27, 214, false, false, []⟩),
  (29, ⟨true, K28, 0, false, false, [(0, 1, false), (1, 1, false), (2, 1, false), (3, 1, false)]⟩),
  (30, ⟨false, K30, 208, true, false, []⟩),
  (31, ⟨false, K31, 210, true, false, []⟩),
  (33, ⟨true, K32, 0, false, false, [(0, 1, false), (1, 1, false), (2, 1, false), (3, 1, false)]⟩),
  (34, ⟨false, K34, 212, true, false, []⟩),
  (36, ⟨true, K35, 0, false, false, [(0, 1, false), (1, 1, false)]⟩),
  (37, ⟨false, K37, 159, false, false, []⟩),
  (38, ⟨false, K38, 161, false, false, []⟩),
  (39, ⟨false, K39, 166, false, false, []⟩),
  (41, ⟨true, K40, 0, false, false, [(0, 1, false), (1, 1, true), (2, 2, true), (4, 4, true), (8, 4, true), (12, 2, true), (14, 1, false), (15, 1, false), (16, 1, false)]⟩),
  (44, ⟨true, K22, 0, false, false, [(0, 1, false)]⟩),
  (45, ⟨true, K25, 0, false, true, [(0, 1, false), (1, 1, false)]⟩),
  (46, ⟨false, K27, 101, false, false, []⟩),
  (48, ⟨true, K28, 0, false, false, [(0, 1, false), (1, 1, false), (2, 1, false), (3, 1, false)]⟩),
  (49, ⟨false, K30, 103, true, false, []⟩),
  (50, ⟨false, K31, 148, true, false, []⟩),
  (52, ⟨true, K32, 0, false, false, [(0, 1, false), (1, 1, false), (2, 1, false), (3, 1, false)]⟩),
  (53, ⟨false, K34, 104, true, false, []⟩),
  (55, ⟨true, K35, 0, false, false, [(0, 1, false), (1, 1, false)]⟩),
  (56, ⟨false, K37, 151, false, false, []⟩),
  (57, ⟨false, K38, 98, false, false, []⟩),
  (58, ⟨false, K39, 77, false, false, []⟩),
  (60, ⟨true, K40, 0, false, false, [(0, 1, false), (1, 1, true), (2, 2, true), (4, 4, true), (8, 4, true), (12, 2, true), (14, 1, false), (15, 1, false), (16, 1, false)]⟩),
  (69, ⟨false, K69, 5, false, false, []⟩),
  (73, ⟨true, K72, 0, false, true, [(0, 1, false), (1, 1, false), (2, 1, false)]⟩),
  (75, ⟨true, K72, 0, false, true, [(0, 1, false), (1, 1, false), (2, 1, false)]⟩),
  (77, ⟨true, K76, 0, false, false, [(0, 3, true), (3, 1, false), (4, 1, false), (5, 1, false), (6, 1, false), (7, 3, true)]⟩),
  (98, ⟨true, K97, 0, false, true, [(0, 1, false), (1, 1, false), (2, 1, false), (3, 1, false), (4, 1, false)]⟩),
  (101, ⟨true, K72, 0, false, true, [(0, 1, false), (1, 1, false), (2, 1, false)]⟩),
  (103, ⟨true, K102, 0, false, false, [(0, 1, false), (1, 1, false), (2, 1, false)]⟩),
  (104, ⟨false, K104, 106, false, false, []⟩),
  (106, ⟨true, K25, 0, false, true, [(0, 1, false), (1, 1, false)]⟩),
  (148, ⟨true, K147, 0, false, false, [(0, 1, false), (1, 1, false)]⟩),
  (151, ⟨true, K150, 0, false, true, [(0, 1, false), (1, 1, false), (2, 1, false), (3, 1, false), (4, 1, false)]⟩),
  (159, ⟨true, K150, 0, false, true, [(0, 1, false), (1, 1, false), (2, 1, false), (3, 1, false), (4, 1, false)]⟩),
  (161, ⟨true, K97, 0, false, true, [(0, 1, false), (1, 1, false), (2, 1, false), (3, 1, false), (4, 1, false)]⟩),
  (163, ⟨true, K72, 0, false, true, [(0, 1, false), (1, 1, false), (2, 1, false)]⟩),
  (164, ⟨true, K72, 0, false, true, [(0, 1, false), (1, 1, false), (2, 1, false)]⟩),
  (166, ⟨true, K76, 0, false, false, [(0, 3, true), (3, 1, false), (4, 1, false), (5, 1, false), (6, 1, false), (7, 3, true)]⟩),
  (194, ⟨true, K193, 0, false, false, [(0, 1, false), (1, 1, false), (2, 1, false), (3, 1, false), (4, 1, false), (5, 1, false), (6, 3, true), (9, 5, true)]⟩),
  (197, ⟨true, K196, 0, false, false, [(0, 1, false), (1, 1, false), (2, 1, false)]⟩),
  (208, ⟨true, K102, 0, false, false, [(0, 1, false), (1, 1, false), (2, 1, false)]⟩),
  (210, ⟨true, K147, 0, false, false, [(0, 1, false), (1, 1, false)]⟩),
  (212, ⟨false, K104, 244, false, false, []⟩),
  (214, ⟨true, K72, 0, false, true, [(0, 1, false), (1, 1, false), (2, 1, false)]⟩),
  (227, ⟨false, K12, 0, false, false, []⟩),
  (244, ⟨true, K25, 0, false, true, [(0, 1, false), (1, 1, false)]⟩),
  (265, ⟨false, K27, 269, false, false, []⟩),
  (269, ⟨true, K72, 0, false, true, [(0, 1, false), (1, 1, false), (2, 1, false)]⟩),
  (270, ⟨false, K30, 306, true, false, []⟩),
  (276, ⟨false, K27, 300, false, false, []⟩),
  (289, ⟨true, K25, 0, false, true, [(0, 1, false), (1, 1, false)]⟩),
  (300, ⟨true, K72, 0, false, true, [(0, 1, false), (1, 1, false), (2, 1, false)]⟩),
  (306, ⟨true, K102, 0, false, false, [(0, 1, false), (1, 1, false), (2, 1, false)]⟩)]
end Go.Proofs.YtpihkhknehadbaaGreat.Eng
