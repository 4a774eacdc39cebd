/- The texts SkS3 of SegmentKnown, joined by program (tools/merge.py): walks of the functions that the law reaches, and plain facts; no condition. -/
import Derived.Test.YthjhakiagbdhlaaGreatDoorPart08
import Derived.KernelRfl
set_option linter.unusedVariables false
set_option linter.unusedSimpArgs false

/-
  States of a closed run, printed by a program; the kernel runs them.
-/
set_option linter.unusedVariables false
set_option linter.unusedSimpArgs false
set_option linter.constructorNameAsVariable false
namespace Go.Proofs.YthjhakiagbdhlaaGreatDoor.Sk
open Go Go.Proofs.YthjhakiagbdhlaaGreatDoor.Ev
set_option maxRecDepth 1000000
set_option maxHeartbeats 0
noncomputable def s37 : AM :=
 ⟨⟨3, 154, (tr [(0, tt), (1, (.ptr 2464 0)), (2, (.slice 3022 0 87 (.is 87))), (3, (.ptr 3026 0)), (4, np), (5, (.ptr 3284 0)), (6, (ii 0)), (7, np), (8, (ii 80)), (9, tt), (10, ff), (11, (.ptr 2464 0)), (12, (.ptr 2464 0)), (13, (.slice 3022 0 87 (.is 87))), (14, (.agg [(.slice 3025 0 2 (.is 2))])), (15, (.ptr 3026 0)), (16, (.slice 3025 0 2 (.is 2))), (17, (.slice 3027 0 1 (.is 1))), (18, (.ptr 3025 0)), (19, (.ptr 3025 2)), (20, (.tuple [(.ptr 3284 0), (ii 0)])), (21, (.agg [(.slice 3030 0 2 (.is 2))])), (22, (.tuple [(.ptr 3284 0), (ii 0)])), (23, (.ptr 3284 0)), (24, (ii 0)), (25, (.tuple [np, (ii 80)])), (26, (.agg [ns])), (27, (.tuple [np, (ii 80)])), (28, np), (29, (ii 80)), (30, (.ptr 2464 0)), (31, (ii 0)), (32, tt), (33, tt), (34, (.ptr 2464 0)), (35, (.ptr 2918 0)), (36, (.slice 3365 0 1 (.room 1))), (37, (.slice 3360 0 1 (.is 1))), (38, tt), (39, tt), (40, tt), (41, (.ptr 2464 0)), (42, ns), (43, (ii 0)), (44, tt), (45, tt), (46, tt), (47, (.ptr 2464 0)), (48, ns), (49, (ii 0)), (50, tt), (51, tt), (52, tt), (53, (.agg [(.slice 3375 0 2 (.is 2))])), (54, (.slice 3022 0 87 (.is 87))), (55, (ii 0)), (56, tt), (57, tt), (58, tt), (59, (.agg [(.slice 5633 0 2 (.is 2))])), (60, (.slice 3022 0 87 (.is 87))), (61, (.slice 3022 0 87 (.is 87))), (62, (ii 87)), (63, (ii 86)), (64, (.slice 3022 0 86 (.is 87))), (65, (ii 20)), (66, tt), (67, tt), (68, tt), (69, (.agg [(.slice 5660 0 2 (.is 2))])), (70, (ii 20)), (71, tt), (72, tt), (73, tt), (74, (.agg [(.slice 3025 0 2 (.is 2))])), (75, (.slice 3022 0 87 (.is 87))), (76, (ii 20)), (77, tt), (78, tt), (79, tt), (80, (.agg [ns])), (81, (.slice 3022 0 87 (.is 87))), (82, (ii 80)), (83, tt), (84, tt), (85, tt), (86, (.agg [(.slice 7928 0 2 (.is 2))])), (87, (.slice 7925 0 16777217 (.is 16777217))), (88, (ii 3)), (89, tt), (90, tt), (91, tt), (92, (.ptr 2464 0)), (93, np), (94, tt), (95, tt), (96, tt), (97, (.ptr 2464 0)), (98, np), (99, tt), (100, tt), (101, tt), (102, (.ptr 2464 0)), (103, np), (104, tt), (105, tt), (106, tt), (107, (ii 0)), (108, tt), (109, tt), (110, tt), (111, (.ptr 3284 0)), (112, (ii 0)), (113, tt), (114, tt), (115, tt), (116, (.agg [(.slice 7952 0 2 (.is 2))])), (117, (.ptr 3284 0)), (118, (.slice 7954 0 24 (.is 24))), (119, (ii 0)), (120, tt), (121, tt), (122, tt), (123, (ii 80)), (124, tt), (125, tt), (126, tt), (127, np), (128, (ii 0)), (129, tt), (130, tt), (131, tt), (132, np), (133, ns), (134, (ii 0)), (135, tt), (136, tt), (137, tt), (138, np), (139, (.agg [(uu 0), ns])), (140, (uu 0)), (141, tt), (142, tt), (143, tt), (144, np), (145, np), (146, tt), (147, tt), (148, tt), (149, np), (150, ns), (151, (ii 0)), (152, tt), (153, tt)] .l), [(C 3 [1, 0, 1, 0, 1])], [], true, false, none⟩, [], ⟨8466, .l⟩⟩
end Go.Proofs.YthjhakiagbdhlaaGreatDoor.Sk
