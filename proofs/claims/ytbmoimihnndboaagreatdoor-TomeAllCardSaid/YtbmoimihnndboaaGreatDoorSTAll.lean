import Derived.Test.YtbmoimihnndboaaGreatDoorSStage
set_option linter.unusedVariables false
set_option linter.unusedSimpArgs false
/- Walk: armariumlaw5.TomeAll. -/
namespace Go.Proofs.YtbmoimihnndboaaGreatDoor
open Go.Vc Go.RowKit Go.Fl Go.ChangeShapes Go.WideShapes Go.ChangeAt
set_option maxRecDepth 100000
theorem stage_14_8 : schedOk (opsAt Tryz.f6 14) .fin 0 #[true, true, true, true, true, true, true, true, true, true, true, true, true, true, true, true, true, true, true, true, true, true, true, true, true, true, true, true, true, true, true, true, true, true, true, true, true, true, true, true, true, true, true, true, true, true, true, true, true, true, true, true, true, true, true, true, true, true, true, true, true, true, true, true, true, true, true, true, true, true, true, true, true, true, true, true, true, true, true, true, true, true, true, true, true, true, true, true, true, true, true, true, true] [] = true := by kernel_rfl
theorem stage_14_7 : schedOk (opsAt Tryz.f6 14) (.q 84 (.q 85 (.q 86 (.q 87 (.q 88 (.q 89 (.n 90 (.q 91 (.q 92 .fin)) .stop))))))) 9 #[true, true, true, true, true, true, true, true, true, true, true, true, true, true, true, true, true, true, true, true, true, true, true, true, true, true, true, true, true, true, true, true, true, true, true, true, true, true, true, true, true, true, true, true, true, true, true, true, true, true, true, true, true, true, true, true, true, true, true, true, true, true, true, true, true, true, true, true, true, true, true, true, true, true, true, true, true, true, true, true, true, true, true, true, false, false, false, false, false, false, false, false, false] [84] = true := runQ_ok 9 _ _ _ _ (show runQ _ _ _ = some (.fin, 0, #[true, true, true, true, true, true, true, true, true, true, true, true, true, true, true, true, true, true, true, true, true, true, true, true, true, true, true, true, true, true, true, true, true, true, true, true, true, true, true, true, true, true, true, true, true, true, true, true, true, true, true, true, true, true, true, true, true, true, true, true, true, true, true, true, true, true, true, true, true, true, true, true, true, true, true, true, true, true, true, true, true, true, true, true, true, true, true, true, true, true, true, true, true], []) by kernel_rfl) stage_14_8
theorem stage_14_6 : schedOk (opsAt Tryz.f6 14) (.q 72 (.q 73 (.q 74 (.q 75 (.q 76 (.q 77 (.q 78 (.q 79 (.q 80 (.q 83 (.n 81 (.n 82 (.q 84 (.q 85 (.q 86 (.q 87 (.q 88 (.q 89 (.n 90 (.q 91 (.q 92 .fin)) .stop))))))) .stop) .stop))))))))))) 21 #[true, true, true, true, true, true, true, true, true, true, true, true, true, true, true, true, true, true, true, true, true, true, true, true, true, true, true, true, true, true, true, true, true, true, true, true, true, true, true, true, true, true, true, true, true, true, true, true, true, true, true, true, true, true, true, true, true, true, true, true, true, true, true, true, true, true, true, true, true, true, true, true, false, false, false, false, false, false, false, false, false, false, false, false, false, false, false, false, false, false, false, false, false] [72] = true := runQ_ok 12 _ _ _ _ (show runQ _ _ _ = some ((.q 84 (.q 85 (.q 86 (.q 87 (.q 88 (.q 89 (.n 90 (.q 91 (.q 92 .fin)) .stop))))))), 9, #[true, true, true, true, true, true, true, true, true, true, true, true, true, true, true, true, true, true, true, true, true, true, true, true, true, true, true, true, true, true, true, true, true, true, true, true, true, true, true, true, true, true, true, true, true, true, true, true, true, true, true, true, true, true, true, true, true, true, true, true, true, true, true, true, true, true, true, true, true, true, true, true, true, true, true, true, true, true, true, true, true, true, true, true, false, false, false, false, false, false, false, false, false], [84]) by kernel_rfl) stage_14_7
theorem stage_14_5 : schedOk (opsAt Tryz.f6 14) (.q 60 (.q 61 (.q 62 (.q 63 (.q 64 (.q 66 (.q 67 (.q 68 (.n 65 (.n 69 (.q 70 (.q 71 (.q 72 (.q 73 (.q 74 (.q 75 (.q 76 (.q 77 (.q 78 (.q 79 (.q 80 (.q 83 (.n 81 (.n 82 (.q 84 (.q 85 (.q 86 (.q 87 (.q 88 (.q 89 (.n 90 (.q 91 (.q 92 .fin)) .stop))))))) .stop) .stop))))))))))))) .stop) .stop))))))))) 33 #[true, true, true, true, true, true, true, true, true, true, true, true, true, true, true, true, true, true, true, true, true, true, true, true, true, true, true, true, true, true, true, true, true, true, true, true, true, true, true, true, true, true, true, true, true, true, true, true, true, true, true, true, true, true, true, true, true, true, true, true, false, false, false, false, false, false, false, false, false, false, false, false, false, false, false, false, false, false, false, false, false, false, false, false, false, false, false, false, false, false, false, false, false] [60] = true := runQ_ok 12 _ _ _ _ (show runQ _ _ _ = some ((.q 72 (.q 73 (.q 74 (.q 75 (.q 76 (.q 77 (.q 78 (.q 79 (.q 80 (.q 83 (.n 81 (.n 82 (.q 84 (.q 85 (.q 86 (.q 87 (.q 88 (.q 89 (.n 90 (.q 91 (.q 92 .fin)) .stop))))))) .stop) .stop))))))))))), 21, #[true, true, true, true, true, true, true, true, true, true, true, true, true, true, true, true, true, true, true, true, true, true, true, true, true, true, true, true, true, true, true, true, true, true, true, true, true, true, true, true, true, true, true, true, true, true, true, true, true, true, true, true, true, true, true, true, true, true, true, true, true, true, true, true, true, true, true, true, true, true, true, true, false, false, false, false, false, false, false, false, false, false, false, false, false, false, false, false, false, false, false, false, false], [72]) by kernel_rfl) stage_14_6
theorem stage_14_4 : schedOk (opsAt Tryz.f6 14) (.q 48 (.n 49 (.q 50 (.q 51 (.q 52 (.q 53 (.q 54 (.q 55 (.q 56 (.q 57 (.q 58 (.n 59 (.q 60 (.q 61 (.q 62 (.q 63 (.q 64 (.q 66 (.q 67 (.q 68 (.n 65 (.n 69 (.q 70 (.q 71 (.q 72 (.q 73 (.q 74 (.q 75 (.q 76 (.q 77 (.q 78 (.q 79 (.q 80 (.q 83 (.n 81 (.n 82 (.q 84 (.q 85 (.q 86 (.q 87 (.q 88 (.q 89 (.n 90 (.q 91 (.q 92 .fin)) .stop))))))) .stop) .stop))))))))))))) .stop) .stop))))))))) .stop)))))))))) .stop)) 45 #[true, true, true, true, true, true, true, true, true, true, true, true, true, true, true, true, true, true, true, true, true, true, true, true, true, true, true, true, true, true, true, true, true, true, true, true, true, true, true, true, true, true, true, true, true, true, true, true, false, false, false, false, false, false, false, false, false, false, false, false, false, false, false, false, false, false, false, false, false, false, false, false, false, false, false, false, false, false, false, false, false, false, false, false, false, false, false, false, false, false, false, false, false] [48] = true := runQ_ok 12 _ _ _ _ (show runQ _ _ _ = some ((.q 60 (.q 61 (.q 62 (.q 63 (.q 64 (.q 66 (.q 67 (.q 68 (.n 65 (.n 69 (.q 70 (.q 71 (.q 72 (.q 73 (.q 74 (.q 75 (.q 76 (.q 77 (.q 78 (.q 79 (.q 80 (.q 83 (.n 81 (.n 82 (.q 84 (.q 85 (.q 86 (.q 87 (.q 88 (.q 89 (.n 90 (.q 91 (.q 92 .fin)) .stop))))))) .stop) .stop))))))))))))) .stop) .stop))))))))), 33, #[true, true, true, true, true, true, true, true, true, true, true, true, true, true, true, true, true, true, true, true, true, true, true, true, true, true, true, true, true, true, true, true, true, true, true, true, true, true, true, true, true, true, true, true, true, true, true, true, true, true, true, true, true, true, true, true, true, true, true, true, false, false, false, false, false, false, false, false, false, false, false, false, false, false, false, false, false, false, false, false, false, false, false, false, false, false, false, false, false, false, false, false, false], [60]) by kernel_rfl) stage_14_5
theorem stage_14_3 : schedOk (opsAt Tryz.f6 14) (.q 36 (.q 37 (.q 38 (.q 39 (.q 40 (.q 41 (.q 42 (.q 43 (.q 44 (.q 45 (.q 46 (.q 47 (.q 48 (.n 49 (.q 50 (.q 51 (.q 52 (.q 53 (.q 54 (.q 55 (.q 56 (.q 57 (.q 58 (.n 59 (.q 60 (.q 61 (.q 62 (.q 63 (.q 64 (.q 66 (.q 67 (.q 68 (.n 65 (.n 69 (.q 70 (.q 71 (.q 72 (.q 73 (.q 74 (.q 75 (.q 76 (.q 77 (.q 78 (.q 79 (.q 80 (.q 83 (.n 81 (.n 82 (.q 84 (.q 85 (.q 86 (.q 87 (.q 88 (.q 89 (.n 90 (.q 91 (.q 92 .fin)) .stop))))))) .stop) .stop))))))))))))) .stop) .stop))))))))) .stop)))))))))) .stop)))))))))))))) 57 #[true, true, true, true, true, true, true, true, true, true, true, true, true, true, true, true, true, true, true, true, true, true, true, true, true, true, true, true, true, true, true, true, true, true, true, true, false, false, false, false, false, false, false, false, false, false, false, false, false, false, false, false, false, false, false, false, false, false, false, false, false, false, false, false, false, false, false, false, false, false, false, false, false, false, false, false, false, false, false, false, false, false, false, false, false, false, false, false, false, false, false, false, false] [36] = true := runQ_ok 12 _ _ _ _ (show runQ _ _ _ = some ((.q 48 (.n 49 (.q 50 (.q 51 (.q 52 (.q 53 (.q 54 (.q 55 (.q 56 (.q 57 (.q 58 (.n 59 (.q 60 (.q 61 (.q 62 (.q 63 (.q 64 (.q 66 (.q 67 (.q 68 (.n 65 (.n 69 (.q 70 (.q 71 (.q 72 (.q 73 (.q 74 (.q 75 (.q 76 (.q 77 (.q 78 (.q 79 (.q 80 (.q 83 (.n 81 (.n 82 (.q 84 (.q 85 (.q 86 (.q 87 (.q 88 (.q 89 (.n 90 (.q 91 (.q 92 .fin)) .stop))))))) .stop) .stop))))))))))))) .stop) .stop))))))))) .stop)))))))))) .stop)), 45, #[true, true, true, true, true, true, true, true, true, true, true, true, true, true, true, true, true, true, true, true, true, true, true, true, true, true, true, true, true, true, true, true, true, true, true, true, true, true, true, true, true, true, true, true, true, true, true, true, false, false, false, false, false, false, false, false, false, false, false, false, false, false, false, false, false, false, false, false, false, false, false, false, false, false, false, false, false, false, false, false, false, false, false, false, false, false, false, false, false, false, false, false, false], [48]) by kernel_rfl) stage_14_4
theorem stage_14_2 : schedOk (opsAt Tryz.f6 14) (.q 24 (.q 25 (.q 26 (.q 27 (.q 28 (.q 29 (.q 30 (.q 31 (.q 32 (.q 33 (.q 34 (.q 35 (.q 36 (.q 37 (.q 38 (.q 39 (.q 40 (.q 41 (.q 42 (.q 43 (.q 44 (.q 45 (.q 46 (.q 47 (.q 48 (.n 49 (.q 50 (.q 51 (.q 52 (.q 53 (.q 54 (.q 55 (.q 56 (.q 57 (.q 58 (.n 59 (.q 60 (.q 61 (.q 62 (.q 63 (.q 64 (.q 66 (.q 67 (.q 68 (.n 65 (.n 69 (.q 70 (.q 71 (.q 72 (.q 73 (.q 74 (.q 75 (.q 76 (.q 77 (.q 78 (.q 79 (.q 80 (.q 83 (.n 81 (.n 82 (.q 84 (.q 85 (.q 86 (.q 87 (.q 88 (.q 89 (.n 90 (.q 91 (.q 92 .fin)) .stop))))))) .stop) .stop))))))))))))) .stop) .stop))))))))) .stop)))))))))) .stop)))))))))))))))))))))))))) 69 #[true, true, true, true, true, true, true, true, true, true, true, true, true, true, true, true, true, true, true, true, true, true, true, true, false, false, false, false, false, false, false, false, false, false, false, false, false, false, false, false, false, false, false, false, false, false, false, false, false, false, false, false, false, false, false, false, false, false, false, false, false, false, false, false, false, false, false, false, false, false, false, false, false, false, false, false, false, false, false, false, false, false, false, false, false, false, false, false, false, false, false, false, false] [24, 25] = true := runQ_ok 12 _ _ _ _ (show runQ _ _ _ = some ((.q 36 (.q 37 (.q 38 (.q 39 (.q 40 (.q 41 (.q 42 (.q 43 (.q 44 (.q 45 (.q 46 (.q 47 (.q 48 (.n 49 (.q 50 (.q 51 (.q 52 (.q 53 (.q 54 (.q 55 (.q 56 (.q 57 (.q 58 (.n 59 (.q 60 (.q 61 (.q 62 (.q 63 (.q 64 (.q 66 (.q 67 (.q 68 (.n 65 (.n 69 (.q 70 (.q 71 (.q 72 (.q 73 (.q 74 (.q 75 (.q 76 (.q 77 (.q 78 (.q 79 (.q 80 (.q 83 (.n 81 (.n 82 (.q 84 (.q 85 (.q 86 (.q 87 (.q 88 (.q 89 (.n 90 (.q 91 (.q 92 .fin)) .stop))))))) .stop) .stop))))))))))))) .stop) .stop))))))))) .stop)))))))))) .stop)))))))))))))), 57, #[true, true, true, true, true, true, true, true, true, true, true, true, true, true, true, true, true, true, true, true, true, true, true, true, true, true, true, true, true, true, true, true, true, true, true, true, false, false, false, false, false, false, false, false, false, false, false, false, false, false, false, false, false, false, false, false, false, false, false, false, false, false, false, false, false, false, false, false, false, false, false, false, false, false, false, false, false, false, false, false, false, false, false, false, false, false, false, false, false, false, false, false, false], [36]) by kernel_rfl) stage_14_3
theorem stage_14_1 : schedOk (opsAt Tryz.f6 14) (.q 12 (.q 13 (.q 14 (.q 15 (.q 16 (.q 17 (.q 18 (.q 19 (.q 20 (.q 21 (.q 22 (.q 23 (.q 24 (.q 25 (.q 26 (.q 27 (.q 28 (.q 29 (.q 30 (.q 31 (.q 32 (.q 33 (.q 34 (.q 35 (.q 36 (.q 37 (.q 38 (.q 39 (.q 40 (.q 41 (.q 42 (.q 43 (.q 44 (.q 45 (.q 46 (.q 47 (.q 48 (.n 49 (.q 50 (.q 51 (.q 52 (.q 53 (.q 54 (.q 55 (.q 56 (.q 57 (.q 58 (.n 59 (.q 60 (.q 61 (.q 62 (.q 63 (.q 64 (.q 66 (.q 67 (.q 68 (.n 65 (.n 69 (.q 70 (.q 71 (.q 72 (.q 73 (.q 74 (.q 75 (.q 76 (.q 77 (.q 78 (.q 79 (.q 80 (.q 83 (.n 81 (.n 82 (.q 84 (.q 85 (.q 86 (.q 87 (.q 88 (.q 89 (.n 90 (.q 91 (.q 92 .fin)) .stop))))))) .stop) .stop))))))))))))) .stop) .stop))))))))) .stop)))))))))) .stop)))))))))))))))))))))))))))))))))))))) 81 #[true, true, true, true, true, true, true, true, true, true, true, true, false, false, false, false, false, false, false, false, false, false, false, false, false, false, false, false, false, false, false, false, false, false, false, false, false, false, false, false, false, false, false, false, false, false, false, false, false, false, false, false, false, false, false, false, false, false, false, false, false, false, false, false, false, false, false, false, false, false, false, false, false, false, false, false, false, false, false, false, false, false, false, false, false, false, false, false, false, false, false, false, false] [12] = true := runQ_ok 12 _ _ _ _ (show runQ _ _ _ = some ((.q 24 (.q 25 (.q 26 (.q 27 (.q 28 (.q 29 (.q 30 (.q 31 (.q 32 (.q 33 (.q 34 (.q 35 (.q 36 (.q 37 (.q 38 (.q 39 (.q 40 (.q 41 (.q 42 (.q 43 (.q 44 (.q 45 (.q 46 (.q 47 (.q 48 (.n 49 (.q 50 (.q 51 (.q 52 (.q 53 (.q 54 (.q 55 (.q 56 (.q 57 (.q 58 (.n 59 (.q 60 (.q 61 (.q 62 (.q 63 (.q 64 (.q 66 (.q 67 (.q 68 (.n 65 (.n 69 (.q 70 (.q 71 (.q 72 (.q 73 (.q 74 (.q 75 (.q 76 (.q 77 (.q 78 (.q 79 (.q 80 (.q 83 (.n 81 (.n 82 (.q 84 (.q 85 (.q 86 (.q 87 (.q 88 (.q 89 (.n 90 (.q 91 (.q 92 .fin)) .stop))))))) .stop) .stop))))))))))))) .stop) .stop))))))))) .stop)))))))))) .stop)))))))))))))))))))))))))), 69, #[true, true, true, true, true, true, true, true, true, true, true, true, true, true, true, true, true, true, true, true, true, true, true, true, false, false, false, false, false, false, false, false, false, false, false, false, false, false, false, false, false, false, false, false, false, false, false, false, false, false, false, false, false, false, false, false, false, false, false, false, false, false, false, false, false, false, false, false, false, false, false, false, false, false, false, false, false, false, false, false, false, false, false, false, false, false, false, false, false, false, false, false, false], [24, 25]) by kernel_rfl) stage_14_2
theorem stage_14_0 : schedOk (opsAt Tryz.f6 14) (.q 0 (.q 2 (.n 1 (.n 3 (.q 4 (.q 5 (.q 6 (.q 7 (.q 8 (.q 9 (.q 10 (.q 11 (.q 12 (.q 13 (.q 14 (.q 15 (.q 16 (.q 17 (.q 18 (.q 19 (.q 20 (.q 21 (.q 22 (.q 23 (.q 24 (.q 25 (.q 26 (.q 27 (.q 28 (.q 29 (.q 30 (.q 31 (.q 32 (.q 33 (.q 34 (.q 35 (.q 36 (.q 37 (.q 38 (.q 39 (.q 40 (.q 41 (.q 42 (.q 43 (.q 44 (.q 45 (.q 46 (.q 47 (.q 48 (.n 49 (.q 50 (.q 51 (.q 52 (.q 53 (.q 54 (.q 55 (.q 56 (.q 57 (.q 58 (.n 59 (.q 60 (.q 61 (.q 62 (.q 63 (.q 64 (.q 66 (.q 67 (.q 68 (.n 65 (.n 69 (.q 70 (.q 71 (.q 72 (.q 73 (.q 74 (.q 75 (.q 76 (.q 77 (.q 78 (.q 79 (.q 80 (.q 83 (.n 81 (.n 82 (.q 84 (.q 85 (.q 86 (.q 87 (.q 88 (.q 89 (.n 90 (.q 91 (.q 92 .fin)) .stop))))))) .stop) .stop))))))))))))) .stop) .stop))))))))) .stop)))))))))) .stop)))))))))))))))))))))))))))))))))))))))))))))) .stop) .stop))) 93 #[false, false, false, false, false, false, false, false, false, false, false, false, false, false, false, false, false, false, false, false, false, false, false, false, false, false, false, false, false, false, false, false, false, false, false, false, false, false, false, false, false, false, false, false, false, false, false, false, false, false, false, false, false, false, false, false, false, false, false, false, false, false, false, false, false, false, false, false, false, false, false, false, false, false, false, false, false, false, false, false, false, false, false, false, false, false, false, false, false, false, false, false, false] [0, 2] = true := runQ_ok 12 _ _ _ _ (show runQ _ _ _ = some ((.q 12 (.q 13 (.q 14 (.q 15 (.q 16 (.q 17 (.q 18 (.q 19 (.q 20 (.q 21 (.q 22 (.q 23 (.q 24 (.q 25 (.q 26 (.q 27 (.q 28 (.q 29 (.q 30 (.q 31 (.q 32 (.q 33 (.q 34 (.q 35 (.q 36 (.q 37 (.q 38 (.q 39 (.q 40 (.q 41 (.q 42 (.q 43 (.q 44 (.q 45 (.q 46 (.q 47 (.q 48 (.n 49 (.q 50 (.q 51 (.q 52 (.q 53 (.q 54 (.q 55 (.q 56 (.q 57 (.q 58 (.n 59 (.q 60 (.q 61 (.q 62 (.q 63 (.q 64 (.q 66 (.q 67 (.q 68 (.n 65 (.n 69 (.q 70 (.q 71 (.q 72 (.q 73 (.q 74 (.q 75 (.q 76 (.q 77 (.q 78 (.q 79 (.q 80 (.q 83 (.n 81 (.n 82 (.q 84 (.q 85 (.q 86 (.q 87 (.q 88 (.q 89 (.n 90 (.q 91 (.q 92 .fin)) .stop))))))) .stop) .stop))))))))))))) .stop) .stop))))))))) .stop)))))))))) .stop)))))))))))))))))))))))))))))))))))))), 81, #[true, true, true, true, true, true, true, true, true, true, true, true, false, false, false, false, false, false, false, false, false, false, false, false, false, false, false, false, false, false, false, false, false, false, false, false, false, false, false, false, false, false, false, false, false, false, false, false, false, false, false, false, false, false, false, false, false, false, false, false, false, false, false, false, false, false, false, false, false, false, false, false, false, false, false, false, false, false, false, false, false, false, false, false, false, false, false, false, false, false, false, false, false], [12]) by kernel_rfl) stage_14_1
theorem sched_14 : schedOK (opsAt Tryz.f6 14) (.q 0 (.q 2 (.n 1 (.n 3 (.q 4 (.q 5 (.q 6 (.q 7 (.q 8 (.q 9 (.q 10 (.q 11 (.q 12 (.q 13 (.q 14 (.q 15 (.q 16 (.q 17 (.q 18 (.q 19 (.q 20 (.q 21 (.q 22 (.q 23 (.q 24 (.q 25 (.q 26 (.q 27 (.q 28 (.q 29 (.q 30 (.q 31 (.q 32 (.q 33 (.q 34 (.q 35 (.q 36 (.q 37 (.q 38 (.q 39 (.q 40 (.q 41 (.q 42 (.q 43 (.q 44 (.q 45 (.q 46 (.q 47 (.q 48 (.n 49 (.q 50 (.q 51 (.q 52 (.q 53 (.q 54 (.q 55 (.q 56 (.q 57 (.q 58 (.n 59 (.q 60 (.q 61 (.q 62 (.q 63 (.q 64 (.q 66 (.q 67 (.q 68 (.n 65 (.n 69 (.q 70 (.q 71 (.q 72 (.q 73 (.q 74 (.q 75 (.q 76 (.q 77 (.q 78 (.q 79 (.q 80 (.q 83 (.n 81 (.n 82 (.q 84 (.q 85 (.q 86 (.q 87 (.q 88 (.q 89 (.n 90 (.q 91 (.q 92 .fin)) .stop))))))) .stop) .stop))))))))))))) .stop) .stop))))))))) .stop)))))))))) .stop)))))))))))))))))))))))))))))))))))))))))))))) .stop) .stop))) = true := schedOK_of (by kernel_rfl) (by kernel_rfl) (by kernel_rfl) (by kernel_rfl) (by kernel_rfl) stage_14_0
theorem at_cases (e : Ent) (n : Int) : ∃ (c : Ver) (b : Bool) (k : Nat), atE e n = (c, b) ∧ (idxV e.vs n).getD 0 = k ∧ (idxV e.vs n).isSome = b ∧ (b = false → c = Ver0) ∧ (b = true → ∃ h : k < e.vs.length, c = e.vs[k]) := by
  unfold atE
  cases h : idxV e.vs n with
  | none => exact ⟨Ver0, false, 0, rfl, rfl, rfl, fun _ => rfl, fun h => by cases h⟩
  | some i =>
    obtain ⟨hi, _⟩ := idxV_lt h
    refine ⟨_, true, i, rfl, rfl, rfl, (fun h => by cases h), fun _ => ⟨hi, ?_⟩⟩
    simp [List.getElem?_eq_getElem hi]
theorem holds_tag (e : Ent) : holdsE e 2 (tagOf (nowE e).1.body) = (nowE e).2 := by
  unfold holdsE
  simp [strEq_iff.2 rfl]
set_option maxHeartbeats 16000000 in
set_option maxRecDepth 20000 in
theorem tomeAll_any (e0 : Ent) (he : e0.Ok) (v0 : Ver) (hv : v0.Ok) (ver cnd : Int) (tag : ByteArray) (cs : List Value) (w : World) (hw : Env w) (hE : RepE (inW w) w e0 cs) :
    Calls Tryz.prog 6 #[.agg cs.toArray, .agg (verC v0).toArray, .int .i64 ver, .int .i64 cnd, .string tag] w (RetB (.bool true) w) := by
  obtain ⟨A0, c0, rfl, hR⟩ := hE
  obtain ⟨e, hee⟩ : ∃ e, e = cutE e0 := ⟨_, rfl⟩
  have hen := entry5_any e0 he A0 c0 (inW w)
  have heok := cutE_ok he
  have hen2 := entry5_any (cutE e0) heok
  rw [cutE_idem] at hen2
  have hbody := cutE_body e0
  have hlen := cutE_len e0
  rw [← hee] at hen heok hen2 hbody hlen
  have hmx : (nowE e).1.body.size ≤ maxLen := Nat.le_trans hbody (by decide)
  refine calls_vc lay_ok Tryz.func6 rfl (by kernel_rfl) (by kernel_rfl) ?_
  have hc := CtxF.start w no (fun _ h => h.elim) (R := fun _ _ => True) trivial Stab.true
  intro g5 wg5 hg5
  have hc := (hc.loc hg5).1
  intro g6 wg6 hg6
  have hc := (hc.loc hg6).1
  refine call_b (begun5_any _ (hw.below hc.below)) ?_
  intro wQ hQ
  have hc := (hc.quiet hQ).1
  refine Drawn.join (α := Option Addr × Nat) (fun _ => [(2, .int .i64 ver), (3, .int .i64 cnd), (4, .string tag), (5, .pointer (some ⟨g5, 0, none⟩)), (6, .pointer (some ⟨g6, 0, none⟩))])
    (fun x wS => ∃ S, CtxF no w S wS [(g6, 60, verC (cutV v0)), (g5, 58, [.string e.key, .slice x.1 e.vs.length x.2])] [] (fun S w => Row S w x.1 e.vs.length x.2 (e.vs.map verC).flatten)) ?_ ?_
  · refine drawn lay_ok (by kernel_rfl) (.q 2 (.n 0 (.n 1 (.n 3 (.n 4 (.n 5 (.q 6 (.z 7)) .stop) .stop) .stop) (.n 3 (.n 1 (.n 4 (.n 5 (.q 6 (.z 7)) .stop) .stop) .stop) .stop)) (.n 3 (.n 0 (.n 1 (.n 4 (.n 5 (.q 6 (.z 7)) .stop) .stop) .stop) .stop) .stop))) (fun _ => True) (by kernel_rfl) trivial ?_
    have hc := hc.drew
    refine ⟨?_, ?_⟩
    · skip
      refine ⟨_, ?_, hc.cells 1 rfl, trivial, ?_⟩
      · rfl
      refine ⟨?_, ?_⟩
      · skip
        refine ⟨(hen _ (hR.below hc.below)).mono fun en wq hq => ?_⟩
        obtain ⟨A1, c1, e1, hq, ho⟩ := hq
        have hc := hc.fresh hq ho
        obtain ⟨S1, _, hc⟩ := hc.told
        refine ⟨_, e1, trivial, ?_⟩
        refine ⟨?_, trivial⟩
        refine ⟨_, hc.cell 0 rfl _ rfl, trivial, ?_⟩
        refine ⟨?_, trivial⟩
        refine call_b (cutN_any v0.body 302 _ hv.body) ?_
        intro wQ hQ
        have hc := (hc.quiet hQ).1
        refine ⟨trivial, ?_⟩
        refine ⟨?_, trivial⟩
        refine ⟨hc.may 1 rfl _ _ (nle rfl) rfl, ?_⟩
        intro wS hS
        have hc := (hc.set 1 rfl hS).1
        refine ⟨trivial, ?_⟩
        refine ⟨hc.may 0 rfl _ _ (nle rfl) rfl, ?_⟩
        intro wS hS
        have hc := (hc.set 0 rfl hS).1
        exact ⟨(A1, c1), ⟨rfl, rfl, rfl, rfl, rfl, trivial⟩, _, hc.now (fun h => h.2) (stab_row _ _ _ _)⟩
      refine ⟨?_, trivial⟩
      refine ⟨_, hc.cell 0 rfl _ rfl, trivial, ?_⟩
      refine ⟨?_, trivial⟩
      refine ⟨(hen _ (hR.below hc.below)).mono fun en wq hq => ?_⟩
      obtain ⟨A1, c1, e1, hq, ho⟩ := hq
      have hc := hc.fresh hq ho
      obtain ⟨S1, _, hc⟩ := hc.told
      refine ⟨_, e1, trivial, ?_⟩
      refine ⟨?_, trivial⟩
      refine call_b (cutN_any v0.body 302 _ hv.body) ?_
      intro wQ hQ
      have hc := (hc.quiet hQ).1
      refine ⟨trivial, ?_⟩
      refine ⟨?_, trivial⟩
      refine ⟨hc.may 1 rfl _ _ (nle rfl) rfl, ?_⟩
      intro wS hS
      have hc := (hc.set 1 rfl hS).1
      refine ⟨trivial, ?_⟩
      refine ⟨hc.may 0 rfl _ _ (nle rfl) rfl, ?_⟩
      intro wS hS
      have hc := (hc.set 0 rfl hS).1
      exact ⟨(A1, c1), ⟨rfl, rfl, rfl, rfl, rfl, trivial⟩, _, hc.now (fun h => h.2) (stab_row _ _ _ _)⟩
    refine ⟨?_, trivial⟩
    refine ⟨_, hc.cell 0 rfl _ rfl, trivial, ?_⟩
    refine ⟨?_, trivial⟩
    refine ⟨_, ?_, hc.cells 1 rfl, trivial, ?_⟩
    · rfl
    refine ⟨?_, trivial⟩
    refine ⟨(hen _ (hR.below hc.below)).mono fun en wq hq => ?_⟩
    obtain ⟨A1, c1, e1, hq, ho⟩ := hq
    have hc := hc.fresh hq ho
    obtain ⟨S1, _, hc⟩ := hc.told
    refine ⟨_, e1, trivial, ?_⟩
    refine ⟨?_, trivial⟩
    refine call_b (cutN_any v0.body 302 _ hv.body) ?_
    intro wQ hQ
    have hc := (hc.quiet hQ).1
    refine ⟨trivial, ?_⟩
    refine ⟨?_, trivial⟩
    refine ⟨hc.may 1 rfl _ _ (nle rfl) rfl, ?_⟩
    intro wS hS
    have hc := (hc.set 1 rfl hS).1
    refine ⟨trivial, ?_⟩
    refine ⟨hc.may 0 rfl _ _ (nle rfl) rfl, ?_⟩
    intro wS hS
    have hc := (hc.set 0 rfl hS).1
    exact ⟨(A1, c1), ⟨rfl, rfl, rfl, rfl, rfl, trivial⟩, _, hc.now (fun h => h.2) (stab_row _ _ _ _)⟩
  clear hc
  rintro ⟨A, cap⟩ u wS hc
  obtain ⟨S, hc⟩ := hc
  simp only at hc
  generalize cutV v0 = v at *
  refine ⟨_, ?_, hc.cells 1 rfl, ?_⟩
  · rfl
  refine ⟨(hen2 A cap _ _ hc.row).mono fun en wq hq => ?_⟩
  obtain ⟨A2, c2, e1, hq, ho⟩ := hq
  have hc := hc.fresh hq ho
  obtain ⟨S2, _, hc⟩ := hc.told
  refine ⟨_, e1, ?_⟩
  intro g12 wg12 hg12
  have hc := (hc.loc hg12).1
  refine ⟨hc.may 0 rfl _ _ (nle rfl) rfl, ?_⟩
  intro wS hS
  have hc := (hc.set 0 rfl hS).1
  refine ⟨_, ?_, hc.cells 2 rfl, ?_⟩
  · rfl
  refine call_b (now_any e A cap _ _ hc.row.1) ?_
  intro wQ hQ
  have hc := (hc.quiet hQ).1
  intro g13 wg13 hg13
  have hc := (hc.loc hg13).1
  refine ⟨hc.may 0 rfl _ _ (nle rfl) rfl, ?_⟩
  intro wS hS
  have hc := (hc.set 0 rfl hS).1
  refine ⟨_, ?_, hc.cells 3 rfl, ?_⟩
  · rfl
  refine call_b (rnow_any e A cap _ _ hc.row.1) ?_
  intro wQ hQ
  have hc := (hc.quiet hQ).1
  intro g15 wg15 hg15
  have hc := (hc.loc hg15).1
  refine ⟨hc.may 0 rfl _ _ (nle rfl) rfl, ?_⟩
  intro wS hS
  have hc := (hc.set 0 rfl hS).1
  obtain ⟨c, b, k, hat, hk1, hk2, hb0, hb1⟩ := at_cases e ver
  refine ⟨_, ?_, hc.cells 4 rfl, ?_⟩
  · rfl
  have ha := at_any e ver A cap _ _ hc.row.1
  rw [hat] at ha
  refine call_b (ha) ?_
  intro wQ hQ
  have hc := (hc.quiet hQ).1
  intro g17 wg17 hg17
  have hc := (hc.loc hg17).1
  refine ⟨hc.may 0 rfl _ _ (nle rfl) rfl, ?_⟩
  intro wS hS
  have hc := (hc.set 0 rfl hS).1
  refine ⟨_, ?_, hc.cells 5 rfl, ?_⟩
  · rfl
  have ha := rat_any e ver A cap _ _ hc.row.1
  rw [hk1, hk2] at ha
  refine call_b (ha) ?_
  intro wQ hQ
  have hc := (hc.quiet hQ).1
  obtain ⟨f, one, hf, hfn⟩ : ∃ f one, addE e v = (f, one) ∧ (one = false → f = e) := ⟨_, _, rfl, addE_not⟩
  obtain ⟨h, three, hh, hhn⟩ : ∃ h three, purgeE e ver = (h, three) ∧ (three = false → h = e) := ⟨_, _, rfl, purgeE_not⟩
  refine ⟨_, ?_, hc.cells 5 rfl, ?_⟩
  · rfl
  refine ⟨_, ?_, hc.cells 4 rfl, ?_⟩
  · rfl
  refine ⟨(add_any e v A cap (by omega) _ _ hc.row.1).mono fun en wq hq => ?_⟩
  rw [hf] at hq
  obtain ⟨A3, c3, e1, hq, ho⟩ := hq.row hfn hc.row.1
  have hc := (hc.call hq).1.know ho (stab_row _ _ _ _)
  refine ⟨_, e1, ?_⟩
  intro g21 wg21 hg21
  have hc := (hc.loc hg21).1
  refine ⟨hc.may 0 rfl _ _ (nle rfl) rfl, ?_⟩
  intro wS hS
  have hc := (hc.set 0 rfl hS).1
  refine ⟨_, ?_, hc.cells 6 rfl, ?_⟩
  · rfl
  refine ⟨_, ?_, hc.cells 5 rfl, ?_⟩
  · rfl
  refine ⟨(radd_any' e v A cap (by omega) _ _ hc.row.1.1).mono fun en wq hq => ?_⟩
  rw [hf] at hq
  obtain ⟨A4, c4, e1, hq, ho⟩ := hq.row hfn hc.row.1.1
  have hc := (hc.call hq).1.know ho (stab_row _ _ _ _)
  refine ⟨_, e1, ?_⟩
  intro g23 wg23 hg23
  have hc := (hc.loc hg23).1
  refine ⟨hc.may 0 rfl _ _ (nle rfl) rfl, ?_⟩
  intro wS hS
  have hc := (hc.set 0 rfl hS).1
  refine ⟨_, ?_, hc.cells 7 rfl, ?_⟩
  · rfl
  refine ⟨(purge_any e ver A cap (by omega) _ _ hc.row.1.1.1).mono fun en wq hq => ?_⟩
  rw [hh] at hq
  obtain ⟨A5, c5, e1, hq, ho⟩ := hq.row hhn hc.row.1.1.1
  have hc := (hc.call hq).1.know ho (stab_row _ _ _ _)
  refine ⟨_, e1, ?_⟩
  intro g25 wg25 hg25
  have hc := (hc.loc hg25).1
  refine ⟨hc.may 0 rfl _ _ (nle rfl) rfl, ?_⟩
  intro wS hS
  have hc := (hc.set 0 rfl hS).1
  refine ⟨_, ?_, hc.cells 8 rfl, ?_⟩
  · rfl
  refine ⟨(rpurge_any e ver A cap (by omega) _ _ hc.row.1.1.1.1).mono fun en wq hq => ?_⟩
  rw [hh] at hq
  obtain ⟨A6, c6, e1, hq, ho⟩ := hq.row hhn hc.row.1.1.1.1
  have hc := (hc.call hq).1.know ho (stab_row _ _ _ _)
  refine ⟨_, e1, ?_⟩
  intro g27 wg27 hg27
  have hc := (hc.loc hg27).1
  refine ⟨hc.may 0 rfl _ _ (nle rfl) rfl, ?_⟩
  intro wS hS
  have hc := (hc.set 0 rfl hS).1
  have hr := hc
  refine drawn lay_ok (by kernel_rfl) (.q 0 (.q 2 (.n 1 (.n 3 (.q 4 (.q 5 (.q 6 (.q 7 (.q 8 (.q 9 (.q 10 (.q 11 (.q 12 (.q 13 (.q 14 (.q 15 (.q 16 (.q 17 (.q 18 (.q 19 (.q 20 (.q 21 (.q 22 (.q 23 (.q 24 (.q 25 (.q 26 (.q 27 (.q 28 (.q 29 (.q 30 (.q 31 (.q 32 (.q 33 (.q 34 (.q 35 (.q 36 (.q 37 (.q 38 (.q 39 (.q 40 (.q 41 (.q 42 (.q 43 (.q 44 (.q 45 (.q 46 (.q 47 (.q 48 (.n 49 (.q 50 (.q 51 (.q 52 (.q 53 (.q 54 (.q 55 (.q 56 (.q 57 (.q 58 (.n 59 (.q 60 (.q 61 (.q 62 (.q 63 (.q 64 (.q 66 (.q 67 (.q 68 (.n 65 (.n 69 (.q 70 (.q 71 (.q 72 (.q 73 (.q 74 (.q 75 (.q 76 (.q 77 (.q 78 (.q 79 (.q 80 (.q 83 (.n 81 (.n 82 (.q 84 (.q 85 (.q 86 (.q 87 (.q 88 (.q 89 (.n 90 (.q 91 (.q 92 .fin)) .stop))))))) .stop) .stop))))))))))))) .stop) .stop))))))))) .stop)))))))))) .stop)))))))))))))))))))))))))))))))))))))))))))))) .stop) .stop))) (Old _) (Eq.trans (b := schedOK (opsAt Tryz.f6 14) (.q 0 (.q 2 (.n 1 (.n 3 (.q 4 (.q 5 (.q 6 (.q 7 (.q 8 (.q 9 (.q 10 (.q 11 (.q 12 (.q 13 (.q 14 (.q 15 (.q 16 (.q 17 (.q 18 (.q 19 (.q 20 (.q 21 (.q 22 (.q 23 (.q 24 (.q 25 (.q 26 (.q 27 (.q 28 (.q 29 (.q 30 (.q 31 (.q 32 (.q 33 (.q 34 (.q 35 (.q 36 (.q 37 (.q 38 (.q 39 (.q 40 (.q 41 (.q 42 (.q 43 (.q 44 (.q 45 (.q 46 (.q 47 (.q 48 (.n 49 (.q 50 (.q 51 (.q 52 (.q 53 (.q 54 (.q 55 (.q 56 (.q 57 (.q 58 (.n 59 (.q 60 (.q 61 (.q 62 (.q 63 (.q 64 (.q 66 (.q 67 (.q 68 (.n 65 (.n 69 (.q 70 (.q 71 (.q 72 (.q 73 (.q 74 (.q 75 (.q 76 (.q 77 (.q 78 (.q 79 (.q 80 (.q 83 (.n 81 (.n 82 (.q 84 (.q 85 (.q 86 (.q 87 (.q 88 (.q 89 (.n 90 (.q 91 (.q 92 .fin)) .stop))))))) .stop) .stop))))))))))))) .stop) .stop))))))))) .stop)))))))))) .stop)))))))))))))))))))))))))))))))))))))))))))))) .stop) .stop)))) (by kernel_rfl) sched_14) (Old.start _) ?_
  have hk := hc.old0
  have hc := hc.drew
  refine ⟨_, ?_, fun x hx => Keeps.cells hx (hr.blk 9 rfl) (hr.blk 9 rfl).lt, ?_⟩
  · rfl
  refine ⟨_, ?_, fun x hx => Keeps.cells hx (hr.blk 9 rfl) (hr.blk 9 rfl).lt, ?_⟩
  · rfl
  refine ⟨?_, trivial⟩
  refine call_b (tmay_any e heok.key A cap _ _ hc.row.1.1.1.1.1) ?_
  intro wA hA
  have hc := (hc.quiet hA).1
  have hk := Keeps.below hk (fun _ h => h) hA
  refine ⟨hk, ?_⟩
  refine ⟨?_, trivial⟩
  refine call_b (rmayE_any e heok.key A cap _ _ hc.row.1.1.1.1.1) ?_
  intro wA hA
  have hc := (hc.quiet hA).1
  have hk := Keeps.below hk (fun _ h => h) hA
  refine ⟨hk, ?_⟩
  refine split_t (by cases mayE e <;> rfl) ?_
  refine ⟨_, ?_, fun x hx => Keeps.cells hx (hr.blk 6 rfl) (hr.blk 6 rfl).lt, ?_⟩
  · rfl
  refine ⟨_, ?_, fun x hx => Keeps.cells hx (hr.blk 5 rfl) (hr.blk 5 rfl).lt, ?_⟩
  · rfl
  refine ⟨.bool true, fun w => ver_self (nowE e).1 _ _ w, ?_⟩
  refine split_t (by simp) ?_
  refine split_t (by simp) ?_
  refine split_ (fun hb => ?_) (fun hb => ?_)
  have hbf : b = false := by simpa using hb
  have hc0 := hb0 hbf
  refine ⟨_, ?_, fun x hx => Keeps.cells hx (hr.blk 4 rfl) (hr.blk 4 rfl).lt, ?_⟩
  · rfl
  refine ⟨.bool true, fun w => by rw [hc0]; exact ver_self Ver0 _ _ w, ?_⟩
  rotate_left
  have hbt : b = true := by simpa using hb
  obtain ⟨hkl, hck⟩ := hb1 hbt
  refine split_t hbt ?_
  refine ⟨_, ?_, fun x hx => Keeps.cells hx (hr.blk 4 rfl) (hr.blk 4 rfl).lt, ?_⟩
  · rfl
  obtain ⟨ad, hA, hcell⟩ := RowV.elem hr.row.1.1.1.1.1 k hkl
  subst hA
  refine ⟨_, fun x hx => Keeps.cell hx (hr.blk 9 rfl) (hr.blk 9 rfl).lt rfl, ?_⟩
  refine ⟨⟨by omega, by omega⟩, ?_⟩
  rw [← hck] at hcell
  refine ⟨verC c, rfl, fun x hx => Old.looks hx hcell, ?_⟩
  refine ⟨.bool true, fun w => ver_self c _ _ w, ?_⟩
  rotate_left
  all_goals
    refine split_t (by simp) ?_
    refine ⟨_, ?_, fun x hx => Keeps.cells hx (hr.blk 3 rfl) (hr.blk 3 rfl).lt, ?_⟩
    · rfl
    refine ⟨_, ?_, fun x hx => Keeps.cells hx (hr.blk 2 rfl) (hr.blk 2 rfl).lt, ?_⟩
    · rfl
    have hE := reqE_any f f _ _ _ _ _ _ hc.row.1.1.1.2 hc.row.1.1.2
    rw [eqE_iff.2 rfl] at hE
    refine ⟨?_, trivial⟩
    refine call_b (hE) ?_
    intro wA hA
    have hc := (hc.quiet hA).1
    have hk := Keeps.below hk (fun _ h => h) hA
    refine ⟨hk, ?_⟩
    refine split_t (by simp) ?_
    refine ⟨_, ?_, fun x hx => Keeps.cells hx (hr.blk 1 rfl) (hr.blk 1 rfl).lt, ?_⟩
    · rfl
    refine ⟨_, ?_, fun x hx => Keeps.cells hx (hr.blk 0 rfl) (hr.blk 0 rfl).lt, ?_⟩
    · rfl
    have hE := reqE_any h h _ _ _ _ _ _ hc.row.1.2 hc.row.2
    rw [eqE_iff.2 rfl] at hE
    refine ⟨?_, trivial⟩
    refine call_b (hE) ?_
    intro wA hA
    have hc := (hc.quiet hA).1
    have hk := Keeps.below hk (fun _ h => h) hA
    refine ⟨hk, ?_⟩
    refine ⟨_, ?_, fun x hx => Keeps.cells hx (hr.blk 9 rfl) (hr.blk 9 rfl).lt, ?_⟩
    · rfl
    refine ⟨_, ?_, fun x hx => Keeps.cells hx (hr.blk 9 rfl) (hr.blk 9 rfl).lt, ?_⟩
    · rfl
    refine ⟨?_, trivial⟩
    refine call_b (holds_any e cnd tag _ cap _ _ hc.row.1.1.1.1.1 hmx) ?_
    intro wA hA
    have hc := (hc.quiet hA).1
    have hk := Keeps.below hk (fun _ h => h) hA
    refine ⟨hk, ?_⟩
    refine ⟨?_, trivial⟩
    refine call_b (rholds_any e cnd tag _ cap _ _ hc.row.1.1.1.1.1 hmx) ?_
    intro wA hA
    have hc := (hc.quiet hA).1
    have hk := Keeps.below hk (fun _ h => h) hA
    refine ⟨hk, ?_⟩
    refine split_t (by simp) ?_
    refine ⟨_, fun x hx => Keeps.cell hx (hr.blk 9 rfl) (hr.blk 9 rfl).lt rfl, ?_⟩
    refine split_ (fun h0 => ?_) (fun h0 => ?_)
    refine ⟨?_, trivial⟩
    refine ⟨?_, trivial⟩
    rotate_left
    refine ⟨_, ?_, fun x hx => Keeps.cells hx (hr.blk 9 rfl) (hr.blk 9 rfl).lt, ?_⟩
    · rfl
    refine ⟨_, fun x hx => Keeps.cell hx (hr.blk 5 rfl) (hr.blk 5 rfl).lt rfl, ?_⟩
    refine ⟨?_, trivial⟩
    refine call_b (tag_any (nowE e).1.body hmx _) ?_
    intro wA hA
    have hc := (hc.quiet hA).1
    have hk := Keeps.below hk (fun _ h => h) hA
    refine ⟨hk, ?_⟩
    have hH := holds_any e 2 (tagOf (nowE e).1.body) _ cap _ _ hc.row.1.1.1.1.1 hmx
    rw [holds_tag e] at hH
    refine ⟨?_, trivial⟩
    refine call_b (hH) ?_
    intro wA hA
    have hc := (hc.quiet hA).1
    have hk := Keeps.below hk (fun _ h => h) hA
    refine ⟨hk, ?_⟩
    refine split_t (by simp) ?_
    rotate_left
    all_goals
      refine ⟨_, ?_, fun x hx => Keeps.cells hx (hr.blk 9 rfl) (hr.blk 9 rfl).lt, ?_⟩
      · rfl
      refine ⟨_, ?_, fun x hx => Keeps.cells hx (hr.blk 7 rfl) (hr.blk 7 rfl).lt, ?_⟩
      · rfl
      have hE := reqE_any e e _ _ _ _ _ _ hc.row.1.1.1.1.1 hc.row.1.1.1.1.2
      rw [eqE_iff.2 rfl] at hE
      refine ⟨?_, trivial⟩
      refine call_b (hE) ?_
      intro wA hA
      have hc := (hc.quiet hA).1
      have hk := Keeps.below hk (fun _ h => h) hA
      refine ⟨hk, ?_⟩
      exact ⟨rfl, hc.below⟩
set_option maxRecDepth 100000 in
theorem tomeAll_ct {H : Type} (enc : TypeId × Value → H) (W : World) (hw : Env W) {base : Nat}
    (v0 : Value) (d0 : DataW H) (p0 : List MemPlace) (h0 : DataW.Trod enc Tryz.prog W 0 (fun _ => true) true 58 v0 d0 p0) (k0 : Value.okWide Tryz.prog W .any base 58 v0)
    (v1 : Value) (d1 : DataW H) (p1 : List MemPlace) (h1 : DataW.Trod enc Tryz.prog W 0 (fun _ => true) true 60 v1 d1 p1) (k1 : Value.okWide Tryz.prog W .any base 60 v1)
    (v2 : Value) (d2 : DataW H) (p2 : List MemPlace) (h2 : DataW.Trod enc Tryz.prog W 0 (fun _ => true) true 2 v2 d2 p2) (k2 : Value.okWide Tryz.prog W .any base 2 v2)
    (v3 : Value) (d3 : DataW H) (p3 : List MemPlace) (h3 : DataW.Trod enc Tryz.prog W 0 (fun _ => true) true 3 v3 d3 p3) (k3 : Value.okWide Tryz.prog W .any base 3 v3)
    (v4 : Value) (d4 : DataW H) (p4 : List MemPlace) (h4 : DataW.Trod enc Tryz.prog W 0 (fun _ => true) true 9 v4 d4 p4) (k4 : Value.okWide Tryz.prog W .any base 9 v4) :
    Calls Tryz.prog 6 #[v0, v1, v2, v3, v4] W (RetB (.bool true) W) := by
  obtain ⟨a0, s0, rfl, r0, o0⟩ := open_ent h0 k0
  obtain ⟨a1, rfl, o1⟩ := open_ver h1 k1
  obtain ⟨a2, rfl, o2⟩ := open_i64 Tryz.underlying2 h2 k2
  obtain ⟨a3, rfl, o3⟩ := open_i64 Tryz.underlying3 h3 k3
  obtain ⟨a4, rfl, o4⟩ := open_str h4 k4
  exact tomeAll_any a0 o0 a1 o1 a2 a3 a4 s0 W hw r0
end Go.Proofs.YtbmoimihnndboaaGreatDoor
