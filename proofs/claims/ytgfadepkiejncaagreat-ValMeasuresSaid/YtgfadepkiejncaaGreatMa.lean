/- Texts of the proof, part Ma: they prove nothing by themselves that is claimed. -/
import Derived.Test.YtgfadepkiejncaaGreatLb
import Derived.Test.YtgfadepkiejncaaGreatProg
set_option linter.unusedVariables false
set_option linter.unusedSimpArgs false
/- What the program's table says of its types, for the abstract layer. Written by a program of this session. -/
namespace Go.Proofs.YtgfadepkiejncaaGreat
open Go.Ab
@[simp] theorem ti_3 : tinfo Tryz.prog 3 = true := by kernel_rfl
@[simp] theorem ts_3 : tsize Tryz.prog 3 = 1 := by kernel_rfl
@[simp] theorem tg_3 : tagg Tryz.prog 3 = false := by kernel_rfl
@[simp] theorem tz_3 : tzero Tryz.prog 3 = some (.int .i64 0) := by kernel_rfl
@[simp] theorem tw_3 : tbytes Tryz.prog 3 = 8 := by kernel_rfl
@[simp] theorem tc_3 : tconc Tryz.prog 3 = true := by kernel_rfl
@[simp] theorem tn_3 : tkind Tryz.prog 3 = some .i64 := by kernel_rfl
@[simp] theorem ti_4 : tinfo Tryz.prog 4 = true := by kernel_rfl
@[simp] theorem ts_4 : tsize Tryz.prog 4 = 1 := by kernel_rfl
@[simp] theorem tg_4 : tagg Tryz.prog 4 = false := by kernel_rfl
@[simp] theorem tz_4 : tzero Tryz.prog 4 = some (.bool false) := by kernel_rfl
@[simp] theorem tw_4 : tbytes Tryz.prog 4 = 1 := by kernel_rfl
@[simp] theorem tc_4 : tconc Tryz.prog 4 = true := by kernel_rfl
@[simp] theorem tb_4 : tbool Tryz.prog 4 = true := by kernel_rfl
@[simp] theorem ti_5 : tinfo Tryz.prog 5 = true := by kernel_rfl
@[simp] theorem ts_5 : tsize Tryz.prog 5 = 1 := by kernel_rfl
@[simp] theorem tg_5 : tagg Tryz.prog 5 = false := by kernel_rfl
@[simp] theorem tz_5 : tzero Tryz.prog 5 = some (.int .u8 0) := by kernel_rfl
@[simp] theorem tw_5 : tbytes Tryz.prog 5 = 1 := by kernel_rfl
@[simp] theorem tc_5 : tconc Tryz.prog 5 = true := by kernel_rfl
@[simp] theorem tn_5 : tkind Tryz.prog 5 = some .u8 := by kernel_rfl
@[simp] theorem ti_9 : tinfo Tryz.prog 9 = true := by kernel_rfl
@[simp] theorem ts_9 : tsize Tryz.prog 9 = 1 := by kernel_rfl
@[simp] theorem tg_9 : tagg Tryz.prog 9 = false := by kernel_rfl
@[simp] theorem tz_9 : tzero Tryz.prog 9 = some (.string ⟨#[]⟩) := by kernel_rfl
@[simp] theorem tw_9 : tbytes Tryz.prog 9 = 16 := by kernel_rfl
@[simp] theorem tc_9 : tconc Tryz.prog 9 = true := by kernel_rfl
@[simp] theorem tq_9 : tstr Tryz.prog 9 = true := by kernel_rfl
@[simp] theorem ti_20 : tinfo Tryz.prog 20 = true := by kernel_rfl
@[simp] theorem ts_20 : tsize Tryz.prog 20 = 1 := by kernel_rfl
@[simp] theorem tg_20 : tagg Tryz.prog 20 = false := by kernel_rfl
@[simp] theorem tz_20 : tzero Tryz.prog 20 = some (.nilIface) := by kernel_rfl
@[simp] theorem tw_20 : tbytes Tryz.prog 20 = 16 := by kernel_rfl
@[simp] theorem tc_20 : tconc Tryz.prog 20 = false := by kernel_rfl
@[simp] theorem ti_21 : tinfo Tryz.prog 21 = true := by kernel_rfl
@[simp] theorem ts_21 : tsize Tryz.prog 21 = 1 := by kernel_rfl
@[simp] theorem tg_21 : tagg Tryz.prog 21 = false := by kernel_rfl
@[simp] theorem tz_21 : tzero Tryz.prog 21 = some (.int .i32 0) := by kernel_rfl
@[simp] theorem tw_21 : tbytes Tryz.prog 21 = 4 := by kernel_rfl
@[simp] theorem tc_21 : tconc Tryz.prog 21 = true := by kernel_rfl
@[simp] theorem tn_21 : tkind Tryz.prog 21 = some .i32 := by kernel_rfl
@[simp] theorem ti_22 : tinfo Tryz.prog 22 = true := by kernel_rfl
@[simp] theorem ts_22 : tsize Tryz.prog 22 = 1 := by kernel_rfl
@[simp] theorem tg_22 : tagg Tryz.prog 22 = false := by kernel_rfl
@[simp] theorem tz_22 : tzero Tryz.prog 22 = some (.slice none 0 0) := by kernel_rfl
@[simp] theorem tw_22 : tbytes Tryz.prog 22 = 24 := by kernel_rfl
@[simp] theorem tc_22 : tconc Tryz.prog 22 = true := by kernel_rfl
@[simp] theorem te_22 : telem Tryz.prog 22 = some 33 := by kernel_rfl
@[simp] theorem ti_23 : tinfo Tryz.prog 23 = true := by kernel_rfl
@[simp] theorem ts_23 : tsize Tryz.prog 23 = 2 := by kernel_rfl
@[simp] theorem tg_23 : tagg Tryz.prog 23 = true := by kernel_rfl
@[simp] theorem tz_23 : tzero Tryz.prog 23 = some (.agg #[(.bool false), (.slice none 0 0)]) := by kernel_rfl
@[simp] theorem tw_23 : tbytes Tryz.prog 23 = 32 := by kernel_rfl
@[simp] theorem tc_23 : tconc Tryz.prog 23 = true := by kernel_rfl
@[simp] theorem tf_23_0 : tfield Tryz.prog 23 0 = some (0, 4) := by kernel_rfl
@[simp] theorem tf_23_1 : tfield Tryz.prog 23 1 = some (1, 22) := by kernel_rfl
@[simp] theorem tk_23 : tfok Tryz.prog 23 = true := by kernel_rfl
@[simp] theorem ti_24 : tinfo Tryz.prog 24 = true := by kernel_rfl
@[simp] theorem ts_24 : tsize Tryz.prog 24 = 2 := by kernel_rfl
@[simp] theorem tg_24 : tagg Tryz.prog 24 = true := by kernel_rfl
@[simp] theorem tz_24 : tzero Tryz.prog 24 = some (.agg #[(.bool false), (.slice none 0 0)]) := by kernel_rfl
@[simp] theorem tw_24 : tbytes Tryz.prog 24 = 32 := by kernel_rfl
@[simp] theorem tc_24 : tconc Tryz.prog 24 = true := by kernel_rfl
@[simp] theorem tf_24_0 : tfield Tryz.prog 24 0 = some (0, 4) := by kernel_rfl
@[simp] theorem tf_24_1 : tfield Tryz.prog 24 1 = some (1, 22) := by kernel_rfl
@[simp] theorem tk_24 : tfok Tryz.prog 24 = true := by kernel_rfl
@[simp] theorem ti_25 : tinfo Tryz.prog 25 = true := by kernel_rfl
@[simp] theorem ts_25 : tsize Tryz.prog 25 = 1 := by kernel_rfl
@[simp] theorem tg_25 : tagg Tryz.prog 25 = false := by kernel_rfl
@[simp] theorem tz_25 : tzero Tryz.prog 25 = some (.slice none 0 0) := by kernel_rfl
@[simp] theorem tw_25 : tbytes Tryz.prog 25 = 24 := by kernel_rfl
@[simp] theorem tc_25 : tconc Tryz.prog 25 = true := by kernel_rfl
@[simp] theorem te_25 : telem Tryz.prog 25 = some 27 := by kernel_rfl
@[simp] theorem ti_26 : tinfo Tryz.prog 26 = true := by kernel_rfl
@[simp] theorem ts_26 : tsize Tryz.prog 26 = 6 := by kernel_rfl
@[simp] theorem tg_26 : tagg Tryz.prog 26 = true := by kernel_rfl
@[simp] theorem tz_26 : tzero Tryz.prog 26 = some (.agg #[(.int .i64 0), (.int .i64 0), (.bool false), (.slice none 0 0), (.string ⟨#[]⟩), (.slice none 0 0)]) := by kernel_rfl
@[simp] theorem tw_26 : tbytes Tryz.prog 26 = 88 := by kernel_rfl
@[simp] theorem tc_26 : tconc Tryz.prog 26 = true := by kernel_rfl
@[simp] theorem tf_26_0 : tfield Tryz.prog 26 0 = some (0, 3) := by kernel_rfl
@[simp] theorem tf_26_1 : tfield Tryz.prog 26 1 = some (1, 3) := by kernel_rfl
@[simp] theorem tf_26_2 : tfield Tryz.prog 26 2 = some (2, 24) := by kernel_rfl
@[simp] theorem tf_26_3 : tfield Tryz.prog 26 3 = some (4, 9) := by kernel_rfl
@[simp] theorem tf_26_4 : tfield Tryz.prog 26 4 = some (5, 25) := by kernel_rfl
@[simp] theorem tk_26 : tfok Tryz.prog 26 = true := by kernel_rfl
@[simp] theorem ti_27 : tinfo Tryz.prog 27 = true := by kernel_rfl
@[simp] theorem ts_27 : tsize Tryz.prog 27 = 6 := by kernel_rfl
@[simp] theorem tg_27 : tagg Tryz.prog 27 = true := by kernel_rfl
@[simp] theorem tz_27 : tzero Tryz.prog 27 = some (.agg #[(.int .i64 0), (.int .i64 0), (.bool false), (.slice none 0 0), (.string ⟨#[]⟩), (.slice none 0 0)]) := by kernel_rfl
@[simp] theorem tw_27 : tbytes Tryz.prog 27 = 88 := by kernel_rfl
@[simp] theorem tc_27 : tconc Tryz.prog 27 = true := by kernel_rfl
@[simp] theorem tf_27_0 : tfield Tryz.prog 27 0 = some (0, 3) := by kernel_rfl
@[simp] theorem tf_27_1 : tfield Tryz.prog 27 1 = some (1, 3) := by kernel_rfl
@[simp] theorem tf_27_2 : tfield Tryz.prog 27 2 = some (2, 24) := by kernel_rfl
@[simp] theorem tf_27_3 : tfield Tryz.prog 27 3 = some (4, 9) := by kernel_rfl
@[simp] theorem tf_27_4 : tfield Tryz.prog 27 4 = some (5, 25) := by kernel_rfl
@[simp] theorem tk_27 : tfok Tryz.prog 27 = true := by kernel_rfl
@[simp] theorem ti_30 : tinfo Tryz.prog 30 = true := by kernel_rfl
@[simp] theorem ts_30 : tsize Tryz.prog 30 = 1 := by kernel_rfl
@[simp] theorem tg_30 : tagg Tryz.prog 30 = false := by kernel_rfl
@[simp] theorem tz_30 : tzero Tryz.prog 30 = some (.int .i64 0) := by kernel_rfl
@[simp] theorem tw_30 : tbytes Tryz.prog 30 = 8 := by kernel_rfl
@[simp] theorem tc_30 : tconc Tryz.prog 30 = true := by kernel_rfl
@[simp] theorem tn_30 : tkind Tryz.prog 30 = some .i64 := by kernel_rfl
@[simp] theorem ti_32 : tinfo Tryz.prog 32 = true := by kernel_rfl
@[simp] theorem ts_32 : tsize Tryz.prog 32 = 1 := by kernel_rfl
@[simp] theorem tg_32 : tagg Tryz.prog 32 = false := by kernel_rfl
@[simp] theorem tz_32 : tzero Tryz.prog 32 = some (.nilFunc) := by kernel_rfl
@[simp] theorem tw_32 : tbytes Tryz.prog 32 = 8 := by kernel_rfl
@[simp] theorem tc_32 : tconc Tryz.prog 32 = true := by kernel_rfl
@[simp] theorem ti_33 : tinfo Tryz.prog 33 = true := by kernel_rfl
@[simp] theorem ts_33 : tsize Tryz.prog 33 = 1 := by kernel_rfl
@[simp] theorem tg_33 : tagg Tryz.prog 33 = false := by kernel_rfl
@[simp] theorem tz_33 : tzero Tryz.prog 33 = some (.int .u32 0) := by kernel_rfl
@[simp] theorem tw_33 : tbytes Tryz.prog 33 = 4 := by kernel_rfl
@[simp] theorem tc_33 : tconc Tryz.prog 33 = true := by kernel_rfl
@[simp] theorem tn_33 : tkind Tryz.prog 33 = some .u32 := by kernel_rfl
@[simp] theorem ti_47 : tinfo Tryz.prog 47 = true := by kernel_rfl
@[simp] theorem ts_47 : tsize Tryz.prog 47 = 7 := by kernel_rfl
@[simp] theorem tg_47 : tagg Tryz.prog 47 = true := by kernel_rfl
@[simp] theorem tz_47 : tzero Tryz.prog 47 = some (.agg #[(.int .i64 0), (.int .i64 0), (.bool false), (.slice none 0 0), (.string ⟨#[]⟩), (.slice none 0 0), (.int .i64 0)]) := by kernel_rfl
@[simp] theorem tw_47 : tbytes Tryz.prog 47 = 96 := by kernel_rfl
@[simp] theorem tc_47 : tconc Tryz.prog 47 = true := by kernel_rfl
@[simp] theorem tf_47_0 : tfield Tryz.prog 47 0 = some (0, 27) := by kernel_rfl
@[simp] theorem tf_47_1 : tfield Tryz.prog 47 1 = some (6, 30) := by kernel_rfl
@[simp] theorem tk_47 : tfok Tryz.prog 47 = true := by kernel_rfl
@[simp] theorem ti_48 : tinfo Tryz.prog 48 = true := by kernel_rfl
@[simp] theorem ts_48 : tsize Tryz.prog 48 = 7 := by kernel_rfl
@[simp] theorem tg_48 : tagg Tryz.prog 48 = true := by kernel_rfl
@[simp] theorem tz_48 : tzero Tryz.prog 48 = some (.agg #[(.int .i64 0), (.int .i64 0), (.bool false), (.slice none 0 0), (.string ⟨#[]⟩), (.slice none 0 0), (.int .i64 0)]) := by kernel_rfl
@[simp] theorem tw_48 : tbytes Tryz.prog 48 = 96 := by kernel_rfl
@[simp] theorem tc_48 : tconc Tryz.prog 48 = true := by kernel_rfl
@[simp] theorem tf_48_0 : tfield Tryz.prog 48 0 = some (0, 27) := by kernel_rfl
@[simp] theorem tf_48_1 : tfield Tryz.prog 48 1 = some (6, 30) := by kernel_rfl
@[simp] theorem tk_48 : tfok Tryz.prog 48 = true := by kernel_rfl
@[simp] theorem ti_57 : tinfo Tryz.prog 57 = true := by kernel_rfl
@[simp] theorem ts_57 : tsize Tryz.prog 57 = 1 := by kernel_rfl
@[simp] theorem tg_57 : tagg Tryz.prog 57 = false := by kernel_rfl
@[simp] theorem tz_57 : tzero Tryz.prog 57 = some (.slice none 0 0) := by kernel_rfl
@[simp] theorem tw_57 : tbytes Tryz.prog 57 = 24 := by kernel_rfl
@[simp] theorem tc_57 : tconc Tryz.prog 57 = true := by kernel_rfl
@[simp] theorem te_57 : telem Tryz.prog 57 = some 3 := by kernel_rfl
@[simp] theorem ti_65 : tinfo Tryz.prog 65 = true := by kernel_rfl
@[simp] theorem ts_65 : tsize Tryz.prog 65 = 2 := by kernel_rfl
@[simp] theorem tg_65 : tagg Tryz.prog 65 = true := by kernel_rfl
@[simp] theorem tz_65 : tzero Tryz.prog 65 = some (.agg #[(.int .i64 0), (.bool false)]) := by kernel_rfl
@[simp] theorem tw_65 : tbytes Tryz.prog 65 = 16 := by kernel_rfl
@[simp] theorem tc_65 : tconc Tryz.prog 65 = true := by kernel_rfl
@[simp] theorem tf_65_0 : tfield Tryz.prog 65 0 = some (0, 3) := by kernel_rfl
@[simp] theorem tf_65_1 : tfield Tryz.prog 65 1 = some (1, 4) := by kernel_rfl
@[simp] theorem tk_65 : tfok Tryz.prog 65 = true := by kernel_rfl
@[simp] theorem ti_66 : tinfo Tryz.prog 66 = true := by kernel_rfl
@[simp] theorem ts_66 : tsize Tryz.prog 66 = 2 := by kernel_rfl
@[simp] theorem tg_66 : tagg Tryz.prog 66 = true := by kernel_rfl
@[simp] theorem tz_66 : tzero Tryz.prog 66 = some (.agg #[(.int .i64 0), (.bool false)]) := by kernel_rfl
@[simp] theorem tw_66 : tbytes Tryz.prog 66 = 16 := by kernel_rfl
@[simp] theorem tc_66 : tconc Tryz.prog 66 = true := by kernel_rfl
@[simp] theorem tf_66_0 : tfield Tryz.prog 66 0 = some (0, 3) := by kernel_rfl
@[simp] theorem tf_66_1 : tfield Tryz.prog 66 1 = some (1, 4) := by kernel_rfl
@[simp] theorem tk_66 : tfok Tryz.prog 66 = true := by kernel_rfl
@[simp] theorem ti_70 : tinfo Tryz.prog 70 = true := by kernel_rfl
@[simp] theorem ts_70 : tsize Tryz.prog 70 = 2 := by kernel_rfl
@[simp] theorem tg_70 : tagg Tryz.prog 70 = true := by kernel_rfl
@[simp] theorem tz_70 : tzero Tryz.prog 70 = some (.agg #[(.bool false), (.int .i64 0)]) := by kernel_rfl
@[simp] theorem tw_70 : tbytes Tryz.prog 70 = 16 := by kernel_rfl
@[simp] theorem tc_70 : tconc Tryz.prog 70 = true := by kernel_rfl
@[simp] theorem tf_70_0 : tfield Tryz.prog 70 0 = some (0, 4) := by kernel_rfl
@[simp] theorem tf_70_1 : tfield Tryz.prog 70 1 = some (1, 30) := by kernel_rfl
@[simp] theorem tk_70 : tfok Tryz.prog 70 = true := by kernel_rfl
@[simp] theorem ti_71 : tinfo Tryz.prog 71 = true := by kernel_rfl
@[simp] theorem ts_71 : tsize Tryz.prog 71 = 2 := by kernel_rfl
@[simp] theorem tg_71 : tagg Tryz.prog 71 = true := by kernel_rfl
@[simp] theorem tz_71 : tzero Tryz.prog 71 = some (.agg #[(.bool false), (.int .i64 0)]) := by kernel_rfl
@[simp] theorem tw_71 : tbytes Tryz.prog 71 = 16 := by kernel_rfl
@[simp] theorem tc_71 : tconc Tryz.prog 71 = true := by kernel_rfl
@[simp] theorem tf_71_0 : tfield Tryz.prog 71 0 = some (0, 4) := by kernel_rfl
@[simp] theorem tf_71_1 : tfield Tryz.prog 71 1 = some (1, 30) := by kernel_rfl
@[simp] theorem tk_71 : tfok Tryz.prog 71 = true := by kernel_rfl
@[simp] theorem ti_74 : tinfo Tryz.prog 74 = true := by kernel_rfl
@[simp] theorem ts_74 : tsize Tryz.prog 74 = 1 := by kernel_rfl
@[simp] theorem tg_74 : tagg Tryz.prog 74 = false := by kernel_rfl
@[simp] theorem tz_74 : tzero Tryz.prog 74 = some (.slice none 0 0) := by kernel_rfl
@[simp] theorem tw_74 : tbytes Tryz.prog 74 = 24 := by kernel_rfl
@[simp] theorem tc_74 : tconc Tryz.prog 74 = true := by kernel_rfl
@[simp] theorem te_74 : telem Tryz.prog 74 = some 30 := by kernel_rfl
@[simp] theorem ti_80 : tinfo Tryz.prog 80 = true := by kernel_rfl
@[simp] theorem ts_80 : tsize Tryz.prog 80 = 1 := by kernel_rfl
@[simp] theorem tg_80 : tagg Tryz.prog 80 = false := by kernel_rfl
@[simp] theorem tz_80 : tzero Tryz.prog 80 = some (.pointer none) := by kernel_rfl
@[simp] theorem tw_80 : tbytes Tryz.prog 80 = 8 := by kernel_rfl
@[simp] theorem tc_80 : tconc Tryz.prog 80 = true := by kernel_rfl
@[simp] theorem ti_81 : tinfo Tryz.prog 81 = true := by kernel_rfl
@[simp] theorem ts_81 : tsize Tryz.prog 81 = 1 := by kernel_rfl
@[simp] theorem tg_81 : tagg Tryz.prog 81 = false := by kernel_rfl
@[simp] theorem tz_81 : tzero Tryz.prog 81 = some (.pointer none) := by kernel_rfl
@[simp] theorem tw_81 : tbytes Tryz.prog 81 = 8 := by kernel_rfl
@[simp] theorem tc_81 : tconc Tryz.prog 81 = true := by kernel_rfl
@[simp] theorem ti_82 : tinfo Tryz.prog 82 = true := by kernel_rfl
@[simp] theorem ts_82 : tsize Tryz.prog 82 = 2 := by kernel_rfl
@[simp] theorem tg_82 : tagg Tryz.prog 82 = true := by kernel_rfl
@[simp] theorem tz_82 : tzero Tryz.prog 82 = some (.agg #[(.int .i64 0), (.int .i64 0)]) := by kernel_rfl
@[simp] theorem tw_82 : tbytes Tryz.prog 82 = 16 := by kernel_rfl
@[simp] theorem tc_82 : tconc Tryz.prog 82 = true := by kernel_rfl
@[simp] theorem tf_82_0 : tfield Tryz.prog 82 0 = some (0, 3) := by kernel_rfl
@[simp] theorem tf_82_1 : tfield Tryz.prog 82 1 = some (1, 3) := by kernel_rfl
@[simp] theorem tk_82 : tfok Tryz.prog 82 = true := by kernel_rfl
@[simp] theorem ti_83 : tinfo Tryz.prog 83 = true := by kernel_rfl
@[simp] theorem ts_83 : tsize Tryz.prog 83 = 2 := by kernel_rfl
@[simp] theorem tg_83 : tagg Tryz.prog 83 = true := by kernel_rfl
@[simp] theorem tz_83 : tzero Tryz.prog 83 = some (.agg #[(.int .i64 0), (.int .i64 0)]) := by kernel_rfl
@[simp] theorem tw_83 : tbytes Tryz.prog 83 = 16 := by kernel_rfl
@[simp] theorem tc_83 : tconc Tryz.prog 83 = true := by kernel_rfl
@[simp] theorem tf_83_0 : tfield Tryz.prog 83 0 = some (0, 3) := by kernel_rfl
@[simp] theorem tf_83_1 : tfield Tryz.prog 83 1 = some (1, 3) := by kernel_rfl
@[simp] theorem tk_83 : tfok Tryz.prog 83 = true := by kernel_rfl
@[simp] theorem ti_84 : tinfo Tryz.prog 84 = true := by kernel_rfl
@[simp] theorem ts_84 : tsize Tryz.prog 84 = 3 := by kernel_rfl
@[simp] theorem tg_84 : tagg Tryz.prog 84 = true := by kernel_rfl
@[simp] theorem tz_84 : tzero Tryz.prog 84 = some (.agg #[(.int .i64 0), (.int .i64 0), (.int .i64 0)]) := by kernel_rfl
@[simp] theorem tw_84 : tbytes Tryz.prog 84 = 24 := by kernel_rfl
@[simp] theorem tc_84 : tconc Tryz.prog 84 = true := by kernel_rfl
@[simp] theorem tf_84_0 : tfield Tryz.prog 84 0 = some (0, 83) := by kernel_rfl
@[simp] theorem tf_84_1 : tfield Tryz.prog 84 1 = some (2, 3) := by kernel_rfl
@[simp] theorem tk_84 : tfok Tryz.prog 84 = true := by kernel_rfl
@[simp] theorem ti_85 : tinfo Tryz.prog 85 = true := by kernel_rfl
@[simp] theorem ts_85 : tsize Tryz.prog 85 = 3 := by kernel_rfl
@[simp] theorem tg_85 : tagg Tryz.prog 85 = true := by kernel_rfl
@[simp] theorem tz_85 : tzero Tryz.prog 85 = some (.agg #[(.int .i64 0), (.int .i64 0), (.int .i64 0)]) := by kernel_rfl
@[simp] theorem tw_85 : tbytes Tryz.prog 85 = 24 := by kernel_rfl
@[simp] theorem tc_85 : tconc Tryz.prog 85 = true := by kernel_rfl
@[simp] theorem tf_85_0 : tfield Tryz.prog 85 0 = some (0, 83) := by kernel_rfl
@[simp] theorem tf_85_1 : tfield Tryz.prog 85 1 = some (2, 3) := by kernel_rfl
@[simp] theorem tk_85 : tfok Tryz.prog 85 = true := by kernel_rfl
@[simp] theorem ti_87 : tinfo Tryz.prog 87 = true := by kernel_rfl
@[simp] theorem ts_87 : tsize Tryz.prog 87 = 2 := by kernel_rfl
@[simp] theorem tg_87 : tagg Tryz.prog 87 = true := by kernel_rfl
@[simp] theorem tz_87 : tzero Tryz.prog 87 = some (.agg #[(.int .i64 0), (.int .i64 0)]) := by kernel_rfl
@[simp] theorem tw_87 : tbytes Tryz.prog 87 = 16 := by kernel_rfl
@[simp] theorem tc_87 : tconc Tryz.prog 87 = true := by kernel_rfl
@[simp] theorem tf_87_0 : tfield Tryz.prog 87 0 = some (0, 3) := by kernel_rfl
@[simp] theorem tf_87_1 : tfield Tryz.prog 87 1 = some (1, 30) := by kernel_rfl
@[simp] theorem tk_87 : tfok Tryz.prog 87 = true := by kernel_rfl
@[simp] theorem ti_88 : tinfo Tryz.prog 88 = true := by kernel_rfl
@[simp] theorem ts_88 : tsize Tryz.prog 88 = 2 := by kernel_rfl
@[simp] theorem tg_88 : tagg Tryz.prog 88 = true := by kernel_rfl
@[simp] theorem tz_88 : tzero Tryz.prog 88 = some (.agg #[(.int .i64 0), (.int .i64 0)]) := by kernel_rfl
@[simp] theorem tw_88 : tbytes Tryz.prog 88 = 16 := by kernel_rfl
@[simp] theorem tc_88 : tconc Tryz.prog 88 = true := by kernel_rfl
@[simp] theorem tf_88_0 : tfield Tryz.prog 88 0 = some (0, 3) := by kernel_rfl
@[simp] theorem tf_88_1 : tfield Tryz.prog 88 1 = some (1, 30) := by kernel_rfl
@[simp] theorem tk_88 : tfok Tryz.prog 88 = true := by kernel_rfl
@[simp] theorem ti_92 : tinfo Tryz.prog 92 = true := by kernel_rfl
@[simp] theorem ts_92 : tsize Tryz.prog 92 = 9 := by kernel_rfl
@[simp] theorem tg_92 : tagg Tryz.prog 92 = true := by kernel_rfl
@[simp] theorem tz_92 : tzero Tryz.prog 92 = some (.agg #[.nilFunc, .nilFunc, .nilFunc, .nilFunc, .nilFunc, .nilFunc, .nilFunc, .nilFunc, .nilFunc]) := by kernel_rfl
@[simp] theorem tw_92 : tbytes Tryz.prog 92 = 72 := by kernel_rfl
@[simp] theorem tc_92 : tconc Tryz.prog 92 = true := by kernel_rfl
@[simp] theorem ta_92 : tarr Tryz.prog 92 = some (9, 91) := by kernel_rfl
@[simp] theorem ti_94 : tinfo Tryz.prog 94 = true := by kernel_rfl
@[simp] theorem ts_94 : tsize Tryz.prog 94 = 6 := by kernel_rfl
@[simp] theorem tg_94 : tagg Tryz.prog 94 = true := by kernel_rfl
@[simp] theorem tz_94 : tzero Tryz.prog 94 = some (.agg #[(.int .i64 0), (.int .i64 0), (.bool false), (.slice none 0 0), (.string ⟨#[]⟩), (.slice none 0 0)]) := by kernel_rfl
@[simp] theorem tw_94 : tbytes Tryz.prog 94 = 88 := by kernel_rfl
@[simp] theorem tc_94 : tconc Tryz.prog 94 = true := by kernel_rfl
@[simp] theorem tf_94_0 : tfield Tryz.prog 94 0 = some (0, 3) := by kernel_rfl
@[simp] theorem tf_94_1 : tfield Tryz.prog 94 1 = some (1, 3) := by kernel_rfl
@[simp] theorem tf_94_2 : tfield Tryz.prog 94 2 = some (2, 24) := by kernel_rfl
@[simp] theorem tf_94_3 : tfield Tryz.prog 94 3 = some (4, 9) := by kernel_rfl
@[simp] theorem tf_94_4 : tfield Tryz.prog 94 4 = some (5, 25) := by kernel_rfl
@[simp] theorem tk_94 : tfok Tryz.prog 94 = true := by kernel_rfl
@[simp] theorem ti_97 : tinfo Tryz.prog 97 = true := by kernel_rfl
@[simp] theorem ts_97 : tsize Tryz.prog 97 = 1 := by kernel_rfl
@[simp] theorem tg_97 : tagg Tryz.prog 97 = false := by kernel_rfl
@[simp] theorem tz_97 : tzero Tryz.prog 97 = some (.int .u64 0) := by kernel_rfl
@[simp] theorem tw_97 : tbytes Tryz.prog 97 = 8 := by kernel_rfl
@[simp] theorem tc_97 : tconc Tryz.prog 97 = true := by kernel_rfl
@[simp] theorem tn_97 : tkind Tryz.prog 97 = some .u64 := by kernel_rfl
@[simp] theorem ti_116 : tinfo Tryz.prog 116 = true := by kernel_rfl
@[simp] theorem ts_116 : tsize Tryz.prog 116 = 1 := by kernel_rfl
@[simp] theorem tg_116 : tagg Tryz.prog 116 = true := by kernel_rfl
@[simp] theorem tz_116 : tzero Tryz.prog 116 = some (.agg #[(.int .i64 0)]) := by kernel_rfl
@[simp] theorem tw_116 : tbytes Tryz.prog 116 = 8 := by kernel_rfl
@[simp] theorem tc_116 : tconc Tryz.prog 116 = true := by kernel_rfl
@[simp] theorem tf_116_0 : tfield Tryz.prog 116 0 = some (0, 30) := by kernel_rfl
@[simp] theorem tk_116 : tfok Tryz.prog 116 = true := by kernel_rfl
@[simp] theorem ti_117 : tinfo Tryz.prog 117 = true := by kernel_rfl
@[simp] theorem ts_117 : tsize Tryz.prog 117 = 1 := by kernel_rfl
@[simp] theorem tg_117 : tagg Tryz.prog 117 = true := by kernel_rfl
@[simp] theorem tz_117 : tzero Tryz.prog 117 = some (.agg #[(.int .i64 0)]) := by kernel_rfl
@[simp] theorem tw_117 : tbytes Tryz.prog 117 = 8 := by kernel_rfl
@[simp] theorem tc_117 : tconc Tryz.prog 117 = true := by kernel_rfl
@[simp] theorem tf_117_0 : tfield Tryz.prog 117 0 = some (0, 30) := by kernel_rfl
@[simp] theorem tk_117 : tfok Tryz.prog 117 = true := by kernel_rfl
@[simp] theorem ti_139 : tinfo Tryz.prog 139 = true := by kernel_rfl
@[simp] theorem ts_139 : tsize Tryz.prog 139 = 1 := by kernel_rfl
@[simp] theorem tg_139 : tagg Tryz.prog 139 = false := by kernel_rfl
@[simp] theorem tz_139 : tzero Tryz.prog 139 = some (.int .u64 0) := by kernel_rfl
@[simp] theorem tw_139 : tbytes Tryz.prog 139 = 8 := by kernel_rfl
@[simp] theorem tc_139 : tconc Tryz.prog 139 = true := by kernel_rfl
@[simp] theorem tn_139 : tkind Tryz.prog 139 = some .u64 := by kernel_rfl
@[simp] theorem ti_163 : tinfo Tryz.prog 163 = true := by kernel_rfl
@[simp] theorem ts_163 : tsize Tryz.prog 163 = 1 := by kernel_rfl
@[simp] theorem tg_163 : tagg Tryz.prog 163 = false := by kernel_rfl
@[simp] theorem tz_163 : tzero Tryz.prog 163 = some (.slice none 0 0) := by kernel_rfl
@[simp] theorem tw_163 : tbytes Tryz.prog 163 = 24 := by kernel_rfl
@[simp] theorem tc_163 : tconc Tryz.prog 163 = true := by kernel_rfl
@[simp] theorem te_163 : telem Tryz.prog 163 = some 33 := by kernel_rfl
@[simp] theorem ti_171 : tinfo Tryz.prog 171 = true := by kernel_rfl
@[simp] theorem ts_171 : tsize Tryz.prog 171 = 1 := by kernel_rfl
@[simp] theorem tg_171 : tagg Tryz.prog 171 = false := by kernel_rfl
@[simp] theorem tz_171 : tzero Tryz.prog 171 = some (.int .u64 0) := by kernel_rfl
@[simp] theorem tw_171 : tbytes Tryz.prog 171 = 8 := by kernel_rfl
@[simp] theorem tc_171 : tconc Tryz.prog 171 = true := by kernel_rfl
@[simp] theorem tn_171 : tkind Tryz.prog 171 = some .u64 := by kernel_rfl
@[simp] theorem ti_178 : tinfo Tryz.prog 178 = true := by kernel_rfl
@[simp] theorem ts_178 : tsize Tryz.prog 178 = 1 := by kernel_rfl
@[simp] theorem tg_178 : tagg Tryz.prog 178 = true := by kernel_rfl
@[simp] theorem tz_178 : tzero Tryz.prog 178 = some (.agg #[(.int .i64 0)]) := by kernel_rfl
@[simp] theorem tw_178 : tbytes Tryz.prog 178 = 8 := by kernel_rfl
@[simp] theorem tc_178 : tconc Tryz.prog 178 = true := by kernel_rfl
@[simp] theorem tf_178_0 : tfield Tryz.prog 178 0 = some (0, 30) := by kernel_rfl
@[simp] theorem tk_178 : tfok Tryz.prog 178 = true := by kernel_rfl
@[simp] theorem ti_179 : tinfo Tryz.prog 179 = true := by kernel_rfl
@[simp] theorem ts_179 : tsize Tryz.prog 179 = 1 := by kernel_rfl
@[simp] theorem tg_179 : tagg Tryz.prog 179 = true := by kernel_rfl
@[simp] theorem tz_179 : tzero Tryz.prog 179 = some (.agg #[(.int .i64 0)]) := by kernel_rfl
@[simp] theorem tw_179 : tbytes Tryz.prog 179 = 8 := by kernel_rfl
@[simp] theorem tc_179 : tconc Tryz.prog 179 = true := by kernel_rfl
@[simp] theorem tf_179_0 : tfield Tryz.prog 179 0 = some (0, 30) := by kernel_rfl
@[simp] theorem tk_179 : tfok Tryz.prog 179 = true := by kernel_rfl
@[simp] theorem ti_181 : tinfo Tryz.prog 181 = true := by kernel_rfl
@[simp] theorem ts_181 : tsize Tryz.prog 181 = 1 := by kernel_rfl
@[simp] theorem tg_181 : tagg Tryz.prog 181 = false := by kernel_rfl
@[simp] theorem tz_181 : tzero Tryz.prog 181 = some (.slice none 0 0) := by kernel_rfl
@[simp] theorem tw_181 : tbytes Tryz.prog 181 = 24 := by kernel_rfl
@[simp] theorem tc_181 : tconc Tryz.prog 181 = true := by kernel_rfl
@[simp] theorem te_181 : telem Tryz.prog 181 = some 24 := by kernel_rfl
end Go.Proofs.YtgfadepkiejncaaGreat
/- Values of the set language as a tree, and the abstract cells that they stand for. -/
namespace Go.Proofs.YtgfadepkiejncaaGreat
open Go.Ab

/-- api.Val: Kind, N, Int (Neg, Abs), Str, L. -/
inductive GV where
  | mk (kind n : Int) (neg : Bool) (abs : List Int) (str : ByteArray) (l : List GV)
  deriving Inhabited

abbrev vI (n : Int) : PV := .v (.int .i64 n)
abbrev vE (n : Int) : PV := .v (.int .i64 n)
abbrev vW (n : Int) : PV := .v (.int .u32 n)
abbrev vQ (n : Int) : PV := .v (.int .u64 n)
abbrev vB (b : Bool) : PV := .v (.bool b)
abbrev vS (s : ByteArray) : PV := .v (.string s)
def limbs (l : List Int) : List (List PV) := l.map fun x => [vW x]
def ints (l : List Int) : List (List PV) := l.map fun x => [vI x]

mutual
def GV.cells : GV → List PV
  | .mk k n neg abs s l => [vI k, vI n, vB neg, .list .no (limbs abs), vS s, .list .no (GV.rows l)]
def GV.rows : List GV → List (List PV)
  | [] => []
  | v :: l => v.cells :: GV.rows l
end
theorem GV.rows_eq : ∀ l, GV.rows l = l.map GV.cells
  | [] => rfl
  | v :: l => by rw [GV.rows, GV.rows_eq l]; rfl

namespace GV
def kind : GV → Int | mk k _ _ _ _ _ => k
def num : GV → Int | mk _ n _ _ _ _ => n
def neg : GV → Bool | mk _ _ b _ _ _ => b
def abs : GV → List Int | mk _ _ _ a _ _ => a
def str : GV → ByteArray | mk _ _ _ _ s _ => s
def els : GV → List GV | mk _ _ _ _ _ l => l
end GV
abbrev GV.pv (v : GV) : PV := .agg v.cells
abbrev GV.pvs (l : List GV) : PV := .list .no (GV.rows l)

theorem cells_eq (v : GV) : v.cells = [vI v.kind, vI v.num, vB v.neg, .list .no (limbs v.abs), vS v.str, .list .no (GV.rows v.els)] := by
  cases v; simp [GV.cells, GV.kind, GV.num, GV.neg, GV.abs, GV.str, GV.els]
@[simp] theorem cells_len (v : GV) : v.cells.length = 6 := by cases v; simp [GV.cells]
@[simp] theorem rows_len (l : List GV) : (GV.rows l).length = l.length := by rw [GV.rows_eq]; simp
@[simp] theorem limbs_len (l : List Int) : (limbs l).length = l.length := by simp [limbs]
@[simp] theorem ints_len (l : List Int) : (ints l).length = l.length := by simp [ints]
@[simp] theorem rows_w (l : List GV) : RowsW 6 (GV.rows l) := by
  intro r hr; rw [GV.rows_eq] at hr; obtain ⟨v, _, rfl⟩ := List.mem_map.1 hr; exact cells_len v
@[simp] theorem limbs_w (l : List Int) : RowsW 1 (limbs l) := by
  intro r hr; obtain ⟨v, _, rfl⟩ := List.mem_map.1 hr; rfl
@[simp] theorem ints_w (l : List Int) : RowsW 1 (ints l) := by
  intro r hr; obtain ⟨v, _, rfl⟩ := List.mem_map.1 hr; rfl
@[simp] theorem limbs_strip (l : List Int) : PV.stripR (limbs l) = limbs l := by
  induction l with
  | nil => rfl
  | cons x l ih => simp only [limbs, List.map_cons, PV.stripR, PV.stripL, PV.strip] at ih ⊢; rw [ih]
@[simp] theorem ints_strip (l : List Int) : PV.stripR (ints l) = ints l := by
  induction l with
  | nil => rfl
  | cons x l ih => simp only [ints, List.map_cons, PV.stripR, PV.stripL, PV.strip] at ih ⊢; rw [ih]
mutual
theorem cells_strip : ∀ v : GV, PV.stripL v.cells = v.cells
  | .mk k n neg abs s l => by simp [GV.cells, PV.stripL, PV.strip, rows_strip l]
theorem rows_strip : ∀ l : List GV, PV.stripR (GV.rows l) = GV.rows l
  | [] => rfl
  | v :: l => by simp [GV.rows, PV.stripR, cells_strip v, rows_strip l]
end
attribute [simp] cells_strip rows_strip
theorem limbs_sc (a b : Nat) (l : List Int) : PV.scR a b (limbs l) := by
  induction l with
  | nil => trivial
  | cons x l ih => exact ⟨⟨trivial, trivial⟩, ih⟩
theorem ints_sc (a b : Nat) (l : List Int) : PV.scR a b (ints l) := by
  induction l with
  | nil => trivial
  | cons x l ih => exact ⟨⟨trivial, trivial⟩, ih⟩
mutual
theorem cells_sc (a b : Nat) : ∀ v : GV, PV.scL a b v.cells
  | .mk k n neg abs s l => by simp [GV.cells, PV.scL, PV.sc, limbs_sc, rows_sc a b l]
theorem rows_sc (a b : Nat) : ∀ l : List GV, PV.scR a b (GV.rows l)
  | [] => trivial
  | v :: l => ⟨cells_sc a b v, rows_sc a b l⟩
end
attribute [simp] cells_sc rows_sc limbs_sc ints_sc
@[simp] theorem cells_cell1 (v : GV) : v.cells.all cell1 = true := by cases v; simp [GV.cells, cell1, Value.oneCell']
@[simp] theorem cells1_pv (v : GV) : cells1 v.pv = some v.cells := by
  show (if v.cells.all cell1 then some v.cells else none) = _
  rw [cells_cell1]; rfl
@[simp] theorem cells_g0 (v : GV) : v.cells[0]? = some (vI v.kind) := by cases v; rfl
@[simp] theorem cells_g1 (v : GV) : v.cells[1]? = some (vI v.num) := by cases v; rfl
@[simp] theorem cells_g2 (v : GV) : v.cells[2]? = some (vB v.neg) := by cases v; rfl
@[simp] theorem cells_g3 (v : GV) : v.cells[3]? = some (.list .no (limbs v.abs)) := by cases v; rfl
@[simp] theorem cells_g4 (v : GV) : v.cells[4]? = some (vS v.str) := by cases v; rfl
@[simp] theorem cells_g5 (v : GV) : v.cells[5]? = some (GV.pvs v.els) := by cases v; rfl
@[simp] theorem cells_e0 (v : GV) (h : 0 < v.cells.length) : v.cells[0] = vI v.kind := by cases v; rfl
@[simp] theorem cells_e1 (v : GV) (h : 1 < v.cells.length) : v.cells[1] = vI v.num := by cases v; rfl
@[simp] theorem cells_e2 (v : GV) (h : 2 < v.cells.length) : v.cells[2] = vB v.neg := by cases v; rfl
@[simp] theorem cells_e3 (v : GV) (h : 3 < v.cells.length) : v.cells[3] = .list .no (limbs v.abs) := by cases v; rfl
@[simp] theorem cells_e4 (v : GV) (h : 4 < v.cells.length) : v.cells[4] = vS v.str := by cases v; rfl
@[simp] theorem cells_e5 (v : GV) (h : 5 < v.cells.length) : v.cells[5] = GV.pvs v.els := by cases v; rfl
@[simp] theorem cells_t6 (v : GV) : v.cells.take 6 = v.cells := List.take_of_length_le (by simp)
@[simp] theorem cells_d1 (v : GV) : v.cells.drop 1 = [vI v.num, vB v.neg, .list .no (limbs v.abs), vS v.str, GV.pvs v.els] := by cases v; rfl
@[simp] theorem cells_d2 (v : GV) : v.cells.drop 2 = [vB v.neg, .list .no (limbs v.abs), vS v.str, GV.pvs v.els] := by cases v; rfl
@[simp] theorem cells_d3 (v : GV) : v.cells.drop 3 = [.list .no (limbs v.abs), vS v.str, GV.pvs v.els] := by cases v; rfl
@[simp] theorem cells_d4 (v : GV) : v.cells.drop 4 = [vS v.str, GV.pvs v.els] := by cases v; rfl
@[simp] theorem cells_d5 (v : GV) : v.cells.drop 5 = [GV.pvs v.els] := by cases v; rfl
theorem rows_getD (l : List GV) (i : Nat) (h : i < l.length) : rowI (GV.rows l) i = (l[i]).cells := by
  rw [GV.rows_eq]; simp [rowI, List.getD, h]
theorem limbs_getD (l : List Int) (i : Nat) (h : i < l.length) : rowI (limbs l) i = [vW l[i]] := by
  simp [rowI, limbs, List.getD, h]
theorem ints_getD (l : List Int) (i : Nat) (h : i < l.length) : rowI (ints l) i = [vI l[i]] := by
  simp [rowI, ints, List.getD, h]


@[simp] theorem setL_cells (a b c d e f : PV) (v : GV) : setL [a, b, c, d, e, f] 0 v.cells = v.cells := by cases v; rfl
theorem cells1_rows : ∀ l : List GV, Cells1 6 (l.map GV.pv) (GV.rows l)
  | [] => .nil
  | v :: l => .cons (cells1_pv v) (cells_len v) (cells1_rows l)
theorem bs25 (l : List GV) (m : St) (K : PV → St → Prop) (hl : l.length * 6 ≤ 16777216) : abuildSlice Tryz.prog 25 (l.map GV.pv).length (partsFrom 0 (l.map GV.pv)) m K ↔ K (.list .full (GV.rows l)) m := by
  rw [abuildSlice_all (s := 6) (e := 27) (z := .agg #[.int .i64 0, .int .i64 0, .bool false, .slice none 0 0, .string ⟨#[]⟩, .slice none 0 0]) (by simp) (by simp) (by simp) (by decide) (by decide) (by simp) (by simpa using hl) (cells1_rows l)]
  have : (GV.rows l).map PV.stripL = GV.rows l := by rw [GV.rows_eq]; simp
  rw [this]
@[simp] theorem bs25_0 (m : St) (K : PV → St → Prop) : abuildSlice Tryz.prog 25 0 [] m K ↔ K (.list .full []) m := bs25 [] m K (by simp)
@[simp] theorem bs25_1 (a : GV) (m : St) (K : PV → St → Prop) : abuildSlice Tryz.prog 25 1 [(0, .agg a.cells)] m K ↔ K (.list .full [a.cells]) m := bs25 [a] m K (by simp)
@[simp] theorem bs25_2 (a b : GV) (m : St) (K : PV → St → Prop) : abuildSlice Tryz.prog 25 2 [(0, .agg a.cells), (1, .agg b.cells)] m K ↔ K (.list .full [a.cells, b.cells]) m := bs25 [a, b] m K (by simp)
@[simp] theorem bs25_3 (a b c : GV) (m : St) (K : PV → St → Prop) : abuildSlice Tryz.prog 25 3 [(0, .agg a.cells), (1, .agg b.cells), (2, .agg c.cells)] m K ↔ K (.list .full [a.cells, b.cells, c.cells]) m := bs25 [a, b, c] m K (by simp)
@[simp] theorem bs25_4 (a b c d : GV) (m : St) (K : PV → St → Prop) : abuildSlice Tryz.prog 25 4 [(0, .agg a.cells), (1, .agg b.cells), (2, .agg c.cells), (3, .agg d.cells)] m K ↔ K (.list .full [a.cells, b.cells, c.cells, d.cells]) m := bs25 [a, b, c, d] m K (by simp)

theorem cells1_limbs : ∀ l : List Int, Cells1 1 (l.map (fun x => vW x)) (limbs l)
  | [] => .nil
  | x :: l => .cons rfl rfl (cells1_limbs l)
theorem bs22 (l : List Int) (m : St) (K : PV → St → Prop) (hl : l.length ≤ 16777216) : abuildSlice Tryz.prog 22 (l.map (fun x => vW x)).length (partsFrom 0 (l.map (fun x => vW x))) m K ↔ K (.list .full (limbs l)) m := by
  rw [abuildSlice_all (s := 1) (e := 33) (z := .int .u32 0) (by simp) (by simp) (by simp) (by decide) (by decide) (by simp) (by simpa using hl) (cells1_limbs l)]
  have : (limbs l).map PV.stripL = limbs l := by simp [limbs, PV.stripL, PV.strip]
  rw [this]
@[simp] theorem bs22_0 (m : St) (K : PV → St → Prop) : abuildSlice Tryz.prog 22 0 [] m K ↔ K (.list .full []) m := bs22 [] m K (by simp)
@[simp] theorem bs22_1 (a : Int) (m : St) (K : PV → St → Prop) : abuildSlice Tryz.prog 22 1 [(0, .v (.int .u32 a))] m K ↔ K (.list .full [[vW a]]) m := bs22 [a] m K (by simp)
theorem rows_append (a b : List GV) : GV.rows (a ++ b) = GV.rows a ++ GV.rows b := by simp [GV.rows_eq]
theorem limbs_append (a b : List Int) : limbs (a ++ b) = limbs a ++ limbs b := by simp [limbs]
theorem app25 {m0 m : St} {o o2 : Ab.Own} {l l' : List GV} {n : Nat} {K : PV → St → Prop} (ho : Ow m0 m o 6 n) (hn : n = l.length) (hb : l.length + l'.length ≤ 1099511627776) (k : ∀ o' m', Ow m0 m' o' 6 (n + l'.length) → LocSame m m' → K (.list o' (GV.rows (l ++ l'))) m') :
    aappend Tryz.prog [25, 25] (.list o (GV.rows l)) (.list o2 (GV.rows l')) m K := by
  subst hn
  refine aappend_ow (m0 := m0) (s := 6) (e := 27) (by simp) (by simp) (by simp) (by simp) (by omega) (rows_w l) (rows_w l') (by simp; omega) (by simp; omega) (by simpa using ho) fun o' m' h hs => ?_
  rw [rows_strip, ← rows_append]
  exact k o' m' (by simpa using h) hs
theorem app22 {m0 m : St} {o o2 : Ab.Own} {l l' : List Int} {n : Nat} {K : PV → St → Prop} (ho : Ow m0 m o 1 n) (hn : n = l.length) (hb : l.length + l'.length ≤ 1099511627776) (k : ∀ o' m', Ow m0 m' o' 1 (n + l'.length) → LocSame m m' → K (.list o' (limbs (l ++ l'))) m') :
    aappend Tryz.prog [22, 22] (.list o (limbs l)) (.list o2 (limbs l')) m K := by
  subst hn
  refine aappend_ow (m0 := m0) (s := 1) (e := 33) (by simp) (by simp) (by simp) (by simp) (by omega) (limbs_w l) (limbs_w l') (by simp; omega) (by simp; omega) (by simpa using ho) fun o' m' h hs => ?_
  rw [limbs_strip, ← limbs_append]
  exact k o' m' (by simpa using h) hs

mutual
/-- A tree whose numbers fit their types and whose lists are not too long to count. -/
def GV.ok : GV → Prop
  | .mk k n _ abs s l => (-9223372036854775808 ≤ k ∧ k < 9223372036854775808) ∧ (-9223372036854775808 ≤ n ∧ n < 9223372036854775808) ∧ abs.length < 1152921504606846976 ∧ s.size < 1152921504606846976 ∧ l.length < 1152921504606846976 ∧
      (∀ x ∈ abs, 0 ≤ x ∧ x < 4294967296) ∧ GV.okL l
def GV.okL : List GV → Prop
  | [] => True
  | v :: l => v.ok ∧ GV.okL l
end
theorem okL_get : ∀ (l : List GV) (i : Nat) (h : i < l.length), GV.okL l → (l[i]).ok
  | v :: l, 0, _, h => h.1
  | v :: l, i + 1, hi, h => okL_get l i (by simpa using hi) h.2
theorem GV.ok.els {v : GV} (h : v.ok) : GV.okL v.els := by cases v; exact h.2.2.2.2.2.2
theorem GV.ok.el {v : GV} (h : v.ok) (i : Nat) (hi : i < v.els.length) : (v.els[i]).ok := okL_get _ _ _ h.els
theorem GV.ok.kind {v : GV} (h : v.ok) : -9223372036854775808 ≤ v.kind ∧ v.kind < 9223372036854775808 := by cases v; exact h.1
theorem GV.ok.num {v : GV} (h : v.ok) : -9223372036854775808 ≤ v.num ∧ v.num < 9223372036854775808 := by cases v; exact h.2.1
theorem GV.ok.abs {v : GV} (h : v.ok) : v.abs.length < 1152921504606846976 := by cases v; exact h.2.2.1
theorem GV.ok.str {v : GV} (h : v.ok) : v.str.size < 1152921504606846976 := by cases v; exact h.2.2.2.1
theorem GV.ok.len {v : GV} (h : v.ok) : v.els.length < 1152921504606846976 := by cases v; exact h.2.2.2.2.1
theorem GV.ok.limb {v : GV} (h : v.ok) : ∀ x ∈ v.abs, 0 ≤ x ∧ x < 4294967296 := by cases v; exact h.2.2.2.2.2.1

mutual
def nodes : GV → Nat
  | .mk _ _ _ _ _ l => 1 + nodesL l
def nodesL : List GV → Nat
  | [] => 0
  | v :: l => nodes v + nodesL l
end
theorem nodesL_take (l : List GV) (i : Nat) (h : i < l.length) : nodesL (l.take (i + 1)) = nodesL (l.take i) + nodes l[i] := by
  induction l generalizing i with
  | nil => simp at h
  | cons v l ih =>
    cases i with
    | zero => simp [nodesL]
    | succ i => simp [nodesL, ih i (by simpa using h)]; omega
theorem nodesL_take_le (l : List GV) (i : Nat) : nodesL (l.take i) ≤ nodesL l := by
  induction l generalizing i with
  | nil => simp [nodesL]
  | cons v l ih =>
    cases i with
    | zero => simp [nodesL]
    | succ i => have := ih i; simp [nodesL]; omega
theorem nodes_eq (v : GV) : nodes v = 1 + nodesL v.els := by cases v; simp [nodes, GV.els]
theorem nodesL_len (l : List GV) : l.length ≤ nodesL l := by
  induction l with
  | nil => simp
  | cons v l ih => have := nodes_eq v; simp [nodesL]; omega
theorem nodes_get (l : List GV) (i : Nat) (h : i < l.length) : nodes l[i] ≤ nodesL l := by
  have := nodesL_take l i h; have := nodesL_take_le l (i + 1); omega

@[simp] theorem nat_beq (a b : Nat) : (a == b) = decide (a = b) := by
  by_cases h : a = b <;> simp [h]
end Go.Proofs.YtgfadepkiejncaaGreat
namespace Go.Proofs.YtgfadepkiejncaaGreat
open Go.Ab
set_option pp.maxSteps 1500
attribute [local irreducible] AW AList ACall
theorem ref_nodes (v : GV) (hv : nodes v < 1152921504606846976) : Gives Tryz.prog 31 [v.pv] (vI (nodes v)) := by
  induction hk : nodes v using Nat.strongRecOn generalizing v with
  | _ k ih =>
  subst hk
  have hn := nodes_eq v
  have hl := nodesL_len v.els
  intro m
  refine ACall.of_aw Tryz.func31 Tryz.ntmps31 rfl rfl (by simp) ?_
  repeat (first | (refine AList.op (by decide) ?_; intro K Kp hK hKp; simp [upd_lit]; apply hK; clear hK hKp K Kp) | (refine AList.op0 ?_; intro K Kp hK hKp; simp [upd_lit]; apply hK; clear hK hKp K Kp) | refine AList.nil ?_ | refine AW.seq ?_ | refine AW.regionL ?_ | refine AW.block ?_ | refine AW.skip ?_ | refine AW.exit ?_ | refine AW.ret ?_)
  refine AW.loop (ι := Nat) (fun i σ m' => i ≤ v.els.length ∧ σ 3 = vI (1 + nodesL (v.els.take i)) ∧ σ 4 = vI i ∧ σ 1 = .loc m.nloc 0 ∧ m' = m.newLoc v.cells) (fun i => v.els.length - i) 0 ?_ ?_
  · simp [upd_lit, nodesL]
  rintro i σ m' ⟨hi, h3, h4, h1, rfl⟩
  have hnb := nodesL_take_le v.els i
  repeat (first | (refine AList.op (by decide) ?_; intro K Kp hK hKp; simp [upd_lit, h1, h3, h4]; apply hK; clear hK hKp K Kp) | (refine AList.op0 ?_; intro K Kp hK hKp; simp [upd_lit, h1, h3, h4]; apply hK; clear hK hKp K Kp) | refine AList.nil ?_ | refine AW.seq ?_ | refine AW.regionL ?_ | refine AW.block ?_ | refine AW.skip ?_ | refine AW.exit ?_ | refine AW.ret ?_)
  refine AW.cond (t := decide (i < v.els.length)) ?_ ?_ ?_
  · simp [upd_lit]
  · intro hlt
    have hlt : i < v.els.length := by simpa using hlt
    have hg := nodes_get v.els i hlt
    have ht := nodesL_take v.els i hlt
    repeat (first | (refine AList.op (by decide) ?_; intro K Kp hK hKp; simp [upd_lit, h1, h3, h4, hlt, rows_getD]; apply hK; clear hK hKp K Kp) | (refine AList.op0 ?_; intro K Kp hK hKp; simp [upd_lit, h1, h3, h4, hlt, rows_getD]; apply hK; clear hK hKp K Kp) | refine AList.nil ?_ | refine AW.seq ?_ | refine AW.regionL ?_ | refine AW.block ?_ | refine AW.skip ?_ | refine AW.exit ?_ | refine AW.ret ?_)
    refine AList.op (by decide) ?_; intro K Kp hK hKp; simp [upd_lit, h1, h3, h4, hlt, rows_getD]
    refine Gives.at (ih _ (by omega) v.els[i] (by omega) rfl) ?_
    apply hK; clear hK hKp K Kp
    repeat (first | (refine AList.op (by decide) ?_; intro K Kp hK hKp; simp (disch := omega) [upd_lit, wrap_i64, h1, h3, h4]; apply hK; clear hK hKp K Kp) | (refine AList.op0 ?_; intro K Kp hK hKp; simp (disch := omega) [upd_lit, wrap_i64, h1, h3, h4]; apply hK; clear hK hKp K Kp) | refine AList.nil ?_ | refine AW.seq ?_ | refine AW.regionL ?_ | refine AW.block ?_ | refine AW.skip ?_ | refine AW.exit ?_ | refine AW.ret ?_)
    refine ⟨i + 1, ⟨by omega, ?_, ?_, ?_, rfl⟩, by omega⟩
    · simp [upd_lit, ht]; omega
    · simp [upd_lit]
    · simp [upd_lit, h1]
  · intro hge
    have hge : i = v.els.length := by simp at hge; omega
    subst hge
    repeat (first | (refine AList.op (by decide) ?_; intro K Kp hK hKp; simp (disch := omega) [upd_lit, wrap_i64, h1, h3, h4]; apply hK; clear hK hKp K Kp) | (refine AList.op0 ?_; intro K Kp hK hKp; simp (disch := omega) [upd_lit, wrap_i64, h1, h3, h4]; apply hK; clear hK hKp K Kp) | refine AList.nil ?_ | refine AW.seq ?_ | refine AW.regionL ?_ | refine AW.block ?_ | refine AW.skip ?_ | refine AW.exit ?_ | refine AW.ret ?_)
    exact Fin.ret rfl ((Same.refl m).newLoc _) (by simp [upd_lit, hn]) (by simp) ⟨rfl, rfl⟩
end Go.Proofs.YtgfadepkiejncaaGreat
