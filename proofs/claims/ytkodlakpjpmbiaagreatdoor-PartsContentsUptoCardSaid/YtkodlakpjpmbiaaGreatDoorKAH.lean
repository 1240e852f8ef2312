/- The facts on the program's types. -/
import Derived.Test.YtkodlakpjpmbiaaGreatDoorChecked
import Derived.Test.YtkodlakpjpmbiaaGreatDoorKAF
import Derived.Lib.IndexMore
import Derived.Lib.Bytealg
import Derived.Lib.Bytes
import Derived.Lib.ItoaNum
import Derived.Test.YtkodlakpjpmbiaaGreatDoorKAG

set_option linter.all false

namespace Go.Proofs.Tryz
open Go Go.SL
@[simp] theorem iT0 : prog.info? 0 = some t0 := info_of type0
@[simp] theorem sT0 : t0.size = 1 := rfl
@[simp] theorem bT0 : t0.bytes = 0 := rfl
@[simp] theorem iT1 : prog.info? 1 = some t1 := info_of type1
@[simp] theorem sT1 : t1.size = 1 := rfl
@[simp] theorem bT1 : t1.bytes = 8 := rfl
@[simp] theorem zT1 : zeroL prog 1 = some [.v .nilFunc] := by unfold zeroL; rw [iT1]; rfl
@[simp] theorem iT2 : prog.info? 2 = some t2 := info_of type2
@[simp] theorem sT2 : t2.size = 1 := rfl
@[simp] theorem bT2 : t2.bytes = 8 := rfl
@[simp] theorem zT2 : zeroL prog 2 = some [.v (.int .i64 0)] := by unfold zeroL; rw [iT2]; rfl
@[simp] theorem iT3 : prog.info? 3 = some t3 := info_of type3
@[simp] theorem sT3 : t3.size = 1 := rfl
@[simp] theorem bT3 : t3.bytes = 8 := rfl
@[simp] theorem zT3 : zeroL prog 3 = some [.v (.int .i64 0)] := by unfold zeroL; rw [iT3]; rfl
@[simp] theorem iT4 : prog.info? 4 = some t4 := info_of type4
@[simp] theorem sT4 : t4.size = 1 := rfl
@[simp] theorem bT4 : t4.bytes = 1 := rfl
@[simp] theorem zT4 : zeroL prog 4 = some [.v (.bool false)] := by unfold zeroL; rw [iT4]; rfl
@[simp] theorem iT5 : prog.info? 5 = some t5 := info_of type5
@[simp] theorem sT5 : t5.size = 1 := rfl
@[simp] theorem bT5 : t5.bytes = 1 := rfl
@[simp] theorem zT5 : zeroL prog 5 = some [.v (.int .u8 0)] := by unfold zeroL; rw [iT5]; rfl
@[simp] theorem iT6 : prog.info? 6 = some t6 := info_of type6
@[simp] theorem sT6 : t6.size = 1 := rfl
@[simp] theorem bT6 : t6.bytes = 1 := rfl
@[simp] theorem zT6 : zeroL prog 6 = some [.v (.int .u8 0)] := by unfold zeroL; rw [iT6]; rfl
@[simp] theorem iT7 : prog.info? 7 = some t7 := info_of type7
@[simp] theorem sT7 : t7.size = 4 := rfl
@[simp] theorem bT7 : t7.bytes = 24 := rfl
@[simp] theorem zT7 : zeroL prog 7 = some [.v (.int .i64 0), .v (.int .i64 0), .v (.bool false), .v (.int .u8 0)] := by unfold zeroL; rw [iT7]; rfl
@[simp] theorem iT8 : prog.info? 8 = some t8 := info_of type8
@[simp] theorem sT8 : t8.size = 4 := rfl
@[simp] theorem bT8 : t8.bytes = 24 := rfl
@[simp] theorem zT8 : zeroL prog 8 = some [.v (.int .i64 0), .v (.int .i64 0), .v (.bool false), .v (.int .u8 0)] := by unfold zeroL; rw [iT8]; rfl
@[simp] theorem iT9 : prog.info? 9 = some t9 := info_of type9
@[simp] theorem sT9 : t9.size = 1 := rfl
@[simp] theorem bT9 : t9.bytes = 16 := rfl
@[simp] theorem zT9 : zeroL prog 9 = some [.v (.string ⟨#[]⟩)] := by unfold zeroL; rw [iT9]; rfl
@[simp] theorem iT10 : prog.info? 10 = some t10 := info_of type10
@[simp] theorem sT10 : t10.size = 1 := rfl
@[simp] theorem bT10 : t10.bytes = 16 := rfl
@[simp] theorem zT10 : zeroL prog 10 = some [.v (.string ⟨#[]⟩)] := by unfold zeroL; rw [iT10]; rfl
@[simp] theorem iT11 : prog.info? 11 = some t11 := info_of type11
@[simp] theorem sT11 : t11.size = 1 := rfl
@[simp] theorem bT11 : t11.bytes = 16 := rfl
@[simp] theorem zT11 : zeroL prog 11 = some [.v (.string ⟨#[]⟩)] := by unfold zeroL; rw [iT11]; rfl
@[simp] theorem iT12 : prog.info? 12 = some t12 := info_of type12
@[simp] theorem sT12 : t12.size = 1 := rfl
@[simp] theorem bT12 : t12.bytes = 8 := rfl
@[simp] theorem zT12 : zeroL prog 12 = some [.v (.int .u64 0)] := by unfold zeroL; rw [iT12]; rfl
@[simp] theorem iT13 : prog.info? 13 = some t13 := info_of type13
@[simp] theorem sT13 : t13.size = 2 := rfl
@[simp] theorem bT13 : t13.bytes = 24 := rfl
@[simp] theorem zT13 : zeroL prog 13 = some [.v (.string ⟨#[]⟩), .v (.int .u64 0)] := by unfold zeroL; rw [iT13]; rfl
@[simp] theorem iT14 : prog.info? 14 = some t14 := info_of type14
@[simp] theorem sT14 : t14.size = 2 := rfl
@[simp] theorem bT14 : t14.bytes = 24 := rfl
@[simp] theorem zT14 : zeroL prog 14 = some [.v (.string ⟨#[]⟩), .v (.int .u64 0)] := by unfold zeroL; rw [iT14]; rfl
@[simp] theorem iT15 : prog.info? 15 = some t15 := info_of type15
@[simp] theorem sT15 : t15.size = 1 := rfl
@[simp] theorem bT15 : t15.bytes = 8 := rfl
@[simp] theorem zT15 : zeroL prog 15 = some [.v (.pointer none)] := by unfold zeroL; rw [iT15]; rfl
@[simp] theorem iT16 : prog.info? 16 = some t16 := info_of type16
@[simp] theorem sT16 : t16.size = 1 := rfl
@[simp] theorem bT16 : t16.bytes = 8 := rfl
@[simp] theorem zT16 : zeroL prog 16 = some [.v (.pointer none)] := by unfold zeroL; rw [iT16]; rfl
@[simp] theorem iT17 : prog.info? 17 = some t17 := info_of type17
@[simp] theorem sT17 : t17.size = 1 := rfl
@[simp] theorem bT17 : t17.bytes = 8 := rfl
@[simp] theorem zT17 : zeroL prog 17 = some [.v (.pointer none)] := by unfold zeroL; rw [iT17]; rfl
@[simp] theorem iT18 : prog.info? 18 = some t18 := info_of type18
@[simp] theorem sT18 : t18.size = 1 := rfl
@[simp] theorem bT18 : t18.bytes = 8 := rfl
@[simp] theorem zT18 : zeroL prog 18 = some [.v (.pointer none)] := by unfold zeroL; rw [iT18]; rfl
@[simp] theorem iT19 : prog.info? 19 = some t19 := info_of type19
@[simp] theorem sT19 : t19.size = 1 := rfl
@[simp] theorem bT19 : t19.bytes = 8 := rfl
@[simp] theorem zT19 : zeroL prog 19 = some [.v (.pointer none)] := by unfold zeroL; rw [iT19]; rfl
@[simp] theorem iT20 : prog.info? 20 = some t20 := info_of type20
@[simp] theorem sT20 : t20.size = 1 := rfl
@[simp] theorem bT20 : t20.bytes = 16 := rfl
@[simp] theorem zT20 : zeroL prog 20 = some [.v .nilIface] := by unfold zeroL; rw [iT20]; rfl
@[simp] theorem iT21 : prog.info? 21 = some t21 := info_of type21
@[simp] theorem sT21 : t21.size = 1 := rfl
@[simp] theorem bT21 : t21.bytes = 4 := rfl
@[simp] theorem zT21 : zeroL prog 21 = some [.v (.int .i32 0)] := by unfold zeroL; rw [iT21]; rfl
@[simp] theorem iT22 : prog.info? 22 = some t22 := info_of type22
@[simp] theorem sT22 : t22.size = 1 := rfl
@[simp] theorem bT22 : t22.bytes = 24 := rfl
@[simp] theorem zT22 : zeroL prog 22 = some [.v (.slice none 0 0)] := by unfold zeroL; rw [iT22]; rfl
@[simp] theorem iT23 : prog.info? 23 = some t23 := info_of type23
@[simp] theorem sT23 : t23.size = 1 := rfl
@[simp] theorem bT23 : t23.bytes = 24 := rfl
@[simp] theorem zT23 : zeroL prog 23 = some [.v (.slice none 0 0)] := by unfold zeroL; rw [iT23]; rfl
@[simp] theorem iT24 : prog.info? 24 = some t24 := info_of type24
@[simp] theorem sT24 : t24.size = 1 := rfl
@[simp] theorem bT24 : t24.bytes = 24 := rfl
@[simp] theorem zT24 : zeroL prog 24 = some [.v (.slice none 0 0)] := by unfold zeroL; rw [iT24]; rfl
@[simp] theorem iT25 : prog.info? 25 = some t25 := info_of type25
@[simp] theorem sT25 : t25.size = 3 := rfl
@[simp] theorem bT25 : t25.bytes = 72 := rfl
@[simp] theorem zT25 : zeroL prog 25 = some [.v (.slice none 0 0), .v (.slice none 0 0), .v (.slice none 0 0)] := by unfold zeroL; rw [iT25]; rfl
@[simp] theorem iT26 : prog.info? 26 = some t26 := info_of type26
@[simp] theorem sT26 : t26.size = 3 := rfl
@[simp] theorem bT26 : t26.bytes = 72 := rfl
@[simp] theorem zT26 : zeroL prog 26 = some [.v (.slice none 0 0), .v (.slice none 0 0), .v (.slice none 0 0)] := by unfold zeroL; rw [iT26]; rfl
@[simp] theorem iT27 : prog.info? 27 = some t27 := info_of type27
@[simp] theorem sT27 : t27.size = 1 := rfl
@[simp] theorem bT27 : t27.bytes = 24 := rfl
@[simp] theorem zT27 : zeroL prog 27 = some [.v (.slice none 0 0)] := by unfold zeroL; rw [iT27]; rfl
@[simp] theorem iT28 : prog.info? 28 = some t28 := info_of type28
@[simp] theorem sT28 : t28.size = 1 := rfl
@[simp] theorem bT28 : t28.bytes = 8 := rfl
@[simp] theorem zT28 : zeroL prog 28 = some [.v .nilFunc] := by unfold zeroL; rw [iT28]; rfl
@[simp] theorem iT29 : prog.info? 29 = some t29 := info_of type29
@[simp] theorem sT29 : t29.size = 1 := rfl
@[simp] theorem bT29 : t29.bytes = 8 := rfl
@[simp] theorem zT29 : zeroL prog 29 = some [.v .nilFunc] := by unfold zeroL; rw [iT29]; rfl
@[simp] theorem iT30 : prog.info? 30 = some t30 := info_of type30
@[simp] theorem sT30 : t30.size = 1 := rfl
@[simp] theorem bT30 : t30.bytes = 8 := rfl
@[simp] theorem zT30 : zeroL prog 30 = some [.v (.int .i64 0)] := by unfold zeroL; rw [iT30]; rfl
@[simp] theorem iT31 : prog.info? 31 = some t31 := info_of type31
@[simp] theorem sT31 : t31.size = 1 := rfl
@[simp] theorem bT31 : t31.bytes = 0 := rfl
@[simp] theorem iT32 : prog.info? 32 = some t32 := info_of type32
@[simp] theorem sT32 : t32.size = 1 := rfl
@[simp] theorem bT32 : t32.bytes = 8 := rfl
@[simp] theorem zT32 : zeroL prog 32 = some [.v .nilFunc] := by unfold zeroL; rw [iT32]; rfl
@[simp] theorem iT33 : prog.info? 33 = some t33 := info_of type33
@[simp] theorem sT33 : t33.size = 1 := rfl
@[simp] theorem bT33 : t33.bytes = 8 := rfl
@[simp] theorem zT33 : zeroL prog 33 = some [.v .nilFunc] := by unfold zeroL; rw [iT33]; rfl
@[simp] theorem iT34 : prog.info? 34 = some t34 := info_of type34
@[simp] theorem sT34 : t34.size = 1 := rfl
@[simp] theorem bT34 : t34.bytes = 8 := rfl
@[simp] theorem zT34 : zeroL prog 34 = some [.v .nilFunc] := by unfold zeroL; rw [iT34]; rfl
@[simp] theorem iT35 : prog.info? 35 = some t35 := info_of type35
@[simp] theorem sT35 : t35.size = 1 := rfl
@[simp] theorem bT35 : t35.bytes = 8 := rfl
@[simp] theorem zT35 : zeroL prog 35 = some [.v .nilFunc] := by unfold zeroL; rw [iT35]; rfl
@[simp] theorem iT36 : prog.info? 36 = some t36 := info_of type36
@[simp] theorem sT36 : t36.size = 1 := rfl
@[simp] theorem bT36 : t36.bytes = 8 := rfl
@[simp] theorem zT36 : zeroL prog 36 = some [.v .nilFunc] := by unfold zeroL; rw [iT36]; rfl
@[simp] theorem iT37 : prog.info? 37 = some t37 := info_of type37
@[simp] theorem sT37 : t37.size = 1 := rfl
@[simp] theorem bT37 : t37.bytes = 8 := rfl
@[simp] theorem zT37 : zeroL prog 37 = some [.v .nilFunc] := by unfold zeroL; rw [iT37]; rfl
@[simp] theorem iT38 : prog.info? 38 = some t38 := info_of type38
@[simp] theorem sT38 : t38.size = 1 := rfl
@[simp] theorem bT38 : t38.bytes = 0 := rfl
@[simp] theorem iT39 : prog.info? 39 = some t39 := info_of type39
@[simp] theorem sT39 : t39.size = 1 := rfl
@[simp] theorem bT39 : t39.bytes = 8 := rfl
@[simp] theorem zT39 : zeroL prog 39 = some [.v .nilFunc] := by unfold zeroL; rw [iT39]; rfl
@[simp] theorem iT40 : prog.info? 40 = some t40 := info_of type40
@[simp] theorem sT40 : t40.size = 1 := rfl
@[simp] theorem bT40 : t40.bytes = 8 := rfl
@[simp] theorem zT40 : zeroL prog 40 = some [.v .nilFunc] := by unfold zeroL; rw [iT40]; rfl
@[simp] theorem iT41 : prog.info? 41 = some t41 := info_of type41
@[simp] theorem sT41 : t41.size = 1 := rfl
@[simp] theorem bT41 : t41.bytes = 0 := rfl
@[simp] theorem iT42 : prog.info? 42 = some t42 := info_of type42
@[simp] theorem sT42 : t42.size = 1 := rfl
@[simp] theorem bT42 : t42.bytes = 8 := rfl
@[simp] theorem zT42 : zeroL prog 42 = some [.v .nilFunc] := by unfold zeroL; rw [iT42]; rfl
@[simp] theorem iT43 : prog.info? 43 = some t43 := info_of type43
@[simp] theorem sT43 : t43.size = 1 := rfl
@[simp] theorem bT43 : t43.bytes = 8 := rfl
@[simp] theorem zT43 : zeroL prog 43 = some [.v .nilFunc] := by unfold zeroL; rw [iT43]; rfl
@[simp] theorem iT44 : prog.info? 44 = some t44 := info_of type44
@[simp] theorem sT44 : t44.size = 1 := rfl
@[simp] theorem bT44 : t44.bytes = 0 := rfl
@[simp] theorem iT45 : prog.info? 45 = some t45 := info_of type45
@[simp] theorem sT45 : t45.size = 1 := rfl
@[simp] theorem bT45 : t45.bytes = 8 := rfl
@[simp] theorem zT45 : zeroL prog 45 = some [.v .nilFunc] := by unfold zeroL; rw [iT45]; rfl
@[simp] theorem iT46 : prog.info? 46 = some t46 := info_of type46
@[simp] theorem sT46 : t46.size = 1 := rfl
@[simp] theorem bT46 : t46.bytes = 8 := rfl
@[simp] theorem zT46 : zeroL prog 46 = some [.v .nilFunc] := by unfold zeroL; rw [iT46]; rfl
@[simp] theorem iT47 : prog.info? 47 = some t47 := info_of type47
@[simp] theorem sT47 : t47.size = 2 := rfl
@[simp] theorem bT47 : t47.bytes = 16 := rfl
@[simp] theorem zT47 : zeroL prog 47 = some [.v (.int .i64 0), .v (.int .i64 0)] := by unfold zeroL; rw [iT47]; rfl
@[simp] theorem iT48 : prog.info? 48 = some t48 := info_of type48
@[simp] theorem sT48 : t48.size = 2 := rfl
@[simp] theorem bT48 : t48.bytes = 16 := rfl
@[simp] theorem zT48 : zeroL prog 48 = some [.v (.int .i64 0), .v (.int .i64 0)] := by unfold zeroL; rw [iT48]; rfl
@[simp] theorem iT49 : prog.info? 49 = some t49 := info_of type49
@[simp] theorem sT49 : t49.size = 1 := rfl
@[simp] theorem bT49 : t49.bytes = 8 := rfl
@[simp] theorem zT49 : zeroL prog 49 = some [.v .nilFunc] := by unfold zeroL; rw [iT49]; rfl
@[simp] theorem iT50 : prog.info? 50 = some t50 := info_of type50
@[simp] theorem sT50 : t50.size = 1 := rfl
@[simp] theorem bT50 : t50.bytes = 0 := rfl
@[simp] theorem iT51 : prog.info? 51 = some t51 := info_of type51
@[simp] theorem sT51 : t51.size = 1 := rfl
@[simp] theorem bT51 : t51.bytes = 8 := rfl
@[simp] theorem zT51 : zeroL prog 51 = some [.v .nilFunc] := by unfold zeroL; rw [iT51]; rfl
@[simp] theorem iT52 : prog.info? 52 = some t52 := info_of type52
@[simp] theorem sT52 : t52.size = 1 := rfl
@[simp] theorem bT52 : t52.bytes = 8 := rfl
@[simp] theorem zT52 : zeroL prog 52 = some [.v .nilFunc] := by unfold zeroL; rw [iT52]; rfl
@[simp] theorem iT53 : prog.info? 53 = some t53 := info_of type53
@[simp] theorem sT53 : t53.size = 1 := rfl
@[simp] theorem bT53 : t53.bytes = 24 := rfl
@[simp] theorem zT53 : zeroL prog 53 = some [.v (.slice none 0 0)] := by unfold zeroL; rw [iT53]; rfl
@[simp] theorem iT54 : prog.info? 54 = some t54 := info_of type54
@[simp] theorem sT54 : t54.size = 3 := rfl
@[simp] theorem bT54 : t54.bytes = 56 := rfl
@[simp] theorem zT54 : zeroL prog 54 = some [.v (.string ⟨#[]⟩), .v (.string ⟨#[]⟩), .v (.slice none 0 0)] := by unfold zeroL; rw [iT54]; rfl
@[simp] theorem iT55 : prog.info? 55 = some t55 := info_of type55
@[simp] theorem sT55 : t55.size = 3 := rfl
@[simp] theorem bT55 : t55.bytes = 56 := rfl
@[simp] theorem zT55 : zeroL prog 55 = some [.v (.string ⟨#[]⟩), .v (.string ⟨#[]⟩), .v (.slice none 0 0)] := by unfold zeroL; rw [iT55]; rfl
@[simp] theorem iT56 : prog.info? 56 = some t56 := info_of type56
@[simp] theorem sT56 : t56.size = 1 := rfl
@[simp] theorem bT56 : t56.bytes = 0 := rfl
@[simp] theorem iT57 : prog.info? 57 = some t57 := info_of type57
@[simp] theorem sT57 : t57.size = 1 := rfl
@[simp] theorem bT57 : t57.bytes = 8 := rfl
@[simp] theorem zT57 : zeroL prog 57 = some [.v .nilFunc] := by unfold zeroL; rw [iT57]; rfl
@[simp] theorem iT58 : prog.info? 58 = some t58 := info_of type58
@[simp] theorem sT58 : t58.size = 1 := rfl
@[simp] theorem bT58 : t58.bytes = 8 := rfl
@[simp] theorem zT58 : zeroL prog 58 = some [.v .nilFunc] := by unfold zeroL; rw [iT58]; rfl
@[simp] theorem iT59 : prog.info? 59 = some t59 := info_of type59
@[simp] theorem sT59 : t59.size = 1 := rfl
@[simp] theorem bT59 : t59.bytes = 8 := rfl
@[simp] theorem zT59 : zeroL prog 59 = some [.v .nilFunc] := by unfold zeroL; rw [iT59]; rfl
@[simp] theorem iT60 : prog.info? 60 = some t60 := info_of type60
@[simp] theorem sT60 : t60.size = 1 := rfl
@[simp] theorem bT60 : t60.bytes = 8 := rfl
@[simp] theorem zT60 : zeroL prog 60 = some [.v .nilFunc] := by unfold zeroL; rw [iT60]; rfl
@[simp] theorem iT61 : prog.info? 61 = some t61 := info_of type61
@[simp] theorem sT61 : t61.size = 2 := rfl
@[simp] theorem bT61 : t61.bytes = 32 := rfl
@[simp] theorem zT61 : zeroL prog 61 = some [.v (.string ⟨#[]⟩), .v (.string ⟨#[]⟩)] := by unfold zeroL; rw [iT61]; rfl
@[simp] theorem iT62 : prog.info? 62 = some t62 := info_of type62
@[simp] theorem sT62 : t62.size = 2 := rfl
@[simp] theorem bT62 : t62.bytes = 32 := rfl
@[simp] theorem zT62 : zeroL prog 62 = some [.v (.string ⟨#[]⟩), .v (.string ⟨#[]⟩)] := by unfold zeroL; rw [iT62]; rfl
@[simp] theorem iT63 : prog.info? 63 = some t63 := info_of type63
@[simp] theorem sT63 : t63.size = 1 := rfl
@[simp] theorem bT63 : t63.bytes = 8 := rfl
@[simp] theorem zT63 : zeroL prog 63 = some [.v (.pointer none)] := by unfold zeroL; rw [iT63]; rfl
@[simp] theorem iT64 : prog.info? 64 = some t64 := info_of type64
@[simp] theorem sT64 : t64.size = 1 := rfl
@[simp] theorem bT64 : t64.bytes = 8 := rfl
@[simp] theorem zT64 : zeroL prog 64 = some [.v (.int .i64 0)] := by unfold zeroL; rw [iT64]; rfl
@[simp] theorem iT65 : prog.info? 65 = some t65 := info_of type65
@[simp] theorem sT65 : t65.size = 1 := rfl
@[simp] theorem bT65 : t65.bytes = 8 := rfl
@[simp] theorem zT65 : zeroL prog 65 = some [.v (.int .i64 0)] := by unfold zeroL; rw [iT65]; rfl
@[simp] theorem iT66 : prog.info? 66 = some t66 := info_of type66
@[simp] theorem sT66 : t66.size = 1 := rfl
@[simp] theorem bT66 : t66.bytes = 0 := rfl
@[simp] theorem iT67 : prog.info? 67 = some t67 := info_of type67
@[simp] theorem sT67 : t67.size = 1 := rfl
@[simp] theorem bT67 : t67.bytes = 8 := rfl
@[simp] theorem zT67 : zeroL prog 67 = some [.v .nilFunc] := by unfold zeroL; rw [iT67]; rfl
@[simp] theorem iT68 : prog.info? 68 = some t68 := info_of type68
@[simp] theorem sT68 : t68.size = 1 := rfl
@[simp] theorem bT68 : t68.bytes = 8 := rfl
@[simp] theorem zT68 : zeroL prog 68 = some [.v (.pointer none)] := by unfold zeroL; rw [iT68]; rfl
@[simp] theorem iT69 : prog.info? 69 = some t69 := info_of type69
@[simp] theorem sT69 : t69.size = 1 := rfl
@[simp] theorem bT69 : t69.bytes = 8 := rfl
@[simp] theorem zT69 : zeroL prog 69 = some [.v (.int .i64 0)] := by unfold zeroL; rw [iT69]; rfl
@[simp] theorem iT70 : prog.info? 70 = some t70 := info_of type70
@[simp] theorem sT70 : t70.size = 1 := rfl
@[simp] theorem bT70 : t70.bytes = 8 := rfl
@[simp] theorem zT70 : zeroL prog 70 = some [.v .nilFunc] := by unfold zeroL; rw [iT70]; rfl
@[simp] theorem iT71 : prog.info? 71 = some t71 := info_of type71
@[simp] theorem sT71 : t71.size = 1 := rfl
@[simp] theorem bT71 : t71.bytes = 8 := rfl
@[simp] theorem zT71 : zeroL prog 71 = some [.v .nilFunc] := by unfold zeroL; rw [iT71]; rfl
@[simp] theorem iT72 : prog.info? 72 = some t72 := info_of type72
@[simp] theorem sT72 : t72.size = 1 := rfl
@[simp] theorem bT72 : t72.bytes = 8 := rfl
@[simp] theorem zT72 : zeroL prog 72 = some [.v .nilFunc] := by unfold zeroL; rw [iT72]; rfl
@[simp] theorem iT73 : prog.info? 73 = some t73 := info_of type73
@[simp] theorem sT73 : t73.size = 1 := rfl
@[simp] theorem bT73 : t73.bytes = 4 := rfl
@[simp] theorem zT73 : zeroL prog 73 = some [.v (.int .u32 0)] := by unfold zeroL; rw [iT73]; rfl
@[simp] theorem iT74 : prog.info? 74 = some t74 := info_of type74
@[simp] theorem sT74 : t74.size = 1 := rfl
@[simp] theorem bT74 : t74.bytes = 0 := rfl
@[simp] theorem iT75 : prog.info? 75 = some t75 := info_of type75
@[simp] theorem sT75 : t75.size = 1 := rfl
@[simp] theorem bT75 : t75.bytes = 8 := rfl
@[simp] theorem zT75 : zeroL prog 75 = some [.v .nilFunc] := by unfold zeroL; rw [iT75]; rfl
@[simp] theorem iT76 : prog.info? 76 = some t76 := info_of type76
@[simp] theorem sT76 : t76.size = 1 := rfl
@[simp] theorem bT76 : t76.bytes = 8 := rfl
@[simp] theorem zT76 : zeroL prog 76 = some [.v (.int .u64 0)] := by unfold zeroL; rw [iT76]; rfl
@[simp] theorem iT77 : prog.info? 77 = some t77 := info_of type77
@[simp] theorem sT77 : t77.size = 1 := rfl
@[simp] theorem bT77 : t77.bytes = 8 := rfl
@[simp] theorem zT77 : zeroL prog 77 = some [.v .nilFunc] := by unfold zeroL; rw [iT77]; rfl
@[simp] theorem iT78 : prog.info? 78 = some t78 := info_of type78
@[simp] theorem sT78 : t78.size = 1 := rfl
@[simp] theorem bT78 : t78.bytes = 8 := rfl
@[simp] theorem zT78 : zeroL prog 78 = some [.v .nilFunc] := by unfold zeroL; rw [iT78]; rfl
@[simp] theorem iT79 : prog.info? 79 = some t79 := info_of type79
@[simp] theorem sT79 : t79.size = 1 := rfl
@[simp] theorem bT79 : t79.bytes = 8 := rfl
@[simp] theorem zT79 : zeroL prog 79 = some [.v .nilFunc] := by unfold zeroL; rw [iT79]; rfl
@[simp] theorem iT80 : prog.info? 80 = some t80 := info_of type80
@[simp] theorem sT80 : t80.size = 1 := rfl
@[simp] theorem bT80 : t80.bytes = 24 := rfl
@[simp] theorem zT80 : zeroL prog 80 = some [.v (.slice none 0 0)] := by unfold zeroL; rw [iT80]; rfl
@[simp] theorem iT81 : prog.info? 81 = some t81 := info_of type81
@[simp] theorem sT81 : t81.size = 1 := rfl
@[simp] theorem bT81 : t81.bytes = 24 := rfl
@[simp] theorem zT81 : zeroL prog 81 = some [.v (.slice none 0 0)] := by unfold zeroL; rw [iT81]; rfl
@[simp] theorem iT82 : prog.info? 82 = some t82 := info_of type82
@[simp] theorem sT82 : t82.size = 1 := rfl
@[simp] theorem bT82 : t82.bytes = 0 := rfl
@[simp] theorem iT83 : prog.info? 83 = some t83 := info_of type83
@[simp] theorem sT83 : t83.size = 1 := rfl
@[simp] theorem bT83 : t83.bytes = 8 := rfl
@[simp] theorem zT83 : zeroL prog 83 = some [.v .nilFunc] := by unfold zeroL; rw [iT83]; rfl
@[simp] theorem iT84 : prog.info? 84 = some t84 := info_of type84
@[simp] theorem sT84 : t84.size = 1 := rfl
@[simp] theorem bT84 : t84.bytes = 8 := rfl
@[simp] theorem zT84 : zeroL prog 84 = some [.v .nilFunc] := by unfold zeroL; rw [iT84]; rfl
@[simp] theorem iT85 : prog.info? 85 = some t85 := info_of type85
@[simp] theorem sT85 : t85.size = 1 := rfl
@[simp] theorem bT85 : t85.bytes = 8 := rfl
@[simp] theorem zT85 : zeroL prog 85 = some [.v .nilFunc] := by unfold zeroL; rw [iT85]; rfl
@[simp] theorem iT86 : prog.info? 86 = some t86 := info_of type86
@[simp] theorem sT86 : t86.size = 1 := rfl
@[simp] theorem bT86 : t86.bytes = 8 := rfl
@[simp] theorem zT86 : zeroL prog 86 = some [.v .nilFunc] := by unfold zeroL; rw [iT86]; rfl
@[simp] theorem iT87 : prog.info? 87 = some t87 := info_of type87
@[simp] theorem sT87 : t87.size = 1 := rfl
@[simp] theorem bT87 : t87.bytes = 8 := rfl
@[simp] theorem zT87 : zeroL prog 87 = some [.v .nilFunc] := by unfold zeroL; rw [iT87]; rfl
@[simp] theorem iT88 : prog.info? 88 = some t88 := info_of type88
@[simp] theorem sT88 : t88.size = 1 := rfl
@[simp] theorem bT88 : t88.bytes = 8 := rfl
@[simp] theorem zT88 : zeroL prog 88 = some [.v .nilFunc] := by unfold zeroL; rw [iT88]; rfl
@[simp] theorem iT89 : prog.info? 89 = some t89 := info_of type89
@[simp] theorem sT89 : t89.size = 1 := rfl
@[simp] theorem bT89 : t89.bytes = 8 := rfl
@[simp] theorem zT89 : zeroL prog 89 = some [.v .nilFunc] := by unfold zeroL; rw [iT89]; rfl
@[simp] theorem iT90 : prog.info? 90 = some t90 := info_of type90
@[simp] theorem sT90 : t90.size = 1 := rfl
@[simp] theorem bT90 : t90.bytes = 8 := rfl
@[simp] theorem zT90 : zeroL prog 90 = some [.v .nilFunc] := by unfold zeroL; rw [iT90]; rfl
@[simp] theorem iT91 : prog.info? 91 = some t91 := info_of type91
@[simp] theorem sT91 : t91.size = 1 := rfl
@[simp] theorem bT91 : t91.bytes = 8 := rfl
@[simp] theorem zT91 : zeroL prog 91 = some [.v .nilFunc] := by unfold zeroL; rw [iT91]; rfl
@[simp] theorem iT92 : prog.info? 92 = some t92 := info_of type92
@[simp] theorem sT92 : t92.size = 1 := rfl
@[simp] theorem bT92 : t92.bytes = 24 := rfl
@[simp] theorem zT92 : zeroL prog 92 = some [.v (.slice none 0 0)] := by unfold zeroL; rw [iT92]; rfl
@[simp] theorem iT93 : prog.info? 93 = some t93 := info_of type93
@[simp] theorem sT93 : t93.size = 1 := rfl
@[simp] theorem bT93 : t93.bytes = 8 := rfl
@[simp] theorem zT93 : zeroL prog 93 = some [.v .nilFunc] := by unfold zeroL; rw [iT93]; rfl
@[simp] theorem iT94 : prog.info? 94 = some t94 := info_of type94
@[simp] theorem sT94 : t94.size = 3 := rfl
@[simp] theorem bT94 : t94.bytes = 40 := rfl
@[simp] theorem zT94 : zeroL prog 94 = some [.v (.int .i64 0), .v (.slice none 0 0), .v (.bool false)] := by unfold zeroL; rw [iT94]; rfl
@[simp] theorem iT95 : prog.info? 95 = some t95 := info_of type95
@[simp] theorem sT95 : t95.size = 3 := rfl
@[simp] theorem bT95 : t95.bytes = 40 := rfl
@[simp] theorem zT95 : zeroL prog 95 = some [.v (.int .i64 0), .v (.slice none 0 0), .v (.bool false)] := by unfold zeroL; rw [iT95]; rfl
@[simp] theorem iT96 : prog.info? 96 = some t96 := info_of type96
@[simp] theorem sT96 : t96.size = 1 := rfl
@[simp] theorem bT96 : t96.bytes = 8 := rfl
@[simp] theorem zT96 : zeroL prog 96 = some [.v .nilFunc] := by unfold zeroL; rw [iT96]; rfl
@[simp] theorem iT97 : prog.info? 97 = some t97 := info_of type97
@[simp] theorem sT97 : t97.size = 1 := rfl
@[simp] theorem bT97 : t97.bytes = 8 := rfl
@[simp] theorem zT97 : zeroL prog 97 = some [.v .nilFunc] := by unfold zeroL; rw [iT97]; rfl
@[simp] theorem iT98 : prog.info? 98 = some t98 := info_of type98
@[simp] theorem sT98 : t98.size = 1 := rfl
@[simp] theorem bT98 : t98.bytes = 0 := rfl
@[simp] theorem iT99 : prog.info? 99 = some t99 := info_of type99
@[simp] theorem sT99 : t99.size = 1 := rfl
@[simp] theorem bT99 : t99.bytes = 8 := rfl
@[simp] theorem zT99 : zeroL prog 99 = some [.v .nilFunc] := by unfold zeroL; rw [iT99]; rfl
@[simp] theorem iT100 : prog.info? 100 = some t100 := info_of type100
@[simp] theorem sT100 : t100.size = 1 := rfl
@[simp] theorem bT100 : t100.bytes = 0 := rfl
@[simp] theorem iT101 : prog.info? 101 = some t101 := info_of type101
@[simp] theorem sT101 : t101.size = 1 := rfl
@[simp] theorem bT101 : t101.bytes = 8 := rfl
@[simp] theorem zT101 : zeroL prog 101 = some [.v .nilFunc] := by unfold zeroL; rw [iT101]; rfl
@[simp] theorem iT102 : prog.info? 102 = some t102 := info_of type102
@[simp] theorem sT102 : t102.size = 1 := rfl
@[simp] theorem bT102 : t102.bytes = 8 := rfl
@[simp] theorem zT102 : zeroL prog 102 = some [.v .nilFunc] := by unfold zeroL; rw [iT102]; rfl
@[simp] theorem iT103 : prog.info? 103 = some t103 := info_of type103
@[simp] theorem sT103 : t103.size = 1 := rfl
@[simp] theorem bT103 : t103.bytes = 0 := rfl
@[simp] theorem iT104 : prog.info? 104 = some t104 := info_of type104
@[simp] theorem sT104 : t104.size = 1 := rfl
@[simp] theorem bT104 : t104.bytes = 8 := rfl
@[simp] theorem zT104 : zeroL prog 104 = some [.v .nilFunc] := by unfold zeroL; rw [iT104]; rfl
@[simp] theorem iT105 : prog.info? 105 = some t105 := info_of type105
@[simp] theorem sT105 : t105.size = 1 := rfl
@[simp] theorem bT105 : t105.bytes = 0 := rfl
@[simp] theorem iT106 : prog.info? 106 = some t106 := info_of type106
@[simp] theorem sT106 : t106.size = 1 := rfl
@[simp] theorem bT106 : t106.bytes = 8 := rfl
@[simp] theorem zT106 : zeroL prog 106 = some [.v .nilFunc] := by unfold zeroL; rw [iT106]; rfl
@[simp] theorem iT107 : prog.info? 107 = some t107 := info_of type107
@[simp] theorem sT107 : t107.size = 1 := rfl
@[simp] theorem bT107 : t107.bytes = 0 := rfl
@[simp] theorem iT108 : prog.info? 108 = some t108 := info_of type108
@[simp] theorem sT108 : t108.size = 1 := rfl
@[simp] theorem bT108 : t108.bytes = 8 := rfl
@[simp] theorem zT108 : zeroL prog 108 = some [.v .nilFunc] := by unfold zeroL; rw [iT108]; rfl
@[simp] theorem iT109 : prog.info? 109 = some t109 := info_of type109
@[simp] theorem sT109 : t109.size = 2 := rfl
@[simp] theorem bT109 : t109.bytes = 32 := rfl
@[simp] theorem zT109 : zeroL prog 109 = some [.v (.string ⟨#[]⟩), .v (.string ⟨#[]⟩)] := by unfold zeroL; rw [iT109]; rfl
@[simp] theorem iT110 : prog.info? 110 = some t110 := info_of type110
@[simp] theorem sT110 : t110.size = 1 := rfl
@[simp] theorem bT110 : t110.bytes = 0 := rfl
@[simp] theorem iT111 : prog.info? 111 = some t111 := info_of type111
@[simp] theorem sT111 : t111.size = 1 := rfl
@[simp] theorem bT111 : t111.bytes = 8 := rfl
@[simp] theorem zT111 : zeroL prog 111 = some [.v .nilFunc] := by unfold zeroL; rw [iT111]; rfl
@[simp] theorem iT112 : prog.info? 112 = some t112 := info_of type112
@[simp] theorem sT112 : t112.size = 1 := rfl
@[simp] theorem bT112 : t112.bytes = 8 := rfl
@[simp] theorem zT112 : zeroL prog 112 = some [.v .nilFunc] := by unfold zeroL; rw [iT112]; rfl
@[simp] theorem iT113 : prog.info? 113 = some t113 := info_of type113
@[simp] theorem sT113 : t113.size = 1 := rfl
@[simp] theorem bT113 : t113.bytes = 8 := rfl
@[simp] theorem zT113 : zeroL prog 113 = some [.v (.pointer none)] := by unfold zeroL; rw [iT113]; rfl
@[simp] theorem iT114 : prog.info? 114 = some t114 := info_of type114
@[simp] theorem sT114 : t114.size = 2 := rfl
@[simp] theorem bT114 : t114.bytes = 24 := rfl
@[simp] theorem zT114 : zeroL prog 114 = some [.v (.string ⟨#[]⟩), .v (.int .i64 0)] := by unfold zeroL; rw [iT114]; rfl
@[simp] theorem iT115 : prog.info? 115 = some t115 := info_of type115
@[simp] theorem sT115 : t115.size = 2 := rfl
@[simp] theorem bT115 : t115.bytes = 24 := rfl
@[simp] theorem zT115 : zeroL prog 115 = some [.v (.string ⟨#[]⟩), .v (.int .i64 0)] := by unfold zeroL; rw [iT115]; rfl
@[simp] theorem iT116 : prog.info? 116 = some t116 := info_of type116
@[simp] theorem sT116 : t116.size = 1 := rfl
@[simp] theorem bT116 : t116.bytes = 8 := rfl
@[simp] theorem zT116 : zeroL prog 116 = some [.v .nilFunc] := by unfold zeroL; rw [iT116]; rfl
@[simp] theorem iT117 : prog.info? 117 = some t117 := info_of type117
@[simp] theorem sT117 : t117.size = 1 := rfl
@[simp] theorem bT117 : t117.bytes = 8 := rfl
@[simp] theorem zT117 : zeroL prog 117 = some [.v .nilFunc] := by unfold zeroL; rw [iT117]; rfl
@[simp] theorem iT118 : prog.info? 118 = some t118 := info_of type118
@[simp] theorem sT118 : t118.size = 1 := rfl
@[simp] theorem bT118 : t118.bytes = 8 := rfl
@[simp] theorem zT118 : zeroL prog 118 = some [.v .nilFunc] := by unfold zeroL; rw [iT118]; rfl
@[simp] theorem iT119 : prog.info? 119 = some t119 := info_of type119
@[simp] theorem sT119 : t119.size = 1 := rfl
@[simp] theorem bT119 : t119.bytes = 8 := rfl
@[simp] theorem zT119 : zeroL prog 119 = some [.v .nilFunc] := by unfold zeroL; rw [iT119]; rfl
@[simp] theorem iT120 : prog.info? 120 = some t120 := info_of type120
@[simp] theorem sT120 : t120.size = 1 := rfl
@[simp] theorem bT120 : t120.bytes = 8 := rfl
@[simp] theorem zT120 : zeroL prog 120 = some [.v .nilFunc] := by unfold zeroL; rw [iT120]; rfl
@[simp] theorem iT121 : prog.info? 121 = some t121 := info_of type121
@[simp] theorem sT121 : t121.size = 1 := rfl
@[simp] theorem bT121 : t121.bytes = 8 := rfl
@[simp] theorem zT121 : zeroL prog 121 = some [.v .nilFunc] := by unfold zeroL; rw [iT121]; rfl
@[simp] theorem iT122 : prog.info? 122 = some t122 := info_of type122
@[simp] theorem sT122 : t122.size = 1 := rfl
@[simp] theorem bT122 : t122.bytes = 8 := rfl
@[simp] theorem zT122 : zeroL prog 122 = some [.v .nilFunc] := by unfold zeroL; rw [iT122]; rfl
@[simp] theorem iT123 : prog.info? 123 = some t123 := info_of type123
@[simp] theorem sT123 : t123.size = 1 := rfl
@[simp] theorem bT123 : t123.bytes = 8 := rfl
@[simp] theorem zT123 : zeroL prog 123 = some [.v .nilFunc] := by unfold zeroL; rw [iT123]; rfl
@[simp] theorem iT124 : prog.info? 124 = some t124 := info_of type124
@[simp] theorem sT124 : t124.size = 1 := rfl
@[simp] theorem bT124 : t124.bytes = 8 := rfl
@[simp] theorem zT124 : zeroL prog 124 = some [.v .nilFunc] := by unfold zeroL; rw [iT124]; rfl
@[simp] theorem iT125 : prog.info? 125 = some t125 := info_of type125
@[simp] theorem sT125 : t125.size = 1 := rfl
@[simp] theorem bT125 : t125.bytes = 8 := rfl
@[simp] theorem zT125 : zeroL prog 125 = some [.v (.pointer none)] := by unfold zeroL; rw [iT125]; rfl
@[simp] theorem iT126 : prog.info? 126 = some t126 := info_of type126
@[simp] theorem sT126 : t126.size = 5 := rfl
@[simp] theorem bT126 : t126.bytes = 72 := rfl
@[simp] theorem zT126 : zeroL prog 126 = some [.v (.slice none 0 0), .v (.string ⟨#[]⟩), .v (.string ⟨#[]⟩), .v (.int .i64 0), .v (.bool false)] := by unfold zeroL; rw [iT126]; rfl
@[simp] theorem iT127 : prog.info? 127 = some t127 := info_of type127
@[simp] theorem sT127 : t127.size = 5 := rfl
@[simp] theorem bT127 : t127.bytes = 72 := rfl
@[simp] theorem zT127 : zeroL prog 127 = some [.v (.slice none 0 0), .v (.string ⟨#[]⟩), .v (.string ⟨#[]⟩), .v (.int .i64 0), .v (.bool false)] := by unfold zeroL; rw [iT127]; rfl
@[simp] theorem iT128 : prog.info? 128 = some t128 := info_of type128
@[simp] theorem sT128 : t128.size = 1 := rfl
@[simp] theorem bT128 : t128.bytes = 8 := rfl
@[simp] theorem zT128 : zeroL prog 128 = some [.v .nilFunc] := by unfold zeroL; rw [iT128]; rfl
@[simp] theorem iT129 : prog.info? 129 = some t129 := info_of type129
@[simp] theorem sT129 : t129.size = 1 := rfl
@[simp] theorem bT129 : t129.bytes = 8 := rfl
@[simp] theorem zT129 : zeroL prog 129 = some [.v .nilFunc] := by unfold zeroL; rw [iT129]; rfl
@[simp] theorem iT130 : prog.info? 130 = some t130 := info_of type130
@[simp] theorem sT130 : t130.size = 1 := rfl
@[simp] theorem bT130 : t130.bytes = 8 := rfl
@[simp] theorem zT130 : zeroL prog 130 = some [.v .nilFunc] := by unfold zeroL; rw [iT130]; rfl
@[simp] theorem iT131 : prog.info? 131 = some t131 := info_of type131
@[simp] theorem sT131 : t131.size = 1 := rfl
@[simp] theorem bT131 : t131.bytes = 0 := rfl
@[simp] theorem iT132 : prog.info? 132 = some t132 := info_of type132
@[simp] theorem sT132 : t132.size = 1 := rfl
@[simp] theorem bT132 : t132.bytes = 8 := rfl
@[simp] theorem zT132 : zeroL prog 132 = some [.v .nilFunc] := by unfold zeroL; rw [iT132]; rfl
@[simp] theorem iT133 : prog.info? 133 = some t133 := info_of type133
@[simp] theorem sT133 : t133.size = 1 := rfl
@[simp] theorem bT133 : t133.bytes = 8 := rfl
@[simp] theorem zT133 : zeroL prog 133 = some [.v (.map none)] := by unfold zeroL; rw [iT133]; rfl
@[simp] theorem iT134 : prog.info? 134 = some t134 := info_of type134
@[simp] theorem sT134 : t134.size = 24 := rfl
@[simp] theorem bT134 : t134.bytes = 24 := rfl
@[simp] theorem zT134 : zeroL prog 134 = some [.v (.int .u8 0), .v (.int .u8 0), .v (.int .u8 0), .v (.int .u8 0), .v (.int .u8 0), .v (.int .u8 0), .v (.int .u8 0), .v (.int .u8 0), .v (.int .u8 0), .v (.int .u8 0), .v (.int .u8 0), .v (.int .u8 0), .v (.int .u8 0), .v (.int .u8 0), .v (.int .u8 0), .v (.int .u8 0), .v (.int .u8 0), .v (.int .u8 0), .v (.int .u8 0), .v (.int .u8 0), .v (.int .u8 0), .v (.int .u8 0), .v (.int .u8 0), .v (.int .u8 0)] := by unfold zeroL; rw [iT134]; rfl
@[simp] theorem iT135 : prog.info? 135 = some t135 := info_of type135
@[simp] theorem sT135 : t135.size = 1 := rfl
@[simp] theorem bT135 : t135.bytes = 8 := rfl
@[simp] theorem zT135 : zeroL prog 135 = some [.v (.int .u64 0)] := by unfold zeroL; rw [iT135]; rfl
@[simp] theorem iT136 : prog.info? 136 = some t136 := info_of type136
@[simp] theorem sT136 : t136.size = 1 := rfl
@[simp] theorem bT136 : t136.bytes = 8 := rfl
@[simp] theorem zT136 : zeroL prog 136 = some [.v .nilFunc] := by unfold zeroL; rw [iT136]; rfl
@[simp] theorem iT137 : prog.info? 137 = some t137 := info_of type137
@[simp] theorem sT137 : t137.size = 1 := rfl
@[simp] theorem bT137 : t137.bytes = 8 := rfl
@[simp] theorem zT137 : zeroL prog 137 = some [.v .nilFunc] := by unfold zeroL; rw [iT137]; rfl
@[simp] theorem iT138 : prog.info? 138 = some t138 := info_of type138
@[simp] theorem sT138 : t138.size = 1 := rfl
@[simp] theorem bT138 : t138.bytes = 0 := rfl
@[simp] theorem iT139 : prog.info? 139 = some t139 := info_of type139
@[simp] theorem sT139 : t139.size = 1 := rfl
@[simp] theorem bT139 : t139.bytes = 8 := rfl
@[simp] theorem zT139 : zeroL prog 139 = some [.v .nilFunc] := by unfold zeroL; rw [iT139]; rfl
@[simp] theorem iT140 : prog.info? 140 = some t140 := info_of type140
@[simp] theorem sT140 : t140.size = 1 := rfl
@[simp] theorem bT140 : t140.bytes = 8 := rfl
@[simp] theorem zT140 : zeroL prog 140 = some [.v .nilFunc] := by unfold zeroL; rw [iT140]; rfl
@[simp] theorem iT141 : prog.info? 141 = some t141 := info_of type141
@[simp] theorem sT141 : t141.size = 1 := rfl
@[simp] theorem bT141 : t141.bytes = 8 := rfl
@[simp] theorem zT141 : zeroL prog 141 = some [.v .nilFunc] := by unfold zeroL; rw [iT141]; rfl
@[simp] theorem iT142 : prog.info? 142 = some t142 := info_of type142
@[simp] theorem sT142 : t142.size = 1 := rfl
@[simp] theorem bT142 : t142.bytes = 8 := rfl
@[simp] theorem zT142 : zeroL prog 142 = some [.v .nilFunc] := by unfold zeroL; rw [iT142]; rfl
@[simp] theorem iT143 : prog.info? 143 = some t143 := info_of type143
@[simp] theorem sT143 : t143.size = 1 := rfl
@[simp] theorem bT143 : t143.bytes = 8 := rfl
@[simp] theorem zT143 : zeroL prog 143 = some [.v .nilFunc] := by unfold zeroL; rw [iT143]; rfl
@[simp] theorem iT144 : prog.info? 144 = some t144 := info_of type144
@[simp] theorem sT144 : t144.size = 1 := rfl
@[simp] theorem bT144 : t144.bytes = 8 := rfl
@[simp] theorem zT144 : zeroL prog 144 = some [.v .nilFunc] := by unfold zeroL; rw [iT144]; rfl
@[simp] theorem iT145 : prog.info? 145 = some t145 := info_of type145
@[simp] theorem sT145 : t145.size = 20 := rfl
@[simp] theorem bT145 : t145.bytes = 160 := rfl
@[simp] theorem zT145 : zeroL prog 145 = some [.v (.int .u64 0), .v (.int .u64 0), .v (.int .u64 0), .v (.int .u64 0), .v (.int .u64 0), .v (.int .u64 0), .v (.int .u64 0), .v (.int .u64 0), .v (.int .u64 0), .v (.int .u64 0), .v (.int .u64 0), .v (.int .u64 0), .v (.int .u64 0), .v (.int .u64 0), .v (.int .u64 0), .v (.int .u64 0), .v (.int .u64 0), .v (.int .u64 0), .v (.int .u64 0), .v (.int .u64 0)] := by unfold zeroL; rw [iT145]; rfl
@[simp] theorem iT146 : prog.info? 146 = some t146 := info_of type146
@[simp] theorem sT146 : t146.size = 65 := rfl
@[simp] theorem bT146 : t146.bytes = 65 := rfl
@[simp] theorem zT146 : zeroL prog 146 = some [.v (.int .u8 0), .v (.int .u8 0), .v (.int .u8 0), .v (.int .u8 0), .v (.int .u8 0), .v (.int .u8 0), .v (.int .u8 0), .v (.int .u8 0), .v (.int .u8 0), .v (.int .u8 0), .v (.int .u8 0), .v (.int .u8 0), .v (.int .u8 0), .v (.int .u8 0), .v (.int .u8 0), .v (.int .u8 0), .v (.int .u8 0), .v (.int .u8 0), .v (.int .u8 0), .v (.int .u8 0), .v (.int .u8 0), .v (.int .u8 0), .v (.int .u8 0), .v (.int .u8 0), .v (.int .u8 0), .v (.int .u8 0), .v (.int .u8 0), .v (.int .u8 0), .v (.int .u8 0), .v (.int .u8 0), .v (.int .u8 0), .v (.int .u8 0), .v (.int .u8 0), .v (.int .u8 0), .v (.int .u8 0), .v (.int .u8 0), .v (.int .u8 0), .v (.int .u8 0), .v (.int .u8 0), .v (.int .u8 0), .v (.int .u8 0), .v (.int .u8 0), .v (.int .u8 0), .v (.int .u8 0), .v (.int .u8 0), .v (.int .u8 0), .v (.int .u8 0), .v (.int .u8 0), .v (.int .u8 0), .v (.int .u8 0), .v (.int .u8 0), .v (.int .u8 0), .v (.int .u8 0), .v (.int .u8 0), .v (.int .u8 0), .v (.int .u8 0), .v (.int .u8 0), .v (.int .u8 0), .v (.int .u8 0), .v (.int .u8 0), .v (.int .u8 0), .v (.int .u8 0), .v (.int .u8 0), .v (.int .u8 0), .v (.int .u8 0)] := by unfold zeroL; rw [iT146]; rfl
@[simp] theorem iT147 : prog.info? 147 = some t147 := info_of type147
@[simp] theorem sT147 : t147.size = 1 := rfl
@[simp] theorem bT147 : t147.bytes = 8 := rfl
@[simp] theorem zT147 : zeroL prog 147 = some [.v .nilFunc] := by unfold zeroL; rw [iT147]; rfl
@[simp] theorem iT148 : prog.info? 148 = some t148 := info_of type148
@[simp] theorem sT148 : t148.size = 1 := rfl
@[simp] theorem bT148 : t148.bytes = 8 := rfl
@[simp] theorem zT148 : zeroL prog 148 = some [.v .nilFunc] := by unfold zeroL; rw [iT148]; rfl
@[simp] theorem iT149 : prog.info? 149 = some t149 := info_of type149
@[simp] theorem sT149 : t149.size = 1 := rfl
@[simp] theorem bT149 : t149.bytes = 0 := rfl
@[simp] theorem iT150 : prog.info? 150 = some t150 := info_of type150
@[simp] theorem sT150 : t150.size = 1 := rfl
@[simp] theorem bT150 : t150.bytes = 8 := rfl
@[simp] theorem zT150 : zeroL prog 150 = some [.v .nilFunc] := by unfold zeroL; rw [iT150]; rfl
@[simp] theorem iT151 : prog.info? 151 = some t151 := info_of type151
@[simp] theorem sT151 : t151.size = 1 := rfl
@[simp] theorem bT151 : t151.bytes = 8 := rfl
@[simp] theorem zT151 : zeroL prog 151 = some [.v .nilFunc] := by unfold zeroL; rw [iT151]; rfl
@[simp] theorem iT152 : prog.info? 152 = some t152 := info_of type152
@[simp] theorem sT152 : t152.size = 1 := rfl
@[simp] theorem bT152 : t152.bytes = 8 := rfl
@[simp] theorem zT152 : zeroL prog 152 = some [.v .nilFunc] := by unfold zeroL; rw [iT152]; rfl
@[simp] theorem iT153 : prog.info? 153 = some t153 := info_of type153
@[simp] theorem sT153 : t153.size = 32 := rfl
@[simp] theorem bT153 : t153.bytes = 32 := rfl
@[simp] theorem zT153 : zeroL prog 153 = some [.v (.int .u8 0), .v (.int .u8 0), .v (.int .u8 0), .v (.int .u8 0), .v (.int .u8 0), .v (.int .u8 0), .v (.int .u8 0), .v (.int .u8 0), .v (.int .u8 0), .v (.int .u8 0), .v (.int .u8 0), .v (.int .u8 0), .v (.int .u8 0), .v (.int .u8 0), .v (.int .u8 0), .v (.int .u8 0), .v (.int .u8 0), .v (.int .u8 0), .v (.int .u8 0), .v (.int .u8 0), .v (.int .u8 0), .v (.int .u8 0), .v (.int .u8 0), .v (.int .u8 0), .v (.int .u8 0), .v (.int .u8 0), .v (.int .u8 0), .v (.int .u8 0), .v (.int .u8 0), .v (.int .u8 0), .v (.int .u8 0), .v (.int .u8 0)] := by unfold zeroL; rw [iT153]; rfl
@[simp] theorem iT154 : prog.info? 154 = some t154 := info_of type154
@[simp] theorem sT154 : t154.size = 64 := rfl
@[simp] theorem bT154 : t154.bytes = 64 := rfl
@[simp] theorem zT154 : zeroL prog 154 = some [.v (.int .u8 0), .v (.int .u8 0), .v (.int .u8 0), .v (.int .u8 0), .v (.int .u8 0), .v (.int .u8 0), .v (.int .u8 0), .v (.int .u8 0), .v (.int .u8 0), .v (.int .u8 0), .v (.int .u8 0), .v (.int .u8 0), .v (.int .u8 0), .v (.int .u8 0), .v (.int .u8 0), .v (.int .u8 0), .v (.int .u8 0), .v (.int .u8 0), .v (.int .u8 0), .v (.int .u8 0), .v (.int .u8 0), .v (.int .u8 0), .v (.int .u8 0), .v (.int .u8 0), .v (.int .u8 0), .v (.int .u8 0), .v (.int .u8 0), .v (.int .u8 0), .v (.int .u8 0), .v (.int .u8 0), .v (.int .u8 0), .v (.int .u8 0), .v (.int .u8 0), .v (.int .u8 0), .v (.int .u8 0), .v (.int .u8 0), .v (.int .u8 0), .v (.int .u8 0), .v (.int .u8 0), .v (.int .u8 0), .v (.int .u8 0), .v (.int .u8 0), .v (.int .u8 0), .v (.int .u8 0), .v (.int .u8 0), .v (.int .u8 0), .v (.int .u8 0), .v (.int .u8 0), .v (.int .u8 0), .v (.int .u8 0), .v (.int .u8 0), .v (.int .u8 0), .v (.int .u8 0), .v (.int .u8 0), .v (.int .u8 0), .v (.int .u8 0), .v (.int .u8 0), .v (.int .u8 0), .v (.int .u8 0), .v (.int .u8 0), .v (.int .u8 0), .v (.int .u8 0), .v (.int .u8 0), .v (.int .u8 0)] := by unfold zeroL; rw [iT154]; rfl
@[simp] theorem iT155 : prog.info? 155 = some t155 := info_of type155
@[simp] theorem sT155 : t155.size = 1 := rfl
@[simp] theorem bT155 : t155.bytes = 8 := rfl
@[simp] theorem zT155 : zeroL prog 155 = some [.v .nilFunc] := by unfold zeroL; rw [iT155]; rfl
@[simp] theorem iT156 : prog.info? 156 = some t156 := info_of type156
@[simp] theorem sT156 : t156.size = 4 := rfl
@[simp] theorem bT156 : t156.bytes = 40 := rfl
@[simp] theorem zT156 : zeroL prog 156 = some [.v (.pointer none), .v (.pointer none), .v (.pointer none), .v (.string ⟨#[]⟩)] := by unfold zeroL; rw [iT156]; rfl
@[simp] theorem iT157 : prog.info? 157 = some t157 := info_of type157
@[simp] theorem sT157 : t157.size = 4 := rfl
@[simp] theorem bT157 : t157.bytes = 40 := rfl
@[simp] theorem zT157 : zeroL prog 157 = some [.v (.pointer none), .v (.pointer none), .v (.pointer none), .v (.string ⟨#[]⟩)] := by unfold zeroL; rw [iT157]; rfl
@[simp] theorem iT158 : prog.info? 158 = some t158 := info_of type158
@[simp] theorem sT158 : t158.size = 0 := rfl
@[simp] theorem bT158 : t158.bytes = 0 := rfl
@[simp] theorem zT158 : zeroL prog 158 = some [] := by unfold zeroL; rw [iT158]; rfl
@[simp] theorem iT159 : prog.info? 159 = some t159 := info_of type159
@[simp] theorem sT159 : t159.size = 0 := rfl
@[simp] theorem bT159 : t159.bytes = 0 := rfl
@[simp] theorem zT159 : zeroL prog 159 = some [] := by unfold zeroL; rw [iT159]; rfl
@[simp] theorem iT160 : prog.info? 160 = some t160 := info_of type160
@[simp] theorem sT160 : t160.size = 0 := rfl
@[simp] theorem bT160 : t160.bytes = 0 := rfl
@[simp] theorem zT160 : zeroL prog 160 = some [] := by unfold zeroL; rw [iT160]; rfl
@[simp] theorem iT161 : prog.info? 161 = some t161 := info_of type161
@[simp] theorem sT161 : t161.size = 1 := rfl
@[simp] theorem bT161 : t161.bytes = 8 := rfl
@[simp] theorem zT161 : zeroL prog 161 = some [.v .nilFunc] := by unfold zeroL; rw [iT161]; rfl
@[simp] theorem iT162 : prog.info? 162 = some t162 := info_of type162
@[simp] theorem sT162 : t162.size = 1 := rfl
@[simp] theorem bT162 : t162.bytes = 1 := rfl
@[simp] theorem zT162 : zeroL prog 162 = some [.v (.int .u8 0)] := by unfold zeroL; rw [iT162]; rfl
@[simp] theorem iT163 : prog.info? 163 = some t163 := info_of type163
@[simp] theorem sT163 : t163.size = 1 := rfl
@[simp] theorem bT163 : t163.bytes = 1 := rfl
@[simp] theorem zT163 : zeroL prog 163 = some [.v (.int .u8 0)] := by unfold zeroL; rw [iT163]; rfl
@[simp] theorem iT164 : prog.info? 164 = some t164 := info_of type164
@[simp] theorem sT164 : t164.size = 1 := rfl
@[simp] theorem bT164 : t164.bytes = 8 := rfl
@[simp] theorem zT164 : zeroL prog 164 = some [.v .nilFunc] := by unfold zeroL; rw [iT164]; rfl
@[simp] theorem iT165 : prog.info? 165 = some t165 := info_of type165
@[simp] theorem sT165 : t165.size = 1 := rfl
@[simp] theorem bT165 : t165.bytes = 8 := rfl
@[simp] theorem zT165 : zeroL prog 165 = some [.v (.pointer none)] := by unfold zeroL; rw [iT165]; rfl
@[simp] theorem iT166 : prog.info? 166 = some t166 := info_of type166
@[simp] theorem sT166 : t166.size = 1 := rfl
@[simp] theorem bT166 : t166.bytes = 4 := rfl
@[simp] theorem zT166 : zeroL prog 166 = some [.v (.int .i32 0)] := by unfold zeroL; rw [iT166]; rfl
@[simp] theorem iT167 : prog.info? 167 = some t167 := info_of type167
@[simp] theorem sT167 : t167.size = 1 := rfl
@[simp] theorem bT167 : t167.bytes = 4 := rfl
@[simp] theorem zT167 : zeroL prog 167 = some [.v (.int .i32 0)] := by unfold zeroL; rw [iT167]; rfl
@[simp] theorem iT168 : prog.info? 168 = some t168 := info_of type168
@[simp] theorem sT168 : t168.size = 11 := rfl
@[simp] theorem bT168 : t168.bytes = 48 := rfl
@[simp] theorem zT168 : zeroL prog 168 = some [.v (.int .u64 0), .v (.int .u64 0), .v (.int .u32 0), .v (.int .u8 0), .v (.int .u8 0), .v (.int .u8 0), .v (.int .u8 0), .v .nilFunc, .v (.pointer none), .v (.int .i32 0), .v (.int .i32 0)] := by unfold zeroL; rw [iT168]; rfl
@[simp] theorem iT169 : prog.info? 169 = some t169 := info_of type169
@[simp] theorem sT169 : t169.size = 11 := rfl
@[simp] theorem bT169 : t169.bytes = 48 := rfl
@[simp] theorem zT169 : zeroL prog 169 = some [.v (.int .u64 0), .v (.int .u64 0), .v (.int .u32 0), .v (.int .u8 0), .v (.int .u8 0), .v (.int .u8 0), .v (.int .u8 0), .v .nilFunc, .v (.pointer none), .v (.int .i32 0), .v (.int .i32 0)] := by unfold zeroL; rw [iT169]; rfl
@[simp] theorem iT170 : prog.info? 170 = some t170 := info_of type170
@[simp] theorem sT170 : t170.size = 1 := rfl
@[simp] theorem bT170 : t170.bytes = 8 := rfl
@[simp] theorem zT170 : zeroL prog 170 = some [.v (.pointer none)] := by unfold zeroL; rw [iT170]; rfl
@[simp] theorem followsT : prog.follows .mixedOrders = true := rfl
end Go.Proofs.Tryz

/- How the functions of this program are carried out. -/
namespace Go.Proofs.Tryz
open Go Go.SL

/-- Functions that write to the bytes of a text. -/
def muF (f : FuncId) : Bool := [64, 71, 21, 22].contains f
/-- Functions whose objects are kept. -/
def rawF (f : FuncId) : Bool := [27, 30, 63, 60, 87, 88, 89, 56, 110, 80].contains f
/-- The first place of bytes in bytes. -/
def idxP (args : List CV) (H : Hp) : Option (CV × Hp) :=
  match args with
  | [x, y] => (atS H x).bind fun a => (atS H y).bind fun b => (numsOf a.1).bind fun xs => (numsOf b.1).bind fun ys =>
    if a.2 = xs.length ∧ b.2 = ys.length ∧ xs.length ≤ big ∧ ys.length = 2 ∧ (∀ n ∈ xs, 0 ≤ n ∧ n < 256) ∧ (∀ n ∈ ys, 0 ≤ n ∧ n < 256) then some (.v (.int .i64 (Lib.index (Lib.bytesOf xs) (Lib.bytesOf ys))), H) else none
  | _ => none
/-- The first place of a byte in a text. -/
def idbP (args : List CV) (H : Hp) : Option (CV × Hp) :=
  match args with
  | [.v (.string s), .v (.int .u8 c)] => some (.v (.int .i64 (Lib.indexByte s.data.toList c.toNat.toUInt8)), H)
  | _ => none
/-- A text's small letters; is it a token? -/
def lowP (args : List CV) (H : Hp) : Option (CV × Hp) :=
  match args with
  | [.v (.string s)] => if s.size ≤ 4294967280 then some (str (low s.data.toList), H) else none
  | _ => none
def tokP (args : List CV) (H : Hp) : Option (CV × Hp) :=
  match args with
  | [.v (.string s)] => if s.size ≤ 4294967280 then some (.v (.bool (decide (isTok s.data.toList))), H) else none
  | _ => none
/-- What is given back as it is. -/
def espP (args : List CV) (H : Hp) : Option (CV × Hp) :=
  match args with
  | [x] => some (x, H)
  | _ => none
/-- A number's numeral. -/
def itoP (args : List CV) (H : Hp) : Option (CV × Hp) :=
  match args with
  | [.v (.int .i64 n)] => if -9223372036854775808 ≤ n ∧ n ≤ 9223372036854775807 then some (.v (.string ⟨(Lib.itoa n).toArray⟩), H) else none
  | _ => none
/-- Are some functions known from a layer below? -/
class LayerC where
  b : Bool
variable [LayerC]
/-- What is closed ahead of a region. -/
def cloF (f : FuncId) (i : Nat) : List Tmp := []
@[simp] theorem cloF_eq (f : FuncId) (i : Nat) : cloF f i = [] := (rfl)
def cs0 : Cfgs where
  of := fun f => { mu := muF f, reuse := false, clo := cloF f }
  drop := fun f => !rawF f
  prim := fun f => if f = 81 then some idxP else if f = 65 ∨ f = 114 ∨ f = 91 then some idbP else if (f == 26) && LayerC.b then some lowP else if (f == 99) && LayerC.b then some tokP else if f = 34 then some itoP else none
@[simp] theorem clo0 (f : FuncId) : (cs0.of f).clo = cloF f := (rfl)
@[simp] theorem mu5 : (cs0.of 6).mu = false := rfl
@[simp] theorem mu6 : (cs0.of 27).mu = false := rfl
@[simp] theorem mu7 : (cs0.of 18).mu = false := rfl
@[simp] theorem mu9 : (cs0.of 19).mu = false := rfl
@[simp] theorem mu10 : (cs0.of 4).mu = false := rfl
@[simp] theorem mu11 : (cs0.of 5).mu = false := rfl
@[simp] theorem mu12 : (cs0.of 16).mu = false := rfl
@[simp] theorem mu14 : (cs0.of 31).mu = false := rfl
@[simp] theorem mu15 : (cs0.of 33).mu = false := rfl
@[simp] theorem mu17 : (cs0.of 17).mu = false := rfl
@[simp] theorem mu18 : (cs0.of 10).mu = false := rfl
@[simp] theorem mu19 : (cs0.of 39).mu = false := rfl
@[simp] theorem mu21 : (cs0.of 40).mu = false := rfl
@[simp] theorem mu22 : (cs0.of 9).mu = false := rfl
@[simp] theorem mu23 : (cs0.of 14).mu = false := rfl
@[simp] theorem mu24 : (cs0.of 15).mu = false := rfl
@[simp] theorem mu25 : (cs0.of 38).mu = false := rfl
@[simp] theorem mu27 : (cs0.of 20).mu = false := rfl
@[simp] theorem mu28 : (cs0.of 53).mu = false := rfl
@[simp] theorem mu29 : (cs0.of 25).mu = false := rfl
@[simp] theorem mu30 : (cs0.of 54).mu = false := rfl
@[simp] theorem mu32 : (cs0.of 30).mu = false := rfl
@[simp] theorem mu33 : (cs0.of 32).mu = false := rfl
@[simp] theorem mu34 : (cs0.of 62).mu = false := rfl
@[simp] theorem mu35 : (cs0.of 21).mu = true := rfl
@[simp] theorem mu36 : (cs0.of 61).mu = false := rfl
@[simp] theorem mu37 : (cs0.of 63).mu = false := rfl
@[simp] theorem mu41 : (cs0.of 60).mu = false := rfl
@[simp] theorem mu42 : (cs0.of 35).mu = false := rfl
@[simp] theorem mu44 : (cs0.of 37).mu = false := rfl
@[simp] theorem mu45 : (cs0.of 41).mu = false := rfl
@[simp] theorem mu46 : (cs0.of 68).mu = false := rfl
@[simp] theorem mu47 : (cs0.of 69).mu = false := rfl
@[simp] theorem mu48 : (cs0.of 70).mu = false := rfl
@[simp] theorem mu49 : (cs0.of 71).mu = true := rfl
@[simp] theorem mu50 : (cs0.of 72).mu = false := rfl
@[simp] theorem mu51 : (cs0.of 73).mu = false := rfl
@[simp] theorem mu52 : (cs0.of 46).mu = false := rfl
@[simp] theorem mu53 : (cs0.of 74).mu = false := rfl
@[simp] theorem mu54 : (cs0.of 26).mu = false := rfl
@[simp] theorem mu55 : (cs0.of 75).mu = false := rfl
@[simp] theorem mu56 : (cs0.of 76).mu = false := rfl
@[simp] theorem mu57 : (cs0.of 77).mu = false := rfl
@[simp] theorem mu58 : (cs0.of 78).mu = false := rfl
@[simp] theorem mu59 : (cs0.of 87).mu = false := rfl
@[simp] theorem mu60 : (cs0.of 88).mu = false := rfl
@[simp] theorem mu61 : (cs0.of 89).mu = false := rfl
@[simp] theorem mu62 : (cs0.of 86).mu = false := rfl
@[simp] theorem mu63 : (cs0.of 56).mu = false := rfl
@[simp] theorem mu64 : (cs0.of 90).mu = false := rfl
@[simp] theorem mu65 : (cs0.of 58).mu = false := rfl
@[simp] theorem mu72 : (cs0.of 83).mu = false := rfl
@[simp] theorem mu73 : (cs0.of 84).mu = false := rfl
@[simp] theorem mu74 : (cs0.of 85).mu = false := rfl
@[simp] theorem mu75 : (cs0.of 57).mu = false := rfl
@[simp] theorem mu78 : (cs0.of 59).mu = false := rfl
@[simp] theorem mu79 : (cs0.of 64).mu = true := rfl
@[simp] theorem mu80 : (cs0.of 65).mu = false := rfl
@[simp] theorem mu81 : (cs0.of 93).mu = false := rfl
@[simp] theorem mu82 : (cs0.of 66).mu = false := rfl
@[simp] theorem mu83 : (cs0.of 94).mu = false := rfl
@[simp] theorem mu84 : (cs0.of 95).mu = false := rfl
@[simp] theorem mu85 : (cs0.of 96).mu = false := rfl
@[simp] theorem mu86 : (cs0.of 97).mu = false := rfl
@[simp] theorem mu87 : (cs0.of 98).mu = false := rfl
@[simp] theorem mu88 : (cs0.of 99).mu = false := rfl
@[simp] theorem mu89 : (cs0.of 110).mu = false := rfl
@[simp] theorem mu90 : (cs0.of 81).mu = false := rfl
@[simp] theorem mu91 : (cs0.of 108).mu = false := rfl
@[simp] theorem mu92 : (cs0.of 111).mu = false := rfl
@[simp] theorem mu93 : (cs0.of 80).mu = false := rfl
@[simp] theorem mu94 : (cs0.of 112).mu = false := rfl
@[simp] theorem mu95 : (cs0.of 113).mu = false := rfl
@[simp] theorem mu96 : (cs0.of 50).mu = false := rfl
@[simp] theorem mu98 : (cs0.of 109).mu = false := rfl
@[simp] theorem mu99 : (cs0.of 82).mu = false := rfl
@[simp] theorem mu100 : (cs0.of 91).mu = false := rfl
@[simp] theorem mu101 : (cs0.of 92).mu = false := rfl
@[simp] theorem mu102 : (cs0.of 115).mu = false := rfl
@[simp] theorem mu103 : (cs0.of 104).mu = false := rfl
@[simp] theorem mu104 : (cs0.of 105).mu = false := rfl
@[simp] theorem mu105 : (cs0.of 106).mu = false := rfl
@[simp] theorem mu106 : (cs0.of 107).mu = false := rfl
@[simp] theorem mu107 : (cs0.of 124).mu = false := rfl
@[simp] theorem mu108 : (cs0.of 125).mu = false := rfl
@[simp] theorem mu109 : (cs0.of 123).mu = false := rfl
@[simp] theorem mu110 : (cs0.of 114).mu = false := rfl
@[simp] theorem mu111 : (cs0.of 121).mu = false := rfl
@[simp] theorem mu112 : (cs0.of 122).mu = false := rfl
@[simp] theorem mu113 : (cs0.of 128).mu = false := rfl
@[simp] theorem mu114 : (cs0.of 129).mu = false := rfl
@[simp] theorem mu115 : (cs0.of 130).mu = false := rfl
@[simp] theorem mu116 : (cs0.of 131).mu = false := rfl
@[simp] theorem re5 : (cs0.of 6).reuse = false := rfl
@[simp] theorem re6 : (cs0.of 27).reuse = false := rfl
@[simp] theorem re7 : (cs0.of 18).reuse = false := rfl
@[simp] theorem re9 : (cs0.of 19).reuse = false := rfl
@[simp] theorem re10 : (cs0.of 4).reuse = false := rfl
@[simp] theorem re11 : (cs0.of 5).reuse = false := rfl
@[simp] theorem re12 : (cs0.of 16).reuse = false := rfl
@[simp] theorem re14 : (cs0.of 31).reuse = false := rfl
@[simp] theorem re15 : (cs0.of 33).reuse = false := rfl
@[simp] theorem re17 : (cs0.of 17).reuse = false := rfl
@[simp] theorem re18 : (cs0.of 10).reuse = false := rfl
@[simp] theorem re19 : (cs0.of 39).reuse = false := rfl
@[simp] theorem re21 : (cs0.of 40).reuse = false := rfl
@[simp] theorem re22 : (cs0.of 9).reuse = false := rfl
@[simp] theorem re23 : (cs0.of 14).reuse = false := rfl
@[simp] theorem re24 : (cs0.of 15).reuse = false := rfl
@[simp] theorem re25 : (cs0.of 38).reuse = false := rfl
@[simp] theorem re27 : (cs0.of 20).reuse = false := rfl
@[simp] theorem re28 : (cs0.of 53).reuse = false := rfl
@[simp] theorem re29 : (cs0.of 25).reuse = false := rfl
@[simp] theorem re30 : (cs0.of 54).reuse = false := rfl
@[simp] theorem re32 : (cs0.of 30).reuse = false := rfl
@[simp] theorem re33 : (cs0.of 32).reuse = false := rfl
@[simp] theorem re34 : (cs0.of 62).reuse = false := rfl
@[simp] theorem re35 : (cs0.of 21).reuse = false := rfl
@[simp] theorem re36 : (cs0.of 61).reuse = false := rfl
@[simp] theorem re37 : (cs0.of 63).reuse = false := rfl
@[simp] theorem re41 : (cs0.of 60).reuse = false := rfl
@[simp] theorem re42 : (cs0.of 35).reuse = false := rfl
@[simp] theorem re44 : (cs0.of 37).reuse = false := rfl
@[simp] theorem re45 : (cs0.of 41).reuse = false := rfl
@[simp] theorem re46 : (cs0.of 68).reuse = false := rfl
@[simp] theorem re47 : (cs0.of 69).reuse = false := rfl
@[simp] theorem re48 : (cs0.of 70).reuse = false := rfl
@[simp] theorem re49 : (cs0.of 71).reuse = false := rfl
@[simp] theorem re50 : (cs0.of 72).reuse = false := rfl
@[simp] theorem re51 : (cs0.of 73).reuse = false := rfl
@[simp] theorem re52 : (cs0.of 46).reuse = false := rfl
@[simp] theorem re53 : (cs0.of 74).reuse = false := rfl
@[simp] theorem re54 : (cs0.of 26).reuse = false := rfl
@[simp] theorem re55 : (cs0.of 75).reuse = false := rfl
@[simp] theorem re56 : (cs0.of 76).reuse = false := rfl
@[simp] theorem re57 : (cs0.of 77).reuse = false := rfl
@[simp] theorem re58 : (cs0.of 78).reuse = false := rfl
@[simp] theorem re59 : (cs0.of 87).reuse = false := rfl
@[simp] theorem re60 : (cs0.of 88).reuse = false := rfl
@[simp] theorem re61 : (cs0.of 89).reuse = false := rfl
@[simp] theorem re62 : (cs0.of 86).reuse = false := rfl
@[simp] theorem re63 : (cs0.of 56).reuse = false := rfl
@[simp] theorem re64 : (cs0.of 90).reuse = false := rfl
@[simp] theorem re65 : (cs0.of 58).reuse = false := rfl
@[simp] theorem re72 : (cs0.of 83).reuse = false := rfl
@[simp] theorem re73 : (cs0.of 84).reuse = false := rfl
@[simp] theorem re74 : (cs0.of 85).reuse = false := rfl
@[simp] theorem re75 : (cs0.of 57).reuse = false := rfl
@[simp] theorem re78 : (cs0.of 59).reuse = false := rfl
@[simp] theorem re79 : (cs0.of 64).reuse = false := rfl
@[simp] theorem re80 : (cs0.of 65).reuse = false := rfl
@[simp] theorem re81 : (cs0.of 93).reuse = false := rfl
@[simp] theorem re82 : (cs0.of 66).reuse = false := rfl
@[simp] theorem re83 : (cs0.of 94).reuse = false := rfl
@[simp] theorem re84 : (cs0.of 95).reuse = false := rfl
@[simp] theorem re85 : (cs0.of 96).reuse = false := rfl
@[simp] theorem re86 : (cs0.of 97).reuse = false := rfl
@[simp] theorem re87 : (cs0.of 98).reuse = false := rfl
@[simp] theorem re88 : (cs0.of 99).reuse = false := rfl
@[simp] theorem re89 : (cs0.of 110).reuse = false := rfl
@[simp] theorem re90 : (cs0.of 81).reuse = false := rfl
@[simp] theorem re91 : (cs0.of 108).reuse = false := rfl
@[simp] theorem re92 : (cs0.of 111).reuse = false := rfl
@[simp] theorem re93 : (cs0.of 80).reuse = false := rfl
@[simp] theorem re94 : (cs0.of 112).reuse = false := rfl
@[simp] theorem re95 : (cs0.of 113).reuse = false := rfl
@[simp] theorem re96 : (cs0.of 50).reuse = false := rfl
@[simp] theorem re98 : (cs0.of 109).reuse = false := rfl
@[simp] theorem re99 : (cs0.of 82).reuse = false := rfl
@[simp] theorem re100 : (cs0.of 91).reuse = false := rfl
@[simp] theorem re101 : (cs0.of 92).reuse = false := rfl
@[simp] theorem re102 : (cs0.of 115).reuse = false := rfl
@[simp] theorem re103 : (cs0.of 104).reuse = false := rfl
@[simp] theorem re104 : (cs0.of 105).reuse = false := rfl
@[simp] theorem re105 : (cs0.of 106).reuse = false := rfl
@[simp] theorem re106 : (cs0.of 107).reuse = false := rfl
@[simp] theorem re107 : (cs0.of 124).reuse = false := rfl
@[simp] theorem re108 : (cs0.of 125).reuse = false := rfl
@[simp] theorem re109 : (cs0.of 123).reuse = false := rfl
@[simp] theorem re110 : (cs0.of 114).reuse = false := rfl
@[simp] theorem re111 : (cs0.of 121).reuse = false := rfl
@[simp] theorem re112 : (cs0.of 122).reuse = false := rfl
@[simp] theorem re113 : (cs0.of 128).reuse = false := rfl
@[simp] theorem re114 : (cs0.of 129).reuse = false := rfl
@[simp] theorem re115 : (cs0.of 130).reuse = false := rfl
@[simp] theorem re116 : (cs0.of 131).reuse = false := rfl
end Go.Proofs.Tryz

/- Walks: the small functions on bytes. -/
namespace Go.Proofs.Tryz
open Go Go.SL
set_option linter.unusedVariables false
set_option linter.unusedSimpArgs false
variable [LayerC]

theorem w99 (m : Nat) (H : Hp) (x y : CV) (a b : Bs) (hx : RB H x a) (hy : RB H y b) : Ret prog cs0 m 82 [x, y] H (.v (.bool (decide (a = b)))) H := by
  unfold Ret
  rw [WC_drop rfl func82 rfl rfl]
  have ux := hx.unl
  have uy := hy.unl
  simp [f82, ux, uy, hx.str _ underlying23 underlying9 underlying5, hy.str _ underlying23 underlying9 underlying5]

theorem w75 (m : Nat) (H : Hp) (x y : CV) (a b : Bs) (hx : RB H x a) (hy : RB H y b) : Ret prog cs0 m 57 [x, y] H (.v (.bool (decide (b <+: a)))) H := by
  unfold Ret
  rw [WC_drop rfl func57 rfl rfl]
  have ux := hx.unl
  have uy := hy.unl
  by_cases h : b.length ≤ a.length
  · have hc := hx.cut (Nat.zero_le b.length) h
    have uc := hc.unl
    simp [f57, ux, uy, uc, hx.len underlying23, hy.len underlying23, h, hx.slice underlying23 iT5 sT5, (w99 _ H _ _ _ _ hc hy).wc]
    have e : a.take b.length = b ↔ b <+: a := by rw [List.prefix_iff_eq_take, eq_comm]
    simp only [e]
  · have hp : ¬ b <+: a := fun hp => h hp.length_le
    simp [f57, ux, uy, hx.len underlying23, hy.len underlying23, h, hp]

theorem w78 (m : Nat) (H : Hp) (x : CV) (a b : Bs) (hx : RB H x a) : Ret prog cs0 m 59 [x, str b] H (.v (.bool (decide (b <+: a)))) H := by
  unfold Ret
  rw [WC_drop rfl func59 rfl rfl]
  have ux := hx.unl
  by_cases h : b.length ≤ a.length
  · have hc := hx.cut (Nat.zero_le b.length) h
    have uc := hc.unl
    simp [f59, ux, uc, hx.len underlying23, len_str underlying9, h, hx.slice underlying23 iT5 sT5, hc.str _ underlying23 underlying9 underlying5]
    have e : a.take b.length = b ↔ b <+: a := by rw [List.prefix_iff_eq_take, eq_comm]
    simp only [e]
  · have hp : ¬ b <+: a := fun hp => h hp.length_le
    simp [f59, ux, hx.len underlying23, len_str underlying9, h, hp]

theorem w96 (m : Nat) (H : Hp) (x : CV) (l : Bs) (hx : RB H x l) (i : Nat) (hi : i < l.length) (hb : l.length ≤ 4294967280) : Ret prog cs0 m 50 [x, .v (.int .i64 i)] H (.v (.bool (decide (l[i] = 13 ∧ l[i + 1]? = some 10)))) H := by
  unfold Ret
  rw [WC_drop rfl func50 rfl rfl]
  have ux := hx.unl
  obtain ⟨j, hj, hw⟩ := upJ hi (by omega)
  have e13 : l[i].toNat = 13 ↔ l[i] = 13 := u8_eq _ 13
  rw [← hj]
  by_cases h : j < l.length
  · have e10 : l[j].toNat = 10 ↔ l[j] = 10 := u8_eq _ 10
    simp [f50, ux, hx.len underlying23, hw, h, hx.addr underlying23 iT5 sT5, hi, hx.load underlying5 rfl iT5, e13, e10]
    split <;> simp_all
  · have e : l[j]? = none := List.getElem?_eq_none (by omega)
    simp [f50, ux, hx.len underlying23, hw, h, e]
end Go.Proofs.Tryz

/- Walks: names, values, trimmed texts. -/
namespace Go.Proofs.Tryz
open Go Go.SL
set_option linter.unusedVariables false
set_option linter.unusedSimpArgs false
variable [LayerC]

theorem w72 (m : Nat) (s : Bs) (H : Hp) : Ret prog cs0 m 83 [str s] H (.v (.bool (decide (isName s)))) H := by
  unfold Ret
  rw [WC_drop rfl func83 rfl rfl]
  simp [f83, len_str underlying9]
  split
  · grind [isName]
  · split
    · grind [isName]
    · refine W_up s.length (fun i fr H' => H' = H ∧ fr 0 = str s ∧ fr 13 = .v (.int .i64 s.length) ∧ fr 14 = .v (.int .i64 i) ∧ ∀ c ∈ s.take i, nameC c) ?_ 0 _ _ (by omega) (by simp)
      rintro i fr H' hi ⟨rfl, a0, a13, a14, hk⟩
      by_cases hlt : i < s.length
      · have hw := up64 hlt (by omega)
        have hno : ¬ nameC s[i] → ¬ isName s := fun h q => h (q.2.2 _ (List.getElem_mem hlt))
        have hy := take_all hk hlt
        simp [index_str underlying9, a0, a13, a14, hlt, hw]
        grind [nameC]
      · obtain rfl : i = s.length := by omega
        rw [List.take_length] at hk
        simp [a0, a13, a14]
        grind [isName, List.length_eq_zero_iff]

theorem w91 (m : Nat) (s : Bs) (H : Hp) (hs : s.length ≤ 4294967280) : Ret prog cs0 m 108 [str s] H (str (trim s)) H := by
  unfold Ret
  rw [WC_drop rfl func108 rfl rfl]
  simp [f108]
  refine W_mono (W_rounds (Q := fun e fr H' => e = .exit 0 ∧ H' = H ∧ fr 0 = str (trimL s)) (fun j fr H' => ∃ s', trimL s' = trimL s ∧ j = s'.length ∧ s'.length ≤ s.length ∧ H' = H ∧ fr 0 = str s') ?_ s.length _ _ ⟨s, rfl, rfl, by omega, rfl, by simp⟩) ?_
  · rintro j fr H' ⟨s', hs', rfl, hl, rfl, a0⟩
    cases s' with
    | nil => simp [a0, len_str underlying9, ← hs', trimL_nil]
    | cons c s' =>
      have h1 : ((s'.length : Int) + 1).toNat = s'.length + 1 := by omega
      have h2 : (1 : Int) ≤ (s'.length : Int) + 1 := by omega
      have h3 := trimL_blank (c := c) s'
      have h4 := trimL_stop (c := c) s'
      simp at hl
      simp [a0, len_str underlying9, index_str underlying9, slice_str underlying9, h1, h2, str_inj]
      have hex : blankC c = true → ∃ j', j' < s'.length + 1 ∧ ∃ s'_1, trimL s'_1 = trimL s ∧ j' = List.length s'_1 ∧ List.length s'_1 ≤ List.length s ∧ s' = s'_1 := fun h => ⟨_, by omega, s', (h3 h).symm.trans hs', rfl, by omega, rfl⟩
      split
      · exact hex (by simp [blankC, *])
      · split
        · exact hex (by simp [blankC, *])
        · rw [← h4 (by simp [blankC, *])]; exact hs'
  · rintro e fr H' ⟨rfl, rfl, a0⟩
    simp
    refine W_rounds (fun j fr H'' => ∃ s', trimR s' = trim s ∧ j = s'.length ∧ s'.length ≤ s.length ∧ H'' = H' ∧ fr 0 = str s') ?_ _ _ _ ⟨trimL s, rfl, rfl, ?_, rfl, a0⟩
    · rintro j fr H'' ⟨s', hs', rfl, hl, rfl, a0⟩
      rcases List.eq_nil_or_concat s' with rfl | ⟨s', c, rfl⟩
      · simp [a0, len_str underlying9, ← hs', trimR_nil]
      · simp at hl
        have hw : IntKind.i64.wrap (s'.length : Int) = (s'.length : Int) := wrN rfl (by omega)
        have h3 := trimR_blank (c := c) s'
        have h4 := trimR_stop (c := c) s'
        simp [a0, len_str underlying9, index_str underlying9, slice_str underlying9, hw, str_inj, show (s'.length : Int) ≤ s'.length + 1 by omega]
        rw [List.concat_eq_append] at hs'
        have hex : blankC c = true → ∃ j', j' < s'.length + 1 ∧ ∃ s'_1, trimR s'_1 = trim s ∧ j' = List.length s'_1 ∧ List.length s'_1 ≤ List.length s ∧ s' = s'_1 := fun h => ⟨_, by omega, s', (h3 h).symm.trans hs', rfl, by omega, rfl⟩
        split
        · exact hex (by simp [blankC, *])
        · split
          · exact hex (by simp [blankC, *])
          · rw [← h4 (by simp [blankC, *])]; exact hs'
    · exact (List.dropWhile_sublist _).length_le
end Go.Proofs.Tryz

/- Walks: small letters, trimmed texts, values, tokens. -/
namespace Go.Proofs.Tryz
open Go Go.SL
set_option linter.unusedVariables false
set_option linter.unusedSimpArgs false
variable [LayerC]

theorem w54 (m : Nat) (s : Bs) (H : Hp) (hs : s.length ≤ 4294967280) : Ret prog cs0 m 26 [str s] H (str (low s)) H := by
  unfold Ret
  rename_i inst; obtain ⟨b⟩ := inst; cases b
  case true =>
    rw [WC_prim (p := lowP) rfl]
    exact ⟨_, by simp only [lowP, str]; rw [if_pos (by simpa [ByteArray.size] using hs)], rfl, rfl⟩
  letI : LayerC := ⟨false⟩
  show WC prog cs0 m (.f 26) [str s] H _
  rw [WC_drop rfl func26 rfl rfl]
  simp [f26]
  refine W_up s.length (fun i fr H' => fr 0 = str s ∧ fr 4 = .v (.int .i64 i) ∧ AccB H H' (fr 3) (low (s.take i)) 5) ?_ 0 _ _ (by omega) ⟨by simp, by simp, Acc.nil H 1 5⟩
  rintro i fr H' hi ⟨a0, a4, ha⟩
  have hu := ha.unl
  by_cases hlt : i < s.length
  · have hw := up64 hlt (by omega)
    have hap : ∀ y, apQ H.length (fr 3) y = true := ha.ap (Nat.le_refl _)
    have hb : ∀ b : UInt8, ∃ x2 H2, dAppend prog 23 23 (fr 3) (.lit (u8s [b]) 1 1) H' = some (x2, H2) ∧ AccB H H2 x2 (low (s.take i) ++ [b]) 5 := fun b =>
      AccB.append' underlying23 iT5 zT5 sT5 bT5 ha (src_lit underlying23 rfl H') (by simp; omega)
    obtain ⟨x2, H2, h1, h2⟩ := hb (lowB s[i])
    have u2 := h2.unl
    rw [take_snoc hlt, low_snoc]
    by_cases hc : 65 ≤ s[i].toNat ∧ s[i].toNat ≤ 90
    · simp [index_str underlying9, len_str underlying9, a0, a4, hlt, hw, mkB1 underlying23 underlying5 iT5 zT5 sT5, hap, hc.1, hc.2, lowB_wrap hc, h1, hu, u2, -u8s_append]
      exact h2
    · rw [lowB_lo hc] at h1 h2 ⊢
      have hc' : 65 ≤ s[i].toNat → ¬ s[i].toNat ≤ 90 := fun a b => hc ⟨a, b⟩
      simp [index_str underlying9, len_str underlying9, a0, a4, hlt, hw, mkB1 underlying23 underlying5 iT5 zT5 sT5, hap, h1, hu, u2, -u8s_append]
      split
      · rw [if_neg (hc' (by assumption))]; exact h2
      · exact h2
  · obtain rfl : i = s.length := by omega
    rw [List.take_length] at ha
    simp [len_str underlying9, a0, a4, hu, ha.rb.str _ underlying23 underlying9 underlying5, ha.take]
end Go.Proofs.Tryz

/- Walks: trimmed texts, values, tokens. -/
namespace Go.Proofs.Tryz
open Go Go.SL
set_option linter.unusedVariables false
set_option linter.unusedSimpArgs false
variable [LayerC]

theorem idb_mem (l : Bs) (c : UInt8) : 0 ≤ Lib.indexByte l c ↔ c ∈ l := by
  induction l with
  | nil => simp [Lib.indexByte]
  | cons b l ih =>
    unfold Lib.indexByte
    have := Lib.indexByte_ge l c
    by_cases h : b = c
    · simp [h]
    · have h2 : (b == c) = false := by simp [h]
      rw [h2]
      simp only [Bool.false_eq_true, if_false, List.mem_cons, Ne.symm h, false_or, ← ih]
      split
      · rename_i h3; simp at h3; omega
      · rename_i h3; simp at h3; omega
theorem w80 (m : Nat) (s : Bs) (c : UInt8) (H : Hp) : Ret prog cs0 m 65 [str s, .v (.int .u8 c.toNat)] H (.v (.int .i64 (Lib.indexByte s c))) H := by
  unfold Ret
  rw [WC_prim (p := idbP) rfl]
  refine ⟨_, rfl, ?_, rfl⟩
  show CV.v (.int .i64 (Lib.indexByte s ((c.toNat : Int).toNat.toUInt8))) = _
  congr 3
  simp

theorem w84 (m : Nat) (s : Bs) (H : Hp) (hs : s.length ≤ 4294967280) : Ret prog cs0 m 95 [str s] H (.v (.bool (decide (isTok s)))) H := by
  unfold Ret
  rw [WC_drop rfl func95 rfl rfl]
  simp [f95, len_str underlying9]
  refine W_up s.length (fun i fr H' => H' = H ∧ fr 0 = str s ∧ fr 5 = .v (.int .i64 s.length) ∧ fr 6 = .v (.int .i64 i) ∧ ∀ c ∈ s.take i, tokC c) ?_ 0 _ _ (by omega) (by simp)
  rintro i fr H' hi ⟨rfl, a0, a5, a6, hk⟩
  by_cases hlt : i < s.length
  · have hw := up64 hlt (by omega)
    have hno : ¬ tokC s[i] → ¬ isTok s := fun h q => h (q.1 _ (List.getElem_mem hlt))
    have hy := take_all hk hlt
    have hm := idb_mem others s[i]
    simp [index_str underlying9, len_str underlying9, a0, a5, a6, hlt, hw, othersE, (w80 _ _ _ _).wc]
    grind [tokC]
  · obtain rfl : i = s.length := by omega
    rw [List.take_length] at hk
    simp [len_str underlying9, a0, a5, a6]
    grind [isTok, List.length_eq_zero_iff]

theorem w86 (m : Nat) (s : Bs) (H : Hp) (hs : s.length ≤ 4294967280) : Ret prog cs0 m 97 [str s] H (.v (.bool (decide ((∀ c ∈ s, 32 ≤ c.toNat ∧ c.toNat ≤ 126) ∧ s.length ≤ 256)))) H := by
  unfold Ret
  rw [WC_drop rfl func97 rfl rfl]
  simp [f97, len_str underlying9]
  refine W_up s.length (fun i fr H' => H' = H ∧ fr 0 = str s ∧ fr 5 = .v (.int .i64 s.length) ∧ fr 6 = .v (.int .i64 i) ∧ ∀ c ∈ s.take i, 32 ≤ c.toNat ∧ c.toNat ≤ 126) ?_ 0 _ _ (by omega) (by simp)
  rintro i fr H' hi ⟨rfl, a0, a5, a6, hk⟩
  by_cases hlt : i < s.length
  · have hw := up64 hlt (by omega)
    have hno : (∀ c ∈ s, 32 ≤ c.toNat ∧ c.toNat ≤ 126) → 32 ≤ s[i].toNat ∧ s[i].toNat ≤ 126 := fun q => q _ (List.getElem_mem hlt)
    have hy := take_all hk hlt
    simp [index_str underlying9, len_str underlying9, a0, a5, a6, hlt, hw]
    grind
  · obtain rfl : i = s.length := by omega
    rw [List.take_length] at hk
    simp [len_str underlying9, a0, a5, a6]
    grind

theorem w73 (m : Nat) (s : Bs) (H : Hp) (hs : s.length ≤ 4294967280) : Ret prog cs0 m 84 [str s] H (.v (.bool (decide (isVal s)))) H := by
  unfold Ret
  rw [WC_drop rfl func84 rfl rfl]
  simp [f84, len_str underlying9]
  refine W_up s.length (fun i fr H' => H' = H ∧ fr 0 = str s ∧ fr 5 = .v (.int .i64 s.length) ∧ fr 6 = .v (.int .i64 i) ∧ ∀ c ∈ s.take i, valC c) ?_ 0 _ _ (by omega) (by simp)
  rintro i fr H' hi ⟨rfl, a0, a5, a6, hk⟩
  by_cases hlt : i < s.length
  · have hw := up64 hlt (by omega)
    have hno : ¬ valC s[i] → ¬ isVal s := fun h q => h (q.1 _ (List.getElem_mem hlt))
    have hy := take_all hk hlt
    simp [index_str underlying9, len_str underlying9, a0, a5, a6, hlt, hw]
    grind [valC]
  · obtain rfl : i = s.length := by omega
    rw [List.take_length] at hk
    simp [len_str underlying9, a0, a5, a6, (w91 _ _ _ hs).wc]
    grind [isVal]
end Go.Proofs.Tryz

/- Walks: small letters, trimmed texts, values, tokens. -/
namespace Go.Proofs.Tryz
open Go Go.SL
set_option linter.unusedVariables false
set_option linter.unusedSimpArgs false
variable [LayerC]

theorem w79 (m : Nat) (s : Bs) (H : Hp) (hs : s.length ≤ 4294967280) : Ret prog cs0 m 64 [str s] H (str (low s)) H := by
  unfold Ret
  rw [WC_drop rfl func64 rfl rfl]
  simp [f64, cvt_s2b underlying9 underlying23 underlying5, dLenS_sl underlying23]
  refine W_up s.length (fun i fr H' => ∃ L, L = low (s.take i) ++ s.drop i ∧ H' = H ++ [.cells 0 (u8s L) 5] ∧ fr 3 = .sl H.length 0 0 s.length 1 ∧ fr 8 = .sl H.length 0 0 s.length 1 ∧ fr 9 = .v (.int .i64 s.length) ∧ fr 10 = .v (.int .i64 i)) ?_ 0 _ _ (by omega) ⟨s, rfl, by simp⟩
  rintro i fr H' hi ⟨L, hL, rfl, a3, a8, a9, a10⟩
  have hl : L.length = s.length := by subst hL; simp; omega
  by_cases hlt : i < s.length
  · have hL2 : ∀ h : i < L.length, L[i] = s[i] := by subst hL; intro h; simp [List.getElem_append_right, low, Nat.min_eq_left hi]
    have hL3 : ∀ b, L.take i ++ b :: L.drop (i + 1) = low (s.take i) ++ b :: s.drop (i + 1) := by intro b; subst hL; simp [low, List.drop_append, Nat.min_eq_left hi, List.drop_drop]
    have hs' : low (s.take (i + 1)) ++ s.drop (i + 1) = low (s.take i) ++ lowB s[i] :: s.drop (i + 1) := by rw [take_snoc hlt, low_snoc, List.append_assoc]; rfl
    have hw := up64 hlt (by omega)
    have hs2 : L = low (s.take i) ++ s[i] :: s.drop (i + 1) := by rw [hL, List.drop_eq_getElem_cons hlt]
    have hsame : ¬ (65 ≤ s[i].toNat ∧ s[i].toNat ≤ 90) → L = low (s.take (i + 1)) ++ s.drop (i + 1) := fun h => by rw [hs', hs2, lowB_lo h]
    by_cases hc : 65 ≤ s[i].toNat ∧ s[i].toNat ≤ 90
    · simp [a3, a8, a9, a10, hlt, addr_sl underlying23 iT5, load_one underlying5 rfl iT5, hL2, store_at iT5, hl, hw, Nat.add_one_le_iff, -u8s_append, hc.1, hc.2, lowB_wrap hc]
      rw [hs', ← hL3]
      simp [u8s_cons]
    · have hc' : 65 ≤ s[i].toNat → ¬ s[i].toNat ≤ 90 := fun a b => hc ⟨a, b⟩
      simp [a3, a8, a9, a10, hlt, addr_sl underlying23 iT5, load_one underlying5 rfl iT5, hL2, store_at iT5, hl, hw, Nat.add_one_le_iff, -u8s_append]
      split
      · rw [if_neg (hc' (by assumption))]; exact hsame hc
      · exact hsame hc
  · obtain rfl : i = s.length := by omega
    have e : L = low s := by simpa using hL
    subst e
    have e2 : (low s).take s.length = low s := List.take_of_length_le (by simp)
    simp [a3, a8, a9, a10, cvt_sl' (L := low s) _ underlying23 underlying9 underlying5, e2]

theorem w49 (m : Nat) (s : Bs) (H : Hp) (hs : s.length ≤ 4294967280) : Ret prog cs0 m 71 [str s] H (str (low s)) H := by
  unfold Ret
  rw [WC_drop rfl func71 rfl rfl]
  simp [f71, cvt_s2b underlying9 underlying23 underlying5, dLenS_sl underlying23]
  refine W_up s.length (fun i fr H' => ∃ L, L = low (s.take i) ++ s.drop i ∧ H' = H ++ [.cells 0 (u8s L) 5] ∧ fr 3 = .sl H.length 0 0 s.length 1 ∧ fr 8 = .sl H.length 0 0 s.length 1 ∧ fr 9 = .v (.int .i64 s.length) ∧ fr 10 = .v (.int .i64 i)) ?_ 0 _ _ (by omega) ⟨s, rfl, by simp⟩
  rintro i fr H' hi ⟨L, hL, rfl, a3, a8, a9, a10⟩
  have hl : L.length = s.length := by subst hL; simp; omega
  by_cases hlt : i < s.length
  · have hL2 : ∀ h : i < L.length, L[i] = s[i] := by subst hL; intro h; simp [List.getElem_append_right, low, Nat.min_eq_left hi]
    have hL3 : ∀ b, L.take i ++ b :: L.drop (i + 1) = low (s.take i) ++ b :: s.drop (i + 1) := by intro b; subst hL; simp [low, List.drop_append, Nat.min_eq_left hi, List.drop_drop]
    have hs' : low (s.take (i + 1)) ++ s.drop (i + 1) = low (s.take i) ++ lowB s[i] :: s.drop (i + 1) := by rw [take_snoc hlt, low_snoc, List.append_assoc]; rfl
    have hw := up64 hlt (by omega)
    have hs2 : L = low (s.take i) ++ s[i] :: s.drop (i + 1) := by rw [hL, List.drop_eq_getElem_cons hlt]
    have hsame : ¬ (65 ≤ s[i].toNat ∧ s[i].toNat ≤ 90) → L = low (s.take (i + 1)) ++ s.drop (i + 1) := fun h => by rw [hs', hs2, lowB_lo h]
    by_cases hc : 65 ≤ s[i].toNat ∧ s[i].toNat ≤ 90
    · simp [a3, a8, a9, a10, hlt, addr_sl underlying23 iT5, load_one underlying5 rfl iT5, hL2, store_at iT5, hl, hw, Nat.add_one_le_iff, -u8s_append, hc.1, hc.2, lowB_wrap hc]
      rw [hs', ← hL3]
      simp [u8s_cons]
    · have hc' : 65 ≤ s[i].toNat → ¬ s[i].toNat ≤ 90 := fun a b => hc ⟨a, b⟩
      simp [a3, a8, a9, a10, hlt, addr_sl underlying23 iT5, load_one underlying5 rfl iT5, hL2, store_at iT5, hl, hw, Nat.add_one_le_iff, -u8s_append]
      split
      · rw [if_neg (hc' (by assumption))]; exact hsame hc
      · exact hsame hc
  · obtain rfl : i = s.length := by omega
    have e : L = low s := by simpa using hL
    subst e
    have e2 : (low s).take s.length = low s := List.take_of_length_le (by simp)
    simp [a3, a8, a9, a10, cvt_sl' (L := low s) _ underlying23 underlying9 underlying5, e2]

theorem w45 (m : Nat) (a b : Bs) (H : Hp) (ha : a.length ≤ 4294967280) (hb : b.length ≤ 4294967280) : Ret prog cs0 m 41 [str a, str b] H (.v (.bool (decide (low a = low b)))) H := by
  unfold Ret
  rw [WC_drop rfl func41 rfl rfl]
  simp [f41, (w79 _ _ _ ha).wc, (w79 _ _ _ hb).wc]

theorem w52 (m : Nat) (a b : Bs) (H : Hp) (ha : a.length ≤ 4294967280) (hb : b.length ≤ 4294967280) : Ret prog cs0 m 46 [str a, str b] H (.v (.bool (decide (low a = low b)))) H := by
  unfold Ret
  rw [WC_drop rfl func46 rfl rfl]
  simp [f46, (w54 _ _ _ ha).wc, (w54 _ _ _ hb).wc]

theorem w102 (m : Nat) (s : Bs) (c : UInt8) (H : Hp) (hs : s.length ≤ 4294967280) : Ret prog cs0 m 115 [str s, str [c]] H (.v (.bool (decide (c ∈ s)))) H := by
  unfold Ret
  rw [WC_drop rfl func115 rfl rfl]
  simp [f115]
  refine W_up s.length (fun i fr H' => H' = H ∧ fr 0 = str s ∧ fr 1 = str [c] ∧ fr 5 = .v (.int .i64 i) ∧ ∀ d ∈ s.take i, d ≠ c) ?_ 0 _ _ (by omega) (by simp)
  rintro i fr H' hi ⟨rfl, a0, a1, a5, hk⟩
  obtain ⟨j, hj, hw⟩ := upJ (i := i) (n := s.length + 1) (by omega) (by omega)
  by_cases hlt : i < s.length
  · have hy := take_all hk hlt
    have h1 : (s.take j).drop i = [s[i]] := by rw [hj, take_snoc hlt, List.drop_append_of_le_length (by simp; omega)]; simp
    have hjs : j ≤ s.length := by omega
    have hij : i ≤ j := by omega
    have hw2 : (j : Int) = ((i + 1 : Nat) : Int) := by omega
    simp [len_str underlying9, slice_str underlying9, a0, a1, a5, hw, hlt, h1, hjs, hij]
    split
    · rename_i h; subst h; exact List.getElem_mem hlt
    · rename_i h; exact ⟨by omega, hy h⟩
  · obtain rfl : i = s.length := by omega
    have hjs : ¬ j ≤ s.length := by omega
    rw [List.take_length] at hk
    simp [len_str underlying9, a0, a1, a5, hw, hjs]
    exact fun h => hk c h rfl

theorem w87 (m : Nat) (c : UInt8) (H : Hp) : Ret prog cs0 m 98 [.v (.int .u8 c.toNat)] H (.v (.bool (decide (tokC c)))) H := by
  unfold Ret
  rw [WC_drop rfl func98 rfl rfl]
  simp [f98, mkB1 underlying23 underlying5 iT5 zT5 sT5, cvt_lit1 _ underlying23 underlying9 underlying5, othersE, (w102 _ others _ _ (by decide)).wc]
  grind [tokC]

theorem w88 (m : Nat) (s : Bs) (H : Hp) (hs : s.length ≤ 4294967280) : Ret prog cs0 m 99 [str s] H (.v (.bool (decide (isTok s)))) H := by
  unfold Ret
  rename_i inst; obtain ⟨b⟩ := inst; cases b
  case true =>
    rw [WC_prim (p := tokP) rfl]
    exact ⟨_, by simp only [tokP, str]; rw [if_pos (by simpa [ByteArray.size] using hs)], rfl, rfl⟩
  letI : LayerC := ⟨false⟩
  show WC prog cs0 m (.f 99) [str s] H _
  rw [WC_drop rfl func99 rfl rfl]
  simp [f99]
  refine W_up s.length (fun i fr H' => H' = H ∧ fr 0 = str s ∧ fr 3 = .v (.int .i64 i) ∧ ∀ c ∈ s.take i, tokC c) ?_ 0 _ _ (by omega) (by simp)
  rintro i fr H' hi ⟨rfl, a0, a3, hk⟩
  by_cases hlt : i < s.length
  · have hw := up64 hlt (by omega)
    have hno : ¬ tokC s[i] → ¬ isTok s := fun h q => h (q.1 _ (List.getElem_mem hlt))
    have hy := take_all hk hlt
    simp [index_str underlying9, len_str underlying9, a0, a3, hlt, hw, (w87 _ _ _).wc]
    grind
  · obtain rfl : i = s.length := by omega
    rw [List.take_length] at hk
    simp [len_str underlying9, a0, a3]
    grind [isTok]

theorem w85 (m : Nat) (s : Bs) (H : Hp) (hs : s.length ≤ 4294967280) : Ret prog cs0 m 96 [str s] H (.v (.bool (decide (isTok s ∧ low s = s)))) H := by
  unfold Ret
  rw [WC_drop rfl func96 rfl rfl]
  simp [f96, (w84 _ _ _ hs).wc, (w49 _ _ _ hs).wc]
  grind
end Go.Proofs.Tryz

/- Walks: Go's library on texts and bytes. -/
namespace Go.Proofs.Tryz
open Go Go.SL
set_option linter.unusedVariables false
set_option linter.unusedSimpArgs false
variable [LayerC]

theorem w101 (m : Nat) (a b : Bs) (H : Hp) : Ret prog cs0 m 92 [str a, str b] H (.v (.bool (decide (b <+: a)))) H := by
  unfold Ret
  rw [WC_drop rfl func92 rfl rfl]
  by_cases h : b.length ≤ a.length
  · simp [f92, len_str underlying9, slice_str underlying9, h]
    have e : a.take b.length = b ↔ b <+: a := by rw [List.prefix_iff_eq_take, eq_comm]
    simp only [e]
  · have hp : ¬ b <+: a := fun hp => h hp.length_le
    simp [f92, len_str underlying9, h, hp]
theorem w82 (m : Nat) (a b : Bs) (H : Hp) : Ret prog cs0 m 66 [str a, str b] H (.v (.bool (decide (b <+: a)))) H := by
  unfold Ret
  rw [WC_drop rfl func66 rfl rfl]
  simp [f66, (w101 _ _ _ _).wc]
/-- What is behind a front. -/
def behind (a b : Bs) : Bs := if b <+: a then a.drop b.length else a
theorem w81 (m : Nat) (a b : Bs) (H : Hp) : Ret prog cs0 m 93 [str a, str b] H (.tup [str (behind a b), .v (.bool (decide (b <+: a)))]) H := by
  unfold Ret
  rw [WC_drop rfl func93 rfl rfl]
  by_cases h : b <+: a
  · have hl := h.length_le
    simp [f93, (w101 _ _ _ _).wc, h, len_str underlying9, slice_str underlying9, hl, behind]
  · simp [f93, (w101 _ _ _ _).wc, h, behind]
theorem w48 (m : Nat) (a b : Bs) (H : Hp) : Ret prog cs0 m 70 [str a, str b] H (.tup [str (behind a b), .v (.bool (decide (b <+: a)))]) H := by
  unfold Ret
  rw [WC_drop rfl func70 rfl rfl]
  simp [f70, (w81 _ _ _ _).wc, dExtract]

theorem w94 (m : Nat) (x y : CV) (a b : Bs) (H : Hp) (hx : RB H x a) (hy : RB H y b) : ∃ r, RB H r (behind a b) ∧ Ret prog cs0 m 112 [x, y] H (.tup [r, .v (.bool (decide (b <+: a)))]) H := by
  have ux := hx.unl
  have uy := hy.unl
  by_cases h : b <+: a
  · have hl := h.length_le
    have hc := hx.cut hl (Nat.le_refl _)
    rw [List.take_length] at hc
    have uc := hc.unl
    refine ⟨cutC x b.length a.length, by simpa [behind, h] using hc, ?_⟩
    unfold Ret
    rw [WC_drop rfl func112 rfl rfl]
    simp [f112, ux, uy, (w75 _ _ _ _ _ _ hx hy).wc, h, hy.len underlying23, hx.slice underlying23 iT5 sT5, hl, uc, hc.frz2]
  · refine ⟨x, by simpa [behind, h] using hx, ?_⟩
    unfold Ret
    rw [WC_drop rfl func112 rfl rfl]
    simp [f112, ux, uy, (w75 _ _ _ _ _ _ hx hy).wc, h, hx.frz2]

theorem w108 (m : Nat) (x y : CV) (a b : Bs) (H : Hp) (hx : RB H x a) (hy : RB H y b) (ha : a.length ≤ 4294967280) : Ret prog cs0 m 125 [x, y] H (.v (.bool (decide (b <:+ a)))) H := by
  have ux := hx.unl
  have uy := hy.unl
  unfold Ret
  rw [WC_drop rfl func125 rfl rfl]
  by_cases h : b.length ≤ a.length
  · have hw : IntKind.i64.wrap ((a.length : Int) - (b.length : Int)) = ((a.length - b.length : Nat) : Int) := wrN (by omega) (by omega)
    obtain ⟨k, hk⟩ : ∃ k, k = a.length - b.length := ⟨_, rfl⟩
    rw [← hk] at hw
    have hkl : k ≤ a.length := by omega
    have hc := hx.cut hkl (Nat.le_refl _)
    rw [List.take_length] at hc
    have uc := hc.unl
    simp [f125, ux, uy, hx.len underlying23, hy.len underlying23, h, hw, hkl, hx.slice underlying23 iT5 sT5, uc, (w99 _ _ _ _ _ _ hc hy).wc]
    have e : a.drop k = b ↔ b <:+ a := by rw [List.suffix_iff_eq_drop, hk, eq_comm]
    simp only [e]
  · have hp : ¬ b <:+ a := fun hp => h hp.length_le
    simp [f125, ux, uy, hx.len underlying23, hy.len underlying23, h, hp]
/-- What is ahead of an end. -/
def ahead (a b : Bs) : Bs := if b <:+ a then a.take (a.length - b.length) else a
theorem w95 (m : Nat) (x y : CV) (a b : Bs) (H : Hp) (hx : RB H x a) (hy : RB H y b) (ha : a.length ≤ 4294967280) : ∃ r, RB H r (ahead a b) ∧ Ret prog cs0 m 113 [x, y] H (.tup [r, .v (.bool (decide (b <:+ a)))]) H := by
  have ux := hx.unl
  have uy := hy.unl
  by_cases h : b <:+ a
  · have hl := h.length_le
    have hw : IntKind.i64.wrap ((a.length : Int) - (b.length : Int)) = ((a.length - b.length : Nat) : Int) := wrN (by omega) (by omega)
    obtain ⟨k, hk⟩ : ∃ k, k = a.length - b.length := ⟨_, rfl⟩
    rw [← hk] at hw
    have hkl : k ≤ a.length := by omega
    have hc := hx.cut (Nat.zero_le k) hkl
    have uc := hc.unl
    refine ⟨cutC x 0 k, by simpa [ahead, h, ← hk] using hc, ?_⟩
    unfold Ret
    rw [WC_drop rfl func113 rfl rfl]
    simp [f113, ux, uy, (w108 _ _ _ _ _ _ hx hy ha).wc, h, hx.len underlying23, hy.len underlying23, hw, hx.slice underlying23 iT5 sT5, hkl, uc, hc.frz2]
  · refine ⟨x, by simpa [ahead, h] using hx, ?_⟩
    unfold Ret
    rw [WC_drop rfl func113 rfl rfl]
    simp [f113, ux, uy, (w108 _ _ _ _ _ _ hx hy ha).wc, h, hx.frz2]

theorem w100 (m : Nat) (s : Bs) (c : UInt8) (H : Hp) : Ret prog cs0 m 91 [str s, .v (.int .u8 c.toNat)] H (.v (.int .i64 (Lib.indexByte s c))) H := by
  unfold Ret
  rw [WC_prim (p := idbP) rfl]
  refine ⟨_, rfl, ?_, rfl⟩
  show CV.v (.int .i64 (Lib.indexByte s ((c.toNat : Int).toNat.toUInt8))) = _
  congr 3
  simp
theorem idb_self (c : UInt8) : Lib.indexByte [c] c = 0 := by simp [Lib.indexByte]
theorem w113 (m : Nat) (s : Bs) (c : UInt8) (H : Hp) : Ret prog cs0 m 128 [str s, str [c]] H (.v (.int .i64 (Lib.indexByte s c))) H := by
  unfold Ret
  rw [WC_drop rfl func128 rfl rfl]
  by_cases h : [c] = s
  · subst h
    simp [f128, len_str underlying9, idb_self]
  · have h' : ¬ s = [c] := Ne.symm h
    simp [f128, len_str underlying9, index_str underlying9, h, h', (w100 _ _ _ _).wc]
/-- A text, cut at a byte. -/
def cutAt (s : Bs) (c : UInt8) : Bs × Bs × Bool := if c ∈ s then (s.takeWhile (· != c), s.drop ((s.takeWhile (· != c)).length + 1), true) else (s, [], false)
theorem idb_at (l : Bs) (c : UInt8) (h : c ∈ l) : Lib.indexByte l c = (l.takeWhile (· != c)).length ∧ (l.takeWhile (· != c)).length < l.length ∧ l.take (l.takeWhile (· != c)).length = l.takeWhile (· != c) := by
  induction l with
  | nil => cases h
  | cons b l ih =>
    unfold Lib.indexByte
    by_cases e : b = c
    · subst e; simp
    · have h2 : (b == c) = false := by simp [e]
      have h3 : c ∈ l := by rcases List.mem_cons.1 h with h | h; exact absurd h.symm e; exact h
      obtain ⟨i1, i2, i3⟩ := ih h3
      rw [h2, i1]
      have h4 : (b != c) = true := by simp [e]
      simp only [Bool.false_eq_true, if_false, List.takeWhile_cons, h4, if_true, List.length_cons, List.take_succ_cons, i3]
      refine ⟨?_, by omega, trivial⟩
      split
      · rename_i h5; simp at h5
      · rfl
theorem idb_no (l : Bs) (c : UInt8) (h : c ∉ l) : Lib.indexByte l c = -1 := by
  have := idb_mem l c
  have := Lib.indexByte_ge l c
  have : ¬ 0 ≤ Lib.indexByte l c := by grind
  omega
theorem w107 (m : Nat) (s : Bs) (c : UInt8) (H : Hp) (hs : s.length ≤ 4294967280) : Ret prog cs0 m 124 [str s, str [c]] H (.tup [str (cutAt s c).1, str (cutAt s c).2.1, .v (.bool (cutAt s c).2.2)]) H := by
  unfold Ret
  rw [WC_drop rfl func124 rfl rfl]
  by_cases h : c ∈ s
  · obtain ⟨h1, h2, h3⟩ := idb_at s c h
    obtain ⟨k, hk⟩ : ∃ k, k = (s.takeWhile (· != c)).length := ⟨_, rfl⟩
    rw [← hk] at h1 h2 h3
    obtain ⟨j, hj, hw⟩ := upJ h2 (by omega)
    have hjs : j ≤ s.length := by omega
    have hks : k ≤ s.length := by omega
    simp [f124, (w113 _ _ _ _).wc, h1]
    rw [W_draw _ _ _ _ _ _ followsT (by rfl)]
    simp [len_str underlying9, slice_str underlying9, hw, hjs, hks, cutAt, h, ← hk, ← hj, h3]
  · simp [f124, (w113 _ _ _ _).wc, idb_no s c h, cutAt, h]
theorem w92 (m : Nat) (s : Bs) (c : UInt8) (H : Hp) (hs : s.length ≤ 4294967280) : Ret prog cs0 m 111 [str s, str [c]] H (.tup [str (cutAt s c).1, str (cutAt s c).2.1, .v (.bool (cutAt s c).2.2)]) H := by
  unfold Ret
  rw [WC_drop rfl func111 rfl rfl]
  simp [f111, (w107 _ _ _ _ hs).wc, dExtract]
/-- The last place of a byte. -/
def LastAt (s : Bs) (c : UInt8) (r : Int) : Prop := (r = -1 ∧ c ∉ s) ∨ ∃ k : Nat, r = k ∧ s[k]? = some c ∧ c ∉ s.drop (k + 1)
theorem w109 (m : Nat) (s : Bs) (c : UInt8) (H : Hp) (hs : s.length ≤ 4294967280) : ∃ r, LastAt s c r ∧ Ret prog cs0 m 123 [str s, .v (.int .u8 c.toNat)] H (.v (.int .i64 r)) H := by
  suffices hsuf : WC prog cs0 m (.f 123) [str s, .v (.int .u8 c.toNat)] H fun y H' => H' = H ∧ ∃ r, LastAt s c r ∧ y = .v (.int .i64 r) by
    obtain ⟨k, ⟨y, H'⟩, h1, h2, r, h3, h4⟩ := hsuf
    simp only at h2 h4
    subst h2 h4
    exact ⟨r, h3, k, _, h1, rfl, rfl⟩
  rw [WC_drop rfl func123 rfl rfl]
  have hw0 : IntKind.i64.wrap ((s.length : Int) - 1) = (s.length : Int) - 1 := wrap64 (by omega)
  simp [f123, len_str underlying9, hw0]
  refine W_rounds (fun j fr H' => H' = H ∧ j ≤ s.length ∧ fr 0 = str s ∧ fr 1 = .v (.int .u8 c.toNat) ∧ fr 5 = .v (.int .i64 ((j : Int) - 1)) ∧ c ∉ s.drop j) ?_ s.length _ _ (by simp)
  rintro j fr H' ⟨rfl, hj, a0, a1, a5, hk⟩
  cases j with
  | zero =>
    simp [a0, a1, a5]
    exact .inl ⟨rfl, by simpa using hk⟩
  | succ j =>
    have hlt : j < s.length := by omega
    have hw : IntKind.i64.wrap ((j : Int) - 1) = (j : Int) - 1 := wrap64 (by omega)
    have hd := List.drop_eq_getElem_cons hlt
    have a5' : fr 5 = .v (.int .i64 (j : Int)) := by rw [a5]; congr 2; omega
    simp [a0, a1, a5', index_str underlying9, hlt, hw]
    split
    · rename_i h
      have h' : s[j] = c := UInt8.toNat_inj.1 (by exact_mod_cast h)
      exact .inr ⟨j, rfl, by rw [List.getElem?_eq_getElem hlt, h'], hk⟩
    · rename_i h
      refine ⟨j, by omega, by omega, rfl, ?_⟩
      rw [hd]
      intro hm
      rcases List.mem_cons.1 hm with hm | hm
      · exact h (by rw [hm])
      · exact hk hm
theorem w98 (m : Nat) (s : Bs) (c : UInt8) (H : Hp) (hs : s.length ≤ 4294967280) : ∃ r, LastAt s c r ∧ Ret prog cs0 m 109 [str s, .v (.int .u8 c.toNat)] H (.v (.int .i64 r)) H := by
  obtain ⟨r, h1, h2⟩ := w109 H.length s c H hs
  refine ⟨r, h1, ?_⟩
  unfold Ret
  rw [WC_drop rfl func109 rfl rfl]
  simp [f109, h2.wc]
theorem w35 (m : Nat) (x : CV) (a : Bs) (H : Hp) (hx : RB H x a) (ha : a.length ≤ 4294967280) : ∃ r, CB r a ∧ Ret prog cs0 m 21 [x] H r H := by
  have ux := hx.unl
  by_cases h : x = nilC
  · subst h
    have : a = [] := by
      rcases hx with h | ⟨rfl, _⟩ | ⟨_, _, _, _, h, _⟩
      · cases h
      · rfl
      · cases h
    subst this
    refine ⟨nilC, .inr ⟨rfl, rfl, rfl⟩, ?_⟩
    unfold Ret
    rw [WC_drop rfl func21 rfl rfl]
    simp [f21, eqnil_nil underlying23]
  · have ha0 : AccB H (H ++ [.cells 0 [] 5]) (.sl H.length 0 0 0 1) [] 5 := .inr ⟨rfl, 0, rfl, rfl⟩
    have hap : ∀ y, apQ H.length (.sl H.length 0 0 0 1) y = true := ha0.ap (Nat.le_refl _)
    obtain ⟨x2, H2, h1, h2⟩ := AccB.append' (tx := 23) (l' := a) underlying23 iT5 zT5 sT5 bT5 ha0 (RB.src underlying23 (hx.app _)) (by simp; omega)
    obtain ⟨y, h3, h4⟩ := h2.frzV (Nat.le_refl _) (u8s_clB _)
    refine ⟨y, h4, ?_⟩
    unfold Ret
    rw [WC_drop rfl func21 rfl rfl]
    have hq := hx.eqnil underlying23 h
    have u2 := h2.unl
    simp [f21, ux, hq, mkB0 underlying23 iT5 zT5 sT5, h1, u2, h3, h2.take]
end Go.Proofs.Tryz

/- Walks: lines that are yielded. -/
namespace Go.Proofs.Tryz
open Go Go.SL
set_option linter.unusedVariables false
set_option linter.unusedSimpArgs false

/-- The place of the first pair. -/
def crIdx (r : Bs) : Int := Lib.index r [13, 10]
/-- How long the first line is, its pair with it. -/
def lineN (r : Bs) : Nat := if crIdx r < 0 then r.length else (crIdx r).toNat + 2
theorem crIdx_room (r : Bs) (h : 0 ≤ crIdx r) : crIdx r + 2 ≤ r.length := Lib.index_room r [13, 10] h
theorem lineN_le (r : Bs) : lineN r ≤ r.length := by
  unfold lineN
  split
  · exact Nat.le_refl _
  · have := crIdx_room r (by omega); omega
theorem lineN_pos {r : Bs} (h : r ≠ []) : 0 < lineN r := by
  unfold lineN
  split
  · exact List.length_pos_iff.2 h
  · omega
theorem bytesOf_u8s (l : Bs) : Lib.bytesOf (l.map fun b => (b.toNat : Int)) = l := by
  induction l with
  | nil => rfl
  | cons b l ih =>
    have e : UInt8.ofNat ((b.toNat : Int)).toNat = b := by simp
    simp only [List.map_cons, Lib.bytesOf, List.map_map] at ih ⊢
    rw [ih, e]
theorem cvt_l2 {P : Program} {mu : Bool} {s e : TypeId} (h1 : P.underlying s = some (.slice e)) (h2 : P.underlying e = some (.int .u8)) (cs : List CV) (len sz : Nat) (H : Hp) : cvt P mu s s (.lit cs len sz) H = some (.im cs len sz, H) := by
  simp [cvt, dConv, dB2B, h1, h2, isU8]
@[simp] theorem unlit_yl (id ver : Nat) : unlit (.yl id ver) = .yl id ver := (rfl)
@[simp] theorem evO_nilF (fr : Fr) : evO fr (.const .nilFunc) = some (.v .nilFunc) := (rfl)
theorem range_u8 (l : Bs) : ∀ n ∈ l.map (fun b => (b.toNat : Int)), 0 ≤ n ∧ n < 256 := by
  intro n hn
  obtain ⟨b, _, rfl⟩ := List.mem_map.1 hn
  have := b.toNat_lt
  exact ⟨by omega, by omega⟩
variable [LayerC]
theorem w90 (m : Nat) (x : CV) (a : Bs) (H : Hp) (hx : RB H x a) (ha : a.length ≤ 4294967280) : Ret prog cs0 m 81 [x, .im (u8s [13, 10]) 2 1] H (.v (.int .i64 (crIdx a))) H := by
  unfold Ret
  rw [WC_prim (p := idxP) rfl]
  have h2 : atS H (.im (u8s [13, 10]) 2 1) = some (u8s [13, 10], 2) := rfl
  refine ⟨_, by simp only [idxP, hx.atS, h2, Option.bind_some, numsOf_u8s, List.length_map]; rw [if_pos ⟨trivial, by simp, ha, by simp, range_u8 a, range_u8 _⟩], ?_, rfl⟩
  simp only [bytesOf_u8s, crIdx]

theorem w63 (m : Nat) (x : CV) (H : Hp) (hx : oneB x = true) (hu : unlit x = x) (hc : cvCells x = some [x]) : Ret prog cs0 m 56 [x] H (.fn (.func 80) [] [.ptr H.length 0 0]) (H ++ [.cells 0 [x] 23]) := by
  unfold Ret
  rw [WC_raw rfl func56 rfl rfl]
  simp -implicitDefEqProofs [f56, hu, hc]

/-- The lines, yielded one by one. -/
theorem w93 (m id ver bx : Nat) (x : CV) (l : Bs) (J : Nat → Hp → Prop) (D : Hp → Prop) (hl : l.length ≤ 4294967280)
    (hbox : ∀ p H, J p H → cellsAt H bx 0 = some [x] ∧ RB H x l)
    (hround : ∀ p H y, J p H → p < l.length → y = cutC x p (p + lineN (l.drop p)) → RB H y ((l.drop p).take (lineN (l.drop p))) → WC prog cs0 m (.y id ver) [.v (.int .i64 p), y] H fun r H' => (r = .v (.bool true) ∧ J (p + lineN (l.drop p)) H') ∨ (r = .v (.bool false) ∧ D H'))
    (H : Hp) (h0 : J 0 H) : WC prog cs0 m (.f 80) [.yl id ver, .ptr bx 0 0] H fun _ H' => J l.length H' ∨ D H' := by
  rw [WC_raw rfl func80 rfl rfl]
  simp -implicitDefEqProofs [f80]
  obtain ⟨I, hI⟩ : ∃ I : Nat → Fr → Hp → Prop, ∀ j fr H', I j fr H' ↔ ∃ p, j = l.length - p ∧ p ≤ l.length ∧ fr 0 = .yl id ver ∧ fr 1 = .ptr bx 0 0 ∧ fr 3 = .v (.int .i64 (p : Nat)) ∧ J p H' := ⟨_, fun _ _ _ => Iff.rfl⟩
  refine W_rounds I ?_ _ _ _ ((hI _ _ _).2 ⟨0, rfl, by omega, by simp, by simp, by simp, h0⟩)
  intro j fr H' hi
  obtain ⟨p, rfl, hp, a0, a1, a3, hJ⟩ := (hI _ _ _).1 hi
  obtain ⟨hb, hrb⟩ := hbox p H' hJ
  have hu := hrb.unl
  have hlen := hrb.len (P := prog) underlying23
  by_cases hlt : p < l.length
  case neg =>
    obtain rfl : p = l.length := by omega
    simp -implicitDefEqProofs [a1, a3, load_one underlying23 rfl iT23, hb, hlen]
    exact .inl hJ
  have hcut := hrb.cut hp (Nat.le_refl _)
  rw [List.take_length] at hcut
  have huc := hcut.unl
  have hsl := hrb.slice (P := prog) underlying23 iT5 sT5
  have c90 : ∀ m K, WC prog cs0 m (.f 81) [cutC x p l.length, .im [.v (.int .u8 13), .v (.int .u8 10)] 2 1] H' K ↔ K (.v (.int .i64 (crIdx (l.drop p)))) H' := fun m => (w90 m _ _ H' hcut (by simp; omega)).wc
  have hne : l.drop p ≠ [] := by intro h; have := congrArg List.length h; simp at this; omega
  have hn1 := lineN_le (l.drop p)
  have hn2 := lineN_pos hne
  obtain ⟨n, hn⟩ : ∃ n, n = lineN (l.drop p) := ⟨_, rfl⟩
  rw [List.length_drop] at hn1
  obtain ⟨k, hk⟩ : ∃ k, k = p + n := ⟨_, rfl⟩
  rw [← hn] at hn1 hn2
  have hline := hrb.cut (o := p) (h := k) (by omega) (by omega)
  have huL := hline.unl
  have hle : (l.take k).drop p = (l.drop p).take n := by rw [List.drop_take, show k - p = n by omega]
  rw [hle] at hline
  have hr := hround p H' _ hJ hlt (by rw [← hn, ← hk]) (by rw [← hn]; exact hline)
  rw [← hn] at hr
  by_cases hc : crIdx (l.drop p) < 0
  · have hkl : k = l.length := by rw [hk, hn]; unfold lineN; rw [if_pos hc, List.length_drop]; omega
    rw [hkl] at hline huL hr
    simp -implicitDefEqProofs [a0, a1, a3, load_one underlying23 rfl iT23, hb, hlen, hlt, hsl, hp, huc, mkB2 underlying23 underlying5 iT5 zT5 sT5, cvt_l2 underlying23 underlying5, c90, hc, huL]
    rw [hkl] at hk
    refine WC_mono hr ?_
    rintro r H'' (⟨rfl, hJ'⟩ | ⟨rfl, hD⟩)
    · simp -implicitDefEqProofs
      exact ⟨0, by omega, (hI _ _ _).2 ⟨l.length, by omega, by omega, by simp [a0], by simp [a1], by simp, by rw [hk]; exact hJ'⟩⟩
    · simp -implicitDefEqProofs
      exact .inr hD
  · have hn0 : crIdx (l.drop p) = ((n - 2 : Nat) : Int) := by
      have : n = (crIdx (l.drop p)).toNat + 2 := by rw [hn]; unfold lineN; rw [if_neg hc]
      omega
    have hn2' : 2 ≤ n := by rw [hn]; unfold lineN; rw [if_neg hc]; omega
    obtain ⟨q, hq⟩ : ∃ q, q = n - 2 := ⟨_, rfl⟩
    rw [← hq] at hn0
    obtain ⟨w, hw⟩ : ∃ w, w = p + q := ⟨_, rfl⟩
    have hw1 : IntKind.i64.wrap ((p : Int) + (q : Int)) = (w : Int) := wrN (by omega) (by omega)
    have hw2 : IntKind.i64.wrap ((w : Int) + 2) = (k : Int) := wrN (by omega) (by omega)
    have hpk : p ≤ k := by omega
    have hkl : k ≤ l.length := by omega
    simp -implicitDefEqProofs [a0, a1, a3, load_one underlying23 rfl iT23, hb, hlen, hlt, hsl, hp, huc, mkB2 underlying23 underlying5 iT5 zT5 sT5, cvt_l2 underlying23 underlying5, c90, hn0, hw1, hw2, hpk, hkl, huL]
    refine WC_mono hr ?_
    rintro r H'' (⟨rfl, hJ'⟩ | ⟨rfl, hD⟩)
    · simp -implicitDefEqProofs
      exact ⟨l.length - k, by omega, (hI _ _ _).2 ⟨k, rfl, hkl, by simp [a0], by simp [a1], by simp, by rw [hk]; exact hJ'⟩⟩
    · simp -implicitDefEqProofs
      exact .inr hD
end Go.Proofs.Tryz

/- Walks: does a line begin with a text? -/
namespace Go.Proofs.Tryz
open Go Go.SL
set_option linter.unusedVariables false
set_option linter.unusedSimpArgs false

/-- Lines, each with its pair. -/
def linesS (r : Bs) : List Bs :=
  if h : r = [] then [] else r.take (lineN r) :: linesS (r.drop (lineN r))
termination_by r.length
decreasing_by
  have := lineN_pos h
  have := List.length_pos_iff.2 h
  simp; omega
theorem linesS_nil : linesS [] = [] := by rw [linesS]; simp
theorem linesS_cons {r : Bs} (h : r ≠ []) : linesS r = r.take (lineN r) :: linesS (r.drop (lineN r)) := by rw [linesS]; simp [h]
/-- Does a line begin with a text? -/
def begL (l t : Bs) : Prop := ∃ x ∈ linesS l, t <+: x
instance (l t : Bs) : Decidable (begL l t) := by unfold begL; infer_instance

theorem W_range2 {x : Cx} {f : Operand} {ps : Array Tmp} {a b : Code} {fr : Fr} {H : Hp} {Q : Ex → Fr → Hp → Prop} (g : FuncId) (cs : List CV) (hr : x.cfg.inR = false) (hf : evO fr f = some (.fn (.func g) [] cs)) (hb : ((x.P.funcs[g]?).bind (·.body)).isSome = true)
    (h : ∀ (ts : List CV) (A B : Code), A = a → B = b → ts.length = x.n → (∀ t, t < x.n → ts[t]? = some (fr t)) → WC x.P x.cs x.m (.f g) (.yl H.length 0 :: cs) (H ++ [.loop 0 x.cfg.fn ts ps A B .ready none]) fun _ HH => WX (afterR H.length HH) fun r => Q r.1 fr r.2) :
    W x (.rangeFunc f ps a b) fr H Q := by
  rw [W_range x f ps a b fr H Q hr hf hb]
  exact h _ _ _ rfl rfl (by simp) (fun t ht => by simp [ht])
theorem RB.of_cells {H H' : Hp} {x : CV} {l : Bs} (h : RB H x l) (hc : ∀ id ver cs, cellsAt H id ver = some cs → cellsAt H' id ver = some cs) : RB H' x l := by
  rcases h with h | h | ⟨id, ver, off, cs, h1, h2, h3, h4⟩
  · exact .inl h
  · exact .inr (.inl h)
  · exact .inr (.inr ⟨id, ver, off, cs, h1, hc _ _ _ h2, h3, h4⟩)
theorem cells_last {X : Hp} {v fn : Nat} {ts : List CV} {ps : Array Tmp} {a b : Code} {st : LoopState} {pe : Option Code} {id ver : Nat} {cs : List CV} (o : CO) (h : cellsAt (X ++ [.loop v fn ts ps a b st pe]) id ver = some cs) : cellsAt (X ++ [o]) id ver = some cs := by
  have hl := cellsAt_lt h
  simp at hl
  by_cases e : id = X.length
  · subst e; simp [cellsAt] at h
  · rw [at_old (by omega)] at h ⊢; exact h
theorem begL_step {r t : Bs} (h : r ≠ []) (hn : ¬ t <+: r.take (lineN r)) : begL r t ↔ begL (r.drop (lineN r)) t := by
  unfold begL
  rw [linesS_cons h]
  simp [hn]
theorem begL_hit {r t : Bs} (h : r ≠ []) (hn : t <+: r.take (lineN r)) : begL r t := ⟨_, by rw [linesS_cons h]; exact List.mem_cons_self, hn⟩
variable [LayerC]
theorem w42 (m : Nat) (x : CV) (l t : Bs) (H : Hp) (hx : RB H x l) (hl : l.length ≤ 4294967280) (ht : t.length ≤ 4294967280) : Ret prog cs0 m 35 [x, str t] H (.v (.bool (decide (begL l t)))) H := by
  unfold Ret
  rw [WC_drop rfl func35 rfl rfl]
  have ux := hx.unl
  have c63 := fun m L => (w63 m x (H ++ L) hx.one ux hx.cells).wc
  simp -implicitDefEqProofs [f35, aQ, dAlloc, ux, c63]
  refine W_range2 80 [.ptr (H.length + 2) 0 0] rfl (by simp) (by rw [func80]; rfl) ?_
  intro ts A B hA hB hn hts
  have hn : ts.length = 15 := hn
  have ts3 : ts[3]? = some (.ptr H.length 0 0) := by simpa using hts 3 (show 3 < 15 by decide)
  have ts4 : ts[4]? = some (.ptr (H.length + 1) 0 0) := by simpa using hts 4 (show 4 < 15 by decide)
  clear hts
  refine WC_mono (w93 _ _ _ (H.length + 2) x l (fun p H' => H' = H ++ [CO.cells 0 [str t] 9, CO.cells 0 [CV.v (.bool false)] 4, CO.cells 0 [x] 23] ++ [CO.loop 0 35 ts #[9, 10] A B .ready none] ∧ p ≤ l.length ∧ (begL l t ↔ begL (l.drop p) t)) (fun H' => H' = H ++ [CO.cells 0 [str t] 9, CO.cells 0 [CV.v (.bool true)] 4, CO.cells 0 [x] 23] ++ [CO.loop 0 35 ts #[9, 10] A B .done (some .ret)] ∧ begL l t) hl ?_ ?_ _ ⟨rfl, by omega, by simp⟩) ?_
  · rintro p H' ⟨rfl, _⟩
    refine ⟨by simp, ?_⟩
    rw [List.append_assoc]; exact hx.app _
  · rintro p H' y ⟨rfl, hp, hb⟩ hlt _ hy
    have hid : (H ++ [CO.cells 0 [str t] 9, CO.cells 0 [CV.v (.bool false)] 4, CO.cells 0 [x] 23] ++ [CO.loop 0 35 ts #[9, 10] A B .ready none])[(H ++ [CO.cells 0 [str t] 9, CO.cells 0 [CV.v (.bool false)] 4, CO.cells 0 [x] 23]).length]? = some (.loop 0 35 ts #[9, 10] A B .ready none) := by simp
    rw [WC_round hid (by rfl), hn, hA, hB]
    have hy1 := hy.unl
    have r3 : ∀ a b, roundFr ts #[9, 10] [a, b] 3 = .ptr H.length 0 0 := fun a b => by simp [roundFr, ts3]
    have r4 : ∀ a b, roundFr ts #[9, 10] [a, b] 4 = .ptr (H.length + 1) 0 0 := fun a b => by simp [roundFr, ts4]
    have r10 : ∀ a b, roundFr ts #[9, 10] [a, b] 10 = b := fun a b => by simp [roundFr, hn]
    simp -implicitDefEqProofs [r3, r4, r10, hy1, busyR, load_one underlying9 rfl iT9, cvt_s2b' underlying9 underlying23 underlying5]
    have hne : l.drop p ≠ [] := by intro h; have := congrArg List.length h; simp at this; omega
    have hlen : ((l.drop p).take (lineN (l.drop p))).length ≤ 4294967280 := by simp; omega
    have c75 : ∀ m st pe a b K, WC prog cs0 m (.f 57) [y, byt t] (H ++ [CO.cells 0 [str t] 9, CO.cells 0 [CV.v (.bool false)] 4, CO.cells 0 [x] 23, CO.loop 0 35 ts #[9, 10] a b st pe]) K ↔ K (.v (.bool (decide (t <+: (l.drop p).take (lineN (l.drop p)))))) (H ++ [CO.cells 0 [str t] 9, CO.cells 0 [CV.v (.bool false)] 4, CO.cells 0 [x] 23, CO.loop 0 35 ts #[9, 10] a b st pe]) := fun m st pe a b K => by
      have h1 : RB (H ++ [CO.cells 0 [str t] 9, CO.cells 0 [CV.v (.bool false)] 4, CO.cells 0 [x] 23, CO.loop 0 35 ts #[9, 10] a b st pe]) y ((l.drop p).take (lineN (l.drop p))) := by
        have := RB.of_cells hy (fun id ver cs h => cells_last (CO.loop 0 35 ts #[9, 10] a b st pe) h)
        simpa using this
      exact (w75 m _ y (byt t) _ t h1 (RB.byt _ _)).wc K
    by_cases hpre : t <+: (l.drop p).take (lineN (l.drop p))
    · simp -implicitDefEqProofs [c75, hpre, doneR, store_at iT4, Ex.jump]
      rw [hb]; exact begL_hit hne hpre
    · have hn1 := lineN_le (l.drop p)
      rw [List.length_drop] at hn1
      have hst := begL_step hne hpre
      rw [List.drop_drop] at hst
      simp -implicitDefEqProofs [c75, hpre, doneR, store_at iT4, Ex.jump]
      exact ⟨by omega, hb.trans hst⟩
  · rintro r H' (⟨rfl, _, hb⟩ | ⟨rfl, hb⟩)
    · have : ¬ begL l t := by rw [hb, List.drop_length]; simp [begL, linesS_nil]
      simp -implicitDefEqProofs [afterR, jumpEx, store_at iT4, load_one underlying4 rfl iT4, this]
    · simp -implicitDefEqProofs [afterR, jumpEx, load_one underlying4 rfl iT4, hb]
end Go.Proofs.Tryz

/- Walks: borders' lines. -/
namespace Go.Proofs.Tryz
open Go Go.SL
set_option linter.unusedVariables false
set_option linter.unusedSimpArgs false

def dash2 : Bs := [45, 45]
def crlf : Bs := [13, 10]
/-- What a border's line is: 1, the last one 2, none 0; `cutF` takes an end off. -/
def edgeG (cutF : Bs → Bs) (r b : Bs) : Nat :=
  if dash2 ++ b <+: r then
    (if (cutF (behind (behind r (dash2 ++ b)) dash2)).all blankC then (if dash2 <+: behind r (dash2 ++ b) then 2 else 1) else 0)
  else 0
def edgeP (r b : Bs) : Nat := edgeG (fun x => ahead x crlf) r b
def edgeC (r b : Bs) : Nat := edgeG id r b
theorem behind_len (a b : Bs) : (behind a b).length ≤ a.length := by unfold behind; split <;> simp
theorem ahead_len (a b : Bs) : (ahead a b).length ≤ a.length := by unfold ahead; split <;> simp
theorem take_allB {s : Bs} {i : Nat} (h : (s.take i).all blankC = true) (hi : i < s.length) (hc : blankC s[i] = true) : (s.take (i + 1)).all blankC = true := by
  rw [take_snoc hi, List.all_append, h]; simp [hc]
theorem all_noB {s : Bs} {i : Nat} (hi : i < s.length) (hc : blankC s[i] = false) : s.all blankC = false := by
  rw [List.all_eq_false]; exact ⟨_, List.getElem_mem hi, by simp [hc]⟩
variable [LayerC]
theorem w64 (m : Nat) (x : CV) (l b : Bs) (H : Hp) (hx : RB H x l) (hl : l.length ≤ 4294967280) (hb : b.length ≤ 4294967200) : Ret prog cs0 m 90 [x, str b] H (.v (.int .i64 (edgeP l b))) H := by
  unfold Ret
  rw [WC_drop rfl func90 rfl rfl]
  have ux := hx.unl
  have hbb : 2 + b.length ≤ 9223372036854775807 := by omega
  obtain ⟨r1, h1, k1⟩ := w94 H.length x (byt (dash2 ++ b)) l (dash2 ++ b) H hx (RB.byt _ _)
  obtain ⟨r2, h2, k2⟩ := w94 H.length r1 (byt dash2) _ dash2 H h1 (RB.byt _ _)
  have hl1 := behind_len l (dash2 ++ b)
  have hl2 := behind_len (behind l (dash2 ++ b)) dash2
  obtain ⟨r3, h3, k3⟩ := w95 H.length r2 (byt crlf) _ crlf H h2 (RB.byt _ _) (by omega)
  have hl3 := ahead_len (behind (behind l (dash2 ++ b)) dash2) crlf
  have u1 := h1.unl
  have u2 := h2.unl
  have u3 := h3.unl
  have e1 : ∀ K, WC prog cs0 H.length (.f 112) [x, byt (45 :: 45 :: b)] H K ↔ K (.tup [r1, .v (.bool (decide (dash2 ++ b <+: l)))]) H := k1.wc
  have e2 : ∀ K, WC prog cs0 H.length (.f 112) [r1, .im [.v (.int .u8 45), .v (.int .u8 45)] 2 1] H K ↔ K (.tup [r2, .v (.bool (decide (dash2 <+: behind l (dash2 ++ b))))]) H := k2.wc
  have e3 : ∀ K, WC prog cs0 H.length (.f 113) [r2, .im [.v (.int .u8 13), .v (.int .u8 10)] 2 1] H K ↔ K (.tup [r3, .v (.bool (decide (crlf <:+ behind (behind l (dash2 ++ b)) dash2)))]) H := k3.wc
  by_cases hp : dash2 ++ b <+: l
  case neg =>
    simp -implicitDefEqProofs [f90, ux, hbb, cvt_s2b' underlying9 underlying23 underlying5, e1, dExtract, hp, edgeP, edgeG]
  generalize hz : ahead (behind (behind l (dash2 ++ b)) dash2) crlf = z at h3 hl3
  have hed : edgeP l b = if z.all blankC then (if dash2 <+: behind l (dash2 ++ b) then 2 else 1) else 0 := by unfold edgeP edgeG; rw [if_pos hp]; simp only [hz]
  have hz3 := h3.len (P := prog) underlying23
  simp -implicitDefEqProofs [f90, ux, hbb, cvt_s2b' underlying9 underlying23 underlying5, e1, dExtract, hp, u1, u2, u3, mkB2 underlying23 underlying5 iT5 zT5 sT5, cvt_l2 underlying23 underlying5, e2, e3, hz3]
  refine W_up z.length (fun i fr H' => H' = H ∧ fr 7 = .v (.bool (decide (dash2 <+: behind l (dash2 ++ b)))) ∧ fr 34 = r3 ∧ fr 35 = .v (.int .i64 z.length) ∧ fr 36 = .v (.int .i64 i) ∧ (z.take i).all blankC = true) ?_ 0 _ _ (by omega) (by simp)
  rintro i fr H' hi ⟨rfl, a7, a34, a35, a36, hk⟩
  by_cases hlt : i < z.length
  · have hw := up64 hlt (by omega)
    have had := h3.addr (P := prog) underlying23 iT5 sT5 .i64 i
    have hld := h3.load (P := prog) underlying5 rfl iT5 i hlt
    have hbl := blankC_iff z[i]
    by_cases hc : blankC z[i] = true
    · have hy := take_allB hk hlt hc
      rcases hbl.1 hc with h | h
      · simp -implicitDefEqProofs [a7, a34, a35, a36, hlt, hw, had, hld, h]; simpa using hy
      · simp -implicitDefEqProofs [a7, a34, a35, a36, hlt, hw, had, hld, h]; simpa using hy
    · have hc' : blankC z[i] = false := by simpa using hc
      have hno := all_noB hlt hc'
      have n1 : ¬ z[i].toNat = 32 := fun h => hc (hbl.2 (.inl h))
      have n2 : ¬ z[i].toNat = 9 := fun h => hc (hbl.2 (.inr h))
      simp -implicitDefEqProofs [a7, a34, a35, a36, hlt, hw, had, hld, n1, n2, hed, hno]
  · obtain rfl : i = z.length := by omega
    rw [List.take_length] at hk
    by_cases hd : dash2 <+: behind l (dash2 ++ b)
    · simp -implicitDefEqProofs [a7, a34, a35, a36, hed, hk, hd]
    · simp -implicitDefEqProofs [a7, a34, a35, a36, hed, hk, hd]

end Go.Proofs.Tryz

/- Walks: kinds. -/
namespace Go.Proofs.Tryz
open Go Go.SL
set_option linter.unusedVariables false
set_option linter.unusedSimpArgs false
variable [LayerC]

/-- A parameter; a kind. -/
structure Par where
  n : Bs
  v : Bs
deriving DecidableEq
def Par.c (p : Par) : List CV := [str p.n, str p.v]
structure Kd where
  t : Bs
  s : Bs
  ps : List Par
theorem parCh (l : List Par) : Chunks (l.map Par.c) 2 := by
  intro c hc; obtain ⟨p, _, rfl⟩ := List.mem_map.1 hc; rfl

theorem w33 (m : Nat) (k : Kd) (q : CV) (s : Bs) (H : Hp) (hq : oneB q = true) (hb : k.t.length + k.s.length ≤ 4294967280) : Ret prog cs0 m 32 [.agg [str k.t, str k.s, q], str s] H (.v (.bool (decide (k.t ++ 47 :: k.s = s)))) H := by
  unfold Ret
  rw [WC_drop rfl func32 rfl rfl]
  have h1 : k.t.length ≤ 9223372036854775806 := by omega
  have h2 : k.t.length + (k.s.length + 1) ≤ 9223372036854775807 := by omega
  have h3 : k.t.length + 1 + k.s.length ≤ 9223372036854775807 := by omega
  simp [f32, cells_agg, hq, faddr_ptr, underlying55, load_one underlying9 rfl iT9, h1, h2, h3]

/-- The first parameter of a name. -/
def kget (ps : List Par) (n : Bs) : Option Bs := (ps.find? fun p => p.n == n).map Par.v
theorem kget_hit {ps : List Par} {n : Bs} {i : Nat} (h : ∀ p ∈ ps.take i, p.n ≠ n) (hi : i < ps.length) (hn : ps[i].n = n) : kget ps n = some ps[i].v := by
  have : ps = ps.take i ++ ps[i] :: ps.drop (i + 1) := by rw [← List.drop_eq_getElem_cons hi, List.take_append_drop]
  have e : ps.find? (fun p => p.n == n) = (ps.take i ++ ps[i] :: ps.drop (i + 1)).find? (fun p => p.n == n) := congrArg _ this
  unfold kget
  rw [e, List.find?_append, List.find?_eq_none.2 (by simpa using h)]
  simp [hn, -List.getElem_cons_drop]
theorem kget_no {ps : List Par} {n : Bs} (h : ∀ p ∈ ps, p.n ≠ n) : kget ps n = none := by
  unfold kget
  rw [List.find?_eq_none.2 (by simpa using h)]; rfl
def kgetV (ps : List Par) (n : Bs) : CV := .tup [str ((kget ps n).getD []), .v (.bool (kget ps n).isSome)]

theorem w62 (m : Nat) (t s : Bs) (ps : List Par) (q : CV) (n : Bs) (H : Hp) (hq : RS H q (ps.map Par.c) 2) (hb : ps.length ≤ 4294967280) : Ret prog cs0 m 86 [.agg [str t, str s, q], str n] H (kgetV ps n) H := by
  unfold Ret
  rw [WC_drop rfl func86 rfl rfl]
  have hq1 := hq.app [.cells 0 [str t, str s, q] 55]
  simp [f86, cells_agg, hq.one, faddr_ptr, underlying55, load_one underlying53 rfl iT53, hq1.len underlying53]
  refine W_up ps.length (fun i fr H' => (∃ L, H' = H ++ L) ∧ fr 1 = str n ∧ fr 9 = q ∧ fr 10 = .v (.int .i64 ps.length) ∧ fr 11 = .v (.int .i64 i) ∧ ∀ p ∈ ps.take i, p.n ≠ n) ?_ 0 _ _ (by omega) (by simp)
  rintro i fr H' hi ⟨⟨L, rfl⟩, a1, a9, a10, a11, hk⟩
  have hq2 := hq.app L
  by_cases hlt : i < ps.length
  · have hw := up64 hlt (by omega)
    have hlt2 : i < (ps.map Par.c).length := by simpa using hlt
    have hy := take_all hk hlt
    have hl := hq2.loadAgg (P := prog) underlying109 rfl iT109 sT109 hlt2
    have e1 : (ps.map Par.c)[i] = [str ps[i].n, str ps[i].v] := by simp [Par.c]
    rw [e1] at hl
    simp [a1, a9, a10, a11, hlt, hw, hq2.addr underlying53 iT109 sT109, hl, aQ, dAlloc, store_at iT109, cells_agg, faddr_ptr, underlying109, load_one underlying9 rfl iT9]
    split
    · rename_i h; simp [kgetV, kget_hit hk hlt h]
    · rename_i h; exact hy h
  · obtain rfl : i = ps.length := by omega
    rw [List.take_length] at hk
    simp [a1, a9, a10, a11, kgetV, kget_no hk]
end Go.Proofs.Tryz
