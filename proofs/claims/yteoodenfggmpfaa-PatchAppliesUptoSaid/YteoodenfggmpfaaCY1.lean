/- Facts on types, printed by types.py. -/
import Derived.Test.YteoodenfggmpfaaFd
import Derived.Test.YteoodenfggmpfaaProg
import Derived.KernelRfl
namespace Go.AW
open Proofs
theorem tok_3 : tok Try.prog 3 = true := by kernel_rfl
theorem tsz_3 : tsz Try.prog 3 = 1 := by kernel_rfl
theorem tby_3 : tby Try.prog 3 = 8 := by kernel_rfl
theorem tagg_3 : tagg Try.prog 3 = some false := by kernel_rfl
theorem telem_3 : telem Try.prog 3 = none := by kernel_rfl
theorem tarr_3 : tarr Try.prog 3 = none := by kernel_rfl
theorem tflds_3 : tflds Try.prog 3 = none := by kernel_rfl
theorem tlenk_3 : tlenk Try.prog 3 = none := by kernel_rfl
theorem tmap_3 : tmap Try.prog 3 = none := by kernel_rfl
theorem tstr_3 : tstr Try.prog 3 = false := by kernel_rfl
theorem tbytes_3 : tbytes Try.prog 3 = false := by kernel_rfl
theorem tguard_3 : tguard Try.prog 3 = false := by kernel_rfl
theorem tkt_3 : tkt Try.prog 3 = some (KT.intK IntKind.i64) := by kernel_rfl
theorem tz_3 : tz Try.prog 3 = some [Value.int IntKind.i64 0] := by kernel_rfl
theorem tisint_3 : tisint Try.prog 3 = some true := by kernel_rfl
theorem tzok_3 : tzok Try.prog 3 = true := by kernel_rfl
theorem tint_3 : tint Try.prog 3 = some IntKind.i64 := by kernel_rfl
theorem tok_4 : tok Try.prog 4 = true := by kernel_rfl
theorem tsz_4 : tsz Try.prog 4 = 1 := by kernel_rfl
theorem tby_4 : tby Try.prog 4 = 1 := by kernel_rfl
theorem tagg_4 : tagg Try.prog 4 = some false := by kernel_rfl
theorem telem_4 : telem Try.prog 4 = none := by kernel_rfl
theorem tarr_4 : tarr Try.prog 4 = none := by kernel_rfl
theorem tflds_4 : tflds Try.prog 4 = none := by kernel_rfl
theorem tlenk_4 : tlenk Try.prog 4 = none := by kernel_rfl
theorem tmap_4 : tmap Try.prog 4 = none := by kernel_rfl
theorem tstr_4 : tstr Try.prog 4 = false := by kernel_rfl
theorem tbytes_4 : tbytes Try.prog 4 = false := by kernel_rfl
theorem tguard_4 : tguard Try.prog 4 = false := by kernel_rfl
theorem tkt_4 : tkt Try.prog 4 = some KT.boolK := by kernel_rfl
theorem tz_4 : tz Try.prog 4 = some [Value.bool false] := by kernel_rfl
theorem tisint_4 : tisint Try.prog 4 = some false := by kernel_rfl
theorem tzok_4 : tzok Try.prog 4 = true := by kernel_rfl
theorem tint_4 : tint Try.prog 4 = none := by kernel_rfl
theorem tok_5 : tok Try.prog 5 = true := by kernel_rfl
theorem tsz_5 : tsz Try.prog 5 = 1 := by kernel_rfl
theorem tby_5 : tby Try.prog 5 = 1 := by kernel_rfl
theorem tagg_5 : tagg Try.prog 5 = some false := by kernel_rfl
theorem telem_5 : telem Try.prog 5 = none := by kernel_rfl
theorem tarr_5 : tarr Try.prog 5 = none := by kernel_rfl
theorem tflds_5 : tflds Try.prog 5 = none := by kernel_rfl
theorem tlenk_5 : tlenk Try.prog 5 = none := by kernel_rfl
theorem tmap_5 : tmap Try.prog 5 = none := by kernel_rfl
theorem tstr_5 : tstr Try.prog 5 = false := by kernel_rfl
theorem tbytes_5 : tbytes Try.prog 5 = false := by kernel_rfl
theorem tguard_5 : tguard Try.prog 5 = false := by kernel_rfl
theorem tkt_5 : tkt Try.prog 5 = some (KT.intK IntKind.u8) := by kernel_rfl
theorem tz_5 : tz Try.prog 5 = some [Value.int IntKind.u8 0] := by kernel_rfl
theorem tisint_5 : tisint Try.prog 5 = some true := by kernel_rfl
theorem tzok_5 : tzok Try.prog 5 = true := by kernel_rfl
theorem tint_5 : tint Try.prog 5 = some IntKind.u8 := by kernel_rfl
theorem tok_9 : tok Try.prog 9 = true := by kernel_rfl
theorem tsz_9 : tsz Try.prog 9 = 1 := by kernel_rfl
theorem tby_9 : tby Try.prog 9 = 16 := by kernel_rfl
theorem tagg_9 : tagg Try.prog 9 = some false := by kernel_rfl
theorem telem_9 : telem Try.prog 9 = none := by kernel_rfl
theorem tarr_9 : tarr Try.prog 9 = none := by kernel_rfl
theorem tflds_9 : tflds Try.prog 9 = none := by kernel_rfl
theorem tlenk_9 : tlenk Try.prog 9 = some 1 := by kernel_rfl
theorem tmap_9 : tmap Try.prog 9 = none := by kernel_rfl
theorem tstr_9 : tstr Try.prog 9 = true := by kernel_rfl
theorem tbytes_9 : tbytes Try.prog 9 = false := by kernel_rfl
theorem tguard_9 : tguard Try.prog 9 = false := by kernel_rfl
theorem tkt_9 : tkt Try.prog 9 = some KT.strK := by kernel_rfl
theorem tz_9 : tz Try.prog 9 = some [Value.string ByteArray.empty] := by kernel_rfl
theorem tisint_9 : tisint Try.prog 9 = some false := by kernel_rfl
theorem tzok_9 : tzok Try.prog 9 = true := by kernel_rfl
theorem tint_9 : tint Try.prog 9 = none := by kernel_rfl
theorem tok_22 : tok Try.prog 22 = true := by kernel_rfl
theorem tsz_22 : tsz Try.prog 22 = 1 := by kernel_rfl
theorem tby_22 : tby Try.prog 22 = 24 := by kernel_rfl
theorem tagg_22 : tagg Try.prog 22 = some false := by kernel_rfl
theorem telem_22 : telem Try.prog 22 = some 40 := by kernel_rfl
theorem tarr_22 : tarr Try.prog 22 = none := by kernel_rfl
theorem tflds_22 : tflds Try.prog 22 = none := by kernel_rfl
theorem tlenk_22 : tlenk Try.prog 22 = some 0 := by kernel_rfl
theorem tmap_22 : tmap Try.prog 22 = none := by kernel_rfl
theorem tstr_22 : tstr Try.prog 22 = false := by kernel_rfl
theorem tbytes_22 : tbytes Try.prog 22 = false := by kernel_rfl
theorem tguard_22 : tguard Try.prog 22 = false := by kernel_rfl
theorem tkt_22 : tkt Try.prog 22 = none := by kernel_rfl
theorem tz_22 : tz Try.prog 22 = some [Value.slice none 0 0] := by kernel_rfl
theorem tisint_22 : tisint Try.prog 22 = some false := by kernel_rfl
theorem tzok_22 : tzok Try.prog 22 = true := by kernel_rfl
theorem tint_22 : tint Try.prog 22 = none := by kernel_rfl
theorem tok_23 : tok Try.prog 23 = true := by kernel_rfl
theorem tsz_23 : tsz Try.prog 23 = 1 := by kernel_rfl
theorem tby_23 : tby Try.prog 23 = 24 := by kernel_rfl
theorem tagg_23 : tagg Try.prog 23 = some false := by kernel_rfl
theorem telem_23 : telem Try.prog 23 = some 55 := by kernel_rfl
theorem tarr_23 : tarr Try.prog 23 = none := by kernel_rfl
theorem tflds_23 : tflds Try.prog 23 = none := by kernel_rfl
theorem tlenk_23 : tlenk Try.prog 23 = some 0 := by kernel_rfl
theorem tmap_23 : tmap Try.prog 23 = none := by kernel_rfl
theorem tstr_23 : tstr Try.prog 23 = false := by kernel_rfl
theorem tbytes_23 : tbytes Try.prog 23 = false := by kernel_rfl
theorem tguard_23 : tguard Try.prog 23 = false := by kernel_rfl
theorem tkt_23 : tkt Try.prog 23 = none := by kernel_rfl
theorem tz_23 : tz Try.prog 23 = some [Value.slice none 0 0] := by kernel_rfl
theorem tisint_23 : tisint Try.prog 23 = some false := by kernel_rfl
theorem tzok_23 : tzok Try.prog 23 = true := by kernel_rfl
theorem tint_23 : tint Try.prog 23 = none := by kernel_rfl
theorem tok_24 : tok Try.prog 24 = true := by kernel_rfl
theorem tsz_24 : tsz Try.prog 24 = 1 := by kernel_rfl
theorem tby_24 : tby Try.prog 24 = 24 := by kernel_rfl
theorem tagg_24 : tagg Try.prog 24 = some false := by kernel_rfl
theorem telem_24 : telem Try.prog 24 = some 57 := by kernel_rfl
theorem tarr_24 : tarr Try.prog 24 = none := by kernel_rfl
theorem tflds_24 : tflds Try.prog 24 = none := by kernel_rfl
theorem tlenk_24 : tlenk Try.prog 24 = some 0 := by kernel_rfl
theorem tmap_24 : tmap Try.prog 24 = none := by kernel_rfl
theorem tstr_24 : tstr Try.prog 24 = false := by kernel_rfl
theorem tbytes_24 : tbytes Try.prog 24 = false := by kernel_rfl
theorem tguard_24 : tguard Try.prog 24 = false := by kernel_rfl
theorem tkt_24 : tkt Try.prog 24 = none := by kernel_rfl
theorem tz_24 : tz Try.prog 24 = some [Value.slice none 0 0] := by kernel_rfl
theorem tisint_24 : tisint Try.prog 24 = some false := by kernel_rfl
theorem tzok_24 : tzok Try.prog 24 = true := by kernel_rfl
theorem tint_24 : tint Try.prog 24 = none := by kernel_rfl
theorem tok_26 : tok Try.prog 26 = true := by kernel_rfl
theorem tsz_26 : tsz Try.prog 26 = 3 := by kernel_rfl
theorem tby_26 : tby Try.prog 26 = 72 := by kernel_rfl
theorem tagg_26 : tagg Try.prog 26 = some true := by kernel_rfl
theorem telem_26 : telem Try.prog 26 = none := by kernel_rfl
theorem tarr_26 : tarr Try.prog 26 = none := by kernel_rfl
theorem tflds_26 : tflds Try.prog 26 = some [(0, 22), (1, 23), (2, 24)] := by kernel_rfl
theorem tlenk_26 : tlenk Try.prog 26 = none := by kernel_rfl
theorem tmap_26 : tmap Try.prog 26 = none := by kernel_rfl
theorem tstr_26 : tstr Try.prog 26 = false := by kernel_rfl
theorem tbytes_26 : tbytes Try.prog 26 = false := by kernel_rfl
theorem tguard_26 : tguard Try.prog 26 = false := by kernel_rfl
theorem tkt_26 : tkt Try.prog 26 = none := by kernel_rfl
theorem tz_26 : tz Try.prog 26 = some [Value.slice none 0 0, Value.slice none 0 0, Value.slice none 0 0] := by kernel_rfl
theorem tisint_26 : tisint Try.prog 26 = some false := by kernel_rfl
theorem tzok_26 : tzok Try.prog 26 = true := by kernel_rfl
theorem tint_26 : tint Try.prog 26 = none := by kernel_rfl
theorem tok_27 : tok Try.prog 27 = true := by kernel_rfl
theorem tsz_27 : tsz Try.prog 27 = 1 := by kernel_rfl
theorem tby_27 : tby Try.prog 27 = 24 := by kernel_rfl
theorem tagg_27 : tagg Try.prog 27 = some false := by kernel_rfl
theorem telem_27 : telem Try.prog 27 = some 46 := by kernel_rfl
theorem tarr_27 : tarr Try.prog 27 = none := by kernel_rfl
theorem tflds_27 : tflds Try.prog 27 = none := by kernel_rfl
theorem tlenk_27 : tlenk Try.prog 27 = some 0 := by kernel_rfl
theorem tmap_27 : tmap Try.prog 27 = none := by kernel_rfl
theorem tstr_27 : tstr Try.prog 27 = false := by kernel_rfl
theorem tbytes_27 : tbytes Try.prog 27 = false := by kernel_rfl
theorem tguard_27 : tguard Try.prog 27 = false := by kernel_rfl
theorem tkt_27 : tkt Try.prog 27 = none := by kernel_rfl
theorem tz_27 : tz Try.prog 27 = some [Value.slice none 0 0] := by kernel_rfl
theorem tisint_27 : tisint Try.prog 27 = some false := by kernel_rfl
theorem tzok_27 : tzok Try.prog 27 = true := by kernel_rfl
theorem tint_27 : tint Try.prog 27 = none := by kernel_rfl
theorem tok_30 : tok Try.prog 30 = true := by kernel_rfl
theorem tsz_30 : tsz Try.prog 30 = 1 := by kernel_rfl
theorem tby_30 : tby Try.prog 30 = 8 := by kernel_rfl
theorem tagg_30 : tagg Try.prog 30 = some false := by kernel_rfl
theorem telem_30 : telem Try.prog 30 = none := by kernel_rfl
theorem tarr_30 : tarr Try.prog 30 = none := by kernel_rfl
theorem tflds_30 : tflds Try.prog 30 = none := by kernel_rfl
theorem tlenk_30 : tlenk Try.prog 30 = none := by kernel_rfl
theorem tmap_30 : tmap Try.prog 30 = none := by kernel_rfl
theorem tstr_30 : tstr Try.prog 30 = false := by kernel_rfl
theorem tbytes_30 : tbytes Try.prog 30 = false := by kernel_rfl
theorem tguard_30 : tguard Try.prog 30 = false := by kernel_rfl
theorem tkt_30 : tkt Try.prog 30 = some (KT.intK IntKind.i64) := by kernel_rfl
theorem tz_30 : tz Try.prog 30 = some [Value.int IntKind.i64 0] := by kernel_rfl
theorem tisint_30 : tisint Try.prog 30 = some true := by kernel_rfl
theorem tzok_30 : tzok Try.prog 30 = true := by kernel_rfl
theorem tint_30 : tint Try.prog 30 = some IntKind.i64 := by kernel_rfl
theorem tok_38 : tok Try.prog 38 = true := by kernel_rfl
theorem tsz_38 : tsz Try.prog 38 = 1 := by kernel_rfl
theorem tby_38 : tby Try.prog 38 = 24 := by kernel_rfl
theorem tagg_38 : tagg Try.prog 38 = some false := by kernel_rfl
theorem telem_38 : telem Try.prog 38 = some 9 := by kernel_rfl
theorem tarr_38 : tarr Try.prog 38 = none := by kernel_rfl
theorem tflds_38 : tflds Try.prog 38 = none := by kernel_rfl
theorem tlenk_38 : tlenk Try.prog 38 = some 0 := by kernel_rfl
theorem tmap_38 : tmap Try.prog 38 = none := by kernel_rfl
theorem tstr_38 : tstr Try.prog 38 = false := by kernel_rfl
theorem tbytes_38 : tbytes Try.prog 38 = false := by kernel_rfl
theorem tguard_38 : tguard Try.prog 38 = false := by kernel_rfl
theorem tkt_38 : tkt Try.prog 38 = none := by kernel_rfl
theorem tz_38 : tz Try.prog 38 = some [Value.slice none 0 0] := by kernel_rfl
theorem tisint_38 : tisint Try.prog 38 = some false := by kernel_rfl
theorem tzok_38 : tzok Try.prog 38 = true := by kernel_rfl
theorem tint_38 : tint Try.prog 38 = none := by kernel_rfl
theorem tok_40 : tok Try.prog 40 = true := by kernel_rfl
theorem tsz_40 : tsz Try.prog 40 = 2 := by kernel_rfl
theorem tby_40 : tby Try.prog 40 = 40 := by kernel_rfl
theorem tagg_40 : tagg Try.prog 40 = some true := by kernel_rfl
theorem telem_40 : telem Try.prog 40 = none := by kernel_rfl
theorem tarr_40 : tarr Try.prog 40 = none := by kernel_rfl
theorem tflds_40 : tflds Try.prog 40 = some [(0, 9), (1, 38)] := by kernel_rfl
theorem tlenk_40 : tlenk Try.prog 40 = none := by kernel_rfl
theorem tmap_40 : tmap Try.prog 40 = none := by kernel_rfl
theorem tstr_40 : tstr Try.prog 40 = false := by kernel_rfl
theorem tbytes_40 : tbytes Try.prog 40 = false := by kernel_rfl
theorem tguard_40 : tguard Try.prog 40 = false := by kernel_rfl
theorem tkt_40 : tkt Try.prog 40 = none := by kernel_rfl
theorem tz_40 : tz Try.prog 40 = some [Value.string ByteArray.empty, Value.slice none 0 0] := by kernel_rfl
theorem tisint_40 : tisint Try.prog 40 = some false := by kernel_rfl
theorem tzok_40 : tzok Try.prog 40 = true := by kernel_rfl
theorem tint_40 : tint Try.prog 40 = none := by kernel_rfl
theorem tok_44 : tok Try.prog 44 = true := by kernel_rfl
theorem tsz_44 : tsz Try.prog 44 = 1 := by kernel_rfl
theorem tby_44 : tby Try.prog 44 = 24 := by kernel_rfl
theorem tagg_44 : tagg Try.prog 44 = some false := by kernel_rfl
theorem telem_44 : telem Try.prog 44 = some 74 := by kernel_rfl
theorem tarr_44 : tarr Try.prog 44 = none := by kernel_rfl
theorem tflds_44 : tflds Try.prog 44 = none := by kernel_rfl
theorem tlenk_44 : tlenk Try.prog 44 = some 0 := by kernel_rfl
theorem tmap_44 : tmap Try.prog 44 = none := by kernel_rfl
theorem tstr_44 : tstr Try.prog 44 = false := by kernel_rfl
theorem tbytes_44 : tbytes Try.prog 44 = false := by kernel_rfl
theorem tguard_44 : tguard Try.prog 44 = false := by kernel_rfl
theorem tkt_44 : tkt Try.prog 44 = none := by kernel_rfl
theorem tz_44 : tz Try.prog 44 = some [Value.slice none 0 0] := by kernel_rfl
theorem tisint_44 : tisint Try.prog 44 = some false := by kernel_rfl
theorem tzok_44 : tzok Try.prog 44 = true := by kernel_rfl
theorem tint_44 : tint Try.prog 44 = none := by kernel_rfl
theorem tok_46 : tok Try.prog 46 = true := by kernel_rfl
theorem tsz_46 : tsz Try.prog 46 = 9 := by kernel_rfl
theorem tby_46 : tby Try.prog 46 = 120 := by kernel_rfl
theorem tagg_46 : tagg Try.prog 46 = some true := by kernel_rfl
theorem telem_46 : telem Try.prog 46 = none := by kernel_rfl
theorem tarr_46 : tarr Try.prog 46 = none := by kernel_rfl
theorem tflds_46 : tflds Try.prog 46 = some [(0, 3), (1, 9), (2, 38), (3, 3), (4, 4), (5, 3), (6, 3), (7, 9), (8, 44)] := by kernel_rfl
theorem tlenk_46 : tlenk Try.prog 46 = none := by kernel_rfl
theorem tmap_46 : tmap Try.prog 46 = none := by kernel_rfl
theorem tstr_46 : tstr Try.prog 46 = false := by kernel_rfl
theorem tbytes_46 : tbytes Try.prog 46 = false := by kernel_rfl
theorem tguard_46 : tguard Try.prog 46 = false := by kernel_rfl
theorem tkt_46 : tkt Try.prog 46 = none := by kernel_rfl
theorem tz_46 : tz Try.prog 46 = some   [Value.int IntKind.i64 0, Value.string ByteArray.empty, Value.slice none 0 0,     Value.int IntKind.i64 0, Value.bool false, Value.int IntKind.i64 0,     Value.int IntKind.i64 0, Value.string ByteArray.empty, Value.slice none 0 0] := by kernel_rfl
theorem tisint_46 : tisint Try.prog 46 = some false := by kernel_rfl
theorem tzok_46 : tzok Try.prog 46 = true := by kernel_rfl
theorem tint_46 : tint Try.prog 46 = none := by kernel_rfl
theorem tok_48 : tok Try.prog 48 = true := by kernel_rfl
theorem tsz_48 : tsz Try.prog 48 = 1 := by kernel_rfl
theorem tby_48 : tby Try.prog 48 = 8 := by kernel_rfl
theorem tagg_48 : tagg Try.prog 48 = some false := by kernel_rfl
theorem telem_48 : telem Try.prog 48 = none := by kernel_rfl
theorem tarr_48 : tarr Try.prog 48 = none := by kernel_rfl
theorem tflds_48 : tflds Try.prog 48 = none := by kernel_rfl
theorem tlenk_48 : tlenk Try.prog 48 = some 2 := by kernel_rfl
theorem tmap_48 : tmap Try.prog 48 = some (9, 38) := by kernel_rfl
theorem tstr_48 : tstr Try.prog 48 = false := by kernel_rfl
theorem tbytes_48 : tbytes Try.prog 48 = false := by kernel_rfl
theorem tguard_48 : tguard Try.prog 48 = false := by kernel_rfl
theorem tkt_48 : tkt Try.prog 48 = none := by kernel_rfl
theorem tz_48 : tz Try.prog 48 = some [Value.map none] := by kernel_rfl
theorem tisint_48 : tisint Try.prog 48 = some false := by kernel_rfl
theorem tzok_48 : tzok Try.prog 48 = true := by kernel_rfl
theorem tint_48 : tint Try.prog 48 = none := by kernel_rfl
theorem tok_49 : tok Try.prog 49 = true := by kernel_rfl
theorem tsz_49 : tsz Try.prog 49 = 1 := by kernel_rfl
theorem tby_49 : tby Try.prog 49 = 8 := by kernel_rfl
theorem tagg_49 : tagg Try.prog 49 = some false := by kernel_rfl
theorem telem_49 : telem Try.prog 49 = none := by kernel_rfl
theorem tarr_49 : tarr Try.prog 49 = none := by kernel_rfl
theorem tflds_49 : tflds Try.prog 49 = none := by kernel_rfl
theorem tlenk_49 : tlenk Try.prog 49 = some 2 := by kernel_rfl
theorem tmap_49 : tmap Try.prog 49 = some (9, 3) := by kernel_rfl
theorem tstr_49 : tstr Try.prog 49 = false := by kernel_rfl
theorem tbytes_49 : tbytes Try.prog 49 = false := by kernel_rfl
theorem tguard_49 : tguard Try.prog 49 = false := by kernel_rfl
theorem tkt_49 : tkt Try.prog 49 = none := by kernel_rfl
theorem tz_49 : tz Try.prog 49 = some [Value.map none] := by kernel_rfl
theorem tisint_49 : tisint Try.prog 49 = some false := by kernel_rfl
theorem tzok_49 : tzok Try.prog 49 = true := by kernel_rfl
theorem tint_49 : tint Try.prog 49 = none := by kernel_rfl
theorem tok_50 : tok Try.prog 50 = true := by kernel_rfl
theorem tsz_50 : tsz Try.prog 50 = 1 := by kernel_rfl
theorem tby_50 : tby Try.prog 50 = 8 := by kernel_rfl
theorem tagg_50 : tagg Try.prog 50 = some false := by kernel_rfl
theorem telem_50 : telem Try.prog 50 = none := by kernel_rfl
theorem tarr_50 : tarr Try.prog 50 = none := by kernel_rfl
theorem tflds_50 : tflds Try.prog 50 = none := by kernel_rfl
theorem tlenk_50 : tlenk Try.prog 50 = some 2 := by kernel_rfl
theorem tmap_50 : tmap Try.prog 50 = some (9, 9) := by kernel_rfl
theorem tstr_50 : tstr Try.prog 50 = false := by kernel_rfl
theorem tbytes_50 : tbytes Try.prog 50 = false := by kernel_rfl
theorem tguard_50 : tguard Try.prog 50 = false := by kernel_rfl
theorem tkt_50 : tkt Try.prog 50 = none := by kernel_rfl
theorem tz_50 : tz Try.prog 50 = some [Value.map none] := by kernel_rfl
theorem tisint_50 : tisint Try.prog 50 = some false := by kernel_rfl
theorem tzok_50 : tzok Try.prog 50 = true := by kernel_rfl
theorem tint_50 : tint Try.prog 50 = none := by kernel_rfl
theorem tok_52 : tok Try.prog 52 = true := by kernel_rfl
theorem tsz_52 : tsz Try.prog 52 = 3 := by kernel_rfl
theorem tby_52 : tby Try.prog 52 = 24 := by kernel_rfl
theorem tagg_52 : tagg Try.prog 52 = some true := by kernel_rfl
theorem telem_52 : telem Try.prog 52 = none := by kernel_rfl
theorem tarr_52 : tarr Try.prog 52 = none := by kernel_rfl
theorem tflds_52 : tflds Try.prog 52 = some [(0, 48), (1, 49), (2, 50)] := by kernel_rfl
theorem tlenk_52 : tlenk Try.prog 52 = none := by kernel_rfl
theorem tmap_52 : tmap Try.prog 52 = none := by kernel_rfl
theorem tstr_52 : tstr Try.prog 52 = false := by kernel_rfl
theorem tbytes_52 : tbytes Try.prog 52 = false := by kernel_rfl
theorem tguard_52 : tguard Try.prog 52 = false := by kernel_rfl
theorem tkt_52 : tkt Try.prog 52 = none := by kernel_rfl
theorem tz_52 : tz Try.prog 52 = some [Value.map none, Value.map none, Value.map none] := by kernel_rfl
theorem tisint_52 : tisint Try.prog 52 = some false := by kernel_rfl
theorem tzok_52 : tzok Try.prog 52 = true := by kernel_rfl
theorem tint_52 : tint Try.prog 52 = none := by kernel_rfl
theorem tok_55 : tok Try.prog 55 = true := by kernel_rfl
theorem tsz_55 : tsz Try.prog 55 = 2 := by kernel_rfl
theorem tby_55 : tby Try.prog 55 = 24 := by kernel_rfl
theorem tagg_55 : tagg Try.prog 55 = some true := by kernel_rfl
theorem telem_55 : telem Try.prog 55 = none := by kernel_rfl
theorem tarr_55 : tarr Try.prog 55 = none := by kernel_rfl
theorem tflds_55 : tflds Try.prog 55 = some [(0, 9), (1, 3)] := by kernel_rfl
theorem tlenk_55 : tlenk Try.prog 55 = none := by kernel_rfl
theorem tmap_55 : tmap Try.prog 55 = none := by kernel_rfl
theorem tstr_55 : tstr Try.prog 55 = false := by kernel_rfl
theorem tbytes_55 : tbytes Try.prog 55 = false := by kernel_rfl
theorem tguard_55 : tguard Try.prog 55 = false := by kernel_rfl
theorem tkt_55 : tkt Try.prog 55 = none := by kernel_rfl
theorem tz_55 : tz Try.prog 55 = some [Value.string ByteArray.empty, Value.int IntKind.i64 0] := by kernel_rfl
theorem tisint_55 : tisint Try.prog 55 = some false := by kernel_rfl
theorem tzok_55 : tzok Try.prog 55 = true := by kernel_rfl
theorem tint_55 : tint Try.prog 55 = none := by kernel_rfl
theorem tok_57 : tok Try.prog 57 = true := by kernel_rfl
theorem tsz_57 : tsz Try.prog 57 = 2 := by kernel_rfl
theorem tby_57 : tby Try.prog 57 = 32 := by kernel_rfl
theorem tagg_57 : tagg Try.prog 57 = some true := by kernel_rfl
theorem telem_57 : telem Try.prog 57 = none := by kernel_rfl
theorem tarr_57 : tarr Try.prog 57 = none := by kernel_rfl
theorem tflds_57 : tflds Try.prog 57 = some [(0, 9), (1, 9)] := by kernel_rfl
theorem tlenk_57 : tlenk Try.prog 57 = none := by kernel_rfl
theorem tmap_57 : tmap Try.prog 57 = none := by kernel_rfl
theorem tstr_57 : tstr Try.prog 57 = false := by kernel_rfl
theorem tbytes_57 : tbytes Try.prog 57 = false := by kernel_rfl
theorem tguard_57 : tguard Try.prog 57 = false := by kernel_rfl
theorem tkt_57 : tkt Try.prog 57 = none := by kernel_rfl
theorem tz_57 : tz Try.prog 57 = some [Value.string ByteArray.empty, Value.string ByteArray.empty] := by kernel_rfl
theorem tisint_57 : tisint Try.prog 57 = some false := by kernel_rfl
theorem tzok_57 : tzok Try.prog 57 = true := by kernel_rfl
theorem tint_57 : tint Try.prog 57 = none := by kernel_rfl
theorem tok_74 : tok Try.prog 74 = true := by kernel_rfl
theorem tsz_74 : tsz Try.prog 74 = 32 := by kernel_rfl
theorem tby_74 : tby Try.prog 74 = 32 := by kernel_rfl
theorem tagg_74 : tagg Try.prog 74 = some true := by kernel_rfl
theorem telem_74 : telem Try.prog 74 = none := by kernel_rfl
theorem tarr_74 : tarr Try.prog 74 = some (32, 5) := by kernel_rfl
theorem tflds_74 : tflds Try.prog 74 = none := by kernel_rfl
theorem tlenk_74 : tlenk Try.prog 74 = none := by kernel_rfl
theorem tmap_74 : tmap Try.prog 74 = none := by kernel_rfl
theorem tstr_74 : tstr Try.prog 74 = false := by kernel_rfl
theorem tbytes_74 : tbytes Try.prog 74 = false := by kernel_rfl
theorem tguard_74 : tguard Try.prog 74 = false := by kernel_rfl
theorem tkt_74 : tkt Try.prog 74 = some (KT.arrK 32 IntKind.u8) := by kernel_rfl
theorem tz_74 : tz Try.prog 74 = some   [Value.int IntKind.u8 0, Value.int IntKind.u8 0, Value.int IntKind.u8 0,     Value.int IntKind.u8 0, Value.int IntKind.u8 0, Value.int IntKind.u8 0,     Value.int IntKind.u8 0, Value.int IntKind.u8 0, Value.int IntKind.u8 0,     Value.int IntKind.u8 0, Value.int IntKind.u8 0, Value.int IntKind.u8 0,     Value.int IntKind.u8 0, Value.int IntKind.u8 0, Value.int IntKind.u8 0,     Value.int IntKind.u8 0, Value.int IntKind.u8 0, Value.int IntKind.u8 0,     Value.int IntKind.u8 0, Value.int IntKind.u8 0, Value.int IntKind.u8 0,     Value.int IntKind.u8 0, Value.int IntKind.u8 0, Value.int IntKind.u8 0,     Value.int IntKind.u8 0, Value.int IntKind.u8 0, Value.int IntKind.u8 0,     Value.int IntKind.u8 0, Value.int IntKind.u8 0, Value.int IntKind.u8 0,     Value.int IntKind.u8 0, Value.int IntKind.u8 0] := by kernel_rfl
theorem tisint_74 : tisint Try.prog 74 = some false := by kernel_rfl
theorem tzok_74 : tzok Try.prog 74 = true := by kernel_rfl
theorem tint_74 : tint Try.prog 74 = none := by kernel_rfl
theorem tok_75 : tok Try.prog 75 = true := by kernel_rfl
theorem tsz_75 : tsz Try.prog 75 = 1 := by kernel_rfl
theorem tby_75 : tby Try.prog 75 = 8 := by kernel_rfl
theorem tagg_75 : tagg Try.prog 75 = some false := by kernel_rfl
theorem telem_75 : telem Try.prog 75 = none := by kernel_rfl
theorem tarr_75 : tarr Try.prog 75 = none := by kernel_rfl
theorem tflds_75 : tflds Try.prog 75 = none := by kernel_rfl
theorem tlenk_75 : tlenk Try.prog 75 = none := by kernel_rfl
theorem tmap_75 : tmap Try.prog 75 = none := by kernel_rfl
theorem tstr_75 : tstr Try.prog 75 = false := by kernel_rfl
theorem tbytes_75 : tbytes Try.prog 75 = false := by kernel_rfl
theorem tguard_75 : tguard Try.prog 75 = false := by kernel_rfl
theorem tkt_75 : tkt Try.prog 75 = none := by kernel_rfl
theorem tz_75 : tz Try.prog 75 = some [Value.nilFunc] := by kernel_rfl
theorem tisint_75 : tisint Try.prog 75 = some false := by kernel_rfl
theorem tzok_75 : tzok Try.prog 75 = true := by kernel_rfl
theorem tint_75 : tint Try.prog 75 = none := by kernel_rfl
theorem fol : (Try.prog).follows .mixedOrders = true := by kernel_rfl
attribute [push_cast] tok_3 tsz_3 tby_3 tagg_3 telem_3 tarr_3 tflds_3 tlenk_3 tmap_3 tstr_3 tbytes_3 tguard_3 tkt_3 tz_3 tisint_3 tzok_3 tint_3 tok_4 tsz_4 tby_4 tagg_4 telem_4 tarr_4 tflds_4 tlenk_4 tmap_4 tstr_4 tbytes_4 tguard_4 tkt_4 tz_4 tisint_4 tzok_4 tint_4 tok_5 tsz_5 tby_5 tagg_5 telem_5 tarr_5 tflds_5 tlenk_5 tmap_5 tstr_5 tbytes_5 tguard_5 tkt_5 tz_5 tisint_5 tzok_5 tint_5 tok_9 tsz_9 tby_9 tagg_9 telem_9 tarr_9 tflds_9 tlenk_9 tmap_9 tstr_9 tbytes_9 tguard_9 tkt_9 tz_9 tisint_9 tzok_9 tint_9 tok_22 tsz_22 tby_22 tagg_22 telem_22 tarr_22 tflds_22 tlenk_22 tmap_22 tstr_22 tbytes_22 tguard_22 tkt_22 tz_22 tisint_22 tzok_22 tint_22 tok_23 tsz_23 tby_23 tagg_23 telem_23 tarr_23 tflds_23 tlenk_23 tmap_23 tstr_23 tbytes_23 tguard_23 tkt_23 tz_23 tisint_23 tzok_23 tint_23 tok_24 tsz_24 tby_24 tagg_24 telem_24 tarr_24 tflds_24 tlenk_24 tmap_24 tstr_24 tbytes_24 tguard_24 tkt_24 tz_24 tisint_24 tzok_24 tint_24 tok_26 tsz_26 tby_26 tagg_26 telem_26 tarr_26 tflds_26 tlenk_26 tmap_26 tstr_26 tbytes_26 tguard_26 tkt_26 tz_26 tisint_26 tzok_26 tint_26 tok_27 tsz_27 tby_27 tagg_27 telem_27 tarr_27 tflds_27 tlenk_27 tmap_27 tstr_27 tbytes_27 tguard_27 tkt_27 tz_27 tisint_27 tzok_27 tint_27 tok_30 tsz_30 tby_30 tagg_30 telem_30 tarr_30 tflds_30 tlenk_30 tmap_30 tstr_30 tbytes_30 tguard_30 tkt_30 tz_30 tisint_30 tzok_30 tint_30 tok_38 tsz_38 tby_38 tagg_38 telem_38 tarr_38 tflds_38 tlenk_38 tmap_38 tstr_38 tbytes_38 tguard_38 tkt_38 tz_38 tisint_38 tzok_38 tint_38 tok_40 tsz_40 tby_40 tagg_40 telem_40 tarr_40 tflds_40 tlenk_40 tmap_40 tstr_40 tbytes_40 tguard_40 tkt_40 tz_40 tisint_40 tzok_40 tint_40 tok_44 tsz_44 tby_44 tagg_44 telem_44 tarr_44 tflds_44 tlenk_44 tmap_44 tstr_44 tbytes_44 tguard_44 tkt_44 tz_44 tisint_44 tzok_44 tint_44 tok_46 tsz_46 tby_46 tagg_46 telem_46 tarr_46 tflds_46 tlenk_46 tmap_46 tstr_46 tbytes_46 tguard_46 tkt_46 tz_46 tisint_46 tzok_46 tint_46 tok_48 tsz_48 tby_48 tagg_48 telem_48 tarr_48 tflds_48 tlenk_48 tmap_48 tstr_48 tbytes_48 tguard_48 tkt_48 tz_48 tisint_48 tzok_48 tint_48 tok_49 tsz_49 tby_49 tagg_49 telem_49 tarr_49 tflds_49 tlenk_49 tmap_49 tstr_49 tbytes_49 tguard_49 tkt_49 tz_49 tisint_49 tzok_49 tint_49 tok_50 tsz_50 tby_50 tagg_50 telem_50 tarr_50 tflds_50 tlenk_50 tmap_50 tstr_50 tbytes_50 tguard_50 tkt_50 tz_50 tisint_50 tzok_50 tint_50 tok_52 tsz_52 tby_52 tagg_52 telem_52 tarr_52 tflds_52 tlenk_52 tmap_52 tstr_52 tbytes_52 tguard_52 tkt_52 tz_52 tisint_52 tzok_52 tint_52 tok_55 tsz_55 tby_55 tagg_55 telem_55 tarr_55 tflds_55 tlenk_55 tmap_55 tstr_55 tbytes_55 tguard_55 tkt_55 tz_55 tisint_55 tzok_55 tint_55 tok_57 tsz_57 tby_57 tagg_57 telem_57 tarr_57 tflds_57 tlenk_57 tmap_57 tstr_57 tbytes_57 tguard_57 tkt_57 tz_57 tisint_57 tzok_57 tint_57 tok_74 tsz_74 tby_74 tagg_74 telem_74 tarr_74 tflds_74 tlenk_74 tmap_74 tstr_74 tbytes_74 tguard_74 tkt_74 tz_74 tisint_74 tzok_74 tint_74 tok_75 tsz_75 tby_75 tagg_75 telem_75 tarr_75 tflds_75 tlenk_75 tmap_75 tstr_75 tbytes_75 tguard_75 tkt_75 tz_75 tisint_75 tzok_75 tint_75
end Go.AW
