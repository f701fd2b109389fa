import Derived.Test.YtallpbickepdbaaGreatDoorXlK0
import Derived.Test.YtallpbickepdbaaGreatDoorXlK1
import Derived.Test.YtallpbickepdbaaGreatDoorXlK2
import Derived.Test.YtallpbickepdbaaGreatDoorXlK3
import Derived.Test.YtallpbickepdbaaGreatDoorAb27
namespace Go.Proofs
open Go.Ab
set_option maxRecDepth 1000000
def Tryz.xr_r0 : Kn := ⟨8, [.agg [.isl 1 [.isl 1 [.int .i64 126], .sc (.slice none 0 0)], .isl 1 [.int .i64 (-1), .int .i64 0, .int .i64 1, .int .i64 0, .int .i64 0, .isl 9 [.int .i64 32, .int .i64 0, .int .u64 0, .int .i64 66, .int .i64 0, .int .u64 1, .int .i64 125, .int .i64 0, .int .u64 0, .int .i64 34, .int .i64 0, .int .u64 0, .int .i64 80, .int .i64 0, .int .u64 0, .int .i64 13, .int .i64 8, .int .u64 0, .int .i64 32, .int .i64 0, .int .u64 0, .int .i64 16, .int .i64 0, .int .u64 0, .int .i64 15, .int .i64 0, .int .u64 0], .sc (.slice none 0 0)]], .isl 1 [.sym .u64 (.var 0) 0 63 1], .sym .i64 (.var 2) 0 65535 0], (.tup [(.agg [(.int .i64 0), (.int .u32 0), .esl, (.sym .i64 (.var 2) 0 65535 0)]), (.iptr [(.isl 4 [(.int .u64 7), (.int .u64 1), (.int .u64 2), (.int .u64 9)]), (.isl 4 [(.int .i64 1), (.int .i64 0), (.int .i64 0), (.int .i64 0)]), (.isl 3 [(.int .i64 0), (.int .i64 1), (.int .i64 3)]), (.isl 6 [(.int .i64 0), (.int .i64 1), (.int .i64 2), (.int .i64 3), (.int .i64 (-1)), (.int .i64 (-1))]), (.isl 2 [(.sc (.slice none 0 0)), (.sc (.slice none 0 0)), .any, .any]), (.isl 1 [(.sc (.string ⟨#[104, 111, 115, 116]⟩)), (.sc (.string ⟨#[102]⟩)), (.int .i64 1)]), (.isl 3 [(.int .i64 0), (.int .i64 0), (.int .i64 0)]), (.isl 1 [(.int .i64 6), (.int .i64 (-1))]), (.isl 1 [(.int .i64 1), (.int .i64 2)]), (.isl 3 [(.int .i64 127), (.bool false), .any, (.int .i64 123), (.bool false), .any, (.int .i64 126), (.bool false), .any]), (.sc (.slice none 0 0)), (.int .i64 (-1)), (.isl 1 [.any, .any]), (.isl 3 [(.sc (.slice none 0 0)), .any, (.sc (.slice none 0 0)), .any, (.sc (.slice none 0 0)), .any]), (.sc (.slice none 0 0)), (.iptr [.any, (.int .i64 2)])])])⟩
def Tryz.xr_r1 : Kn := ⟨8, [.agg [.isl 1 [.isl 1 [.int .i64 126], .sc (.slice none 0 0)], .isl 1 [.int .i64 (-1), .int .i64 0, .int .i64 1, .int .i64 0, .int .i64 0, .isl 9 [.int .i64 32, .int .i64 0, .int .u64 0, .int .i64 66, .int .i64 0, .int .u64 1, .int .i64 125, .int .i64 0, .int .u64 0, .int .i64 34, .int .i64 0, .int .u64 0, .int .i64 80, .int .i64 0, .int .u64 0, .int .i64 13, .int .i64 8, .int .u64 0, .int .i64 32, .int .i64 0, .int .u64 0, .int .i64 16, .int .i64 0, .int .u64 0, .int .i64 15, .int .i64 0, .int .u64 0], .sc (.slice none 0 0)]], .isl 1 [.sym .u64 (.var 0) 64 69 1], .sym .i64 (.var 2) 0 65535 0], (.tup [(.agg [(.int .i64 26), (.int .u32 0), (.sc (.slice none 0 0)), (.sym .i64 (.var 2) 0 65535 0)]), (.iptr [(.isl 4 [(.int .u64 7), (.int .u64 1), (.int .u64 2), (.int .u64 9)]), (.isl 4 [(.int .i64 1), (.int .i64 0), (.int .i64 0), (.int .i64 0)]), (.isl 3 [(.int .i64 0), (.int .i64 1), (.int .i64 3)]), (.isl 6 [(.int .i64 0), (.int .i64 1), (.int .i64 2), (.int .i64 3), (.int .i64 (-1)), (.int .i64 (-1))]), (.isl 2 [(.sc (.slice none 0 0)), (.sc (.slice none 0 0)), .any, .any]), (.isl 1 [(.sc (.string ⟨#[104, 111, 115, 116]⟩)), (.sc (.string ⟨#[102]⟩)), (.int .i64 1)]), (.isl 3 [(.int .i64 0), (.int .i64 0), (.int .i64 0)]), (.isl 1 [(.int .i64 6), (.int .i64 (-1))]), (.isl 1 [(.int .i64 1), (.int .i64 2)]), (.isl 3 [(.int .i64 127), (.bool false), .any, (.int .i64 123), (.bool false), .any, (.int .i64 126), (.bool false), .any]), (.sc (.slice none 0 0)), (.int .i64 (-1)), (.isl 1 [.any, .any]), (.isl 3 [(.sc (.slice none 0 0)), .any, (.sc (.slice none 0 0)), .any, (.sc (.slice none 0 0)), .any]), (.sc (.slice none 0 0)), (.iptr [.any, (.int .i64 2)])])])⟩
def Tryz.xr_r2 : Kn := ⟨8, [.agg [.isl 1 [.isl 1 [.int .i64 126], .sc (.slice none 0 0)], .isl 1 [.int .i64 (-1), .int .i64 0, .int .i64 1, .int .i64 0, .int .i64 0, .isl 9 [.int .i64 32, .int .i64 0, .int .u64 0, .int .i64 66, .int .i64 0, .int .u64 1, .int .i64 125, .int .i64 0, .int .u64 0, .int .i64 34, .int .i64 0, .int .u64 0, .int .i64 80, .int .i64 0, .int .u64 0, .int .i64 13, .int .i64 8, .int .u64 0, .int .i64 32, .int .i64 0, .int .u64 0, .int .i64 16, .int .i64 0, .int .u64 0, .int .i64 15, .int .i64 0, .int .u64 0], .sc (.slice none 0 0)]], .isl 1 [.sym .u64 (.var 0) 70 133 (-69)], .sym .i64 (.var 2) 0 65535 0], (.tup [(.agg [(.int .i64 0), (.int .u32 0), .esl, (.sym .i64 (.var 2) 0 65535 0)]), (.iptr [(.isl 4 [(.int .u64 7), (.int .u64 1), (.int .u64 2), (.int .u64 9)]), (.isl 4 [(.int .i64 1), (.int .i64 0), (.int .i64 0), (.int .i64 0)]), (.isl 3 [(.int .i64 0), (.int .i64 1), (.int .i64 3)]), (.isl 6 [(.int .i64 0), (.int .i64 1), (.int .i64 2), (.int .i64 3), (.int .i64 (-1)), (.int .i64 (-1))]), (.isl 2 [(.sc (.slice none 0 0)), (.sc (.slice none 0 0)), .any, .any]), (.isl 1 [(.sc (.string ⟨#[104, 111, 115, 116]⟩)), (.sc (.string ⟨#[102]⟩)), (.int .i64 1)]), (.isl 3 [(.int .i64 0), (.int .i64 0), (.int .i64 0)]), (.isl 1 [(.int .i64 6), (.int .i64 (-1))]), (.isl 1 [(.int .i64 1), (.int .i64 2)]), (.isl 3 [(.int .i64 127), (.bool false), .any, (.int .i64 123), (.bool false), .any, (.int .i64 126), (.bool false), .any]), (.sc (.slice none 0 0)), (.int .i64 (-1)), (.isl 1 [.any, .any]), (.isl 3 [(.sc (.slice none 0 0)), .any, (.sc (.slice none 0 0)), .any, (.sc (.slice none 0 0)), .any]), (.sc (.slice none 0 0)), (.iptr [.any, (.int .i64 2)])])])⟩
def Tryz.xr_r3 : Kn := ⟨8, [.agg [.isl 1 [.isl 1 [.int .i64 126], .sc (.slice none 0 0)], .isl 1 [.int .i64 (-1), .int .i64 0, .int .i64 1, .int .i64 0, .int .i64 0, .isl 9 [.int .i64 32, .int .i64 0, .int .u64 0, .int .i64 66, .int .i64 0, .int .u64 1, .int .i64 125, .int .i64 0, .int .u64 0, .int .i64 34, .int .i64 0, .int .u64 0, .int .i64 80, .int .i64 0, .int .u64 0, .int .i64 13, .int .i64 8, .int .u64 0, .int .i64 32, .int .i64 0, .int .u64 0, .int .i64 16, .int .i64 0, .int .u64 0, .int .i64 15, .int .i64 0, .int .u64 0], .sc (.slice none 0 0)]], .isl 1 [.sym .u64 (.var 0) 134 139 (-69)], .sym .i64 (.var 2) 0 65535 0], (.tup [(.agg [(.int .i64 26), (.int .u32 0), (.sc (.slice none 0 0)), (.sym .i64 (.var 2) 0 65535 0)]), (.iptr [(.isl 4 [(.int .u64 7), (.int .u64 1), (.int .u64 2), (.int .u64 9)]), (.isl 4 [(.int .i64 1), (.int .i64 0), (.int .i64 0), (.int .i64 0)]), (.isl 3 [(.int .i64 0), (.int .i64 1), (.int .i64 3)]), (.isl 6 [(.int .i64 0), (.int .i64 1), (.int .i64 2), (.int .i64 3), (.int .i64 (-1)), (.int .i64 (-1))]), (.isl 2 [(.sc (.slice none 0 0)), (.sc (.slice none 0 0)), .any, .any]), (.isl 1 [(.sc (.string ⟨#[104, 111, 115, 116]⟩)), (.sc (.string ⟨#[102]⟩)), (.int .i64 1)]), (.isl 3 [(.int .i64 0), (.int .i64 0), (.int .i64 0)]), (.isl 1 [(.int .i64 6), (.int .i64 (-1))]), (.isl 1 [(.int .i64 1), (.int .i64 2)]), (.isl 3 [(.int .i64 127), (.bool false), .any, (.int .i64 123), (.bool false), .any, (.int .i64 126), (.bool false), .any]), (.sc (.slice none 0 0)), (.int .i64 (-1)), (.isl 1 [.any, .any]), (.isl 3 [(.sc (.slice none 0 0)), .any, (.sc (.slice none 0 0)), .any, (.sc (.slice none 0 0)), .any]), (.sc (.slice none 0 0)), (.iptr [.any, (.int .i64 2)])])])⟩
def Tryz.xr_r4 : Kn := ⟨8, [.agg [.isl 1 [.isl 1 [.int .i64 126], .sc (.slice none 0 0)], .isl 1 [.int .i64 (-1), .int .i64 0, .int .i64 1, .int .i64 0, .int .i64 0, .isl 9 [.int .i64 32, .int .i64 0, .int .u64 0, .int .i64 66, .int .i64 0, .int .u64 1, .int .i64 125, .int .i64 0, .int .u64 0, .int .i64 34, .int .i64 0, .int .u64 0, .int .i64 80, .int .i64 0, .int .u64 0, .int .i64 13, .int .i64 8, .int .u64 0, .int .i64 32, .int .i64 0, .int .u64 0, .int .i64 16, .int .i64 0, .int .u64 0, .int .i64 15, .int .i64 0, .int .u64 0], .sc (.slice none 0 0)]], .isl 1 [.sym .u64 (.var 0) 140 203 (-139)], .sym .i64 (.var 2) 0 65535 0], (.tup [(.agg [(.int .i64 0), (.int .u32 0), .esl, (.sym .i64 (.var 2) 0 65535 0)]), (.iptr [(.isl 4 [(.int .u64 7), (.int .u64 1), (.int .u64 2), (.int .u64 9)]), (.isl 4 [(.int .i64 1), (.int .i64 0), (.int .i64 0), (.int .i64 0)]), (.isl 3 [(.int .i64 0), (.int .i64 1), (.int .i64 3)]), (.isl 6 [(.int .i64 0), (.int .i64 1), (.int .i64 2), (.int .i64 3), (.int .i64 (-1)), (.int .i64 (-1))]), (.isl 2 [(.sc (.slice none 0 0)), (.sc (.slice none 0 0)), .any, .any]), (.isl 1 [(.sc (.string ⟨#[104, 111, 115, 116]⟩)), (.sc (.string ⟨#[102]⟩)), (.int .i64 1)]), (.isl 3 [(.int .i64 0), (.int .i64 0), (.int .i64 0)]), (.isl 1 [(.int .i64 6), (.int .i64 (-1))]), (.isl 1 [(.int .i64 1), (.int .i64 2)]), (.isl 3 [(.int .i64 127), (.bool false), .any, (.int .i64 123), (.bool false), .any, (.int .i64 126), (.bool false), .any]), (.sc (.slice none 0 0)), (.int .i64 (-1)), (.isl 1 [.any, .any]), (.isl 3 [(.sc (.slice none 0 0)), .any, (.sc (.slice none 0 0)), .any, (.sc (.slice none 0 0)), .any]), (.sc (.slice none 0 0)), (.iptr [.any, (.int .i64 2)])])])⟩
def Tryz.xr_r5 : Kn := ⟨8, [.agg [.isl 1 [.isl 1 [.int .i64 126], .sc (.slice none 0 0)], .isl 1 [.int .i64 (-1), .int .i64 0, .int .i64 1, .int .i64 0, .int .i64 0, .isl 9 [.int .i64 32, .int .i64 0, .int .u64 0, .int .i64 66, .int .i64 0, .int .u64 1, .int .i64 125, .int .i64 0, .int .u64 0, .int .i64 34, .int .i64 0, .int .u64 0, .int .i64 80, .int .i64 0, .int .u64 0, .int .i64 13, .int .i64 8, .int .u64 0, .int .i64 32, .int .i64 0, .int .u64 0, .int .i64 16, .int .i64 0, .int .u64 0, .int .i64 15, .int .i64 0, .int .u64 0], .sc (.slice none 0 0)]], .isl 1 [.sym .u64 (.var 0) 204 209 (-139)], .sym .i64 (.var 2) 0 65535 0], (.tup [(.agg [(.int .i64 26), (.int .u32 0), (.sc (.slice none 0 0)), (.sym .i64 (.var 2) 0 65535 0)]), (.iptr [(.isl 4 [(.int .u64 7), (.int .u64 1), (.int .u64 2), (.int .u64 9)]), (.isl 4 [(.int .i64 1), (.int .i64 0), (.int .i64 0), (.int .i64 0)]), (.isl 3 [(.int .i64 0), (.int .i64 1), (.int .i64 3)]), (.isl 6 [(.int .i64 0), (.int .i64 1), (.int .i64 2), (.int .i64 3), (.int .i64 (-1)), (.int .i64 (-1))]), (.isl 2 [(.sc (.slice none 0 0)), (.sc (.slice none 0 0)), .any, .any]), (.isl 1 [(.sc (.string ⟨#[104, 111, 115, 116]⟩)), (.sc (.string ⟨#[102]⟩)), (.int .i64 1)]), (.isl 3 [(.int .i64 0), (.int .i64 0), (.int .i64 0)]), (.isl 1 [(.int .i64 6), (.int .i64 (-1))]), (.isl 1 [(.int .i64 1), (.int .i64 2)]), (.isl 3 [(.int .i64 127), (.bool false), .any, (.int .i64 123), (.bool false), .any, (.int .i64 126), (.bool false), .any]), (.sc (.slice none 0 0)), (.int .i64 (-1)), (.isl 1 [.any, .any]), (.isl 3 [(.sc (.slice none 0 0)), .any, (.sc (.slice none 0 0)), .any, (.sc (.slice none 0 0)), .any]), (.sc (.slice none 0 0)), (.iptr [.any, (.int .i64 2)])])])⟩
def Tryz.xr_r6 : Kn := ⟨8, [.agg [.isl 1 [.isl 1 [.int .i64 126], .sc (.slice none 0 0)], .isl 1 [.int .i64 (-1), .int .i64 0, .int .i64 1, .int .i64 0, .int .i64 0, .isl 9 [.int .i64 32, .int .i64 0, .int .u64 0, .int .i64 66, .int .i64 0, .int .u64 1, .int .i64 125, .int .i64 0, .int .u64 0, .int .i64 34, .int .i64 0, .int .u64 0, .int .i64 80, .int .i64 0, .int .u64 0, .int .i64 13, .int .i64 8, .int .u64 0, .int .i64 32, .int .i64 0, .int .u64 0, .int .i64 16, .int .i64 0, .int .u64 0, .int .i64 15, .int .i64 0, .int .u64 0], .sc (.slice none 0 0)]], .isl 1 [.sym .u64 (.var 0) 210 255 (-209)], .sym .i64 (.var 2) 0 65535 0], (.tup [(.agg [(.int .i64 0), (.int .u32 0), .esl, (.sym .i64 (.var 2) 0 65535 0)]), (.iptr [(.isl 4 [(.int .u64 7), (.int .u64 1), (.int .u64 2), (.int .u64 9)]), (.isl 4 [(.int .i64 1), (.int .i64 0), (.int .i64 0), (.int .i64 0)]), (.isl 3 [(.int .i64 0), (.int .i64 1), (.int .i64 3)]), (.isl 6 [(.int .i64 0), (.int .i64 1), (.int .i64 2), (.int .i64 3), (.int .i64 (-1)), (.int .i64 (-1))]), (.isl 2 [(.sc (.slice none 0 0)), (.sc (.slice none 0 0)), .any, .any]), (.isl 1 [(.sc (.string ⟨#[104, 111, 115, 116]⟩)), (.sc (.string ⟨#[102]⟩)), (.int .i64 1)]), (.isl 3 [(.int .i64 0), (.int .i64 0), (.int .i64 0)]), (.isl 1 [(.int .i64 6), (.int .i64 (-1))]), (.isl 1 [(.int .i64 1), (.int .i64 2)]), (.isl 3 [(.int .i64 127), (.bool false), .any, (.int .i64 123), (.bool false), .any, (.int .i64 126), (.bool false), .any]), (.sc (.slice none 0 0)), (.int .i64 (-1)), (.isl 1 [.any, .any]), (.isl 3 [(.sc (.slice none 0 0)), .any, (.sc (.slice none 0 0)), .any, (.sc (.slice none 0 0)), .any]), (.sc (.slice none 0 0)), (.iptr [.any, (.int .i64 2)])])])⟩
def Tryz.xr_hop : Kn := ⟨8, [.agg [.isl 1 [.sc (.slice none 0 0), .sc (.slice none 0 0)], .isl 1 [.int .i64 (-1), .int .i64 0, .int .i64 0, .int .i64 0, .int .i64 0, .isl 2 [.int .i64 12, .int .i64 0, .int .u64 0, .int .i64 15, .int .i64 0, .int .u64 0], .sc (.slice none 0 0)]], .sc (.slice none 0 0), .sym .i64 (.var 2) 0 65535 0], (.tup [(.agg [(.int .i64 41), (.int .u32 0), (.sc (.slice none 0 0)), (.sym .i64 (.var 2) 0 65535 0)]), (.iptr [(.isl 4 [(.int .u64 7), (.int .u64 1), (.int .u64 2), (.int .u64 9)]), (.isl 4 [(.int .i64 1), (.int .i64 0), (.int .i64 0), (.int .i64 0)]), (.isl 3 [(.int .i64 0), (.int .i64 1), (.int .i64 3)]), (.isl 6 [(.int .i64 0), (.int .i64 1), (.int .i64 2), (.int .i64 3), (.int .i64 (-1)), (.int .i64 (-1))]), (.isl 2 [(.sc (.slice none 0 0)), (.sc (.slice none 0 0)), .any, .any]), (.isl 1 [(.sc (.string ⟨#[104, 111, 115, 116]⟩)), (.sc (.string ⟨#[102]⟩)), (.int .i64 1)]), (.isl 3 [(.int .i64 0), (.int .i64 0), (.int .i64 0)]), (.isl 1 [(.int .i64 6), (.int .i64 (-1))]), (.isl 1 [(.int .i64 1), (.int .i64 2)]), (.isl 3 [(.int .i64 127), (.bool false), .any, (.int .i64 123), (.bool false), .any, (.int .i64 126), (.bool false), .any]), (.sc (.slice none 0 0)), (.int .i64 (-1)), (.isl 1 [.any, .any]), (.isl 3 [(.sc (.slice none 0 0)), .any, (.sc (.slice none 0 0)), .any, (.sc (.slice none 0 0)), .any]), (.sc (.slice none 0 0)), (.iptr [.any, (.int .i64 2)])])])⟩
def Tryz.xr_b1 : Kn := ⟨8, [.agg [.isl 1 [.sc (.slice none 0 0), .isl 1 [.int .i64 126]], .isl 1 [.int .i64 (-1), .int .i64 0, .int .i64 0, .int .i64 1, .int .i64 0, .isl 1 [.int .i64 15, .int .i64 0, .int .u64 0], .sc (.slice none 0 0)]], .sc (.slice none 0 0), .sym .i64 (.var 2) 0 65535 0], (.tup [(.agg [(.int .i64 40), (.int .u32 0), (.sc (.slice none 0 0)), (.sym .i64 (.var 2) 0 65535 0)]), (.iptr [(.isl 4 [(.int .u64 7), (.int .u64 1), (.int .u64 2), (.int .u64 9)]), (.isl 4 [(.int .i64 1), (.int .i64 0), (.int .i64 0), (.int .i64 0)]), (.isl 3 [(.int .i64 0), (.int .i64 1), (.int .i64 3)]), (.isl 6 [(.int .i64 0), (.int .i64 1), (.int .i64 2), (.int .i64 3), (.int .i64 (-1)), (.int .i64 (-1))]), (.isl 2 [(.sc (.slice none 0 0)), (.sc (.slice none 0 0)), .any, .any]), (.isl 1 [(.sc (.string ⟨#[104, 111, 115, 116]⟩)), (.sc (.string ⟨#[102]⟩)), (.int .i64 1)]), (.isl 3 [(.int .i64 0), (.int .i64 0), (.int .i64 0)]), (.isl 1 [(.int .i64 6), (.int .i64 (-1))]), (.isl 1 [(.int .i64 1), (.int .i64 2)]), (.isl 3 [(.int .i64 127), (.bool false), .any, (.int .i64 123), (.bool false), .any, (.int .i64 126), (.bool false), .any]), (.sc (.slice none 0 0)), (.int .i64 (-1)), (.isl 1 [.any, .any]), (.isl 3 [(.sc (.slice none 0 0)), .any, (.sc (.slice none 0 0)), .any, (.sc (.slice none 0 0)), .any]), (.sc (.slice none 0 0)), (.iptr [.any, (.int .i64 2)])])])⟩
def Tryz.xr_b2 : Kn := ⟨8, [.agg [.isl 1 [.sc (.slice none 0 0), .sc (.slice none 0 0)], .isl 1 [.int .i64 (-1), .int .i64 0, .int .i64 0, .int .i64 0, .int .i64 0, .isl 1 [.int .i64 66, .int .i64 0, .int .u64 0], .sc (.slice none 0 0)]], .sc (.slice none 0 0), .sym .i64 (.var 2) 0 65535 0], (.tup [(.agg [(.int .i64 40), (.int .u32 0), (.sc (.slice none 0 0)), (.sym .i64 (.var 2) 0 65535 0)]), (.iptr [(.isl 4 [(.int .u64 7), (.int .u64 1), (.int .u64 2), (.int .u64 9)]), (.isl 4 [(.int .i64 1), (.int .i64 0), (.int .i64 0), (.int .i64 0)]), (.isl 3 [(.int .i64 0), (.int .i64 1), (.int .i64 3)]), (.isl 6 [(.int .i64 0), (.int .i64 1), (.int .i64 2), (.int .i64 3), (.int .i64 (-1)), (.int .i64 (-1))]), (.isl 2 [(.sc (.slice none 0 0)), (.sc (.slice none 0 0)), .any, .any]), (.isl 1 [(.sc (.string ⟨#[104, 111, 115, 116]⟩)), (.sc (.string ⟨#[102]⟩)), (.int .i64 1)]), (.isl 3 [(.int .i64 0), (.int .i64 0), (.int .i64 0)]), (.isl 1 [(.int .i64 6), (.int .i64 (-1))]), (.isl 1 [(.int .i64 1), (.int .i64 2)]), (.isl 3 [(.int .i64 127), (.bool false), .any, (.int .i64 123), (.bool false), .any, (.int .i64 126), (.bool false), .any]), (.sc (.slice none 0 0)), (.int .i64 (-1)), (.isl 1 [.any, .any]), (.isl 3 [(.sc (.slice none 0 0)), .any, (.sc (.slice none 0 0)), .any, (.sc (.slice none 0 0)), .any]), (.sc (.slice none 0 0)), (.iptr [.any, (.int .i64 2)])])])⟩
def Tryz.xr_s0 : Kn := ⟨8, [.agg [.isl 1 [.sc (.slice none 0 0), .isl 1 [.int .i64 126]], .isl 1 [.int .i64 (-1), .int .i64 0, .int .i64 0, .int .i64 1, .int .i64 0, .isl 2 [.int .i64 35, .sym .i64 (.var 1) (-9223372036854775808) (-1) 0, .int .u64 0, .int .i64 15, .int .i64 0, .int .u64 0], .sc (.slice none 0 0)]], .sc (.slice none 0 0), .sym .i64 (.var 2) 0 65535 0], (.tup [(.agg [(.int .i64 40), (.int .u32 0), (.sc (.slice none 0 0)), (.int .i64 0)]), (.iptr [(.isl 4 [(.int .u64 7), (.int .u64 1), (.int .u64 2), (.int .u64 9)]), (.isl 4 [(.int .i64 1), (.int .i64 0), (.int .i64 0), (.int .i64 0)]), (.isl 3 [(.int .i64 0), (.int .i64 1), (.int .i64 3)]), (.isl 6 [(.int .i64 0), (.int .i64 1), (.int .i64 2), (.int .i64 3), (.int .i64 (-1)), (.int .i64 (-1))]), (.isl 2 [(.sc (.slice none 0 0)), (.sc (.slice none 0 0)), .any, .any]), (.isl 1 [(.sc (.string ⟨#[104, 111, 115, 116]⟩)), (.sc (.string ⟨#[102]⟩)), (.int .i64 1)]), (.isl 3 [(.int .i64 0), (.int .i64 0), (.int .i64 0)]), (.isl 1 [(.int .i64 6), (.int .i64 (-1))]), (.isl 1 [(.int .i64 1), (.int .i64 2)]), (.isl 3 [(.int .i64 127), (.bool false), .any, (.int .i64 123), (.bool false), .any, (.int .i64 126), (.bool false), .any]), (.sc (.slice none 0 0)), (.int .i64 (-1)), (.isl 1 [.any, .any]), (.isl 3 [(.sc (.slice none 0 0)), .any, (.sc (.slice none 0 0)), .any, (.sc (.slice none 0 0)), .any]), (.sc (.slice none 0 0)), (.iptr [.any, (.int .i64 2)])])])⟩
def Tryz.xr_s1 : Kn := ⟨8, [.agg [.isl 1 [.sc (.slice none 0 0), .isl 1 [.int .i64 126]], .isl 1 [.int .i64 (-1), .int .i64 0, .int .i64 0, .int .i64 1, .int .i64 0, .isl 2 [.int .i64 35, .int .i64 0, .int .u64 0, .int .i64 15, .int .i64 0, .int .u64 0], .sc (.slice none 0 0)]], .sc (.slice none 0 0), .sym .i64 (.var 2) 0 65535 0], (.tup [(.agg [(.int .i64 0), (.int .u32 0), (.isl 1 [(.int .u64 7)]), (.sym .i64 (.var 2) 0 65535 0)]), (.iptr [(.isl 4 [(.int .u64 7), (.int .u64 1), (.int .u64 2), (.int .u64 9)]), (.isl 4 [(.int .i64 1), (.int .i64 0), (.int .i64 0), (.int .i64 0)]), (.isl 3 [(.int .i64 0), (.int .i64 1), (.int .i64 3)]), (.isl 6 [(.int .i64 0), (.int .i64 1), (.int .i64 2), (.int .i64 3), (.int .i64 (-1)), (.int .i64 (-1))]), (.isl 2 [(.sc (.slice none 0 0)), (.sc (.slice none 0 0)), .any, .any]), (.isl 1 [(.sc (.string ⟨#[104, 111, 115, 116]⟩)), (.sc (.string ⟨#[102]⟩)), (.int .i64 1)]), (.isl 3 [(.int .i64 0), (.int .i64 0), (.int .i64 0)]), (.isl 1 [(.int .i64 6), (.int .i64 (-1))]), (.isl 1 [(.int .i64 1), (.int .i64 2)]), (.isl 3 [(.int .i64 127), (.bool false), .any, (.int .i64 123), (.bool false), .any, (.int .i64 126), (.bool false), .any]), (.sc (.slice none 0 0)), (.int .i64 (-1)), (.isl 1 [.any, .any]), (.isl 3 [(.sc (.slice none 0 0)), .any, (.sc (.slice none 0 0)), .any, (.sc (.slice none 0 0)), .any]), (.sc (.slice none 0 0)), (.iptr [.any, (.int .i64 2)])])])⟩
def Tryz.xr_s2 : Kn := ⟨8, [.agg [.isl 1 [.sc (.slice none 0 0), .isl 1 [.int .i64 126]], .isl 1 [.int .i64 (-1), .int .i64 0, .int .i64 0, .int .i64 1, .int .i64 0, .isl 2 [.int .i64 35, .int .i64 1, .int .u64 0, .int .i64 15, .int .i64 0, .int .u64 0], .sc (.slice none 0 0)]], .sc (.slice none 0 0), .sym .i64 (.var 2) 0 65535 0], (.tup [(.agg [(.int .i64 0), (.int .u32 0), (.isl 1 [(.int .u64 1)]), (.sym .i64 (.var 2) 0 65535 0)]), (.iptr [(.isl 4 [(.int .u64 7), (.int .u64 1), (.int .u64 2), (.int .u64 9)]), (.isl 4 [(.int .i64 1), (.int .i64 0), (.int .i64 0), (.int .i64 0)]), (.isl 3 [(.int .i64 0), (.int .i64 1), (.int .i64 3)]), (.isl 6 [(.int .i64 0), (.int .i64 1), (.int .i64 2), (.int .i64 3), (.int .i64 (-1)), (.int .i64 (-1))]), (.isl 2 [(.sc (.slice none 0 0)), (.sc (.slice none 0 0)), .any, .any]), (.isl 1 [(.sc (.string ⟨#[104, 111, 115, 116]⟩)), (.sc (.string ⟨#[102]⟩)), (.int .i64 1)]), (.isl 3 [(.int .i64 0), (.int .i64 0), (.int .i64 0)]), (.isl 1 [(.int .i64 6), (.int .i64 (-1))]), (.isl 1 [(.int .i64 1), (.int .i64 2)]), (.isl 3 [(.int .i64 127), (.bool false), .any, (.int .i64 123), (.bool false), .any, (.int .i64 126), (.bool false), .any]), (.sc (.slice none 0 0)), (.int .i64 (-1)), (.isl 1 [.any, .any]), (.isl 3 [(.sc (.slice none 0 0)), .any, (.sc (.slice none 0 0)), .any, (.sc (.slice none 0 0)), .any]), (.sc (.slice none 0 0)), (.iptr [.any, (.int .i64 2)])])])⟩
def Tryz.xr_s3 : Kn := ⟨8, [.agg [.isl 1 [.sc (.slice none 0 0), .isl 1 [.int .i64 126]], .isl 1 [.int .i64 (-1), .int .i64 0, .int .i64 0, .int .i64 1, .int .i64 0, .isl 2 [.int .i64 35, .int .i64 2, .int .u64 0, .int .i64 15, .int .i64 0, .int .u64 0], .sc (.slice none 0 0)]], .sc (.slice none 0 0), .sym .i64 (.var 2) 0 65535 0], (.tup [(.agg [(.int .i64 0), (.int .u32 0), (.isl 1 [(.int .u64 2)]), (.sym .i64 (.var 2) 0 65535 0)]), (.iptr [(.isl 4 [(.int .u64 7), (.int .u64 1), (.int .u64 2), (.int .u64 9)]), (.isl 4 [(.int .i64 1), (.int .i64 0), (.int .i64 0), (.int .i64 0)]), (.isl 3 [(.int .i64 0), (.int .i64 1), (.int .i64 3)]), (.isl 6 [(.int .i64 0), (.int .i64 1), (.int .i64 2), (.int .i64 3), (.int .i64 (-1)), (.int .i64 (-1))]), (.isl 2 [(.sc (.slice none 0 0)), (.sc (.slice none 0 0)), .any, .any]), (.isl 1 [(.sc (.string ⟨#[104, 111, 115, 116]⟩)), (.sc (.string ⟨#[102]⟩)), (.int .i64 1)]), (.isl 3 [(.int .i64 0), (.int .i64 0), (.int .i64 0)]), (.isl 1 [(.int .i64 6), (.int .i64 (-1))]), (.isl 1 [(.int .i64 1), (.int .i64 2)]), (.isl 3 [(.int .i64 127), (.bool false), .any, (.int .i64 123), (.bool false), .any, (.int .i64 126), (.bool false), .any]), (.sc (.slice none 0 0)), (.int .i64 (-1)), (.isl 1 [.any, .any]), (.isl 3 [(.sc (.slice none 0 0)), .any, (.sc (.slice none 0 0)), .any, (.sc (.slice none 0 0)), .any]), (.sc (.slice none 0 0)), (.iptr [.any, (.int .i64 2)])])])⟩
def Tryz.xr_s4 : Kn := ⟨8, [.agg [.isl 1 [.sc (.slice none 0 0), .isl 1 [.int .i64 126]], .isl 1 [.int .i64 (-1), .int .i64 0, .int .i64 0, .int .i64 1, .int .i64 0, .isl 2 [.int .i64 35, .int .i64 3, .int .u64 0, .int .i64 15, .int .i64 0, .int .u64 0], .sc (.slice none 0 0)]], .sc (.slice none 0 0), .sym .i64 (.var 2) 0 65535 0], (.tup [(.agg [(.int .i64 0), (.int .u32 0), (.isl 1 [(.int .u64 9)]), (.sym .i64 (.var 2) 0 65535 0)]), (.iptr [(.isl 4 [(.int .u64 7), (.int .u64 1), (.int .u64 2), (.int .u64 9)]), (.isl 4 [(.int .i64 1), (.int .i64 0), (.int .i64 0), (.int .i64 0)]), (.isl 3 [(.int .i64 0), (.int .i64 1), (.int .i64 3)]), (.isl 6 [(.int .i64 0), (.int .i64 1), (.int .i64 2), (.int .i64 3), (.int .i64 (-1)), (.int .i64 (-1))]), (.isl 2 [(.sc (.slice none 0 0)), (.sc (.slice none 0 0)), .any, .any]), (.isl 1 [(.sc (.string ⟨#[104, 111, 115, 116]⟩)), (.sc (.string ⟨#[102]⟩)), (.int .i64 1)]), (.isl 3 [(.int .i64 0), (.int .i64 0), (.int .i64 0)]), (.isl 1 [(.int .i64 6), (.int .i64 (-1))]), (.isl 1 [(.int .i64 1), (.int .i64 2)]), (.isl 3 [(.int .i64 127), (.bool false), .any, (.int .i64 123), (.bool false), .any, (.int .i64 126), (.bool false), .any]), (.sc (.slice none 0 0)), (.int .i64 (-1)), (.isl 1 [.any, .any]), (.isl 3 [(.sc (.slice none 0 0)), .any, (.sc (.slice none 0 0)), .any, (.sc (.slice none 0 0)), .any]), (.sc (.slice none 0 0)), (.iptr [.any, (.int .i64 2)])])])⟩
def Tryz.xr_s5 : Kn := ⟨8, [.agg [.isl 1 [.sc (.slice none 0 0), .isl 1 [.int .i64 126]], .isl 1 [.int .i64 (-1), .int .i64 0, .int .i64 0, .int .i64 1, .int .i64 0, .isl 2 [.int .i64 35, .sym .i64 (.var 1) 4 9223372036854775807 0, .int .u64 0, .int .i64 15, .int .i64 0, .int .u64 0], .sc (.slice none 0 0)]], .sc (.slice none 0 0), .sym .i64 (.var 2) 0 65535 0], (.tup [(.agg [(.int .i64 40), (.int .u32 0), (.sc (.slice none 0 0)), (.sym .i64 (.var 2) 0 65535 0)]), (.iptr [(.isl 4 [(.int .u64 7), (.int .u64 1), (.int .u64 2), (.int .u64 9)]), (.isl 4 [(.int .i64 1), (.int .i64 0), (.int .i64 0), (.int .i64 0)]), (.isl 3 [(.int .i64 0), (.int .i64 1), (.int .i64 3)]), (.isl 6 [(.int .i64 0), (.int .i64 1), (.int .i64 2), (.int .i64 3), (.int .i64 (-1)), (.int .i64 (-1))]), (.isl 2 [(.sc (.slice none 0 0)), (.sc (.slice none 0 0)), .any, .any]), (.isl 1 [(.sc (.string ⟨#[104, 111, 115, 116]⟩)), (.sc (.string ⟨#[102]⟩)), (.int .i64 1)]), (.isl 3 [(.int .i64 0), (.int .i64 0), (.int .i64 0)]), (.isl 1 [(.int .i64 6), (.int .i64 (-1))]), (.isl 1 [(.int .i64 1), (.int .i64 2)]), (.isl 3 [(.int .i64 127), (.bool false), .any, (.int .i64 123), (.bool false), .any, (.int .i64 126), (.bool false), .any]), (.sc (.slice none 0 0)), (.int .i64 (-1)), (.isl 1 [.any, .any]), (.isl 3 [(.sc (.slice none 0 0)), .any, (.sc (.slice none 0 0)), .any, (.sc (.slice none 0 0)), .any]), (.sc (.slice none 0 0)), (.iptr [.any, (.int .i64 2)])])])⟩
def Tryz.xr_A : Kn := ⟨7, [], .bool true⟩
noncomputable def Tryz.xHas (f : FuncId) : Bool := bif Nat.beq f 7 then true else Nat.beq f 8
def Tryz.xRows (r s : Kn) : List Kn := [Tryz.xr_A, r, Tryz.xr_hop, Tryz.xr_b1, Tryz.xr_b2, s]
noncomputable def Tryz.xC (r s : Kn) : CallF := fCall Tryz.fb.get Tryz.xHas (Tryz.xRows r s) 1000 60
theorem Tryz.xC_ok {B : Nat → Int} {r s : Kn} (hr : @KnownF ⟨B⟩ Tryz.prog r.f r.args r.v) (hs : @KnownF ⟨B⟩ Tryz.prog s.f s.args s.v) : @CallOk ⟨B⟩ Tryz.prog (Tryz.xC r s) :=
  @fCall_ok ⟨B⟩ _ _ (@draw_ok ⟨B⟩ _ Tryz.mixed) _ (fun f b e => by simpa using Tryz.fbs.get f b e) _ _ (@KT.cons ⟨B⟩ _ _ _ _ _ (@Tryz.xkA ⟨B⟩) (@KT.cons ⟨B⟩ _ _ _ _ _ hr (@KT.cons ⟨B⟩ _ _ _ _ _ (@Tryz.xk_hop ⟨B⟩) (@KT.cons ⟨B⟩ _ _ _ _ _ (@Tryz.xk_b1 ⟨B⟩) (@KT.cons ⟨B⟩ _ _ _ _ _ (@Tryz.xk_b2 ⟨B⟩) (@KT.cons ⟨B⟩ _ _ _ _ _ hs (@KT.nil ⟨B⟩ _))))))) 1000 60
end Go.Proofs

namespace Go.Proofs
open Go.Ab
set_option maxRecDepth 1000000
theorem Tryz.xl_0_0 : isT (Tryz.xC Tryz.xr_r0 Tryz.xr_s0 3 [.sym .u8 (.var 0) 0 63 0, .sym .i64 (.var 1) (-9223372036854775808) (-1) 0, .sym .u16 (.var 2) 0 65535 0] (nilH 0)) = true := by kernel_rfl
theorem Tryz.xl_0_1 : isT (Tryz.xC Tryz.xr_r0 Tryz.xr_s1 3 [.sym .u8 (.var 0) 0 63 0, .int .i64 0, .sym .u16 (.var 2) 0 65535 0] (nilH 0)) = true := by kernel_rfl
theorem Tryz.xl_0_2 : isT (Tryz.xC Tryz.xr_r0 Tryz.xr_s2 3 [.sym .u8 (.var 0) 0 63 0, .int .i64 1, .sym .u16 (.var 2) 0 65535 0] (nilH 0)) = true := by kernel_rfl
theorem Tryz.xl_0_3 : isT (Tryz.xC Tryz.xr_r0 Tryz.xr_s3 3 [.sym .u8 (.var 0) 0 63 0, .int .i64 2, .sym .u16 (.var 2) 0 65535 0] (nilH 0)) = true := by kernel_rfl
theorem Tryz.xl_0_4 : isT (Tryz.xC Tryz.xr_r0 Tryz.xr_s4 3 [.sym .u8 (.var 0) 0 63 0, .int .i64 3, .sym .u16 (.var 2) 0 65535 0] (nilH 0)) = true := by kernel_rfl
theorem Tryz.xl_0_5 : isT (Tryz.xC Tryz.xr_r0 Tryz.xr_s5 3 [.sym .u8 (.var 0) 0 63 0, .sym .i64 (.var 1) 4 9223372036854775807 0, .sym .u16 (.var 2) 0 65535 0] (nilH 0)) = true := by kernel_rfl
end Go.Proofs

namespace Go.Proofs
open Go.Ab
set_option maxRecDepth 1000000
theorem Tryz.xl_1_0 : isT (Tryz.xC Tryz.xr_r1 Tryz.xr_s0 3 [.sym .u8 (.var 0) 64 69 0, .sym .i64 (.var 1) (-9223372036854775808) (-1) 0, .sym .u16 (.var 2) 0 65535 0] (nilH 0)) = true := by kernel_rfl
theorem Tryz.xl_1_1 : isT (Tryz.xC Tryz.xr_r1 Tryz.xr_s1 3 [.sym .u8 (.var 0) 64 69 0, .int .i64 0, .sym .u16 (.var 2) 0 65535 0] (nilH 0)) = true := by kernel_rfl
theorem Tryz.xl_1_2 : isT (Tryz.xC Tryz.xr_r1 Tryz.xr_s2 3 [.sym .u8 (.var 0) 64 69 0, .int .i64 1, .sym .u16 (.var 2) 0 65535 0] (nilH 0)) = true := by kernel_rfl
theorem Tryz.xl_1_3 : isT (Tryz.xC Tryz.xr_r1 Tryz.xr_s3 3 [.sym .u8 (.var 0) 64 69 0, .int .i64 2, .sym .u16 (.var 2) 0 65535 0] (nilH 0)) = true := by kernel_rfl
theorem Tryz.xl_1_4 : isT (Tryz.xC Tryz.xr_r1 Tryz.xr_s4 3 [.sym .u8 (.var 0) 64 69 0, .int .i64 3, .sym .u16 (.var 2) 0 65535 0] (nilH 0)) = true := by kernel_rfl
theorem Tryz.xl_1_5 : isT (Tryz.xC Tryz.xr_r1 Tryz.xr_s5 3 [.sym .u8 (.var 0) 64 69 0, .sym .i64 (.var 1) 4 9223372036854775807 0, .sym .u16 (.var 2) 0 65535 0] (nilH 0)) = true := by kernel_rfl
end Go.Proofs

namespace Go.Proofs
open Go.Ab
set_option maxRecDepth 1000000
theorem Tryz.xl_2_0 : isT (Tryz.xC Tryz.xr_r2 Tryz.xr_s0 3 [.sym .u8 (.var 0) 70 133 0, .sym .i64 (.var 1) (-9223372036854775808) (-1) 0, .sym .u16 (.var 2) 0 65535 0] (nilH 0)) = true := by kernel_rfl
theorem Tryz.xl_2_1 : isT (Tryz.xC Tryz.xr_r2 Tryz.xr_s1 3 [.sym .u8 (.var 0) 70 133 0, .int .i64 0, .sym .u16 (.var 2) 0 65535 0] (nilH 0)) = true := by kernel_rfl
theorem Tryz.xl_2_2 : isT (Tryz.xC Tryz.xr_r2 Tryz.xr_s2 3 [.sym .u8 (.var 0) 70 133 0, .int .i64 1, .sym .u16 (.var 2) 0 65535 0] (nilH 0)) = true := by kernel_rfl
theorem Tryz.xl_2_3 : isT (Tryz.xC Tryz.xr_r2 Tryz.xr_s3 3 [.sym .u8 (.var 0) 70 133 0, .int .i64 2, .sym .u16 (.var 2) 0 65535 0] (nilH 0)) = true := by kernel_rfl
theorem Tryz.xl_2_4 : isT (Tryz.xC Tryz.xr_r2 Tryz.xr_s4 3 [.sym .u8 (.var 0) 70 133 0, .int .i64 3, .sym .u16 (.var 2) 0 65535 0] (nilH 0)) = true := by kernel_rfl
theorem Tryz.xl_2_5 : isT (Tryz.xC Tryz.xr_r2 Tryz.xr_s5 3 [.sym .u8 (.var 0) 70 133 0, .sym .i64 (.var 1) 4 9223372036854775807 0, .sym .u16 (.var 2) 0 65535 0] (nilH 0)) = true := by kernel_rfl
end Go.Proofs

namespace Go.Proofs
open Go.Ab
set_option maxRecDepth 1000000
theorem Tryz.xl_3_0 : isT (Tryz.xC Tryz.xr_r3 Tryz.xr_s0 3 [.sym .u8 (.var 0) 134 139 0, .sym .i64 (.var 1) (-9223372036854775808) (-1) 0, .sym .u16 (.var 2) 0 65535 0] (nilH 0)) = true := by kernel_rfl
theorem Tryz.xl_3_1 : isT (Tryz.xC Tryz.xr_r3 Tryz.xr_s1 3 [.sym .u8 (.var 0) 134 139 0, .int .i64 0, .sym .u16 (.var 2) 0 65535 0] (nilH 0)) = true := by kernel_rfl
theorem Tryz.xl_3_2 : isT (Tryz.xC Tryz.xr_r3 Tryz.xr_s2 3 [.sym .u8 (.var 0) 134 139 0, .int .i64 1, .sym .u16 (.var 2) 0 65535 0] (nilH 0)) = true := by kernel_rfl
theorem Tryz.xl_3_3 : isT (Tryz.xC Tryz.xr_r3 Tryz.xr_s3 3 [.sym .u8 (.var 0) 134 139 0, .int .i64 2, .sym .u16 (.var 2) 0 65535 0] (nilH 0)) = true := by kernel_rfl
theorem Tryz.xl_3_4 : isT (Tryz.xC Tryz.xr_r3 Tryz.xr_s4 3 [.sym .u8 (.var 0) 134 139 0, .int .i64 3, .sym .u16 (.var 2) 0 65535 0] (nilH 0)) = true := by kernel_rfl
theorem Tryz.xl_3_5 : isT (Tryz.xC Tryz.xr_r3 Tryz.xr_s5 3 [.sym .u8 (.var 0) 134 139 0, .sym .i64 (.var 1) 4 9223372036854775807 0, .sym .u16 (.var 2) 0 65535 0] (nilH 0)) = true := by kernel_rfl
end Go.Proofs

namespace Go.Proofs
open Go.Ab
set_option maxRecDepth 1000000
theorem Tryz.xl_4_0 : isT (Tryz.xC Tryz.xr_r4 Tryz.xr_s0 3 [.sym .u8 (.var 0) 140 203 0, .sym .i64 (.var 1) (-9223372036854775808) (-1) 0, .sym .u16 (.var 2) 0 65535 0] (nilH 0)) = true := by kernel_rfl
theorem Tryz.xl_4_1 : isT (Tryz.xC Tryz.xr_r4 Tryz.xr_s1 3 [.sym .u8 (.var 0) 140 203 0, .int .i64 0, .sym .u16 (.var 2) 0 65535 0] (nilH 0)) = true := by kernel_rfl
theorem Tryz.xl_4_2 : isT (Tryz.xC Tryz.xr_r4 Tryz.xr_s2 3 [.sym .u8 (.var 0) 140 203 0, .int .i64 1, .sym .u16 (.var 2) 0 65535 0] (nilH 0)) = true := by kernel_rfl
theorem Tryz.xl_4_3 : isT (Tryz.xC Tryz.xr_r4 Tryz.xr_s3 3 [.sym .u8 (.var 0) 140 203 0, .int .i64 2, .sym .u16 (.var 2) 0 65535 0] (nilH 0)) = true := by kernel_rfl
theorem Tryz.xl_4_4 : isT (Tryz.xC Tryz.xr_r4 Tryz.xr_s4 3 [.sym .u8 (.var 0) 140 203 0, .int .i64 3, .sym .u16 (.var 2) 0 65535 0] (nilH 0)) = true := by kernel_rfl
theorem Tryz.xl_4_5 : isT (Tryz.xC Tryz.xr_r4 Tryz.xr_s5 3 [.sym .u8 (.var 0) 140 203 0, .sym .i64 (.var 1) 4 9223372036854775807 0, .sym .u16 (.var 2) 0 65535 0] (nilH 0)) = true := by kernel_rfl
end Go.Proofs

namespace Go.Proofs
open Go.Ab
set_option maxRecDepth 1000000
theorem Tryz.xl_5_0 : isT (Tryz.xC Tryz.xr_r5 Tryz.xr_s0 3 [.sym .u8 (.var 0) 204 209 0, .sym .i64 (.var 1) (-9223372036854775808) (-1) 0, .sym .u16 (.var 2) 0 65535 0] (nilH 0)) = true := by kernel_rfl
theorem Tryz.xl_5_1 : isT (Tryz.xC Tryz.xr_r5 Tryz.xr_s1 3 [.sym .u8 (.var 0) 204 209 0, .int .i64 0, .sym .u16 (.var 2) 0 65535 0] (nilH 0)) = true := by kernel_rfl
theorem Tryz.xl_5_2 : isT (Tryz.xC Tryz.xr_r5 Tryz.xr_s2 3 [.sym .u8 (.var 0) 204 209 0, .int .i64 1, .sym .u16 (.var 2) 0 65535 0] (nilH 0)) = true := by kernel_rfl
theorem Tryz.xl_5_3 : isT (Tryz.xC Tryz.xr_r5 Tryz.xr_s3 3 [.sym .u8 (.var 0) 204 209 0, .int .i64 2, .sym .u16 (.var 2) 0 65535 0] (nilH 0)) = true := by kernel_rfl
theorem Tryz.xl_5_4 : isT (Tryz.xC Tryz.xr_r5 Tryz.xr_s4 3 [.sym .u8 (.var 0) 204 209 0, .int .i64 3, .sym .u16 (.var 2) 0 65535 0] (nilH 0)) = true := by kernel_rfl
theorem Tryz.xl_5_5 : isT (Tryz.xC Tryz.xr_r5 Tryz.xr_s5 3 [.sym .u8 (.var 0) 204 209 0, .sym .i64 (.var 1) 4 9223372036854775807 0, .sym .u16 (.var 2) 0 65535 0] (nilH 0)) = true := by kernel_rfl
end Go.Proofs

namespace Go.Proofs
open Go.Ab
set_option maxRecDepth 1000000
theorem Tryz.xl_6_0 : isT (Tryz.xC Tryz.xr_r6 Tryz.xr_s0 3 [.sym .u8 (.var 0) 210 255 0, .sym .i64 (.var 1) (-9223372036854775808) (-1) 0, .sym .u16 (.var 2) 0 65535 0] (nilH 0)) = true := by kernel_rfl
theorem Tryz.xl_6_1 : isT (Tryz.xC Tryz.xr_r6 Tryz.xr_s1 3 [.sym .u8 (.var 0) 210 255 0, .int .i64 0, .sym .u16 (.var 2) 0 65535 0] (nilH 0)) = true := by kernel_rfl
theorem Tryz.xl_6_2 : isT (Tryz.xC Tryz.xr_r6 Tryz.xr_s2 3 [.sym .u8 (.var 0) 210 255 0, .int .i64 1, .sym .u16 (.var 2) 0 65535 0] (nilH 0)) = true := by kernel_rfl
theorem Tryz.xl_6_3 : isT (Tryz.xC Tryz.xr_r6 Tryz.xr_s3 3 [.sym .u8 (.var 0) 210 255 0, .int .i64 2, .sym .u16 (.var 2) 0 65535 0] (nilH 0)) = true := by kernel_rfl
theorem Tryz.xl_6_4 : isT (Tryz.xC Tryz.xr_r6 Tryz.xr_s4 3 [.sym .u8 (.var 0) 210 255 0, .int .i64 3, .sym .u16 (.var 2) 0 65535 0] (nilH 0)) = true := by kernel_rfl
theorem Tryz.xl_6_5 : isT (Tryz.xC Tryz.xr_r6 Tryz.xr_s5 3 [.sym .u8 (.var 0) 210 255 0, .sym .i64 (.var 1) 4 9223372036854775807 0, .sym .u16 (.var 2) 0 65535 0] (nilH 0)) = true := by kernel_rfl
end Go.Proofs

namespace Go.Proofs
open Go.Ab
set_option maxRecDepth 1000000
def Tryz.xB (x y z : Int) : Nat → Int := fun i => match i with | 0 => x | 1 => y | _ => z
theorem Tryz.xV {x y z lo hi : Int} {a : AV} (hx : lo ≤ x ∧ x ≤ hi) (hz : 0 ≤ z ∧ z ≤ 65535) (ha : ∀ g w, @VR ⟨Tryz.xB x y z⟩ g w a (.int .i64 y)) (g : G) (w : World) :
    @VRs ⟨Tryz.xB x y z⟩ g w [.sym .u8 (.var 0) lo hi 0, a, .sym .u16 (.var 2) 0 65535 0] [.int .u8 x, .int .i64 y, .int .u16 z] := by
  simp only [VRs]
  refine ⟨_, _, rfl, ?_, _, _, rfl, ha g w, _, _, rfl, ?_, rfl⟩
  · simp only [VR]
    exact ⟨by show Value.int .u8 x = Value.int .u8 (x + 0); rw [Int.add_zero], hx.1, hx.2⟩
  · simp only [VR]
    exact ⟨by show Value.int .u16 z = Value.int .u16 (z + 0); rw [Int.add_zero], hz.1, hz.2⟩
theorem Tryz.xm_0_0 (x y z : Int) (hx : 0 ≤ x ∧ x ≤ 63) (hy : -9223372036854775808 ≤ y ∧ y ≤ 9223372036854775807) (hk : y ≤ -1) (hz : 0 ≤ z ∧ z ≤ 65535) (w : World) :
    Calls Tryz.prog 3 #[.int .u8 x, .int .i64 y, .int .u16 z] w fun e w' => e = .returned (.bool true) ∧ Go.RowKit.Below w.heap.size w w' :=
  @law_ok ⟨Tryz.xB x y z⟩ _ _ (Tryz.xC_ok (r := Tryz.xr_r0) (s := Tryz.xr_s0) (Tryz.xk_r0 (B := Tryz.xB x y z) hx.1 hx.2) (@Tryz.xk_s0 ⟨Tryz.xB x y z⟩)) 3 _ _ Tryz.xl_0_0 w
    (Tryz.xV hx hz (fun g w => by simp only [VR]; exact ⟨by show Value.int .i64 y = Value.int .i64 (y + 0); rw [Int.add_zero], by show _ ≤ y; omega, by show y ≤ _; omega⟩) _ _)
theorem Tryz.xm_0_1 (x y z : Int) (hx : 0 ≤ x ∧ x ≤ 63) (hy : -9223372036854775808 ≤ y ∧ y ≤ 9223372036854775807) (hk : y = 0) (hz : 0 ≤ z ∧ z ≤ 65535) (w : World) :
    Calls Tryz.prog 3 #[.int .u8 x, .int .i64 y, .int .u16 z] w fun e w' => e = .returned (.bool true) ∧ Go.RowKit.Below w.heap.size w w' :=
  @law_ok ⟨Tryz.xB x y z⟩ _ _ (Tryz.xC_ok (r := Tryz.xr_r0) (s := Tryz.xr_s1) (Tryz.xk_r0 (B := Tryz.xB x y z) hx.1 hx.2) (@Tryz.xk_s1 ⟨Tryz.xB x y z⟩)) 3 _ _ Tryz.xl_0_1 w
    (Tryz.xV hx hz (fun g w => by simp only [VR, hk]) _ _)
theorem Tryz.xm_0_2 (x y z : Int) (hx : 0 ≤ x ∧ x ≤ 63) (hy : -9223372036854775808 ≤ y ∧ y ≤ 9223372036854775807) (hk : y = 1) (hz : 0 ≤ z ∧ z ≤ 65535) (w : World) :
    Calls Tryz.prog 3 #[.int .u8 x, .int .i64 y, .int .u16 z] w fun e w' => e = .returned (.bool true) ∧ Go.RowKit.Below w.heap.size w w' :=
  @law_ok ⟨Tryz.xB x y z⟩ _ _ (Tryz.xC_ok (r := Tryz.xr_r0) (s := Tryz.xr_s2) (Tryz.xk_r0 (B := Tryz.xB x y z) hx.1 hx.2) (@Tryz.xk_s2 ⟨Tryz.xB x y z⟩)) 3 _ _ Tryz.xl_0_2 w
    (Tryz.xV hx hz (fun g w => by simp only [VR, hk]) _ _)
theorem Tryz.xm_0_3 (x y z : Int) (hx : 0 ≤ x ∧ x ≤ 63) (hy : -9223372036854775808 ≤ y ∧ y ≤ 9223372036854775807) (hk : y = 2) (hz : 0 ≤ z ∧ z ≤ 65535) (w : World) :
    Calls Tryz.prog 3 #[.int .u8 x, .int .i64 y, .int .u16 z] w fun e w' => e = .returned (.bool true) ∧ Go.RowKit.Below w.heap.size w w' :=
  @law_ok ⟨Tryz.xB x y z⟩ _ _ (Tryz.xC_ok (r := Tryz.xr_r0) (s := Tryz.xr_s3) (Tryz.xk_r0 (B := Tryz.xB x y z) hx.1 hx.2) (@Tryz.xk_s3 ⟨Tryz.xB x y z⟩)) 3 _ _ Tryz.xl_0_3 w
    (Tryz.xV hx hz (fun g w => by simp only [VR, hk]) _ _)
theorem Tryz.xm_0_4 (x y z : Int) (hx : 0 ≤ x ∧ x ≤ 63) (hy : -9223372036854775808 ≤ y ∧ y ≤ 9223372036854775807) (hk : y = 3) (hz : 0 ≤ z ∧ z ≤ 65535) (w : World) :
    Calls Tryz.prog 3 #[.int .u8 x, .int .i64 y, .int .u16 z] w fun e w' => e = .returned (.bool true) ∧ Go.RowKit.Below w.heap.size w w' :=
  @law_ok ⟨Tryz.xB x y z⟩ _ _ (Tryz.xC_ok (r := Tryz.xr_r0) (s := Tryz.xr_s4) (Tryz.xk_r0 (B := Tryz.xB x y z) hx.1 hx.2) (@Tryz.xk_s4 ⟨Tryz.xB x y z⟩)) 3 _ _ Tryz.xl_0_4 w
    (Tryz.xV hx hz (fun g w => by simp only [VR, hk]) _ _)
theorem Tryz.xm_0_5 (x y z : Int) (hx : 0 ≤ x ∧ x ≤ 63) (hy : -9223372036854775808 ≤ y ∧ y ≤ 9223372036854775807) (hk : 4 ≤ y) (hz : 0 ≤ z ∧ z ≤ 65535) (w : World) :
    Calls Tryz.prog 3 #[.int .u8 x, .int .i64 y, .int .u16 z] w fun e w' => e = .returned (.bool true) ∧ Go.RowKit.Below w.heap.size w w' :=
  @law_ok ⟨Tryz.xB x y z⟩ _ _ (Tryz.xC_ok (r := Tryz.xr_r0) (s := Tryz.xr_s5) (Tryz.xk_r0 (B := Tryz.xB x y z) hx.1 hx.2) (@Tryz.xk_s5 ⟨Tryz.xB x y z⟩)) 3 _ _ Tryz.xl_0_5 w
    (Tryz.xV hx hz (fun g w => by simp only [VR]; exact ⟨by show Value.int .i64 y = Value.int .i64 (y + 0); rw [Int.add_zero], by show _ ≤ y; omega, by show y ≤ _; omega⟩) _ _)
theorem Tryz.xm_1_0 (x y z : Int) (hx : 64 ≤ x ∧ x ≤ 69) (hy : -9223372036854775808 ≤ y ∧ y ≤ 9223372036854775807) (hk : y ≤ -1) (hz : 0 ≤ z ∧ z ≤ 65535) (w : World) :
    Calls Tryz.prog 3 #[.int .u8 x, .int .i64 y, .int .u16 z] w fun e w' => e = .returned (.bool true) ∧ Go.RowKit.Below w.heap.size w w' :=
  @law_ok ⟨Tryz.xB x y z⟩ _ _ (Tryz.xC_ok (r := Tryz.xr_r1) (s := Tryz.xr_s0) (Tryz.xk_r1 (B := Tryz.xB x y z) hx.1 hx.2) (@Tryz.xk_s0 ⟨Tryz.xB x y z⟩)) 3 _ _ Tryz.xl_1_0 w
    (Tryz.xV hx hz (fun g w => by simp only [VR]; exact ⟨by show Value.int .i64 y = Value.int .i64 (y + 0); rw [Int.add_zero], by show _ ≤ y; omega, by show y ≤ _; omega⟩) _ _)
theorem Tryz.xm_1_1 (x y z : Int) (hx : 64 ≤ x ∧ x ≤ 69) (hy : -9223372036854775808 ≤ y ∧ y ≤ 9223372036854775807) (hk : y = 0) (hz : 0 ≤ z ∧ z ≤ 65535) (w : World) :
    Calls Tryz.prog 3 #[.int .u8 x, .int .i64 y, .int .u16 z] w fun e w' => e = .returned (.bool true) ∧ Go.RowKit.Below w.heap.size w w' :=
  @law_ok ⟨Tryz.xB x y z⟩ _ _ (Tryz.xC_ok (r := Tryz.xr_r1) (s := Tryz.xr_s1) (Tryz.xk_r1 (B := Tryz.xB x y z) hx.1 hx.2) (@Tryz.xk_s1 ⟨Tryz.xB x y z⟩)) 3 _ _ Tryz.xl_1_1 w
    (Tryz.xV hx hz (fun g w => by simp only [VR, hk]) _ _)
theorem Tryz.xm_1_2 (x y z : Int) (hx : 64 ≤ x ∧ x ≤ 69) (hy : -9223372036854775808 ≤ y ∧ y ≤ 9223372036854775807) (hk : y = 1) (hz : 0 ≤ z ∧ z ≤ 65535) (w : World) :
    Calls Tryz.prog 3 #[.int .u8 x, .int .i64 y, .int .u16 z] w fun e w' => e = .returned (.bool true) ∧ Go.RowKit.Below w.heap.size w w' :=
  @law_ok ⟨Tryz.xB x y z⟩ _ _ (Tryz.xC_ok (r := Tryz.xr_r1) (s := Tryz.xr_s2) (Tryz.xk_r1 (B := Tryz.xB x y z) hx.1 hx.2) (@Tryz.xk_s2 ⟨Tryz.xB x y z⟩)) 3 _ _ Tryz.xl_1_2 w
    (Tryz.xV hx hz (fun g w => by simp only [VR, hk]) _ _)
theorem Tryz.xm_1_3 (x y z : Int) (hx : 64 ≤ x ∧ x ≤ 69) (hy : -9223372036854775808 ≤ y ∧ y ≤ 9223372036854775807) (hk : y = 2) (hz : 0 ≤ z ∧ z ≤ 65535) (w : World) :
    Calls Tryz.prog 3 #[.int .u8 x, .int .i64 y, .int .u16 z] w fun e w' => e = .returned (.bool true) ∧ Go.RowKit.Below w.heap.size w w' :=
  @law_ok ⟨Tryz.xB x y z⟩ _ _ (Tryz.xC_ok (r := Tryz.xr_r1) (s := Tryz.xr_s3) (Tryz.xk_r1 (B := Tryz.xB x y z) hx.1 hx.2) (@Tryz.xk_s3 ⟨Tryz.xB x y z⟩)) 3 _ _ Tryz.xl_1_3 w
    (Tryz.xV hx hz (fun g w => by simp only [VR, hk]) _ _)
theorem Tryz.xm_1_4 (x y z : Int) (hx : 64 ≤ x ∧ x ≤ 69) (hy : -9223372036854775808 ≤ y ∧ y ≤ 9223372036854775807) (hk : y = 3) (hz : 0 ≤ z ∧ z ≤ 65535) (w : World) :
    Calls Tryz.prog 3 #[.int .u8 x, .int .i64 y, .int .u16 z] w fun e w' => e = .returned (.bool true) ∧ Go.RowKit.Below w.heap.size w w' :=
  @law_ok ⟨Tryz.xB x y z⟩ _ _ (Tryz.xC_ok (r := Tryz.xr_r1) (s := Tryz.xr_s4) (Tryz.xk_r1 (B := Tryz.xB x y z) hx.1 hx.2) (@Tryz.xk_s4 ⟨Tryz.xB x y z⟩)) 3 _ _ Tryz.xl_1_4 w
    (Tryz.xV hx hz (fun g w => by simp only [VR, hk]) _ _)
theorem Tryz.xm_1_5 (x y z : Int) (hx : 64 ≤ x ∧ x ≤ 69) (hy : -9223372036854775808 ≤ y ∧ y ≤ 9223372036854775807) (hk : 4 ≤ y) (hz : 0 ≤ z ∧ z ≤ 65535) (w : World) :
    Calls Tryz.prog 3 #[.int .u8 x, .int .i64 y, .int .u16 z] w fun e w' => e = .returned (.bool true) ∧ Go.RowKit.Below w.heap.size w w' :=
  @law_ok ⟨Tryz.xB x y z⟩ _ _ (Tryz.xC_ok (r := Tryz.xr_r1) (s := Tryz.xr_s5) (Tryz.xk_r1 (B := Tryz.xB x y z) hx.1 hx.2) (@Tryz.xk_s5 ⟨Tryz.xB x y z⟩)) 3 _ _ Tryz.xl_1_5 w
    (Tryz.xV hx hz (fun g w => by simp only [VR]; exact ⟨by show Value.int .i64 y = Value.int .i64 (y + 0); rw [Int.add_zero], by show _ ≤ y; omega, by show y ≤ _; omega⟩) _ _)
theorem Tryz.xm_2_0 (x y z : Int) (hx : 70 ≤ x ∧ x ≤ 133) (hy : -9223372036854775808 ≤ y ∧ y ≤ 9223372036854775807) (hk : y ≤ -1) (hz : 0 ≤ z ∧ z ≤ 65535) (w : World) :
    Calls Tryz.prog 3 #[.int .u8 x, .int .i64 y, .int .u16 z] w fun e w' => e = .returned (.bool true) ∧ Go.RowKit.Below w.heap.size w w' :=
  @law_ok ⟨Tryz.xB x y z⟩ _ _ (Tryz.xC_ok (r := Tryz.xr_r2) (s := Tryz.xr_s0) (Tryz.xk_r2 (B := Tryz.xB x y z) hx.1 hx.2) (@Tryz.xk_s0 ⟨Tryz.xB x y z⟩)) 3 _ _ Tryz.xl_2_0 w
    (Tryz.xV hx hz (fun g w => by simp only [VR]; exact ⟨by show Value.int .i64 y = Value.int .i64 (y + 0); rw [Int.add_zero], by show _ ≤ y; omega, by show y ≤ _; omega⟩) _ _)
theorem Tryz.xm_2_1 (x y z : Int) (hx : 70 ≤ x ∧ x ≤ 133) (hy : -9223372036854775808 ≤ y ∧ y ≤ 9223372036854775807) (hk : y = 0) (hz : 0 ≤ z ∧ z ≤ 65535) (w : World) :
    Calls Tryz.prog 3 #[.int .u8 x, .int .i64 y, .int .u16 z] w fun e w' => e = .returned (.bool true) ∧ Go.RowKit.Below w.heap.size w w' :=
  @law_ok ⟨Tryz.xB x y z⟩ _ _ (Tryz.xC_ok (r := Tryz.xr_r2) (s := Tryz.xr_s1) (Tryz.xk_r2 (B := Tryz.xB x y z) hx.1 hx.2) (@Tryz.xk_s1 ⟨Tryz.xB x y z⟩)) 3 _ _ Tryz.xl_2_1 w
    (Tryz.xV hx hz (fun g w => by simp only [VR, hk]) _ _)
theorem Tryz.xm_2_2 (x y z : Int) (hx : 70 ≤ x ∧ x ≤ 133) (hy : -9223372036854775808 ≤ y ∧ y ≤ 9223372036854775807) (hk : y = 1) (hz : 0 ≤ z ∧ z ≤ 65535) (w : World) :
    Calls Tryz.prog 3 #[.int .u8 x, .int .i64 y, .int .u16 z] w fun e w' => e = .returned (.bool true) ∧ Go.RowKit.Below w.heap.size w w' :=
  @law_ok ⟨Tryz.xB x y z⟩ _ _ (Tryz.xC_ok (r := Tryz.xr_r2) (s := Tryz.xr_s2) (Tryz.xk_r2 (B := Tryz.xB x y z) hx.1 hx.2) (@Tryz.xk_s2 ⟨Tryz.xB x y z⟩)) 3 _ _ Tryz.xl_2_2 w
    (Tryz.xV hx hz (fun g w => by simp only [VR, hk]) _ _)
theorem Tryz.xm_2_3 (x y z : Int) (hx : 70 ≤ x ∧ x ≤ 133) (hy : -9223372036854775808 ≤ y ∧ y ≤ 9223372036854775807) (hk : y = 2) (hz : 0 ≤ z ∧ z ≤ 65535) (w : World) :
    Calls Tryz.prog 3 #[.int .u8 x, .int .i64 y, .int .u16 z] w fun e w' => e = .returned (.bool true) ∧ Go.RowKit.Below w.heap.size w w' :=
  @law_ok ⟨Tryz.xB x y z⟩ _ _ (Tryz.xC_ok (r := Tryz.xr_r2) (s := Tryz.xr_s3) (Tryz.xk_r2 (B := Tryz.xB x y z) hx.1 hx.2) (@Tryz.xk_s3 ⟨Tryz.xB x y z⟩)) 3 _ _ Tryz.xl_2_3 w
    (Tryz.xV hx hz (fun g w => by simp only [VR, hk]) _ _)
theorem Tryz.xm_2_4 (x y z : Int) (hx : 70 ≤ x ∧ x ≤ 133) (hy : -9223372036854775808 ≤ y ∧ y ≤ 9223372036854775807) (hk : y = 3) (hz : 0 ≤ z ∧ z ≤ 65535) (w : World) :
    Calls Tryz.prog 3 #[.int .u8 x, .int .i64 y, .int .u16 z] w fun e w' => e = .returned (.bool true) ∧ Go.RowKit.Below w.heap.size w w' :=
  @law_ok ⟨Tryz.xB x y z⟩ _ _ (Tryz.xC_ok (r := Tryz.xr_r2) (s := Tryz.xr_s4) (Tryz.xk_r2 (B := Tryz.xB x y z) hx.1 hx.2) (@Tryz.xk_s4 ⟨Tryz.xB x y z⟩)) 3 _ _ Tryz.xl_2_4 w
    (Tryz.xV hx hz (fun g w => by simp only [VR, hk]) _ _)
theorem Tryz.xm_2_5 (x y z : Int) (hx : 70 ≤ x ∧ x ≤ 133) (hy : -9223372036854775808 ≤ y ∧ y ≤ 9223372036854775807) (hk : 4 ≤ y) (hz : 0 ≤ z ∧ z ≤ 65535) (w : World) :
    Calls Tryz.prog 3 #[.int .u8 x, .int .i64 y, .int .u16 z] w fun e w' => e = .returned (.bool true) ∧ Go.RowKit.Below w.heap.size w w' :=
  @law_ok ⟨Tryz.xB x y z⟩ _ _ (Tryz.xC_ok (r := Tryz.xr_r2) (s := Tryz.xr_s5) (Tryz.xk_r2 (B := Tryz.xB x y z) hx.1 hx.2) (@Tryz.xk_s5 ⟨Tryz.xB x y z⟩)) 3 _ _ Tryz.xl_2_5 w
    (Tryz.xV hx hz (fun g w => by simp only [VR]; exact ⟨by show Value.int .i64 y = Value.int .i64 (y + 0); rw [Int.add_zero], by show _ ≤ y; omega, by show y ≤ _; omega⟩) _ _)
theorem Tryz.xm_3_0 (x y z : Int) (hx : 134 ≤ x ∧ x ≤ 139) (hy : -9223372036854775808 ≤ y ∧ y ≤ 9223372036854775807) (hk : y ≤ -1) (hz : 0 ≤ z ∧ z ≤ 65535) (w : World) :
    Calls Tryz.prog 3 #[.int .u8 x, .int .i64 y, .int .u16 z] w fun e w' => e = .returned (.bool true) ∧ Go.RowKit.Below w.heap.size w w' :=
  @law_ok ⟨Tryz.xB x y z⟩ _ _ (Tryz.xC_ok (r := Tryz.xr_r3) (s := Tryz.xr_s0) (Tryz.xk_r3 (B := Tryz.xB x y z) hx.1 hx.2) (@Tryz.xk_s0 ⟨Tryz.xB x y z⟩)) 3 _ _ Tryz.xl_3_0 w
    (Tryz.xV hx hz (fun g w => by simp only [VR]; exact ⟨by show Value.int .i64 y = Value.int .i64 (y + 0); rw [Int.add_zero], by show _ ≤ y; omega, by show y ≤ _; omega⟩) _ _)
theorem Tryz.xm_3_1 (x y z : Int) (hx : 134 ≤ x ∧ x ≤ 139) (hy : -9223372036854775808 ≤ y ∧ y ≤ 9223372036854775807) (hk : y = 0) (hz : 0 ≤ z ∧ z ≤ 65535) (w : World) :
    Calls Tryz.prog 3 #[.int .u8 x, .int .i64 y, .int .u16 z] w fun e w' => e = .returned (.bool true) ∧ Go.RowKit.Below w.heap.size w w' :=
  @law_ok ⟨Tryz.xB x y z⟩ _ _ (Tryz.xC_ok (r := Tryz.xr_r3) (s := Tryz.xr_s1) (Tryz.xk_r3 (B := Tryz.xB x y z) hx.1 hx.2) (@Tryz.xk_s1 ⟨Tryz.xB x y z⟩)) 3 _ _ Tryz.xl_3_1 w
    (Tryz.xV hx hz (fun g w => by simp only [VR, hk]) _ _)
theorem Tryz.xm_3_2 (x y z : Int) (hx : 134 ≤ x ∧ x ≤ 139) (hy : -9223372036854775808 ≤ y ∧ y ≤ 9223372036854775807) (hk : y = 1) (hz : 0 ≤ z ∧ z ≤ 65535) (w : World) :
    Calls Tryz.prog 3 #[.int .u8 x, .int .i64 y, .int .u16 z] w fun e w' => e = .returned (.bool true) ∧ Go.RowKit.Below w.heap.size w w' :=
  @law_ok ⟨Tryz.xB x y z⟩ _ _ (Tryz.xC_ok (r := Tryz.xr_r3) (s := Tryz.xr_s2) (Tryz.xk_r3 (B := Tryz.xB x y z) hx.1 hx.2) (@Tryz.xk_s2 ⟨Tryz.xB x y z⟩)) 3 _ _ Tryz.xl_3_2 w
    (Tryz.xV hx hz (fun g w => by simp only [VR, hk]) _ _)
theorem Tryz.xm_3_3 (x y z : Int) (hx : 134 ≤ x ∧ x ≤ 139) (hy : -9223372036854775808 ≤ y ∧ y ≤ 9223372036854775807) (hk : y = 2) (hz : 0 ≤ z ∧ z ≤ 65535) (w : World) :
    Calls Tryz.prog 3 #[.int .u8 x, .int .i64 y, .int .u16 z] w fun e w' => e = .returned (.bool true) ∧ Go.RowKit.Below w.heap.size w w' :=
  @law_ok ⟨Tryz.xB x y z⟩ _ _ (Tryz.xC_ok (r := Tryz.xr_r3) (s := Tryz.xr_s3) (Tryz.xk_r3 (B := Tryz.xB x y z) hx.1 hx.2) (@Tryz.xk_s3 ⟨Tryz.xB x y z⟩)) 3 _ _ Tryz.xl_3_3 w
    (Tryz.xV hx hz (fun g w => by simp only [VR, hk]) _ _)
theorem Tryz.xm_3_4 (x y z : Int) (hx : 134 ≤ x ∧ x ≤ 139) (hy : -9223372036854775808 ≤ y ∧ y ≤ 9223372036854775807) (hk : y = 3) (hz : 0 ≤ z ∧ z ≤ 65535) (w : World) :
    Calls Tryz.prog 3 #[.int .u8 x, .int .i64 y, .int .u16 z] w fun e w' => e = .returned (.bool true) ∧ Go.RowKit.Below w.heap.size w w' :=
  @law_ok ⟨Tryz.xB x y z⟩ _ _ (Tryz.xC_ok (r := Tryz.xr_r3) (s := Tryz.xr_s4) (Tryz.xk_r3 (B := Tryz.xB x y z) hx.1 hx.2) (@Tryz.xk_s4 ⟨Tryz.xB x y z⟩)) 3 _ _ Tryz.xl_3_4 w
    (Tryz.xV hx hz (fun g w => by simp only [VR, hk]) _ _)
theorem Tryz.xm_3_5 (x y z : Int) (hx : 134 ≤ x ∧ x ≤ 139) (hy : -9223372036854775808 ≤ y ∧ y ≤ 9223372036854775807) (hk : 4 ≤ y) (hz : 0 ≤ z ∧ z ≤ 65535) (w : World) :
    Calls Tryz.prog 3 #[.int .u8 x, .int .i64 y, .int .u16 z] w fun e w' => e = .returned (.bool true) ∧ Go.RowKit.Below w.heap.size w w' :=
  @law_ok ⟨Tryz.xB x y z⟩ _ _ (Tryz.xC_ok (r := Tryz.xr_r3) (s := Tryz.xr_s5) (Tryz.xk_r3 (B := Tryz.xB x y z) hx.1 hx.2) (@Tryz.xk_s5 ⟨Tryz.xB x y z⟩)) 3 _ _ Tryz.xl_3_5 w
    (Tryz.xV hx hz (fun g w => by simp only [VR]; exact ⟨by show Value.int .i64 y = Value.int .i64 (y + 0); rw [Int.add_zero], by show _ ≤ y; omega, by show y ≤ _; omega⟩) _ _)
theorem Tryz.xm_4_0 (x y z : Int) (hx : 140 ≤ x ∧ x ≤ 203) (hy : -9223372036854775808 ≤ y ∧ y ≤ 9223372036854775807) (hk : y ≤ -1) (hz : 0 ≤ z ∧ z ≤ 65535) (w : World) :
    Calls Tryz.prog 3 #[.int .u8 x, .int .i64 y, .int .u16 z] w fun e w' => e = .returned (.bool true) ∧ Go.RowKit.Below w.heap.size w w' :=
  @law_ok ⟨Tryz.xB x y z⟩ _ _ (Tryz.xC_ok (r := Tryz.xr_r4) (s := Tryz.xr_s0) (Tryz.xk_r4 (B := Tryz.xB x y z) hx.1 hx.2) (@Tryz.xk_s0 ⟨Tryz.xB x y z⟩)) 3 _ _ Tryz.xl_4_0 w
    (Tryz.xV hx hz (fun g w => by simp only [VR]; exact ⟨by show Value.int .i64 y = Value.int .i64 (y + 0); rw [Int.add_zero], by show _ ≤ y; omega, by show y ≤ _; omega⟩) _ _)
theorem Tryz.xm_4_1 (x y z : Int) (hx : 140 ≤ x ∧ x ≤ 203) (hy : -9223372036854775808 ≤ y ∧ y ≤ 9223372036854775807) (hk : y = 0) (hz : 0 ≤ z ∧ z ≤ 65535) (w : World) :
    Calls Tryz.prog 3 #[.int .u8 x, .int .i64 y, .int .u16 z] w fun e w' => e = .returned (.bool true) ∧ Go.RowKit.Below w.heap.size w w' :=
  @law_ok ⟨Tryz.xB x y z⟩ _ _ (Tryz.xC_ok (r := Tryz.xr_r4) (s := Tryz.xr_s1) (Tryz.xk_r4 (B := Tryz.xB x y z) hx.1 hx.2) (@Tryz.xk_s1 ⟨Tryz.xB x y z⟩)) 3 _ _ Tryz.xl_4_1 w
    (Tryz.xV hx hz (fun g w => by simp only [VR, hk]) _ _)
theorem Tryz.xm_4_2 (x y z : Int) (hx : 140 ≤ x ∧ x ≤ 203) (hy : -9223372036854775808 ≤ y ∧ y ≤ 9223372036854775807) (hk : y = 1) (hz : 0 ≤ z ∧ z ≤ 65535) (w : World) :
    Calls Tryz.prog 3 #[.int .u8 x, .int .i64 y, .int .u16 z] w fun e w' => e = .returned (.bool true) ∧ Go.RowKit.Below w.heap.size w w' :=
  @law_ok ⟨Tryz.xB x y z⟩ _ _ (Tryz.xC_ok (r := Tryz.xr_r4) (s := Tryz.xr_s2) (Tryz.xk_r4 (B := Tryz.xB x y z) hx.1 hx.2) (@Tryz.xk_s2 ⟨Tryz.xB x y z⟩)) 3 _ _ Tryz.xl_4_2 w
    (Tryz.xV hx hz (fun g w => by simp only [VR, hk]) _ _)
theorem Tryz.xm_4_3 (x y z : Int) (hx : 140 ≤ x ∧ x ≤ 203) (hy : -9223372036854775808 ≤ y ∧ y ≤ 9223372036854775807) (hk : y = 2) (hz : 0 ≤ z ∧ z ≤ 65535) (w : World) :
    Calls Tryz.prog 3 #[.int .u8 x, .int .i64 y, .int .u16 z] w fun e w' => e = .returned (.bool true) ∧ Go.RowKit.Below w.heap.size w w' :=
  @law_ok ⟨Tryz.xB x y z⟩ _ _ (Tryz.xC_ok (r := Tryz.xr_r4) (s := Tryz.xr_s3) (Tryz.xk_r4 (B := Tryz.xB x y z) hx.1 hx.2) (@Tryz.xk_s3 ⟨Tryz.xB x y z⟩)) 3 _ _ Tryz.xl_4_3 w
    (Tryz.xV hx hz (fun g w => by simp only [VR, hk]) _ _)
theorem Tryz.xm_4_4 (x y z : Int) (hx : 140 ≤ x ∧ x ≤ 203) (hy : -9223372036854775808 ≤ y ∧ y ≤ 9223372036854775807) (hk : y = 3) (hz : 0 ≤ z ∧ z ≤ 65535) (w : World) :
    Calls Tryz.prog 3 #[.int .u8 x, .int .i64 y, .int .u16 z] w fun e w' => e = .returned (.bool true) ∧ Go.RowKit.Below w.heap.size w w' :=
  @law_ok ⟨Tryz.xB x y z⟩ _ _ (Tryz.xC_ok (r := Tryz.xr_r4) (s := Tryz.xr_s4) (Tryz.xk_r4 (B := Tryz.xB x y z) hx.1 hx.2) (@Tryz.xk_s4 ⟨Tryz.xB x y z⟩)) 3 _ _ Tryz.xl_4_4 w
    (Tryz.xV hx hz (fun g w => by simp only [VR, hk]) _ _)
theorem Tryz.xm_4_5 (x y z : Int) (hx : 140 ≤ x ∧ x ≤ 203) (hy : -9223372036854775808 ≤ y ∧ y ≤ 9223372036854775807) (hk : 4 ≤ y) (hz : 0 ≤ z ∧ z ≤ 65535) (w : World) :
    Calls Tryz.prog 3 #[.int .u8 x, .int .i64 y, .int .u16 z] w fun e w' => e = .returned (.bool true) ∧ Go.RowKit.Below w.heap.size w w' :=
  @law_ok ⟨Tryz.xB x y z⟩ _ _ (Tryz.xC_ok (r := Tryz.xr_r4) (s := Tryz.xr_s5) (Tryz.xk_r4 (B := Tryz.xB x y z) hx.1 hx.2) (@Tryz.xk_s5 ⟨Tryz.xB x y z⟩)) 3 _ _ Tryz.xl_4_5 w
    (Tryz.xV hx hz (fun g w => by simp only [VR]; exact ⟨by show Value.int .i64 y = Value.int .i64 (y + 0); rw [Int.add_zero], by show _ ≤ y; omega, by show y ≤ _; omega⟩) _ _)
theorem Tryz.xm_5_0 (x y z : Int) (hx : 204 ≤ x ∧ x ≤ 209) (hy : -9223372036854775808 ≤ y ∧ y ≤ 9223372036854775807) (hk : y ≤ -1) (hz : 0 ≤ z ∧ z ≤ 65535) (w : World) :
    Calls Tryz.prog 3 #[.int .u8 x, .int .i64 y, .int .u16 z] w fun e w' => e = .returned (.bool true) ∧ Go.RowKit.Below w.heap.size w w' :=
  @law_ok ⟨Tryz.xB x y z⟩ _ _ (Tryz.xC_ok (r := Tryz.xr_r5) (s := Tryz.xr_s0) (Tryz.xk_r5 (B := Tryz.xB x y z) hx.1 hx.2) (@Tryz.xk_s0 ⟨Tryz.xB x y z⟩)) 3 _ _ Tryz.xl_5_0 w
    (Tryz.xV hx hz (fun g w => by simp only [VR]; exact ⟨by show Value.int .i64 y = Value.int .i64 (y + 0); rw [Int.add_zero], by show _ ≤ y; omega, by show y ≤ _; omega⟩) _ _)
theorem Tryz.xm_5_1 (x y z : Int) (hx : 204 ≤ x ∧ x ≤ 209) (hy : -9223372036854775808 ≤ y ∧ y ≤ 9223372036854775807) (hk : y = 0) (hz : 0 ≤ z ∧ z ≤ 65535) (w : World) :
    Calls Tryz.prog 3 #[.int .u8 x, .int .i64 y, .int .u16 z] w fun e w' => e = .returned (.bool true) ∧ Go.RowKit.Below w.heap.size w w' :=
  @law_ok ⟨Tryz.xB x y z⟩ _ _ (Tryz.xC_ok (r := Tryz.xr_r5) (s := Tryz.xr_s1) (Tryz.xk_r5 (B := Tryz.xB x y z) hx.1 hx.2) (@Tryz.xk_s1 ⟨Tryz.xB x y z⟩)) 3 _ _ Tryz.xl_5_1 w
    (Tryz.xV hx hz (fun g w => by simp only [VR, hk]) _ _)
theorem Tryz.xm_5_2 (x y z : Int) (hx : 204 ≤ x ∧ x ≤ 209) (hy : -9223372036854775808 ≤ y ∧ y ≤ 9223372036854775807) (hk : y = 1) (hz : 0 ≤ z ∧ z ≤ 65535) (w : World) :
    Calls Tryz.prog 3 #[.int .u8 x, .int .i64 y, .int .u16 z] w fun e w' => e = .returned (.bool true) ∧ Go.RowKit.Below w.heap.size w w' :=
  @law_ok ⟨Tryz.xB x y z⟩ _ _ (Tryz.xC_ok (r := Tryz.xr_r5) (s := Tryz.xr_s2) (Tryz.xk_r5 (B := Tryz.xB x y z) hx.1 hx.2) (@Tryz.xk_s2 ⟨Tryz.xB x y z⟩)) 3 _ _ Tryz.xl_5_2 w
    (Tryz.xV hx hz (fun g w => by simp only [VR, hk]) _ _)
theorem Tryz.xm_5_3 (x y z : Int) (hx : 204 ≤ x ∧ x ≤ 209) (hy : -9223372036854775808 ≤ y ∧ y ≤ 9223372036854775807) (hk : y = 2) (hz : 0 ≤ z ∧ z ≤ 65535) (w : World) :
    Calls Tryz.prog 3 #[.int .u8 x, .int .i64 y, .int .u16 z] w fun e w' => e = .returned (.bool true) ∧ Go.RowKit.Below w.heap.size w w' :=
  @law_ok ⟨Tryz.xB x y z⟩ _ _ (Tryz.xC_ok (r := Tryz.xr_r5) (s := Tryz.xr_s3) (Tryz.xk_r5 (B := Tryz.xB x y z) hx.1 hx.2) (@Tryz.xk_s3 ⟨Tryz.xB x y z⟩)) 3 _ _ Tryz.xl_5_3 w
    (Tryz.xV hx hz (fun g w => by simp only [VR, hk]) _ _)
theorem Tryz.xm_5_4 (x y z : Int) (hx : 204 ≤ x ∧ x ≤ 209) (hy : -9223372036854775808 ≤ y ∧ y ≤ 9223372036854775807) (hk : y = 3) (hz : 0 ≤ z ∧ z ≤ 65535) (w : World) :
    Calls Tryz.prog 3 #[.int .u8 x, .int .i64 y, .int .u16 z] w fun e w' => e = .returned (.bool true) ∧ Go.RowKit.Below w.heap.size w w' :=
  @law_ok ⟨Tryz.xB x y z⟩ _ _ (Tryz.xC_ok (r := Tryz.xr_r5) (s := Tryz.xr_s4) (Tryz.xk_r5 (B := Tryz.xB x y z) hx.1 hx.2) (@Tryz.xk_s4 ⟨Tryz.xB x y z⟩)) 3 _ _ Tryz.xl_5_4 w
    (Tryz.xV hx hz (fun g w => by simp only [VR, hk]) _ _)
theorem Tryz.xm_5_5 (x y z : Int) (hx : 204 ≤ x ∧ x ≤ 209) (hy : -9223372036854775808 ≤ y ∧ y ≤ 9223372036854775807) (hk : 4 ≤ y) (hz : 0 ≤ z ∧ z ≤ 65535) (w : World) :
    Calls Tryz.prog 3 #[.int .u8 x, .int .i64 y, .int .u16 z] w fun e w' => e = .returned (.bool true) ∧ Go.RowKit.Below w.heap.size w w' :=
  @law_ok ⟨Tryz.xB x y z⟩ _ _ (Tryz.xC_ok (r := Tryz.xr_r5) (s := Tryz.xr_s5) (Tryz.xk_r5 (B := Tryz.xB x y z) hx.1 hx.2) (@Tryz.xk_s5 ⟨Tryz.xB x y z⟩)) 3 _ _ Tryz.xl_5_5 w
    (Tryz.xV hx hz (fun g w => by simp only [VR]; exact ⟨by show Value.int .i64 y = Value.int .i64 (y + 0); rw [Int.add_zero], by show _ ≤ y; omega, by show y ≤ _; omega⟩) _ _)
theorem Tryz.xm_6_0 (x y z : Int) (hx : 210 ≤ x ∧ x ≤ 255) (hy : -9223372036854775808 ≤ y ∧ y ≤ 9223372036854775807) (hk : y ≤ -1) (hz : 0 ≤ z ∧ z ≤ 65535) (w : World) :
    Calls Tryz.prog 3 #[.int .u8 x, .int .i64 y, .int .u16 z] w fun e w' => e = .returned (.bool true) ∧ Go.RowKit.Below w.heap.size w w' :=
  @law_ok ⟨Tryz.xB x y z⟩ _ _ (Tryz.xC_ok (r := Tryz.xr_r6) (s := Tryz.xr_s0) (Tryz.xk_r6 (B := Tryz.xB x y z) hx.1 hx.2) (@Tryz.xk_s0 ⟨Tryz.xB x y z⟩)) 3 _ _ Tryz.xl_6_0 w
    (Tryz.xV hx hz (fun g w => by simp only [VR]; exact ⟨by show Value.int .i64 y = Value.int .i64 (y + 0); rw [Int.add_zero], by show _ ≤ y; omega, by show y ≤ _; omega⟩) _ _)
theorem Tryz.xm_6_1 (x y z : Int) (hx : 210 ≤ x ∧ x ≤ 255) (hy : -9223372036854775808 ≤ y ∧ y ≤ 9223372036854775807) (hk : y = 0) (hz : 0 ≤ z ∧ z ≤ 65535) (w : World) :
    Calls Tryz.prog 3 #[.int .u8 x, .int .i64 y, .int .u16 z] w fun e w' => e = .returned (.bool true) ∧ Go.RowKit.Below w.heap.size w w' :=
  @law_ok ⟨Tryz.xB x y z⟩ _ _ (Tryz.xC_ok (r := Tryz.xr_r6) (s := Tryz.xr_s1) (Tryz.xk_r6 (B := Tryz.xB x y z) hx.1 hx.2) (@Tryz.xk_s1 ⟨Tryz.xB x y z⟩)) 3 _ _ Tryz.xl_6_1 w
    (Tryz.xV hx hz (fun g w => by simp only [VR, hk]) _ _)
theorem Tryz.xm_6_2 (x y z : Int) (hx : 210 ≤ x ∧ x ≤ 255) (hy : -9223372036854775808 ≤ y ∧ y ≤ 9223372036854775807) (hk : y = 1) (hz : 0 ≤ z ∧ z ≤ 65535) (w : World) :
    Calls Tryz.prog 3 #[.int .u8 x, .int .i64 y, .int .u16 z] w fun e w' => e = .returned (.bool true) ∧ Go.RowKit.Below w.heap.size w w' :=
  @law_ok ⟨Tryz.xB x y z⟩ _ _ (Tryz.xC_ok (r := Tryz.xr_r6) (s := Tryz.xr_s2) (Tryz.xk_r6 (B := Tryz.xB x y z) hx.1 hx.2) (@Tryz.xk_s2 ⟨Tryz.xB x y z⟩)) 3 _ _ Tryz.xl_6_2 w
    (Tryz.xV hx hz (fun g w => by simp only [VR, hk]) _ _)
theorem Tryz.xm_6_3 (x y z : Int) (hx : 210 ≤ x ∧ x ≤ 255) (hy : -9223372036854775808 ≤ y ∧ y ≤ 9223372036854775807) (hk : y = 2) (hz : 0 ≤ z ∧ z ≤ 65535) (w : World) :
    Calls Tryz.prog 3 #[.int .u8 x, .int .i64 y, .int .u16 z] w fun e w' => e = .returned (.bool true) ∧ Go.RowKit.Below w.heap.size w w' :=
  @law_ok ⟨Tryz.xB x y z⟩ _ _ (Tryz.xC_ok (r := Tryz.xr_r6) (s := Tryz.xr_s3) (Tryz.xk_r6 (B := Tryz.xB x y z) hx.1 hx.2) (@Tryz.xk_s3 ⟨Tryz.xB x y z⟩)) 3 _ _ Tryz.xl_6_3 w
    (Tryz.xV hx hz (fun g w => by simp only [VR, hk]) _ _)
theorem Tryz.xm_6_4 (x y z : Int) (hx : 210 ≤ x ∧ x ≤ 255) (hy : -9223372036854775808 ≤ y ∧ y ≤ 9223372036854775807) (hk : y = 3) (hz : 0 ≤ z ∧ z ≤ 65535) (w : World) :
    Calls Tryz.prog 3 #[.int .u8 x, .int .i64 y, .int .u16 z] w fun e w' => e = .returned (.bool true) ∧ Go.RowKit.Below w.heap.size w w' :=
  @law_ok ⟨Tryz.xB x y z⟩ _ _ (Tryz.xC_ok (r := Tryz.xr_r6) (s := Tryz.xr_s4) (Tryz.xk_r6 (B := Tryz.xB x y z) hx.1 hx.2) (@Tryz.xk_s4 ⟨Tryz.xB x y z⟩)) 3 _ _ Tryz.xl_6_4 w
    (Tryz.xV hx hz (fun g w => by simp only [VR, hk]) _ _)
theorem Tryz.xm_6_5 (x y z : Int) (hx : 210 ≤ x ∧ x ≤ 255) (hy : -9223372036854775808 ≤ y ∧ y ≤ 9223372036854775807) (hk : 4 ≤ y) (hz : 0 ≤ z ∧ z ≤ 65535) (w : World) :
    Calls Tryz.prog 3 #[.int .u8 x, .int .i64 y, .int .u16 z] w fun e w' => e = .returned (.bool true) ∧ Go.RowKit.Below w.heap.size w w' :=
  @law_ok ⟨Tryz.xB x y z⟩ _ _ (Tryz.xC_ok (r := Tryz.xr_r6) (s := Tryz.xr_s5) (Tryz.xk_r6 (B := Tryz.xB x y z) hx.1 hx.2) (@Tryz.xk_s5 ⟨Tryz.xB x y z⟩)) 3 _ _ Tryz.xl_6_5 w
    (Tryz.xV hx hz (fun g w => by simp only [VR]; exact ⟨by show Value.int .i64 y = Value.int .i64 (y + 0); rw [Int.add_zero], by show _ ≤ y; omega, by show y ≤ _; omega⟩) _ _)
theorem Tryz.xl_all (x y z : Int) (hx : 0 ≤ x ∧ x ≤ 255) (hy : -9223372036854775808 ≤ y ∧ y ≤ 9223372036854775807) (hz : 0 ≤ z ∧ z ≤ 65535) (w : World) :
    Calls Tryz.prog 3 #[.int .u8 x, .int .i64 y, .int .u16 z] w fun e w' => e = .returned (.bool true) ∧ Go.RowKit.Below w.heap.size w w' := by
  have hk : y ≤ -1 ∨ y = 0 ∨ y = 1 ∨ y = 2 ∨ y = 3 ∨ 4 ≤ y := by omega
  have hr : (0 ≤ x ∧ x ≤ 63) ∨ (64 ≤ x ∧ x ≤ 69) ∨ (70 ≤ x ∧ x ≤ 133) ∨ (134 ≤ x ∧ x ≤ 139) ∨ (140 ≤ x ∧ x ≤ 203) ∨ (204 ≤ x ∧ x ≤ 209) ∨ (210 ≤ x ∧ x ≤ 255) := by omega
  rcases hr with hr | hr | hr | hr | hr | hr | hr <;> rcases hk with hk | hk | hk | hk | hk | hk
  · exact Tryz.xm_0_0 x y z hr hy hk hz w
  · exact Tryz.xm_0_1 x y z hr hy hk hz w
  · exact Tryz.xm_0_2 x y z hr hy hk hz w
  · exact Tryz.xm_0_3 x y z hr hy hk hz w
  · exact Tryz.xm_0_4 x y z hr hy hk hz w
  · exact Tryz.xm_0_5 x y z hr hy hk hz w
  · exact Tryz.xm_1_0 x y z hr hy hk hz w
  · exact Tryz.xm_1_1 x y z hr hy hk hz w
  · exact Tryz.xm_1_2 x y z hr hy hk hz w
  · exact Tryz.xm_1_3 x y z hr hy hk hz w
  · exact Tryz.xm_1_4 x y z hr hy hk hz w
  · exact Tryz.xm_1_5 x y z hr hy hk hz w
  · exact Tryz.xm_2_0 x y z hr hy hk hz w
  · exact Tryz.xm_2_1 x y z hr hy hk hz w
  · exact Tryz.xm_2_2 x y z hr hy hk hz w
  · exact Tryz.xm_2_3 x y z hr hy hk hz w
  · exact Tryz.xm_2_4 x y z hr hy hk hz w
  · exact Tryz.xm_2_5 x y z hr hy hk hz w
  · exact Tryz.xm_3_0 x y z hr hy hk hz w
  · exact Tryz.xm_3_1 x y z hr hy hk hz w
  · exact Tryz.xm_3_2 x y z hr hy hk hz w
  · exact Tryz.xm_3_3 x y z hr hy hk hz w
  · exact Tryz.xm_3_4 x y z hr hy hk hz w
  · exact Tryz.xm_3_5 x y z hr hy hk hz w
  · exact Tryz.xm_4_0 x y z hr hy hk hz w
  · exact Tryz.xm_4_1 x y z hr hy hk hz w
  · exact Tryz.xm_4_2 x y z hr hy hk hz w
  · exact Tryz.xm_4_3 x y z hr hy hk hz w
  · exact Tryz.xm_4_4 x y z hr hy hk hz w
  · exact Tryz.xm_4_5 x y z hr hy hk hz w
  · exact Tryz.xm_5_0 x y z hr hy hk hz w
  · exact Tryz.xm_5_1 x y z hr hy hk hz w
  · exact Tryz.xm_5_2 x y z hr hy hk hz w
  · exact Tryz.xm_5_3 x y z hr hy hk hz w
  · exact Tryz.xm_5_4 x y z hr hy hk hz w
  · exact Tryz.xm_5_5 x y z hr hy hk hz w
  · exact Tryz.xm_6_0 x y z hr hy hk hz w
  · exact Tryz.xm_6_1 x y z hr hy hk hz w
  · exact Tryz.xm_6_2 x y z hr hy hk hz w
  · exact Tryz.xm_6_3 x y z hr hy hk hz w
  · exact Tryz.xm_6_4 x y z hr hy hk hz w
  · exact Tryz.xm_6_5 x y z hr hy hk hz w
end Go.Proofs
