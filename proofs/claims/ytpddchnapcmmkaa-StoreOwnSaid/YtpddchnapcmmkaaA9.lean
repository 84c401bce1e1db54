import Derived.Test.YtpddchnapcmmkaaA8
namespace Go.Proofs.Ytpddchnapcmmkaa
open Go Go.Sy
set_option linter.unusedSimpArgs false
set_option linter.unusedVariables false
def cd3_9 : VCode := (.block 12 (.loop (.seq (.reg [⟨(some 213), none, (.rd (.biI .lss (.tmp 212) (.tmp 211)))⟩])
  (.seq (.cond (.tmp 213) .skip
  (.exit 12))
  (.seq (.block 13 (.seq (.reg [⟨(some 214), none, (.rd (.mov (.tmp 212)))⟩, ⟨(some 215), none, (.rd (.ia 3 (.tmp 210) (.tmp 212)))⟩, ⟨(some 216), none, (.rd (.loadN 3 (.tmp 215)))⟩, ⟨(some 23), none, (.ef (.alloc 58 [(.string ⟨#[]⟩), (.int .i64 0), (.int .u32 0)]))⟩, ⟨(some 22), none, (.rd (.mov (.tmp 214)))⟩, ⟨none, none, (.ef (.store 3 (.tmp 23) (.tmp 216)))⟩])
  (.seq (.draw (.take 0 [1, 8] ⟨(some 217), none, (.rd (.fa 0 (.tmp 23)))⟩ (.take 1 [8] ⟨(some 218), none, (.rd (.load1 (.tmp 217)))⟩ (.take 2 [3, 5, 6, 7, 8] ⟨(some 219), none, (.rd (.fa 5 (.tmp 3)))⟩ (.take 3 [5, 6, 7, 8] ⟨(some 220), none, (.rd (.load1 (.tmp 219)))⟩ (.take 4 [5, 6, 7, 8] ⟨(some 221), none, (.rd (.mov (.tmp 22)))⟩ (.take 5 [6, 7, 8] ⟨(some 222), none, (.rd (.ia 3 (.tmp 220) (.tmp 221)))⟩ (.take 6 [7, 8] ⟨(some 223), none, (.rd (.fa 0 (.tmp 222)))⟩ (.all [(7, ⟨(some 224), none, (.rd (.load1 (.tmp 223)))⟩, (.take 8 [] ⟨(some 225), none, (.rd (.biS .neq (.tmp 218) (.tmp 224)))⟩ .done))])))))))))
  (.cond (.tmp 225) (.seq (.reg [⟨(some 4), none, (.rd (.mov (.val (.bool false))))⟩])
  .ret)
  .skip))))
  (.reg [⟨(some 226), none, (.rd (.biI .add (.tmp 212) (.val (.int .i64 1))))⟩, ⟨(some 212), none, (.rd (.mov (.tmp 226)))⟩]))))))
def cd3_8 : VCode := (.block 10 (.loop (.seq (.reg [⟨(some 197), none, (.rd (.biI .lss (.tmp 196) (.tmp 195)))⟩])
  (.seq (.cond (.tmp 197) .skip
  (.exit 10))
  (.seq (.block 11 (.seq (.reg [⟨(some 198), none, (.rd (.mov (.tmp 196)))⟩, ⟨(some 199), none, (.rd (.ia 1 (.tmp 194) (.tmp 196)))⟩, ⟨(some 200), none, (.rd (.load1 (.tmp 199)))⟩, ⟨(some 20), none, (.rd (.mov (.tmp 198)))⟩, ⟨(some 21), none, (.rd (.mov (.tmp 200)))⟩])
  (.seq (.reg [⟨(some 201), none, (.rd (.mov (.tmp 21)))⟩, ⟨(some 202), none, (.rd (.fa 1 (.tmp 3)))⟩, ⟨(some 203), none, (.rd (.load1 (.tmp 202)))⟩, ⟨(some 204), none, (.rd (.mov (.tmp 20)))⟩, ⟨(some 205), none, (.rd (.ia 1 (.tmp 203) (.tmp 204)))⟩, ⟨(some 206), none, (.rd (.load1 (.tmp 205)))⟩, ⟨(some 207), none, (.rd (.biI .neq (.tmp 201) (.tmp 206)))⟩])
  (.cond (.tmp 207) (.seq (.reg [⟨(some 4), none, (.rd (.mov (.val (.bool false))))⟩])
  .ret)
  .skip))))
  (.reg [⟨(some 208), none, (.rd (.biI .add (.tmp 196) (.val (.int .i64 1))))⟩, ⟨(some 196), none, (.rd (.mov (.tmp 208)))⟩]))))))
def cd3_7 : VCode := (.block 8 (.loop (.seq (.reg [⟨(some 178), none, (.rd (.biI .lss (.tmp 177) (.tmp 176)))⟩])
  (.seq (.cond (.tmp 178) .skip
  (.exit 8))
  (.seq (.block 9 (.seq (.reg [⟨(some 179), none, (.rd (.mov (.tmp 177)))⟩, ⟨(some 180), none, (.rd (.ia 5 (.tmp 175) (.tmp 177)))⟩, ⟨(some 181), none, (.rd (.loadN 5 (.tmp 180)))⟩, ⟨(some 19), none, (.ef (.alloc 56 [(.int .i64 0), (.int .u32 0), (.int .u32 0), (.int .u64 0), (.slice none 0 0)]))⟩, ⟨(some 18), none, (.rd (.mov (.tmp 179)))⟩, ⟨none, none, (.ef (.store 5 (.tmp 19) (.tmp 181)))⟩])
  (.seq (.draw (.take 0 [1, 9] ⟨(some 182), none, (.rd (.fa 0 (.tmp 19)))⟩ (.take 1 [9] ⟨(some 183), none, (.rd (.load1 (.tmp 182)))⟩ (.take 2 [3, 4, 6, 7, 8, 9] ⟨(some 184), none, (.rd (.fa 5 (.tmp 2)))⟩ (.take 3 [4, 6, 7, 8, 9] ⟨(some 185), none, (.rd (.fa 3 (.tmp 184)))⟩ (.take 4 [6, 7, 8, 9] ⟨(some 186), none, (.rd (.load1 (.tmp 185)))⟩ (.take 5 [6, 7, 8, 9] ⟨(some 187), none, (.rd (.mov (.tmp 18)))⟩ (.take 6 [7, 8, 9] ⟨(some 188), none, (.rd (.ia 5 (.tmp 186) (.tmp 187)))⟩ (.take 7 [8, 9] ⟨(some 189), none, (.rd (.fa 0 (.tmp 188)))⟩ (.all [(8, ⟨(some 190), none, (.rd (.load1 (.tmp 189)))⟩, (.take 9 [] ⟨(some 191), none, (.rd (.biI .neq (.tmp 183) (.tmp 190)))⟩ .done))]))))))))))
  (.cond (.tmp 191) (.seq (.reg [⟨(some 4), none, (.rd (.mov (.val (.bool false))))⟩])
  .ret)
  .skip))))
  (.reg [⟨(some 192), none, (.rd (.biI .add (.tmp 177) (.val (.int .i64 1))))⟩, ⟨(some 177), none, (.rd (.mov (.tmp 192)))⟩]))))))
def cd3_6 : VCode := (.block 6 (.loop (.seq (.reg [⟨(some 113), none, (.rd (.biI .lss (.tmp 112) (.tmp 111)))⟩])
  (.seq (.cond (.tmp 113) .skip
  (.exit 6))
  (.seq (.block 7 (.seq (.reg [⟨(some 114), none, (.rd (.mov (.tmp 112)))⟩, ⟨(some 13), none, (.rd (.mov (.tmp 114)))⟩])
  (.reg [⟨(some 115), none, (.rd (.fa 5 (.tmp 8)))⟩, ⟨(some 116), none, (.rd (.load1 (.tmp 115)))⟩, ⟨(some 117), none, (.rd (.mov (.tmp 13)))⟩, ⟨(some 118), none, (.rd (.ia 3 (.tmp 116) (.tmp 117)))⟩, ⟨(some 119), none, (.rd (.fa 0 (.tmp 118)))⟩, ⟨(some 120), none, (.rd (.load1 (.tmp 119)))⟩, ⟨(some 121), none, (.rd (.biS .add (.tmp 120) (.val (.string ⟨#[120]⟩))))⟩, ⟨(some 122), none, (.rd (.ia 3 (.tmp 116) (.tmp 117)))⟩, ⟨(some 123), none, (.rd (.fa 0 (.tmp 122)))⟩, ⟨none, none, (.ef (.store 1 (.tmp 123) (.tmp 121)))⟩])))
  (.reg [⟨(some 124), none, (.rd (.biI .add (.tmp 112) (.val (.int .i64 1))))⟩, ⟨(some 112), none, (.rd (.mov (.tmp 124)))⟩]))))))
def cd3_5 : VCode := (.block 4 (.loop (.seq (.reg [⟨(some 99), none, (.rd (.biI .lss (.tmp 98) (.tmp 97)))⟩])
  (.seq (.cond (.tmp 99) .skip
  (.exit 4))
  (.seq (.block 5 (.seq (.reg [⟨(some 100), none, (.rd (.mov (.tmp 98)))⟩, ⟨(some 12), none, (.rd (.mov (.tmp 100)))⟩])
  (.reg [⟨(some 101), none, (.rd (.fa 1 (.tmp 8)))⟩, ⟨(some 102), none, (.rd (.load1 (.tmp 101)))⟩, ⟨(some 103), none, (.rd (.mov (.tmp 12)))⟩, ⟨(some 104), none, (.rd (.ia 1 (.tmp 102) (.tmp 103)))⟩, ⟨(some 105), none, (.rd (.load1 (.tmp 104)))⟩, ⟨(some 106), none, (.rd (.biI .xor (.tmp 105) (.val (.int .i64 255))))⟩, ⟨(some 107), none, (.rd (.ia 1 (.tmp 102) (.tmp 103)))⟩, ⟨none, none, (.ef (.store 1 (.tmp 107) (.tmp 106)))⟩])))
  (.reg [⟨(some 108), none, (.rd (.biI .add (.tmp 98) (.val (.int .i64 1))))⟩, ⟨(some 98), none, (.rd (.mov (.tmp 108)))⟩]))))))
def cd3_4 : VCode := (.block 2 (.loop (.seq (.reg [⟨(some 82), none, (.rd (.biI .lss (.tmp 81) (.tmp 80)))⟩])
  (.seq (.cond (.tmp 82) .skip
  (.exit 2))
  (.seq (.block 3 (.seq (.reg [⟨(some 83), none, (.rd (.mov (.tmp 81)))⟩, ⟨(some 11), none, (.rd (.mov (.tmp 83)))⟩])
  (.reg [⟨(some 84), none, (.rd (.fa 5 (.tmp 6)))⟩, ⟨(some 85), none, (.rd (.fa 3 (.tmp 84)))⟩, ⟨(some 86), none, (.rd (.load1 (.tmp 85)))⟩, ⟨(some 87), none, (.rd (.mov (.tmp 11)))⟩, ⟨(some 88), none, (.rd (.ia 5 (.tmp 86) (.tmp 87)))⟩, ⟨(some 89), none, (.rd (.fa 0 (.tmp 88)))⟩, ⟨(some 90), none, (.rd (.load1 (.tmp 89)))⟩, ⟨(some 91), none, (.rd (.biI .xor (.tmp 90) (.val (.int .i64 255))))⟩, ⟨(some 92), none, (.rd (.ia 5 (.tmp 86) (.tmp 87)))⟩, ⟨(some 93), none, (.rd (.fa 0 (.tmp 92)))⟩, ⟨none, none, (.ef (.store 1 (.tmp 93) (.tmp 91)))⟩])))
  (.reg [⟨(some 94), none, (.rd (.biI .add (.tmp 81) (.val (.int .i64 1))))⟩, ⟨(some 81), none, (.rd (.mov (.tmp 94)))⟩]))))))
def cd3_3 : VCode := (.block 0 (.loop (.seq (.reg [⟨(some 66), none, (.rd (.biI .lss (.tmp 65) (.tmp 64)))⟩])
  (.seq (.cond (.tmp 66) .skip
  (.exit 0))
  (.seq (.block 1 (.seq (.reg [⟨(some 67), none, (.rd (.mov (.tmp 65)))⟩, ⟨(some 10), none, (.rd (.mov (.tmp 67)))⟩])
  (.reg [⟨(some 68), none, (.rd (.fa 0 (.tmp 6)))⟩, ⟨(some 69), none, (.rd (.fa 0 (.tmp 68)))⟩, ⟨(some 70), none, (.rd (.load1 (.tmp 69)))⟩, ⟨(some 71), none, (.rd (.mov (.tmp 10)))⟩, ⟨(some 72), none, (.rd (.ia 1 (.tmp 70) (.tmp 71)))⟩, ⟨(some 73), none, (.rd (.load1 (.tmp 72)))⟩, ⟨(some 74), none, (.rd (.biI .xor (.tmp 73) (.val (.int .u8 255))))⟩, ⟨(some 75), none, (.rd (.ia 1 (.tmp 70) (.tmp 71)))⟩, ⟨none, none, (.ef (.store 1 (.tmp 75) (.tmp 74)))⟩])))
  (.reg [⟨(some 76), none, (.rd (.biI .add (.tmp 65) (.val (.int .i64 1))))⟩, ⟨(some 65), none, (.rd (.mov (.tmp 76)))⟩]))))))
def cd3_2 : VCode := (.seq (.reg [⟨(some 126), none, (.rd (.mov (.tmp 5)))⟩, ⟨(some 127), none, (.ef (.call 10 [(.tmp 126), (.val (.int .i64 0))]))⟩, ⟨(some 125), none, (.rd (.mov (.tmp 127)))⟩, ⟨(some 128), none, (.rd (.ext 0 (.tmp 125)))⟩, ⟨(some 129), none, (.rd (.ext 1 (.tmp 125)))⟩, ⟨(some 14), none, (.ef (.alloc 29 [(.slice none 0 0), (.slice none 0 0), (.bool false), (.string ⟨#[]⟩), (.int .i64 0), (.int .i64 0), (.int .i64 0), (.slice none 0 0), (.slice none 0 0), (.int .i64 0)]))⟩, ⟨none, none, (.ef (.store 10 (.tmp 14) (.tmp 128)))⟩, ⟨(some 15), none, (.rd (.mov (.tmp 129)))⟩])
  (.seq (.reg [⟨(some 131), none, (.rd (.mov (.tmp 5)))⟩, ⟨(some 132), none, (.ef (.call 11 [(.tmp 131), (.val (.int .i64 0))]))⟩, ⟨(some 130), none, (.rd (.mov (.tmp 132)))⟩, ⟨(some 133), none, (.rd (.ext 0 (.tmp 130)))⟩, ⟨(some 134), none, (.rd (.ext 1 (.tmp 130)))⟩, ⟨(some 16), none, (.ef (.alloc 34 [(.slice none 0 0), (.slice none 0 0), (.slice none 0 0), (.slice none 0 0), (.slice none 0 0), (.slice none 0 0)]))⟩, ⟨none, none, (.ef (.store 6 (.tmp 16) (.tmp 133)))⟩, ⟨(some 17), none, (.rd (.mov (.tmp 134)))⟩])
  (.seq (.seq (.reg [⟨(some 135), none, (.rd (.fa 0 (.tmp 14)))⟩, ⟨(some 136), none, (.rd (.fa 0 (.tmp 135)))⟩, ⟨(some 137), none, (.rd (.load1 (.tmp 136)))⟩, ⟨(some 138), none, (.rd (.b2s (.tmp 137)))⟩, ⟨(some 139), none, (.rd (.fa 0 (.tmp 2)))⟩, ⟨(some 140), none, (.rd (.fa 0 (.tmp 139)))⟩, ⟨(some 141), none, (.rd (.load1 (.tmp 140)))⟩, ⟨(some 142), none, (.rd (.b2s (.tmp 141)))⟩, ⟨(some 143), none, (.rd (.biS .neq (.tmp 138) (.tmp 142)))⟩, ⟨(some 144), none, (.rd (.mov (.tmp 143)))⟩, ⟨(some 145), (some (144, false)), (.rd (.fa 5 (.tmp 14)))⟩, ⟨(some 146), (some (144, false)), (.rd (.fa 3 (.tmp 145)))⟩, ⟨(some 147), (some (144, false)), (.rd (.load1 (.tmp 146)))⟩, ⟨(some 148), (some (144, false)), (.rd (.lenL (.tmp 147)))⟩, ⟨(some 149), (some (144, false)), (.rd (.fa 5 (.tmp 2)))⟩, ⟨(some 150), (some (144, false)), (.rd (.fa 3 (.tmp 149)))⟩, ⟨(some 151), (some (144, false)), (.rd (.load1 (.tmp 150)))⟩, ⟨(some 152), (some (144, false)), (.rd (.lenL (.tmp 151)))⟩, ⟨(some 153), (some (144, false)), (.rd (.biI .neq (.tmp 148) (.tmp 152)))⟩, ⟨(some 154), none, (.rd (.pick (.tmp 144) (.val (.bool true)) (.tmp 153)))⟩, ⟨(some 155), none, (.rd (.mov (.tmp 154)))⟩, ⟨(some 156), (some (155, false)), (.rd (.fa 1 (.tmp 16)))⟩, ⟨(some 157), (some (155, false)), (.rd (.load1 (.tmp 156)))⟩, ⟨(some 158), (some (155, false)), (.rd (.lenL (.tmp 157)))⟩, ⟨(some 159), (some (155, false)), (.rd (.fa 1 (.tmp 3)))⟩, ⟨(some 160), (some (155, false)), (.rd (.load1 (.tmp 159)))⟩, ⟨(some 161), (some (155, false)), (.rd (.lenL (.tmp 160)))⟩, ⟨(some 162), (some (155, false)), (.rd (.biI .neq (.tmp 158) (.tmp 161)))⟩, ⟨(some 163), none, (.rd (.pick (.tmp 155) (.val (.bool true)) (.tmp 162)))⟩, ⟨(some 164), none, (.rd (.mov (.tmp 163)))⟩, ⟨(some 165), (some (164, false)), (.rd (.fa 5 (.tmp 16)))⟩, ⟨(some 166), (some (164, false)), (.rd (.load1 (.tmp 165)))⟩, ⟨(some 167), (some (164, false)), (.rd (.lenL (.tmp 166)))⟩, ⟨(some 168), (some (164, false)), (.rd (.fa 5 (.tmp 3)))⟩, ⟨(some 169), (some (164, false)), (.rd (.load1 (.tmp 168)))⟩, ⟨(some 170), (some (164, false)), (.rd (.lenL (.tmp 169)))⟩, ⟨(some 171), (some (164, false)), (.rd (.biI .neq (.tmp 167) (.tmp 170)))⟩, ⟨(some 172), none, (.rd (.pick (.tmp 164) (.val (.bool true)) (.tmp 171)))⟩])
  (.cond (.tmp 172) (.seq (.reg [⟨(some 4), none, (.rd (.mov (.val (.bool false))))⟩])
  .ret)
  .skip))
  (.seq (.seq (.reg [⟨(some 173), none, (.rd (.fa 5 (.tmp 14)))⟩, ⟨(some 174), none, (.rd (.fa 3 (.tmp 173)))⟩, ⟨(some 175), none, (.rd (.load1 (.tmp 174)))⟩, ⟨(some 176), none, (.rd (.lenL (.tmp 175)))⟩, ⟨(some 177), none, (.rd (.mov (.val (.int .i64 0))))⟩])
  cd3_7)
  (.seq (.seq (.reg [⟨(some 193), none, (.rd (.fa 1 (.tmp 16)))⟩, ⟨(some 194), none, (.rd (.load1 (.tmp 193)))⟩, ⟨(some 195), none, (.rd (.lenL (.tmp 194)))⟩, ⟨(some 196), none, (.rd (.mov (.val (.int .i64 0))))⟩])
  cd3_8)
  (.seq (.seq (.reg [⟨(some 209), none, (.rd (.fa 5 (.tmp 16)))⟩, ⟨(some 210), none, (.rd (.load1 (.tmp 209)))⟩, ⟨(some 211), none, (.rd (.lenL (.tmp 210)))⟩, ⟨(some 212), none, (.rd (.mov (.val (.int .i64 0))))⟩])
  cd3_9)
  (.seq (.reg [⟨(some 4), none, (.rd (.mov (.val (.bool true))))⟩])
  .ret)))))))
def cd3_1 : VCode := (.seq (.reg [⟨(some 46), none, (.rd (.mov (.tmp 5)))⟩, ⟨(some 47), none, (.ef (.call 10 [(.tmp 46), (.val (.int .i64 0))]))⟩, ⟨(some 45), none, (.rd (.mov (.tmp 47)))⟩, ⟨(some 48), none, (.rd (.ext 0 (.tmp 45)))⟩, ⟨(some 49), none, (.rd (.ext 1 (.tmp 45)))⟩, ⟨(some 6), none, (.ef (.alloc 29 [(.slice none 0 0), (.slice none 0 0), (.bool false), (.string ⟨#[]⟩), (.int .i64 0), (.int .i64 0), (.int .i64 0), (.slice none 0 0), (.slice none 0 0), (.int .i64 0)]))⟩, ⟨none, none, (.ef (.store 10 (.tmp 6) (.tmp 48)))⟩, ⟨(some 7), none, (.rd (.mov (.tmp 49)))⟩])
  (.seq (.reg [⟨(some 51), none, (.rd (.mov (.tmp 5)))⟩, ⟨(some 52), none, (.ef (.call 11 [(.tmp 51), (.val (.int .i64 0))]))⟩, ⟨(some 50), none, (.rd (.mov (.tmp 52)))⟩, ⟨(some 53), none, (.rd (.ext 0 (.tmp 50)))⟩, ⟨(some 54), none, (.rd (.ext 1 (.tmp 50)))⟩, ⟨(some 8), none, (.ef (.alloc 34 [(.slice none 0 0), (.slice none 0 0), (.slice none 0 0), (.slice none 0 0), (.slice none 0 0), (.slice none 0 0)]))⟩, ⟨none, none, (.ef (.store 6 (.tmp 8) (.tmp 53)))⟩, ⟨(some 9), none, (.rd (.mov (.tmp 54)))⟩])
  (.seq (.seq (.reg [⟨(some 55), none, (.rd (.mov (.tmp 7)))⟩, ⟨(some 56), none, (.rd (.not (.tmp 55)))⟩, ⟨(some 57), none, (.rd (.mov (.tmp 56)))⟩, ⟨(some 58), (some (57, false)), (.rd (.mov (.tmp 9)))⟩, ⟨(some 59), (some (57, false)), (.rd (.not (.tmp 58)))⟩, ⟨(some 60), none, (.rd (.pick (.tmp 57) (.val (.bool true)) (.tmp 59)))⟩])
  (.cond (.tmp 60) (.seq (.reg [⟨(some 4), none, (.rd (.mov (.val (.bool false))))⟩])
  .ret)
  .skip))
  (.seq (.seq (.reg [⟨(some 61), none, (.rd (.fa 0 (.tmp 6)))⟩, ⟨(some 62), none, (.rd (.fa 0 (.tmp 61)))⟩, ⟨(some 63), none, (.rd (.load1 (.tmp 62)))⟩, ⟨(some 64), none, (.rd (.lenL (.tmp 63)))⟩, ⟨(some 65), none, (.rd (.mov (.val (.int .i64 0))))⟩])
  cd3_3)
  (.seq (.seq (.reg [⟨(some 77), none, (.rd (.fa 5 (.tmp 6)))⟩, ⟨(some 78), none, (.rd (.fa 3 (.tmp 77)))⟩, ⟨(some 79), none, (.rd (.load1 (.tmp 78)))⟩, ⟨(some 80), none, (.rd (.lenL (.tmp 79)))⟩, ⟨(some 81), none, (.rd (.mov (.val (.int .i64 0))))⟩])
  cd3_4)
  (.seq (.seq (.reg [⟨(some 95), none, (.rd (.fa 1 (.tmp 8)))⟩, ⟨(some 96), none, (.rd (.load1 (.tmp 95)))⟩, ⟨(some 97), none, (.rd (.lenL (.tmp 96)))⟩, ⟨(some 98), none, (.rd (.mov (.val (.int .i64 0))))⟩])
  cd3_5)
  (.seq (.seq (.reg [⟨(some 109), none, (.rd (.fa 5 (.tmp 8)))⟩, ⟨(some 110), none, (.rd (.load1 (.tmp 109)))⟩, ⟨(some 111), none, (.rd (.lenL (.tmp 110)))⟩, ⟨(some 112), none, (.rd (.mov (.val (.int .i64 0))))⟩])
  cd3_6)
  cd3_2)))))))
-- 3 trunnion/trunnionlaw28.StoreOwn
def cd3 : VFun := ⟨227, [.tmp 4], (.seq (.reg [⟨(some 2), none, (.ef (.box 29 (.tmp 0)))⟩, ⟨(some 3), none, (.ef (.box 34 (.tmp 1)))⟩, ⟨(some 4), none, (.rd (.mov (.val (.bool false))))⟩])
  (.seq (.seq (.reg [⟨(some 24), none, (.ef (.call 5 []))⟩, ⟨(some 25), none, (.rd (.not (.tmp 24)))⟩])
  (.cond (.tmp 25) (.seq (.reg [⟨(some 4), none, (.rd (.mov (.val (.bool false))))⟩])
  .ret)
  .skip))
  (.seq (.seq (.reg [⟨(some 26), none, (.rd (.loadN 10 (.tmp 2)))⟩, ⟨(some 27), none, (.rd (.loadN 6 (.tmp 3)))⟩, ⟨(some 28), none, (.rd (.bld [(.int .i64 0), (.int .i64 0), (.int .i64 0), (.slice none 0 0), (.slice none 0 0), (.bool false), (.string ⟨#[]⟩), (.int .i64 0), (.int .i64 0), (.int .i64 0), (.slice none 0 0), (.slice none 0 0), (.int .i64 0), (.int .u32 0), (.int .u32 0), (.bool false), (.int .u8 0), (.bool false), (.int .u64 0), (.slice none 0 0), (.slice none 0 0), (.slice none 0 0), (.slice none 0 0), (.slice none 0 0), (.slice none 0 0), (.string ⟨#[]⟩)] [(3, 10, (.tmp 26)), (19, 6, (.tmp 27))]))⟩, ⟨(some 29), none, (.ef (.bsl 44 1 [(.int .i64 0), (.int .i64 0), (.int .i64 0), (.slice none 0 0), (.slice none 0 0), (.bool false), (.string ⟨#[]⟩), (.int .i64 0), (.int .i64 0), (.int .i64 0), (.slice none 0 0), (.slice none 0 0), (.int .i64 0), (.int .u32 0), (.int .u32 0), (.bool false), (.int .u8 0), (.bool false), (.int .u64 0), (.slice none 0 0), (.slice none 0 0), (.slice none 0 0), (.slice none 0 0), (.slice none 0 0), (.slice none 0 0), (.string ⟨#[]⟩)] [(0, 26, (.tmp 28))]))⟩, ⟨(some 30), none, (.ef (.call 6 [(.tmp 29), (.val (.int .i64 1))]))⟩, ⟨(some 31), none, (.rd (.not (.tmp 30)))⟩, ⟨(some 32), none, (.rd (.mov (.tmp 31)))⟩, ⟨(some 33), (some (32, false)), (.rd (.fa 1 (.tmp 3)))⟩, ⟨(some 34), (some (32, false)), (.rd (.load1 (.tmp 33)))⟩, ⟨(some 35), (some (32, false)), (.rd (.lenL (.tmp 34)))⟩, ⟨(some 36), (some (32, false)), (.rd (.biI .gtr (.tmp 35) (.val (.int .i64 50))))⟩, ⟨(some 37), none, (.rd (.pick (.tmp 32) (.val (.bool true)) (.tmp 36)))⟩])
  (.cond (.tmp 37) (.seq (.reg [⟨(some 4), none, (.rd (.mov (.val (.bool true))))⟩])
  .ret)
  .skip))
  (.seq (.reg [⟨(some 38), none, (.ef (.call 7 []))⟩, ⟨(some 5), none, (.rd (.mov (.tmp 38)))⟩])
  (.seq (.reg [⟨(some 39), none, (.rd (.mov (.tmp 5)))⟩, ⟨(some 40), none, (.rd (.loadN 10 (.tmp 2)))⟩, ⟨(some 41), none, (.ef (.call 8 [(.tmp 39), (.tmp 40)]))⟩])
  (.seq (.reg [⟨(some 42), none, (.rd (.mov (.tmp 5)))⟩, ⟨(some 43), none, (.rd (.loadN 6 (.tmp 3)))⟩, ⟨(some 44), none, (.ef (.call 9 [(.tmp 42), (.tmp 43)]))⟩])
  cd3_1))))))⟩
@[go_sem] def ks3 : List Nat := [0, 1, 2, 3, 4, 5, 6, 7, 8, 9, 10, 11, 12, 13, 14, 16, 18, 19, 20, 21, 22, 23, 25, 37, 60, 64, 65, 66, 80, 81, 82, 97, 98, 99, 111, 112, 113, 172, 175, 176, 177, 178, 191, 194, 195, 196, 197, 207, 210, 211, 212, 213, 225]
theorem ce3 : comp Try.prog 3 = some cd3 := by kernel_rfl
structure FnD where
  (A0 A1 A7 A8 : Option Addr) (n0 n1 n7 n8 c0 c1 c7 c8 : Nat) (p0 p1 p7 st : List Value) (hst : Bool) (nm : ByteArray) (i4 i5 i6 i9 : Int)
abbrev FnD.cells (d : FnD) : List Value := [.slice d.A0 d.n0 d.c0, .slice d.A1 d.n1 d.c1, .bool d.hst, .string d.nm, .int .i64 d.i4, .int .i64 d.i5, .int .i64 d.i6, .slice d.A7 d.n7 d.c7, .slice d.A8 d.n8 d.c8, .int .i64 d.i9]
structure FnD.Ok (d : FnD) (G : Stab) : Prop where
  h0 : Row G 1 1 d.A0 d.n0 d.p0
  h1 : Row G 1 1 d.A1 d.n1 d.p1
  h7 : Row G 1 1 d.A7 d.n7 d.p7
  h8 : Row G 5 48 d.A8 d.n8 d.st
  hs : Steps G d.n8 d.st
theorem FnD.Ok.mono {d : FnD} {G G' : Stab} (h : d.Ok G) (hl : G.Le G') : d.Ok G' := ⟨h.h0.mono hl, h.h1.mono hl, h.h7.mono hl, h.h8.mono hl, h.hs.mono hl⟩
structure InD where
  (A0 A1 A2 A3 A4 A5 : Option Addr) (n0 n1 n2 n3 n4 n5 c0 c1 c2 c3 c4 c5 : Nat) (ts fs p2 p3 p4 es : List Value)
abbrev InD.cells (d : InD) : List Value := [.slice d.A0 d.n0 d.c0, .slice d.A1 d.n1 d.c1, .slice d.A2 d.n2 d.c2, .slice d.A3 d.n3 d.c3, .slice d.A4 d.n4 d.c4, .slice d.A5 d.n5 d.c5]
structure InD.Ok (d : InD) (G : Stab) : Prop where
  h0 : Row G 2 48 d.A0 d.n0 d.ts
  hs : Types G d.n0 d.ts
  h1 : Row G 1 8 d.A1 d.n1 d.fs
  h2 : Row G 1 8 d.A2 d.n2 d.p2
  h3 : Row G 1 8 d.A3 d.n3 d.p3
  h4 : Row G 1 8 d.A4 d.n4 d.p4
  h5 : Row G 3 32 d.A5 d.n5 d.es
theorem InD.Ok.mono {d : InD} {G G' : Stab} (h : d.Ok G) (hl : G.Le G') : d.Ok G' := ⟨h.h0.mono hl, h.hs.mono hl, h.h1.mono hl, h.h2.mono hl, h.h3.mono hl, h.h4.mono hl, h.h5.mono hl⟩
/-- What is plain data in a function and an instance. -/
structure Plain (f : FnD) (x : InD) : Prop where
  p : ∃ bs : List Int, f.p0 = bs.map (Value.int .u8)
  fs : ∀ j, j < x.n1 → ∃ i, x.fs[j]? = some (.int .i64 i)
  es : ∀ j, j < x.n5 → ∃ s a b, x.es[j * 3]? = some (.string s) ∧ x.es[j * 3 + 1]? = some a ∧ x.es[j * 3 + 2]? = some b ∧ s.size ≤ 140737488351232
/-- What stands from the time on that both are in the store. -/
structure Kp (f : FnD) (x : InD) (b2 b3 s bf bi cF cI : Nat) (T2 T3 T4 : Value) (u : FnD) (v : InD) (G : Stab) : Prop where
  rf : G.has ⟨b2, 0, none⟩ f.cells
  rx : G.has ⟨b3, 0, none⟩ x.cells
  fo : f.Ok G
  xo : x.Ok G
  hS : G.has ⟨s, 0, none⟩ [.bool true, .slice (some ⟨bf, 0, none⟩) 1 cF, T2, T3, T4, .slice (some ⟨bi, 0, none⟩) 1 cI]
  hF : G.has ⟨bf, 0, none⟩ u.cells
  hI : G.has ⟨bi, 0, none⟩ v.cells
  uo : u.Ok G
  vo : v.Ok G
  e0 : u.n0 = f.n0
  ep : u.p0 = f.p0
  e8 : u.n8 = f.n8
  eo : ∀ j, j < f.n8 → u.st[j * 5]? = f.st[j * 5]?
  e1 : v.n1 = x.n1
  ef : v.fs = x.fs
  e5 : v.n5 = x.n5
  ee : v.es = x.es
theorem Kp.mono {f : FnD} {x : InD} {b2 b3 s bf bi cF cI : Nat} {T2 T3 T4 : Value} {u : FnD} {v : InD} {G G' : Stab} (h : Kp f x b2 b3 s bf bi cF cI T2 T3 T4 u v G) (hl : G.Le G') : Kp f x b2 b3 s bf bi cF cI T2 T3 T4 u v G' :=
  ⟨h.rf.mono hl, h.rx.mono hl, h.fo.mono hl, h.xo.mono hl, h.hS.mono hl, h.hF.mono hl, h.hI.mono hl, h.uo.mono hl, h.vo.mono hl, h.e0, h.ep, h.e8, h.eo, h.e1, h.ef, h.e5, h.ee⟩
theorem Steps.five {G : Stab} {n : Nat} {st : List Value} (h : Steps G n st) {j : Nat} (hj : j < n) : ∃ x a b c d, st[j * 5]? = some (.int .i64 x) ∧ st[j * 5 + 1]? = some a ∧ st[j * 5 + 2]? = some b ∧ st[j * 5 + 3]? = some c ∧ st[j * 5 + 4]? = some d ∧ a.oneCell' = true ∧ b.oneCell' = true ∧ c.oneCell' = true ∧ d.oneCell' = true := by
  obtain ⟨x, hx⟩ := h.op j hj
  obtain ⟨a, ha⟩ := row_cell h.len hj (i := 1) (by omega)
  obtain ⟨b, hb⟩ := row_cell h.len hj (i := 2) (by omega)
  obtain ⟨c, hc⟩ := row_cell h.len hj (i := 3) (by omega)
  obtain ⟨d, hd⟩ := row_cell h.len hj (i := 4) (by omega)
  exact ⟨x, a, b, c, d, hx, ha, hb, hc, hd, h.one _ (List.mem_of_getElem? ha), h.one _ (List.mem_of_getElem? hb), h.one _ (List.mem_of_getElem? hc), h.one _ (List.mem_of_getElem? hd)⟩
def Φ3 (k : Value → Stab → List Ent → Prop) : Prop := ∀ G', k (.bool true) G' []
section
variable {Γ : Ctx} {G : Stab} {f : FnD} {x : InD} {b2 b3 b14 b16 : Nat} {Q : Post}
/-- What the comparisons go by: the arguments' cells, and the slots that hold them. -/
abbrev base (b2 b3 b14 b16 : Nat) : Env := [(2, pt b2), (3, pt b3), (14, pt b14), (16, pt b16)]
theorem loop8 (hP : Γ.P = Try.prog) (hk : Γ.keep = ks3) (rf : G.has ⟨b2, 0, none⟩ f.cells) (fo : f.Ok G) {B8 : Option Addr} {d8 : Nat} {st' : List Value} (t8 : Row G 5 48 B8 f.n8 st') (rs : Steps G f.n8 st') (ro : ∀ j, j < f.n8 → st'[j * 5]? = f.st[j * 5]?)
    {env : Env} (he : Env.Sub (base b2 b3 b14 b16 ++ [(175, .slice B8 f.n8 d8), (176, .int .i64 f.n8), (177, .int .i64 0)]) env) (hQ : ∀ env', Env.Sub (base b2 b3 b14 b16) env' → Q .normal env' G []) : VC Γ cd3_7 env G [] Q := by
  refine VC.sub _ he ?_
  simp only [cd3_7, base, List.cons_append, List.nil_append]
  refine VC.block (VC.loop (fun j : Nat => [(2, pt b2), (3, pt b3), (14, pt b14), (16, pt b16), (175, .slice B8 f.n8 d8), (176, .int .i64 f.n8), (177, .int .i64 (j : Int))])
    (fun j G' L' => j ≤ f.n8 ∧ G = G' ∧ [] = L') (fun j => f.n8 - j) 0 (by simp [Env.Sub, Env.get]) ⟨by omega, rfl, rfl⟩ ?_)
  rintro j _ _ ⟨hj, rfl, rfl⟩
  repeat' first
    | with_reducible refine thn_n ?_
    | with_reducible refine thn_r ?_
    | with_reducible refine thn_e ?_
    | with_reducible refine blk_n ?_
    | with_reducible refine blk_r ?_
    | with_reducible refine blk_h ?_
    | with_reducible refine blk_m rfl ?_
    | with_reducible refine fin_r ?_
    | with_reducible refine VC.rseq hP hk fun K q hK hq => ?_
    | with_reducible refine VC.rend hP hk fun K q hK hq => ?_
    | with_reducible refine VC.seq ?_
    | with_reducible refine VC.skip ?_
    | with_reducible refine VC.ret ?_
    | with_reducible refine VC.exit ?_
    | with_reducible refine VC.block ?_
    | refine vops_gt rfl ?_
    | refine vops_gf rfl ?_
    | refine vsch_gt rfl ?_
    | refine vsch_gf rfl ?_
    | refine vall_gt rfl ?_ ?_
    | refine vall_gf rfl ?_ ?_
    | (refine vops_gb rfl (fun hb => ?_) (fun hb => ?_) <;> (try simp only [Bool.not_true, Bool.not_false] at hb) <;> (try simp -implicitDefEqProofs only [hb, if_true, if_false, ↓reduceIte, Bool.false_eq_true]))
    | (refine vsch_gb rfl (by simp only [noStop]) (fun hb => ?_) (fun hb => ?_) <;> (try simp only [Bool.not_true, Bool.not_false] at hb) <;> (try simp -implicitDefEqProofs only [hb, if_true, if_false, ↓reduceIte, Bool.false_eq_true]))
    | refine vall_gb rfl (fun hb => ?_) (fun hb => ?_) ?_
    | refine VC.condt rfl ?_
    | refine VC.condf rfl ?_
    | (refine hK.out _ _ _ _ (by simp -implicitDefEqProofs only [go_sem, ↓reduceIte, Int.reduceToNat, Nat.mul_one, Int.reduceBEq, Int.reduceBNe, beq_self_eq_true, bne_self_eq_false, Int.reduceLT, Int.reduceLE, Int.reduceAdd, Int.reduceSub, Int.reduceNeg, decide_true, decide_false, gt_iff_lt, ge_iff_le, Int.natCast_one, Int.natCast_zero, Int.cast_ofNat_Int, Nat.reduceLeDiff, Nat.reduceEqDiff, Nat.reduceAdd, Nat.reduceSub, Nat.reduceMul, reduceCtorEq]; rfl) ?_; clear hK hq K q)
    | simp -implicitDefEqProofs only [go_sem, ↓reduceIte, Int.reduceToNat, Nat.mul_one, Int.reduceBEq, Int.reduceBNe, beq_self_eq_true, bne_self_eq_false, Int.reduceLT, Int.reduceLE, Int.reduceAdd, Int.reduceSub, Int.reduceNeg, decide_true, decide_false, gt_iff_lt, ge_iff_le, Int.natCast_one, Int.natCast_zero, Int.cast_ofNat_Int, Nat.reduceLeDiff, Nat.reduceEqDiff, Nat.reduceAdd, Nat.reduceSub, Nat.reduceMul, reduceCtorEq]
    | refine rd1_hd rfl ?_
    | refine rd1_tl (rd1_hd rfl ?_)
    | refine rd1_tl (rd1_tl (rd1_hd rfl ?_))
    | refine rd1_tl (rd1_tl (rd1_tl (rd1_hd rfl ?_)))
    | refine rd1_tl (rd1_tl (rd1_tl (rd1_tl (rd1_hd rfl ?_))))
    | refine rd1_tl (rd1_tl (rd1_tl (rd1_tl (rd1_tl (rd1_hd rfl ?_)))))
    | refine rd1_tl (rd1_tl (rd1_tl (rd1_tl (rd1_tl (rd1_tl (rd1_hd rfl ?_))))))
    | refine rd1_tl (rd1_tl (rd1_tl (rd1_tl (rd1_tl (rd1_tl (rd1_tl (rd1_hd rfl ?_)))))))
    | refine rd1_tl (rd1_tl (rd1_tl (rd1_tl (rd1_tl (rd1_tl (rd1_tl (rd1_tl (rd1_hd rfl ?_))))))))
    | refine rdN_hd rfl ?_
    | refine rdN_tl (rdN_hd rfl ?_)
    | refine rdN_tl (rdN_tl (rdN_hd rfl ?_))
    | refine rdN_tl (rdN_tl (rdN_tl (rdN_hd rfl ?_)))
    | refine rdN_tl (rdN_tl (rdN_tl (rdN_tl (rdN_hd rfl ?_))))
    | refine rdN_tl (rdN_tl (rdN_tl (rdN_tl (rdN_tl (rdN_hd rfl ?_)))))
    | refine rdN_tl (rdN_tl (rdN_tl (rdN_tl (rdN_tl (rdN_tl (rdN_hd rfl ?_))))))
    | refine rdN_tl (rdN_tl (rdN_tl (rdN_tl (rdN_tl (rdN_tl (rdN_tl (rdN_hd rfl ?_)))))))
    | refine rdN_tl (rdN_tl (rdN_tl (rdN_tl (rdN_tl (rdN_tl (rdN_tl (rdN_tl (rdN_hd rfl ?_))))))))
    | refine stoK.hd (by simp) ?_
    | refine stoK.tl (stoK.hd (by simp) ?_)
    | refine stoK.tl (stoK.tl (stoK.hd (by simp) ?_))
    | refine stoK.tl (stoK.tl (stoK.tl (stoK.hd (by simp) ?_)))
    | refine stoK.tl (stoK.tl (stoK.tl (stoK.tl (stoK.hd (by simp) ?_))))
    | refine stoK.tl (stoK.tl (stoK.tl (stoK.tl (stoK.tl (stoK.hd (by simp) ?_)))))
    | refine stoK.tl (stoK.tl (stoK.tl (stoK.tl (stoK.tl (stoK.tl (stoK.hd (by simp) ?_))))))
    | refine stoK.tl (stoK.tl (stoK.tl (stoK.tl (stoK.tl (stoK.tl (stoK.tl (stoK.hd (by simp) ?_)))))))
    | refine stoK.tl (stoK.tl (stoK.tl (stoK.tl (stoK.tl (stoK.tl (stoK.tl (stoK.tl (stoK.hd (by simp) ?_))))))))
    | exact ⟨rfl, rfl, rfl⟩
    | (refine And.intro ?_ ?_; (· omega))
    | refine ⟨fun hg => ?_, fun hg => ?_⟩
    | (refine VC.condb rfl (fun hg => ?_) (fun hg => ?_) <;> (try simp -implicitDefEqProofs only [hg, if_true, if_false, ↓reduceIte, Bool.false_eq_true]))
    | fail
  · have hj' : j < f.n8 := by simpa using hg
    obtain ⟨v0, a, b, c, d, ex, ea, eb, ec, ed, oa, ob, oc, od⟩ := rs.five hj'
    have ey : f.st[j * 5]? = some (.int .i64 v0) := by rw [← ro j hj']; exact ex
    obtain ⟨y1, z1, hB8, hy1⟩ := t8.at hj' (by omega)
    subst hB8
    obtain ⟨y2, z2, hA8, hy2⟩ := fo.h8.at hj' (by omega)
    repeat' first
      | with_reducible refine thn_n ?_
      | with_reducible refine thn_r ?_
      | with_reducible refine thn_e ?_
      | with_reducible refine blk_n ?_
      | with_reducible refine blk_r ?_
      | with_reducible refine blk_h ?_
      | with_reducible refine blk_m rfl ?_
      | with_reducible refine fin_n ?_
      | with_reducible refine fin_r ?_
      | with_reducible refine VC.seq ?_
      | with_reducible refine VC.skip ?_
      | with_reducible refine VC.ret ?_
      | with_reducible refine VC.exit ?_
      | with_reducible refine VC.block ?_
      | refine vops_gt rfl ?_
      | refine vops_gf rfl ?_
      | refine vsch_gt rfl ?_
      | refine vsch_gf rfl ?_
      | refine vall_gt rfl ?_ ?_
      | refine vall_gf rfl ?_ ?_
      | (refine vops_gb rfl (fun hb => ?_) (fun hb => ?_) <;> (try simp only [Bool.not_true, Bool.not_false] at hb) <;> (try simp -implicitDefEqProofs only [hb, if_true, if_false, ↓reduceIte, Bool.false_eq_true]))
      | (refine vsch_gb rfl (by simp only [noStop]) (fun hb => ?_) (fun hb => ?_) <;> (try simp only [Bool.not_true, Bool.not_false] at hb) <;> (try simp -implicitDefEqProofs only [hb, if_true, if_false, ↓reduceIte, Bool.false_eq_true]))
      | refine vall_gb rfl (fun hb => ?_) (fun hb => ?_) ?_
      | refine VC.condt rfl ?_
      | refine VC.condf rfl ?_
      | (refine hK.out _ _ _ _ (by simp -implicitDefEqProofs only [go_sem, ↓reduceIte, Int.reduceToNat, Nat.mul_one, Int.reduceBEq, Int.reduceBNe, beq_self_eq_true, bne_self_eq_false, Int.reduceLT, Int.reduceLE, Int.reduceAdd, Int.reduceSub, Int.reduceNeg, decide_true, decide_false, gt_iff_lt, ge_iff_le, Int.natCast_one, Int.natCast_zero, Int.cast_ofNat_Int, Nat.reduceLeDiff, Nat.reduceEqDiff, Nat.reduceAdd, Nat.reduceSub, Nat.reduceMul, reduceCtorEq]; rfl) ?_; clear hK hq K q)
      | simp -implicitDefEqProofs only [go_sem, ↓reduceIte, Int.reduceToNat, Nat.mul_one, Int.reduceBEq, Int.reduceBNe, beq_self_eq_true, bne_self_eq_false, Int.reduceLT, Int.reduceLE, Int.reduceAdd, Int.reduceSub, Int.reduceNeg, decide_true, decide_false, gt_iff_lt, ge_iff_le, Int.natCast_one, Int.natCast_zero, Int.cast_ofNat_Int, Nat.reduceLeDiff, Nat.reduceEqDiff, Nat.reduceAdd, Nat.reduceSub, Nat.reduceMul, reduceCtorEq]
      | refine ⟨_, rfl, ?_⟩
      | refine rdN_at (ws := [.int .i64 v0, a, b, c, d]) hy1 rfl rfl (ofCons ex (ofCons ea (ofCons eb (ofCons ec (ofCons ed ofNil))))) ?_
      | (refine And.intro ⟨oa, ob, oc, od⟩ ?_)
      | refine newB_own' fun b19 => ?_
      | refine rd1_hd rfl ?_
      | refine rd1_tl (rd1_hd rfl ?_)
      | refine rd1_tl (rd1_tl (rd1_hd rfl ?_))
      | refine rd1_tl (rd1_tl (rd1_tl (rd1_hd rfl ?_)))
      | refine rd1_tl (rd1_tl (rd1_tl (rd1_tl (rd1_hd rfl ?_))))
      | refine rd1_tl (rd1_tl (rd1_tl (rd1_tl (rd1_tl (rd1_hd rfl ?_)))))
      | refine rd1_tl (rd1_tl (rd1_tl (rd1_tl (rd1_tl (rd1_tl (rd1_hd rfl ?_))))))
      | refine rd1_tl (rd1_tl (rd1_tl (rd1_tl (rd1_tl (rd1_tl (rd1_tl (rd1_hd rfl ?_)))))))
      | refine rd1_tl (rd1_tl (rd1_tl (rd1_tl (rd1_tl (rd1_tl (rd1_tl (rd1_tl (rd1_hd rfl ?_))))))))
      | refine rdN_hd rfl ?_
      | refine rdN_tl (rdN_hd rfl ?_)
      | refine rdN_tl (rdN_tl (rdN_hd rfl ?_))
      | refine rdN_tl (rdN_tl (rdN_tl (rdN_hd rfl ?_)))
      | refine rdN_tl (rdN_tl (rdN_tl (rdN_tl (rdN_hd rfl ?_))))
      | refine rdN_tl (rdN_tl (rdN_tl (rdN_tl (rdN_tl (rdN_hd rfl ?_)))))
      | refine rdN_tl (rdN_tl (rdN_tl (rdN_tl (rdN_tl (rdN_tl (rdN_hd rfl ?_))))))
      | refine rdN_tl (rdN_tl (rdN_tl (rdN_tl (rdN_tl (rdN_tl (rdN_tl (rdN_hd rfl ?_)))))))
      | refine rdN_tl (rdN_tl (rdN_tl (rdN_tl (rdN_tl (rdN_tl (rdN_tl (rdN_tl (rdN_hd rfl ?_))))))))
      | refine stoK.hd (by simp) ?_
      | refine stoK.tl (stoK.hd (by simp) ?_)
      | refine stoK.tl (stoK.tl (stoK.hd (by simp) ?_))
      | refine stoK.tl (stoK.tl (stoK.tl (stoK.hd (by simp) ?_)))
      | refine stoK.tl (stoK.tl (stoK.tl (stoK.tl (stoK.hd (by simp) ?_))))
      | refine stoK.tl (stoK.tl (stoK.tl (stoK.tl (stoK.tl (stoK.hd (by simp) ?_)))))
      | refine stoK.tl (stoK.tl (stoK.tl (stoK.tl (stoK.tl (stoK.tl (stoK.hd (by simp) ?_))))))
      | refine stoK.tl (stoK.tl (stoK.tl (stoK.tl (stoK.tl (stoK.tl (stoK.tl (stoK.hd (by simp) ?_)))))))
      | refine stoK.tl (stoK.tl (stoK.tl (stoK.tl (stoK.tl (stoK.tl (stoK.tl (stoK.tl (stoK.hd (by simp) ?_))))))))
      | exact ⟨rfl, rfl, rfl⟩
      | (refine And.intro ?_ ?_; (· omega))
      | refine ⟨fun hg => ?_, fun hg => ?_⟩
      | (refine VC.condb rfl (fun hg => ?_) (fun hg => ?_) <;> (try simp -implicitDefEqProofs only [hg, if_true, if_false, ↓reduceIte, Bool.false_eq_true]))
      | fail
    refine VC.dend hP hk ([]) ([(.obj b19 _ 56, none)]) (by (try simp only [lent, List.cons_append, List.nil_append]); repeat' first | exact List.Perm.refl _ | ((with_reducible refine permTake (pre := []) rfl ?_); simp only [List.cons_append, List.nil_append]) | ((with_reducible refine permTake (pre := [_]) rfl ?_); simp only [List.cons_append, List.nil_append]) | ((with_reducible refine permTake (pre := [_, _]) rfl ?_); simp only [List.cons_append, List.nil_append]) | ((with_reducible refine permTake (pre := [_, _, _]) rfl ?_); simp only [List.cons_append, List.nil_append]) | ((with_reducible refine permTake (pre := [_, _, _, _]) rfl ?_); simp only [List.cons_append, List.nil_append]) | ((with_reducible refine permTake (pre := [_, _, _, _, _]) rfl ?_); simp only [List.cons_append, List.nil_append]) | ((with_reducible refine permTake (pre := [_, _, _, _, _, _]) rfl ?_); simp only [List.cons_append, List.nil_append]) | fail) fun K q hK hq => ?_
    try simp -implicitDefEqProofs only [go_sem, ↓reduceIte, Int.reduceToNat, Nat.mul_one, Int.reduceBEq, Int.reduceBNe, beq_self_eq_true, bne_self_eq_false, Int.reduceLT, Int.reduceLE, Int.reduceAdd, Int.reduceSub, Int.reduceNeg, decide_true, decide_false, gt_iff_lt, ge_iff_le, Int.natCast_one, Int.natCast_zero, Int.cast_ofNat_Int, Nat.reduceLeDiff, Nat.reduceEqDiff, Nat.reduceAdd, Nat.reduceSub, Nat.reduceMul, reduceCtorEq]
    repeat' first
      | with_reducible refine thn_n ?_
      | with_reducible refine thn_r ?_
      | with_reducible refine thn_e ?_
      | with_reducible refine blk_n ?_
      | with_reducible refine blk_r ?_
      | with_reducible refine blk_h ?_
      | with_reducible refine blk_m rfl ?_
      | with_reducible refine fin_n ?_
      | with_reducible refine fin_r ?_
      | with_reducible refine VC.seq ?_
      | with_reducible refine VC.skip ?_
      | with_reducible refine VC.ret ?_
      | with_reducible refine VC.exit ?_
      | with_reducible refine VC.block ?_
      | refine vops_gt rfl ?_
      | refine vops_gf rfl ?_
      | refine vsch_gt rfl ?_
      | refine vsch_gf rfl ?_
      | refine vall_gt rfl ?_ ?_
      | refine vall_gf rfl ?_ ?_
      | (refine vops_gb rfl (fun hb => ?_) (fun hb => ?_) <;> (try simp only [Bool.not_true, Bool.not_false] at hb) <;> (try simp -implicitDefEqProofs only [hb, if_true, if_false, ↓reduceIte, Bool.false_eq_true]))
      | (refine vsch_gb rfl (by simp only [noStop]) (fun hb => ?_) (fun hb => ?_) <;> (try simp only [Bool.not_true, Bool.not_false] at hb) <;> (try simp -implicitDefEqProofs only [hb, if_true, if_false, ↓reduceIte, Bool.false_eq_true]))
      | refine vall_gb rfl (fun hb => ?_) (fun hb => ?_) ?_
      | refine VC.condt rfl ?_
      | refine VC.condf rfl ?_
      | (refine hK.out _ _ _ _ (by simp -implicitDefEqProofs only [go_sem, ↓reduceIte, Int.reduceToNat, Nat.mul_one, Int.reduceBEq, Int.reduceBNe, beq_self_eq_true, bne_self_eq_false, Int.reduceLT, Int.reduceLE, Int.reduceAdd, Int.reduceSub, Int.reduceNeg, decide_true, decide_false, gt_iff_lt, ge_iff_le, Int.natCast_one, Int.natCast_zero, Int.cast_ofNat_Int, Nat.reduceLeDiff, Nat.reduceEqDiff, Nat.reduceAdd, Nat.reduceSub, Nat.reduceMul, reduceCtorEq]; rfl) ?_; clear hK hq K q)
      | simp -implicitDefEqProofs only [go_sem, ↓reduceIte, Int.reduceToNat, Nat.mul_one, Int.reduceBEq, Int.reduceBNe, beq_self_eq_true, bne_self_eq_false, Int.reduceLT, Int.reduceLE, Int.reduceAdd, Int.reduceSub, Int.reduceNeg, decide_true, decide_false, gt_iff_lt, ge_iff_le, Int.natCast_one, Int.natCast_zero, Int.cast_ofNat_Int, Nat.reduceLeDiff, Nat.reduceEqDiff, Nat.reduceAdd, Nat.reduceSub, Nat.reduceMul, reduceCtorEq]
      | refine rd1_sub rf rfl ?_
      | refine rd1_at hy2 rfl ey ?_
      | refine ⟨_, hA8, ?_⟩
      | refine rd1_hd rfl ?_
      | refine rd1_tl (rd1_hd rfl ?_)
      | refine rd1_tl (rd1_tl (rd1_hd rfl ?_))
      | refine rd1_tl (rd1_tl (rd1_tl (rd1_hd rfl ?_)))
      | refine rd1_tl (rd1_tl (rd1_tl (rd1_tl (rd1_hd rfl ?_))))
      | refine rd1_tl (rd1_tl (rd1_tl (rd1_tl (rd1_tl (rd1_hd rfl ?_)))))
      | refine rd1_tl (rd1_tl (rd1_tl (rd1_tl (rd1_tl (rd1_tl (rd1_hd rfl ?_))))))
      | refine rd1_tl (rd1_tl (rd1_tl (rd1_tl (rd1_tl (rd1_tl (rd1_tl (rd1_hd rfl ?_)))))))
      | refine rd1_tl (rd1_tl (rd1_tl (rd1_tl (rd1_tl (rd1_tl (rd1_tl (rd1_tl (rd1_hd rfl ?_))))))))
      | refine rdN_hd rfl ?_
      | refine rdN_tl (rdN_hd rfl ?_)
      | refine rdN_tl (rdN_tl (rdN_hd rfl ?_))
      | refine rdN_tl (rdN_tl (rdN_tl (rdN_hd rfl ?_)))
      | refine rdN_tl (rdN_tl (rdN_tl (rdN_tl (rdN_hd rfl ?_))))
      | refine rdN_tl (rdN_tl (rdN_tl (rdN_tl (rdN_tl (rdN_hd rfl ?_)))))
      | refine rdN_tl (rdN_tl (rdN_tl (rdN_tl (rdN_tl (rdN_tl (rdN_hd rfl ?_))))))
      | refine rdN_tl (rdN_tl (rdN_tl (rdN_tl (rdN_tl (rdN_tl (rdN_tl (rdN_hd rfl ?_)))))))
      | refine rdN_tl (rdN_tl (rdN_tl (rdN_tl (rdN_tl (rdN_tl (rdN_tl (rdN_tl (rdN_hd rfl ?_))))))))
      | refine stoK.hd (by simp) ?_
      | refine stoK.tl (stoK.hd (by simp) ?_)
      | refine stoK.tl (stoK.tl (stoK.hd (by simp) ?_))
      | refine stoK.tl (stoK.tl (stoK.tl (stoK.hd (by simp) ?_)))
      | refine stoK.tl (stoK.tl (stoK.tl (stoK.tl (stoK.hd (by simp) ?_))))
      | refine stoK.tl (stoK.tl (stoK.tl (stoK.tl (stoK.tl (stoK.hd (by simp) ?_)))))
      | refine stoK.tl (stoK.tl (stoK.tl (stoK.tl (stoK.tl (stoK.tl (stoK.hd (by simp) ?_))))))
      | refine stoK.tl (stoK.tl (stoK.tl (stoK.tl (stoK.tl (stoK.tl (stoK.tl (stoK.hd (by simp) ?_)))))))
      | refine stoK.tl (stoK.tl (stoK.tl (stoK.tl (stoK.tl (stoK.tl (stoK.tl (stoK.tl (stoK.hd (by simp) ?_))))))))
      | exact ⟨rfl, rfl, rfl⟩
      | (refine And.intro ?_ ?_; (· omega))
      | refine ⟨fun hg => ?_, fun hg => ?_⟩
      | (refine VC.condb rfl (fun hg => ?_) (fun hg => ?_) <;> (try simp -implicitDefEqProofs only [hg, if_true, if_false, ↓reduceIte, Bool.false_eq_true]))
      | fail
    refine VC.drop (L' := []) (List.nil_sublist _) ?_
    repeat' first
      | with_reducible refine thn_n ?_
      | with_reducible refine thn_r ?_
      | with_reducible refine thn_e ?_
      | with_reducible refine blk_n ?_
      | with_reducible refine blk_r ?_
      | with_reducible refine blk_h ?_
      | with_reducible refine blk_m rfl ?_
      | with_reducible refine fin_n ?_
      | with_reducible refine fin_r ?_
      | with_reducible refine VC.rseq hP hk fun K q hK hq => ?_
      | with_reducible refine VC.rend hP hk fun K q hK hq => ?_
      | with_reducible refine VC.seq ?_
      | with_reducible refine VC.skip ?_
      | with_reducible refine VC.ret ?_
      | with_reducible refine VC.exit ?_
      | with_reducible refine VC.block ?_
      | refine vops_gt rfl ?_
      | refine vops_gf rfl ?_
      | refine vsch_gt rfl ?_
      | refine vsch_gf rfl ?_
      | refine vall_gt rfl ?_ ?_
      | refine vall_gf rfl ?_ ?_
      | (refine vops_gb rfl (fun hb => ?_) (fun hb => ?_) <;> (try simp only [Bool.not_true, Bool.not_false] at hb) <;> (try simp -implicitDefEqProofs only [hb, if_true, if_false, ↓reduceIte, Bool.false_eq_true]))
      | (refine vsch_gb rfl (by simp only [noStop]) (fun hb => ?_) (fun hb => ?_) <;> (try simp only [Bool.not_true, Bool.not_false] at hb) <;> (try simp -implicitDefEqProofs only [hb, if_true, if_false, ↓reduceIte, Bool.false_eq_true]))
      | refine vall_gb rfl (fun hb => ?_) (fun hb => ?_) ?_
      | refine VC.condt rfl ?_
      | refine VC.condf rfl ?_
      | (refine hK.out _ _ _ _ (by simp -implicitDefEqProofs only [go_sem, ↓reduceIte, Int.reduceToNat, Nat.mul_one, Int.reduceBEq, Int.reduceBNe, beq_self_eq_true, bne_self_eq_false, Int.reduceLT, Int.reduceLE, Int.reduceAdd, Int.reduceSub, Int.reduceNeg, decide_true, decide_false, gt_iff_lt, ge_iff_le, Int.natCast_one, Int.natCast_zero, Int.cast_ofNat_Int, Nat.reduceLeDiff, Nat.reduceEqDiff, Nat.reduceAdd, Nat.reduceSub, Nat.reduceMul, reduceCtorEq]; rfl) ?_; clear hK hq K q)
      | simp -implicitDefEqProofs only [go_sem, ↓reduceIte, Int.reduceToNat, Nat.mul_one, Int.reduceBEq, Int.reduceBNe, beq_self_eq_true, bne_self_eq_false, Int.reduceLT, Int.reduceLE, Int.reduceAdd, Int.reduceSub, Int.reduceNeg, decide_true, decide_false, gt_iff_lt, ge_iff_le, Int.natCast_one, Int.natCast_zero, Int.cast_ofNat_Int, Nat.reduceLeDiff, Nat.reduceEqDiff, Nat.reduceAdd, Nat.reduceSub, Nat.reduceMul, reduceCtorEq]
      | refine rd1_hd rfl ?_
      | refine rd1_tl (rd1_hd rfl ?_)
      | refine rd1_tl (rd1_tl (rd1_hd rfl ?_))
      | refine rd1_tl (rd1_tl (rd1_tl (rd1_hd rfl ?_)))
      | refine rd1_tl (rd1_tl (rd1_tl (rd1_tl (rd1_hd rfl ?_))))
      | refine rd1_tl (rd1_tl (rd1_tl (rd1_tl (rd1_tl (rd1_hd rfl ?_)))))
      | refine rd1_tl (rd1_tl (rd1_tl (rd1_tl (rd1_tl (rd1_tl (rd1_hd rfl ?_))))))
      | refine rd1_tl (rd1_tl (rd1_tl (rd1_tl (rd1_tl (rd1_tl (rd1_tl (rd1_hd rfl ?_)))))))
      | refine rd1_tl (rd1_tl (rd1_tl (rd1_tl (rd1_tl (rd1_tl (rd1_tl (rd1_tl (rd1_hd rfl ?_))))))))
      | refine rdN_hd rfl ?_
      | refine rdN_tl (rdN_hd rfl ?_)
      | refine rdN_tl (rdN_tl (rdN_hd rfl ?_))
      | refine rdN_tl (rdN_tl (rdN_tl (rdN_hd rfl ?_)))
      | refine rdN_tl (rdN_tl (rdN_tl (rdN_tl (rdN_hd rfl ?_))))
      | refine rdN_tl (rdN_tl (rdN_tl (rdN_tl (rdN_tl (rdN_hd rfl ?_)))))
      | refine rdN_tl (rdN_tl (rdN_tl (rdN_tl (rdN_tl (rdN_tl (rdN_hd rfl ?_))))))
      | refine rdN_tl (rdN_tl (rdN_tl (rdN_tl (rdN_tl (rdN_tl (rdN_tl (rdN_hd rfl ?_)))))))
      | refine rdN_tl (rdN_tl (rdN_tl (rdN_tl (rdN_tl (rdN_tl (rdN_tl (rdN_tl (rdN_hd rfl ?_))))))))
      | refine stoK.hd (by simp) ?_
      | refine stoK.tl (stoK.hd (by simp) ?_)
      | refine stoK.tl (stoK.tl (stoK.hd (by simp) ?_))
      | refine stoK.tl (stoK.tl (stoK.tl (stoK.hd (by simp) ?_)))
      | refine stoK.tl (stoK.tl (stoK.tl (stoK.tl (stoK.hd (by simp) ?_))))
      | refine stoK.tl (stoK.tl (stoK.tl (stoK.tl (stoK.tl (stoK.hd (by simp) ?_)))))
      | refine stoK.tl (stoK.tl (stoK.tl (stoK.tl (stoK.tl (stoK.tl (stoK.hd (by simp) ?_))))))
      | refine stoK.tl (stoK.tl (stoK.tl (stoK.tl (stoK.tl (stoK.tl (stoK.tl (stoK.hd (by simp) ?_)))))))
      | refine stoK.tl (stoK.tl (stoK.tl (stoK.tl (stoK.tl (stoK.tl (stoK.tl (stoK.tl (stoK.hd (by simp) ?_))))))))
      | exact ⟨rfl, rfl, rfl⟩
      | (refine And.intro ?_ ?_; (· omega))
      | refine ⟨fun hg => ?_, fun hg => ?_⟩
      | (refine VC.condb rfl (fun hg => ?_) (fun hg => ?_) <;> (try simp -implicitDefEqProofs only [hg, if_true, if_false, ↓reduceIte, Bool.false_eq_true]))
      | fail
    refine ⟨j + 1, by omega, ?_, by omega⟩
    simp [Env.Sub, Env.get]
    exact wrap64 (by omega) (by have := t8.max; omega)
  · exact hQ _ (by simp [Env.Sub, Env.get])
theorem loop10 (hP : Γ.P = Try.prog) (hk : Γ.keep = ks3) (rx : G.has ⟨b3, 0, none⟩ x.cells) (xo : x.Ok G) (hx : ∀ j, j < x.n1 → ∃ i, x.fs[j]? = some (.int .i64 i)) {C1 : Option Addr} {e1 : Nat} (t1 : Row G 1 8 C1 x.n1 x.fs)
    {env : Env} (he : Env.Sub (base b2 b3 b14 b16 ++ [(194, .slice C1 x.n1 e1), (195, .int .i64 x.n1), (196, .int .i64 0)]) env) (hQ : ∀ env', Env.Sub (base b2 b3 b14 b16) env' → Q .normal env' G []) : VC Γ cd3_8 env G [] Q := by
  refine VC.sub _ he ?_
  simp only [cd3_8, base, List.cons_append, List.nil_append]
  refine VC.block (VC.loop (fun j : Nat => [(2, pt b2), (3, pt b3), (14, pt b14), (16, pt b16), (194, .slice C1 x.n1 e1), (195, .int .i64 x.n1), (196, .int .i64 (j : Int))])
    (fun j G' L' => j ≤ x.n1 ∧ G = G' ∧ [] = L') (fun j => x.n1 - j) 0 (by simp [Env.Sub, Env.get]) ⟨by omega, rfl, rfl⟩ ?_)
  rintro j _ _ ⟨hj, rfl, rfl⟩
  repeat' first
    | with_reducible refine thn_n ?_
    | with_reducible refine thn_r ?_
    | with_reducible refine thn_e ?_
    | with_reducible refine blk_n ?_
    | with_reducible refine blk_r ?_
    | with_reducible refine blk_h ?_
    | with_reducible refine blk_m rfl ?_
    | with_reducible refine fin_r ?_
    | with_reducible refine VC.rseq hP hk fun K q hK hq => ?_
    | with_reducible refine VC.rend hP hk fun K q hK hq => ?_
    | with_reducible refine VC.seq ?_
    | with_reducible refine VC.skip ?_
    | with_reducible refine VC.ret ?_
    | with_reducible refine VC.exit ?_
    | with_reducible refine VC.block ?_
    | refine vops_gt rfl ?_
    | refine vops_gf rfl ?_
    | refine vsch_gt rfl ?_
    | refine vsch_gf rfl ?_
    | refine vall_gt rfl ?_ ?_
    | refine vall_gf rfl ?_ ?_
    | (refine vops_gb rfl (fun hb => ?_) (fun hb => ?_) <;> (try simp only [Bool.not_true, Bool.not_false] at hb) <;> (try simp -implicitDefEqProofs only [hb, if_true, if_false, ↓reduceIte, Bool.false_eq_true]))
    | (refine vsch_gb rfl (by simp only [noStop]) (fun hb => ?_) (fun hb => ?_) <;> (try simp only [Bool.not_true, Bool.not_false] at hb) <;> (try simp -implicitDefEqProofs only [hb, if_true, if_false, ↓reduceIte, Bool.false_eq_true]))
    | refine vall_gb rfl (fun hb => ?_) (fun hb => ?_) ?_
    | refine VC.condt rfl ?_
    | refine VC.condf rfl ?_
    | (refine hK.out _ _ _ _ (by simp -implicitDefEqProofs only [go_sem, ↓reduceIte, Int.reduceToNat, Nat.mul_one, Int.reduceBEq, Int.reduceBNe, beq_self_eq_true, bne_self_eq_false, Int.reduceLT, Int.reduceLE, Int.reduceAdd, Int.reduceSub, Int.reduceNeg, decide_true, decide_false, gt_iff_lt, ge_iff_le, Int.natCast_one, Int.natCast_zero, Int.cast_ofNat_Int, Nat.reduceLeDiff, Nat.reduceEqDiff, Nat.reduceAdd, Nat.reduceSub, Nat.reduceMul, reduceCtorEq]; rfl) ?_; clear hK hq K q)
    | simp -implicitDefEqProofs only [go_sem, ↓reduceIte, Int.reduceToNat, Nat.mul_one, Int.reduceBEq, Int.reduceBNe, beq_self_eq_true, bne_self_eq_false, Int.reduceLT, Int.reduceLE, Int.reduceAdd, Int.reduceSub, Int.reduceNeg, decide_true, decide_false, gt_iff_lt, ge_iff_le, Int.natCast_one, Int.natCast_zero, Int.cast_ofNat_Int, Nat.reduceLeDiff, Nat.reduceEqDiff, Nat.reduceAdd, Nat.reduceSub, Nat.reduceMul, reduceCtorEq]
    | refine rd1_hd rfl ?_
    | refine rd1_tl (rd1_hd rfl ?_)
    | refine rd1_tl (rd1_tl (rd1_hd rfl ?_))
    | refine rd1_tl (rd1_tl (rd1_tl (rd1_hd rfl ?_)))
    | refine rd1_tl (rd1_tl (rd1_tl (rd1_tl (rd1_hd rfl ?_))))
    | refine rd1_tl (rd1_tl (rd1_tl (rd1_tl (rd1_tl (rd1_hd rfl ?_)))))
    | refine rd1_tl (rd1_tl (rd1_tl (rd1_tl (rd1_tl (rd1_tl (rd1_hd rfl ?_))))))
    | refine rd1_tl (rd1_tl (rd1_tl (rd1_tl (rd1_tl (rd1_tl (rd1_tl (rd1_hd rfl ?_)))))))
    | refine rd1_tl (rd1_tl (rd1_tl (rd1_tl (rd1_tl (rd1_tl (rd1_tl (rd1_tl (rd1_hd rfl ?_))))))))
    | refine rdN_hd rfl ?_
    | refine rdN_tl (rdN_hd rfl ?_)
    | refine rdN_tl (rdN_tl (rdN_hd rfl ?_))
    | refine rdN_tl (rdN_tl (rdN_tl (rdN_hd rfl ?_)))
    | refine rdN_tl (rdN_tl (rdN_tl (rdN_tl (rdN_hd rfl ?_))))
    | refine rdN_tl (rdN_tl (rdN_tl (rdN_tl (rdN_tl (rdN_hd rfl ?_)))))
    | refine rdN_tl (rdN_tl (rdN_tl (rdN_tl (rdN_tl (rdN_tl (rdN_hd rfl ?_))))))
    | refine rdN_tl (rdN_tl (rdN_tl (rdN_tl (rdN_tl (rdN_tl (rdN_tl (rdN_hd rfl ?_)))))))
    | refine rdN_tl (rdN_tl (rdN_tl (rdN_tl (rdN_tl (rdN_tl (rdN_tl (rdN_tl (rdN_hd rfl ?_))))))))
    | refine stoK.hd (by simp) ?_
    | refine stoK.tl (stoK.hd (by simp) ?_)
    | refine stoK.tl (stoK.tl (stoK.hd (by simp) ?_))
    | refine stoK.tl (stoK.tl (stoK.tl (stoK.hd (by simp) ?_)))
    | refine stoK.tl (stoK.tl (stoK.tl (stoK.tl (stoK.hd (by simp) ?_))))
    | refine stoK.tl (stoK.tl (stoK.tl (stoK.tl (stoK.tl (stoK.hd (by simp) ?_)))))
    | refine stoK.tl (stoK.tl (stoK.tl (stoK.tl (stoK.tl (stoK.tl (stoK.hd (by simp) ?_))))))
    | refine stoK.tl (stoK.tl (stoK.tl (stoK.tl (stoK.tl (stoK.tl (stoK.tl (stoK.hd (by simp) ?_)))))))
    | refine stoK.tl (stoK.tl (stoK.tl (stoK.tl (stoK.tl (stoK.tl (stoK.tl (stoK.tl (stoK.hd (by simp) ?_))))))))
    | exact ⟨rfl, rfl, rfl⟩
    | (refine And.intro ?_ ?_; (· omega))
    | refine ⟨fun hg => ?_, fun hg => ?_⟩
    | (refine VC.condb rfl (fun hg => ?_) (fun hg => ?_) <;> (try simp -implicitDefEqProofs only [hg, if_true, if_false, ↓reduceIte, Bool.false_eq_true]))
    | fail
  · have hj' : j < x.n1 := by simpa using hg
    obtain ⟨v0, ex⟩ := hx j hj'
    obtain ⟨y1, z1, hB8, hy1⟩ := t1.at hj' (by omega)
    subst hB8
    obtain ⟨y2, z2, hA8, hy2⟩ := xo.h1.at hj' (by omega)
    repeat' first
      | with_reducible refine thn_n ?_
      | with_reducible refine thn_r ?_
      | with_reducible refine thn_e ?_
      | with_reducible refine blk_n ?_
      | with_reducible refine blk_r ?_
      | with_reducible refine blk_h ?_
      | with_reducible refine blk_m rfl ?_
      | with_reducible refine fin_n ?_
      | with_reducible refine fin_r ?_
      | with_reducible refine VC.rseq hP hk fun K q hK hq => ?_
      | with_reducible refine VC.rend hP hk fun K q hK hq => ?_
      | with_reducible refine VC.seq ?_
      | with_reducible refine VC.skip ?_
      | with_reducible refine VC.ret ?_
      | with_reducible refine VC.exit ?_
      | with_reducible refine VC.block ?_
      | refine vops_gt rfl ?_
      | refine vops_gf rfl ?_
      | refine vsch_gt rfl ?_
      | refine vsch_gf rfl ?_
      | refine vall_gt rfl ?_ ?_
      | refine vall_gf rfl ?_ ?_
      | (refine vops_gb rfl (fun hb => ?_) (fun hb => ?_) <;> (try simp only [Bool.not_true, Bool.not_false] at hb) <;> (try simp -implicitDefEqProofs only [hb, if_true, if_false, ↓reduceIte, Bool.false_eq_true]))
      | (refine vsch_gb rfl (by simp only [noStop]) (fun hb => ?_) (fun hb => ?_) <;> (try simp only [Bool.not_true, Bool.not_false] at hb) <;> (try simp -implicitDefEqProofs only [hb, if_true, if_false, ↓reduceIte, Bool.false_eq_true]))
      | refine vall_gb rfl (fun hb => ?_) (fun hb => ?_) ?_
      | refine VC.condt rfl ?_
      | refine VC.condf rfl ?_
      | (refine hK.out _ _ _ _ (by simp -implicitDefEqProofs only [go_sem, ↓reduceIte, Int.reduceToNat, Nat.mul_one, Int.reduceBEq, Int.reduceBNe, beq_self_eq_true, bne_self_eq_false, Int.reduceLT, Int.reduceLE, Int.reduceAdd, Int.reduceSub, Int.reduceNeg, decide_true, decide_false, gt_iff_lt, ge_iff_le, Int.natCast_one, Int.natCast_zero, Int.cast_ofNat_Int, Nat.reduceLeDiff, Nat.reduceEqDiff, Nat.reduceAdd, Nat.reduceSub, Nat.reduceMul, reduceCtorEq]; rfl) ?_; clear hK hq K q)
      | simp -implicitDefEqProofs only [go_sem, ↓reduceIte, Int.reduceToNat, Nat.mul_one, Int.reduceBEq, Int.reduceBNe, beq_self_eq_true, bne_self_eq_false, Int.reduceLT, Int.reduceLE, Int.reduceAdd, Int.reduceSub, Int.reduceNeg, decide_true, decide_false, gt_iff_lt, ge_iff_le, Int.natCast_one, Int.natCast_zero, Int.cast_ofNat_Int, Nat.reduceLeDiff, Nat.reduceEqDiff, Nat.reduceAdd, Nat.reduceSub, Nat.reduceMul, reduceCtorEq]
      | refine ⟨_, rfl, ?_⟩
      | refine rd1_at hy1 rfl ex ?_
      | refine rd1_sub rx rfl ?_
      | refine rd1_at hy2 rfl ex ?_
      | refine ⟨_, hA8, ?_⟩
      | refine rd1_hd rfl ?_
      | refine rd1_tl (rd1_hd rfl ?_)
      | refine rd1_tl (rd1_tl (rd1_hd rfl ?_))
      | refine rd1_tl (rd1_tl (rd1_tl (rd1_hd rfl ?_)))
      | refine rd1_tl (rd1_tl (rd1_tl (rd1_tl (rd1_hd rfl ?_))))
      | refine rd1_tl (rd1_tl (rd1_tl (rd1_tl (rd1_tl (rd1_hd rfl ?_)))))
      | refine rd1_tl (rd1_tl (rd1_tl (rd1_tl (rd1_tl (rd1_tl (rd1_hd rfl ?_))))))
      | refine rd1_tl (rd1_tl (rd1_tl (rd1_tl (rd1_tl (rd1_tl (rd1_tl (rd1_hd rfl ?_)))))))
      | refine rd1_tl (rd1_tl (rd1_tl (rd1_tl (rd1_tl (rd1_tl (rd1_tl (rd1_tl (rd1_hd rfl ?_))))))))
      | refine rdN_hd rfl ?_
      | refine rdN_tl (rdN_hd rfl ?_)
      | refine rdN_tl (rdN_tl (rdN_hd rfl ?_))
      | refine rdN_tl (rdN_tl (rdN_tl (rdN_hd rfl ?_)))
      | refine rdN_tl (rdN_tl (rdN_tl (rdN_tl (rdN_hd rfl ?_))))
      | refine rdN_tl (rdN_tl (rdN_tl (rdN_tl (rdN_tl (rdN_hd rfl ?_)))))
      | refine rdN_tl (rdN_tl (rdN_tl (rdN_tl (rdN_tl (rdN_tl (rdN_hd rfl ?_))))))
      | refine rdN_tl (rdN_tl (rdN_tl (rdN_tl (rdN_tl (rdN_tl (rdN_tl (rdN_hd rfl ?_)))))))
      | refine rdN_tl (rdN_tl (rdN_tl (rdN_tl (rdN_tl (rdN_tl (rdN_tl (rdN_tl (rdN_hd rfl ?_))))))))
      | refine stoK.hd (by simp) ?_
      | refine stoK.tl (stoK.hd (by simp) ?_)
      | refine stoK.tl (stoK.tl (stoK.hd (by simp) ?_))
      | refine stoK.tl (stoK.tl (stoK.tl (stoK.hd (by simp) ?_)))
      | refine stoK.tl (stoK.tl (stoK.tl (stoK.tl (stoK.hd (by simp) ?_))))
      | refine stoK.tl (stoK.tl (stoK.tl (stoK.tl (stoK.tl (stoK.hd (by simp) ?_)))))
      | refine stoK.tl (stoK.tl (stoK.tl (stoK.tl (stoK.tl (stoK.tl (stoK.hd (by simp) ?_))))))
      | refine stoK.tl (stoK.tl (stoK.tl (stoK.tl (stoK.tl (stoK.tl (stoK.tl (stoK.hd (by simp) ?_)))))))
      | refine stoK.tl (stoK.tl (stoK.tl (stoK.tl (stoK.tl (stoK.tl (stoK.tl (stoK.tl (stoK.hd (by simp) ?_))))))))
      | exact ⟨rfl, rfl, rfl⟩
      | (refine And.intro ?_ ?_; (· omega))
      | refine ⟨fun hg => ?_, fun hg => ?_⟩
      | (refine VC.condb rfl (fun hg => ?_) (fun hg => ?_) <;> (try simp -implicitDefEqProofs only [hg, if_true, if_false, ↓reduceIte, Bool.false_eq_true]))
      | fail
    refine ⟨j + 1, by omega, ?_, by omega⟩
    simp [Env.Sub, Env.get]
    exact wrap64 (by omega) (by have := t1.max; omega)
  · exact hQ _ (by simp [Env.Sub, Env.get])
theorem loop12 (hP : Γ.P = Try.prog) (hk : Γ.keep = ks3) (rx : G.has ⟨b3, 0, none⟩ x.cells) (xo : x.Ok G) (hx : ∀ j, j < x.n5 → ∃ s a b, x.es[j * 3]? = some (.string s) ∧ x.es[j * 3 + 1]? = some a ∧ x.es[j * 3 + 2]? = some b ∧ s.size ≤ 140737488351232) {C5 : Option Addr} {e5 : Nat} (t5 : Row G 3 32 C5 x.n5 x.es)
    {env : Env} (he : Env.Sub (base b2 b3 b14 b16 ++ [(210, .slice C5 x.n5 e5), (211, .int .i64 x.n5), (212, .int .i64 0)]) env) (hQ : ∀ env', Env.Sub (base b2 b3 b14 b16) env' → Q .normal env' G []) : VC Γ cd3_9 env G [] Q := by
  refine VC.sub _ he ?_
  simp only [cd3_9, base, List.cons_append, List.nil_append]
  refine VC.block (VC.loop (fun j : Nat => [(2, pt b2), (3, pt b3), (14, pt b14), (16, pt b16), (210, .slice C5 x.n5 e5), (211, .int .i64 x.n5), (212, .int .i64 (j : Int))])
    (fun j G' L' => j ≤ x.n5 ∧ G = G' ∧ [] = L') (fun j => x.n5 - j) 0 (by simp [Env.Sub, Env.get]) ⟨by omega, rfl, rfl⟩ ?_)
  rintro j _ _ ⟨hj, rfl, rfl⟩
  repeat' first
    | with_reducible refine thn_n ?_
    | with_reducible refine thn_r ?_
    | with_reducible refine thn_e ?_
    | with_reducible refine blk_n ?_
    | with_reducible refine blk_r ?_
    | with_reducible refine blk_h ?_
    | with_reducible refine blk_m rfl ?_
    | with_reducible refine fin_r ?_
    | with_reducible refine VC.rseq hP hk fun K q hK hq => ?_
    | with_reducible refine VC.rend hP hk fun K q hK hq => ?_
    | with_reducible refine VC.seq ?_
    | with_reducible refine VC.skip ?_
    | with_reducible refine VC.ret ?_
    | with_reducible refine VC.exit ?_
    | with_reducible refine VC.block ?_
    | refine vops_gt rfl ?_
    | refine vops_gf rfl ?_
    | refine vsch_gt rfl ?_
    | refine vsch_gf rfl ?_
    | refine vall_gt rfl ?_ ?_
    | refine vall_gf rfl ?_ ?_
    | (refine vops_gb rfl (fun hb => ?_) (fun hb => ?_) <;> (try simp only [Bool.not_true, Bool.not_false] at hb) <;> (try simp -implicitDefEqProofs only [hb, if_true, if_false, ↓reduceIte, Bool.false_eq_true]))
    | (refine vsch_gb rfl (by simp only [noStop]) (fun hb => ?_) (fun hb => ?_) <;> (try simp only [Bool.not_true, Bool.not_false] at hb) <;> (try simp -implicitDefEqProofs only [hb, if_true, if_false, ↓reduceIte, Bool.false_eq_true]))
    | refine vall_gb rfl (fun hb => ?_) (fun hb => ?_) ?_
    | refine VC.condt rfl ?_
    | refine VC.condf rfl ?_
    | (refine hK.out _ _ _ _ (by simp -implicitDefEqProofs only [go_sem, ↓reduceIte, Int.reduceToNat, Nat.mul_one, Int.reduceBEq, Int.reduceBNe, beq_self_eq_true, bne_self_eq_false, Int.reduceLT, Int.reduceLE, Int.reduceAdd, Int.reduceSub, Int.reduceNeg, decide_true, decide_false, gt_iff_lt, ge_iff_le, Int.natCast_one, Int.natCast_zero, Int.cast_ofNat_Int, Nat.reduceLeDiff, Nat.reduceEqDiff, Nat.reduceAdd, Nat.reduceSub, Nat.reduceMul, reduceCtorEq]; rfl) ?_; clear hK hq K q)
    | simp -implicitDefEqProofs only [go_sem, ↓reduceIte, Int.reduceToNat, Nat.mul_one, Int.reduceBEq, Int.reduceBNe, beq_self_eq_true, bne_self_eq_false, Int.reduceLT, Int.reduceLE, Int.reduceAdd, Int.reduceSub, Int.reduceNeg, decide_true, decide_false, gt_iff_lt, ge_iff_le, Int.natCast_one, Int.natCast_zero, Int.cast_ofNat_Int, Nat.reduceLeDiff, Nat.reduceEqDiff, Nat.reduceAdd, Nat.reduceSub, Nat.reduceMul, reduceCtorEq]
    | refine rd1_hd rfl ?_
    | refine rd1_tl (rd1_hd rfl ?_)
    | refine rd1_tl (rd1_tl (rd1_hd rfl ?_))
    | refine rd1_tl (rd1_tl (rd1_tl (rd1_hd rfl ?_)))
    | refine rd1_tl (rd1_tl (rd1_tl (rd1_tl (rd1_hd rfl ?_))))
    | refine rd1_tl (rd1_tl (rd1_tl (rd1_tl (rd1_tl (rd1_hd rfl ?_)))))
    | refine rd1_tl (rd1_tl (rd1_tl (rd1_tl (rd1_tl (rd1_tl (rd1_hd rfl ?_))))))
    | refine rd1_tl (rd1_tl (rd1_tl (rd1_tl (rd1_tl (rd1_tl (rd1_tl (rd1_hd rfl ?_)))))))
    | refine rd1_tl (rd1_tl (rd1_tl (rd1_tl (rd1_tl (rd1_tl (rd1_tl (rd1_tl (rd1_hd rfl ?_))))))))
    | refine rdN_hd rfl ?_
    | refine rdN_tl (rdN_hd rfl ?_)
    | refine rdN_tl (rdN_tl (rdN_hd rfl ?_))
    | refine rdN_tl (rdN_tl (rdN_tl (rdN_hd rfl ?_)))
    | refine rdN_tl (rdN_tl (rdN_tl (rdN_tl (rdN_hd rfl ?_))))
    | refine rdN_tl (rdN_tl (rdN_tl (rdN_tl (rdN_tl (rdN_hd rfl ?_)))))
    | refine rdN_tl (rdN_tl (rdN_tl (rdN_tl (rdN_tl (rdN_tl (rdN_hd rfl ?_))))))
    | refine rdN_tl (rdN_tl (rdN_tl (rdN_tl (rdN_tl (rdN_tl (rdN_tl (rdN_hd rfl ?_)))))))
    | refine rdN_tl (rdN_tl (rdN_tl (rdN_tl (rdN_tl (rdN_tl (rdN_tl (rdN_tl (rdN_hd rfl ?_))))))))
    | refine stoK.hd (by simp) ?_
    | refine stoK.tl (stoK.hd (by simp) ?_)
    | refine stoK.tl (stoK.tl (stoK.hd (by simp) ?_))
    | refine stoK.tl (stoK.tl (stoK.tl (stoK.hd (by simp) ?_)))
    | refine stoK.tl (stoK.tl (stoK.tl (stoK.tl (stoK.hd (by simp) ?_))))
    | refine stoK.tl (stoK.tl (stoK.tl (stoK.tl (stoK.tl (stoK.hd (by simp) ?_)))))
    | refine stoK.tl (stoK.tl (stoK.tl (stoK.tl (stoK.tl (stoK.tl (stoK.hd (by simp) ?_))))))
    | refine stoK.tl (stoK.tl (stoK.tl (stoK.tl (stoK.tl (stoK.tl (stoK.tl (stoK.hd (by simp) ?_)))))))
    | refine stoK.tl (stoK.tl (stoK.tl (stoK.tl (stoK.tl (stoK.tl (stoK.tl (stoK.tl (stoK.hd (by simp) ?_))))))))
    | exact ⟨rfl, rfl, rfl⟩
    | (refine And.intro ?_ ?_; (· omega))
    | refine ⟨fun hg => ?_, fun hg => ?_⟩
    | (refine VC.condb rfl (fun hg => ?_) (fun hg => ?_) <;> (try simp -implicitDefEqProofs only [hg, if_true, if_false, ↓reduceIte, Bool.false_eq_true]))
    | fail
  · have hj' : j < x.n5 := by simpa using hg
    obtain ⟨s0, a, b, ex, ea, eb, hs0⟩ := hx j hj'
    have oa := xo.h5.one _ (List.mem_of_getElem? ea)
    have ob := xo.h5.one _ (List.mem_of_getElem? eb)
    obtain ⟨y1, z1, hB8, hy1⟩ := t5.at hj' (by omega)
    subst hB8
    obtain ⟨y2, z2, hA8, hy2⟩ := xo.h5.at hj' (by omega)
    repeat' first
      | with_reducible refine thn_n ?_
      | with_reducible refine thn_r ?_
      | with_reducible refine thn_e ?_
      | with_reducible refine blk_n ?_
      | with_reducible refine blk_r ?_
      | with_reducible refine blk_h ?_
      | with_reducible refine blk_m rfl ?_
      | with_reducible refine fin_n ?_
      | with_reducible refine fin_r ?_
      | with_reducible refine VC.seq ?_
      | with_reducible refine VC.skip ?_
      | with_reducible refine VC.ret ?_
      | with_reducible refine VC.exit ?_
      | with_reducible refine VC.block ?_
      | refine vops_gt rfl ?_
      | refine vops_gf rfl ?_
      | refine vsch_gt rfl ?_
      | refine vsch_gf rfl ?_
      | refine vall_gt rfl ?_ ?_
      | refine vall_gf rfl ?_ ?_
      | (refine vops_gb rfl (fun hb => ?_) (fun hb => ?_) <;> (try simp only [Bool.not_true, Bool.not_false] at hb) <;> (try simp -implicitDefEqProofs only [hb, if_true, if_false, ↓reduceIte, Bool.false_eq_true]))
      | (refine vsch_gb rfl (by simp only [noStop]) (fun hb => ?_) (fun hb => ?_) <;> (try simp only [Bool.not_true, Bool.not_false] at hb) <;> (try simp -implicitDefEqProofs only [hb, if_true, if_false, ↓reduceIte, Bool.false_eq_true]))
      | refine vall_gb rfl (fun hb => ?_) (fun hb => ?_) ?_
      | refine VC.condt rfl ?_
      | refine VC.condf rfl ?_
      | (refine hK.out _ _ _ _ (by simp -implicitDefEqProofs only [go_sem, ↓reduceIte, Int.reduceToNat, Nat.mul_one, Int.reduceBEq, Int.reduceBNe, beq_self_eq_true, bne_self_eq_false, Int.reduceLT, Int.reduceLE, Int.reduceAdd, Int.reduceSub, Int.reduceNeg, decide_true, decide_false, gt_iff_lt, ge_iff_le, Int.natCast_one, Int.natCast_zero, Int.cast_ofNat_Int, Nat.reduceLeDiff, Nat.reduceEqDiff, Nat.reduceAdd, Nat.reduceSub, Nat.reduceMul, reduceCtorEq]; rfl) ?_; clear hK hq K q)
      | simp -implicitDefEqProofs only [go_sem, ↓reduceIte, Int.reduceToNat, Nat.mul_one, Int.reduceBEq, Int.reduceBNe, beq_self_eq_true, bne_self_eq_false, Int.reduceLT, Int.reduceLE, Int.reduceAdd, Int.reduceSub, Int.reduceNeg, decide_true, decide_false, gt_iff_lt, ge_iff_le, Int.natCast_one, Int.natCast_zero, Int.cast_ofNat_Int, Nat.reduceLeDiff, Nat.reduceEqDiff, Nat.reduceAdd, Nat.reduceSub, Nat.reduceMul, reduceCtorEq]
      | refine ⟨_, rfl, ?_⟩
      | refine rdN_at (ws := [.string s0, a, b]) hy1 rfl rfl (ofCons ex (ofCons ea (ofCons eb ofNil))) ?_
      | (refine And.intro ⟨oa, ob⟩ ?_)
      | refine newB_own' fun b23 => ?_
      | refine rd1_hd rfl ?_
      | refine rd1_tl (rd1_hd rfl ?_)
      | refine rd1_tl (rd1_tl (rd1_hd rfl ?_))
      | refine rd1_tl (rd1_tl (rd1_tl (rd1_hd rfl ?_)))
      | refine rd1_tl (rd1_tl (rd1_tl (rd1_tl (rd1_hd rfl ?_))))
      | refine rd1_tl (rd1_tl (rd1_tl (rd1_tl (rd1_tl (rd1_hd rfl ?_)))))
      | refine rd1_tl (rd1_tl (rd1_tl (rd1_tl (rd1_tl (rd1_tl (rd1_hd rfl ?_))))))
      | refine rd1_tl (rd1_tl (rd1_tl (rd1_tl (rd1_tl (rd1_tl (rd1_tl (rd1_hd rfl ?_)))))))
      | refine rd1_tl (rd1_tl (rd1_tl (rd1_tl (rd1_tl (rd1_tl (rd1_tl (rd1_tl (rd1_hd rfl ?_))))))))
      | refine rdN_hd rfl ?_
      | refine rdN_tl (rdN_hd rfl ?_)
      | refine rdN_tl (rdN_tl (rdN_hd rfl ?_))
      | refine rdN_tl (rdN_tl (rdN_tl (rdN_hd rfl ?_)))
      | refine rdN_tl (rdN_tl (rdN_tl (rdN_tl (rdN_hd rfl ?_))))
      | refine rdN_tl (rdN_tl (rdN_tl (rdN_tl (rdN_tl (rdN_hd rfl ?_)))))
      | refine rdN_tl (rdN_tl (rdN_tl (rdN_tl (rdN_tl (rdN_tl (rdN_hd rfl ?_))))))
      | refine rdN_tl (rdN_tl (rdN_tl (rdN_tl (rdN_tl (rdN_tl (rdN_tl (rdN_hd rfl ?_)))))))
      | refine rdN_tl (rdN_tl (rdN_tl (rdN_tl (rdN_tl (rdN_tl (rdN_tl (rdN_tl (rdN_hd rfl ?_))))))))
      | refine stoK.hd (by simp) ?_
      | refine stoK.tl (stoK.hd (by simp) ?_)
      | refine stoK.tl (stoK.tl (stoK.hd (by simp) ?_))
      | refine stoK.tl (stoK.tl (stoK.tl (stoK.hd (by simp) ?_)))
      | refine stoK.tl (stoK.tl (stoK.tl (stoK.tl (stoK.hd (by simp) ?_))))
      | refine stoK.tl (stoK.tl (stoK.tl (stoK.tl (stoK.tl (stoK.hd (by simp) ?_)))))
      | refine stoK.tl (stoK.tl (stoK.tl (stoK.tl (stoK.tl (stoK.tl (stoK.hd (by simp) ?_))))))
      | refine stoK.tl (stoK.tl (stoK.tl (stoK.tl (stoK.tl (stoK.tl (stoK.tl (stoK.hd (by simp) ?_)))))))
      | refine stoK.tl (stoK.tl (stoK.tl (stoK.tl (stoK.tl (stoK.tl (stoK.tl (stoK.tl (stoK.hd (by simp) ?_))))))))
      | exact ⟨rfl, rfl, rfl⟩
      | (refine And.intro ?_ ?_; (· omega))
      | refine ⟨fun hg => ?_, fun hg => ?_⟩
      | (refine VC.condb rfl (fun hg => ?_) (fun hg => ?_) <;> (try simp -implicitDefEqProofs only [hg, if_true, if_false, ↓reduceIte, Bool.false_eq_true]))
      | fail
    refine VC.dend hP hk ([]) ([(.obj b23 _ 58, none)]) (by (try simp only [lent, List.cons_append, List.nil_append]); repeat' first | exact List.Perm.refl _ | ((with_reducible refine permTake (pre := []) rfl ?_); simp only [List.cons_append, List.nil_append]) | ((with_reducible refine permTake (pre := [_]) rfl ?_); simp only [List.cons_append, List.nil_append]) | ((with_reducible refine permTake (pre := [_, _]) rfl ?_); simp only [List.cons_append, List.nil_append]) | ((with_reducible refine permTake (pre := [_, _, _]) rfl ?_); simp only [List.cons_append, List.nil_append]) | ((with_reducible refine permTake (pre := [_, _, _, _]) rfl ?_); simp only [List.cons_append, List.nil_append]) | ((with_reducible refine permTake (pre := [_, _, _, _, _]) rfl ?_); simp only [List.cons_append, List.nil_append]) | ((with_reducible refine permTake (pre := [_, _, _, _, _, _]) rfl ?_); simp only [List.cons_append, List.nil_append]) | fail) fun K q hK hq => ?_
    try simp -implicitDefEqProofs only [go_sem, ↓reduceIte, Int.reduceToNat, Nat.mul_one, Int.reduceBEq, Int.reduceBNe, beq_self_eq_true, bne_self_eq_false, Int.reduceLT, Int.reduceLE, Int.reduceAdd, Int.reduceSub, Int.reduceNeg, decide_true, decide_false, gt_iff_lt, ge_iff_le, Int.natCast_one, Int.natCast_zero, Int.cast_ofNat_Int, Nat.reduceLeDiff, Nat.reduceEqDiff, Nat.reduceAdd, Nat.reduceSub, Nat.reduceMul, reduceCtorEq]
    repeat' first
      | with_reducible refine thn_n ?_
      | with_reducible refine thn_r ?_
      | with_reducible refine thn_e ?_
      | with_reducible refine blk_n ?_
      | with_reducible refine blk_r ?_
      | with_reducible refine blk_h ?_
      | with_reducible refine blk_m rfl ?_
      | with_reducible refine fin_n ?_
      | with_reducible refine fin_r ?_
      | with_reducible refine VC.seq ?_
      | with_reducible refine VC.skip ?_
      | with_reducible refine VC.ret ?_
      | with_reducible refine VC.exit ?_
      | with_reducible refine VC.block ?_
      | refine vops_gt rfl ?_
      | refine vops_gf rfl ?_
      | refine vsch_gt rfl ?_
      | refine vsch_gf rfl ?_
      | refine vall_gt rfl ?_ ?_
      | refine vall_gf rfl ?_ ?_
      | (refine vops_gb rfl (fun hb => ?_) (fun hb => ?_) <;> (try simp only [Bool.not_true, Bool.not_false] at hb) <;> (try simp -implicitDefEqProofs only [hb, if_true, if_false, ↓reduceIte, Bool.false_eq_true]))
      | (refine vsch_gb rfl (by simp only [noStop]) (fun hb => ?_) (fun hb => ?_) <;> (try simp only [Bool.not_true, Bool.not_false] at hb) <;> (try simp -implicitDefEqProofs only [hb, if_true, if_false, ↓reduceIte, Bool.false_eq_true]))
      | refine vall_gb rfl (fun hb => ?_) (fun hb => ?_) ?_
      | refine VC.condt rfl ?_
      | refine VC.condf rfl ?_
      | (refine hK.out _ _ _ _ (by simp -implicitDefEqProofs only [go_sem, ↓reduceIte, Int.reduceToNat, Nat.mul_one, Int.reduceBEq, Int.reduceBNe, beq_self_eq_true, bne_self_eq_false, Int.reduceLT, Int.reduceLE, Int.reduceAdd, Int.reduceSub, Int.reduceNeg, decide_true, decide_false, gt_iff_lt, ge_iff_le, Int.natCast_one, Int.natCast_zero, Int.cast_ofNat_Int, Nat.reduceLeDiff, Nat.reduceEqDiff, Nat.reduceAdd, Nat.reduceSub, Nat.reduceMul, reduceCtorEq]; rfl) ?_; clear hK hq K q)
      | simp -implicitDefEqProofs only [go_sem, ↓reduceIte, Int.reduceToNat, Nat.mul_one, Int.reduceBEq, Int.reduceBNe, beq_self_eq_true, bne_self_eq_false, Int.reduceLT, Int.reduceLE, Int.reduceAdd, Int.reduceSub, Int.reduceNeg, decide_true, decide_false, gt_iff_lt, ge_iff_le, Int.natCast_one, Int.natCast_zero, Int.cast_ofNat_Int, Nat.reduceLeDiff, Nat.reduceEqDiff, Nat.reduceAdd, Nat.reduceSub, Nat.reduceMul, reduceCtorEq]
      | refine rd1_sub rx rfl ?_
      | refine rd1_at hy2 rfl ex ?_
      | refine ⟨_, hA8, ?_⟩
      | refine rd1_hd rfl ?_
      | refine rd1_tl (rd1_hd rfl ?_)
      | refine rd1_tl (rd1_tl (rd1_hd rfl ?_))
      | refine rd1_tl (rd1_tl (rd1_tl (rd1_hd rfl ?_)))
      | refine rd1_tl (rd1_tl (rd1_tl (rd1_tl (rd1_hd rfl ?_))))
      | refine rd1_tl (rd1_tl (rd1_tl (rd1_tl (rd1_tl (rd1_hd rfl ?_)))))
      | refine rd1_tl (rd1_tl (rd1_tl (rd1_tl (rd1_tl (rd1_tl (rd1_hd rfl ?_))))))
      | refine rd1_tl (rd1_tl (rd1_tl (rd1_tl (rd1_tl (rd1_tl (rd1_tl (rd1_hd rfl ?_)))))))
      | refine rd1_tl (rd1_tl (rd1_tl (rd1_tl (rd1_tl (rd1_tl (rd1_tl (rd1_tl (rd1_hd rfl ?_))))))))
      | refine rdN_hd rfl ?_
      | refine rdN_tl (rdN_hd rfl ?_)
      | refine rdN_tl (rdN_tl (rdN_hd rfl ?_))
      | refine rdN_tl (rdN_tl (rdN_tl (rdN_hd rfl ?_)))
      | refine rdN_tl (rdN_tl (rdN_tl (rdN_tl (rdN_hd rfl ?_))))
      | refine rdN_tl (rdN_tl (rdN_tl (rdN_tl (rdN_tl (rdN_hd rfl ?_)))))
      | refine rdN_tl (rdN_tl (rdN_tl (rdN_tl (rdN_tl (rdN_tl (rdN_hd rfl ?_))))))
      | refine rdN_tl (rdN_tl (rdN_tl (rdN_tl (rdN_tl (rdN_tl (rdN_tl (rdN_hd rfl ?_)))))))
      | refine rdN_tl (rdN_tl (rdN_tl (rdN_tl (rdN_tl (rdN_tl (rdN_tl (rdN_tl (rdN_hd rfl ?_))))))))
      | refine stoK.hd (by simp) ?_
      | refine stoK.tl (stoK.hd (by simp) ?_)
      | refine stoK.tl (stoK.tl (stoK.hd (by simp) ?_))
      | refine stoK.tl (stoK.tl (stoK.tl (stoK.hd (by simp) ?_)))
      | refine stoK.tl (stoK.tl (stoK.tl (stoK.tl (stoK.hd (by simp) ?_))))
      | refine stoK.tl (stoK.tl (stoK.tl (stoK.tl (stoK.tl (stoK.hd (by simp) ?_)))))
      | refine stoK.tl (stoK.tl (stoK.tl (stoK.tl (stoK.tl (stoK.tl (stoK.hd (by simp) ?_))))))
      | refine stoK.tl (stoK.tl (stoK.tl (stoK.tl (stoK.tl (stoK.tl (stoK.tl (stoK.hd (by simp) ?_)))))))
      | refine stoK.tl (stoK.tl (stoK.tl (stoK.tl (stoK.tl (stoK.tl (stoK.tl (stoK.tl (stoK.hd (by simp) ?_))))))))
      | exact ⟨rfl, rfl, rfl⟩
      | (refine And.intro ?_ ?_; (· omega))
      | refine ⟨fun hg => ?_, fun hg => ?_⟩
      | (refine VC.condb rfl (fun hg => ?_) (fun hg => ?_) <;> (try simp -implicitDefEqProofs only [hg, if_true, if_false, ↓reduceIte, Bool.false_eq_true]))
      | fail
    refine VC.drop (L' := []) (List.nil_sublist _) ?_
    repeat' first
      | with_reducible refine thn_n ?_
      | with_reducible refine thn_r ?_
      | with_reducible refine thn_e ?_
      | with_reducible refine blk_n ?_
      | with_reducible refine blk_r ?_
      | with_reducible refine blk_h ?_
      | with_reducible refine blk_m rfl ?_
      | with_reducible refine fin_n ?_
      | with_reducible refine fin_r ?_
      | with_reducible refine VC.rseq hP hk fun K q hK hq => ?_
      | with_reducible refine VC.rend hP hk fun K q hK hq => ?_
      | with_reducible refine VC.seq ?_
      | with_reducible refine VC.skip ?_
      | with_reducible refine VC.ret ?_
      | with_reducible refine VC.exit ?_
      | with_reducible refine VC.block ?_
      | refine vops_gt rfl ?_
      | refine vops_gf rfl ?_
      | refine vsch_gt rfl ?_
      | refine vsch_gf rfl ?_
      | refine vall_gt rfl ?_ ?_
      | refine vall_gf rfl ?_ ?_
      | (refine vops_gb rfl (fun hb => ?_) (fun hb => ?_) <;> (try simp only [Bool.not_true, Bool.not_false] at hb) <;> (try simp -implicitDefEqProofs only [hb, if_true, if_false, ↓reduceIte, Bool.false_eq_true]))
      | (refine vsch_gb rfl (by simp only [noStop]) (fun hb => ?_) (fun hb => ?_) <;> (try simp only [Bool.not_true, Bool.not_false] at hb) <;> (try simp -implicitDefEqProofs only [hb, if_true, if_false, ↓reduceIte, Bool.false_eq_true]))
      | refine vall_gb rfl (fun hb => ?_) (fun hb => ?_) ?_
      | refine VC.condt rfl ?_
      | refine VC.condf rfl ?_
      | (refine hK.out _ _ _ _ (by simp -implicitDefEqProofs only [go_sem, ↓reduceIte, Int.reduceToNat, Nat.mul_one, Int.reduceBEq, Int.reduceBNe, beq_self_eq_true, bne_self_eq_false, Int.reduceLT, Int.reduceLE, Int.reduceAdd, Int.reduceSub, Int.reduceNeg, decide_true, decide_false, gt_iff_lt, ge_iff_le, Int.natCast_one, Int.natCast_zero, Int.cast_ofNat_Int, Nat.reduceLeDiff, Nat.reduceEqDiff, Nat.reduceAdd, Nat.reduceSub, Nat.reduceMul, reduceCtorEq]; rfl) ?_; clear hK hq K q)
      | simp -implicitDefEqProofs only [go_sem, ↓reduceIte, Int.reduceToNat, Nat.mul_one, Int.reduceBEq, Int.reduceBNe, beq_self_eq_true, bne_self_eq_false, Int.reduceLT, Int.reduceLE, Int.reduceAdd, Int.reduceSub, Int.reduceNeg, decide_true, decide_false, gt_iff_lt, ge_iff_le, Int.natCast_one, Int.natCast_zero, Int.cast_ofNat_Int, Nat.reduceLeDiff, Nat.reduceEqDiff, Nat.reduceAdd, Nat.reduceSub, Nat.reduceMul, reduceCtorEq]
      | refine rd1_hd rfl ?_
      | refine rd1_tl (rd1_hd rfl ?_)
      | refine rd1_tl (rd1_tl (rd1_hd rfl ?_))
      | refine rd1_tl (rd1_tl (rd1_tl (rd1_hd rfl ?_)))
      | refine rd1_tl (rd1_tl (rd1_tl (rd1_tl (rd1_hd rfl ?_))))
      | refine rd1_tl (rd1_tl (rd1_tl (rd1_tl (rd1_tl (rd1_hd rfl ?_)))))
      | refine rd1_tl (rd1_tl (rd1_tl (rd1_tl (rd1_tl (rd1_tl (rd1_hd rfl ?_))))))
      | refine rd1_tl (rd1_tl (rd1_tl (rd1_tl (rd1_tl (rd1_tl (rd1_tl (rd1_hd rfl ?_)))))))
      | refine rd1_tl (rd1_tl (rd1_tl (rd1_tl (rd1_tl (rd1_tl (rd1_tl (rd1_tl (rd1_hd rfl ?_))))))))
      | refine rdN_hd rfl ?_
      | refine rdN_tl (rdN_hd rfl ?_)
      | refine rdN_tl (rdN_tl (rdN_hd rfl ?_))
      | refine rdN_tl (rdN_tl (rdN_tl (rdN_hd rfl ?_)))
      | refine rdN_tl (rdN_tl (rdN_tl (rdN_tl (rdN_hd rfl ?_))))
      | refine rdN_tl (rdN_tl (rdN_tl (rdN_tl (rdN_tl (rdN_hd rfl ?_)))))
      | refine rdN_tl (rdN_tl (rdN_tl (rdN_tl (rdN_tl (rdN_tl (rdN_hd rfl ?_))))))
      | refine rdN_tl (rdN_tl (rdN_tl (rdN_tl (rdN_tl (rdN_tl (rdN_tl (rdN_hd rfl ?_)))))))
      | refine rdN_tl (rdN_tl (rdN_tl (rdN_tl (rdN_tl (rdN_tl (rdN_tl (rdN_tl (rdN_hd rfl ?_))))))))
      | refine stoK.hd (by simp) ?_
      | refine stoK.tl (stoK.hd (by simp) ?_)
      | refine stoK.tl (stoK.tl (stoK.hd (by simp) ?_))
      | refine stoK.tl (stoK.tl (stoK.tl (stoK.hd (by simp) ?_)))
      | refine stoK.tl (stoK.tl (stoK.tl (stoK.tl (stoK.hd (by simp) ?_))))
      | refine stoK.tl (stoK.tl (stoK.tl (stoK.tl (stoK.tl (stoK.hd (by simp) ?_)))))
      | refine stoK.tl (stoK.tl (stoK.tl (stoK.tl (stoK.tl (stoK.tl (stoK.hd (by simp) ?_))))))
      | refine stoK.tl (stoK.tl (stoK.tl (stoK.tl (stoK.tl (stoK.tl (stoK.tl (stoK.hd (by simp) ?_)))))))
      | refine stoK.tl (stoK.tl (stoK.tl (stoK.tl (stoK.tl (stoK.tl (stoK.tl (stoK.tl (stoK.hd (by simp) ?_))))))))
      | exact ⟨rfl, rfl, rfl⟩
      | (refine And.intro ?_ ?_; (· omega))
      | refine ⟨fun hg => ?_, fun hg => ?_⟩
      | (refine VC.condb rfl (fun hg => ?_) (fun hg => ?_) <;> (try simp -implicitDefEqProofs only [hg, if_true, if_false, ↓reduceIte, Bool.false_eq_true]))
      | fail
    refine ⟨j + 1, by omega, ?_, by omega⟩
    simp [Env.Sub, Env.get]
    exact wrap64 (by omega) (by have := t5.max; omega)
  · exact hQ _ (by simp [Env.Sub, Env.get])
end
end Go.Proofs.Ytpddchnapcmmkaa
