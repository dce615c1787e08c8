/-
  Known answers: the round keys of two keys, and one block enciphered. Plain Lean.
-/
import Derived.Test.YtpdikfmdnlhllaaAesMath
namespace Go.Proofs.Ytpdikfmdnlhllaa.AesMath
open Mat GfMath
set_option maxRecDepth 100000
theorem subB_fun : (subB : B → B) = subR := funext subB_R
def zeroK : List B := [0#8, 0#8, 0#8, 0#8, 0#8, 0#8, 0#8, 0#8, 0#8, 0#8, 0#8, 0#8, 0#8, 0#8, 0#8, 0#8]
def zeroKW : List (List B) := [[0#8, 0#8, 0#8, 0#8], [0#8, 0#8, 0#8, 0#8], [0#8, 0#8, 0#8, 0#8], [0#8, 0#8, 0#8, 0#8], [98#8, 99#8, 99#8, 99#8], [98#8, 99#8, 99#8, 99#8], [98#8, 99#8, 99#8, 99#8], [98#8, 99#8, 99#8, 99#8], [155#8, 152#8, 152#8, 201#8], [249#8, 251#8, 251#8, 170#8], [155#8, 152#8, 152#8, 201#8], [249#8, 251#8, 251#8, 170#8], [144#8, 151#8, 52#8, 80#8], [105#8, 108#8, 207#8, 250#8], [242#8, 244#8, 87#8, 51#8], [11#8, 15#8, 172#8, 153#8], [238#8, 6#8, 218#8, 123#8], [135#8, 106#8, 21#8, 129#8], [117#8, 158#8, 66#8, 178#8], [126#8, 145#8, 238#8, 43#8], [127#8, 46#8, 43#8, 136#8], [248#8, 68#8, 62#8, 9#8], [141#8, 218#8, 124#8, 187#8], [243#8, 75#8, 146#8, 144#8], [236#8, 97#8, 75#8, 133#8], [20#8, 37#8, 117#8, 140#8], [153#8, 255#8, 9#8, 55#8], [106#8, 180#8, 155#8, 167#8], [33#8, 117#8, 23#8, 135#8], [53#8, 80#8, 98#8, 11#8], [172#8, 175#8, 107#8, 60#8], [198#8, 27#8, 240#8, 155#8], [14#8, 249#8, 3#8, 51#8], [59#8, 169#8, 97#8, 56#8], [151#8, 6#8, 10#8, 4#8], [81#8, 29#8, 250#8, 159#8], [177#8, 212#8, 216#8, 226#8], [138#8, 125#8, 185#8, 218#8], [29#8, 123#8, 179#8, 222#8], [76#8, 102#8, 73#8, 65#8], [180#8, 239#8, 91#8, 203#8], [62#8, 146#8, 226#8, 17#8], [35#8, 233#8, 81#8, 207#8], [111#8, 143#8, 24#8, 142#8]]
theorem zeroK_w0 : wordsTo zeroK 4 0 = zeroKW.take 4 := by decide +kernel
theorem zeroK_w1 : wordsTo zeroK 4 1 = zeroKW.take 5 := by rw [wordsTo, zeroK_w0]; unfold wordB madeB; rw [subB_fun]; decide +kernel
theorem zeroK_w2 : wordsTo zeroK 4 2 = zeroKW.take 6 := by rw [wordsTo, zeroK_w1]; unfold wordB madeB; rw [subB_fun]; decide +kernel
theorem zeroK_w3 : wordsTo zeroK 4 3 = zeroKW.take 7 := by rw [wordsTo, zeroK_w2]; unfold wordB madeB; rw [subB_fun]; decide +kernel
theorem zeroK_w4 : wordsTo zeroK 4 4 = zeroKW.take 8 := by rw [wordsTo, zeroK_w3]; unfold wordB madeB; rw [subB_fun]; decide +kernel
theorem zeroK_w5 : wordsTo zeroK 4 5 = zeroKW.take 9 := by rw [wordsTo, zeroK_w4]; unfold wordB madeB; rw [subB_fun]; decide +kernel
theorem zeroK_w6 : wordsTo zeroK 4 6 = zeroKW.take 10 := by rw [wordsTo, zeroK_w5]; unfold wordB madeB; rw [subB_fun]; decide +kernel
theorem zeroK_w7 : wordsTo zeroK 4 7 = zeroKW.take 11 := by rw [wordsTo, zeroK_w6]; unfold wordB madeB; rw [subB_fun]; decide +kernel
theorem zeroK_w8 : wordsTo zeroK 4 8 = zeroKW.take 12 := by rw [wordsTo, zeroK_w7]; unfold wordB madeB; rw [subB_fun]; decide +kernel
theorem zeroK_w9 : wordsTo zeroK 4 9 = zeroKW.take 13 := by rw [wordsTo, zeroK_w8]; unfold wordB madeB; rw [subB_fun]; decide +kernel
theorem zeroK_w10 : wordsTo zeroK 4 10 = zeroKW.take 14 := by rw [wordsTo, zeroK_w9]; unfold wordB madeB; rw [subB_fun]; decide +kernel
theorem zeroK_w11 : wordsTo zeroK 4 11 = zeroKW.take 15 := by rw [wordsTo, zeroK_w10]; unfold wordB madeB; rw [subB_fun]; decide +kernel
theorem zeroK_w12 : wordsTo zeroK 4 12 = zeroKW.take 16 := by rw [wordsTo, zeroK_w11]; unfold wordB madeB; rw [subB_fun]; decide +kernel
theorem zeroK_w13 : wordsTo zeroK 4 13 = zeroKW.take 17 := by rw [wordsTo, zeroK_w12]; unfold wordB madeB; rw [subB_fun]; decide +kernel
theorem zeroK_w14 : wordsTo zeroK 4 14 = zeroKW.take 18 := by rw [wordsTo, zeroK_w13]; unfold wordB madeB; rw [subB_fun]; decide +kernel
theorem zeroK_w15 : wordsTo zeroK 4 15 = zeroKW.take 19 := by rw [wordsTo, zeroK_w14]; unfold wordB madeB; rw [subB_fun]; decide +kernel
theorem zeroK_w16 : wordsTo zeroK 4 16 = zeroKW.take 20 := by rw [wordsTo, zeroK_w15]; unfold wordB madeB; rw [subB_fun]; decide +kernel
theorem zeroK_w17 : wordsTo zeroK 4 17 = zeroKW.take 21 := by rw [wordsTo, zeroK_w16]; unfold wordB madeB; rw [subB_fun]; decide +kernel
theorem zeroK_w18 : wordsTo zeroK 4 18 = zeroKW.take 22 := by rw [wordsTo, zeroK_w17]; unfold wordB madeB; rw [subB_fun]; decide +kernel
theorem zeroK_w19 : wordsTo zeroK 4 19 = zeroKW.take 23 := by rw [wordsTo, zeroK_w18]; unfold wordB madeB; rw [subB_fun]; decide +kernel
theorem zeroK_w20 : wordsTo zeroK 4 20 = zeroKW.take 24 := by rw [wordsTo, zeroK_w19]; unfold wordB madeB; rw [subB_fun]; decide +kernel
theorem zeroK_w21 : wordsTo zeroK 4 21 = zeroKW.take 25 := by rw [wordsTo, zeroK_w20]; unfold wordB madeB; rw [subB_fun]; decide +kernel
theorem zeroK_w22 : wordsTo zeroK 4 22 = zeroKW.take 26 := by rw [wordsTo, zeroK_w21]; unfold wordB madeB; rw [subB_fun]; decide +kernel
theorem zeroK_w23 : wordsTo zeroK 4 23 = zeroKW.take 27 := by rw [wordsTo, zeroK_w22]; unfold wordB madeB; rw [subB_fun]; decide +kernel
theorem zeroK_w24 : wordsTo zeroK 4 24 = zeroKW.take 28 := by rw [wordsTo, zeroK_w23]; unfold wordB madeB; rw [subB_fun]; decide +kernel
theorem zeroK_w25 : wordsTo zeroK 4 25 = zeroKW.take 29 := by rw [wordsTo, zeroK_w24]; unfold wordB madeB; rw [subB_fun]; decide +kernel
theorem zeroK_w26 : wordsTo zeroK 4 26 = zeroKW.take 30 := by rw [wordsTo, zeroK_w25]; unfold wordB madeB; rw [subB_fun]; decide +kernel
theorem zeroK_w27 : wordsTo zeroK 4 27 = zeroKW.take 31 := by rw [wordsTo, zeroK_w26]; unfold wordB madeB; rw [subB_fun]; decide +kernel
theorem zeroK_w28 : wordsTo zeroK 4 28 = zeroKW.take 32 := by rw [wordsTo, zeroK_w27]; unfold wordB madeB; rw [subB_fun]; decide +kernel
theorem zeroK_w29 : wordsTo zeroK 4 29 = zeroKW.take 33 := by rw [wordsTo, zeroK_w28]; unfold wordB madeB; rw [subB_fun]; decide +kernel
theorem zeroK_w30 : wordsTo zeroK 4 30 = zeroKW.take 34 := by rw [wordsTo, zeroK_w29]; unfold wordB madeB; rw [subB_fun]; decide +kernel
theorem zeroK_w31 : wordsTo zeroK 4 31 = zeroKW.take 35 := by rw [wordsTo, zeroK_w30]; unfold wordB madeB; rw [subB_fun]; decide +kernel
theorem zeroK_w32 : wordsTo zeroK 4 32 = zeroKW.take 36 := by rw [wordsTo, zeroK_w31]; unfold wordB madeB; rw [subB_fun]; decide +kernel
theorem zeroK_w33 : wordsTo zeroK 4 33 = zeroKW.take 37 := by rw [wordsTo, zeroK_w32]; unfold wordB madeB; rw [subB_fun]; decide +kernel
theorem zeroK_w34 : wordsTo zeroK 4 34 = zeroKW.take 38 := by rw [wordsTo, zeroK_w33]; unfold wordB madeB; rw [subB_fun]; decide +kernel
theorem zeroK_w35 : wordsTo zeroK 4 35 = zeroKW.take 39 := by rw [wordsTo, zeroK_w34]; unfold wordB madeB; rw [subB_fun]; decide +kernel
theorem zeroK_w36 : wordsTo zeroK 4 36 = zeroKW.take 40 := by rw [wordsTo, zeroK_w35]; unfold wordB madeB; rw [subB_fun]; decide +kernel
theorem zeroK_w37 : wordsTo zeroK 4 37 = zeroKW.take 41 := by rw [wordsTo, zeroK_w36]; unfold wordB madeB; rw [subB_fun]; decide +kernel
theorem zeroK_w38 : wordsTo zeroK 4 38 = zeroKW.take 42 := by rw [wordsTo, zeroK_w37]; unfold wordB madeB; rw [subB_fun]; decide +kernel
theorem zeroK_w39 : wordsTo zeroK 4 39 = zeroKW.take 43 := by rw [wordsTo, zeroK_w38]; unfold wordB madeB; rw [subB_fun]; decide +kernel
theorem zeroK_w40 : wordsTo zeroK 4 40 = zeroKW.take 44 := by rw [wordsTo, zeroK_w39]; unfold wordB madeB; rw [subB_fun]; decide +kernel
theorem zeroK_keys : roundKeys zeroK = [[0#8, 0#8, 0#8, 0#8, 0#8, 0#8, 0#8, 0#8, 0#8, 0#8, 0#8, 0#8, 0#8, 0#8, 0#8, 0#8], [98#8, 99#8, 99#8, 99#8, 98#8, 99#8, 99#8, 99#8, 98#8, 99#8, 99#8, 99#8, 98#8, 99#8, 99#8, 99#8], [155#8, 152#8, 152#8, 201#8, 249#8, 251#8, 251#8, 170#8, 155#8, 152#8, 152#8, 201#8, 249#8, 251#8, 251#8, 170#8], [144#8, 151#8, 52#8, 80#8, 105#8, 108#8, 207#8, 250#8, 242#8, 244#8, 87#8, 51#8, 11#8, 15#8, 172#8, 153#8], [238#8, 6#8, 218#8, 123#8, 135#8, 106#8, 21#8, 129#8, 117#8, 158#8, 66#8, 178#8, 126#8, 145#8, 238#8, 43#8], [127#8, 46#8, 43#8, 136#8, 248#8, 68#8, 62#8, 9#8, 141#8, 218#8, 124#8, 187#8, 243#8, 75#8, 146#8, 144#8], [236#8, 97#8, 75#8, 133#8, 20#8, 37#8, 117#8, 140#8, 153#8, 255#8, 9#8, 55#8, 106#8, 180#8, 155#8, 167#8], [33#8, 117#8, 23#8, 135#8, 53#8, 80#8, 98#8, 11#8, 172#8, 175#8, 107#8, 60#8, 198#8, 27#8, 240#8, 155#8], [14#8, 249#8, 3#8, 51#8, 59#8, 169#8, 97#8, 56#8, 151#8, 6#8, 10#8, 4#8, 81#8, 29#8, 250#8, 159#8], [177#8, 212#8, 216#8, 226#8, 138#8, 125#8, 185#8, 218#8, 29#8, 123#8, 179#8, 222#8, 76#8, 102#8, 73#8, 65#8], [180#8, 239#8, 91#8, 203#8, 62#8, 146#8, 226#8, 17#8, 35#8, 233#8, 81#8, 207#8, 111#8, 143#8, 24#8, 142#8]] := by
  unfold roundKeys allB; rw [show zeroK.length / 4 = 4 from rfl, show 4 * (roundsN zeroK.length + 1) - 4 = 40 from by decide +kernel, zeroK_w40]; decide +kernel
def stepK : List B := [0#8, 1#8, 2#8, 3#8, 4#8, 5#8, 6#8, 7#8, 8#8, 9#8, 10#8, 11#8, 12#8, 13#8, 14#8, 15#8]
def stepKW : List (List B) := [[0#8, 1#8, 2#8, 3#8], [4#8, 5#8, 6#8, 7#8], [8#8, 9#8, 10#8, 11#8], [12#8, 13#8, 14#8, 15#8], [214#8, 170#8, 116#8, 253#8], [210#8, 175#8, 114#8, 250#8], [218#8, 166#8, 120#8, 241#8], [214#8, 171#8, 118#8, 254#8], [182#8, 146#8, 207#8, 11#8], [100#8, 61#8, 189#8, 241#8], [190#8, 155#8, 197#8, 0#8], [104#8, 48#8, 179#8, 254#8], [182#8, 255#8, 116#8, 78#8], [210#8, 194#8, 201#8, 191#8], [108#8, 89#8, 12#8, 191#8], [4#8, 105#8, 191#8, 65#8], [71#8, 247#8, 247#8, 188#8], [149#8, 53#8, 62#8, 3#8], [249#8, 108#8, 50#8, 188#8], [253#8, 5#8, 141#8, 253#8], [60#8, 170#8, 163#8, 232#8], [169#8, 159#8, 157#8, 235#8], [80#8, 243#8, 175#8, 87#8], [173#8, 246#8, 34#8, 170#8], [94#8, 57#8, 15#8, 125#8], [247#8, 166#8, 146#8, 150#8], [167#8, 85#8, 61#8, 193#8], [10#8, 163#8, 31#8, 107#8], [20#8, 249#8, 112#8, 26#8], [227#8, 95#8, 226#8, 140#8], [68#8, 10#8, 223#8, 77#8], [78#8, 169#8, 192#8, 38#8], [71#8, 67#8, 135#8, 53#8], [164#8, 28#8, 101#8, 185#8], [224#8, 22#8, 186#8, 244#8], [174#8, 191#8, 122#8, 210#8], [84#8, 153#8, 50#8, 209#8], [240#8, 133#8, 87#8, 104#8], [16#8, 147#8, 237#8, 156#8], [190#8, 44#8, 151#8, 78#8], [19#8, 17#8, 29#8, 127#8], [227#8, 148#8, 74#8, 23#8], [243#8, 7#8, 167#8, 139#8], [77#8, 43#8, 48#8, 197#8]]
theorem stepK_w0 : wordsTo stepK 4 0 = stepKW.take 4 := by decide +kernel
theorem stepK_w1 : wordsTo stepK 4 1 = stepKW.take 5 := by rw [wordsTo, stepK_w0]; unfold wordB madeB; rw [subB_fun]; decide +kernel
theorem stepK_w2 : wordsTo stepK 4 2 = stepKW.take 6 := by rw [wordsTo, stepK_w1]; unfold wordB madeB; rw [subB_fun]; decide +kernel
theorem stepK_w3 : wordsTo stepK 4 3 = stepKW.take 7 := by rw [wordsTo, stepK_w2]; unfold wordB madeB; rw [subB_fun]; decide +kernel
theorem stepK_w4 : wordsTo stepK 4 4 = stepKW.take 8 := by rw [wordsTo, stepK_w3]; unfold wordB madeB; rw [subB_fun]; decide +kernel
theorem stepK_w5 : wordsTo stepK 4 5 = stepKW.take 9 := by rw [wordsTo, stepK_w4]; unfold wordB madeB; rw [subB_fun]; decide +kernel
theorem stepK_w6 : wordsTo stepK 4 6 = stepKW.take 10 := by rw [wordsTo, stepK_w5]; unfold wordB madeB; rw [subB_fun]; decide +kernel
theorem stepK_w7 : wordsTo stepK 4 7 = stepKW.take 11 := by rw [wordsTo, stepK_w6]; unfold wordB madeB; rw [subB_fun]; decide +kernel
theorem stepK_w8 : wordsTo stepK 4 8 = stepKW.take 12 := by rw [wordsTo, stepK_w7]; unfold wordB madeB; rw [subB_fun]; decide +kernel
theorem stepK_w9 : wordsTo stepK 4 9 = stepKW.take 13 := by rw [wordsTo, stepK_w8]; unfold wordB madeB; rw [subB_fun]; decide +kernel
theorem stepK_w10 : wordsTo stepK 4 10 = stepKW.take 14 := by rw [wordsTo, stepK_w9]; unfold wordB madeB; rw [subB_fun]; decide +kernel
theorem stepK_w11 : wordsTo stepK 4 11 = stepKW.take 15 := by rw [wordsTo, stepK_w10]; unfold wordB madeB; rw [subB_fun]; decide +kernel
theorem stepK_w12 : wordsTo stepK 4 12 = stepKW.take 16 := by rw [wordsTo, stepK_w11]; unfold wordB madeB; rw [subB_fun]; decide +kernel
theorem stepK_w13 : wordsTo stepK 4 13 = stepKW.take 17 := by rw [wordsTo, stepK_w12]; unfold wordB madeB; rw [subB_fun]; decide +kernel
theorem stepK_w14 : wordsTo stepK 4 14 = stepKW.take 18 := by rw [wordsTo, stepK_w13]; unfold wordB madeB; rw [subB_fun]; decide +kernel
theorem stepK_w15 : wordsTo stepK 4 15 = stepKW.take 19 := by rw [wordsTo, stepK_w14]; unfold wordB madeB; rw [subB_fun]; decide +kernel
theorem stepK_w16 : wordsTo stepK 4 16 = stepKW.take 20 := by rw [wordsTo, stepK_w15]; unfold wordB madeB; rw [subB_fun]; decide +kernel
theorem stepK_w17 : wordsTo stepK 4 17 = stepKW.take 21 := by rw [wordsTo, stepK_w16]; unfold wordB madeB; rw [subB_fun]; decide +kernel
theorem stepK_w18 : wordsTo stepK 4 18 = stepKW.take 22 := by rw [wordsTo, stepK_w17]; unfold wordB madeB; rw [subB_fun]; decide +kernel
theorem stepK_w19 : wordsTo stepK 4 19 = stepKW.take 23 := by rw [wordsTo, stepK_w18]; unfold wordB madeB; rw [subB_fun]; decide +kernel
theorem stepK_w20 : wordsTo stepK 4 20 = stepKW.take 24 := by rw [wordsTo, stepK_w19]; unfold wordB madeB; rw [subB_fun]; decide +kernel
theorem stepK_w21 : wordsTo stepK 4 21 = stepKW.take 25 := by rw [wordsTo, stepK_w20]; unfold wordB madeB; rw [subB_fun]; decide +kernel
theorem stepK_w22 : wordsTo stepK 4 22 = stepKW.take 26 := by rw [wordsTo, stepK_w21]; unfold wordB madeB; rw [subB_fun]; decide +kernel
theorem stepK_w23 : wordsTo stepK 4 23 = stepKW.take 27 := by rw [wordsTo, stepK_w22]; unfold wordB madeB; rw [subB_fun]; decide +kernel
theorem stepK_w24 : wordsTo stepK 4 24 = stepKW.take 28 := by rw [wordsTo, stepK_w23]; unfold wordB madeB; rw [subB_fun]; decide +kernel
theorem stepK_w25 : wordsTo stepK 4 25 = stepKW.take 29 := by rw [wordsTo, stepK_w24]; unfold wordB madeB; rw [subB_fun]; decide +kernel
theorem stepK_w26 : wordsTo stepK 4 26 = stepKW.take 30 := by rw [wordsTo, stepK_w25]; unfold wordB madeB; rw [subB_fun]; decide +kernel
theorem stepK_w27 : wordsTo stepK 4 27 = stepKW.take 31 := by rw [wordsTo, stepK_w26]; unfold wordB madeB; rw [subB_fun]; decide +kernel
theorem stepK_w28 : wordsTo stepK 4 28 = stepKW.take 32 := by rw [wordsTo, stepK_w27]; unfold wordB madeB; rw [subB_fun]; decide +kernel
theorem stepK_w29 : wordsTo stepK 4 29 = stepKW.take 33 := by rw [wordsTo, stepK_w28]; unfold wordB madeB; rw [subB_fun]; decide +kernel
theorem stepK_w30 : wordsTo stepK 4 30 = stepKW.take 34 := by rw [wordsTo, stepK_w29]; unfold wordB madeB; rw [subB_fun]; decide +kernel
theorem stepK_w31 : wordsTo stepK 4 31 = stepKW.take 35 := by rw [wordsTo, stepK_w30]; unfold wordB madeB; rw [subB_fun]; decide +kernel
theorem stepK_w32 : wordsTo stepK 4 32 = stepKW.take 36 := by rw [wordsTo, stepK_w31]; unfold wordB madeB; rw [subB_fun]; decide +kernel
theorem stepK_w33 : wordsTo stepK 4 33 = stepKW.take 37 := by rw [wordsTo, stepK_w32]; unfold wordB madeB; rw [subB_fun]; decide +kernel
theorem stepK_w34 : wordsTo stepK 4 34 = stepKW.take 38 := by rw [wordsTo, stepK_w33]; unfold wordB madeB; rw [subB_fun]; decide +kernel
theorem stepK_w35 : wordsTo stepK 4 35 = stepKW.take 39 := by rw [wordsTo, stepK_w34]; unfold wordB madeB; rw [subB_fun]; decide +kernel
theorem stepK_w36 : wordsTo stepK 4 36 = stepKW.take 40 := by rw [wordsTo, stepK_w35]; unfold wordB madeB; rw [subB_fun]; decide +kernel
theorem stepK_w37 : wordsTo stepK 4 37 = stepKW.take 41 := by rw [wordsTo, stepK_w36]; unfold wordB madeB; rw [subB_fun]; decide +kernel
theorem stepK_w38 : wordsTo stepK 4 38 = stepKW.take 42 := by rw [wordsTo, stepK_w37]; unfold wordB madeB; rw [subB_fun]; decide +kernel
theorem stepK_w39 : wordsTo stepK 4 39 = stepKW.take 43 := by rw [wordsTo, stepK_w38]; unfold wordB madeB; rw [subB_fun]; decide +kernel
theorem stepK_w40 : wordsTo stepK 4 40 = stepKW.take 44 := by rw [wordsTo, stepK_w39]; unfold wordB madeB; rw [subB_fun]; decide +kernel
theorem stepK_keys : roundKeys stepK = [[0#8, 1#8, 2#8, 3#8, 4#8, 5#8, 6#8, 7#8, 8#8, 9#8, 10#8, 11#8, 12#8, 13#8, 14#8, 15#8], [214#8, 170#8, 116#8, 253#8, 210#8, 175#8, 114#8, 250#8, 218#8, 166#8, 120#8, 241#8, 214#8, 171#8, 118#8, 254#8], [182#8, 146#8, 207#8, 11#8, 100#8, 61#8, 189#8, 241#8, 190#8, 155#8, 197#8, 0#8, 104#8, 48#8, 179#8, 254#8], [182#8, 255#8, 116#8, 78#8, 210#8, 194#8, 201#8, 191#8, 108#8, 89#8, 12#8, 191#8, 4#8, 105#8, 191#8, 65#8], [71#8, 247#8, 247#8, 188#8, 149#8, 53#8, 62#8, 3#8, 249#8, 108#8, 50#8, 188#8, 253#8, 5#8, 141#8, 253#8], [60#8, 170#8, 163#8, 232#8, 169#8, 159#8, 157#8, 235#8, 80#8, 243#8, 175#8, 87#8, 173#8, 246#8, 34#8, 170#8], [94#8, 57#8, 15#8, 125#8, 247#8, 166#8, 146#8, 150#8, 167#8, 85#8, 61#8, 193#8, 10#8, 163#8, 31#8, 107#8], [20#8, 249#8, 112#8, 26#8, 227#8, 95#8, 226#8, 140#8, 68#8, 10#8, 223#8, 77#8, 78#8, 169#8, 192#8, 38#8], [71#8, 67#8, 135#8, 53#8, 164#8, 28#8, 101#8, 185#8, 224#8, 22#8, 186#8, 244#8, 174#8, 191#8, 122#8, 210#8], [84#8, 153#8, 50#8, 209#8, 240#8, 133#8, 87#8, 104#8, 16#8, 147#8, 237#8, 156#8, 190#8, 44#8, 151#8, 78#8], [19#8, 17#8, 29#8, 127#8, 227#8, 148#8, 74#8, 23#8, 243#8, 7#8, 167#8, 139#8, 77#8, 43#8, 48#8, 197#8]] := by
  unfold roundKeys allB; rw [show stepK.length / 4 = 4 from rfl, show 4 * (roundsN stepK.length + 1) - 4 = 40 from by decide +kernel, stepK_w40]; decide +kernel
def plainP : List B := [0#8, 17#8, 34#8, 51#8, 68#8, 85#8, 102#8, 119#8, 136#8, 153#8, 170#8, 187#8, 204#8, 221#8, 238#8, 255#8]
def keysK : List (List B) := [[0#8, 1#8, 2#8, 3#8, 4#8, 5#8, 6#8, 7#8, 8#8, 9#8, 10#8, 11#8, 12#8, 13#8, 14#8, 15#8], [214#8, 170#8, 116#8, 253#8, 210#8, 175#8, 114#8, 250#8, 218#8, 166#8, 120#8, 241#8, 214#8, 171#8, 118#8, 254#8], [182#8, 146#8, 207#8, 11#8, 100#8, 61#8, 189#8, 241#8, 190#8, 155#8, 197#8, 0#8, 104#8, 48#8, 179#8, 254#8], [182#8, 255#8, 116#8, 78#8, 210#8, 194#8, 201#8, 191#8, 108#8, 89#8, 12#8, 191#8, 4#8, 105#8, 191#8, 65#8], [71#8, 247#8, 247#8, 188#8, 149#8, 53#8, 62#8, 3#8, 249#8, 108#8, 50#8, 188#8, 253#8, 5#8, 141#8, 253#8], [60#8, 170#8, 163#8, 232#8, 169#8, 159#8, 157#8, 235#8, 80#8, 243#8, 175#8, 87#8, 173#8, 246#8, 34#8, 170#8], [94#8, 57#8, 15#8, 125#8, 247#8, 166#8, 146#8, 150#8, 167#8, 85#8, 61#8, 193#8, 10#8, 163#8, 31#8, 107#8], [20#8, 249#8, 112#8, 26#8, 227#8, 95#8, 226#8, 140#8, 68#8, 10#8, 223#8, 77#8, 78#8, 169#8, 192#8, 38#8], [71#8, 67#8, 135#8, 53#8, 164#8, 28#8, 101#8, 185#8, 224#8, 22#8, 186#8, 244#8, 174#8, 191#8, 122#8, 210#8], [84#8, 153#8, 50#8, 209#8, 240#8, 133#8, 87#8, 104#8, 16#8, 147#8, 237#8, 156#8, 190#8, 44#8, 151#8, 78#8], [19#8, 17#8, 29#8, 127#8, 227#8, 148#8, 74#8, 23#8, 243#8, 7#8, 167#8, 139#8, 77#8, 43#8, 48#8, 197#8]]
theorem enc_0 : encTo keysK plainP 0 = [0#8, 16#8, 32#8, 48#8, 64#8, 80#8, 96#8, 112#8, 128#8, 144#8, 160#8, 176#8, 192#8, 208#8, 224#8, 240#8] := by decide +kernel
theorem enc_1 : encTo keysK plainP 1 = [137#8, 216#8, 16#8, 232#8, 133#8, 90#8, 206#8, 104#8, 45#8, 24#8, 67#8, 216#8, 203#8, 18#8, 143#8, 228#8] := by rw [encTo, enc_0, subB_fun]; decide +kernel
theorem enc_2 : encTo keysK plainP 2 = [73#8, 21#8, 89#8, 143#8, 85#8, 229#8, 215#8, 160#8, 218#8, 202#8, 148#8, 250#8, 31#8, 10#8, 99#8, 247#8] := by rw [encTo, enc_1, subB_fun]; decide +kernel
theorem enc_3 : encTo keysK plainP 3 = [250#8, 99#8, 106#8, 40#8, 37#8, 179#8, 57#8, 201#8, 64#8, 102#8, 138#8, 49#8, 87#8, 36#8, 77#8, 23#8] := by rw [encTo, enc_2, subB_fun]; decide +kernel
theorem enc_4 : encTo keysK plainP 4 = [36#8, 114#8, 64#8, 35#8, 105#8, 102#8, 179#8, 250#8, 110#8, 210#8, 117#8, 50#8, 136#8, 66#8, 91#8, 108#8] := by rw [encTo, enc_3, subB_fun]; decide +kernel
theorem enc_5 : encTo keysK plainP 5 = [200#8, 22#8, 119#8, 188#8, 155#8, 122#8, 201#8, 59#8, 37#8, 2#8, 121#8, 146#8, 176#8, 38#8, 25#8, 150#8] := by rw [encTo, enc_4, subB_fun]; decide +kernel
theorem enc_6 : encTo keysK plainP 6 = [198#8, 47#8, 225#8, 9#8, 247#8, 94#8, 237#8, 195#8, 204#8, 121#8, 57#8, 93#8, 132#8, 249#8, 207#8, 93#8] := by rw [encTo, enc_5, subB_fun]; decide +kernel
theorem enc_7 : encTo keysK plainP 7 = [209#8, 135#8, 108#8, 15#8, 121#8, 196#8, 48#8, 10#8, 180#8, 85#8, 148#8, 173#8, 214#8, 111#8, 244#8, 31#8] := by rw [encTo, enc_6, subB_fun]; decide +kernel
theorem enc_8 : encTo keysK plainP 8 = [253#8, 227#8, 186#8, 210#8, 5#8, 229#8, 208#8, 215#8, 53#8, 71#8, 150#8, 78#8, 241#8, 254#8, 55#8, 241#8] := by rw [encTo, enc_7, subB_fun]; decide +kernel
theorem enc_9 : encTo keysK plainP 9 = [189#8, 110#8, 124#8, 61#8, 242#8, 181#8, 119#8, 158#8, 11#8, 97#8, 33#8, 110#8, 139#8, 16#8, 182#8, 137#8] := by rw [encTo, enc_8, subB_fun]; decide +kernel
def cryptC : List B := [105#8, 196#8, 224#8, 216#8, 106#8, 123#8, 4#8, 48#8, 216#8, 205#8, 183#8, 128#8, 112#8, 180#8, 197#8, 90#8]
theorem enc_known : encB (roundKeys stepK) 9 plainP = cryptC := by
  rw [stepK_keys]; show encB keysK 9 plainP = _; rw [encB, enc_9, subB_fun]; decide +kernel
end Go.Proofs.Ytpdikfmdnlhllaa.AesMath
