/-
  COMPILED FORMS of functions of the program, printed by a program of this claim (mkS.py) and checked by the kernel.
-/
import Derived.Test.YtjigfdhjmfcbpaaDomZ6
import Derived.Test.YtjigfdhjmfcbpaaChecked
import Derived.KernelRfl
namespace Go.Proofs.Ytjigfdhjmfcbpaa
open Go Go.Dom
set_option maxRecDepth 100000
set_option linter.all false
theorem mixed : Try.prog.follows .mixedOrders = true := by kernel_rfl
/- domino/dominolaw52.PresentationContexts -/
def S3 : SC :=
  .seq (.reg none [⟨some 2, .box (.t 0), none⟩,
     ⟨some 3, .box (.t 1), none⟩,
     ⟨some 4, .mov (.c (.v (.b false))), none⟩])
  (.seq (.seq (.reg none [⟨some 9, .build [(.v (.s [])), (.v (.s [])), (.v (.s [])), (.v (.s [])), (.v (.s [])), (.v (.s [])), (.v (.s [])), (.v (.s [])), (.v (.s [])), (.v (.s [])), (.v (.s [])), (.v (.s [])), (.v (.s [])), (.v (.s [])), (.v (.s [])), (.v (.s [])), (.v (.s [])), (.v (.i .i64 0)), .sn, .sn, .sn, .sn] [], none⟩,
       ⟨some 10, .ld true 5 (.t 2), none⟩,
       ⟨some 11, .call (.c (.v (.fn (.func 4)))) [(.t 9), (.t 10)], none⟩,
       ⟨some 12, .un .not (.t 11), none⟩,
       ⟨some 13, .mov (.t 12), none⟩,
       ⟨some 14, .ld true 14 (.t 3), some (13, false)⟩,
       ⟨some 15, .call (.c (.v (.fn (.func 5)))) [(.t 14)], some (13, false)⟩,
       ⟨some 16, .un .not (.t 15), some (13, false)⟩,
       ⟨some 17, .pick (.t 13) (.c (.v (.b true))) (.t 16), none⟩])
    (.cond (.t 17) (.seq (.reg none [⟨some 18, .call (.c (.v (.fn (.func 6)))) [], none⟩,
         ⟨some 4, .mov (.t 18), none⟩])
      (.ret))
     (.skip)))
   (.seq (.reg none [⟨some 20, .ld true 5 (.t 2), none⟩,
       ⟨some 21, .ld true 14 (.t 3), none⟩,
       ⟨some 22, .call (.c (.v (.fn (.func 7)))) [(.t 20), (.t 21)], none⟩,
       ⟨some 19, .mov (.t 22), none⟩,
       ⟨some 23, .ext (.t 19) 0, none⟩,
       ⟨some 24, .ext (.t 19) 1, none⟩,
       ⟨some 5, .mov (.t 23), none⟩,
       ⟨some 6, .mov (.t 24), none⟩])
    (.seq (.reg none [⟨some 26, .ld true 5 (.t 2), none⟩,
        ⟨some 27, .ld true 14 (.t 3), none⟩,
        ⟨some 28, .call (.c (.v (.fn (.func 8)))) [(.t 26), (.t 27)], none⟩,
        ⟨some 25, .mov (.t 28), none⟩,
        ⟨some 29, .ext (.t 25) 0, none⟩,
        ⟨some 30, .ext (.t 25) 1, none⟩,
        ⟨some 7, .mov (.t 29), none⟩,
        ⟨some 8, .mov (.t 30), none⟩])
     (.seq (.reg none [⟨some 31, .mov (.t 5), none⟩,
         ⟨some 32, .mov (.t 7), none⟩,
         ⟨some 33, .bin .eql (.t 31) (.t 32), none⟩,
         ⟨some 34, .mov (.t 33), none⟩,
         ⟨some 35, .mov (.t 6), some (34, true)⟩,
         ⟨some 36, .mov (.t 8), some (34, true)⟩,
         ⟨some 37, .bin .eql (.t 35) (.t 36), some (34, true)⟩,
         ⟨some 38, .pick (.t 34) (.t 37) (.c (.v (.b false))), none⟩,
         ⟨some 39, .mov (.t 38), none⟩,
         ⟨some 40, .call (.c (.v (.fn (.func 6)))) [], some (39, true)⟩,
         ⟨some 41, .pick (.t 39) (.t 40) (.c (.v (.b false))), none⟩,
         ⟨some 4, .mov (.t 41), none⟩])
      (.ret)))))
def R3 : List SRes := [.t 4]
/- domino/dominolaw52.Few -/
def S4 : SC :=
  .seq (.reg none [⟨some 2, .box (.t 0), none⟩,
     ⟨some 3, .box (.t 1), none⟩,
     ⟨some 4, .mov (.c (.v (.b false))), none⟩])
  (.seq (.seq (.reg none [⟨some 11, .fad 18 (.t 2), none⟩,
       ⟨some 12, .ld false 1 (.t 11), none⟩,
       ⟨some 13, .len (.t 12), none⟩,
       ⟨some 14, .bin .gtr (.t 13) (.c (.v (.i .i64 4))), none⟩,
       ⟨some 15, .mov (.t 14), none⟩,
       ⟨some 16, .fad 19 (.t 2), some (15, false)⟩,
       ⟨some 17, .ld false 1 (.t 16), some (15, false)⟩,
       ⟨some 18, .len (.t 17), some (15, false)⟩,
       ⟨some 19, .bin .gtr (.t 18) (.c (.v (.i .i64 4))), some (15, false)⟩,
       ⟨some 20, .pick (.t 15) (.c (.v (.b true))) (.t 19), none⟩,
       ⟨some 21, .mov (.t 20), none⟩,
       ⟨some 22, .fad 20 (.t 2), some (21, false)⟩,
       ⟨some 23, .ld false 1 (.t 22), some (21, false)⟩,
       ⟨some 24, .len (.t 23), some (21, false)⟩,
       ⟨some 25, .bin .gtr (.t 24) (.c (.v (.i .i64 4))), some (21, false)⟩,
       ⟨some 26, .pick (.t 21) (.c (.v (.b true))) (.t 25), none⟩,
       ⟨some 27, .mov (.t 26), none⟩,
       ⟨some 28, .fad 21 (.t 2), some (27, false)⟩,
       ⟨some 29, .ld false 1 (.t 28), some (27, false)⟩,
       ⟨some 30, .len (.t 29), some (27, false)⟩,
       ⟨some 31, .bin .gtr (.t 30) (.c (.v (.i .i64 2))), some (27, false)⟩,
       ⟨some 32, .pick (.t 27) (.c (.v (.b true))) (.t 31), none⟩,
       ⟨some 33, .mov (.t 32), none⟩,
       ⟨some 34, .fad 0 (.t 3), some (33, false)⟩,
       ⟨some 35, .ld false 1 (.t 34), some (33, false)⟩,
       ⟨some 36, .lenS (.t 35), some (33, false)⟩,
       ⟨some 37, .bin .gtr (.t 36) (.c (.v (.i .i64 400))), some (33, false)⟩,
       ⟨some 38, .pick (.t 33) (.c (.v (.b true))) (.t 37), none⟩,
       ⟨some 39, .mov (.t 38), none⟩,
       ⟨some 40, .fad 1 (.t 3), some (39, false)⟩,
       ⟨some 41, .ld false 1 (.t 40), some (39, false)⟩,
       ⟨some 42, .lenS (.t 41), some (39, false)⟩,
       ⟨some 43, .fad 2 (.t 3), some (39, false)⟩,
       ⟨some 44, .ld false 1 (.t 43), some (39, false)⟩,
       ⟨some 45, .lenS (.t 44), some (39, false)⟩,
       ⟨some 46, .bin .add (.t 42) (.t 45), some (39, false)⟩,
       ⟨some 47, .bin .gtr (.t 46) (.c (.v (.i .i64 200))), some (39, false)⟩,
       ⟨some 48, .pick (.t 39) (.c (.v (.b true))) (.t 47), none⟩,
       ⟨some 49, .mov (.t 48), none⟩,
       ⟨some 50, .fad 0 (.t 2), some (49, false)⟩,
       ⟨some 51, .ld true 17 (.t 50), some (49, false)⟩,
       ⟨some 52, .call (.c (.v (.fn (.func 10)))) [(.t 51)], some (49, false)⟩,
       ⟨some 53, .call (.c (.v (.fn (.func 9)))) [(.t 52)], some (49, false)⟩,
       ⟨some 54, .pick (.t 49) (.c (.v (.b true))) (.t 53), none⟩,
       ⟨some 55, .mov (.t 54), none⟩,
       ⟨some 56, .fad 20 (.t 2), some (55, false)⟩,
       ⟨some 57, .ld false 1 (.t 56), some (55, false)⟩,
       ⟨some 58, .call (.c (.v (.fn (.func 9)))) [(.t 57)], some (55, false)⟩,
       ⟨some 59, .pick (.t 55) (.c (.v (.b true))) (.t 58), none⟩])
    (.cond (.t 59) (.seq (.reg none [⟨some 4, .mov (.c (.v (.b false))), none⟩])
      (.ret))
     (.skip)))
   (.seq (.seq (.reg none [⟨some 60, .fad 18 (.t 2), none⟩,
        ⟨some 61, .ld false 1 (.t 60), none⟩,
        ⟨some 62, .len (.t 61), none⟩,
        ⟨some 63, .mov (.c (.v (.i .i64 0))), none⟩])
     (.blk 0 (.loop (.seq (.reg none [⟨some 64, .bin .lss (.t 63) (.t 62), none⟩])
        (.seq (.cond (.t 64) (.skip)
          (.exit 0))
         (.seq (.blk 1 (.seq (.reg none [⟨some 65, .ixs 8 (.t 61) (.t 63), none⟩,
               ⟨some 66, .ld true 8 (.t 65), none⟩,
               ⟨some 6, .alloc 61 [(.v (.s [])), (.v (.s [])), (.v (.s [])), (.v (.s [])), (.v (.s [])), .sn, (.v (.s [])), (.v (.s []))], none⟩,
               ⟨none, .st 8 (.t 6) (.t 66), none⟩])
            (.seq (.reg (some [0, 1, 3, 7, 15, 31, 63, 127, 255, 511, 1023, 2047, 4095, 2047, 10239, 2047, 34815, 100351, 2047, 264191, 788479, 2091007, 4194303, 8388607, 16777215]) [⟨some 67, .fad 5 (.t 6), none⟩,
                ⟨some 68, .ld false 1 (.t 67), none⟩,
                ⟨some 69, .len (.t 68), none⟩,
                ⟨some 70, .bin .gtr (.t 69) (.c (.v (.i .i64 8))), none⟩,
                ⟨some 71, .mov (.t 70), none⟩,
                ⟨some 72, .fad 0 (.t 6), some (71, false)⟩,
                ⟨some 73, .ld false 1 (.t 72), some (71, false)⟩,
                ⟨some 74, .lenS (.t 73), some (71, false)⟩,
                ⟨some 75, .bin .gtr (.t 74) (.c (.v (.i .i64 60))), some (71, false)⟩,
                ⟨some 76, .pick (.t 71) (.c (.v (.b true))) (.t 75), none⟩,
                ⟨some 77, .mov (.t 76), none⟩,
                ⟨some 78, .ld true 8 (.t 6), some (77, false)⟩,
                ⟨some 79, .call (.c (.v (.fn (.func 11)))) [(.t 78)], some (77, false)⟩,
                ⟨some 80, .fad 4 (.t 6), some (77, false)⟩,
                ⟨some 81, .ld false 1 (.t 80), some (77, false)⟩,
                ⟨some 82, .fad 1 (.t 6), some (77, false)⟩,
                ⟨some 83, .fad 0 (.t 82), some (77, false)⟩,
                ⟨some 84, .ld false 1 (.t 83), some (77, false)⟩,
                ⟨some 85, .fad 1 (.t 6), some (77, false)⟩,
                ⟨some 86, .fad 1 (.t 85), some (77, false)⟩,
                ⟨some 87, .ld false 1 (.t 86), some (77, false)⟩,
                ⟨some 88, .bsl 1 [(.t 81), (.t 84), (.t 87)], some (77, false)⟩,
                ⟨some 89, .app 27 1 16 (.t 79) (.t 88), some (77, false)⟩,
                ⟨some 90, .call (.c (.v (.fn (.func 9)))) [(.t 89)], some (77, false)⟩,
                ⟨some 91, .pick (.t 77) (.c (.v (.b true))) (.t 90), none⟩])
             (.cond (.t 91) (.seq (.reg none [⟨some 4, .mov (.c (.v (.b false))), none⟩])
               (.ret))
              (.skip)))))
          (.reg none [⟨some 92, .bin .add (.t 63) (.c (.v (.i .i64 1))), none⟩,
             ⟨some 63, .mov (.t 92), none⟩])))))))
    (.seq (.seq (.reg none [⟨some 93, .fad 19 (.t 2), none⟩,
         ⟨some 94, .ld false 1 (.t 93), none⟩,
         ⟨some 95, .len (.t 94), none⟩,
         ⟨some 96, .mov (.c (.v (.i .i64 0))), none⟩])
      (.blk 2 (.loop (.seq (.reg none [⟨some 97, .bin .lss (.t 96) (.t 95), none⟩])
         (.seq (.cond (.t 97) (.skip)
           (.exit 2))
          (.seq (.blk 3 (.seq (.reg none [⟨some 98, .ixs 2 (.t 94) (.t 96), none⟩,
                ⟨some 99, .ld true 2 (.t 98), none⟩,
                ⟨some 8, .alloc 65 [(.v (.s [])), .sn], none⟩,
                ⟨none, .st 2 (.t 8) (.t 99), none⟩])
             (.seq (.reg none [⟨some 100, .fad 1 (.t 8), none⟩,
                 ⟨some 101, .ld false 1 (.t 100), none⟩,
                 ⟨some 102, .len (.t 101), none⟩,
                 ⟨some 103, .bin .gtr (.t 102) (.c (.v (.i .i64 8))), none⟩,
                 ⟨some 104, .mov (.t 103), none⟩,
                 ⟨some 105, .fad 0 (.t 8), some (104, false)⟩,
                 ⟨some 106, .ld false 1 (.t 105), some (104, false)⟩,
                 ⟨some 107, .lenS (.t 106), some (104, false)⟩,
                 ⟨some 108, .bin .gtr (.t 107) (.c (.v (.i .i64 60))), some (104, false)⟩,
                 ⟨some 109, .pick (.t 104) (.c (.v (.b true))) (.t 108), none⟩,
                 ⟨some 110, .mov (.t 109), none⟩,
                 ⟨some 111, .fad 1 (.t 8), some (110, false)⟩,
                 ⟨some 112, .ld false 1 (.t 111), some (110, false)⟩,
                 ⟨some 113, .call (.c (.v (.fn (.func 12)))) [(.t 112), (.c (.v (.fn (.func 13))))], some (110, false)⟩,
                 ⟨some 114, .pick (.t 110) (.c (.v (.b true))) (.t 113), none⟩])
              (.cond (.t 114) (.seq (.reg none [⟨some 4, .mov (.c (.v (.b false))), none⟩])
                (.ret))
               (.skip)))))
           (.reg none [⟨some 115, .bin .add (.t 96) (.c (.v (.i .i64 1))), none⟩,
              ⟨some 96, .mov (.t 115), none⟩])))))))
     (.seq (.seq (.reg none [⟨some 116, .fad 21 (.t 2), none⟩,
          ⟨some 117, .ld false 1 (.t 116), none⟩,
          ⟨some 118, .len (.t 117), none⟩,
          ⟨some 119, .mov (.c (.v (.i .i64 0))), none⟩])
       (.blk 4 (.loop (.seq (.reg none [⟨some 120, .bin .lss (.t 119) (.t 118), none⟩])
          (.seq (.cond (.t 120) (.skip)
            (.exit 4))
           (.seq (.blk 5 (.seq (.reg none [⟨some 121, .ixs 7 (.t 117) (.t 119), none⟩,
                 ⟨some 122, .ld true 7 (.t 121), none⟩,
                 ⟨some 10, .alloc 74 [(.v (.s [])), (.v (.s [])), (.v (.s [])), (.v (.s [])), (.v (.s [])), (.v (.i .i64 0)), .sn], none⟩,
                 ⟨none, .st 7 (.t 10) (.t 122), none⟩])
              (.seq (.reg none [⟨some 123, .fad 6 (.t 10), none⟩,
                  ⟨some 124, .ld false 1 (.t 123), none⟩,
                  ⟨some 125, .len (.t 124), none⟩,
                  ⟨some 126, .bin .gtr (.t 125) (.c (.v (.i .i64 6))), none⟩,
                  ⟨some 127, .mov (.t 126), none⟩,
                  ⟨some 128, .fad 0 (.t 10), some (127, false)⟩,
                  ⟨some 129, .ld false 1 (.t 128), some (127, false)⟩,
                  ⟨some 130, .lenS (.t 129), some (127, false)⟩,
                  ⟨some 131, .bin .gtr (.t 130) (.c (.v (.i .i64 60))), some (127, false)⟩,
                  ⟨some 132, .pick (.t 127) (.c (.v (.b true))) (.t 131), none⟩,
                  ⟨some 133, .mov (.t 132), none⟩,
                  ⟨some 134, .fad 1 (.t 10), some (133, false)⟩,
                  ⟨some 135, .fad 0 (.t 134), some (133, false)⟩,
                  ⟨some 136, .fad 0 (.t 135), some (133, false)⟩,
                  ⟨some 137, .ld false 1 (.t 136), some (133, false)⟩,
                  ⟨some 138, .fad 1 (.t 10), some (133, false)⟩,
                  ⟨some 139, .fad 0 (.t 138), some (133, false)⟩,
                  ⟨some 140, .fad 1 (.t 139), some (133, false)⟩,
                  ⟨some 141, .ld false 1 (.t 140), some (133, false)⟩,
                  ⟨some 142, .fad 1 (.t 10), some (133, false)⟩,
                  ⟨some 143, .fad 2 (.t 142), some (133, false)⟩,
                  ⟨some 144, .ld false 1 (.t 143), some (133, false)⟩,
                  ⟨some 145, .fad 1 (.t 10), some (133, false)⟩,
                  ⟨some 146, .fad 3 (.t 145), some (133, false)⟩,
                  ⟨some 147, .ld false 1 (.t 146), some (133, false)⟩,
                  ⟨some 148, .bsl 1 [(.t 137), (.t 141), (.t 144), (.t 147)], some (133, false)⟩,
                  ⟨some 149, .fad 6 (.t 10), some (133, false)⟩,
                  ⟨some 150, .ld false 1 (.t 149), some (133, false)⟩,
                  ⟨some 151, .app 27 1 16 (.t 148) (.t 150), some (133, false)⟩,
                  ⟨some 152, .call (.c (.v (.fn (.func 9)))) [(.t 151)], some (133, false)⟩,
                  ⟨some 153, .pick (.t 133) (.c (.v (.b true))) (.t 152), none⟩])
               (.cond (.t 153) (.seq (.reg none [⟨some 4, .mov (.c (.v (.b false))), none⟩])
                 (.ret))
                (.skip)))))
            (.reg none [⟨some 154, .bin .add (.t 119) (.c (.v (.i .i64 1))), none⟩,
               ⟨some 119, .mov (.t 154), none⟩])))))))
      (.seq (.reg none [⟨some 4, .mov (.c (.v (.b true))), none⟩])
       (.ret))))))
def R4 : List SRes := [.t 4]
/- domino/dominolaw52.light -/
def S5 : SC :=
  .seq (.reg none [⟨some 1, .box (.t 0), none⟩,
     ⟨some 2, .mov (.c (.v (.b false))), none⟩])
  (.seq (.seq (.reg none [⟨some 7, .fad 0 (.t 1), none⟩,
       ⟨some 8, .ld false 1 (.t 7), none⟩,
       ⟨some 9, .len (.t 8), none⟩,
       ⟨some 10, .bin .gtr (.t 9) (.c (.v (.i .i64 6))), none⟩,
       ⟨some 11, .mov (.t 10), none⟩,
       ⟨some 12, .fad 1 (.t 1), some (11, false)⟩,
       ⟨some 13, .ld false 1 (.t 12), some (11, false)⟩,
       ⟨some 14, .len (.t 13), some (11, false)⟩,
       ⟨some 15, .bin .gtr (.t 14) (.c (.v (.i .i64 20))), some (11, false)⟩,
       ⟨some 16, .pick (.t 11) (.c (.v (.b true))) (.t 15), none⟩,
       ⟨some 17, .mov (.t 16), none⟩,
       ⟨some 18, .fad 2 (.t 1), some (17, false)⟩,
       ⟨some 19, .ld false 1 (.t 18), some (17, false)⟩,
       ⟨some 20, .len (.t 19), some (17, false)⟩,
       ⟨some 21, .bin .gtr (.t 20) (.c (.v (.i .i64 40))), some (17, false)⟩,
       ⟨some 22, .pick (.t 17) (.c (.v (.b true))) (.t 21), none⟩,
       ⟨some 23, .mov (.t 22), none⟩,
       ⟨some 24, .fad 3 (.t 1), some (23, false)⟩,
       ⟨some 25, .ld false 1 (.t 24), some (23, false)⟩,
       ⟨some 26, .len (.t 25), some (23, false)⟩,
       ⟨some 27, .bin .gtr (.t 26) (.c (.v (.i .i64 6))), some (23, false)⟩,
       ⟨some 28, .pick (.t 23) (.c (.v (.b true))) (.t 27), none⟩,
       ⟨some 29, .mov (.t 28), none⟩,
       ⟨some 30, .fad 4 (.t 1), some (29, false)⟩,
       ⟨some 31, .ld false 1 (.t 30), some (29, false)⟩,
       ⟨some 32, .fad 5 (.t 1), some (29, false)⟩,
       ⟨some 33, .ld false 1 (.t 32), some (29, false)⟩,
       ⟨some 34, .fad 6 (.t 1), some (29, false)⟩,
       ⟨some 35, .ld false 1 (.t 34), some (29, false)⟩,
       ⟨some 36, .fad 8 (.t 1), some (29, false)⟩,
       ⟨some 37, .fad 0 (.t 36), some (29, false)⟩,
       ⟨some 38, .ld false 1 (.t 37), some (29, false)⟩,
       ⟨some 39, .fad 8 (.t 1), some (29, false)⟩,
       ⟨some 40, .fad 1 (.t 39), some (29, false)⟩,
       ⟨some 41, .ld false 1 (.t 40), some (29, false)⟩,
       ⟨some 42, .bsl 1 [(.t 31), (.t 33), (.t 35), (.t 38), (.t 41)], some (29, false)⟩,
       ⟨some 43, .call (.c (.v (.fn (.func 9)))) [(.t 42)], some (29, false)⟩,
       ⟨some 44, .pick (.t 29) (.c (.v (.b true))) (.t 43), none⟩,
       ⟨some 45, .mov (.t 44), none⟩,
       ⟨some 46, .fad 1 (.t 1), some (45, false)⟩,
       ⟨some 47, .ld false 1 (.t 46), some (45, false)⟩,
       ⟨some 48, .call (.c (.v (.fn (.func 9)))) [(.t 47)], some (45, false)⟩,
       ⟨some 49, .pick (.t 45) (.c (.v (.b true))) (.t 48), none⟩,
       ⟨some 50, .mov (.t 49), none⟩,
       ⟨some 51, .fad 7 (.t 1), some (50, false)⟩,
       ⟨some 52, .ld false 1 (.t 51), some (50, false)⟩,
       ⟨some 53, .call (.c (.v (.fn (.func 9)))) [(.t 52)], some (50, false)⟩,
       ⟨some 54, .pick (.t 50) (.c (.v (.b true))) (.t 53), none⟩,
       ⟨some 55, .mov (.t 54), none⟩,
       ⟨some 56, .fad 7 (.t 1), some (55, false)⟩,
       ⟨some 57, .ld false 1 (.t 56), some (55, false)⟩,
       ⟨some 58, .len (.t 57), some (55, false)⟩,
       ⟨some 59, .bin .gtr (.t 58) (.c (.v (.i .i64 20))), some (55, false)⟩,
       ⟨some 60, .pick (.t 55) (.c (.v (.b true))) (.t 59), none⟩])
    (.cond (.t 60) (.seq (.reg none [⟨some 2, .mov (.c (.v (.b false))), none⟩])
      (.ret))
     (.skip)))
   (.seq (.seq (.reg none [⟨some 61, .fad 0 (.t 1), none⟩,
        ⟨some 62, .ld false 1 (.t 61), none⟩,
        ⟨some 63, .len (.t 62), none⟩,
        ⟨some 64, .mov (.c (.v (.i .i64 0))), none⟩])
     (.blk 0 (.loop (.seq (.reg none [⟨some 65, .bin .lss (.t 64) (.t 63), none⟩])
        (.seq (.cond (.t 65) (.skip)
          (.exit 0))
         (.seq (.blk 1 (.seq (.reg none [⟨some 66, .ixs 5 (.t 62) (.t 64), none⟩,
               ⟨some 67, .ld true 5 (.t 66), none⟩,
               ⟨some 4, .alloc 76 [(.v (.s [])), (.v (.i .i64 0)), (.v (.s [])), (.v (.s [])), .sn], none⟩,
               ⟨none, .st 5 (.t 4) (.t 67), none⟩])
            (.seq (.reg none [⟨some 68, .fad 2 (.t 4), none⟩,
                ⟨some 69, .ld false 1 (.t 68), none⟩,
                ⟨some 70, .fad 3 (.t 4), none⟩,
                ⟨some 71, .ld false 1 (.t 70), none⟩,
                ⟨some 72, .bsl 1 [(.t 69), (.t 71)], none⟩,
                ⟨some 73, .call (.c (.v (.fn (.func 9)))) [(.t 72)], none⟩,
                ⟨some 74, .mov (.t 73), none⟩,
                ⟨some 75, .fad 4 (.t 4), some (74, false)⟩,
                ⟨some 76, .ld false 1 (.t 75), some (74, false)⟩,
                ⟨some 77, .call (.c (.v (.fn (.func 9)))) [(.t 76)], some (74, false)⟩,
                ⟨some 78, .pick (.t 74) (.c (.v (.b true))) (.t 77), none⟩,
                ⟨some 79, .mov (.t 78), none⟩,
                ⟨some 80, .fad 4 (.t 4), some (79, false)⟩,
                ⟨some 81, .ld false 1 (.t 80), some (79, false)⟩,
                ⟨some 82, .len (.t 81), some (79, false)⟩,
                ⟨some 83, .bin .gtr (.t 82) (.c (.v (.i .i64 10))), some (79, false)⟩,
                ⟨some 84, .pick (.t 79) (.c (.v (.b true))) (.t 83), none⟩,
                ⟨some 85, .mov (.t 84), none⟩,
                ⟨some 86, .fad 0 (.t 4), some (85, false)⟩,
                ⟨some 87, .ld false 1 (.t 86), some (85, false)⟩,
                ⟨some 88, .lenS (.t 87), some (85, false)⟩,
                ⟨some 89, .bin .gtr (.t 88) (.c (.v (.i .i64 60))), some (85, false)⟩,
                ⟨some 90, .pick (.t 85) (.c (.v (.b true))) (.t 89), none⟩])
             (.cond (.t 90) (.seq (.reg none [⟨some 2, .mov (.c (.v (.b false))), none⟩])
               (.ret))
              (.skip)))))
          (.reg none [⟨some 91, .bin .add (.t 64) (.c (.v (.i .i64 1))), none⟩,
             ⟨some 64, .mov (.t 91), none⟩])))))))
    (.seq (.seq (.reg (some [0, 0, 2, 7, 0, 16, 63, 127, 0]) [⟨some 92, .bsl 1 [], none⟩,
         ⟨some 93, .fad 2 (.t 1), none⟩,
         ⟨some 94, .ld false 1 (.t 93), none⟩,
         ⟨some 95, .app 25 1 24 (.t 92) (.t 94), none⟩,
         ⟨some 96, .fad 3 (.t 1), none⟩,
         ⟨some 97, .ld false 1 (.t 96), none⟩,
         ⟨some 98, .app 25 1 24 (.t 95) (.t 97), none⟩,
         ⟨some 99, .len (.t 98), none⟩,
         ⟨some 100, .mov (.c (.v (.i .i64 0))), none⟩])
      (.blk 2 (.loop (.seq (.reg none [⟨some 101, .bin .lss (.t 100) (.t 99), none⟩])
         (.seq (.cond (.t 101) (.skip)
           (.exit 2))
          (.seq (.blk 3 (.seq (.reg none [⟨some 102, .ixs 1 (.t 98) (.t 100), none⟩,
                ⟨some 103, .ld false 1 (.t 102), none⟩,
                ⟨some 6, .mov (.t 103), none⟩])
             (.seq (.reg none [⟨some 104, .mov (.t 6), none⟩,
                 ⟨some 105, .len (.t 104), none⟩,
                 ⟨some 106, .bin .gtr (.t 105) (.c (.v (.i .i64 30))), none⟩,
                 ⟨some 107, .mov (.t 106), none⟩,
                 ⟨some 108, .mov (.t 6), some (107, false)⟩,
                 ⟨some 109, .call (.c (.v (.fn (.func 9)))) [(.t 108)], some (107, false)⟩,
                 ⟨some 110, .pick (.t 107) (.c (.v (.b true))) (.t 109), none⟩])
              (.cond (.t 110) (.seq (.reg none [⟨some 2, .mov (.c (.v (.b false))), none⟩])
                (.ret))
               (.skip)))))
           (.reg none [⟨some 111, .bin .add (.t 100) (.c (.v (.i .i64 1))), none⟩,
              ⟨some 100, .mov (.t 111), none⟩])))))))
     (.seq (.reg none [⟨some 2, .mov (.c (.v (.b true))), none⟩])
      (.ret)))))
def R5 : List SRes := [.t 2]
/- domino/dominolaw52.awake -/
def S6 : SC :=
  .seq (.reg none [⟨some 0, .mov (.c (.v (.b false))), none⟩])
  (.seq (.reg none [⟨some 6, .build [(.v (.s [])), (.v (.s [])), (.v (.s [])), (.v (.i .i64 0)), (.v (.i .i64 0))] [(0, 1, (.c (.v (.s [112])))), (3, 1, (.c (.v (.i .i64 1))))], none⟩,
      ⟨some 7, .build [.sn, .sn, .sn, .sn, (.v (.s [])), (.v (.s [])), (.v (.s [])), .sn, (.v (.s [])), (.v (.s [])), (.v (.s [])), .sn, .sn, .sn] [], none⟩,
      ⟨some 8, .call (.c (.v (.fn (.func 7)))) [(.t 6), (.t 7)], none⟩,
      ⟨some 5, .mov (.t 8), none⟩,
      ⟨some 9, .ext (.t 5) 0, none⟩,
      ⟨some 10, .ext (.t 5) 1, none⟩,
      ⟨some 1, .mov (.t 9), none⟩,
      ⟨some 2, .mov (.t 10), none⟩])
   (.seq (.reg none [⟨some 12, .mov (.t 1), none⟩,
       ⟨some 13, .call (.c (.v (.fn (.func 14)))) [(.t 12)], none⟩,
       ⟨some 11, .mov (.t 13), none⟩,
       ⟨some 14, .ext (.t 11) 0, none⟩,
       ⟨some 15, .ext (.t 11) 1, none⟩,
       ⟨some 3, .alloc 79 [(.v (.i .i64 0)), (.v (.s [])), (.v (.s [])), .sn], none⟩,
       ⟨none, .st 4 (.t 3) (.t 14), none⟩,
       ⟨some 4, .mov (.t 15), none⟩])
    (.seq (.reg none [⟨some 16, .mov (.t 2), none⟩,
        ⟨some 17, .bin .eql (.t 16) (.c (.v (.i .i64 0))), none⟩,
        ⟨some 18, .mov (.t 17), none⟩,
        ⟨some 19, .mov (.t 4), some (18, true)⟩,
        ⟨some 20, .bin .eql (.t 19) (.c (.v (.i .i64 0))), some (18, true)⟩,
        ⟨some 21, .pick (.t 18) (.t 20) (.c (.v (.b false))), none⟩,
        ⟨some 22, .mov (.t 21), none⟩,
        ⟨some 23, .fad 3 (.t 3), some (22, true)⟩,
        ⟨some 24, .ld false 1 (.t 23), some (22, true)⟩,
        ⟨some 25, .len (.t 24), some (22, true)⟩,
        ⟨some 26, .bin .eql (.t 25) (.c (.v (.i .i64 10))), some (22, true)⟩,
        ⟨some 27, .pick (.t 22) (.t 26) (.c (.v (.b false))), none⟩,
        ⟨some 28, .mov (.t 27), none⟩,
        ⟨some 29, .fad 3 (.t 3), some (28, true)⟩,
        ⟨some 30, .ld false 1 (.t 29), some (28, true)⟩,
        ⟨some 31, .ixs 4 (.t 30) (.c (.v (.i .i64 0))), some (28, true)⟩,
        ⟨some 32, .fad 3 (.t 31), some (28, true)⟩,
        ⟨some 33, .ld false 1 (.t 32), some (28, true)⟩,
        ⟨some 34, .len (.t 33), some (28, true)⟩,
        ⟨some 35, .bin .eql (.t 34) (.c (.v (.i .i64 5))), some (28, true)⟩,
        ⟨some 36, .pick (.t 28) (.t 35) (.c (.v (.b false))), none⟩,
        ⟨some 37, .mov (.t 36), none⟩,
        ⟨some 38, .fad 3 (.t 3), some (37, true)⟩,
        ⟨some 39, .ld false 1 (.t 38), some (37, true)⟩,
        ⟨some 40, .ixs 4 (.t 39) (.c (.v (.i .i64 0))), some (37, true)⟩,
        ⟨some 41, .fad 3 (.t 40), some (37, true)⟩,
        ⟨some 42, .ld false 1 (.t 41), some (37, true)⟩,
        ⟨some 43, .ixs 4 (.t 42) (.c (.v (.i .i64 0))), some (37, true)⟩,
        ⟨some 44, .fad 2 (.t 43), some (37, true)⟩,
        ⟨some 45, .ld false 1 (.t 44), some (37, true)⟩,
        ⟨some 46, .bin .eql (.t 45) (.c (.v (.s [112]))), some (37, true)⟩,
        ⟨some 47, .pick (.t 37) (.t 46) (.c (.v (.b false))), none⟩,
        ⟨some 48, .mov (.t 47), none⟩,
        ⟨some 49, .fad 3 (.t 3), some (48, true)⟩,
        ⟨some 50, .ld false 1 (.t 49), some (48, true)⟩,
        ⟨some 51, .ixs 4 (.t 50) (.c (.v (.i .i64 9))), some (48, true)⟩,
        ⟨some 52, .fad 3 (.t 51), some (48, true)⟩,
        ⟨some 53, .ld false 1 (.t 52), some (48, true)⟩,
        ⟨some 54, .len (.t 53), some (48, true)⟩,
        ⟨some 55, .bin .eql (.t 54) (.c (.v (.i .i64 2))), some (48, true)⟩,
        ⟨some 56, .pick (.t 48) (.t 55) (.c (.v (.b false))), none⟩,
        ⟨some 0, .mov (.t 56), none⟩])
     (.ret))))
def R6 : List SRes := [.t 0]
/- domino/presentation.Context -/
def S7 : SC :=
  .seq (.reg none [⟨some 2, .box (.t 0), none⟩,
     ⟨some 3, .box (.t 1), none⟩,
     ⟨some 4, .mov (.c (.v (.s []))), none⟩,
     ⟨some 5, .mov (.c (.v (.i .i64 0))), none⟩])
  (.seq (.reg none [⟨some 6, .mov (.c (.v (.fn (.func 15)))), none⟩])
   (.seq (.reg none [⟨some 7, .mov (.c .sn), none⟩])
    (.seq (.seq (.reg none [⟨some 10, .fad 0 (.t 3), none⟩,
         ⟨some 11, .ld false 1 (.t 10), none⟩,
         ⟨some 12, .len (.t 11), none⟩,
         ⟨some 13, .mov (.c (.v (.i .i64 0))), none⟩])
      (.blk 0 (.loop (.seq (.reg none [⟨some 14, .bin .lss (.t 13) (.t 12), none⟩])
         (.seq (.cond (.t 14) (.skip)
           (.exit 0))
          (.seq (.blk 1 (.seq (.reg none [⟨some 15, .ixs 5 (.t 11) (.t 13), none⟩,
                ⟨some 16, .ld true 5 (.t 15), none⟩,
                ⟨some 9, .alloc 76 [(.v (.s [])), (.v (.i .i64 0)), (.v (.s [])), (.v (.s [])), .sn], none⟩,
                ⟨none, .st 5 (.t 9) (.t 16), none⟩])
             (.reg (some [0, 0, 2, 6, 0, 0, 32, 126, 0, 256, 1022, 0, 2048, 8190, 0, 16384, 65534, 131070, 262142, 524286, 1048575, 2097151]) [⟨some 17, .mov (.t 7), none⟩,
                ⟨some 18, .fad 0 (.t 9), none⟩,
                ⟨some 19, .ld false 1 (.t 18), none⟩,
                ⟨some 20, .call (.c (.v (.fn (.func 19)))) [(.t 19)], none⟩,
                ⟨some 21, .mov (.t 6), none⟩,
                ⟨some 22, .fad 1 (.t 9), none⟩,
                ⟨some 23, .ld false 1 (.t 22), none⟩,
                ⟨some 24, .call (.t 21) [(.t 23)], none⟩,
                ⟨some 25, .fad 2 (.t 9), none⟩,
                ⟨some 26, .ld false 1 (.t 25), none⟩,
                ⟨some 27, .call (.c (.v (.fn (.func 20)))) [(.t 26)], none⟩,
                ⟨some 28, .fad 3 (.t 9), none⟩,
                ⟨some 29, .ld false 1 (.t 28), none⟩,
                ⟨some 30, .call (.c (.v (.fn (.func 20)))) [(.t 29)], none⟩,
                ⟨some 31, .fad 4 (.t 9), none⟩,
                ⟨some 32, .ld false 1 (.t 31), none⟩,
                ⟨some 33, .call (.c (.v (.fn (.func 21)))) [(.t 32)], none⟩,
                ⟨some 34, .bsl 4 [(.t 20), (.t 24), (.t 27), (.t 30), (.t 33)], none⟩,
                ⟨some 35, .call (.c (.v (.fn (.func 18)))) [(.t 34)], none⟩,
                ⟨some 36, .bsl 4 [(.t 35)], none⟩,
                ⟨some 37, .app 79 4 64 (.t 17) (.t 36), none⟩,
                ⟨some 7, .mov (.t 37), none⟩])))
           (.reg none [⟨some 38, .bin .add (.t 13) (.c (.v (.i .i64 1))), none⟩,
              ⟨some 13, .mov (.t 38), none⟩])))))))
     (.seq (.reg (some [0, 1, 3, 0, 8, 31, 0, 64, 255, 0, 0, 1024, 4095, 0, 0, 16384, 65535, 131071, 262143, 0, 1048575, 0, 2097152, 8388607, 0, 16777216, 67108863, 0, 134217728, 536870911, 0, 1073741824, 4294967295, 0, 8589934592, 34359738367, 0, 68719476736, 274877906943, 0, 549755813888, 2199023255551, 0, 4398046511104, 13194139533312, 0, 35184372088832, 105553116266496, 277076930199552, 562949953421311, 1125899906842623, 2251799813685247, 4503599627370495, 9007199254740991, 9007199254740991, 36028797018963967, 72057594037927935]) [⟨some 39, .fad 0 (.t 2), none⟩,
         ⟨some 40, .ld false 1 (.t 39), none⟩,
         ⟨some 41, .call (.c (.v (.fn (.func 19)))) [(.t 40)], none⟩,
         ⟨some 42, .fad 1 (.t 2), none⟩,
         ⟨some 43, .ld false 1 (.t 42), none⟩,
         ⟨some 44, .call (.c (.v (.fn (.func 19)))) [(.t 43)], none⟩,
         ⟨some 45, .fad 2 (.t 2), none⟩,
         ⟨some 46, .ld false 1 (.t 45), none⟩,
         ⟨some 47, .call (.c (.v (.fn (.func 19)))) [(.t 46)], none⟩,
         ⟨some 48, .mov (.t 6), none⟩,
         ⟨some 49, .fad 3 (.t 2), none⟩,
         ⟨some 50, .ld false 1 (.t 49), none⟩,
         ⟨some 51, .call (.t 48) [(.t 50)], none⟩,
         ⟨some 52, .mov (.t 6), none⟩,
         ⟨some 53, .fad 4 (.t 2), none⟩,
         ⟨some 54, .ld false 1 (.t 53), none⟩,
         ⟨some 55, .call (.t 52) [(.t 54)], none⟩,
         ⟨some 56, .bsl 4 [(.t 41), (.t 44), (.t 47), (.t 51), (.t 55)], none⟩,
         ⟨some 57, .call (.c (.v (.fn (.func 18)))) [(.t 56)], none⟩,
         ⟨some 58, .mov (.t 7), none⟩,
         ⟨some 59, .call (.c (.v (.fn (.func 18)))) [(.t 58)], none⟩,
         ⟨some 60, .fad 1 (.t 3), none⟩,
         ⟨some 61, .ld false 1 (.t 60), none⟩,
         ⟨some 62, .call (.c (.v (.fn (.func 21)))) [(.t 61)], none⟩,
         ⟨some 63, .fad 2 (.t 3), none⟩,
         ⟨some 64, .ld false 1 (.t 63), none⟩,
         ⟨some 65, .call (.c (.v (.fn (.func 23)))) [(.t 64)], none⟩,
         ⟨some 66, .fad 3 (.t 3), none⟩,
         ⟨some 67, .ld false 1 (.t 66), none⟩,
         ⟨some 68, .call (.c (.v (.fn (.func 23)))) [(.t 67)], none⟩,
         ⟨some 69, .fad 4 (.t 3), none⟩,
         ⟨some 70, .ld false 1 (.t 69), none⟩,
         ⟨some 71, .call (.c (.v (.fn (.func 20)))) [(.t 70)], none⟩,
         ⟨some 72, .fad 5 (.t 3), none⟩,
         ⟨some 73, .ld false 1 (.t 72), none⟩,
         ⟨some 74, .call (.c (.v (.fn (.func 20)))) [(.t 73)], none⟩,
         ⟨some 75, .fad 6 (.t 3), none⟩,
         ⟨some 76, .ld false 1 (.t 75), none⟩,
         ⟨some 77, .call (.c (.v (.fn (.func 20)))) [(.t 76)], none⟩,
         ⟨some 78, .fad 7 (.t 3), none⟩,
         ⟨some 79, .ld false 1 (.t 78), none⟩,
         ⟨some 80, .call (.c (.v (.fn (.func 21)))) [(.t 79)], none⟩,
         ⟨some 81, .fad 8 (.t 3), none⟩,
         ⟨some 82, .fad 0 (.t 81), none⟩,
         ⟨some 83, .ld false 1 (.t 82), none⟩,
         ⟨some 84, .fad 8 (.t 3), none⟩,
         ⟨some 85, .fad 1 (.t 84), none⟩,
         ⟨some 86, .ld false 1 (.t 85), none⟩,
         ⟨some 87, .bsl 1 [(.t 83), (.t 86)], none⟩,
         ⟨some 88, .call (.c (.v (.fn (.func 21)))) [(.t 87)], none⟩,
         ⟨some 89, .bsl 4 [(.t 57), (.t 59), (.t 62), (.t 65), (.t 68), (.t 71), (.t 74), (.t 77), (.t 80), (.t 88)], none⟩,
         ⟨some 90, .call (.c (.v (.fn (.func 18)))) [(.t 89)], none⟩,
         ⟨some 91, .call (.c (.v (.fn (.func 22)))) [(.t 90)], none⟩,
         ⟨some 92, .ext (.t 91) 0, none⟩,
         ⟨some 93, .ext (.t 91) 1, none⟩,
         ⟨some 4, .mov (.t 92), none⟩,
         ⟨some 5, .mov (.t 93), none⟩])
      (.ret)))))
def R7 : List SRes := [.t 4, .t 5]
/- domino/dominoref52.Context -/
def S8 : SC :=
  .seq (.reg none [⟨some 2, .box (.t 0), none⟩,
     ⟨some 3, .box (.t 1), none⟩,
     ⟨some 4, .mov (.c (.v (.s []))), none⟩,
     ⟨some 5, .mov (.c (.v (.i .i64 0))), none⟩])
  (.seq (.reg (some [0, 1, 3, 0, 8, 31, 0, 64, 255, 0, 512, 2047, 0, 4096, 16383, 32767, 65535, 0, 262143]) [⟨some 10, .fad 0 (.t 2), none⟩,
      ⟨some 11, .ld false 1 (.t 10), none⟩,
      ⟨some 12, .call (.c (.v (.fn (.func 25)))) [(.t 11)], none⟩,
      ⟨some 13, .fad 1 (.t 2), none⟩,
      ⟨some 14, .ld false 1 (.t 13), none⟩,
      ⟨some 15, .call (.c (.v (.fn (.func 25)))) [(.t 14)], none⟩,
      ⟨some 16, .fad 2 (.t 2), none⟩,
      ⟨some 17, .ld false 1 (.t 16), none⟩,
      ⟨some 18, .call (.c (.v (.fn (.func 25)))) [(.t 17)], none⟩,
      ⟨some 19, .fad 3 (.t 2), none⟩,
      ⟨some 20, .ld false 1 (.t 19), none⟩,
      ⟨some 21, .call (.c (.v (.fn (.func 26)))) [(.t 20)], none⟩,
      ⟨some 22, .fad 4 (.t 2), none⟩,
      ⟨some 23, .ld false 1 (.t 22), none⟩,
      ⟨some 24, .call (.c (.v (.fn (.func 26)))) [(.t 23)], none⟩,
      ⟨some 25, .bsl 4 [(.t 12), (.t 15), (.t 18), (.t 21), (.t 24)], none⟩,
      ⟨some 26, .call (.c (.v (.fn (.func 24)))) [(.t 25)], none⟩,
      ⟨some 6, .alloc 79 [(.v (.i .i64 0)), (.v (.s [])), (.v (.s [])), .sn], none⟩,
      ⟨none, .st 4 (.t 6) (.t 26), none⟩])
   (.seq (.reg none [⟨some 7, .mov (.c .sn), none⟩])
    (.seq (.seq (.reg none [⟨some 8, .mov (.c (.v (.i .i64 0))), none⟩])
      (.blk 0 (.loop (.seq (.seq (.reg none [⟨some 27, .mov (.t 8), none⟩,
             ⟨some 28, .fad 0 (.t 3), none⟩,
             ⟨some 29, .ld false 1 (.t 28), none⟩,
             ⟨some 30, .len (.t 29), none⟩,
             ⟨some 31, .bin .lss (.t 27) (.t 30), none⟩])
          (.cond (.t 31) (.skip)
           (.exit 0)))
         (.seq (.blk 1 (.seq (.reg none [⟨some 34, .fad 0 (.t 3), none⟩,
               ⟨some 35, .ld false 1 (.t 34), none⟩,
               ⟨some 36, .mov (.t 8), none⟩,
               ⟨some 37, .ixs 5 (.t 35) (.t 36), none⟩,
               ⟨some 38, .ld true 5 (.t 37), none⟩,
               ⟨some 9, .alloc 76 [(.v (.s [])), (.v (.i .i64 0)), (.v (.s [])), (.v (.s [])), .sn], none⟩,
               ⟨none, .st 5 (.t 9) (.t 38), none⟩])
            (.reg (some [0, 0, 2, 6, 0, 16, 62, 0, 128, 510, 0, 1024, 4094, 0, 8192, 32766, 65534, 131070, 262142, 524287, 1048575]) [⟨some 39, .mov (.t 7), none⟩,
               ⟨some 40, .fad 0 (.t 9), none⟩,
               ⟨some 41, .ld false 1 (.t 40), none⟩,
               ⟨some 42, .call (.c (.v (.fn (.func 25)))) [(.t 41)], none⟩,
               ⟨some 43, .fad 1 (.t 9), none⟩,
               ⟨some 44, .ld false 1 (.t 43), none⟩,
               ⟨some 45, .call (.c (.v (.fn (.func 26)))) [(.t 44)], none⟩,
               ⟨some 46, .fad 2 (.t 9), none⟩,
               ⟨some 47, .ld false 1 (.t 46), none⟩,
               ⟨some 48, .call (.c (.v (.fn (.func 27)))) [(.t 47)], none⟩,
               ⟨some 49, .fad 3 (.t 9), none⟩,
               ⟨some 50, .ld false 1 (.t 49), none⟩,
               ⟨some 51, .call (.c (.v (.fn (.func 27)))) [(.t 50)], none⟩,
               ⟨some 52, .fad 4 (.t 9), none⟩,
               ⟨some 53, .ld false 1 (.t 52), none⟩,
               ⟨some 54, .call (.c (.v (.fn (.func 28)))) [(.t 53)], none⟩,
               ⟨some 55, .bsl 4 [(.t 42), (.t 45), (.t 48), (.t 51), (.t 54)], none⟩,
               ⟨some 56, .call (.c (.v (.fn (.func 24)))) [(.t 55)], none⟩,
               ⟨some 57, .bsl 4 [(.t 56)], none⟩,
               ⟨some 58, .app 79 4 64 (.t 39) (.t 57), none⟩,
               ⟨some 7, .mov (.t 58), none⟩])))
          (.reg none [⟨some 32, .mov (.t 8), none⟩,
             ⟨some 33, .bin .add (.t 32) (.c (.v (.i .i64 1))), none⟩,
             ⟨some 8, .mov (.t 33), none⟩]))))))
     (.seq (.reg (some [0, 0, 2, 0, 8, 30, 0, 64, 254, 0, 512, 2046, 0, 4096, 16382, 0, 32768, 131070, 0, 262144, 1048574, 0, 2097152, 8388606, 0, 16777216, 50331648, 0, 134217728, 402653184, 1056964608, 2147483646, 4294967295, 8589934591, 17179869183, 34359738367, 34359738367, 137438953471, 274877906943]) [⟨some 59, .ld true 4 (.t 6), none⟩,
         ⟨some 60, .mov (.t 7), none⟩,
         ⟨some 61, .call (.c (.v (.fn (.func 24)))) [(.t 60)], none⟩,
         ⟨some 62, .fad 1 (.t 3), none⟩,
         ⟨some 63, .ld false 1 (.t 62), none⟩,
         ⟨some 64, .call (.c (.v (.fn (.func 28)))) [(.t 63)], none⟩,
         ⟨some 65, .fad 2 (.t 3), none⟩,
         ⟨some 66, .ld false 1 (.t 65), none⟩,
         ⟨some 67, .call (.c (.v (.fn (.func 30)))) [(.t 66)], none⟩,
         ⟨some 68, .fad 3 (.t 3), none⟩,
         ⟨some 69, .ld false 1 (.t 68), none⟩,
         ⟨some 70, .call (.c (.v (.fn (.func 30)))) [(.t 69)], none⟩,
         ⟨some 71, .fad 4 (.t 3), none⟩,
         ⟨some 72, .ld false 1 (.t 71), none⟩,
         ⟨some 73, .call (.c (.v (.fn (.func 27)))) [(.t 72)], none⟩,
         ⟨some 74, .fad 5 (.t 3), none⟩,
         ⟨some 75, .ld false 1 (.t 74), none⟩,
         ⟨some 76, .call (.c (.v (.fn (.func 27)))) [(.t 75)], none⟩,
         ⟨some 77, .fad 6 (.t 3), none⟩,
         ⟨some 78, .ld false 1 (.t 77), none⟩,
         ⟨some 79, .call (.c (.v (.fn (.func 27)))) [(.t 78)], none⟩,
         ⟨some 80, .fad 7 (.t 3), none⟩,
         ⟨some 81, .ld false 1 (.t 80), none⟩,
         ⟨some 82, .call (.c (.v (.fn (.func 28)))) [(.t 81)], none⟩,
         ⟨some 83, .fad 8 (.t 3), none⟩,
         ⟨some 84, .fad 0 (.t 83), none⟩,
         ⟨some 85, .ld false 1 (.t 84), none⟩,
         ⟨some 86, .fad 8 (.t 3), none⟩,
         ⟨some 87, .fad 1 (.t 86), none⟩,
         ⟨some 88, .ld false 1 (.t 87), none⟩,
         ⟨some 89, .bsl 1 [(.t 85), (.t 88)], none⟩,
         ⟨some 90, .call (.c (.v (.fn (.func 28)))) [(.t 89)], none⟩,
         ⟨some 91, .bsl 4 [(.t 59), (.t 61), (.t 64), (.t 67), (.t 70), (.t 73), (.t 76), (.t 79), (.t 82), (.t 90)], none⟩,
         ⟨some 92, .call (.c (.v (.fn (.func 24)))) [(.t 91)], none⟩,
         ⟨some 93, .call (.c (.v (.fn (.func 29)))) [(.t 92)], none⟩,
         ⟨some 94, .ext (.t 93) 0, none⟩,
         ⟨some 95, .ext (.t 93) 1, none⟩,
         ⟨some 4, .mov (.t 94), none⟩,
         ⟨some 5, .mov (.t 95), none⟩])
      (.ret)))))
def R8 : List SRes := [.t 4, .t 5]
/- domino/dominolaw52.long -/
def S9 : SC :=
  .seq (.reg none [⟨some 2, .mov (.c (.v (.b false))), none⟩])
  (.seq (.reg none [⟨some 3, .mov (.t 0), none⟩,
      ⟨some 4, .call (.c (.v (.fn (.func 31)))) [(.t 3), (.c (.v (.fn (.func 32))))], none⟩,
      ⟨some 2, .mov (.t 4), none⟩])
   (.ret))
def R9 : List SRes := [.t 2]
/- domino/dominoref11.Numbers -/
def S10 : SC :=
  .seq (.reg none [⟨some 1, .box (.t 0), none⟩,
     ⟨some 2, .mov (.c .sn), none⟩])
  (.seq (.reg none [⟨some 3, .fad 0 (.t 1), none⟩,
      ⟨some 4, .fad 0 (.t 3), none⟩,
      ⟨some 5, .ld false 1 (.t 4), none⟩,
      ⟨some 6, .fad 0 (.t 1), none⟩,
      ⟨some 7, .fad 1 (.t 6), none⟩,
      ⟨some 8, .ld false 1 (.t 7), none⟩,
      ⟨some 9, .fad 2 (.t 1), none⟩,
      ⟨some 10, .fad 0 (.t 9), none⟩,
      ⟨some 11, .fad 0 (.t 10), none⟩,
      ⟨some 12, .ld false 1 (.t 11), none⟩,
      ⟨some 13, .fad 2 (.t 1), none⟩,
      ⟨some 14, .fad 0 (.t 13), none⟩,
      ⟨some 15, .fad 1 (.t 14), none⟩,
      ⟨some 16, .ld false 1 (.t 15), none⟩,
      ⟨some 17, .fad 2 (.t 1), none⟩,
      ⟨some 18, .fad 2 (.t 17), none⟩,
      ⟨some 19, .ld false 1 (.t 18), none⟩,
      ⟨some 20, .fad 2 (.t 1), none⟩,
      ⟨some 21, .fad 3 (.t 20), none⟩,
      ⟨some 22, .ld false 1 (.t 21), none⟩,
      ⟨some 23, .fad 6 (.t 1), none⟩,
      ⟨some 24, .fad 0 (.t 23), none⟩,
      ⟨some 25, .fad 0 (.t 24), none⟩,
      ⟨some 26, .ld false 1 (.t 25), none⟩,
      ⟨some 27, .fad 6 (.t 1), none⟩,
      ⟨some 28, .fad 0 (.t 27), none⟩,
      ⟨some 29, .fad 1 (.t 28), none⟩,
      ⟨some 30, .ld false 1 (.t 29), none⟩,
      ⟨some 31, .fad 6 (.t 1), none⟩,
      ⟨some 32, .fad 2 (.t 31), none⟩,
      ⟨some 33, .ld false 1 (.t 32), none⟩,
      ⟨some 34, .fad 6 (.t 1), none⟩,
      ⟨some 35, .fad 3 (.t 34), none⟩,
      ⟨some 36, .ld false 1 (.t 35), none⟩,
      ⟨some 37, .fad 10 (.t 1), none⟩,
      ⟨some 38, .ld false 1 (.t 37), none⟩,
      ⟨some 39, .fad 11 (.t 1), none⟩,
      ⟨some 40, .ld false 1 (.t 39), none⟩,
      ⟨some 41, .fad 12 (.t 1), none⟩,
      ⟨some 42, .ld false 1 (.t 41), none⟩,
      ⟨some 43, .fad 13 (.t 1), none⟩,
      ⟨some 44, .ld false 1 (.t 43), none⟩,
      ⟨some 45, .fad 14 (.t 1), none⟩,
      ⟨some 46, .ld false 1 (.t 45), none⟩,
      ⟨some 47, .fad 15 (.t 1), none⟩,
      ⟨some 48, .ld false 1 (.t 47), none⟩,
      ⟨some 49, .fad 16 (.t 1), none⟩,
      ⟨some 50, .ld false 1 (.t 49), none⟩,
      ⟨some 51, .bsl 1 [(.t 5), (.t 8), (.t 12), (.t 16), (.t 19), (.t 22), (.t 26), (.t 30), (.t 33), (.t 36), (.t 38), (.t 40), (.t 42), (.t 44), (.t 46), (.t 48), (.t 50)], none⟩,
      ⟨some 2, .mov (.t 51), none⟩])
   (.ret))
def R10 : List SRes := [.t 2]
/- domino/dominoref29.Bases -/
def S11 : SC :=
  .seq (.reg none [⟨some 1, .box (.t 0), none⟩,
     ⟨some 2, .mov (.c .sn), none⟩])
  (.seq (.reg none [⟨some 4, .fad 3 (.t 1), none⟩,
      ⟨some 5, .ld false 1 (.t 4), none⟩,
      ⟨some 6, .fad 6 (.t 1), none⟩,
      ⟨some 7, .ld false 1 (.t 6), none⟩,
      ⟨some 8, .fad 7 (.t 1), none⟩,
      ⟨some 9, .ld false 1 (.t 8), none⟩,
      ⟨some 10, .bsl 1 [(.t 5), (.t 7), (.t 9)], none⟩,
      ⟨some 3, .mov (.t 10), none⟩])
   (.seq (.reg none [⟨some 11, .mov (.t 3), none⟩,
       ⟨some 12, .fad 5 (.t 1), none⟩,
       ⟨some 13, .ld false 1 (.t 12), none⟩,
       ⟨some 14, .app 27 1 16 (.t 11) (.t 13), none⟩,
       ⟨some 2, .mov (.t 14), none⟩])
    (.ret)))
def R11 : List SRes := [.t 2]
/- slices.ContainsFunc[[]domino/api.Field,domino/api.Field] -/
def S12 : SC :=
  .seq (.reg none [⟨some 4, .mov (.c (.v (.b false))), none⟩])
  (.seq (.reg none [⟨some 5, .mov (.t 0), none⟩,
      ⟨some 6, .mov (.t 1), none⟩,
      ⟨some 7, .call (.c (.v (.fn (.func 33)))) [(.t 5), (.t 6)], none⟩,
      ⟨some 8, .bin .geq (.t 7) (.c (.v (.i .i64 0))), none⟩,
      ⟨some 4, .mov (.t 8), none⟩])
   (.ret))
def R12 : List SRes := [.t 4]
/- domino/dominolaw52.Few$1 -/
def S13 : SC :=
  .seq (.reg none [⟨some 1, .box (.t 0), none⟩,
     ⟨some 2, .mov (.c (.v (.b false))), none⟩])
  (.seq (.reg none [⟨some 3, .fad 4 (.t 1), none⟩,
      ⟨some 4, .ld false 1 (.t 3), none⟩,
      ⟨some 5, .len (.t 4), none⟩,
      ⟨some 6, .bin .gtr (.t 5) (.c (.v (.i .i64 10))), none⟩,
      ⟨some 7, .mov (.t 6), none⟩,
      ⟨some 8, .fad 0 (.t 1), some (7, false)⟩,
      ⟨some 9, .ld false 1 (.t 8), some (7, false)⟩,
      ⟨some 10, .lenS (.t 9), some (7, false)⟩,
      ⟨some 11, .bin .gtr (.t 10) (.c (.v (.i .i64 60))), some (7, false)⟩,
      ⟨some 12, .pick (.t 7) (.c (.v (.b true))) (.t 11), none⟩,
      ⟨some 2, .mov (.t 12), none⟩])
   (.ret))
def R13 : List SRes := [.t 2]
/- domino/encoding.Decode -/
def S14 : SC :=
  .seq (.reg none [⟨some 2, .alloc 79 [(.v (.i .i64 0)), (.v (.s [])), (.v (.s [])), .sn], none⟩,
     ⟨some 3, .mov (.c (.v (.i .i64 0))), none⟩])
  (.seq (.reg none [⟨some 8, .mov (.t 0), none⟩,
      ⟨some 9, .call (.c (.v (.fn (.func 34)))) [(.t 8)], none⟩,
      ⟨some 7, .mov (.t 9), none⟩,
      ⟨some 10, .ext (.t 7) 0, none⟩,
      ⟨some 11, .ext (.t 7) 1, none⟩,
      ⟨some 12, .ext (.t 7) 2, none⟩,
      ⟨some 4, .alloc 79 [(.v (.i .i64 0)), (.v (.s [])), (.v (.s [])), .sn], none⟩,
      ⟨none, .st 4 (.t 4) (.t 10), none⟩,
      ⟨some 5, .mov (.t 11), none⟩,
      ⟨some 6, .mov (.t 12), none⟩])
   (.seq (.seq (.reg none [⟨some 13, .mov (.t 6), none⟩,
        ⟨some 14, .bin .neq (.t 13) (.c (.v (.i .i64 0))), none⟩])
     (.cond (.t 14) (.seq (.reg none [⟨some 15, .build [(.v (.i .i64 0)), (.v (.s [])), (.v (.s [])), .sn] [], none⟩,
          ⟨some 16, .mov (.t 6), none⟩,
          ⟨none, .st 4 (.t 2) (.t 15), none⟩,
          ⟨some 3, .mov (.t 16), none⟩])
       (.ret))
      (.skip)))
    (.seq (.seq (.reg none [⟨some 17, .mov (.t 5), none⟩,
         ⟨some 18, .mov (.t 0), none⟩,
         ⟨some 19, .lenS (.t 18), none⟩,
         ⟨some 20, .bin .lss (.t 17) (.t 19), none⟩])
      (.cond (.t 20) (.seq (.reg none [⟨some 21, .build [(.v (.i .i64 0)), (.v (.s [])), (.v (.s [])), .sn] [], none⟩,
           ⟨none, .st 4 (.t 2) (.t 21), none⟩,
           ⟨some 3, .mov (.c (.v (.i .i64 4))), none⟩])
        (.ret))
       (.skip)))
     (.seq (.reg none [⟨some 22, .ld true 4 (.t 4), none⟩,
         ⟨none, .st 4 (.t 2) (.t 22), none⟩,
         ⟨some 3, .mov (.c (.v (.i .i64 0))), none⟩])
      (.ret)))))
def R14 : List SRes := [.c 2 true 4, .t 3]
/- domino/presentation.Context$1 -/
def S15 : SC :=
  .seq (.reg none [⟨some 2, .alloc 79 [(.v (.i .i64 0)), (.v (.s [])), (.v (.s [])), .sn], none⟩])
  (.seq (.reg none [⟨some 3, .mov (.t 0), none⟩,
      ⟨some 4, .call (.c (.v (.fn (.func 17)))) [(.t 3)], none⟩,
      ⟨some 5, .call (.c (.v (.fn (.func 16)))) [(.t 4)], none⟩,
      ⟨none, .st 4 (.t 2) (.t 5), none⟩])
   (.ret))
def R15 : List SRes := [.c 2 true 4]
/- domino/encoding.Int -/
def S16 : SC :=
  .seq (.reg none [⟨some 1, .box (.t 0), none⟩,
     ⟨some 2, .alloc 79 [(.v (.i .i64 0)), (.v (.s [])), (.v (.s [])), .sn], none⟩])
  (.seq (.reg none [⟨some 3, .mov (.c (.v (.s []))), none⟩])
   (.seq (.seq (.reg none [⟨some 4, .fad 0 (.t 1), none⟩,
        ⟨some 5, .ld false 1 (.t 4), none⟩])
     (.cond (.t 5) (.reg none [⟨some 6, .call (.c (.v (.fn (.func 35)))) [(.c (.v (.i .u64 1)))], none⟩,
         ⟨some 3, .mov (.t 6), none⟩])
      (.skip)))
    (.seq (.reg (some [0, 1, 0, 4, 15, 31, 63, 127]) [⟨some 7, .mov (.t 3), none⟩,
        ⟨some 8, .call (.c (.v (.fn (.func 20)))) [(.t 7)], none⟩,
        ⟨some 9, .fad 1 (.t 1), none⟩,
        ⟨some 10, .ld false 1 (.t 9), none⟩,
        ⟨some 11, .call (.c (.v (.fn (.func 20)))) [(.t 10)], none⟩,
        ⟨some 12, .bsl 4 [(.t 8), (.t 11)], none⟩,
        ⟨some 13, .call (.c (.v (.fn (.func 18)))) [(.t 12)], none⟩,
        ⟨none, .st 4 (.t 2) (.t 13), none⟩])
     (.ret))))
def R16 : List SRes := [.c 2 true 4]
/- domino/integer.Of -/
def S17 : SC :=
  .seq (.reg none [⟨some 2, .alloc 84 [(.v (.b false)), (.v (.s []))], none⟩])
  (.seq (.seq (.reg none [⟨some 3, .mov (.t 0), none⟩,
       ⟨some 4, .bin .lss (.t 3) (.c (.v (.i .i64 0))), none⟩])
    (.cond (.t 4) (.seq (.reg none [⟨some 5, .mov (.t 0), none⟩,
         ⟨some 6, .cvi .u64 (.t 5), none⟩,
         ⟨some 7, .un .neg (.t 6), none⟩,
         ⟨some 8, .call (.c (.v (.fn (.func 35)))) [(.t 7)], none⟩,
         ⟨some 9, .call (.c (.v (.fn (.func 36)))) [(.c (.v (.b true))), (.t 8)], none⟩,
         ⟨none, .st 2 (.t 2) (.t 9), none⟩])
      (.ret))
     (.skip)))
   (.seq (.reg none [⟨some 10, .mov (.t 0), none⟩,
       ⟨some 11, .cvi .u64 (.t 10), none⟩,
       ⟨some 12, .call (.c (.v (.fn (.func 35)))) [(.t 11)], none⟩,
       ⟨some 13, .call (.c (.v (.fn (.func 36)))) [(.c (.v (.b false))), (.t 12)], none⟩,
       ⟨none, .st 2 (.t 2) (.t 13), none⟩])
    (.ret)))
def R17 : List SRes := [.c 2 true 2]
/- domino/encoding.List -/
def S18 : SC :=
  .seq (.reg none [⟨some 2, .alloc 79 [(.v (.i .i64 0)), (.v (.s [])), (.v (.s [])), .sn], none⟩])
  (.seq (.reg none [⟨some 6, .build [(.v (.i .i64 0)), (.v (.s [])), (.v (.s [])), .sn] [(0, 1, (.c (.v (.i .i64 2))))], none⟩,
      ⟨some 3, .alloc 79 [(.v (.i .i64 0)), (.v (.s [])), (.v (.s [])), .sn], none⟩,
      ⟨none, .st 4 (.t 3) (.t 6), none⟩])
   (.seq (.seq (.reg none [⟨some 7, .mov (.t 0), none⟩,
        ⟨some 8, .len (.t 7), none⟩,
        ⟨some 9, .mov (.c (.v (.i .i64 0))), none⟩])
     (.blk 0 (.loop (.seq (.reg none [⟨some 10, .bin .lss (.t 9) (.t 8), none⟩])
        (.seq (.cond (.t 10) (.skip)
          (.exit 0))
         (.seq (.blk 1 (.seq (.reg none [⟨some 11, .ixs 4 (.t 7) (.t 9), none⟩,
               ⟨some 12, .ld true 4 (.t 11), none⟩,
               ⟨some 5, .alloc 79 [(.v (.i .i64 0)), (.v (.s [])), (.v (.s [])), .sn], none⟩,
               ⟨none, .st 4 (.t 5) (.t 12), none⟩])
            (.reg (some [0, 1, 0, 4, 12, 31, 63, 127]) [⟨some 13, .fad 3 (.t 3), none⟩,
               ⟨some 14, .ld false 1 (.t 13), none⟩,
               ⟨some 15, .ld true 4 (.t 5), none⟩,
               ⟨some 16, .call (.c (.v (.fn (.func 37)))) [(.t 15)], none⟩,
               ⟨some 17, .bsl 4 [(.t 16)], none⟩,
               ⟨some 18, .app 79 4 64 (.t 14) (.t 17), none⟩,
               ⟨some 19, .fad 3 (.t 3), none⟩,
               ⟨none, .st 1 (.t 19) (.t 18), none⟩])))
          (.reg none [⟨some 20, .bin .add (.t 9) (.c (.v (.i .i64 1))), none⟩,
             ⟨some 9, .mov (.t 20), none⟩])))))))
    (.seq (.reg none [⟨some 21, .ld true 4 (.t 3), none⟩,
        ⟨none, .st 4 (.t 2) (.t 21), none⟩])
     (.ret))))
def R18 : List SRes := [.c 2 true 4]
/- domino/encoding.Text -/
def S19 : SC :=
  .seq (.reg none [⟨some 2, .alloc 79 [(.v (.i .i64 0)), (.v (.s [])), (.v (.s [])), .sn], none⟩])
  (.seq (.reg none [⟨some 3, .mov (.t 0), none⟩,
      ⟨some 4, .build [(.v (.i .i64 0)), (.v (.s [])), (.v (.s [])), .sn] [(0, 1, (.c (.v (.i .i64 1)))), (2, 1, (.t 3))], none⟩,
      ⟨none, .st 4 (.t 2) (.t 4), none⟩])
   (.ret))
def R19 : List SRes := [.c 2 true 4]
/- domino/encoding.Nat -/
def S20 : SC :=
  .seq (.reg none [⟨some 2, .alloc 79 [(.v (.i .i64 0)), (.v (.s [])), (.v (.s [])), .sn], none⟩])
  (.seq (.reg none [⟨some 3, .mov (.t 0), none⟩,
      ⟨some 4, .build [(.v (.i .i64 0)), (.v (.s [])), (.v (.s [])), .sn] [(0, 1, (.c (.v (.i .i64 0)))), (1, 1, (.t 3))], none⟩,
      ⟨none, .st 4 (.t 2) (.t 4), none⟩])
   (.ret))
def R20 : List SRes := [.c 2 true 4]
/- domino/presentation.nats -/
def S21 : SC :=
  .seq (.reg none [⟨some 2, .alloc 79 [(.v (.i .i64 0)), (.v (.s [])), (.v (.s [])), .sn], none⟩])
  (.seq (.reg none [⟨some 3, .mov (.c .sn), none⟩])
   (.seq (.seq (.reg none [⟨some 6, .mov (.t 0), none⟩,
        ⟨some 7, .len (.t 6), none⟩,
        ⟨some 8, .mov (.c (.v (.i .i64 0))), none⟩])
     (.blk 0 (.loop (.seq (.reg none [⟨some 9, .bin .lss (.t 8) (.t 7), none⟩])
        (.seq (.cond (.t 9) (.skip)
          (.exit 0))
         (.seq (.blk 1 (.seq (.reg none [⟨some 10, .ixs 1 (.t 6) (.t 8), none⟩,
               ⟨some 11, .ld false 1 (.t 10), none⟩,
               ⟨some 5, .mov (.t 11), none⟩])
            (.reg none [⟨some 12, .mov (.t 3), none⟩,
               ⟨some 13, .mov (.t 5), none⟩,
               ⟨some 14, .call (.c (.v (.fn (.func 20)))) [(.t 13)], none⟩,
               ⟨some 15, .bsl 4 [(.t 14)], none⟩,
               ⟨some 16, .app 79 4 64 (.t 12) (.t 15), none⟩,
               ⟨some 3, .mov (.t 16), none⟩])))
          (.reg none [⟨some 17, .bin .add (.t 8) (.c (.v (.i .i64 1))), none⟩,
             ⟨some 8, .mov (.t 17), none⟩])))))))
    (.seq (.reg none [⟨some 18, .mov (.t 3), none⟩,
        ⟨some 19, .call (.c (.v (.fn (.func 18)))) [(.t 18)], none⟩,
        ⟨none, .st 4 (.t 2) (.t 19), none⟩])
     (.ret))))
def R21 : List SRes := [.c 2 true 4]
/- domino/encoding.Encode -/
def S22 : SC :=
  .seq (.reg none [⟨some 1, .box (.t 0), none⟩,
     ⟨some 2, .mov (.c (.v (.s []))), none⟩,
     ⟨some 3, .mov (.c (.v (.i .i64 0))), none⟩])
  (.seq (.seq (.reg none [⟨some 5, .ld true 4 (.t 1), none⟩,
       ⟨some 6, .call (.c (.v (.fn (.func 38)))) [(.t 5)], none⟩,
       ⟨some 7, .un .not (.t 6), none⟩])
    (.cond (.t 7) (.seq (.reg none [⟨some 2, .mov (.c (.v (.s []))), none⟩,
         ⟨some 3, .mov (.c (.v (.i .i64 3))), none⟩])
      (.ret))
     (.skip)))
   (.seq (.seq (.reg none [⟨some 8, .ld true 4 (.t 1), none⟩,
        ⟨some 9, .call (.c (.v (.fn (.func 39)))) [(.t 8)], none⟩,
        ⟨some 10, .bin .gtr (.t 9) (.c (.v (.i .i64 32))), none⟩])
     (.cond (.t 10) (.seq (.reg none [⟨some 2, .mov (.c (.v (.s []))), none⟩,
          ⟨some 3, .mov (.c (.v (.i .i64 7))), none⟩])
       (.ret))
      (.skip)))
    (.seq (.reg none [⟨some 11, .ld true 4 (.t 1), none⟩,
        ⟨some 12, .call (.c (.v (.fn (.func 40)))) [(.t 11)], none⟩,
        ⟨some 4, .mov (.t 12), none⟩])
     (.seq (.seq (.reg none [⟨some 13, .mov (.t 4), none⟩,
          ⟨some 14, .lenS (.t 13), none⟩,
          ⟨some 15, .bin .gtr (.t 14) (.c (.v (.i .i64 65536))), none⟩])
       (.cond (.t 15) (.seq (.reg none [⟨some 2, .mov (.c (.v (.s []))), none⟩,
            ⟨some 3, .mov (.c (.v (.i .i64 5))), none⟩])
         (.ret))
        (.skip)))
      (.seq (.reg none [⟨some 16, .mov (.t 4), none⟩,
          ⟨some 2, .mov (.t 16), none⟩,
          ⟨some 3, .mov (.c (.v (.i .i64 0))), none⟩])
       (.ret))))))
def R22 : List SRes := [.t 2, .t 3]
/- domino/presentation.lists -/
def S23 : SC :=
  .seq (.reg none [⟨some 2, .alloc 79 [(.v (.i .i64 0)), (.v (.s [])), (.v (.s [])), .sn], none⟩])
  (.seq (.reg none [⟨some 3, .mov (.c .sn), none⟩])
   (.seq (.seq (.reg none [⟨some 6, .mov (.t 0), none⟩,
        ⟨some 7, .len (.t 6), none⟩,
        ⟨some 8, .mov (.c (.v (.i .i64 0))), none⟩])
     (.blk 0 (.loop (.seq (.reg none [⟨some 9, .bin .lss (.t 8) (.t 7), none⟩])
        (.seq (.cond (.t 9) (.skip)
          (.exit 0))
         (.seq (.blk 1 (.seq (.reg none [⟨some 10, .ixs 1 (.t 6) (.t 8), none⟩,
               ⟨some 11, .ld false 1 (.t 10), none⟩,
               ⟨some 5, .mov (.t 11), none⟩])
            (.reg none [⟨some 12, .mov (.t 3), none⟩,
               ⟨some 13, .mov (.t 5), none⟩,
               ⟨some 14, .call (.c (.v (.fn (.func 21)))) [(.t 13)], none⟩,
               ⟨some 15, .bsl 4 [(.t 14)], none⟩,
               ⟨some 16, .app 79 4 64 (.t 12) (.t 15), none⟩,
               ⟨some 3, .mov (.t 16), none⟩])))
          (.reg none [⟨some 17, .bin .add (.t 8) (.c (.v (.i .i64 1))), none⟩,
             ⟨some 8, .mov (.t 17), none⟩])))))))
    (.seq (.reg none [⟨some 18, .mov (.t 3), none⟩,
        ⟨some 19, .call (.c (.v (.fn (.func 18)))) [(.t 18)], none⟩,
        ⟨none, .st 4 (.t 2) (.t 19), none⟩])
     (.ret))))
def R23 : List SRes := [.c 2 true 4]
/- domino/dominoref08.List -/
def S24 : SC :=
  .seq (.reg none [⟨some 2, .alloc 79 [(.v (.i .i64 0)), (.v (.s [])), (.v (.s [])), .sn], none⟩])
  (.seq (.reg none [⟨some 3, .mov (.c .sn), none⟩])
   (.seq (.reg none [⟨some 4, .mov (.t 3), none⟩,
       ⟨some 5, .mov (.t 0), none⟩,
       ⟨some 6, .app 79 4 64 (.t 4) (.t 5), none⟩,
       ⟨some 7, .build [(.v (.i .i64 0)), (.v (.s [])), (.v (.s [])), .sn] [(0, 1, (.c (.v (.i .i64 2)))), (3, 1, (.t 6))], none⟩,
       ⟨none, .st 4 (.t 2) (.t 7), none⟩])
    (.ret)))
def R24 : List SRes := [.c 2 true 4]
/- domino/dominoref08.Text -/
def S25 : SC :=
  .seq (.reg none [⟨some 2, .alloc 79 [(.v (.i .i64 0)), (.v (.s [])), (.v (.s [])), .sn], none⟩])
  (.seq (.reg none [⟨some 3, .mov (.t 0), none⟩,
      ⟨some 4, .build [(.v (.i .i64 0)), (.v (.s [])), (.v (.s [])), .sn] [(0, 1, (.c (.v (.i .i64 1)))), (2, 1, (.t 3))], none⟩,
      ⟨none, .st 4 (.t 2) (.t 4), none⟩])
   (.ret))
def R25 : List SRes := [.c 2 true 4]
/- domino/dominoref52.integer -/
def S26 : SC :=
  .seq (.reg none [⟨some 2, .alloc 79 [(.v (.i .i64 0)), (.v (.s [])), (.v (.s [])), .sn], none⟩])
  (.seq (.reg none [⟨some 3, .mov (.t 0), none⟩,
      ⟨some 4, .call (.c (.v (.fn (.func 42)))) [(.t 3)], none⟩,
      ⟨some 5, .call (.c (.v (.fn (.func 41)))) [(.t 4)], none⟩,
      ⟨none, .st 4 (.t 2) (.t 5), none⟩])
   (.ret))
def R26 : List SRes := [.c 2 true 4]
/- domino/dominoref08.Nat -/
def S27 : SC :=
  .seq (.reg none [⟨some 2, .alloc 79 [(.v (.i .i64 0)), (.v (.s [])), (.v (.s [])), .sn], none⟩])
  (.seq (.reg none [⟨some 3, .mov (.t 0), none⟩,
      ⟨some 4, .build [(.v (.i .i64 0)), (.v (.s [])), (.v (.s [])), .sn] [(0, 1, (.c (.v (.i .i64 0)))), (1, 1, (.t 3))], none⟩,
      ⟨none, .st 4 (.t 2) (.t 4), none⟩])
   (.ret))
def R27 : List SRes := [.c 2 true 4]
/- domino/dominoref52.nats -/
def S28 : SC :=
  .seq (.reg none [⟨some 2, .alloc 79 [(.v (.i .i64 0)), (.v (.s [])), (.v (.s [])), .sn], none⟩])
  (.seq (.reg none [⟨some 3, .mov (.c .sn), none⟩])
   (.seq (.seq (.reg none [⟨some 4, .mov (.c (.v (.i .i64 0))), none⟩])
     (.blk 0 (.loop (.seq (.seq (.reg none [⟨some 5, .mov (.t 4), none⟩,
            ⟨some 6, .mov (.t 0), none⟩,
            ⟨some 7, .len (.t 6), none⟩,
            ⟨some 8, .bin .lss (.t 5) (.t 7), none⟩])
         (.cond (.t 8) (.skip)
          (.exit 0)))
        (.seq (.blk 1 (.reg none [⟨some 11, .mov (.t 3), none⟩,
             ⟨some 12, .mov (.t 0), none⟩,
             ⟨some 13, .mov (.t 4), none⟩,
             ⟨some 14, .ixs 1 (.t 12) (.t 13), none⟩,
             ⟨some 15, .ld false 1 (.t 14), none⟩,
             ⟨some 16, .call (.c (.v (.fn (.func 27)))) [(.t 15)], none⟩,
             ⟨some 17, .bsl 4 [(.t 16)], none⟩,
             ⟨some 18, .app 79 4 64 (.t 11) (.t 17), none⟩,
             ⟨some 3, .mov (.t 18), none⟩]))
         (.reg none [⟨some 9, .mov (.t 4), none⟩,
            ⟨some 10, .bin .add (.t 9) (.c (.v (.i .i64 1))), none⟩,
            ⟨some 4, .mov (.t 10), none⟩]))))))
    (.seq (.reg none [⟨some 19, .mov (.t 3), none⟩,
        ⟨some 20, .call (.c (.v (.fn (.func 24)))) [(.t 19)], none⟩,
        ⟨none, .st 4 (.t 2) (.t 20), none⟩])
     (.ret))))
def R28 : List SRes := [.c 2 true 4]
/- domino/dominoref08.Encode -/
def S29 : SC :=
  .seq (.reg none [⟨some 1, .box (.t 0), none⟩,
     ⟨some 2, .mov (.c (.v (.s []))), none⟩,
     ⟨some 3, .mov (.c (.v (.i .i64 0))), none⟩])
  (.seq (.seq (.reg none [⟨some 5, .ld true 4 (.t 1), none⟩,
       ⟨some 6, .call (.c (.v (.fn (.func 43)))) [(.t 5)], none⟩,
       ⟨some 7, .un .not (.t 6), none⟩])
    (.cond (.t 7) (.seq (.reg none [⟨some 2, .mov (.c (.v (.s []))), none⟩,
         ⟨some 3, .mov (.c (.v (.i .i64 3))), none⟩])
      (.ret))
     (.skip)))
   (.seq (.seq (.reg none [⟨some 8, .ld true 4 (.t 1), none⟩,
        ⟨some 9, .call (.c (.v (.fn (.func 44)))) [(.t 8)], none⟩,
        ⟨some 10, .bin .gtr (.t 9) (.c (.v (.i .i64 32))), none⟩])
     (.cond (.t 10) (.seq (.reg none [⟨some 2, .mov (.c (.v (.s []))), none⟩,
          ⟨some 3, .mov (.c (.v (.i .i64 7))), none⟩])
       (.ret))
      (.skip)))
    (.seq (.reg none [⟨some 11, .ld true 4 (.t 1), none⟩,
        ⟨some 12, .call (.c (.v (.fn (.func 45)))) [(.t 11)], none⟩,
        ⟨some 4, .mov (.t 12), none⟩])
     (.seq (.seq (.reg none [⟨some 13, .mov (.t 4), none⟩,
          ⟨some 14, .lenS (.t 13), none⟩,
          ⟨some 15, .bin .gtr (.t 14) (.c (.v (.i .i64 65536))), none⟩])
       (.cond (.t 15) (.seq (.reg none [⟨some 2, .mov (.c (.v (.s []))), none⟩,
            ⟨some 3, .mov (.c (.v (.i .i64 5))), none⟩])
         (.ret))
        (.skip)))
      (.seq (.reg none [⟨some 16, .mov (.t 4), none⟩,
          ⟨some 2, .mov (.t 16), none⟩,
          ⟨some 3, .mov (.c (.v (.i .i64 0))), none⟩])
       (.ret))))))
def R29 : List SRes := [.t 2, .t 3]
/- domino/dominoref52.lists -/
def S30 : SC :=
  .seq (.reg none [⟨some 2, .alloc 79 [(.v (.i .i64 0)), (.v (.s [])), (.v (.s [])), .sn], none⟩])
  (.seq (.reg none [⟨some 3, .mov (.c .sn), none⟩])
   (.seq (.seq (.reg none [⟨some 4, .mov (.c (.v (.i .i64 0))), none⟩])
     (.blk 0 (.loop (.seq (.seq (.reg none [⟨some 5, .mov (.t 4), none⟩,
            ⟨some 6, .mov (.t 0), none⟩,
            ⟨some 7, .len (.t 6), none⟩,
            ⟨some 8, .bin .lss (.t 5) (.t 7), none⟩])
         (.cond (.t 8) (.skip)
          (.exit 0)))
        (.seq (.blk 1 (.reg none [⟨some 11, .mov (.t 3), none⟩,
             ⟨some 12, .mov (.t 0), none⟩,
             ⟨some 13, .mov (.t 4), none⟩,
             ⟨some 14, .ixs 1 (.t 12) (.t 13), none⟩,
             ⟨some 15, .ld false 1 (.t 14), none⟩,
             ⟨some 16, .call (.c (.v (.fn (.func 28)))) [(.t 15)], none⟩,
             ⟨some 17, .bsl 4 [(.t 16)], none⟩,
             ⟨some 18, .app 79 4 64 (.t 11) (.t 17), none⟩,
             ⟨some 3, .mov (.t 18), none⟩]))
         (.reg none [⟨some 9, .mov (.t 4), none⟩,
            ⟨some 10, .bin .add (.t 9) (.c (.v (.i .i64 1))), none⟩,
            ⟨some 4, .mov (.t 10), none⟩]))))))
    (.seq (.reg none [⟨some 19, .mov (.t 3), none⟩,
        ⟨some 20, .call (.c (.v (.fn (.func 24)))) [(.t 19)], none⟩,
        ⟨none, .st 4 (.t 2) (.t 20), none⟩])
     (.ret))))
def R30 : List SRes := [.c 2 true 4]
/- slices.ContainsFunc[[]domino/api.Nat,domino/api.Nat] -/
def S31 : SC :=
  .seq (.reg none [⟨some 4, .mov (.c (.v (.b false))), none⟩])
  (.seq (.reg none [⟨some 5, .mov (.t 0), none⟩,
      ⟨some 6, .mov (.t 1), none⟩,
      ⟨some 7, .call (.c (.v (.fn (.func 46)))) [(.t 5), (.t 6)], none⟩,
      ⟨some 8, .bin .geq (.t 7) (.c (.v (.i .i64 0))), none⟩,
      ⟨some 4, .mov (.t 8), none⟩])
   (.ret))
def R31 : List SRes := [.t 4]
/- domino/dominolaw52.long$1 -/
def S32 : SC :=
  .seq (.reg none [⟨some 2, .mov (.c (.v (.b false))), none⟩])
  (.seq (.reg none [⟨some 3, .mov (.t 0), none⟩,
      ⟨some 4, .lenS (.t 3), none⟩,
      ⟨some 5, .bin .gtr (.t 4) (.c (.v (.i .i64 8))), none⟩,
      ⟨some 2, .mov (.t 5), none⟩])
   (.ret))
def R32 : List SRes := [.t 2]
/- slices.IndexFunc[[]domino/api.Field,domino/api.Field] -/
def S33 : SC :=
  .seq (.reg none [⟨some 4, .mov (.c (.v (.i .i64 0))), none⟩])
  (.seq (.seq (.reg none [⟨some 6, .mov (.t 0), none⟩,
       ⟨some 7, .len (.t 6), none⟩,
       ⟨some 8, .mov (.c (.v (.i .i64 0))), none⟩])
    (.blk 0 (.loop (.seq (.reg none [⟨some 9, .bin .lss (.t 8) (.t 7), none⟩])
       (.seq (.cond (.t 9) (.skip)
         (.exit 0))
        (.seq (.blk 1 (.seq (.reg none [⟨some 10, .mov (.t 8), none⟩,
              ⟨some 5, .mov (.t 10), none⟩])
           (.seq (.reg none [⟨some 11, .mov (.t 1), none⟩,
               ⟨some 12, .mov (.t 0), none⟩,
               ⟨some 13, .mov (.t 5), none⟩,
               ⟨some 14, .ixs 5 (.t 12) (.t 13), none⟩,
               ⟨some 15, .ld true 5 (.t 14), none⟩,
               ⟨some 16, .call (.t 11) [(.t 15)], none⟩])
            (.cond (.t 16) (.seq (.reg none [⟨some 17, .mov (.t 5), none⟩,
                 ⟨some 4, .mov (.t 17), none⟩])
              (.ret))
             (.skip)))))
         (.reg none [⟨some 18, .bin .add (.t 8) (.c (.v (.i .i64 1))), none⟩,
            ⟨some 8, .mov (.t 18), none⟩])))))))
   (.seq (.reg none [⟨some 4, .mov (.c (.v (.i .i64 (-1)))), none⟩])
    (.ret)))
def R33 : List SRes := [.t 4]
/- domino/natural.Of -/
def S35 : SC :=
  .seq (.reg none [⟨some 2, .mov (.c (.v (.s []))), none⟩])
  (.seq (.reg none [⟨some 3, .alloc 113 [(.v (.i .u8 0)), (.v (.i .u8 0)), (.v (.i .u8 0)), (.v (.i .u8 0)), (.v (.i .u8 0)), (.v (.i .u8 0)), (.v (.i .u8 0)), (.v (.i .u8 0))], none⟩])
   (.seq (.seq (.reg none [⟨some 5, .mov (.c (.v (.i .i64 0))), none⟩])
     (.blk 0 (.loop (.seq (.reg none [⟨some 6, .bin .lss (.t 5) (.c (.v (.i .i64 8))), none⟩])
        (.seq (.cond (.t 6) (.skip)
          (.exit 0))
         (.seq (.blk 1 (.seq (.reg none [⟨some 7, .mov (.t 5), none⟩,
               ⟨some 4, .mov (.t 7), none⟩])
            (.reg none [⟨some 8, .mov (.t 4), none⟩,
               ⟨some 9, .bin .sub (.c (.v (.i .i64 7))) (.t 8), none⟩,
               ⟨some 10, .mov (.t 0), none⟩,
               ⟨some 11, .mov (.t 4), none⟩,
               ⟨some 12, .bin .mul (.c (.v (.i .i64 8))) (.t 11), none⟩,
               ⟨some 13, .bin .shr (.t 10) (.t 12), none⟩,
               ⟨some 14, .cvi .u8 (.t 13), none⟩,
               ⟨some 15, .ixa 8 1 (.t 3) (.t 9), none⟩,
               ⟨none, .st 1 (.t 15) (.t 14), none⟩])))
          (.reg none [⟨some 16, .bin .add (.t 5) (.c (.v (.i .i64 1))), none⟩,
             ⟨some 5, .mov (.t 16), none⟩])))))))
    (.seq (.reg none [⟨some 17, .slA 8 1 (.t 3) none none none, none⟩,
        ⟨some 18, .call (.c (.v (.fn (.func 49)))) [(.t 17)], none⟩,
        ⟨some 2, .mov (.t 18), none⟩])
     (.ret))))
def R35 : List SRes := [.t 2]
/- domino/integer.made -/
def S36 : SC :=
  .seq (.reg none [⟨some 4, .alloc 84 [(.v (.b false)), (.v (.s []))], none⟩])
  (.seq (.reg none [⟨some 5, .mov (.t 0), none⟩,
      ⟨some 6, .mov (.t 5), none⟩,
      ⟨some 7, .mov (.t 1), some (6, true)⟩,
      ⟨some 8, .bin .neq (.t 7) (.c (.v (.s []))), some (6, true)⟩,
      ⟨some 9, .pick (.t 6) (.t 8) (.c (.v (.b false))), none⟩,
      ⟨some 10, .mov (.t 1), none⟩,
      ⟨some 11, .build [(.v (.b false)), (.v (.s []))] [(0, 1, (.t 9)), (1, 1, (.t 10))], none⟩,
      ⟨none, .st 2 (.t 4) (.t 11), none⟩])
   (.ret))
def R36 : List SRes := [.c 4 true 2]
/- domino/encoding.copied -/
def S37 : SC :=
  .seq (.reg none [⟨some 1, .box (.t 0), none⟩,
     ⟨some 2, .alloc 79 [(.v (.i .i64 0)), (.v (.s [])), (.v (.s [])), .sn], none⟩])
  (.seq (.reg none [⟨some 6, .fad 0 (.t 1), none⟩,
      ⟨some 7, .ld false 1 (.t 6), none⟩,
      ⟨some 8, .fad 1 (.t 1), none⟩,
      ⟨some 9, .ld false 1 (.t 8), none⟩,
      ⟨some 10, .fad 2 (.t 1), none⟩,
      ⟨some 11, .ld false 1 (.t 10), none⟩,
      ⟨some 12, .build [(.v (.i .i64 0)), (.v (.s [])), (.v (.s [])), .sn] [(0, 1, (.t 7)), (1, 1, (.t 9)), (2, 1, (.t 11))], none⟩,
      ⟨some 3, .alloc 79 [(.v (.i .i64 0)), (.v (.s [])), (.v (.s [])), .sn], none⟩,
      ⟨none, .st 4 (.t 3) (.t 12), none⟩])
   (.seq (.seq (.reg none [⟨some 13, .fad 3 (.t 1), none⟩,
        ⟨some 14, .ld false 1 (.t 13), none⟩,
        ⟨some 15, .len (.t 14), none⟩,
        ⟨some 16, .mov (.c (.v (.i .i64 0))), none⟩])
     (.blk 0 (.loop (.seq (.reg none [⟨some 17, .bin .lss (.t 16) (.t 15), none⟩])
        (.seq (.cond (.t 17) (.skip)
          (.exit 0))
         (.seq (.blk 1 (.seq (.reg none [⟨some 18, .ixs 4 (.t 14) (.t 16), none⟩,
               ⟨some 19, .ld true 4 (.t 18), none⟩,
               ⟨some 5, .alloc 79 [(.v (.i .i64 0)), (.v (.s [])), (.v (.s [])), .sn], none⟩,
               ⟨none, .st 4 (.t 5) (.t 19), none⟩])
            (.reg (some [0, 1, 0, 4, 12, 31, 63, 127]) [⟨some 20, .fad 3 (.t 3), none⟩,
               ⟨some 21, .ld false 1 (.t 20), none⟩,
               ⟨some 22, .ld true 4 (.t 5), none⟩,
               ⟨some 23, .call (.c (.v (.fn (.func 37)))) [(.t 22)], none⟩,
               ⟨some 24, .bsl 4 [(.t 23)], none⟩,
               ⟨some 25, .app 79 4 64 (.t 21) (.t 24), none⟩,
               ⟨some 26, .fad 3 (.t 3), none⟩,
               ⟨none, .st 1 (.t 26) (.t 25), none⟩])))
          (.reg none [⟨some 27, .bin .add (.t 16) (.c (.v (.i .i64 1))), none⟩,
             ⟨some 16, .mov (.t 27), none⟩])))))))
    (.seq (.reg none [⟨some 28, .ld true 4 (.t 3), none⟩,
        ⟨none, .st 4 (.t 2) (.t 28), none⟩])
     (.ret))))
def R37 : List SRes := [.c 2 true 4]
/- domino/encoding.valid -/
def S38 : SC :=
  .seq (.reg none [⟨some 1, .box (.t 0), none⟩,
     ⟨some 2, .mov (.c (.v (.b false))), none⟩])
  (.seq (.seq (.reg none [⟨some 5, .fad 0 (.t 1), none⟩,
       ⟨some 6, .ld false 1 (.t 5), none⟩])
    (.blk 0 (.seq (.reg none [⟨some 8, .bin .eql (.t 6) (.c (.v (.i .i64 0))), none⟩,
         ⟨some 7, .mov (.t 8), none⟩])
      (.cond (.t 7) (.seq (.reg none [⟨some 9, .fad 1 (.t 1), none⟩,
           ⟨some 10, .ld false 1 (.t 9), none⟩,
           ⟨some 11, .call (.c (.v (.fn (.func 50)))) [(.t 10)], none⟩,
           ⟨some 12, .mov (.t 11), none⟩,
           ⟨some 13, .fad 2 (.t 1), some (12, true)⟩,
           ⟨some 14, .ld false 1 (.t 13), some (12, true)⟩,
           ⟨some 15, .bin .eql (.t 14) (.c (.v (.s []))), some (12, true)⟩,
           ⟨some 16, .pick (.t 12) (.t 15) (.c (.v (.b false))), none⟩,
           ⟨some 17, .mov (.t 16), none⟩,
           ⟨some 18, .fad 3 (.t 1), some (17, true)⟩,
           ⟨some 19, .ld false 1 (.t 18), some (17, true)⟩,
           ⟨some 20, .len (.t 19), some (17, true)⟩,
           ⟨some 21, .bin .eql (.t 20) (.c (.v (.i .i64 0))), some (17, true)⟩,
           ⟨some 22, .pick (.t 17) (.t 21) (.c (.v (.b false))), none⟩,
           ⟨some 2, .mov (.t 22), none⟩])
        (.ret))
       (.seq (.reg none [⟨some 24, .bin .eql (.t 6) (.c (.v (.i .i64 1))), none⟩,
           ⟨some 23, .mov (.t 24), none⟩])
        (.cond (.t 23) (.seq (.reg none [⟨some 25, .fad 1 (.t 1), none⟩,
             ⟨some 26, .ld false 1 (.t 25), none⟩,
             ⟨some 27, .bin .eql (.t 26) (.c (.v (.s []))), none⟩,
             ⟨some 28, .mov (.t 27), none⟩,
             ⟨some 29, .fad 3 (.t 1), some (28, true)⟩,
             ⟨some 30, .ld false 1 (.t 29), some (28, true)⟩,
             ⟨some 31, .len (.t 30), some (28, true)⟩,
             ⟨some 32, .bin .eql (.t 31) (.c (.v (.i .i64 0))), some (28, true)⟩,
             ⟨some 33, .pick (.t 28) (.t 32) (.c (.v (.b false))), none⟩,
             ⟨some 2, .mov (.t 33), none⟩])
          (.ret))
         (.seq (.reg none [⟨some 35, .bin .eql (.t 6) (.c (.v (.i .i64 2))), none⟩,
             ⟨some 34, .mov (.t 35), none⟩])
          (.cond (.t 34) (.seq (.seq (.reg none [⟨some 36, .fad 3 (.t 1), none⟩,
                ⟨some 37, .ld false 1 (.t 36), none⟩,
                ⟨some 38, .len (.t 37), none⟩,
                ⟨some 39, .mov (.c (.v (.i .i64 0))), none⟩])
             (.blk 1 (.loop (.seq (.reg none [⟨some 40, .bin .lss (.t 39) (.t 38), none⟩])
                (.seq (.cond (.t 40) (.skip)
                  (.exit 1))
                 (.seq (.blk 2 (.seq (.reg none [⟨some 41, .ixs 4 (.t 37) (.t 39), none⟩,
                       ⟨some 42, .ld true 4 (.t 41), none⟩,
                       ⟨some 4, .alloc 79 [(.v (.i .i64 0)), (.v (.s [])), (.v (.s [])), .sn], none⟩,
                       ⟨none, .st 4 (.t 4) (.t 42), none⟩])
                    (.seq (.reg none [⟨some 43, .ld true 4 (.t 4), none⟩,
                        ⟨some 44, .call (.c (.v (.fn (.func 38)))) [(.t 43)], none⟩,
                        ⟨some 45, .un .not (.t 44), none⟩])
                     (.cond (.t 45) (.seq (.reg none [⟨some 2, .mov (.c (.v (.b false))), none⟩])
                       (.ret))
                      (.skip)))))
                  (.reg none [⟨some 46, .bin .add (.t 39) (.c (.v (.i .i64 1))), none⟩,
                     ⟨some 39, .mov (.t 46), none⟩])))))))
            (.seq (.reg none [⟨some 47, .fad 1 (.t 1), none⟩,
                ⟨some 48, .ld false 1 (.t 47), none⟩,
                ⟨some 49, .bin .eql (.t 48) (.c (.v (.s []))), none⟩,
                ⟨some 50, .mov (.t 49), none⟩,
                ⟨some 51, .fad 2 (.t 1), some (50, true)⟩,
                ⟨some 52, .ld false 1 (.t 51), some (50, true)⟩,
                ⟨some 53, .bin .eql (.t 52) (.c (.v (.s []))), some (50, true)⟩,
                ⟨some 54, .pick (.t 50) (.t 53) (.c (.v (.b false))), none⟩,
                ⟨some 2, .mov (.t 54), none⟩])
             (.ret)))
           (.skip)))))))))
   (.seq (.reg none [⟨some 2, .mov (.c (.v (.b false))), none⟩])
    (.ret)))
def R38 : List SRes := [.t 2]
/- domino/encoding.depth -/
def S39 : SC :=
  .seq (.reg none [⟨some 1, .box (.t 0), none⟩,
     ⟨some 2, .mov (.c (.v (.i .i64 0))), none⟩])
  (.seq (.seq (.reg none [⟨some 6, .fad 0 (.t 1), none⟩,
       ⟨some 7, .ld false 1 (.t 6), none⟩,
       ⟨some 8, .bin .neq (.t 7) (.c (.v (.i .i64 2))), none⟩])
    (.cond (.t 8) (.seq (.reg none [⟨some 2, .mov (.c (.v (.i .i64 0))), none⟩])
      (.ret))
     (.skip)))
   (.seq (.reg none [⟨some 3, .mov (.c (.v (.i .i64 0))), none⟩])
    (.seq (.seq (.reg none [⟨some 9, .fad 3 (.t 1), none⟩,
         ⟨some 10, .ld false 1 (.t 9), none⟩,
         ⟨some 11, .len (.t 10), none⟩,
         ⟨some 12, .mov (.c (.v (.i .i64 0))), none⟩])
      (.blk 0 (.loop (.seq (.reg none [⟨some 13, .bin .lss (.t 12) (.t 11), none⟩])
         (.seq (.cond (.t 13) (.skip)
           (.exit 0))
          (.seq (.blk 1 (.seq (.reg none [⟨some 14, .ixs 4 (.t 10) (.t 12), none⟩,
                ⟨some 15, .ld true 4 (.t 14), none⟩,
                ⟨some 5, .alloc 79 [(.v (.i .i64 0)), (.v (.s [])), (.v (.s [])), .sn], none⟩,
                ⟨none, .st 4 (.t 5) (.t 15), none⟩])
             (.reg none [⟨some 16, .mov (.t 3), none⟩,
                ⟨some 17, .ld true 4 (.t 5), none⟩,
                ⟨some 18, .call (.c (.v (.fn (.func 39)))) [(.t 17)], none⟩,
                ⟨some 19, .mm true (.t 16) (.t 18), none⟩,
                ⟨some 3, .mov (.t 19), none⟩])))
           (.reg none [⟨some 20, .bin .add (.t 12) (.c (.v (.i .i64 1))), none⟩,
              ⟨some 12, .mov (.t 20), none⟩])))))))
     (.seq (.reg none [⟨some 21, .mov (.t 3), none⟩,
         ⟨some 22, .bin .add (.t 21) (.c (.v (.i .i64 1))), none⟩,
         ⟨some 2, .mov (.t 22), none⟩])
      (.ret)))))
def R39 : List SRes := [.t 2]
/- domino/encoding.write -/
def S40 : SC :=
  .seq (.reg none [⟨some 1, .box (.t 0), none⟩,
     ⟨some 2, .mov (.c (.v (.s []))), none⟩])
  (.seq (.reg none [⟨some 3, .alloc 118 [(.v .p0), .sn], none⟩])
   (.seq (.reg none [⟨some 6, .fad 1 (.t 1), none⟩,
       ⟨some 7, .ld false 1 (.t 6), none⟩,
       ⟨some 8, .call (.c (.v (.fn (.func 51)))) [(.t 3), (.t 7)], none⟩])
    (.seq (.reg none [⟨some 9, .fad 2 (.t 1), none⟩,
        ⟨some 10, .ld false 1 (.t 9), none⟩,
        ⟨some 11, .call (.c (.v (.fn (.func 51)))) [(.t 3), (.t 10)], none⟩])
     (.seq (.seq (.reg none [⟨some 12, .fad 3 (.t 1), none⟩,
          ⟨some 13, .ld false 1 (.t 12), none⟩,
          ⟨some 14, .len (.t 13), none⟩,
          ⟨some 15, .mov (.c (.v (.i .i64 0))), none⟩])
       (.blk 0 (.loop (.seq (.reg none [⟨some 16, .bin .lss (.t 15) (.t 14), none⟩])
          (.seq (.cond (.t 16) (.skip)
            (.exit 0))
           (.seq (.blk 1 (.seq (.reg none [⟨some 17, .ixs 4 (.t 13) (.t 15), none⟩,
                 ⟨some 18, .ld true 4 (.t 17), none⟩,
                 ⟨some 5, .alloc 79 [(.v (.i .i64 0)), (.v (.s [])), (.v (.s [])), .sn], none⟩,
                 ⟨none, .st 4 (.t 5) (.t 18), none⟩])
              (.reg none [⟨some 19, .ld true 4 (.t 5), none⟩,
                 ⟨some 20, .call (.c (.v (.fn (.func 40)))) [(.t 19)], none⟩,
                 ⟨some 21, .call (.c (.v (.fn (.func 51)))) [(.t 3), (.t 20)], none⟩])))
            (.reg none [⟨some 22, .bin .add (.t 15) (.c (.v (.i .i64 1))), none⟩,
               ⟨some 15, .mov (.t 22), none⟩])))))))
      (.seq (.reg (some [0, 1, 3, 7, 15, 0, 32, 127, 96, 511, 1023]) [⟨some 23, .fad 0 (.t 1), none⟩,
          ⟨some 24, .ld false 1 (.t 23), none⟩,
          ⟨some 25, .cvi .u8 (.t 24), none⟩,
          ⟨some 26, .bsl 1 [(.t 25)], none⟩,
          ⟨some 27, .b2s (.t 26), none⟩,
          ⟨some 28, .call (.c (.v (.fn (.func 53)))) [(.t 3)], none⟩,
          ⟨some 29, .call (.c (.v (.fn (.func 52)))) [(.t 28)], none⟩,
          ⟨some 30, .bin .add (.t 27) (.t 29), none⟩,
          ⟨some 31, .call (.c (.v (.fn (.func 54)))) [(.t 3)], none⟩,
          ⟨some 32, .bin .add (.t 30) (.t 31), none⟩,
          ⟨some 2, .mov (.t 32), none⟩])
       (.ret))))))
def R40 : List SRes := [.t 2]
/- domino/dominoref08.Int -/
def S41 : SC :=
  .seq (.reg none [⟨some 1, .box (.t 0), none⟩,
     ⟨some 2, .alloc 79 [(.v (.i .i64 0)), (.v (.s [])), (.v (.s [])), .sn], none⟩])
  (.seq (.reg none [⟨some 3, .mov (.c (.v (.s []))), none⟩])
   (.seq (.seq (.reg none [⟨some 4, .fad 0 (.t 1), none⟩,
        ⟨some 5, .ld false 1 (.t 4), none⟩])
     (.cond (.t 5) (.reg none [⟨some 3, .mov (.c (.v (.s [1]))), none⟩])
      (.skip)))
    (.seq (.reg (some [0, 1, 0, 4, 15, 31, 63, 127]) [⟨some 6, .mov (.t 3), none⟩,
        ⟨some 7, .call (.c (.v (.fn (.func 27)))) [(.t 6)], none⟩,
        ⟨some 8, .fad 1 (.t 1), none⟩,
        ⟨some 9, .ld false 1 (.t 8), none⟩,
        ⟨some 10, .call (.c (.v (.fn (.func 27)))) [(.t 9)], none⟩,
        ⟨some 11, .bsl 4 [(.t 7), (.t 10)], none⟩,
        ⟨some 12, .call (.c (.v (.fn (.func 24)))) [(.t 11)], none⟩,
        ⟨none, .st 4 (.t 2) (.t 12), none⟩])
     (.ret))))
def R41 : List SRes := [.c 2 true 4]
/- domino/dominoref02.Of -/
def S42 : SC :=
  .seq (.reg none [⟨some 2, .alloc 84 [(.v (.b false)), (.v (.s []))], none⟩])
  (.seq (.seq (.reg none [⟨some 3, .mov (.t 0), none⟩,
       ⟨some 4, .bin .lss (.t 3) (.c (.v (.i .i64 0))), none⟩])
    (.cond (.t 4) (.seq (.reg none [⟨some 5, .mov (.t 0), none⟩,
         ⟨some 6, .bin .add (.t 5) (.c (.v (.i .i64 1))), none⟩,
         ⟨some 7, .un .neg (.t 6), none⟩,
         ⟨some 8, .cvi .u64 (.t 7), none⟩,
         ⟨some 9, .bin .add (.t 8) (.c (.v (.i .u64 1))), none⟩,
         ⟨some 10, .call (.c (.v (.fn (.func 56)))) [(.t 9)], none⟩,
         ⟨some 11, .call (.c (.v (.fn (.func 55)))) [(.c (.v (.b true))), (.t 10)], none⟩,
         ⟨none, .st 2 (.t 2) (.t 11), none⟩])
      (.ret))
     (.skip)))
   (.seq (.reg none [⟨some 12, .mov (.t 0), none⟩,
       ⟨some 13, .cvi .u64 (.t 12), none⟩,
       ⟨some 14, .call (.c (.v (.fn (.func 56)))) [(.t 13)], none⟩,
       ⟨some 15, .call (.c (.v (.fn (.func 55)))) [(.c (.v (.b false))), (.t 14)], none⟩,
       ⟨none, .st 2 (.t 2) (.t 15), none⟩])
    (.ret)))
def R42 : List SRes := [.c 2 true 2]
/- domino/dominoref08.Valid -/
def S43 : SC :=
  .seq (.reg none [⟨some 1, .box (.t 0), none⟩,
     ⟨some 2, .mov (.c (.v (.b false))), none⟩])
  (.seq (.seq (.reg none [⟨some 4, .fad 0 (.t 1), none⟩,
       ⟨some 5, .ld false 1 (.t 4), none⟩])
    (.blk 0 (.seq (.reg none [⟨some 7, .bin .eql (.t 5) (.c (.v (.i .i64 0))), none⟩,
         ⟨some 6, .mov (.t 7), none⟩])
      (.cond (.t 6) (.seq (.reg none [⟨some 8, .fad 1 (.t 1), none⟩,
           ⟨some 9, .ld false 1 (.t 8), none⟩,
           ⟨some 10, .call (.c (.v (.fn (.func 57)))) [(.t 9)], none⟩,
           ⟨some 11, .mov (.t 10), none⟩,
           ⟨some 12, .fad 2 (.t 1), some (11, true)⟩,
           ⟨some 13, .ld false 1 (.t 12), some (11, true)⟩,
           ⟨some 14, .bin .eql (.t 13) (.c (.v (.s []))), some (11, true)⟩,
           ⟨some 15, .pick (.t 11) (.t 14) (.c (.v (.b false))), none⟩,
           ⟨some 16, .mov (.t 15), none⟩,
           ⟨some 17, .fad 3 (.t 1), some (16, true)⟩,
           ⟨some 18, .ld false 1 (.t 17), some (16, true)⟩,
           ⟨some 19, .len (.t 18), some (16, true)⟩,
           ⟨some 20, .bin .eql (.t 19) (.c (.v (.i .i64 0))), some (16, true)⟩,
           ⟨some 21, .pick (.t 16) (.t 20) (.c (.v (.b false))), none⟩,
           ⟨some 2, .mov (.t 21), none⟩])
        (.ret))
       (.seq (.reg none [⟨some 23, .bin .eql (.t 5) (.c (.v (.i .i64 1))), none⟩,
           ⟨some 22, .mov (.t 23), none⟩])
        (.cond (.t 22) (.seq (.reg none [⟨some 24, .fad 1 (.t 1), none⟩,
             ⟨some 25, .ld false 1 (.t 24), none⟩,
             ⟨some 26, .bin .eql (.t 25) (.c (.v (.s []))), none⟩,
             ⟨some 27, .mov (.t 26), none⟩,
             ⟨some 28, .fad 3 (.t 1), some (27, true)⟩,
             ⟨some 29, .ld false 1 (.t 28), some (27, true)⟩,
             ⟨some 30, .len (.t 29), some (27, true)⟩,
             ⟨some 31, .bin .eql (.t 30) (.c (.v (.i .i64 0))), some (27, true)⟩,
             ⟨some 32, .pick (.t 27) (.t 31) (.c (.v (.b false))), none⟩,
             ⟨some 2, .mov (.t 32), none⟩])
          (.ret))
         (.seq (.reg none [⟨some 34, .bin .eql (.t 5) (.c (.v (.i .i64 2))), none⟩,
             ⟨some 33, .mov (.t 34), none⟩])
          (.cond (.t 33) (.seq (.seq (.reg none [⟨some 3, .mov (.c (.v (.i .i64 0))), none⟩])
             (.blk 1 (.loop (.seq (.seq (.reg none [⟨some 35, .mov (.t 3), none⟩,
                    ⟨some 36, .fad 3 (.t 1), none⟩,
                    ⟨some 37, .ld false 1 (.t 36), none⟩,
                    ⟨some 38, .len (.t 37), none⟩,
                    ⟨some 39, .bin .lss (.t 35) (.t 38), none⟩])
                 (.cond (.t 39) (.skip)
                  (.exit 1)))
                (.seq (.blk 2 (.seq (.reg none [⟨some 42, .fad 3 (.t 1), none⟩,
                      ⟨some 43, .ld false 1 (.t 42), none⟩,
                      ⟨some 44, .mov (.t 3), none⟩,
                      ⟨some 45, .ixs 4 (.t 43) (.t 44), none⟩,
                      ⟨some 46, .ld true 4 (.t 45), none⟩,
                      ⟨some 47, .call (.c (.v (.fn (.func 43)))) [(.t 46)], none⟩,
                      ⟨some 48, .un .not (.t 47), none⟩])
                   (.cond (.t 48) (.seq (.reg none [⟨some 2, .mov (.c (.v (.b false))), none⟩])
                     (.ret))
                    (.skip))))
                 (.reg none [⟨some 40, .mov (.t 3), none⟩,
                    ⟨some 41, .bin .add (.t 40) (.c (.v (.i .i64 1))), none⟩,
                    ⟨some 3, .mov (.t 41), none⟩]))))))
            (.seq (.reg none [⟨some 49, .fad 1 (.t 1), none⟩,
                ⟨some 50, .ld false 1 (.t 49), none⟩,
                ⟨some 51, .bin .eql (.t 50) (.c (.v (.s []))), none⟩,
                ⟨some 52, .mov (.t 51), none⟩,
                ⟨some 53, .fad 2 (.t 1), some (52, true)⟩,
                ⟨some 54, .ld false 1 (.t 53), some (52, true)⟩,
                ⟨some 55, .bin .eql (.t 54) (.c (.v (.s []))), some (52, true)⟩,
                ⟨some 56, .pick (.t 52) (.t 55) (.c (.v (.b false))), none⟩,
                ⟨some 2, .mov (.t 56), none⟩])
             (.ret)))
           (.skip)))))))))
   (.seq (.reg none [⟨some 2, .mov (.c (.v (.b false))), none⟩])
    (.ret)))
def R43 : List SRes := [.t 2]
/- domino/dominoref08.Depth -/
def S44 : SC :=
  .seq (.reg none [⟨some 1, .box (.t 0), none⟩,
     ⟨some 2, .mov (.c (.v (.i .i64 0))), none⟩])
  (.seq (.seq (.reg none [⟨some 5, .fad 0 (.t 1), none⟩,
       ⟨some 6, .ld false 1 (.t 5), none⟩,
       ⟨some 7, .bin .neq (.t 6) (.c (.v (.i .i64 2))), none⟩])
    (.cond (.t 7) (.seq (.reg none [⟨some 2, .mov (.c (.v (.i .i64 0))), none⟩])
      (.ret))
     (.skip)))
   (.seq (.reg none [⟨some 3, .mov (.c (.v (.i .i64 0))), none⟩])
    (.seq (.seq (.reg none [⟨some 4, .mov (.c (.v (.i .i64 0))), none⟩])
      (.blk 0 (.loop (.seq (.seq (.reg none [⟨some 8, .mov (.t 4), none⟩,
             ⟨some 9, .fad 3 (.t 1), none⟩,
             ⟨some 10, .ld false 1 (.t 9), none⟩,
             ⟨some 11, .len (.t 10), none⟩,
             ⟨some 12, .bin .lss (.t 8) (.t 11), none⟩])
          (.cond (.t 12) (.skip)
           (.exit 0)))
         (.seq (.blk 1 (.reg none [⟨some 15, .mov (.t 3), none⟩,
              ⟨some 16, .fad 3 (.t 1), none⟩,
              ⟨some 17, .ld false 1 (.t 16), none⟩,
              ⟨some 18, .mov (.t 4), none⟩,
              ⟨some 19, .ixs 4 (.t 17) (.t 18), none⟩,
              ⟨some 20, .ld true 4 (.t 19), none⟩,
              ⟨some 21, .call (.c (.v (.fn (.func 44)))) [(.t 20)], none⟩,
              ⟨some 22, .mm true (.t 15) (.t 21), none⟩,
              ⟨some 3, .mov (.t 22), none⟩]))
          (.reg none [⟨some 13, .mov (.t 4), none⟩,
             ⟨some 14, .bin .add (.t 13) (.c (.v (.i .i64 1))), none⟩,
             ⟨some 4, .mov (.t 14), none⟩]))))))
     (.seq (.reg none [⟨some 23, .mov (.t 3), none⟩,
         ⟨some 24, .bin .add (.t 23) (.c (.v (.i .i64 1))), none⟩,
         ⟨some 2, .mov (.t 24), none⟩])
      (.ret)))))
def R44 : List SRes := [.t 2]
/- domino/dominoref08.Write -/
def S45 : SC :=
  .seq (.reg none [⟨some 1, .box (.t 0), none⟩,
     ⟨some 2, .mov (.c (.v (.s []))), none⟩])
  (.seq (.reg none [⟨some 5, .fad 1 (.t 1), none⟩,
      ⟨some 6, .ld false 1 (.t 5), none⟩,
      ⟨some 7, .fad 2 (.t 1), none⟩,
      ⟨some 8, .ld false 1 (.t 7), none⟩,
      ⟨some 9, .bin .add (.t 6) (.t 8), none⟩,
      ⟨some 3, .mov (.t 9), none⟩])
   (.seq (.seq (.reg none [⟨some 4, .mov (.c (.v (.i .i64 0))), none⟩])
     (.blk 0 (.loop (.seq (.seq (.reg none [⟨some 10, .mov (.t 4), none⟩,
            ⟨some 11, .fad 3 (.t 1), none⟩,
            ⟨some 12, .ld false 1 (.t 11), none⟩,
            ⟨some 13, .len (.t 12), none⟩,
            ⟨some 14, .bin .lss (.t 10) (.t 13), none⟩])
         (.cond (.t 14) (.skip)
          (.exit 0)))
        (.seq (.blk 1 (.reg none [⟨some 17, .mov (.t 3), none⟩,
             ⟨some 18, .fad 3 (.t 1), none⟩,
             ⟨some 19, .ld false 1 (.t 18), none⟩,
             ⟨some 20, .mov (.t 4), none⟩,
             ⟨some 21, .ixs 4 (.t 19) (.t 20), none⟩,
             ⟨some 22, .ld true 4 (.t 21), none⟩,
             ⟨some 23, .call (.c (.v (.fn (.func 45)))) [(.t 22)], none⟩,
             ⟨some 24, .bin .add (.t 17) (.t 23), none⟩,
             ⟨some 3, .mov (.t 24), none⟩]))
         (.reg none [⟨some 15, .mov (.t 4), none⟩,
            ⟨some 16, .bin .add (.t 15) (.c (.v (.i .i64 1))), none⟩,
            ⟨some 4, .mov (.t 16), none⟩]))))))
    (.seq (.reg (some [0, 1, 3, 7, 15, 0, 32, 96, 255, 0, 1023, 2047]) [⟨some 25, .fad 0 (.t 1), none⟩,
        ⟨some 26, .ld false 1 (.t 25), none⟩,
        ⟨some 27, .cvi .u8 (.t 26), none⟩,
        ⟨some 28, .bsl 1 [(.t 27)], none⟩,
        ⟨some 29, .b2s (.t 28), none⟩,
        ⟨some 30, .mov (.t 3), none⟩,
        ⟨some 31, .lenS (.t 30), none⟩,
        ⟨some 32, .call (.c (.v (.fn (.func 58)))) [(.t 31)], none⟩,
        ⟨some 33, .bin .add (.t 29) (.t 32), none⟩,
        ⟨some 34, .mov (.t 3), none⟩,
        ⟨some 35, .bin .add (.t 33) (.t 34), none⟩,
        ⟨some 2, .mov (.t 35), none⟩])
     (.ret))))
def R45 : List SRes := [.t 2]
/- slices.IndexFunc[[]domino/api.Nat,domino/api.Nat] -/
def S46 : SC :=
  .seq (.reg none [⟨some 4, .mov (.c (.v (.i .i64 0))), none⟩])
  (.seq (.seq (.reg none [⟨some 6, .mov (.t 0), none⟩,
       ⟨some 7, .len (.t 6), none⟩,
       ⟨some 8, .mov (.c (.v (.i .i64 0))), none⟩])
    (.blk 0 (.loop (.seq (.reg none [⟨some 9, .bin .lss (.t 8) (.t 7), none⟩])
       (.seq (.cond (.t 9) (.skip)
         (.exit 0))
        (.seq (.blk 1 (.seq (.reg none [⟨some 10, .mov (.t 8), none⟩,
              ⟨some 5, .mov (.t 10), none⟩])
           (.seq (.reg none [⟨some 11, .mov (.t 1), none⟩,
               ⟨some 12, .mov (.t 0), none⟩,
               ⟨some 13, .mov (.t 5), none⟩,
               ⟨some 14, .ixs 1 (.t 12) (.t 13), none⟩,
               ⟨some 15, .ld false 1 (.t 14), none⟩,
               ⟨some 16, .call (.t 11) [(.t 15)], none⟩])
            (.cond (.t 16) (.seq (.reg none [⟨some 17, .mov (.t 5), none⟩,
                 ⟨some 4, .mov (.t 17), none⟩])
              (.ret))
             (.skip)))))
         (.reg none [⟨some 18, .bin .add (.t 8) (.c (.v (.i .i64 1))), none⟩,
            ⟨some 8, .mov (.t 18), none⟩])))))))
   (.seq (.reg none [⟨some 4, .mov (.c (.v (.i .i64 (-1)))), none⟩])
    (.ret)))
def R46 : List SRes := [.t 4]
/- (*domino/encoding.reader).item -/
def S48 : SC :=
  .seq (.reg none [⟨some 6, .alloc 79 [(.v (.i .i64 0)), (.v (.s [])), (.v (.s [])), .sn], none⟩])
  (.seq (.seq (.reg (some [0, 1, 3, 7, 0, 31, 63, 127, 255, 511, 1023, 127, 2175, 6271, 14463, 32767, 65535, 131071]) [⟨some 10, .mov (.t 0), none⟩,
       ⟨some 11, .nck (.t 10), none⟩,
       ⟨some 12, .fad 1 (.t 11), none⟩,
       ⟨some 13, .ld false 1 (.t 12), none⟩,
       ⟨some 14, .mov (.t 1), none⟩,
       ⟨some 15, .bin .geq (.t 13) (.t 14), none⟩,
       ⟨some 16, .mov (.t 15), none⟩,
       ⟨some 17, .mov (.t 0), some (16, false)⟩,
       ⟨some 18, .nck (.t 17), some (16, false)⟩,
       ⟨some 19, .fad 0 (.t 18), some (16, false)⟩,
       ⟨some 20, .ld false 1 (.t 19), some (16, false)⟩,
       ⟨some 21, .mov (.t 0), some (16, false)⟩,
       ⟨some 22, .nck (.t 21), some (16, false)⟩,
       ⟨some 23, .fad 1 (.t 22), some (16, false)⟩,
       ⟨some 24, .ld false 1 (.t 23), some (16, false)⟩,
       ⟨some 25, .ixS (.t 20) (.t 24), some (16, false)⟩,
       ⟨some 26, .bin .gtr (.t 25) (.c (.v (.i .u8 2))), some (16, false)⟩,
       ⟨some 27, .pick (.t 16) (.c (.v (.b true))) (.t 26), none⟩])
    (.cond (.t 27) (.reg none [⟨some 28, .mki 52 (.c (.v (.i .i64 4))), none⟩,
        ⟨none, .stop, none⟩])
     (.skip)))
   (.seq (.reg (some [0, 1, 3, 7, 0, 16, 48, 112, 255, 511, 1023, 0, 4095]) [⟨some 29, .mov (.t 0), none⟩,
       ⟨some 30, .nck (.t 29), none⟩,
       ⟨some 31, .fad 0 (.t 30), none⟩,
       ⟨some 32, .ld false 1 (.t 31), none⟩,
       ⟨some 33, .mov (.t 0), none⟩,
       ⟨some 34, .nck (.t 33), none⟩,
       ⟨some 35, .fad 1 (.t 34), none⟩,
       ⟨some 36, .ld false 1 (.t 35), none⟩,
       ⟨some 37, .ixS (.t 32) (.t 36), none⟩,
       ⟨some 38, .cvi .i64 (.t 37), none⟩,
       ⟨some 39, .build [(.v (.i .i64 0)), (.v (.s [])), (.v (.s [])), .sn] [(0, 1, (.t 38))], none⟩,
       ⟨some 7, .alloc 79 [(.v (.i .i64 0)), (.v (.s [])), (.v (.s [])), .sn], none⟩,
       ⟨none, .st 4 (.t 7) (.t 39), none⟩])
    (.seq (.reg none [⟨some 40, .mov (.t 0), none⟩,
        ⟨some 41, .nck (.t 40), none⟩,
        ⟨some 42, .fad 1 (.t 41), none⟩,
        ⟨some 43, .ld false 1 (.t 42), none⟩,
        ⟨some 44, .bin .add (.t 43) (.c (.v (.i .i64 1))), none⟩,
        ⟨some 45, .nck (.t 40), none⟩,
        ⟨some 46, .fad 1 (.t 45), none⟩,
        ⟨none, .st 1 (.t 46) (.t 44), none⟩])
     (.seq (.seq (.reg none [⟨some 47, .fad 0 (.t 7), none⟩,
          ⟨some 48, .ld false 1 (.t 47), none⟩,
          ⟨some 49, .bin .eql (.t 48) (.c (.v (.i .i64 2))), none⟩,
          ⟨some 50, .mov (.t 49), none⟩,
          ⟨some 51, .mov (.t 2), some (50, true)⟩,
          ⟨some 52, .bin .eql (.t 51) (.c (.v (.i .i64 32))), some (50, true)⟩,
          ⟨some 53, .pick (.t 50) (.t 52) (.c (.v (.b false))), none⟩])
       (.cond (.t 53) (.reg none [⟨some 54, .mki 52 (.c (.v (.i .i64 7))), none⟩,
           ⟨none, .stop, none⟩])
        (.skip)))
      (.seq (.reg none [⟨some 55, .mov (.t 0), none⟩,
          ⟨some 56, .mov (.t 1), none⟩,
          ⟨some 57, .call (.c (.v (.fn (.func 59)))) [(.t 55), (.t 56)], none⟩,
          ⟨some 8, .mov (.t 57), none⟩])
       (.seq (.reg none [⟨some 58, .mov (.t 0), none⟩,
           ⟨some 59, .nck (.t 58), none⟩,
           ⟨some 60, .fad 1 (.t 59), none⟩,
           ⟨some 61, .ld false 1 (.t 60), none⟩,
           ⟨some 62, .mov (.t 8), none⟩,
           ⟨some 63, .bin .add (.t 61) (.t 62), none⟩,
           ⟨some 9, .mov (.t 63), none⟩])
        (.seq (.seq (.reg none [⟨some 64, .fad 0 (.t 7), none⟩,
             ⟨some 65, .ld false 1 (.t 64), none⟩])
          (.blk 0 (.seq (.reg none [⟨some 83, .bin .eql (.t 65) (.c (.v (.i .i64 0))), none⟩,
               ⟨some 82, .mov (.t 83), none⟩])
            (.cond (.t 82) (.seq (.reg (some [0, 1, 3, 7, 0, 16, 48, 112, 0, 511, 1023, 2047]) [⟨some 84, .mov (.t 0), none⟩,
                 ⟨some 85, .nck (.t 84), none⟩,
                 ⟨some 86, .fad 0 (.t 85), none⟩,
                 ⟨some 87, .ld false 1 (.t 86), none⟩,
                 ⟨some 88, .mov (.t 0), none⟩,
                 ⟨some 89, .nck (.t 88), none⟩,
                 ⟨some 90, .fad 1 (.t 89), none⟩,
                 ⟨some 91, .ld false 1 (.t 90), none⟩,
                 ⟨some 92, .mov (.t 9), none⟩,
                 ⟨some 93, .slS (.t 87) (some (.t 91)) (some (.t 92)), none⟩,
                 ⟨some 94, .fad 1 (.t 7), none⟩,
                 ⟨none, .st 1 (.t 94) (.t 93), none⟩])
              (.seq (.reg none [⟨some 95, .fad 1 (.t 7), none⟩,
                  ⟨some 96, .ld false 1 (.t 95), none⟩,
                  ⟨some 97, .call (.c (.v (.fn (.func 50)))) [(.t 96)], none⟩,
                  ⟨some 98, .un .not (.t 97), none⟩])
               (.cond (.t 98) (.reg none [⟨some 99, .mki 52 (.c (.v (.i .i64 4))), none⟩,
                   ⟨none, .stop, none⟩])
                (.skip))))
             (.seq (.reg none [⟨some 101, .bin .eql (.t 65) (.c (.v (.i .i64 1))), none⟩,
                 ⟨some 100, .mov (.t 101), none⟩])
              (.cond (.t 100) (.reg (some [0, 1, 3, 7, 0, 16, 48, 112, 0, 511, 1023, 2047]) [⟨some 102, .mov (.t 0), none⟩,
                  ⟨some 103, .nck (.t 102), none⟩,
                  ⟨some 104, .fad 0 (.t 103), none⟩,
                  ⟨some 105, .ld false 1 (.t 104), none⟩,
                  ⟨some 106, .mov (.t 0), none⟩,
                  ⟨some 107, .nck (.t 106), none⟩,
                  ⟨some 108, .fad 1 (.t 107), none⟩,
                  ⟨some 109, .ld false 1 (.t 108), none⟩,
                  ⟨some 110, .mov (.t 9), none⟩,
                  ⟨some 111, .slS (.t 105) (some (.t 109)) (some (.t 110)), none⟩,
                  ⟨some 112, .fad 2 (.t 7), none⟩,
                  ⟨none, .st 1 (.t 112) (.t 111), none⟩])
               (.blk 1 (.loop (.seq (.seq (.reg none [⟨some 66, .mov (.t 0), none⟩,
                      ⟨some 67, .nck (.t 66), none⟩,
                      ⟨some 68, .fad 1 (.t 67), none⟩,
                      ⟨some 69, .ld false 1 (.t 68), none⟩,
                      ⟨some 70, .mov (.t 9), none⟩,
                      ⟨some 71, .bin .lss (.t 69) (.t 70), none⟩])
                   (.cond (.t 71) (.skip)
                    (.exit 1)))
                  (.blk 2 (.reg (some [0, 1, 0, 0, 0, 16, 60, 124, 255, 511, 1023]) [⟨some 72, .fad 3 (.t 7), none⟩,
                      ⟨some 73, .ld false 1 (.t 72), none⟩,
                      ⟨some 74, .mov (.t 0), none⟩,
                      ⟨some 75, .mov (.t 9), none⟩,
                      ⟨some 76, .mov (.t 2), none⟩,
                      ⟨some 77, .bin .add (.t 76) (.c (.v (.i .i64 1))), none⟩,
                      ⟨some 78, .call (.c (.v (.fn (.func 48)))) [(.t 74), (.t 75), (.t 77)], none⟩,
                      ⟨some 79, .bsl 4 [(.t 78)], none⟩,
                      ⟨some 80, .app 79 4 64 (.t 73) (.t 79), none⟩,
                      ⟨some 81, .fad 3 (.t 7), none⟩,
                      ⟨none, .st 1 (.t 81) (.t 80), none⟩])))))))))))
         (.seq (.reg none [⟨some 113, .mov (.t 0), none⟩,
             ⟨some 114, .mov (.t 9), none⟩,
             ⟨some 115, .nck (.t 113), none⟩,
             ⟨some 116, .fad 1 (.t 115), none⟩,
             ⟨none, .st 1 (.t 116) (.t 114), none⟩])
          (.seq (.reg none [⟨some 117, .ld true 4 (.t 7), none⟩,
              ⟨none, .st 4 (.t 6) (.t 117), none⟩])
           (.ret))))))))))
def R48 : List SRes := [.c 6 true 4]
/- domino/natural.trimmed -/
def S49 : SC :=
  .seq (.reg none [⟨some 2, .mov (.c (.v (.s []))), none⟩])
  (.seq (.blk 0 (.loop (.seq (.seq (.reg none [⟨some 3, .mov (.t 0), none⟩,
          ⟨some 4, .len (.t 3), none⟩,
          ⟨some 5, .bin .gtr (.t 4) (.c (.v (.i .i64 0))), none⟩,
          ⟨some 6, .mov (.t 5), none⟩,
          ⟨some 7, .mov (.t 0), some (6, true)⟩,
          ⟨some 8, .ixs 1 (.t 7) (.c (.v (.i .i64 0))), some (6, true)⟩,
          ⟨some 9, .ld false 1 (.t 8), some (6, true)⟩,
          ⟨some 10, .bin .eql (.t 9) (.c (.v (.i .u8 0))), some (6, true)⟩,
          ⟨some 11, .pick (.t 6) (.t 10) (.c (.v (.b false))), none⟩])
       (.cond (.t 11) (.skip)
        (.exit 0)))
      (.blk 1 (.reg none [⟨some 12, .mov (.t 0), none⟩,
          ⟨some 13, .slL 1 (.t 12) (some (.c (.v (.i .i64 1)))) none none, none⟩,
          ⟨some 0, .mov (.t 13), none⟩])))))
   (.seq (.reg none [⟨some 14, .mov (.t 0), none⟩,
       ⟨some 15, .b2s (.t 14), none⟩,
       ⟨some 2, .mov (.t 15), none⟩])
    (.ret)))
def R49 : List SRes := [.t 2]
/- domino/natural.Valid -/
def S50 : SC :=
  .seq (.reg none [⟨some 2, .mov (.c (.v (.b false))), none⟩])
  (.seq (.reg none [⟨some 3, .mov (.t 0), none⟩,
      ⟨some 4, .lenS (.t 3), none⟩,
      ⟨some 5, .bin .leq (.t 4) (.c (.v (.i .i64 128))), none⟩,
      ⟨some 6, .mov (.t 5), none⟩,
      ⟨some 7, .mov (.t 0), some (6, true)⟩,
      ⟨some 8, .lenS (.t 7), some (6, true)⟩,
      ⟨some 9, .bin .eql (.t 8) (.c (.v (.i .i64 0))), some (6, true)⟩,
      ⟨some 10, .mov (.t 9), some (6, true)⟩,
      ⟨some 11, .mov (.t 0), some (10, false)⟩,
      ⟨some 12, .ixS (.t 11) (.c (.v (.i .i64 0))), some (10, false)⟩,
      ⟨some 13, .bin .neq (.t 12) (.c (.v (.i .u8 0))), some (10, false)⟩,
      ⟨some 14, .pick (.t 10) (.c (.v (.b true))) (.t 13), some (6, true)⟩,
      ⟨some 15, .pick (.t 6) (.t 14) (.c (.v (.b false))), none⟩,
      ⟨some 2, .mov (.t 15), none⟩])
   (.ret))
def R50 : List SRes := [.t 2]
/- (*strings.Builder).WriteString -/
def S51 : SC :=
  .seq (.reg none [⟨some 4, .mov (.c (.v (.i .i64 0))), none⟩,
     ⟨some 5, .mov (.c (.v .if0)), none⟩])
  (.seq (.reg none [⟨some 6, .mov (.t 0), none⟩,
      ⟨some 7, .call (.c (.v (.fn (.func 60)))) [(.t 6)], none⟩])
   (.seq (.reg none [⟨some 8, .mov (.t 0), none⟩,
       ⟨some 9, .mov (.t 0), none⟩,
       ⟨some 10, .nck (.t 9), none⟩,
       ⟨some 11, .fad 1 (.t 10), none⟩,
       ⟨some 12, .ld false 1 (.t 11), none⟩,
       ⟨some 13, .mov (.t 1), none⟩,
       ⟨some 14, .app 5 1 1 (.t 12) (.t 13), none⟩,
       ⟨some 15, .nck (.t 8), none⟩,
       ⟨some 16, .fad 1 (.t 15), none⟩,
       ⟨none, .st 1 (.t 16) (.t 14), none⟩])
    (.seq (.reg none [⟨some 17, .mov (.t 1), none⟩,
        ⟨some 18, .lenS (.t 17), none⟩,
        ⟨some 4, .mov (.t 18), none⟩,
        ⟨some 5, .mov (.c (.v .if0)), none⟩])
     (.ret))))
def R51 : List SRes := [.t 4, .t 5]
/- domino/encoding.length -/
def S52 : SC :=
  .seq (.reg none [⟨some 2, .mov (.c (.v (.s []))), none⟩])
  (.seq (.reg none [⟨some 3, .alloc 127 [(.v (.i .u8 0)), (.v (.i .u8 0)), (.v (.i .u8 0)), (.v (.i .u8 0)), (.v (.i .u8 0)), (.v (.i .u8 0)), (.v (.i .u8 0)), (.v (.i .u8 0)), (.v (.i .u8 0)), (.v (.i .u8 0))], none⟩])
   (.seq (.reg none [⟨some 4, .mov (.c (.v (.i .i64 0))), none⟩])
    (.seq (.blk 0 (.loop (.seq (.seq (.reg none [⟨some 5, .mov (.t 0), none⟩,
            ⟨some 6, .bin .geq (.t 5) (.c (.v (.i .i64 128))), none⟩])
         (.cond (.t 6) (.skip)
          (.exit 0)))
        (.blk 1 (.seq (.reg none [⟨some 7, .mov (.t 4), none⟩,
             ⟨some 8, .mov (.t 0), none⟩,
             ⟨some 9, .cvi .u8 (.t 8), none⟩,
             ⟨some 10, .bin .or (.t 9) (.c (.v (.i .u8 128))), none⟩,
             ⟨some 11, .ixa 10 1 (.t 3) (.t 7), none⟩,
             ⟨none, .st 1 (.t 11) (.t 10), none⟩])
          (.seq (.reg none [⟨some 12, .mov (.t 0), none⟩,
              ⟨some 13, .bin .shr (.t 12) (.c (.v (.i .u64 7))), none⟩,
              ⟨some 0, .mov (.t 13), none⟩])
           (.reg none [⟨some 14, .mov (.t 4), none⟩,
              ⟨some 15, .bin .add (.t 14) (.c (.v (.i .i64 1))), none⟩,
              ⟨some 4, .mov (.t 15), none⟩])))))))
     (.seq (.reg none [⟨some 16, .mov (.t 4), none⟩,
         ⟨some 17, .mov (.t 0), none⟩,
         ⟨some 18, .cvi .u8 (.t 17), none⟩,
         ⟨some 19, .ixa 10 1 (.t 3) (.t 16), none⟩,
         ⟨none, .st 1 (.t 19) (.t 18), none⟩])
      (.seq (.reg none [⟨some 20, .mov (.t 4), none⟩,
          ⟨some 21, .bin .add (.t 20) (.c (.v (.i .i64 1))), none⟩,
          ⟨some 22, .slA 10 1 (.t 3) none (some (.t 21)) none, none⟩,
          ⟨some 23, .b2s (.t 22), none⟩,
          ⟨some 2, .mov (.t 23), none⟩])
       (.ret))))))
def R52 : List SRes := [.t 2]
/- (*strings.Builder).Len -/
def S53 : SC :=
  .seq (.reg none [⟨some 2, .mov (.c (.v (.i .i64 0))), none⟩])
  (.seq (.reg none [⟨some 3, .mov (.t 0), none⟩,
      ⟨some 4, .nck (.t 3), none⟩,
      ⟨some 5, .fad 1 (.t 4), none⟩,
      ⟨some 6, .ld false 1 (.t 5), none⟩,
      ⟨some 7, .len (.t 6), none⟩,
      ⟨some 2, .mov (.t 7), none⟩])
   (.ret))
def R53 : List SRes := [.t 2]
/- (*strings.Builder).String -/
def S54 : SC :=
  .seq (.reg none [⟨some 2, .mov (.c (.v (.s []))), none⟩])
  (.seq (.reg (some [0, 1, 3, 7, 15, 0, 32, 96, 224, 480, 1023, 2047]) [⟨some 3, .mov (.t 0), none⟩,
      ⟨some 4, .nck (.t 3), none⟩,
      ⟨some 5, .fad 1 (.t 4), none⟩,
      ⟨some 6, .ld false 1 (.t 5), none⟩,
      ⟨some 7, .sld (.t 6), none⟩,
      ⟨some 8, .mov (.t 0), none⟩,
      ⟨some 9, .nck (.t 8), none⟩,
      ⟨some 10, .fad 1 (.t 9), none⟩,
      ⟨some 11, .ld false 1 (.t 10), none⟩,
      ⟨some 12, .len (.t 11), none⟩,
      ⟨some 13, .ust 5 (.t 7) (.t 12), none⟩,
      ⟨some 2, .mov (.t 13), none⟩])
   (.ret))
def R54 : List SRes := [.t 2]
/- domino/dominoref02.Make -/
def S55 : SC :=
  .seq (.reg none [⟨some 4, .alloc 84 [(.v (.b false)), (.v (.s []))], none⟩])
  (.seq (.reg none [⟨some 5, .mov (.t 0), none⟩,
      ⟨some 6, .mov (.t 5), none⟩,
      ⟨some 7, .mov (.t 1), some (6, true)⟩,
      ⟨some 8, .bin .neq (.t 7) (.c (.v (.s []))), some (6, true)⟩,
      ⟨some 9, .pick (.t 6) (.t 8) (.c (.v (.b false))), none⟩,
      ⟨some 10, .mov (.t 1), none⟩,
      ⟨some 11, .build [(.v (.b false)), (.v (.s []))] [(0, 1, (.t 9)), (1, 1, (.t 10))], none⟩,
      ⟨none, .st 2 (.t 4) (.t 11), none⟩])
   (.ret))
def R55 : List SRes := [.c 4 true 2]
/- domino/dominoref01.Of -/
def S56 : SC :=
  .seq (.reg none [⟨some 2, .mov (.c (.v (.s []))), none⟩])
  (.seq (.reg none [⟨some 5, .mks [(.v (.i .u8 0))] 1 (.c (.v (.i .i64 8))) (.c (.v (.i .i64 8))), none⟩,
      ⟨some 3, .mov (.t 5), none⟩])
   (.seq (.seq (.reg none [⟨some 4, .mov (.c (.v (.i .i64 7))), none⟩])
     (.blk 0 (.loop (.seq (.seq (.reg none [⟨some 6, .mov (.t 4), none⟩,
            ⟨some 7, .bin .geq (.t 6) (.c (.v (.i .i64 0))), none⟩])
         (.cond (.t 7) (.skip)
          (.exit 0)))
        (.seq (.blk 1 (.seq (.reg none [⟨some 10, .mov (.t 3), none⟩,
              ⟨some 11, .mov (.t 4), none⟩,
              ⟨some 12, .mov (.t 0), none⟩,
              ⟨some 13, .bin .rem (.t 12) (.c (.v (.i .u64 256))), none⟩,
              ⟨some 14, .cvi .u8 (.t 13), none⟩,
              ⟨some 15, .ixs 1 (.t 10) (.t 11), none⟩,
              ⟨none, .st 1 (.t 15) (.t 14), none⟩])
           (.reg none [⟨some 16, .mov (.t 0), none⟩,
              ⟨some 17, .bin .quo (.t 16) (.c (.v (.i .u64 256))), none⟩,
              ⟨some 0, .mov (.t 17), none⟩])))
         (.reg none [⟨some 8, .mov (.t 4), none⟩,
            ⟨some 9, .bin .sub (.t 8) (.c (.v (.i .i64 1))), none⟩,
            ⟨some 4, .mov (.t 9), none⟩]))))))
    (.seq (.reg none [⟨some 18, .mov (.t 3), none⟩,
        ⟨some 19, .call (.c (.v (.fn (.func 61)))) [(.t 18)], none⟩,
        ⟨some 2, .mov (.t 19), none⟩])
     (.ret))))
def R56 : List SRes := [.t 2]
/- domino/dominoref08.canonical -/
def S57 : SC :=
  .seq (.reg none [⟨some 2, .mov (.c (.v (.b false))), none⟩])
  (.seq (.reg none [⟨some 3, .mov (.t 0), none⟩,
      ⟨some 4, .lenS (.t 3), none⟩,
      ⟨some 5, .bin .leq (.t 4) (.c (.v (.i .i64 128))), none⟩,
      ⟨some 6, .mov (.t 5), none⟩,
      ⟨some 7, .mov (.t 0), some (6, true)⟩,
      ⟨some 8, .lenS (.t 7), some (6, true)⟩,
      ⟨some 9, .bin .eql (.t 8) (.c (.v (.i .i64 0))), some (6, true)⟩,
      ⟨some 10, .mov (.t 9), some (6, true)⟩,
      ⟨some 11, .mov (.t 0), some (10, false)⟩,
      ⟨some 12, .ixS (.t 11) (.c (.v (.i .i64 0))), some (10, false)⟩,
      ⟨some 13, .bin .neq (.t 12) (.c (.v (.i .u8 0))), some (10, false)⟩,
      ⟨some 14, .pick (.t 10) (.c (.v (.b true))) (.t 13), some (6, true)⟩,
      ⟨some 15, .pick (.t 6) (.t 14) (.c (.v (.b false))), none⟩,
      ⟨some 2, .mov (.t 15), none⟩])
   (.ret))
def R57 : List SRes := [.t 2]
/- domino/dominoref08.Length -/
def S58 : SC :=
  .seq (.reg none [⟨some 2, .mov (.c (.v (.s []))), none⟩])
  (.seq (.reg none [⟨some 3, .mov (.c (.v (.s []))), none⟩])
   (.seq (.blk 0 (.loop (.seq (.seq (.reg none [⟨some 4, .mov (.t 0), none⟩,
           ⟨some 5, .bin .geq (.t 4) (.c (.v (.i .i64 128))), none⟩])
        (.cond (.t 5) (.skip)
         (.exit 0)))
       (.blk 1 (.seq (.reg none [⟨some 6, .mov (.t 3), none⟩,
            ⟨some 7, .mov (.t 0), none⟩,
            ⟨some 8, .bin .rem (.t 7) (.c (.v (.i .i64 128))), none⟩,
            ⟨some 9, .bin .add (.t 8) (.c (.v (.i .i64 128))), none⟩,
            ⟨some 10, .cvi .u8 (.t 9), none⟩,
            ⟨some 11, .bsl 1 [(.t 10)], none⟩,
            ⟨some 12, .b2s (.t 11), none⟩,
            ⟨some 13, .bin .add (.t 6) (.t 12), none⟩,
            ⟨some 3, .mov (.t 13), none⟩])
         (.reg none [⟨some 14, .mov (.t 0), none⟩,
            ⟨some 15, .bin .quo (.t 14) (.c (.v (.i .i64 128))), none⟩,
            ⟨some 0, .mov (.t 15), none⟩]))))))
    (.seq (.reg none [⟨some 16, .mov (.t 3), none⟩,
        ⟨some 17, .mov (.t 0), none⟩,
        ⟨some 18, .cvi .u8 (.t 17), none⟩,
        ⟨some 19, .bsl 1 [(.t 18)], none⟩,
        ⟨some 20, .b2s (.t 19), none⟩,
        ⟨some 21, .bin .add (.t 16) (.t 20), none⟩,
        ⟨some 2, .mov (.t 21), none⟩])
     (.ret))))
def R58 : List SRes := [.t 2]
/- (*domino/encoding.reader).size -/
def S59 : SC :=
  .seq (.reg none [⟨some 4, .mov (.c (.v (.i .i64 0))), none⟩])
  (.seq (.reg none [⟨some 5, .mov (.c (.v (.i .i64 0))), none⟩])
   (.seq (.seq (.reg none [⟨some 6, .mov (.c (.v (.i .i64 0))), none⟩])
     (.blk 0 (.loop (.seq (.blk 1 (.seq (.seq (.reg none [⟨some 10, .mov (.t 0), none⟩,
              ⟨some 11, .nck (.t 10), none⟩,
              ⟨some 12, .fad 1 (.t 11), none⟩,
              ⟨some 13, .ld false 1 (.t 12), none⟩,
              ⟨some 14, .mov (.t 1), none⟩,
              ⟨some 15, .bin .geq (.t 13) (.t 14), none⟩,
              ⟨some 16, .mov (.t 15), none⟩,
              ⟨some 17, .mov (.t 6), some (16, false)⟩,
              ⟨some 18, .bin .eql (.t 17) (.c (.v (.i .i64 5))), some (16, false)⟩,
              ⟨some 19, .pick (.t 16) (.c (.v (.b true))) (.t 18), none⟩])
           (.cond (.t 19) (.reg none [⟨some 20, .mki 52 (.c (.v (.i .i64 4))), none⟩,
               ⟨none, .stop, none⟩])
            (.skip)))
          (.seq (.reg (some [0, 1, 3, 7, 0, 16, 48, 112, 255, 511, 1023]) [⟨some 21, .mov (.t 0), none⟩,
              ⟨some 22, .nck (.t 21), none⟩,
              ⟨some 23, .fad 0 (.t 22), none⟩,
              ⟨some 24, .ld false 1 (.t 23), none⟩,
              ⟨some 25, .mov (.t 0), none⟩,
              ⟨some 26, .nck (.t 25), none⟩,
              ⟨some 27, .fad 1 (.t 26), none⟩,
              ⟨some 28, .ld false 1 (.t 27), none⟩,
              ⟨some 29, .ixS (.t 24) (.t 28), none⟩,
              ⟨some 30, .cvi .i64 (.t 29), none⟩,
              ⟨some 7, .mov (.t 30), none⟩])
           (.seq (.reg none [⟨some 31, .mov (.t 0), none⟩,
               ⟨some 32, .nck (.t 31), none⟩,
               ⟨some 33, .fad 1 (.t 32), none⟩,
               ⟨some 34, .ld false 1 (.t 33), none⟩,
               ⟨some 35, .bin .add (.t 34) (.c (.v (.i .i64 1))), none⟩,
               ⟨some 36, .nck (.t 31), none⟩,
               ⟨some 37, .fad 1 (.t 36), none⟩,
               ⟨none, .st 1 (.t 37) (.t 35), none⟩])
            (.seq (.seq (.reg none [⟨some 38, .mov (.t 7), none⟩,
                 ⟨some 39, .bin .eql (.t 38) (.c (.v (.i .i64 0))), none⟩,
                 ⟨some 40, .mov (.t 39), none⟩,
                 ⟨some 41, .mov (.t 6), some (40, true)⟩,
                 ⟨some 42, .bin .gtr (.t 41) (.c (.v (.i .i64 0))), some (40, true)⟩,
                 ⟨some 43, .pick (.t 40) (.t 42) (.c (.v (.b false))), none⟩])
              (.cond (.t 43) (.reg none [⟨some 44, .mki 52 (.c (.v (.i .i64 4))), none⟩,
                  ⟨none, .stop, none⟩])
               (.skip)))
             (.seq (.reg none [⟨some 45, .mov (.t 5), none⟩,
                 ⟨some 46, .mov (.t 7), none⟩,
                 ⟨some 47, .bin .and (.t 46) (.c (.v (.i .i64 127))), none⟩,
                 ⟨some 48, .mov (.t 6), none⟩,
                 ⟨some 49, .bin .mul (.c (.v (.i .i64 7))) (.t 48), none⟩,
                 ⟨some 50, .bin .shl (.t 47) (.t 49), none⟩,
                 ⟨some 51, .bin .or (.t 45) (.t 50), none⟩,
                 ⟨some 5, .mov (.t 51), none⟩])
              (.seq (.reg none [⟨some 52, .mov (.t 7), none⟩,
                  ⟨some 53, .bin .lss (.t 52) (.c (.v (.i .i64 128))), none⟩])
               (.cond (.t 53) (.exit 0)
                (.skip)))))))))
        (.reg none [⟨some 8, .mov (.t 6), none⟩,
           ⟨some 9, .bin .add (.t 8) (.c (.v (.i .i64 1))), none⟩,
           ⟨some 6, .mov (.t 9), none⟩])))))
    (.seq (.seq (.reg none [⟨some 54, .mov (.t 5), none⟩,
         ⟨some 55, .mov (.t 1), none⟩,
         ⟨some 56, .mov (.t 0), none⟩,
         ⟨some 57, .nck (.t 56), none⟩,
         ⟨some 58, .fad 1 (.t 57), none⟩,
         ⟨some 59, .ld false 1 (.t 58), none⟩,
         ⟨some 60, .bin .sub (.t 55) (.t 59), none⟩,
         ⟨some 61, .bin .gtr (.t 54) (.t 60), none⟩])
      (.cond (.t 61) (.reg none [⟨some 62, .mki 52 (.c (.v (.i .i64 4))), none⟩,
          ⟨none, .stop, none⟩])
       (.skip)))
     (.seq (.reg none [⟨some 63, .mov (.t 5), none⟩,
         ⟨some 4, .mov (.t 63), none⟩])
      (.ret)))))
def R59 : List SRes := [.t 4]
/- (*strings.Builder).copyCheck -/
noncomputable def S60 : SC :=
  .seq (.reg none [⟨some 2, .mov (.t 0), none⟩,
     ⟨some 3, .nck (.t 2), none⟩,
     ⟨some 4, .fad 0 (.t 3), none⟩,
     ⟨some 5, .ld false 1 (.t 4), none⟩,
     ⟨some 6, .peq false (.t 5) (.c (.v .p0)), none⟩])
  (.cond (.t 6) (.reg none [⟨some 7, .mov (.t 0), none⟩,
      ⟨some 8, .mov (.t 0), none⟩,
      ⟨some 9, .cvp (fun _ _ _ => true) (.t 8), none⟩,
      ⟨some 10, .call (.c (.v (.fn (.func 62)))) [(.t 9)], none⟩,
      ⟨some 11, .cvp (fun e n o => liesAt Try.prog Try.prog.depth e (n / Try.prog.cellsOf e) o 118 1) (.t 10), none⟩,
      ⟨some 12, .nck (.t 7), none⟩,
      ⟨some 13, .fad 0 (.t 12), none⟩,
      ⟨none, .st 1 (.t 13) (.t 11), none⟩])
   (.seq (.reg none [⟨some 14, .mov (.t 0), none⟩,
       ⟨some 15, .nck (.t 14), none⟩,
       ⟨some 16, .fad 0 (.t 15), none⟩,
       ⟨some 17, .ld false 1 (.t 16), none⟩,
       ⟨some 18, .mov (.t 0), none⟩,
       ⟨some 19, .peq true (.t 17) (.t 18), none⟩])
    (.cond (.t 19) (.stop)
     (.skip))))
def R60 : List SRes := []
/- domino/dominoref01.trim -/
def S61 : SC :=
  .seq (.reg none [⟨some 2, .mov (.c (.v (.s []))), none⟩])
  (.seq (.reg none [⟨some 3, .mov (.c (.v (.i .i64 0))), none⟩])
   (.seq (.blk 0 (.loop (.seq (.seq (.reg none [⟨some 4, .mov (.t 3), none⟩,
           ⟨some 5, .mov (.t 0), none⟩,
           ⟨some 6, .len (.t 5), none⟩,
           ⟨some 7, .bin .lss (.t 4) (.t 6), none⟩,
           ⟨some 8, .mov (.t 7), none⟩,
           ⟨some 9, .mov (.t 0), some (8, true)⟩,
           ⟨some 10, .mov (.t 3), some (8, true)⟩,
           ⟨some 11, .ixs 1 (.t 9) (.t 10), some (8, true)⟩,
           ⟨some 12, .ld false 1 (.t 11), some (8, true)⟩,
           ⟨some 13, .bin .eql (.t 12) (.c (.v (.i .u8 0))), some (8, true)⟩,
           ⟨some 14, .pick (.t 8) (.t 13) (.c (.v (.b false))), none⟩])
        (.cond (.t 14) (.skip)
         (.exit 0)))
       (.blk 1 (.reg none [⟨some 15, .mov (.t 3), none⟩,
           ⟨some 16, .bin .add (.t 15) (.c (.v (.i .i64 1))), none⟩,
           ⟨some 3, .mov (.t 16), none⟩])))))
    (.seq (.reg none [⟨some 17, .mov (.t 0), none⟩,
        ⟨some 18, .mov (.t 3), none⟩,
        ⟨some 19, .slL 1 (.t 17) (some (.t 18)) none none, none⟩,
        ⟨some 20, .b2s (.t 19), none⟩,
        ⟨some 2, .mov (.t 20), none⟩])
     (.ret))))
def R61 : List SRes := [.t 2]

theorem C3 : comp Try.prog Try.f3.ntmps ((Try.f3.body).getD .skip) = some S3 := by kernel_rfl
theorem Q3 : compRes Try.prog Try.f3.results.toList = some R3 := by kernel_rfl
/-- domino/dominolaw52.PresentationContexts -/
theorem F3 (x0 x1 : PV) {r : PV} (h : CW Try.prog (RetQ R3 r) S3 [] ⟨[(0, .v x0), (1, .v x1)], [], 1000⟩) : EvP Try.prog 3 [x0, x1] r :=
  EvP.mk' mixed Try.call3 Try.func3 rfl C3 Q3 (Nat.le_of_ble_eq_true rfl) (CW.start h)
theorem C4 : comp Try.prog Try.f4.ntmps ((Try.f4.body).getD .skip) = some S4 := by kernel_rfl
theorem Q4 : compRes Try.prog Try.f4.results.toList = some R4 := by kernel_rfl
/-- domino/dominolaw52.Few -/
theorem F4 (x0 x1 : PV) {r : PV} (h : CW Try.prog (RetQ R4 r) S4 [] ⟨[(0, .v x0), (1, .v x1)], [], 1000⟩) : EvP Try.prog 4 [x0, x1] r :=
  EvP.mk' mixed Try.call4 Try.func4 rfl C4 Q4 (Nat.le_of_ble_eq_true rfl) (CW.start h)
theorem C5 : comp Try.prog Try.f5.ntmps ((Try.f5.body).getD .skip) = some S5 := by kernel_rfl
theorem Q5 : compRes Try.prog Try.f5.results.toList = some R5 := by kernel_rfl
/-- domino/dominolaw52.light -/
theorem F5 (x0 : PV) {r : PV} (h : CW Try.prog (RetQ R5 r) S5 [] ⟨[(0, .v x0)], [], 1000⟩) : EvP Try.prog 5 [x0] r :=
  EvP.mk' mixed Try.call5 Try.func5 rfl C5 Q5 (Nat.le_of_ble_eq_true rfl) (CW.start h)
theorem C6 : comp Try.prog Try.f6.ntmps ((Try.f6.body).getD .skip) = some S6 := by kernel_rfl
theorem Q6 : compRes Try.prog Try.f6.results.toList = some R6 := by kernel_rfl
/-- domino/dominolaw52.awake -/
theorem F6 {r : PV} (h : CW Try.prog (RetQ R6 r) S6 [] ⟨[], [], 1000⟩) : EvP Try.prog 6 [] r :=
  EvP.mk' mixed Try.call6 Try.func6 rfl C6 Q6 (Nat.le_of_ble_eq_true rfl) (CW.start h)
theorem C7 : comp Try.prog Try.f7.ntmps ((Try.f7.body).getD .skip) = some S7 := by kernel_rfl
theorem Q7 : compRes Try.prog Try.f7.results.toList = some R7 := by kernel_rfl
/-- domino/presentation.Context -/
theorem F7 (x0 x1 : PV) {r : PV} (h : CW Try.prog (RetQ R7 r) S7 [] ⟨[(0, .v x0), (1, .v x1)], [], 1000⟩) : EvP Try.prog 7 [x0, x1] r :=
  EvP.mk' mixed Try.call7 Try.func7 rfl C7 Q7 (Nat.le_of_ble_eq_true rfl) (CW.start h)
theorem C8 : comp Try.prog Try.f8.ntmps ((Try.f8.body).getD .skip) = some S8 := by kernel_rfl
theorem Q8 : compRes Try.prog Try.f8.results.toList = some R8 := by kernel_rfl
/-- domino/dominoref52.Context -/
theorem F8 (x0 x1 : PV) {r : PV} (h : CW Try.prog (RetQ R8 r) S8 [] ⟨[(0, .v x0), (1, .v x1)], [], 1000⟩) : EvP Try.prog 8 [x0, x1] r :=
  EvP.mk' mixed Try.call8 Try.func8 rfl C8 Q8 (Nat.le_of_ble_eq_true rfl) (CW.start h)
theorem C9 : comp Try.prog Try.f9.ntmps ((Try.f9.body).getD .skip) = some S9 := by kernel_rfl
theorem Q9 : compRes Try.prog Try.f9.results.toList = some R9 := by kernel_rfl
/-- domino/dominolaw52.long -/
theorem F9 (x0 : PV) {r : PV} (h : CW Try.prog (RetQ R9 r) S9 [] ⟨[(0, .v x0)], [], 1000⟩) : EvP Try.prog 9 [x0] r :=
  EvP.mk' mixed Try.call9 Try.func9 rfl C9 Q9 (Nat.le_of_ble_eq_true rfl) (CW.start h)
theorem C10 : comp Try.prog Try.f10.ntmps ((Try.f10.body).getD .skip) = some S10 := by kernel_rfl
theorem Q10 : compRes Try.prog Try.f10.results.toList = some R10 := by kernel_rfl
/-- domino/dominoref11.Numbers -/
theorem F10 (x0 : PV) {r : PV} (h : CW Try.prog (RetQ R10 r) S10 [] ⟨[(0, .v x0)], [], 1000⟩) : EvP Try.prog 10 [x0] r :=
  EvP.mk' mixed Try.call10 Try.func10 rfl C10 Q10 (Nat.le_of_ble_eq_true rfl) (CW.start h)
theorem C11 : comp Try.prog Try.f11.ntmps ((Try.f11.body).getD .skip) = some S11 := by kernel_rfl
theorem Q11 : compRes Try.prog Try.f11.results.toList = some R11 := by kernel_rfl
/-- domino/dominoref29.Bases -/
theorem F11 (x0 : PV) {r : PV} (h : CW Try.prog (RetQ R11 r) S11 [] ⟨[(0, .v x0)], [], 1000⟩) : EvP Try.prog 11 [x0] r :=
  EvP.mk' mixed Try.call11 Try.func11 rfl C11 Q11 (Nat.le_of_ble_eq_true rfl) (CW.start h)
theorem C12 : comp Try.prog Try.f12.ntmps ((Try.f12.body).getD .skip) = some S12 := by kernel_rfl
theorem Q12 : compRes Try.prog Try.f12.results.toList = some R12 := by kernel_rfl
/-- slices.ContainsFunc[[]domino/api.Field,domino/api.Field] -/
theorem F12 (x0 x1 : PV) {r : PV} (h : CW Try.prog (RetQ R12 r) S12 [] ⟨[(0, .v x0), (1, .v x1)], [], 1000⟩) : EvP Try.prog 12 [x0, x1] r :=
  EvP.mk' mixed Try.call12 Try.func12 rfl C12 Q12 (Nat.le_of_ble_eq_true rfl) (CW.start h)
theorem C13 : comp Try.prog Try.f13.ntmps ((Try.f13.body).getD .skip) = some S13 := by kernel_rfl
theorem Q13 : compRes Try.prog Try.f13.results.toList = some R13 := by kernel_rfl
/-- domino/dominolaw52.Few$1 -/
theorem F13 (x0 : PV) {r : PV} (h : CW Try.prog (RetQ R13 r) S13 [] ⟨[(0, .v x0)], [], 1000⟩) : EvP Try.prog 13 [x0] r :=
  EvP.mk' mixed Try.call13 Try.func13 rfl C13 Q13 (Nat.le_of_ble_eq_true rfl) (CW.start h)
theorem C14 : comp Try.prog Try.f14.ntmps ((Try.f14.body).getD .skip) = some S14 := by kernel_rfl
theorem Q14 : compRes Try.prog Try.f14.results.toList = some R14 := by kernel_rfl
/-- domino/encoding.Decode -/
theorem F14 (x0 : PV) {r : PV} (h : CW Try.prog (RetQ R14 r) S14 [] ⟨[(0, .v x0)], [], 1000⟩) : EvP Try.prog 14 [x0] r :=
  EvP.mk' mixed Try.call14 Try.func14 rfl C14 Q14 (Nat.le_of_ble_eq_true rfl) (CW.start h)
theorem C15 : comp Try.prog Try.f15.ntmps ((Try.f15.body).getD .skip) = some S15 := by kernel_rfl
theorem Q15 : compRes Try.prog Try.f15.results.toList = some R15 := by kernel_rfl
/-- domino/presentation.Context$1 -/
theorem F15 (x0 : PV) {r : PV} (h : CW Try.prog (RetQ R15 r) S15 [] ⟨[(0, .v x0)], [], 1000⟩) : EvP Try.prog 15 [x0] r :=
  EvP.mk' mixed Try.call15 Try.func15 rfl C15 Q15 (Nat.le_of_ble_eq_true rfl) (CW.start h)
theorem C16 : comp Try.prog Try.f16.ntmps ((Try.f16.body).getD .skip) = some S16 := by kernel_rfl
theorem Q16 : compRes Try.prog Try.f16.results.toList = some R16 := by kernel_rfl
/-- domino/encoding.Int -/
theorem F16 (x0 : PV) {r : PV} (h : CW Try.prog (RetQ R16 r) S16 [] ⟨[(0, .v x0)], [], 1000⟩) : EvP Try.prog 16 [x0] r :=
  EvP.mk' mixed Try.call16 Try.func16 rfl C16 Q16 (Nat.le_of_ble_eq_true rfl) (CW.start h)
theorem C17 : comp Try.prog Try.f17.ntmps ((Try.f17.body).getD .skip) = some S17 := by kernel_rfl
theorem Q17 : compRes Try.prog Try.f17.results.toList = some R17 := by kernel_rfl
/-- domino/integer.Of -/
theorem F17 (x0 : PV) {r : PV} (h : CW Try.prog (RetQ R17 r) S17 [] ⟨[(0, .v x0)], [], 1000⟩) : EvP Try.prog 17 [x0] r :=
  EvP.mk' mixed Try.call17 Try.func17 rfl C17 Q17 (Nat.le_of_ble_eq_true rfl) (CW.start h)
theorem C18 : comp Try.prog Try.f18.ntmps ((Try.f18.body).getD .skip) = some S18 := by kernel_rfl
theorem Q18 : compRes Try.prog Try.f18.results.toList = some R18 := by kernel_rfl
/-- domino/encoding.List -/
theorem F18 (x0 : PV) {r : PV} (h : CW Try.prog (RetQ R18 r) S18 [] ⟨[(0, .v x0)], [], 1000⟩) : EvP Try.prog 18 [x0] r :=
  EvP.mk' mixed Try.call18 Try.func18 rfl C18 Q18 (Nat.le_of_ble_eq_true rfl) (CW.start h)
theorem C19 : comp Try.prog Try.f19.ntmps ((Try.f19.body).getD .skip) = some S19 := by kernel_rfl
theorem Q19 : compRes Try.prog Try.f19.results.toList = some R19 := by kernel_rfl
/-- domino/encoding.Text -/
theorem F19 (x0 : PV) {r : PV} (h : CW Try.prog (RetQ R19 r) S19 [] ⟨[(0, .v x0)], [], 1000⟩) : EvP Try.prog 19 [x0] r :=
  EvP.mk' mixed Try.call19 Try.func19 rfl C19 Q19 (Nat.le_of_ble_eq_true rfl) (CW.start h)
theorem C20 : comp Try.prog Try.f20.ntmps ((Try.f20.body).getD .skip) = some S20 := by kernel_rfl
theorem Q20 : compRes Try.prog Try.f20.results.toList = some R20 := by kernel_rfl
/-- domino/encoding.Nat -/
theorem F20 (x0 : PV) {r : PV} (h : CW Try.prog (RetQ R20 r) S20 [] ⟨[(0, .v x0)], [], 1000⟩) : EvP Try.prog 20 [x0] r :=
  EvP.mk' mixed Try.call20 Try.func20 rfl C20 Q20 (Nat.le_of_ble_eq_true rfl) (CW.start h)
theorem C21 : comp Try.prog Try.f21.ntmps ((Try.f21.body).getD .skip) = some S21 := by kernel_rfl
theorem Q21 : compRes Try.prog Try.f21.results.toList = some R21 := by kernel_rfl
/-- domino/presentation.nats -/
theorem F21 (x0 : PV) {r : PV} (h : CW Try.prog (RetQ R21 r) S21 [] ⟨[(0, .v x0)], [], 1000⟩) : EvP Try.prog 21 [x0] r :=
  EvP.mk' mixed Try.call21 Try.func21 rfl C21 Q21 (Nat.le_of_ble_eq_true rfl) (CW.start h)
theorem C22 : comp Try.prog Try.f22.ntmps ((Try.f22.body).getD .skip) = some S22 := by kernel_rfl
theorem Q22 : compRes Try.prog Try.f22.results.toList = some R22 := by kernel_rfl
/-- domino/encoding.Encode -/
theorem F22 (x0 : PV) {r : PV} (h : CW Try.prog (RetQ R22 r) S22 [] ⟨[(0, .v x0)], [], 1000⟩) : EvP Try.prog 22 [x0] r :=
  EvP.mk' mixed Try.call22 Try.func22 rfl C22 Q22 (Nat.le_of_ble_eq_true rfl) (CW.start h)
theorem C23 : comp Try.prog Try.f23.ntmps ((Try.f23.body).getD .skip) = some S23 := by kernel_rfl
theorem Q23 : compRes Try.prog Try.f23.results.toList = some R23 := by kernel_rfl
/-- domino/presentation.lists -/
theorem F23 (x0 : PV) {r : PV} (h : CW Try.prog (RetQ R23 r) S23 [] ⟨[(0, .v x0)], [], 1000⟩) : EvP Try.prog 23 [x0] r :=
  EvP.mk' mixed Try.call23 Try.func23 rfl C23 Q23 (Nat.le_of_ble_eq_true rfl) (CW.start h)
theorem C24 : comp Try.prog Try.f24.ntmps ((Try.f24.body).getD .skip) = some S24 := by kernel_rfl
theorem Q24 : compRes Try.prog Try.f24.results.toList = some R24 := by kernel_rfl
/-- domino/dominoref08.List -/
theorem F24 (x0 : PV) {r : PV} (h : CW Try.prog (RetQ R24 r) S24 [] ⟨[(0, .v x0)], [], 1000⟩) : EvP Try.prog 24 [x0] r :=
  EvP.mk' mixed Try.call24 Try.func24 rfl C24 Q24 (Nat.le_of_ble_eq_true rfl) (CW.start h)
theorem C25 : comp Try.prog Try.f25.ntmps ((Try.f25.body).getD .skip) = some S25 := by kernel_rfl
theorem Q25 : compRes Try.prog Try.f25.results.toList = some R25 := by kernel_rfl
/-- domino/dominoref08.Text -/
theorem F25 (x0 : PV) {r : PV} (h : CW Try.prog (RetQ R25 r) S25 [] ⟨[(0, .v x0)], [], 1000⟩) : EvP Try.prog 25 [x0] r :=
  EvP.mk' mixed Try.call25 Try.func25 rfl C25 Q25 (Nat.le_of_ble_eq_true rfl) (CW.start h)
theorem C26 : comp Try.prog Try.f26.ntmps ((Try.f26.body).getD .skip) = some S26 := by kernel_rfl
theorem Q26 : compRes Try.prog Try.f26.results.toList = some R26 := by kernel_rfl
/-- domino/dominoref52.integer -/
theorem F26 (x0 : PV) {r : PV} (h : CW Try.prog (RetQ R26 r) S26 [] ⟨[(0, .v x0)], [], 1000⟩) : EvP Try.prog 26 [x0] r :=
  EvP.mk' mixed Try.call26 Try.func26 rfl C26 Q26 (Nat.le_of_ble_eq_true rfl) (CW.start h)
theorem C27 : comp Try.prog Try.f27.ntmps ((Try.f27.body).getD .skip) = some S27 := by kernel_rfl
theorem Q27 : compRes Try.prog Try.f27.results.toList = some R27 := by kernel_rfl
/-- domino/dominoref08.Nat -/
theorem F27 (x0 : PV) {r : PV} (h : CW Try.prog (RetQ R27 r) S27 [] ⟨[(0, .v x0)], [], 1000⟩) : EvP Try.prog 27 [x0] r :=
  EvP.mk' mixed Try.call27 Try.func27 rfl C27 Q27 (Nat.le_of_ble_eq_true rfl) (CW.start h)
theorem C28 : comp Try.prog Try.f28.ntmps ((Try.f28.body).getD .skip) = some S28 := by kernel_rfl
theorem Q28 : compRes Try.prog Try.f28.results.toList = some R28 := by kernel_rfl
/-- domino/dominoref52.nats -/
theorem F28 (x0 : PV) {r : PV} (h : CW Try.prog (RetQ R28 r) S28 [] ⟨[(0, .v x0)], [], 1000⟩) : EvP Try.prog 28 [x0] r :=
  EvP.mk' mixed Try.call28 Try.func28 rfl C28 Q28 (Nat.le_of_ble_eq_true rfl) (CW.start h)
theorem C29 : comp Try.prog Try.f29.ntmps ((Try.f29.body).getD .skip) = some S29 := by kernel_rfl
theorem Q29 : compRes Try.prog Try.f29.results.toList = some R29 := by kernel_rfl
/-- domino/dominoref08.Encode -/
theorem F29 (x0 : PV) {r : PV} (h : CW Try.prog (RetQ R29 r) S29 [] ⟨[(0, .v x0)], [], 1000⟩) : EvP Try.prog 29 [x0] r :=
  EvP.mk' mixed Try.call29 Try.func29 rfl C29 Q29 (Nat.le_of_ble_eq_true rfl) (CW.start h)
theorem C30 : comp Try.prog Try.f30.ntmps ((Try.f30.body).getD .skip) = some S30 := by kernel_rfl
theorem Q30 : compRes Try.prog Try.f30.results.toList = some R30 := by kernel_rfl
/-- domino/dominoref52.lists -/
theorem F30 (x0 : PV) {r : PV} (h : CW Try.prog (RetQ R30 r) S30 [] ⟨[(0, .v x0)], [], 1000⟩) : EvP Try.prog 30 [x0] r :=
  EvP.mk' mixed Try.call30 Try.func30 rfl C30 Q30 (Nat.le_of_ble_eq_true rfl) (CW.start h)
theorem C31 : comp Try.prog Try.f31.ntmps ((Try.f31.body).getD .skip) = some S31 := by kernel_rfl
theorem Q31 : compRes Try.prog Try.f31.results.toList = some R31 := by kernel_rfl
/-- slices.ContainsFunc[[]domino/api.Nat,domino/api.Nat] -/
theorem F31 (x0 x1 : PV) {r : PV} (h : CW Try.prog (RetQ R31 r) S31 [] ⟨[(0, .v x0), (1, .v x1)], [], 1000⟩) : EvP Try.prog 31 [x0, x1] r :=
  EvP.mk' mixed Try.call31 Try.func31 rfl C31 Q31 (Nat.le_of_ble_eq_true rfl) (CW.start h)
theorem C32 : comp Try.prog Try.f32.ntmps ((Try.f32.body).getD .skip) = some S32 := by kernel_rfl
theorem Q32 : compRes Try.prog Try.f32.results.toList = some R32 := by kernel_rfl
/-- domino/dominolaw52.long$1 -/
theorem F32 (x0 : PV) {r : PV} (h : CW Try.prog (RetQ R32 r) S32 [] ⟨[(0, .v x0)], [], 1000⟩) : EvP Try.prog 32 [x0] r :=
  EvP.mk' mixed Try.call32 Try.func32 rfl C32 Q32 (Nat.le_of_ble_eq_true rfl) (CW.start h)
theorem C33 : comp Try.prog Try.f33.ntmps ((Try.f33.body).getD .skip) = some S33 := by kernel_rfl
theorem Q33 : compRes Try.prog Try.f33.results.toList = some R33 := by kernel_rfl
/-- slices.IndexFunc[[]domino/api.Field,domino/api.Field] -/
theorem F33 (x0 x1 : PV) {r : PV} (h : CW Try.prog (RetQ R33 r) S33 [] ⟨[(0, .v x0), (1, .v x1)], [], 1000⟩) : EvP Try.prog 33 [x0, x1] r :=
  EvP.mk' mixed Try.call33 Try.func33 rfl C33 Q33 (Nat.le_of_ble_eq_true rfl) (CW.start h)
theorem C35 : comp Try.prog Try.f35.ntmps ((Try.f35.body).getD .skip) = some S35 := by kernel_rfl
theorem Q35 : compRes Try.prog Try.f35.results.toList = some R35 := by kernel_rfl
/-- domino/natural.Of -/
theorem F35 (x0 : PV) {r : PV} (h : CW Try.prog (RetQ R35 r) S35 [] ⟨[(0, .v x0)], [], 1000⟩) : EvP Try.prog 35 [x0] r :=
  EvP.mk' mixed Try.call35 Try.func35 rfl C35 Q35 (Nat.le_of_ble_eq_true rfl) (CW.start h)
theorem C36 : comp Try.prog Try.f36.ntmps ((Try.f36.body).getD .skip) = some S36 := by kernel_rfl
theorem Q36 : compRes Try.prog Try.f36.results.toList = some R36 := by kernel_rfl
/-- domino/integer.made -/
theorem F36 (x0 x1 : PV) {r : PV} (h : CW Try.prog (RetQ R36 r) S36 [] ⟨[(0, .v x0), (1, .v x1)], [], 1000⟩) : EvP Try.prog 36 [x0, x1] r :=
  EvP.mk' mixed Try.call36 Try.func36 rfl C36 Q36 (Nat.le_of_ble_eq_true rfl) (CW.start h)
theorem C37 : comp Try.prog Try.f37.ntmps ((Try.f37.body).getD .skip) = some S37 := by kernel_rfl
theorem Q37 : compRes Try.prog Try.f37.results.toList = some R37 := by kernel_rfl
/-- domino/encoding.copied -/
theorem F37 (x0 : PV) {r : PV} (h : CW Try.prog (RetQ R37 r) S37 [] ⟨[(0, .v x0)], [], 1000⟩) : EvP Try.prog 37 [x0] r :=
  EvP.mk' mixed Try.call37 Try.func37 rfl C37 Q37 (Nat.le_of_ble_eq_true rfl) (CW.start h)
theorem C38 : comp Try.prog Try.f38.ntmps ((Try.f38.body).getD .skip) = some S38 := by kernel_rfl
theorem Q38 : compRes Try.prog Try.f38.results.toList = some R38 := by kernel_rfl
/-- domino/encoding.valid -/
theorem F38 (x0 : PV) {r : PV} (h : CW Try.prog (RetQ R38 r) S38 [] ⟨[(0, .v x0)], [], 1000⟩) : EvP Try.prog 38 [x0] r :=
  EvP.mk' mixed Try.call38 Try.func38 rfl C38 Q38 (Nat.le_of_ble_eq_true rfl) (CW.start h)
theorem C39 : comp Try.prog Try.f39.ntmps ((Try.f39.body).getD .skip) = some S39 := by kernel_rfl
theorem Q39 : compRes Try.prog Try.f39.results.toList = some R39 := by kernel_rfl
/-- domino/encoding.depth -/
theorem F39 (x0 : PV) {r : PV} (h : CW Try.prog (RetQ R39 r) S39 [] ⟨[(0, .v x0)], [], 1000⟩) : EvP Try.prog 39 [x0] r :=
  EvP.mk' mixed Try.call39 Try.func39 rfl C39 Q39 (Nat.le_of_ble_eq_true rfl) (CW.start h)
theorem C40 : comp Try.prog Try.f40.ntmps ((Try.f40.body).getD .skip) = some S40 := by kernel_rfl
theorem Q40 : compRes Try.prog Try.f40.results.toList = some R40 := by kernel_rfl
/-- domino/encoding.write -/
theorem F40 (x0 : PV) {r : PV} (h : CW Try.prog (RetQ R40 r) S40 [] ⟨[(0, .v x0)], [], 1000⟩) : EvP Try.prog 40 [x0] r :=
  EvP.mk' mixed Try.call40 Try.func40 rfl C40 Q40 (Nat.le_of_ble_eq_true rfl) (CW.start h)
theorem C41 : comp Try.prog Try.f41.ntmps ((Try.f41.body).getD .skip) = some S41 := by kernel_rfl
theorem Q41 : compRes Try.prog Try.f41.results.toList = some R41 := by kernel_rfl
/-- domino/dominoref08.Int -/
theorem F41 (x0 : PV) {r : PV} (h : CW Try.prog (RetQ R41 r) S41 [] ⟨[(0, .v x0)], [], 1000⟩) : EvP Try.prog 41 [x0] r :=
  EvP.mk' mixed Try.call41 Try.func41 rfl C41 Q41 (Nat.le_of_ble_eq_true rfl) (CW.start h)
theorem C42 : comp Try.prog Try.f42.ntmps ((Try.f42.body).getD .skip) = some S42 := by kernel_rfl
theorem Q42 : compRes Try.prog Try.f42.results.toList = some R42 := by kernel_rfl
/-- domino/dominoref02.Of -/
theorem F42 (x0 : PV) {r : PV} (h : CW Try.prog (RetQ R42 r) S42 [] ⟨[(0, .v x0)], [], 1000⟩) : EvP Try.prog 42 [x0] r :=
  EvP.mk' mixed Try.call42 Try.func42 rfl C42 Q42 (Nat.le_of_ble_eq_true rfl) (CW.start h)
theorem C43 : comp Try.prog Try.f43.ntmps ((Try.f43.body).getD .skip) = some S43 := by kernel_rfl
theorem Q43 : compRes Try.prog Try.f43.results.toList = some R43 := by kernel_rfl
/-- domino/dominoref08.Valid -/
theorem F43 (x0 : PV) {r : PV} (h : CW Try.prog (RetQ R43 r) S43 [] ⟨[(0, .v x0)], [], 1000⟩) : EvP Try.prog 43 [x0] r :=
  EvP.mk' mixed Try.call43 Try.func43 rfl C43 Q43 (Nat.le_of_ble_eq_true rfl) (CW.start h)
theorem C44 : comp Try.prog Try.f44.ntmps ((Try.f44.body).getD .skip) = some S44 := by kernel_rfl
theorem Q44 : compRes Try.prog Try.f44.results.toList = some R44 := by kernel_rfl
/-- domino/dominoref08.Depth -/
theorem F44 (x0 : PV) {r : PV} (h : CW Try.prog (RetQ R44 r) S44 [] ⟨[(0, .v x0)], [], 1000⟩) : EvP Try.prog 44 [x0] r :=
  EvP.mk' mixed Try.call44 Try.func44 rfl C44 Q44 (Nat.le_of_ble_eq_true rfl) (CW.start h)
theorem C45 : comp Try.prog Try.f45.ntmps ((Try.f45.body).getD .skip) = some S45 := by kernel_rfl
theorem Q45 : compRes Try.prog Try.f45.results.toList = some R45 := by kernel_rfl
/-- domino/dominoref08.Write -/
theorem F45 (x0 : PV) {r : PV} (h : CW Try.prog (RetQ R45 r) S45 [] ⟨[(0, .v x0)], [], 1000⟩) : EvP Try.prog 45 [x0] r :=
  EvP.mk' mixed Try.call45 Try.func45 rfl C45 Q45 (Nat.le_of_ble_eq_true rfl) (CW.start h)
theorem C46 : comp Try.prog Try.f46.ntmps ((Try.f46.body).getD .skip) = some S46 := by kernel_rfl
theorem Q46 : compRes Try.prog Try.f46.results.toList = some R46 := by kernel_rfl
/-- slices.IndexFunc[[]domino/api.Nat,domino/api.Nat] -/
theorem F46 (x0 x1 : PV) {r : PV} (h : CW Try.prog (RetQ R46 r) S46 [] ⟨[(0, .v x0), (1, .v x1)], [], 1000⟩) : EvP Try.prog 46 [x0, x1] r :=
  EvP.mk' mixed Try.call46 Try.func46 rfl C46 Q46 (Nat.le_of_ble_eq_true rfl) (CW.start h)
theorem C48 : comp Try.prog Try.f48.ntmps ((Try.f48.body).getD .skip) = some S48 := by kernel_rfl
theorem Q48 : compRes Try.prog Try.f48.results.toList = some R48 := by kernel_rfl
/-- (*domino/encoding.reader).item -/
theorem F48 (x0 x1 x2 : PV) {r : PV} (h : CW Try.prog (RetQ R48 r) S48 [] ⟨[(0, .v x0), (1, .v x1), (2, .v x2)], [], 1000⟩) : EvP Try.prog 48 [x0, x1, x2] r :=
  EvP.mk' mixed Try.call48 Try.func48 rfl C48 Q48 (Nat.le_of_ble_eq_true rfl) (CW.start h)
theorem C49 : comp Try.prog Try.f49.ntmps ((Try.f49.body).getD .skip) = some S49 := by kernel_rfl
theorem Q49 : compRes Try.prog Try.f49.results.toList = some R49 := by kernel_rfl
/-- domino/natural.trimmed -/
theorem F49 (x0 : PV) {r : PV} (h : CW Try.prog (RetQ R49 r) S49 [] ⟨[(0, .v x0)], [], 1000⟩) : EvP Try.prog 49 [x0] r :=
  EvP.mk' mixed Try.call49 Try.func49 rfl C49 Q49 (Nat.le_of_ble_eq_true rfl) (CW.start h)
theorem C50 : comp Try.prog Try.f50.ntmps ((Try.f50.body).getD .skip) = some S50 := by kernel_rfl
theorem Q50 : compRes Try.prog Try.f50.results.toList = some R50 := by kernel_rfl
/-- domino/natural.Valid -/
theorem F50 (x0 : PV) {r : PV} (h : CW Try.prog (RetQ R50 r) S50 [] ⟨[(0, .v x0)], [], 1000⟩) : EvP Try.prog 50 [x0] r :=
  EvP.mk' mixed Try.call50 Try.func50 rfl C50 Q50 (Nat.le_of_ble_eq_true rfl) (CW.start h)
theorem C51 : comp Try.prog Try.f51.ntmps ((Try.f51.body).getD .skip) = some S51 := by kernel_rfl
theorem Q51 : compRes Try.prog Try.f51.results.toList = some R51 := by kernel_rfl
/-- (*strings.Builder).WriteString -/
theorem F51 (x0 x1 : PV) {r : PV} (h : CW Try.prog (RetQ R51 r) S51 [] ⟨[(0, .v x0), (1, .v x1)], [], 1000⟩) : EvP Try.prog 51 [x0, x1] r :=
  EvP.mk' mixed Try.call51 Try.func51 rfl C51 Q51 (Nat.le_of_ble_eq_true rfl) (CW.start h)
theorem C52 : comp Try.prog Try.f52.ntmps ((Try.f52.body).getD .skip) = some S52 := by kernel_rfl
theorem Q52 : compRes Try.prog Try.f52.results.toList = some R52 := by kernel_rfl
/-- domino/encoding.length -/
theorem F52 (x0 : PV) {r : PV} (h : CW Try.prog (RetQ R52 r) S52 [] ⟨[(0, .v x0)], [], 1000⟩) : EvP Try.prog 52 [x0] r :=
  EvP.mk' mixed Try.call52 Try.func52 rfl C52 Q52 (Nat.le_of_ble_eq_true rfl) (CW.start h)
theorem C53 : comp Try.prog Try.f53.ntmps ((Try.f53.body).getD .skip) = some S53 := by kernel_rfl
theorem Q53 : compRes Try.prog Try.f53.results.toList = some R53 := by kernel_rfl
/-- (*strings.Builder).Len -/
theorem F53 (x0 : PV) {r : PV} (h : CW Try.prog (RetQ R53 r) S53 [] ⟨[(0, .v x0)], [], 1000⟩) : EvP Try.prog 53 [x0] r :=
  EvP.mk' mixed Try.call53 Try.func53 rfl C53 Q53 (Nat.le_of_ble_eq_true rfl) (CW.start h)
theorem C54 : comp Try.prog Try.f54.ntmps ((Try.f54.body).getD .skip) = some S54 := by kernel_rfl
theorem Q54 : compRes Try.prog Try.f54.results.toList = some R54 := by kernel_rfl
/-- (*strings.Builder).String -/
theorem F54 (x0 : PV) {r : PV} (h : CW Try.prog (RetQ R54 r) S54 [] ⟨[(0, .v x0)], [], 1000⟩) : EvP Try.prog 54 [x0] r :=
  EvP.mk' mixed Try.call54 Try.func54 rfl C54 Q54 (Nat.le_of_ble_eq_true rfl) (CW.start h)
theorem C55 : comp Try.prog Try.f55.ntmps ((Try.f55.body).getD .skip) = some S55 := by kernel_rfl
theorem Q55 : compRes Try.prog Try.f55.results.toList = some R55 := by kernel_rfl
/-- domino/dominoref02.Make -/
theorem F55 (x0 x1 : PV) {r : PV} (h : CW Try.prog (RetQ R55 r) S55 [] ⟨[(0, .v x0), (1, .v x1)], [], 1000⟩) : EvP Try.prog 55 [x0, x1] r :=
  EvP.mk' mixed Try.call55 Try.func55 rfl C55 Q55 (Nat.le_of_ble_eq_true rfl) (CW.start h)
theorem C56 : comp Try.prog Try.f56.ntmps ((Try.f56.body).getD .skip) = some S56 := by kernel_rfl
theorem Q56 : compRes Try.prog Try.f56.results.toList = some R56 := by kernel_rfl
/-- domino/dominoref01.Of -/
theorem F56 (x0 : PV) {r : PV} (h : CW Try.prog (RetQ R56 r) S56 [] ⟨[(0, .v x0)], [], 1000⟩) : EvP Try.prog 56 [x0] r :=
  EvP.mk' mixed Try.call56 Try.func56 rfl C56 Q56 (Nat.le_of_ble_eq_true rfl) (CW.start h)
theorem C57 : comp Try.prog Try.f57.ntmps ((Try.f57.body).getD .skip) = some S57 := by kernel_rfl
theorem Q57 : compRes Try.prog Try.f57.results.toList = some R57 := by kernel_rfl
/-- domino/dominoref08.canonical -/
theorem F57 (x0 : PV) {r : PV} (h : CW Try.prog (RetQ R57 r) S57 [] ⟨[(0, .v x0)], [], 1000⟩) : EvP Try.prog 57 [x0] r :=
  EvP.mk' mixed Try.call57 Try.func57 rfl C57 Q57 (Nat.le_of_ble_eq_true rfl) (CW.start h)
theorem C58 : comp Try.prog Try.f58.ntmps ((Try.f58.body).getD .skip) = some S58 := by kernel_rfl
theorem Q58 : compRes Try.prog Try.f58.results.toList = some R58 := by kernel_rfl
/-- domino/dominoref08.Length -/
theorem F58 (x0 : PV) {r : PV} (h : CW Try.prog (RetQ R58 r) S58 [] ⟨[(0, .v x0)], [], 1000⟩) : EvP Try.prog 58 [x0] r :=
  EvP.mk' mixed Try.call58 Try.func58 rfl C58 Q58 (Nat.le_of_ble_eq_true rfl) (CW.start h)
theorem C59 : comp Try.prog Try.f59.ntmps ((Try.f59.body).getD .skip) = some S59 := by kernel_rfl
theorem Q59 : compRes Try.prog Try.f59.results.toList = some R59 := by kernel_rfl
/-- (*domino/encoding.reader).size -/
theorem F59 (x0 x1 : PV) {r : PV} (h : CW Try.prog (RetQ R59 r) S59 [] ⟨[(0, .v x0), (1, .v x1)], [], 1000⟩) : EvP Try.prog 59 [x0, x1] r :=
  EvP.mk' mixed Try.call59 Try.func59 rfl C59 Q59 (Nat.le_of_ble_eq_true rfl) (CW.start h)
theorem C60 : comp Try.prog Try.f60.ntmps ((Try.f60.body).getD .skip) = some S60 := by kernel_rfl
theorem Q60 : compRes Try.prog Try.f60.results.toList = some R60 := by kernel_rfl
/-- (*strings.Builder).copyCheck -/
theorem F60 (x0 : PV) {r : PV} (h : CW Try.prog (RetQ R60 r) S60 [] ⟨[(0, .v x0)], [], 1000⟩) : EvP Try.prog 60 [x0] r :=
  EvP.mk' mixed Try.call60 Try.func60 rfl C60 Q60 (Nat.le_of_ble_eq_true rfl) (CW.start h)
theorem C61 : comp Try.prog Try.f61.ntmps ((Try.f61.body).getD .skip) = some S61 := by kernel_rfl
theorem Q61 : compRes Try.prog Try.f61.results.toList = some R61 := by kernel_rfl
/-- domino/dominoref01.trim -/
theorem F61 (x0 : PV) {r : PV} (h : CW Try.prog (RetQ R61 r) S61 [] ⟨[(0, .v x0)], [], 1000⟩) : EvP Try.prog 61 [x0] r :=
  EvP.mk' mixed Try.call61 Try.func61 rfl C61 Q61 (Nat.le_of_ble_eq_true rfl) (CW.start h)
end Go.Proofs.Ytjigfdhjmfcbpaa
