/- Walk: umbralaw27.LampFar. Layer 27: LampBehind holds. Layer 27: LampSamples holds. Plain numbers: the length of a place's direction. Layer 27: numbers of LampFar. Layer 27: LampFar holds. Layer 27: LampFar as its frame asks for it. Layer 27: LampSamples, LampBehind as their frames ask for them. -/
import Derived.Test.YtjhnkpapbjkbcaaN27
import Derived.Test.YtjhnkpapbjkbcaaVecG
import Derived.Test.YtjhnkpapbjkbcaaGoF
namespace Go.Proofs.Ytjhnkpapbjkbcaa
open Go.RowKit Go.Sort
set_option linter.unusedVariables false
set_option linter.unusedSimpArgs false

def e_umbralaw27_LampFar (r : Bool) : Value := .bool r
def s_umbralaw27_LampFar (l : Int × (Int × Int × Int) × (Int × Int × Int) × (Int × Int × Int) × (Int × Int × Int)) (way : Int × Int × Int) : Bool :=
  lt (Int.tmod way.1 8192) fun x15 =>
  lt (Int.tmod way.2.1 8192) fun x17 =>
  lt (Int.tmod way.2.2 8192) fun x19 =>
  lt (vtow (x15, x17, x19)) fun r23 =>
  lt (s_tri_Sub (0, 0, 0) (x15, x17, x19)) fun r35 =>
  lt (s_lamp_Sample (0, l.2.1, (0, 0, 0), (0, 0, 0), (0, 0, 0)) r35 r23 (0, 0)) fun r37 =>
  if r37.2.1 = true then
    if r37.2.2.1 = true then
      lt (IntKind.i64.wrap (2 * x15)) fun x987 =>
      lt (IntKind.i64.wrap (2 * x17)) fun x989 =>
      lt (IntKind.i64.wrap (2 * x19)) fun x991 =>
      lt (s_tri_Sub (0, 0, 0) (x987, x989, x991)) fun r993 =>
      lt (s_lamp_Sample (0, l.2.1, (0, 0, 0), (0, 0, 0), (0, 0, 0)) r993 r23 (0, 0)) fun r995 =>
      if r995.2.1 = true then
        if r995.2.2.1 = true then
          lt (s_umbralaw27_works ) fun r1051 =>
          if r1051 = true then
            true
          else
            false
        else
          lt (s_umbralaw27_works ) fun r1038 =>
          if r1038 = true then
            true
          else
            false
      else
        if r995.2.2.1 = true then
          lt (s_umbralaw27_works ) fun r1024 =>
          if r1024 = true then
            true
          else
            false
        else
          lt (s_umbralaw27_works ) fun r1011 =>
          if r1011 = true then
            true
          else
            false
    else
      lt (IntKind.i64.wrap (2 * x15)) fun x563 =>
      lt (IntKind.i64.wrap (2 * x17)) fun x565 =>
      lt (IntKind.i64.wrap (2 * x19)) fun x567 =>
      lt (s_tri_Sub (0, 0, 0) (x563, x565, x567)) fun r569 =>
      lt (s_lamp_Sample (0, l.2.1, (0, 0, 0), (0, 0, 0), (0, 0, 0)) r569 r23 (0, 0)) fun r571 =>
      if r571.2.1 = true then
        if r571.2.2.1 = true then
          lt (s_umbralaw27_works ) fun r969 =>
          if r969 = true then
            true
          else
            false
        else
          if r37.2.2.2.1 ≥ 1152921504606846976 then
            if r37.2.2.2.2.1 ≥ 1152921504606846976 then
              if r37.2.2.2.2.2 ≥ 1152921504606846976 then
                lt (s_umbralaw27_works ) fun r806 =>
                if r806 = true then
                  true
                else
                  false
              else
                lt (IntKind.i64.wrap (Int.tdiv r37.2.2.2.2.2 4)) fun x811 =>
                lt (IntKind.i64.wrap (x811 - r571.2.2.2.2.2)) fun x813 =>
                lt (fabs x813) fun r815 =>
                lt (Int.fdiv r37.2.2.2.2.2 (2 ^ 10)) fun x819 =>
                lt (IntKind.i64.wrap (x819 + 4096)) fun x821 =>
                if r815 > x821 then
                  false
                else
                  lt (s_umbralaw27_works ) fun r824 =>
                  if r824 = true then
                    true
                  else
                    false
            else
              lt (IntKind.i64.wrap (Int.tdiv r37.2.2.2.2.1 4)) fun x829 =>
              lt (IntKind.i64.wrap (x829 - r571.2.2.2.2.1)) fun x831 =>
              lt (fabs x831) fun r833 =>
              lt (Int.fdiv r37.2.2.2.2.1 (2 ^ 10)) fun x837 =>
              lt (IntKind.i64.wrap (x837 + 4096)) fun x839 =>
              if r833 > x839 then
                false
              else
                if r37.2.2.2.2.2 ≥ 1152921504606846976 then
                  lt (s_umbralaw27_works ) fun r848 =>
                  if r848 = true then
                    true
                  else
                    false
                else
                  lt (IntKind.i64.wrap (Int.tdiv r37.2.2.2.2.2 4)) fun x853 =>
                  lt (IntKind.i64.wrap (x853 - r571.2.2.2.2.2)) fun x855 =>
                  lt (fabs x855) fun r857 =>
                  lt (Int.fdiv r37.2.2.2.2.2 (2 ^ 10)) fun x861 =>
                  lt (IntKind.i64.wrap (x861 + 4096)) fun x863 =>
                  if r857 > x863 then
                    false
                  else
                    lt (s_umbralaw27_works ) fun r866 =>
                    if r866 = true then
                      true
                    else
                      false
          else
            lt (IntKind.i64.wrap (Int.tdiv r37.2.2.2.1 4)) fun x871 =>
            lt (IntKind.i64.wrap (x871 - r571.2.2.2.1)) fun x873 =>
            lt (fabs x873) fun r875 =>
            lt (Int.fdiv r37.2.2.2.1 (2 ^ 10)) fun x879 =>
            lt (IntKind.i64.wrap (x879 + 4096)) fun x881 =>
            if r875 > x881 then
              false
            else
              if r37.2.2.2.2.1 ≥ 1152921504606846976 then
                if r37.2.2.2.2.2 ≥ 1152921504606846976 then
                  lt (s_umbralaw27_works ) fun r896 =>
                  if r896 = true then
                    true
                  else
                    false
                else
                  lt (IntKind.i64.wrap (Int.tdiv r37.2.2.2.2.2 4)) fun x901 =>
                  lt (IntKind.i64.wrap (x901 - r571.2.2.2.2.2)) fun x903 =>
                  lt (fabs x903) fun r905 =>
                  lt (Int.fdiv r37.2.2.2.2.2 (2 ^ 10)) fun x909 =>
                  lt (IntKind.i64.wrap (x909 + 4096)) fun x911 =>
                  if r905 > x911 then
                    false
                  else
                    lt (s_umbralaw27_works ) fun r914 =>
                    if r914 = true then
                      true
                    else
                      false
              else
                lt (IntKind.i64.wrap (Int.tdiv r37.2.2.2.2.1 4)) fun x919 =>
                lt (IntKind.i64.wrap (x919 - r571.2.2.2.2.1)) fun x921 =>
                lt (fabs x921) fun r923 =>
                lt (Int.fdiv r37.2.2.2.2.1 (2 ^ 10)) fun x927 =>
                lt (IntKind.i64.wrap (x927 + 4096)) fun x929 =>
                if r923 > x929 then
                  false
                else
                  if r37.2.2.2.2.2 ≥ 1152921504606846976 then
                    lt (s_umbralaw27_works ) fun r938 =>
                    if r938 = true then
                      true
                    else
                      false
                  else
                    lt (IntKind.i64.wrap (Int.tdiv r37.2.2.2.2.2 4)) fun x943 =>
                    lt (IntKind.i64.wrap (x943 - r571.2.2.2.2.2)) fun x945 =>
                    lt (fabs x945) fun r947 =>
                    lt (Int.fdiv r37.2.2.2.2.2 (2 ^ 10)) fun x951 =>
                    lt (IntKind.i64.wrap (x951 + 4096)) fun x953 =>
                    if r947 > x953 then
                      false
                    else
                      lt (s_umbralaw27_works ) fun r956 =>
                      if r956 = true then
                        true
                      else
                        false
      else
        if r571.2.2.1 = true then
          lt (s_umbralaw27_works ) fun r771 =>
          if r771 = true then
            true
          else
            false
        else
          if r37.2.2.2.1 ≥ 1152921504606846976 then
            if r37.2.2.2.2.1 ≥ 1152921504606846976 then
              if r37.2.2.2.2.2 ≥ 1152921504606846976 then
                lt (s_umbralaw27_works ) fun r608 =>
                if r608 = true then
                  true
                else
                  false
              else
                lt (IntKind.i64.wrap (Int.tdiv r37.2.2.2.2.2 4)) fun x613 =>
                lt (IntKind.i64.wrap (x613 - r571.2.2.2.2.2)) fun x615 =>
                lt (fabs x615) fun r617 =>
                lt (Int.fdiv r37.2.2.2.2.2 (2 ^ 10)) fun x621 =>
                lt (IntKind.i64.wrap (x621 + 4096)) fun x623 =>
                if r617 > x623 then
                  false
                else
                  lt (s_umbralaw27_works ) fun r626 =>
                  if r626 = true then
                    true
                  else
                    false
            else
              lt (IntKind.i64.wrap (Int.tdiv r37.2.2.2.2.1 4)) fun x631 =>
              lt (IntKind.i64.wrap (x631 - r571.2.2.2.2.1)) fun x633 =>
              lt (fabs x633) fun r635 =>
              lt (Int.fdiv r37.2.2.2.2.1 (2 ^ 10)) fun x639 =>
              lt (IntKind.i64.wrap (x639 + 4096)) fun x641 =>
              if r635 > x641 then
                false
              else
                if r37.2.2.2.2.2 ≥ 1152921504606846976 then
                  lt (s_umbralaw27_works ) fun r650 =>
                  if r650 = true then
                    true
                  else
                    false
                else
                  lt (IntKind.i64.wrap (Int.tdiv r37.2.2.2.2.2 4)) fun x655 =>
                  lt (IntKind.i64.wrap (x655 - r571.2.2.2.2.2)) fun x657 =>
                  lt (fabs x657) fun r659 =>
                  lt (Int.fdiv r37.2.2.2.2.2 (2 ^ 10)) fun x663 =>
                  lt (IntKind.i64.wrap (x663 + 4096)) fun x665 =>
                  if r659 > x665 then
                    false
                  else
                    lt (s_umbralaw27_works ) fun r668 =>
                    if r668 = true then
                      true
                    else
                      false
          else
            lt (IntKind.i64.wrap (Int.tdiv r37.2.2.2.1 4)) fun x673 =>
            lt (IntKind.i64.wrap (x673 - r571.2.2.2.1)) fun x675 =>
            lt (fabs x675) fun r677 =>
            lt (Int.fdiv r37.2.2.2.1 (2 ^ 10)) fun x681 =>
            lt (IntKind.i64.wrap (x681 + 4096)) fun x683 =>
            if r677 > x683 then
              false
            else
              if r37.2.2.2.2.1 ≥ 1152921504606846976 then
                if r37.2.2.2.2.2 ≥ 1152921504606846976 then
                  lt (s_umbralaw27_works ) fun r698 =>
                  if r698 = true then
                    true
                  else
                    false
                else
                  lt (IntKind.i64.wrap (Int.tdiv r37.2.2.2.2.2 4)) fun x703 =>
                  lt (IntKind.i64.wrap (x703 - r571.2.2.2.2.2)) fun x705 =>
                  lt (fabs x705) fun r707 =>
                  lt (Int.fdiv r37.2.2.2.2.2 (2 ^ 10)) fun x711 =>
                  lt (IntKind.i64.wrap (x711 + 4096)) fun x713 =>
                  if r707 > x713 then
                    false
                  else
                    lt (s_umbralaw27_works ) fun r716 =>
                    if r716 = true then
                      true
                    else
                      false
              else
                lt (IntKind.i64.wrap (Int.tdiv r37.2.2.2.2.1 4)) fun x721 =>
                lt (IntKind.i64.wrap (x721 - r571.2.2.2.2.1)) fun x723 =>
                lt (fabs x723) fun r725 =>
                lt (Int.fdiv r37.2.2.2.2.1 (2 ^ 10)) fun x729 =>
                lt (IntKind.i64.wrap (x729 + 4096)) fun x731 =>
                if r725 > x731 then
                  false
                else
                  if r37.2.2.2.2.2 ≥ 1152921504606846976 then
                    lt (s_umbralaw27_works ) fun r740 =>
                    if r740 = true then
                      true
                    else
                      false
                  else
                    lt (IntKind.i64.wrap (Int.tdiv r37.2.2.2.2.2 4)) fun x745 =>
                    lt (IntKind.i64.wrap (x745 - r571.2.2.2.2.2)) fun x747 =>
                    lt (fabs x747) fun r749 =>
                    lt (Int.fdiv r37.2.2.2.2.2 (2 ^ 10)) fun x753 =>
                    lt (IntKind.i64.wrap (x753 + 4096)) fun x755 =>
                    if r749 > x755 then
                      false
                    else
                      lt (s_umbralaw27_works ) fun r758 =>
                      if r758 = true then
                        true
                      else
                        false
  else
    if r37.2.2.1 = true then
      lt (IntKind.i64.wrap (2 * x15)) fun x480 =>
      lt (IntKind.i64.wrap (2 * x17)) fun x482 =>
      lt (IntKind.i64.wrap (2 * x19)) fun x484 =>
      lt (s_tri_Sub (0, 0, 0) (x480, x482, x484)) fun r486 =>
      lt (s_lamp_Sample (0, l.2.1, (0, 0, 0), (0, 0, 0), (0, 0, 0)) r486 r23 (0, 0)) fun r488 =>
      if r488.2.1 = true then
        if r488.2.2.1 = true then
          lt (s_umbralaw27_works ) fun r544 =>
          if r544 = true then
            true
          else
            false
        else
          lt (s_umbralaw27_works ) fun r531 =>
          if r531 = true then
            true
          else
            false
      else
        if r488.2.2.1 = true then
          lt (s_umbralaw27_works ) fun r517 =>
          if r517 = true then
            true
          else
            false
        else
          lt (s_umbralaw27_works ) fun r504 =>
          if r504 = true then
            true
          else
            false
    else
      lt (IntKind.i64.wrap (2 * x15)) fun x56 =>
      lt (IntKind.i64.wrap (2 * x17)) fun x58 =>
      lt (IntKind.i64.wrap (2 * x19)) fun x60 =>
      lt (s_tri_Sub (0, 0, 0) (x56, x58, x60)) fun r62 =>
      lt (s_lamp_Sample (0, l.2.1, (0, 0, 0), (0, 0, 0), (0, 0, 0)) r62 r23 (0, 0)) fun r64 =>
      if r64.2.1 = true then
        if r64.2.2.1 = true then
          lt (s_umbralaw27_works ) fun r462 =>
          if r462 = true then
            true
          else
            false
        else
          if r37.2.2.2.1 ≥ 1152921504606846976 then
            if r37.2.2.2.2.1 ≥ 1152921504606846976 then
              if r37.2.2.2.2.2 ≥ 1152921504606846976 then
                lt (s_umbralaw27_works ) fun r299 =>
                if r299 = true then
                  true
                else
                  false
              else
                lt (IntKind.i64.wrap (Int.tdiv r37.2.2.2.2.2 4)) fun x304 =>
                lt (IntKind.i64.wrap (x304 - r64.2.2.2.2.2)) fun x306 =>
                lt (fabs x306) fun r308 =>
                lt (Int.fdiv r37.2.2.2.2.2 (2 ^ 10)) fun x312 =>
                lt (IntKind.i64.wrap (x312 + 4096)) fun x314 =>
                if r308 > x314 then
                  false
                else
                  lt (s_umbralaw27_works ) fun r317 =>
                  if r317 = true then
                    true
                  else
                    false
            else
              lt (IntKind.i64.wrap (Int.tdiv r37.2.2.2.2.1 4)) fun x322 =>
              lt (IntKind.i64.wrap (x322 - r64.2.2.2.2.1)) fun x324 =>
              lt (fabs x324) fun r326 =>
              lt (Int.fdiv r37.2.2.2.2.1 (2 ^ 10)) fun x330 =>
              lt (IntKind.i64.wrap (x330 + 4096)) fun x332 =>
              if r326 > x332 then
                false
              else
                if r37.2.2.2.2.2 ≥ 1152921504606846976 then
                  lt (s_umbralaw27_works ) fun r341 =>
                  if r341 = true then
                    true
                  else
                    false
                else
                  lt (IntKind.i64.wrap (Int.tdiv r37.2.2.2.2.2 4)) fun x346 =>
                  lt (IntKind.i64.wrap (x346 - r64.2.2.2.2.2)) fun x348 =>
                  lt (fabs x348) fun r350 =>
                  lt (Int.fdiv r37.2.2.2.2.2 (2 ^ 10)) fun x354 =>
                  lt (IntKind.i64.wrap (x354 + 4096)) fun x356 =>
                  if r350 > x356 then
                    false
                  else
                    lt (s_umbralaw27_works ) fun r359 =>
                    if r359 = true then
                      true
                    else
                      false
          else
            lt (IntKind.i64.wrap (Int.tdiv r37.2.2.2.1 4)) fun x364 =>
            lt (IntKind.i64.wrap (x364 - r64.2.2.2.1)) fun x366 =>
            lt (fabs x366) fun r368 =>
            lt (Int.fdiv r37.2.2.2.1 (2 ^ 10)) fun x372 =>
            lt (IntKind.i64.wrap (x372 + 4096)) fun x374 =>
            if r368 > x374 then
              false
            else
              if r37.2.2.2.2.1 ≥ 1152921504606846976 then
                if r37.2.2.2.2.2 ≥ 1152921504606846976 then
                  lt (s_umbralaw27_works ) fun r389 =>
                  if r389 = true then
                    true
                  else
                    false
                else
                  lt (IntKind.i64.wrap (Int.tdiv r37.2.2.2.2.2 4)) fun x394 =>
                  lt (IntKind.i64.wrap (x394 - r64.2.2.2.2.2)) fun x396 =>
                  lt (fabs x396) fun r398 =>
                  lt (Int.fdiv r37.2.2.2.2.2 (2 ^ 10)) fun x402 =>
                  lt (IntKind.i64.wrap (x402 + 4096)) fun x404 =>
                  if r398 > x404 then
                    false
                  else
                    lt (s_umbralaw27_works ) fun r407 =>
                    if r407 = true then
                      true
                    else
                      false
              else
                lt (IntKind.i64.wrap (Int.tdiv r37.2.2.2.2.1 4)) fun x412 =>
                lt (IntKind.i64.wrap (x412 - r64.2.2.2.2.1)) fun x414 =>
                lt (fabs x414) fun r416 =>
                lt (Int.fdiv r37.2.2.2.2.1 (2 ^ 10)) fun x420 =>
                lt (IntKind.i64.wrap (x420 + 4096)) fun x422 =>
                if r416 > x422 then
                  false
                else
                  if r37.2.2.2.2.2 ≥ 1152921504606846976 then
                    lt (s_umbralaw27_works ) fun r431 =>
                    if r431 = true then
                      true
                    else
                      false
                  else
                    lt (IntKind.i64.wrap (Int.tdiv r37.2.2.2.2.2 4)) fun x436 =>
                    lt (IntKind.i64.wrap (x436 - r64.2.2.2.2.2)) fun x438 =>
                    lt (fabs x438) fun r440 =>
                    lt (Int.fdiv r37.2.2.2.2.2 (2 ^ 10)) fun x444 =>
                    lt (IntKind.i64.wrap (x444 + 4096)) fun x446 =>
                    if r440 > x446 then
                      false
                    else
                      lt (s_umbralaw27_works ) fun r449 =>
                      if r449 = true then
                        true
                      else
                        false
      else
        if r64.2.2.1 = true then
          lt (s_umbralaw27_works ) fun r264 =>
          if r264 = true then
            true
          else
            false
        else
          if r37.2.2.2.1 ≥ 1152921504606846976 then
            if r37.2.2.2.2.1 ≥ 1152921504606846976 then
              if r37.2.2.2.2.2 ≥ 1152921504606846976 then
                lt (s_umbralaw27_works ) fun r101 =>
                if r101 = true then
                  true
                else
                  false
              else
                lt (IntKind.i64.wrap (Int.tdiv r37.2.2.2.2.2 4)) fun x106 =>
                lt (IntKind.i64.wrap (x106 - r64.2.2.2.2.2)) fun x108 =>
                lt (fabs x108) fun r110 =>
                lt (Int.fdiv r37.2.2.2.2.2 (2 ^ 10)) fun x114 =>
                lt (IntKind.i64.wrap (x114 + 4096)) fun x116 =>
                if r110 > x116 then
                  false
                else
                  lt (s_umbralaw27_works ) fun r119 =>
                  if r119 = true then
                    true
                  else
                    false
            else
              lt (IntKind.i64.wrap (Int.tdiv r37.2.2.2.2.1 4)) fun x124 =>
              lt (IntKind.i64.wrap (x124 - r64.2.2.2.2.1)) fun x126 =>
              lt (fabs x126) fun r128 =>
              lt (Int.fdiv r37.2.2.2.2.1 (2 ^ 10)) fun x132 =>
              lt (IntKind.i64.wrap (x132 + 4096)) fun x134 =>
              if r128 > x134 then
                false
              else
                if r37.2.2.2.2.2 ≥ 1152921504606846976 then
                  lt (s_umbralaw27_works ) fun r143 =>
                  if r143 = true then
                    true
                  else
                    false
                else
                  lt (IntKind.i64.wrap (Int.tdiv r37.2.2.2.2.2 4)) fun x148 =>
                  lt (IntKind.i64.wrap (x148 - r64.2.2.2.2.2)) fun x150 =>
                  lt (fabs x150) fun r152 =>
                  lt (Int.fdiv r37.2.2.2.2.2 (2 ^ 10)) fun x156 =>
                  lt (IntKind.i64.wrap (x156 + 4096)) fun x158 =>
                  if r152 > x158 then
                    false
                  else
                    lt (s_umbralaw27_works ) fun r161 =>
                    if r161 = true then
                      true
                    else
                      false
          else
            lt (IntKind.i64.wrap (Int.tdiv r37.2.2.2.1 4)) fun x166 =>
            lt (IntKind.i64.wrap (x166 - r64.2.2.2.1)) fun x168 =>
            lt (fabs x168) fun r170 =>
            lt (Int.fdiv r37.2.2.2.1 (2 ^ 10)) fun x174 =>
            lt (IntKind.i64.wrap (x174 + 4096)) fun x176 =>
            if r170 > x176 then
              false
            else
              if r37.2.2.2.2.1 ≥ 1152921504606846976 then
                if r37.2.2.2.2.2 ≥ 1152921504606846976 then
                  lt (s_umbralaw27_works ) fun r191 =>
                  if r191 = true then
                    true
                  else
                    false
                else
                  lt (IntKind.i64.wrap (Int.tdiv r37.2.2.2.2.2 4)) fun x196 =>
                  lt (IntKind.i64.wrap (x196 - r64.2.2.2.2.2)) fun x198 =>
                  lt (fabs x198) fun r200 =>
                  lt (Int.fdiv r37.2.2.2.2.2 (2 ^ 10)) fun x204 =>
                  lt (IntKind.i64.wrap (x204 + 4096)) fun x206 =>
                  if r200 > x206 then
                    false
                  else
                    lt (s_umbralaw27_works ) fun r209 =>
                    if r209 = true then
                      true
                    else
                      false
              else
                lt (IntKind.i64.wrap (Int.tdiv r37.2.2.2.2.1 4)) fun x214 =>
                lt (IntKind.i64.wrap (x214 - r64.2.2.2.2.1)) fun x216 =>
                lt (fabs x216) fun r218 =>
                lt (Int.fdiv r37.2.2.2.2.1 (2 ^ 10)) fun x222 =>
                lt (IntKind.i64.wrap (x222 + 4096)) fun x224 =>
                if r218 > x224 then
                  false
                else
                  if r37.2.2.2.2.2 ≥ 1152921504606846976 then
                    lt (s_umbralaw27_works ) fun r233 =>
                    if r233 = true then
                      true
                    else
                      false
                  else
                    lt (IntKind.i64.wrap (Int.tdiv r37.2.2.2.2.2 4)) fun x238 =>
                    lt (IntKind.i64.wrap (x238 - r64.2.2.2.2.2)) fun x240 =>
                    lt (fabs x240) fun r242 =>
                    lt (Int.fdiv r37.2.2.2.2.2 (2 ^ 10)) fun x246 =>
                    lt (IntKind.i64.wrap (x246 + 4096)) fun x248 =>
                    if r242 > x248 then
                      false
                    else
                      lt (s_umbralaw27_works ) fun r251 =>
                      if r251 = true then
                        true
                      else
                        false
set_option maxRecDepth 100000 in
set_option maxHeartbeats 4000000 in
theorem w_umbralaw27_LampFar (l : Int × (Int × Int × Int) × (Int × Int × Int) × (Int × Int × Int) × (Int × Int × Int)) (way : Int × Int × Int) (h_l : (InI l.1 ∧ InV l.2.1 ∧ InV l.2.2.1 ∧ InV l.2.2.2.1 ∧ InV l.2.2.2.2)) (h_way : InV way) (w : World) : Calls Try.prog 12 #[.agg #[.int .i64 l.1, .int .i64 l.2.1.1, .int .i64 l.2.1.2.1, .int .i64 l.2.1.2.2, .int .i64 l.2.2.1.1, .int .i64 l.2.2.1.2.1, .int .i64 l.2.2.1.2.2, .int .i64 l.2.2.2.1.1, .int .i64 l.2.2.2.1.2.1, .int .i64 l.2.2.2.1.2.2, .int .i64 l.2.2.2.2.1, .int .i64 l.2.2.2.2.2.1, .int .i64 l.2.2.2.2.2.2], .agg #[.int .i64 way.1, .int .i64 way.2.1, .int .i64 way.2.2]] w (Ret (e_umbralaw27_LampFar (s_umbralaw27_LampFar l way)) w) := by
  obtain ⟨R, HR⟩ : ∃ R, e_umbralaw27_LampFar (s_umbralaw27_LampFar l way) = R := ⟨_, rfl⟩
  rw [HR]
  unfold s_umbralaw27_LampFar at HR
  have hM0 := St.start w
  refine calls_run Try.func12 rfl ?_
  refine R_seq (R_region (S_fresh none #[.int .i64 l.1, .int .i64 l.2.1.1, .int .i64 l.2.1.2.1, .int .i64 l.2.1.2.2, .int .i64 l.2.2.1.1, .int .i64 l.2.2.1.2.1, .int .i64 l.2.2.1.2.2, .int .i64 l.2.2.2.1.1, .int .i64 l.2.2.2.1.2.1, .int .i64 l.2.2.2.1.2.2, .int .i64 l.2.2.2.2.1, .int .i64 l.2.2.2.2.2.1, .int .i64 l.2.2.2.2.2.2] 58 hM0 (by kernel_rfl) (fun g1 w2 hM3 => S_fresh none #[.int .i64 way.1, .int .i64 way.2.1, .int .i64 way.2.2] 23 hM3 (by kernel_rfl) (fun g4 w5 hM6 => S_val (.bool false) (by kernel_rfl) (S_nil (R_seq (R_region (S_val (.agg #[.int .i64 0, .int .i64 0, .int .i64 0]) (by kernel_rfl) (S_val (.agg #[.int .i64 0, .int .i64 0, .int .i64 0]) (by kernel_rfl) (S_val (.pointer (some ⟨g1, 0, none⟩)) (by kernel_rfl) (S_store 1 0 #[.int .i64 0, .int .i64 l.2.1.1, .int .i64 l.2.1.2.1, .int .i64 l.2.1.2.2, .int .i64 l.2.2.1.1, .int .i64 l.2.2.1.2.1, .int .i64 l.2.2.1.2.2, .int .i64 l.2.2.2.1.1, .int .i64 l.2.2.2.1.2.1, .int .i64 l.2.2.2.1.2.2, .int .i64 l.2.2.2.2.1, .int .i64 l.2.2.2.2.2.1, .int .i64 l.2.2.2.2.2.2] hM6 (by kernel_rfl) (fun w7 hM8 => ?_))))))))))))
  refine S_val (.pointer (some ⟨g1, 7, none⟩)) (by kernel_rfl) (S_store 1 7 #[.int .i64 0, .int .i64 l.2.1.1, .int .i64 l.2.1.2.1, .int .i64 l.2.1.2.2, .int .i64 l.2.2.1.1, .int .i64 l.2.2.1.2.1, .int .i64 l.2.2.1.2.2, .int .i64 0, .int .i64 0, .int .i64 0, .int .i64 l.2.2.2.2.1, .int .i64 l.2.2.2.2.2.1, .int .i64 l.2.2.2.2.2.2] hM8 (by kernel_rfl) (fun w9 hM10 => S_val (.pointer (some ⟨g1, 10, none⟩)) (by kernel_rfl) (S_store 1 10 #[.int .i64 0, .int .i64 l.2.1.1, .int .i64 l.2.1.2.1, .int .i64 l.2.1.2.2, .int .i64 l.2.2.1.1, .int .i64 l.2.2.1.2.1, .int .i64 l.2.2.1.2.2, .int .i64 0, .int .i64 0, .int .i64 0, .int .i64 0, .int .i64 0, .int .i64 0] hM10 (by kernel_rfl) (fun w11 hM12 => S_nil (R_seq (R_region (S_val (.agg #[.int .i64 0, .int .i64 0, .int .i64 0]) (by kernel_rfl) (S_val (.pointer (some ⟨g1, 4, none⟩)) (by kernel_rfl) (S_store 1 4 #[.int .i64 0, .int .i64 l.2.1.1, .int .i64 l.2.1.2.1, .int .i64 l.2.1.2.2, .int .i64 0, .int .i64 0, .int .i64 0, .int .i64 0, .int .i64 0, .int .i64 0, .int .i64 0, .int .i64 0, .int .i64 0] hM12 (by kernel_rfl) (fun w13 hM14 => S_nil (R_seq (?_))))))))))))
  refine R_region (S_val (.pointer (some ⟨g4, 0, none⟩)) (by kernel_rfl) (S_load 0 0 (.int .i64 way.1) hM14 (by kernel_rfl) (S_int (Int.tmod way.1 8192) .i64 (by kernel_rfl) (fun x15 h16 => S_val (.pointer (some ⟨g4, 1, none⟩)) (by kernel_rfl) (S_load 0 1 (.int .i64 way.2.1) hM14 (by kernel_rfl) (S_int (Int.tmod way.2.1 8192) .i64 (by kernel_rfl) (fun x17 h18 => S_val (.pointer (some ⟨g4, 2, none⟩)) (by kernel_rfl) (S_load 0 2 (.int .i64 way.2.2) hM14 (by kernel_rfl) (S_int (Int.tmod way.2.2 8192) .i64 (by kernel_rfl) (fun x19 h20 => S_val (.agg #[.int .i64 x15, .int .i64 x17, .int .i64 x19]) (by kernel_rfl) (S_store 0 0 #[.int .i64 x15, .int .i64 x17, .int .i64 x19] hM14 (by kernel_rfl) (fun w21 hM22 => ?_))))))))))))
  have HR := hr_lt HR h16
  have HR := hr_lt HR h18
  have HR := hr_lt HR h20
  refine S_nil (R_seq (R_region (S_load 0 0 (.agg #[.int .i64 x15, .int .i64 x17, .int .i64 x19]) hM22 (by kernel_rfl) (S_call (vtow (x15, x17, x19)) (fun r : Int × Int × Int => .agg #[.int .i64 r.1, .int .i64 r.2.1, .int .i64 r.2.2]) hM22 (c_vec_Toward (x15, x17, x19) (⟨(tr (P := InI) h16 (tmod_i64 h_way.1)).out, (tr (P := InI) h18 (tmod_i64 h_way.2.1)).out, (tr (P := InI) h20 (tmod_i64 h_way.2.2)).out⟩) w21) (by kernel_rfl) (fun r23 h24 w25 hM26 => S_fresh none #[.int .i64 0, .int .i64 0, .int .i64 0] 26 hM26 (by kernel_rfl) (fun g27 w28 hM29 => S_store 0 0 #[.int .i64 r23.1, .int .i64 r23.2.1, .int .i64 r23.2.2] hM29 (by kernel_rfl) (fun w30 hM31 => S_nil (R_seq (R_drawF 8 (by kernel_rfl) (fun F32 U33 hL34 => F_load 2 0 (.agg #[.int .i64 0, .int .i64 l.2.1.1, .int .i64 l.2.1.2.1, .int .i64 l.2.1.2.2, .int .i64 0, .int .i64 0, .int .i64 0, .int .i64 0, .int .i64 0, .int .i64 0, .int .i64 0, .int .i64 0, .int .i64 0]) hM31 (by kernel_rfl) (F_val (.agg #[.int .i64 0, .int .i64 0, .int .i64 0]) (fun _ => by kernel_rfl) (?_))))))))))))
  have HR := hr_lt HR h24
  refine F_load 1 0 (.agg #[.int .i64 x15, .int .i64 x17, .int .i64 x19]) hM31 (by kernel_rfl) (F_call (s_tri_Sub (0, 0, 0) (x15, x17, x19)) (fun r : Int × Int × Int => .agg #[.int .i64 r.1, .int .i64 r.2.1, .int .i64 r.2.2]) hM31 hL34 (fun w' hM' => w_tri_Sub (0, 0, 0) (x15, x17, x19) (⟨(show InI 0 from by unfold InI; omega), (show InI 0 from by unfold InI; omega), (show InI 0 from by unfold InI; omega)⟩) (⟨(tr (P := InI) h16 (tmod_i64 h_way.1)).out, (tr (P := InI) h18 (tmod_i64 h_way.2.1)).out, (tr (P := InI) h20 (tmod_i64 h_way.2.2)).out⟩) w') (by kernel_rfl) (fun _ => by kernel_rfl) (fun r35 h36 => F_load 0 0 (.agg #[.int .i64 r23.1, .int .i64 r23.2.1, .int .i64 r23.2.2]) hM31 (by kernel_rfl) (F_val (.agg #[.int .u32 0, .int .u32 0]) (fun _ => by kernel_rfl) (F_call (s_lamp_Sample (0, l.2.1, (0, 0, 0), (0, 0, 0), (0, 0, 0)) r35 r23 (0, 0)) (fun r : (Int × Int × Int) × Bool × Bool × (Int × Int × Int) => .agg #[.int .i64 r.1.1, .int .i64 r.1.2.1, .int .i64 r.1.2.2, .bool r.2.1, .bool r.2.2.1, .int .i64 r.2.2.2.1, .int .i64 r.2.2.2.2.1, .int .i64 r.2.2.2.2.2]) hM31 hL34 (fun w' hM' => w_lamp_Sample (0, l.2.1, (0, 0, 0), (0, 0, 0), (0, 0, 0)) r35 r23 (0, 0) (⟨(show InI 0 from by unfold InI; omega), h_l.2.1, ⟨(show InI 0 from by unfold InI; omega), (show InI 0 from by unfold InI; omega), (show InI 0 from by unfold InI; omega)⟩, ⟨(show InI 0 from by unfold InI; omega), (show InI 0 from by unfold InI; omega), (show InI 0 from by unfold InI; omega)⟩, ⟨(show InI 0 from by unfold InI; omega), (show InI 0 from by unfold InI; omega), (show InI 0 from by unfold InI; omega)⟩⟩) ((tr (P := fun r : Int × Int × Int => InV r) h36 (i_tri_Sub (0, 0, 0) (x15, x17, x19) (⟨(show InI 0 from by unfold InI; omega), (show InI 0 from by unfold InI; omega), (show InI 0 from by unfold InI; omega)⟩) (⟨(tr (P := InI) h16 (tmod_i64 h_way.1)).out, (tr (P := InI) h18 (tmod_i64 h_way.2.1)).out, (tr (P := InI) h20 (tmod_i64 h_way.2.2)).out⟩))).out) ((tr (P := fun r : Int × Int × Int => InV r) h24 (vtow_I (x15, x17, x19))).out) (⟨(show InU32 0 from by unfold InU32; omega), (show InU32 0 from by unfold InU32; omega)⟩) w') (by kernel_rfl) (fun _ => by kernel_rfl) (fun r37 h38 => ?_)))))
  have HR := hr_lt HR h36
  have HR := hr_lt HR h38
  obtain ⟨r39, b43, b44, r42⟩ := r37
  cases b43
  · cases b44
    · refine F_fresh none #[.int .i64 0, .int .i64 0, .int .i64 0, .bool false, .bool false, .int .i64 0, .int .i64 0, .int .i64 0] 62 hL34 (by kernel_rfl) (fun _ => by kernel_rfl) (fun g45 F46 U47 hL48 => F_nil hM31 hL48 (fun w49 hM50 => S_store 0 0 #[.int .i64 r39.1, .int .i64 r39.2.1, .int .i64 r39.2.2, .bool false, .bool false, .int .i64 r42.1, .int .i64 r42.2.1, .int .i64 r42.2.2] hM50 (by kernel_rfl) (fun w51 hM52 => S_nil (R_seq (R_drawF 17 (by kernel_rfl) (fun F53 U54 hL55 => F_load 3 0 (.agg #[.int .i64 0, .int .i64 l.2.1.1, .int .i64 l.2.1.2.1, .int .i64 l.2.1.2.2, .int .i64 0, .int .i64 0, .int .i64 0, .int .i64 0, .int .i64 0, .int .i64 0, .int .i64 0, .int .i64 0, .int .i64 0]) hM52 (by kernel_rfl) (F_val (.agg #[.int .i64 0, .int .i64 0, .int .i64 0]) (fun _ => by kernel_rfl) (F_val (.pointer (some ⟨g4, 0, none⟩)) (fun _ => by kernel_rfl) (F_load 2 0 (.int .i64 x15) hM52 (by kernel_rfl) (F_int (IntKind.i64.wrap (2 * x15)) .i64 (fun _ => by kernel_rfl) (fun x56 h57 => F_val (.pointer (some ⟨g4, 1, none⟩)) (fun _ => by kernel_rfl) (?_))))))))))))
      have HR := hr_neg HR Bool.false_ne_true
      have HR := hr_neg HR Bool.false_ne_true
      have HR := hr_lt HR h57
      refine F_load 2 1 (.int .i64 x17) hM52 (by kernel_rfl) (F_int (IntKind.i64.wrap (2 * x17)) .i64 (fun _ => by kernel_rfl) (fun x58 h59 => F_val (.pointer (some ⟨g4, 2, none⟩)) (fun _ => by kernel_rfl) (F_load 2 2 (.int .i64 x19) hM52 (by kernel_rfl) (F_int (IntKind.i64.wrap (2 * x19)) .i64 (fun _ => by kernel_rfl) (fun x60 h61 => F_val (.agg #[.int .i64 x56, .int .i64 x58, .int .i64 x60]) (fun _ => by kernel_rfl) (F_call (s_tri_Sub (0, 0, 0) (x56, x58, x60)) (fun r : Int × Int × Int => .agg #[.int .i64 r.1, .int .i64 r.2.1, .int .i64 r.2.2]) hM52 hL55 (fun w' hM' => w_tri_Sub (0, 0, 0) (x56, x58, x60) (⟨(show InI 0 from by unfold InI; omega), (show InI 0 from by unfold InI; omega), (show InI 0 from by unfold InI; omega)⟩) (⟨(wr_i64 h57), (wr_i64 h59), (wr_i64 h61)⟩) w') (by kernel_rfl) (fun _ => by kernel_rfl) (fun r62 h63 => F_load 1 0 (.agg #[.int .i64 r23.1, .int .i64 r23.2.1, .int .i64 r23.2.2]) hM52 (by kernel_rfl) (F_val (.agg #[.int .u32 0, .int .u32 0]) (fun _ => by kernel_rfl) (F_call (s_lamp_Sample (0, l.2.1, (0, 0, 0), (0, 0, 0), (0, 0, 0)) r62 r23 (0, 0)) (fun r : (Int × Int × Int) × Bool × Bool × (Int × Int × Int) => .agg #[.int .i64 r.1.1, .int .i64 r.1.2.1, .int .i64 r.1.2.2, .bool r.2.1, .bool r.2.2.1, .int .i64 r.2.2.2.1, .int .i64 r.2.2.2.2.1, .int .i64 r.2.2.2.2.2]) hM52 hL55 (fun w' hM' => w_lamp_Sample (0, l.2.1, (0, 0, 0), (0, 0, 0), (0, 0, 0)) r62 r23 (0, 0) (⟨(show InI 0 from by unfold InI; omega), h_l.2.1, ⟨(show InI 0 from by unfold InI; omega), (show InI 0 from by unfold InI; omega), (show InI 0 from by unfold InI; omega)⟩, ⟨(show InI 0 from by unfold InI; omega), (show InI 0 from by unfold InI; omega), (show InI 0 from by unfold InI; omega)⟩, ⟨(show InI 0 from by unfold InI; omega), (show InI 0 from by unfold InI; omega), (show InI 0 from by unfold InI; omega)⟩⟩) ((tr (P := fun r : Int × Int × Int => InV r) h63 (i_tri_Sub (0, 0, 0) (x56, x58, x60) (⟨(show InI 0 from by unfold InI; omega), (show InI 0 from by unfold InI; omega), (show InI 0 from by unfold InI; omega)⟩) (⟨(wr_i64 h57), (wr_i64 h59), (wr_i64 h61)⟩))).out) ((tr (P := fun r : Int × Int × Int => InV r) h24 (vtow_I (x15, x17, x19))).out) (⟨(show InU32 0 from by unfold InU32; omega), (show InU32 0 from by unfold InU32; omega)⟩) w') (by kernel_rfl) (fun _ => by kernel_rfl) (fun r64 h65 => ?_))))))))))
      have HR := hr_lt HR h59
      have HR := hr_lt HR h61
      have HR := hr_lt HR h63
      have HR := hr_lt HR h65
      obtain ⟨r66, b70, b71, r69⟩ := r64
      cases b70
      · cases b71
        · refine F_fresh none #[.int .i64 0, .int .i64 0, .int .i64 0, .bool false, .bool false, .int .i64 0, .int .i64 0, .int .i64 0] 62 hL55 (by kernel_rfl) (fun _ => by kernel_rfl) (fun g72 F73 U74 hL75 => F_nil hM52 hL75 (fun w76 hM77 => S_store 0 0 #[.int .i64 r66.1, .int .i64 r66.2.1, .int .i64 r66.2.2, .bool false, .bool false, .int .i64 r69.1, .int .i64 r69.2.1, .int .i64 r69.2.2] hM77 (by kernel_rfl) (fun w78 hM79 => S_nil (R_seq (R_seq (R_region (S_val (.pointer (some ⟨g45, 4, none⟩)) (by kernel_rfl) (S_load 1 4 (.bool false) hM79 (by kernel_rfl) (S_val (.bool false) (by kernel_rfl) (S_val (.pointer (some ⟨g72, 4, none⟩)) (by kernel_rfl) (S_load 0 4 (.bool false) hM79 (by kernel_rfl) (?_))))))))))))
          have HR := hr_neg HR Bool.false_ne_true
          have HR := hr_neg HR Bool.false_ne_true
          refine S_val (.bool false) (by kernel_rfl) (S_nil (R_no (by kernel_rfl) (R_skip (R_seq (R_seq (R_region (S_val (.pointer (some ⟨g45, 5, none⟩)) (by kernel_rfl) (S_val (.pointer (some ⟨g45, 5, none⟩)) (by kernel_rfl) (S_load 1 5 (.int .i64 r42.1) hM79 (by kernel_rfl) (S_val (.pointer (some ⟨g72, 5, none⟩)) (by kernel_rfl) (S_val (.pointer (some ⟨g72, 5, none⟩)) (by kernel_rfl) (?_))))))))))))
          refine S_load 0 5 (.int .i64 r69.1) hM79 (by kernel_rfl) (S_val (.agg #[.int .i64 r42.1, .int .i64 r69.1]) (by kernel_rfl) (S_val (.pointer (some ⟨g45, 5, none⟩)) (by kernel_rfl) (S_val (.pointer (some ⟨g45, 6, none⟩)) (by kernel_rfl) (S_load 1 6 (.int .i64 r42.2.1) hM79 (by kernel_rfl) (S_val (.pointer (some ⟨g72, 5, none⟩)) (by kernel_rfl) (S_val (.pointer (some ⟨g72, 6, none⟩)) (by kernel_rfl) (S_load 0 6 (.int .i64 r69.2.1) hM79 (by kernel_rfl) (S_val (.agg #[.int .i64 r42.2.1, .int .i64 r69.2.1]) (by kernel_rfl) (S_val (.pointer (some ⟨g45, 5, none⟩)) (by kernel_rfl) (S_val (.pointer (some ⟨g45, 7, none⟩)) (by kernel_rfl) (S_load 1 7 (.int .i64 r42.2.2) hM79 (by kernel_rfl) (?_))))))))))))
          refine S_val (.pointer (some ⟨g72, 5, none⟩)) (by kernel_rfl) (S_val (.pointer (some ⟨g72, 7, none⟩)) (by kernel_rfl) (S_load 0 7 (.int .i64 r69.2.2) hM79 (by kernel_rfl) (S_val (.agg #[.int .i64 r42.2.2, .int .i64 r69.2.2]) (by kernel_rfl) (S_fresh (some 3) #[.int .i64 r42.1, .int .i64 r69.1, .int .i64 r42.2.1, .int .i64 r69.2.1, .int .i64 r42.2.2, .int .i64 r69.2.2] 42 hM79 (by kernel_rfl) (fun g80 w81 hM82 => S_val (.int .i64 3) (by kernel_rfl) (S_val (.int .i64 0) (by kernel_rfl) (S_nil (R_block (R_loop (R_seq (R_region (?_))))))))))))
          refine S_val (.bool true) (by kernel_rfl) (S_nil (R_seq (R_yes (by kernel_rfl) (R_skip (R_seq (R_block (R_seq (R_region (S_val (.pointer (some ⟨g80, 0, none⟩)) (by kernel_rfl) (S_load 0 0 (.agg #[.int .i64 r42.1, .int .i64 r69.1]) hM82 (by kernel_rfl) (S_fresh none #[.int .i64 0, .int .i64 0] 42 hM82 (by kernel_rfl) (fun g83 w84 hM85 => ?_))))))))))))
          refine S_store 0 0 #[.int .i64 r42.1, .int .i64 r69.1] hM85 (by kernel_rfl) (fun w86 hM87 => S_nil (R_seq (R_seq (R_region (S_val (.pointer (some ⟨g83, 0, none⟩)) (by kernel_rfl) (S_load 0 0 (.int .i64 r42.1) hM87 (by kernel_rfl) (?_)))))))
          refine S_dec (r42.1 ≥ 1152921504606846976) (by kernel_rfl) (fun c88 => ?_) (fun c88 => ?_)
          · refine S_nil (R_yes (by kernel_rfl) (R_exit rfl (R_region (S_val (.int .i64 1) (by kernel_rfl) (S_val (.int .i64 1) (by kernel_rfl) (S_nil (R_inLoop (R_seq (R_region (S_val (.bool true) (by kernel_rfl) (S_nil (?_))))))))))))
            have HR := hr_pos HR c88
            refine R_seq (R_yes (by kernel_rfl) (R_skip (R_seq (R_block (R_seq (R_region (S_val (.pointer (some ⟨g80, 2, none⟩)) (by kernel_rfl) (S_load 1 2 (.agg #[.int .i64 r42.2.1, .int .i64 r69.2.1]) hM87 (by kernel_rfl) (S_fresh none #[.int .i64 0, .int .i64 0] 42 hM87 (by kernel_rfl) (fun g89 w90 hM91 => S_store 0 0 #[.int .i64 r42.2.1, .int .i64 r69.2.1] hM91 (by kernel_rfl) (fun w92 hM93 => S_nil (?_))))))))))))
            refine R_seq (R_seq (R_region (S_val (.pointer (some ⟨g89, 0, none⟩)) (by kernel_rfl) (S_load 0 0 (.int .i64 r42.2.1) hM93 (by kernel_rfl) (?_)))))
            refine S_dec (r42.2.1 ≥ 1152921504606846976) (by kernel_rfl) (fun c94 => ?_) (fun c94 => ?_)
            · refine S_nil (R_yes (by kernel_rfl) (R_exit rfl (R_region (S_val (.int .i64 2) (by kernel_rfl) (S_val (.int .i64 2) (by kernel_rfl) (S_nil (R_inLoop (R_seq (R_region (S_val (.bool true) (by kernel_rfl) (S_nil (?_))))))))))))
              have HR := hr_pos HR c94
              refine R_seq (R_yes (by kernel_rfl) (R_skip (R_seq (R_block (R_seq (R_region (S_val (.pointer (some ⟨g80, 4, none⟩)) (by kernel_rfl) (S_load 2 4 (.agg #[.int .i64 r42.2.2, .int .i64 r69.2.2]) hM93 (by kernel_rfl) (S_fresh none #[.int .i64 0, .int .i64 0] 42 hM93 (by kernel_rfl) (fun g95 w96 hM97 => S_store 0 0 #[.int .i64 r42.2.2, .int .i64 r69.2.2] hM97 (by kernel_rfl) (fun w98 hM99 => S_nil (?_))))))))))))
              refine R_seq (R_seq (R_region (S_val (.pointer (some ⟨g95, 0, none⟩)) (by kernel_rfl) (S_load 0 0 (.int .i64 r42.2.2) hM99 (by kernel_rfl) (?_)))))
              refine S_dec (r42.2.2 ≥ 1152921504606846976) (by kernel_rfl) (fun c100 => ?_) (fun c100 => ?_)
              · refine S_nil (R_yes (by kernel_rfl) (R_exit rfl (R_region (S_val (.int .i64 3) (by kernel_rfl) (S_val (.int .i64 3) (by kernel_rfl) (S_nil (R_inLoop (R_seq (R_region (S_val (.bool false) (by kernel_rfl) (S_nil (?_))))))))))))
                have HR := hr_pos HR c100
                refine R_seq (R_no (by kernel_rfl) (R_exit rfl (R_seq (R_region (S_call (s_umbralaw27_works ) (fun r : Bool => .bool r) hM99 (w_umbralaw27_works  w98) (by kernel_rfl) (fun r101 h102 w103 hM104 => ?_))))))
                have HR := hr_lt HR h102
                cases r101
                · refine S_val (.bool false) (by kernel_rfl) (S_nil (?_))
                  have HR := hr_neg HR Bool.false_ne_true
                  refine R_ret hM104 rfl (.cons (.tmp _ (.bool false) (by kernel_rfl)) .nil) rfl ?_
                  exact ⟨congrArg Ending.returned HR, hM104.below⟩
                · refine S_val (.bool true) (by kernel_rfl) (S_nil (?_))
                  have HR := hr_pos HR rfl
                  refine R_ret hM104 rfl (.cons (.tmp _ (.bool true) (by kernel_rfl)) .nil) rfl ?_
                  exact ⟨congrArg Ending.returned HR, hM104.below⟩
              · refine S_nil (R_no (by kernel_rfl) (R_skip (R_seq (R_region (S_val (.pointer (some ⟨g95, 0, none⟩)) (by kernel_rfl) (S_load 0 0 (.int .i64 r42.2.2) hM99 (by kernel_rfl) (S_int (IntKind.i64.wrap (Int.tdiv r42.2.2 4)) .i64 (by kernel_rfl) (fun x106 h107 => S_val (.pointer (some ⟨g95, 1, none⟩)) (by kernel_rfl) (S_load 0 1 (.int .i64 r69.2.2) hM99 (by kernel_rfl) (S_int (IntKind.i64.wrap (x106 - r69.2.2)) .i64 (by kernel_rfl) (fun x108 h109 => S_call (fabs x108) (fun r : Int => .int .i64 r) hM99 (c_fix_Abs x108 (wr_i64 h109) w98) (by kernel_rfl) (fun r110 h111 w112 hM113 => ?_))))))))))))
                have HR := hr_neg HR c100
                have HR := hr_lt HR h107
                have HR := hr_lt HR h109
                have HR := hr_lt HR h111
                refine S_val (.int .i64 r110) (by kernel_rfl) (S_nil (R_seq (R_region (S_val (.int .i64 r110) (by kernel_rfl) (S_val (.pointer (some ⟨g95, 0, none⟩)) (by kernel_rfl) (S_load 0 0 (.int .i64 r42.2.2) hM113 (by kernel_rfl) (S_int (Int.fdiv r42.2.2 (2 ^ 10)) .i64 (by kernel_rfl) (fun x114 h115 => S_int (IntKind.i64.wrap (x114 + 4096)) .i64 (by kernel_rfl) (fun x116 h117 => ?_)))))))))
                have HR := hr_lt HR h115
                have HR := hr_lt HR h117
                refine S_dec (r110 > x116) (by kernel_rfl) (fun c118 => ?_) (fun c118 => ?_)
                · refine S_nil (R_yes (by kernel_rfl) (R_seq (R_region (S_val (.bool false) (by kernel_rfl) (S_nil (?_))))))
                  have HR := hr_pos HR c118
                  refine R_ret hM113 rfl (.cons (.tmp _ (.bool false) (by kernel_rfl)) .nil) rfl ?_
                  exact ⟨congrArg Ending.returned HR, hM113.below⟩
                · refine S_nil (R_no (by kernel_rfl) (R_skip (R_inBlock (R_region (S_val (.int .i64 3) (by kernel_rfl) (S_val (.int .i64 3) (by kernel_rfl) (S_nil (R_inLoop (R_seq (R_region (S_val (.bool false) (by kernel_rfl) (?_))))))))))))
                  have HR := hr_neg HR c118
                  refine S_nil (R_seq (R_no (by kernel_rfl) (R_exit rfl (R_seq (R_region (S_call (s_umbralaw27_works ) (fun r : Bool => .bool r) hM113 (w_umbralaw27_works  w112) (by kernel_rfl) (fun r119 h120 w121 hM122 => ?_)))))))
                  have HR := hr_lt HR h120
                  cases r119
                  · refine S_val (.bool false) (by kernel_rfl) (S_nil (?_))
                    have HR := hr_neg HR Bool.false_ne_true
                    refine R_ret hM122 rfl (.cons (.tmp _ (.bool false) (by kernel_rfl)) .nil) rfl ?_
                    exact ⟨congrArg Ending.returned HR, hM122.below⟩
                  · refine S_val (.bool true) (by kernel_rfl) (S_nil (?_))
                    have HR := hr_pos HR rfl
                    refine R_ret hM122 rfl (.cons (.tmp _ (.bool true) (by kernel_rfl)) .nil) rfl ?_
                    exact ⟨congrArg Ending.returned HR, hM122.below⟩
            · refine S_nil (R_no (by kernel_rfl) (R_skip (R_seq (R_region (S_val (.pointer (some ⟨g89, 0, none⟩)) (by kernel_rfl) (S_load 0 0 (.int .i64 r42.2.1) hM93 (by kernel_rfl) (S_int (IntKind.i64.wrap (Int.tdiv r42.2.1 4)) .i64 (by kernel_rfl) (fun x124 h125 => S_val (.pointer (some ⟨g89, 1, none⟩)) (by kernel_rfl) (S_load 0 1 (.int .i64 r69.2.1) hM93 (by kernel_rfl) (S_int (IntKind.i64.wrap (x124 - r69.2.1)) .i64 (by kernel_rfl) (fun x126 h127 => S_call (fabs x126) (fun r : Int => .int .i64 r) hM93 (c_fix_Abs x126 (wr_i64 h127) w92) (by kernel_rfl) (fun r128 h129 w130 hM131 => ?_))))))))))))
              have HR := hr_neg HR c94
              have HR := hr_lt HR h125
              have HR := hr_lt HR h127
              have HR := hr_lt HR h129
              refine S_val (.int .i64 r128) (by kernel_rfl) (S_nil (R_seq (R_region (S_val (.int .i64 r128) (by kernel_rfl) (S_val (.pointer (some ⟨g89, 0, none⟩)) (by kernel_rfl) (S_load 0 0 (.int .i64 r42.2.1) hM131 (by kernel_rfl) (S_int (Int.fdiv r42.2.1 (2 ^ 10)) .i64 (by kernel_rfl) (fun x132 h133 => S_int (IntKind.i64.wrap (x132 + 4096)) .i64 (by kernel_rfl) (fun x134 h135 => ?_)))))))))
              have HR := hr_lt HR h133
              have HR := hr_lt HR h135
              refine S_dec (r128 > x134) (by kernel_rfl) (fun c136 => ?_) (fun c136 => ?_)
              · refine S_nil (R_yes (by kernel_rfl) (R_seq (R_region (S_val (.bool false) (by kernel_rfl) (S_nil (?_))))))
                have HR := hr_pos HR c136
                refine R_ret hM131 rfl (.cons (.tmp _ (.bool false) (by kernel_rfl)) .nil) rfl ?_
                exact ⟨congrArg Ending.returned HR, hM131.below⟩
              · refine S_nil (R_no (by kernel_rfl) (R_skip (R_inBlock (R_region (S_val (.int .i64 2) (by kernel_rfl) (S_val (.int .i64 2) (by kernel_rfl) (S_nil (R_inLoop (R_seq (R_region (S_val (.bool true) (by kernel_rfl) (?_))))))))))))
                have HR := hr_neg HR c136
                refine S_nil (R_seq (R_yes (by kernel_rfl) (R_skip (R_seq (R_block (R_seq (R_region (S_val (.pointer (some ⟨g80, 4, none⟩)) (by kernel_rfl) (S_load 2 4 (.agg #[.int .i64 r42.2.2, .int .i64 r69.2.2]) hM131 (by kernel_rfl) (S_fresh none #[.int .i64 0, .int .i64 0] 42 hM131 (by kernel_rfl) (fun g137 w138 hM139 => S_store 0 0 #[.int .i64 r42.2.2, .int .i64 r69.2.2] hM139 (by kernel_rfl) (fun w140 hM141 => ?_))))))))))))
                refine S_nil (R_seq (R_seq (R_region (S_val (.pointer (some ⟨g137, 0, none⟩)) (by kernel_rfl) (S_load 0 0 (.int .i64 r42.2.2) hM141 (by kernel_rfl) (?_))))))
                refine S_dec (r42.2.2 ≥ 1152921504606846976) (by kernel_rfl) (fun c142 => ?_) (fun c142 => ?_)
                · refine S_nil (R_yes (by kernel_rfl) (R_exit rfl (R_region (S_val (.int .i64 3) (by kernel_rfl) (S_val (.int .i64 3) (by kernel_rfl) (S_nil (R_inLoop (R_seq (R_region (S_val (.bool false) (by kernel_rfl) (S_nil (?_))))))))))))
                  have HR := hr_pos HR c142
                  refine R_seq (R_no (by kernel_rfl) (R_exit rfl (R_seq (R_region (S_call (s_umbralaw27_works ) (fun r : Bool => .bool r) hM141 (w_umbralaw27_works  w140) (by kernel_rfl) (fun r143 h144 w145 hM146 => ?_))))))
                  have HR := hr_lt HR h144
                  cases r143
                  · refine S_val (.bool false) (by kernel_rfl) (S_nil (?_))
                    have HR := hr_neg HR Bool.false_ne_true
                    refine R_ret hM146 rfl (.cons (.tmp _ (.bool false) (by kernel_rfl)) .nil) rfl ?_
                    exact ⟨congrArg Ending.returned HR, hM146.below⟩
                  · refine S_val (.bool true) (by kernel_rfl) (S_nil (?_))
                    have HR := hr_pos HR rfl
                    refine R_ret hM146 rfl (.cons (.tmp _ (.bool true) (by kernel_rfl)) .nil) rfl ?_
                    exact ⟨congrArg Ending.returned HR, hM146.below⟩
                · refine S_nil (R_no (by kernel_rfl) (R_skip (R_seq (R_region (S_val (.pointer (some ⟨g137, 0, none⟩)) (by kernel_rfl) (S_load 0 0 (.int .i64 r42.2.2) hM141 (by kernel_rfl) (S_int (IntKind.i64.wrap (Int.tdiv r42.2.2 4)) .i64 (by kernel_rfl) (fun x148 h149 => S_val (.pointer (some ⟨g137, 1, none⟩)) (by kernel_rfl) (S_load 0 1 (.int .i64 r69.2.2) hM141 (by kernel_rfl) (S_int (IntKind.i64.wrap (x148 - r69.2.2)) .i64 (by kernel_rfl) (fun x150 h151 => S_call (fabs x150) (fun r : Int => .int .i64 r) hM141 (c_fix_Abs x150 (wr_i64 h151) w140) (by kernel_rfl) (fun r152 h153 w154 hM155 => ?_))))))))))))
                  have HR := hr_neg HR c142
                  have HR := hr_lt HR h149
                  have HR := hr_lt HR h151
                  have HR := hr_lt HR h153
                  refine S_val (.int .i64 r152) (by kernel_rfl) (S_nil (R_seq (R_region (S_val (.int .i64 r152) (by kernel_rfl) (S_val (.pointer (some ⟨g137, 0, none⟩)) (by kernel_rfl) (S_load 0 0 (.int .i64 r42.2.2) hM155 (by kernel_rfl) (S_int (Int.fdiv r42.2.2 (2 ^ 10)) .i64 (by kernel_rfl) (fun x156 h157 => S_int (IntKind.i64.wrap (x156 + 4096)) .i64 (by kernel_rfl) (fun x158 h159 => ?_)))))))))
                  have HR := hr_lt HR h157
                  have HR := hr_lt HR h159
                  refine S_dec (r152 > x158) (by kernel_rfl) (fun c160 => ?_) (fun c160 => ?_)
                  · refine S_nil (R_yes (by kernel_rfl) (R_seq (R_region (S_val (.bool false) (by kernel_rfl) (S_nil (?_))))))
                    have HR := hr_pos HR c160
                    refine R_ret hM155 rfl (.cons (.tmp _ (.bool false) (by kernel_rfl)) .nil) rfl ?_
                    exact ⟨congrArg Ending.returned HR, hM155.below⟩
                  · refine S_nil (R_no (by kernel_rfl) (R_skip (R_inBlock (R_region (S_val (.int .i64 3) (by kernel_rfl) (S_val (.int .i64 3) (by kernel_rfl) (S_nil (R_inLoop (R_seq (R_region (S_val (.bool false) (by kernel_rfl) (?_))))))))))))
                    have HR := hr_neg HR c160
                    refine S_nil (R_seq (R_no (by kernel_rfl) (R_exit rfl (R_seq (R_region (S_call (s_umbralaw27_works ) (fun r : Bool => .bool r) hM155 (w_umbralaw27_works  w154) (by kernel_rfl) (fun r161 h162 w163 hM164 => ?_)))))))
                    have HR := hr_lt HR h162
                    cases r161
                    · refine S_val (.bool false) (by kernel_rfl) (S_nil (?_))
                      have HR := hr_neg HR Bool.false_ne_true
                      refine R_ret hM164 rfl (.cons (.tmp _ (.bool false) (by kernel_rfl)) .nil) rfl ?_
                      exact ⟨congrArg Ending.returned HR, hM164.below⟩
                    · refine S_val (.bool true) (by kernel_rfl) (S_nil (?_))
                      have HR := hr_pos HR rfl
                      refine R_ret hM164 rfl (.cons (.tmp _ (.bool true) (by kernel_rfl)) .nil) rfl ?_
                      exact ⟨congrArg Ending.returned HR, hM164.below⟩
          · refine S_nil (R_no (by kernel_rfl) (R_skip (R_seq (R_region (S_val (.pointer (some ⟨g83, 0, none⟩)) (by kernel_rfl) (S_load 0 0 (.int .i64 r42.1) hM87 (by kernel_rfl) (S_int (IntKind.i64.wrap (Int.tdiv r42.1 4)) .i64 (by kernel_rfl) (fun x166 h167 => S_val (.pointer (some ⟨g83, 1, none⟩)) (by kernel_rfl) (S_load 0 1 (.int .i64 r69.1) hM87 (by kernel_rfl) (S_int (IntKind.i64.wrap (x166 - r69.1)) .i64 (by kernel_rfl) (fun x168 h169 => S_call (fabs x168) (fun r : Int => .int .i64 r) hM87 (c_fix_Abs x168 (wr_i64 h169) w86) (by kernel_rfl) (fun r170 h171 w172 hM173 => ?_))))))))))))
            have HR := hr_neg HR c88
            have HR := hr_lt HR h167
            have HR := hr_lt HR h169
            have HR := hr_lt HR h171
            refine S_val (.int .i64 r170) (by kernel_rfl) (S_nil (R_seq (R_region (S_val (.int .i64 r170) (by kernel_rfl) (S_val (.pointer (some ⟨g83, 0, none⟩)) (by kernel_rfl) (S_load 0 0 (.int .i64 r42.1) hM173 (by kernel_rfl) (S_int (Int.fdiv r42.1 (2 ^ 10)) .i64 (by kernel_rfl) (fun x174 h175 => S_int (IntKind.i64.wrap (x174 + 4096)) .i64 (by kernel_rfl) (fun x176 h177 => ?_)))))))))
            have HR := hr_lt HR h175
            have HR := hr_lt HR h177
            refine S_dec (r170 > x176) (by kernel_rfl) (fun c178 => ?_) (fun c178 => ?_)
            · refine S_nil (R_yes (by kernel_rfl) (R_seq (R_region (S_val (.bool false) (by kernel_rfl) (S_nil (?_))))))
              have HR := hr_pos HR c178
              refine R_ret hM173 rfl (.cons (.tmp _ (.bool false) (by kernel_rfl)) .nil) rfl ?_
              exact ⟨congrArg Ending.returned HR, hM173.below⟩
            · refine S_nil (R_no (by kernel_rfl) (R_skip (R_inBlock (R_region (S_val (.int .i64 1) (by kernel_rfl) (S_val (.int .i64 1) (by kernel_rfl) (S_nil (R_inLoop (R_seq (R_region (S_val (.bool true) (by kernel_rfl) (?_))))))))))))
              have HR := hr_neg HR c178
              refine S_nil (R_seq (R_yes (by kernel_rfl) (R_skip (R_seq (R_block (R_seq (R_region (S_val (.pointer (some ⟨g80, 2, none⟩)) (by kernel_rfl) (S_load 1 2 (.agg #[.int .i64 r42.2.1, .int .i64 r69.2.1]) hM173 (by kernel_rfl) (S_fresh none #[.int .i64 0, .int .i64 0] 42 hM173 (by kernel_rfl) (fun g179 w180 hM181 => S_store 0 0 #[.int .i64 r42.2.1, .int .i64 r69.2.1] hM181 (by kernel_rfl) (fun w182 hM183 => ?_))))))))))))
              refine S_nil (R_seq (R_seq (R_region (S_val (.pointer (some ⟨g179, 0, none⟩)) (by kernel_rfl) (S_load 0 0 (.int .i64 r42.2.1) hM183 (by kernel_rfl) (?_))))))
              refine S_dec (r42.2.1 ≥ 1152921504606846976) (by kernel_rfl) (fun c184 => ?_) (fun c184 => ?_)
              · refine S_nil (R_yes (by kernel_rfl) (R_exit rfl (R_region (S_val (.int .i64 2) (by kernel_rfl) (S_val (.int .i64 2) (by kernel_rfl) (S_nil (R_inLoop (R_seq (R_region (S_val (.bool true) (by kernel_rfl) (S_nil (?_))))))))))))
                have HR := hr_pos HR c184
                refine R_seq (R_yes (by kernel_rfl) (R_skip (R_seq (R_block (R_seq (R_region (S_val (.pointer (some ⟨g80, 4, none⟩)) (by kernel_rfl) (S_load 2 4 (.agg #[.int .i64 r42.2.2, .int .i64 r69.2.2]) hM183 (by kernel_rfl) (S_fresh none #[.int .i64 0, .int .i64 0] 42 hM183 (by kernel_rfl) (fun g185 w186 hM187 => S_store 0 0 #[.int .i64 r42.2.2, .int .i64 r69.2.2] hM187 (by kernel_rfl) (fun w188 hM189 => S_nil (?_))))))))))))
                refine R_seq (R_seq (R_region (S_val (.pointer (some ⟨g185, 0, none⟩)) (by kernel_rfl) (S_load 0 0 (.int .i64 r42.2.2) hM189 (by kernel_rfl) (?_)))))
                refine S_dec (r42.2.2 ≥ 1152921504606846976) (by kernel_rfl) (fun c190 => ?_) (fun c190 => ?_)
                · refine S_nil (R_yes (by kernel_rfl) (R_exit rfl (R_region (S_val (.int .i64 3) (by kernel_rfl) (S_val (.int .i64 3) (by kernel_rfl) (S_nil (R_inLoop (R_seq (R_region (S_val (.bool false) (by kernel_rfl) (S_nil (?_))))))))))))
                  have HR := hr_pos HR c190
                  refine R_seq (R_no (by kernel_rfl) (R_exit rfl (R_seq (R_region (S_call (s_umbralaw27_works ) (fun r : Bool => .bool r) hM189 (w_umbralaw27_works  w188) (by kernel_rfl) (fun r191 h192 w193 hM194 => ?_))))))
                  have HR := hr_lt HR h192
                  cases r191
                  · refine S_val (.bool false) (by kernel_rfl) (S_nil (?_))
                    have HR := hr_neg HR Bool.false_ne_true
                    refine R_ret hM194 rfl (.cons (.tmp _ (.bool false) (by kernel_rfl)) .nil) rfl ?_
                    exact ⟨congrArg Ending.returned HR, hM194.below⟩
                  · refine S_val (.bool true) (by kernel_rfl) (S_nil (?_))
                    have HR := hr_pos HR rfl
                    refine R_ret hM194 rfl (.cons (.tmp _ (.bool true) (by kernel_rfl)) .nil) rfl ?_
                    exact ⟨congrArg Ending.returned HR, hM194.below⟩
                · refine S_nil (R_no (by kernel_rfl) (R_skip (R_seq (R_region (S_val (.pointer (some ⟨g185, 0, none⟩)) (by kernel_rfl) (S_load 0 0 (.int .i64 r42.2.2) hM189 (by kernel_rfl) (S_int (IntKind.i64.wrap (Int.tdiv r42.2.2 4)) .i64 (by kernel_rfl) (fun x196 h197 => S_val (.pointer (some ⟨g185, 1, none⟩)) (by kernel_rfl) (S_load 0 1 (.int .i64 r69.2.2) hM189 (by kernel_rfl) (S_int (IntKind.i64.wrap (x196 - r69.2.2)) .i64 (by kernel_rfl) (fun x198 h199 => S_call (fabs x198) (fun r : Int => .int .i64 r) hM189 (c_fix_Abs x198 (wr_i64 h199) w188) (by kernel_rfl) (fun r200 h201 w202 hM203 => ?_))))))))))))
                  have HR := hr_neg HR c190
                  have HR := hr_lt HR h197
                  have HR := hr_lt HR h199
                  have HR := hr_lt HR h201
                  refine S_val (.int .i64 r200) (by kernel_rfl) (S_nil (R_seq (R_region (S_val (.int .i64 r200) (by kernel_rfl) (S_val (.pointer (some ⟨g185, 0, none⟩)) (by kernel_rfl) (S_load 0 0 (.int .i64 r42.2.2) hM203 (by kernel_rfl) (S_int (Int.fdiv r42.2.2 (2 ^ 10)) .i64 (by kernel_rfl) (fun x204 h205 => S_int (IntKind.i64.wrap (x204 + 4096)) .i64 (by kernel_rfl) (fun x206 h207 => ?_)))))))))
                  have HR := hr_lt HR h205
                  have HR := hr_lt HR h207
                  refine S_dec (r200 > x206) (by kernel_rfl) (fun c208 => ?_) (fun c208 => ?_)
                  · refine S_nil (R_yes (by kernel_rfl) (R_seq (R_region (S_val (.bool false) (by kernel_rfl) (S_nil (?_))))))
                    have HR := hr_pos HR c208
                    refine R_ret hM203 rfl (.cons (.tmp _ (.bool false) (by kernel_rfl)) .nil) rfl ?_
                    exact ⟨congrArg Ending.returned HR, hM203.below⟩
                  · refine S_nil (R_no (by kernel_rfl) (R_skip (R_inBlock (R_region (S_val (.int .i64 3) (by kernel_rfl) (S_val (.int .i64 3) (by kernel_rfl) (S_nil (R_inLoop (R_seq (R_region (S_val (.bool false) (by kernel_rfl) (?_))))))))))))
                    have HR := hr_neg HR c208
                    refine S_nil (R_seq (R_no (by kernel_rfl) (R_exit rfl (R_seq (R_region (S_call (s_umbralaw27_works ) (fun r : Bool => .bool r) hM203 (w_umbralaw27_works  w202) (by kernel_rfl) (fun r209 h210 w211 hM212 => ?_)))))))
                    have HR := hr_lt HR h210
                    cases r209
                    · refine S_val (.bool false) (by kernel_rfl) (S_nil (?_))
                      have HR := hr_neg HR Bool.false_ne_true
                      refine R_ret hM212 rfl (.cons (.tmp _ (.bool false) (by kernel_rfl)) .nil) rfl ?_
                      exact ⟨congrArg Ending.returned HR, hM212.below⟩
                    · refine S_val (.bool true) (by kernel_rfl) (S_nil (?_))
                      have HR := hr_pos HR rfl
                      refine R_ret hM212 rfl (.cons (.tmp _ (.bool true) (by kernel_rfl)) .nil) rfl ?_
                      exact ⟨congrArg Ending.returned HR, hM212.below⟩
              · refine S_nil (R_no (by kernel_rfl) (R_skip (R_seq (R_region (S_val (.pointer (some ⟨g179, 0, none⟩)) (by kernel_rfl) (S_load 0 0 (.int .i64 r42.2.1) hM183 (by kernel_rfl) (S_int (IntKind.i64.wrap (Int.tdiv r42.2.1 4)) .i64 (by kernel_rfl) (fun x214 h215 => S_val (.pointer (some ⟨g179, 1, none⟩)) (by kernel_rfl) (S_load 0 1 (.int .i64 r69.2.1) hM183 (by kernel_rfl) (S_int (IntKind.i64.wrap (x214 - r69.2.1)) .i64 (by kernel_rfl) (fun x216 h217 => S_call (fabs x216) (fun r : Int => .int .i64 r) hM183 (c_fix_Abs x216 (wr_i64 h217) w182) (by kernel_rfl) (fun r218 h219 w220 hM221 => ?_))))))))))))
                have HR := hr_neg HR c184
                have HR := hr_lt HR h215
                have HR := hr_lt HR h217
                have HR := hr_lt HR h219
                refine S_val (.int .i64 r218) (by kernel_rfl) (S_nil (R_seq (R_region (S_val (.int .i64 r218) (by kernel_rfl) (S_val (.pointer (some ⟨g179, 0, none⟩)) (by kernel_rfl) (S_load 0 0 (.int .i64 r42.2.1) hM221 (by kernel_rfl) (S_int (Int.fdiv r42.2.1 (2 ^ 10)) .i64 (by kernel_rfl) (fun x222 h223 => S_int (IntKind.i64.wrap (x222 + 4096)) .i64 (by kernel_rfl) (fun x224 h225 => ?_)))))))))
                have HR := hr_lt HR h223
                have HR := hr_lt HR h225
                refine S_dec (r218 > x224) (by kernel_rfl) (fun c226 => ?_) (fun c226 => ?_)
                · refine S_nil (R_yes (by kernel_rfl) (R_seq (R_region (S_val (.bool false) (by kernel_rfl) (S_nil (?_))))))
                  have HR := hr_pos HR c226
                  refine R_ret hM221 rfl (.cons (.tmp _ (.bool false) (by kernel_rfl)) .nil) rfl ?_
                  exact ⟨congrArg Ending.returned HR, hM221.below⟩
                · refine S_nil (R_no (by kernel_rfl) (R_skip (R_inBlock (R_region (S_val (.int .i64 2) (by kernel_rfl) (S_val (.int .i64 2) (by kernel_rfl) (S_nil (R_inLoop (R_seq (R_region (S_val (.bool true) (by kernel_rfl) (?_))))))))))))
                  have HR := hr_neg HR c226
                  refine S_nil (R_seq (R_yes (by kernel_rfl) (R_skip (R_seq (R_block (R_seq (R_region (S_val (.pointer (some ⟨g80, 4, none⟩)) (by kernel_rfl) (S_load 2 4 (.agg #[.int .i64 r42.2.2, .int .i64 r69.2.2]) hM221 (by kernel_rfl) (S_fresh none #[.int .i64 0, .int .i64 0] 42 hM221 (by kernel_rfl) (fun g227 w228 hM229 => S_store 0 0 #[.int .i64 r42.2.2, .int .i64 r69.2.2] hM229 (by kernel_rfl) (fun w230 hM231 => ?_))))))))))))
                  refine S_nil (R_seq (R_seq (R_region (S_val (.pointer (some ⟨g227, 0, none⟩)) (by kernel_rfl) (S_load 0 0 (.int .i64 r42.2.2) hM231 (by kernel_rfl) (?_))))))
                  refine S_dec (r42.2.2 ≥ 1152921504606846976) (by kernel_rfl) (fun c232 => ?_) (fun c232 => ?_)
                  · refine S_nil (R_yes (by kernel_rfl) (R_exit rfl (R_region (S_val (.int .i64 3) (by kernel_rfl) (S_val (.int .i64 3) (by kernel_rfl) (S_nil (R_inLoop (R_seq (R_region (S_val (.bool false) (by kernel_rfl) (S_nil (?_))))))))))))
                    have HR := hr_pos HR c232
                    refine R_seq (R_no (by kernel_rfl) (R_exit rfl (R_seq (R_region (S_call (s_umbralaw27_works ) (fun r : Bool => .bool r) hM231 (w_umbralaw27_works  w230) (by kernel_rfl) (fun r233 h234 w235 hM236 => ?_))))))
                    have HR := hr_lt HR h234
                    cases r233
                    · refine S_val (.bool false) (by kernel_rfl) (S_nil (?_))
                      have HR := hr_neg HR Bool.false_ne_true
                      refine R_ret hM236 rfl (.cons (.tmp _ (.bool false) (by kernel_rfl)) .nil) rfl ?_
                      exact ⟨congrArg Ending.returned HR, hM236.below⟩
                    · refine S_val (.bool true) (by kernel_rfl) (S_nil (?_))
                      have HR := hr_pos HR rfl
                      refine R_ret hM236 rfl (.cons (.tmp _ (.bool true) (by kernel_rfl)) .nil) rfl ?_
                      exact ⟨congrArg Ending.returned HR, hM236.below⟩
                  · refine S_nil (R_no (by kernel_rfl) (R_skip (R_seq (R_region (S_val (.pointer (some ⟨g227, 0, none⟩)) (by kernel_rfl) (S_load 0 0 (.int .i64 r42.2.2) hM231 (by kernel_rfl) (S_int (IntKind.i64.wrap (Int.tdiv r42.2.2 4)) .i64 (by kernel_rfl) (fun x238 h239 => S_val (.pointer (some ⟨g227, 1, none⟩)) (by kernel_rfl) (S_load 0 1 (.int .i64 r69.2.2) hM231 (by kernel_rfl) (S_int (IntKind.i64.wrap (x238 - r69.2.2)) .i64 (by kernel_rfl) (fun x240 h241 => S_call (fabs x240) (fun r : Int => .int .i64 r) hM231 (c_fix_Abs x240 (wr_i64 h241) w230) (by kernel_rfl) (fun r242 h243 w244 hM245 => ?_))))))))))))
                    have HR := hr_neg HR c232
                    have HR := hr_lt HR h239
                    have HR := hr_lt HR h241
                    have HR := hr_lt HR h243
                    refine S_val (.int .i64 r242) (by kernel_rfl) (S_nil (R_seq (R_region (S_val (.int .i64 r242) (by kernel_rfl) (S_val (.pointer (some ⟨g227, 0, none⟩)) (by kernel_rfl) (S_load 0 0 (.int .i64 r42.2.2) hM245 (by kernel_rfl) (S_int (Int.fdiv r42.2.2 (2 ^ 10)) .i64 (by kernel_rfl) (fun x246 h247 => S_int (IntKind.i64.wrap (x246 + 4096)) .i64 (by kernel_rfl) (fun x248 h249 => ?_)))))))))
                    have HR := hr_lt HR h247
                    have HR := hr_lt HR h249
                    refine S_dec (r242 > x248) (by kernel_rfl) (fun c250 => ?_) (fun c250 => ?_)
                    · refine S_nil (R_yes (by kernel_rfl) (R_seq (R_region (S_val (.bool false) (by kernel_rfl) (S_nil (?_))))))
                      have HR := hr_pos HR c250
                      refine R_ret hM245 rfl (.cons (.tmp _ (.bool false) (by kernel_rfl)) .nil) rfl ?_
                      exact ⟨congrArg Ending.returned HR, hM245.below⟩
                    · refine S_nil (R_no (by kernel_rfl) (R_skip (R_inBlock (R_region (S_val (.int .i64 3) (by kernel_rfl) (S_val (.int .i64 3) (by kernel_rfl) (S_nil (R_inLoop (R_seq (R_region (S_val (.bool false) (by kernel_rfl) (?_))))))))))))
                      have HR := hr_neg HR c250
                      refine S_nil (R_seq (R_no (by kernel_rfl) (R_exit rfl (R_seq (R_region (S_call (s_umbralaw27_works ) (fun r : Bool => .bool r) hM245 (w_umbralaw27_works  w244) (by kernel_rfl) (fun r251 h252 w253 hM254 => ?_)))))))
                      have HR := hr_lt HR h252
                      cases r251
                      · refine S_val (.bool false) (by kernel_rfl) (S_nil (?_))
                        have HR := hr_neg HR Bool.false_ne_true
                        refine R_ret hM254 rfl (.cons (.tmp _ (.bool false) (by kernel_rfl)) .nil) rfl ?_
                        exact ⟨congrArg Ending.returned HR, hM254.below⟩
                      · refine S_val (.bool true) (by kernel_rfl) (S_nil (?_))
                        have HR := hr_pos HR rfl
                        refine R_ret hM254 rfl (.cons (.tmp _ (.bool true) (by kernel_rfl)) .nil) rfl ?_
                        exact ⟨congrArg Ending.returned HR, hM254.below⟩
        · refine F_fresh none #[.int .i64 0, .int .i64 0, .int .i64 0, .bool false, .bool false, .int .i64 0, .int .i64 0, .int .i64 0] 62 hL55 (by kernel_rfl) (fun _ => by kernel_rfl) (fun g256 F257 U258 hL259 => F_nil hM52 hL259 (fun w260 hM261 => S_store 0 0 #[.int .i64 r66.1, .int .i64 r66.2.1, .int .i64 r66.2.2, .bool false, .bool true, .int .i64 r69.1, .int .i64 r69.2.1, .int .i64 r69.2.2] hM261 (by kernel_rfl) (fun w262 hM263 => S_nil (R_seq (R_seq (R_region (S_val (.pointer (some ⟨g45, 4, none⟩)) (by kernel_rfl) (S_load 1 4 (.bool false) hM263 (by kernel_rfl) (S_val (.bool false) (by kernel_rfl) (S_val (.pointer (some ⟨g256, 4, none⟩)) (by kernel_rfl) (S_load 0 4 (.bool true) hM263 (by kernel_rfl) (?_))))))))))))
          have HR := hr_neg HR Bool.false_ne_true
          have HR := hr_pos HR rfl
          refine S_val (.bool true) (by kernel_rfl) (S_nil (R_yes (by kernel_rfl) (R_seq (R_region (S_call (s_umbralaw27_works ) (fun r : Bool => .bool r) hM263 (w_umbralaw27_works  w262) (by kernel_rfl) (fun r264 h265 w266 hM267 => ?_))))))
          have HR := hr_lt HR h265
          cases r264
          · refine S_val (.bool false) (by kernel_rfl) (S_nil (?_))
            have HR := hr_neg HR Bool.false_ne_true
            refine R_ret hM267 rfl (.cons (.tmp _ (.bool false) (by kernel_rfl)) .nil) rfl ?_
            exact ⟨congrArg Ending.returned HR, hM267.below⟩
          · refine S_val (.bool true) (by kernel_rfl) (S_nil (?_))
            have HR := hr_pos HR rfl
            refine R_ret hM267 rfl (.cons (.tmp _ (.bool true) (by kernel_rfl)) .nil) rfl ?_
            exact ⟨congrArg Ending.returned HR, hM267.below⟩
      · cases b71
        · refine F_fresh none #[.int .i64 0, .int .i64 0, .int .i64 0, .bool false, .bool false, .int .i64 0, .int .i64 0, .int .i64 0] 62 hL55 (by kernel_rfl) (fun _ => by kernel_rfl) (fun g270 F271 U272 hL273 => F_nil hM52 hL273 (fun w274 hM275 => S_store 0 0 #[.int .i64 r66.1, .int .i64 r66.2.1, .int .i64 r66.2.2, .bool true, .bool false, .int .i64 r69.1, .int .i64 r69.2.1, .int .i64 r69.2.2] hM275 (by kernel_rfl) (fun w276 hM277 => S_nil (R_seq (R_seq (R_region (S_val (.pointer (some ⟨g45, 4, none⟩)) (by kernel_rfl) (S_load 1 4 (.bool false) hM277 (by kernel_rfl) (S_val (.bool false) (by kernel_rfl) (S_val (.pointer (some ⟨g270, 4, none⟩)) (by kernel_rfl) (S_load 0 4 (.bool false) hM277 (by kernel_rfl) (?_))))))))))))
          have HR := hr_pos HR rfl
          have HR := hr_neg HR Bool.false_ne_true
          refine S_val (.bool false) (by kernel_rfl) (S_nil (R_no (by kernel_rfl) (R_skip (R_seq (R_seq (R_region (S_val (.pointer (some ⟨g45, 5, none⟩)) (by kernel_rfl) (S_val (.pointer (some ⟨g45, 5, none⟩)) (by kernel_rfl) (S_load 1 5 (.int .i64 r42.1) hM277 (by kernel_rfl) (S_val (.pointer (some ⟨g270, 5, none⟩)) (by kernel_rfl) (S_val (.pointer (some ⟨g270, 5, none⟩)) (by kernel_rfl) (?_))))))))))))
          refine S_load 0 5 (.int .i64 r69.1) hM277 (by kernel_rfl) (S_val (.agg #[.int .i64 r42.1, .int .i64 r69.1]) (by kernel_rfl) (S_val (.pointer (some ⟨g45, 5, none⟩)) (by kernel_rfl) (S_val (.pointer (some ⟨g45, 6, none⟩)) (by kernel_rfl) (S_load 1 6 (.int .i64 r42.2.1) hM277 (by kernel_rfl) (S_val (.pointer (some ⟨g270, 5, none⟩)) (by kernel_rfl) (S_val (.pointer (some ⟨g270, 6, none⟩)) (by kernel_rfl) (S_load 0 6 (.int .i64 r69.2.1) hM277 (by kernel_rfl) (S_val (.agg #[.int .i64 r42.2.1, .int .i64 r69.2.1]) (by kernel_rfl) (S_val (.pointer (some ⟨g45, 5, none⟩)) (by kernel_rfl) (S_val (.pointer (some ⟨g45, 7, none⟩)) (by kernel_rfl) (S_load 1 7 (.int .i64 r42.2.2) hM277 (by kernel_rfl) (?_))))))))))))
          refine S_val (.pointer (some ⟨g270, 5, none⟩)) (by kernel_rfl) (S_val (.pointer (some ⟨g270, 7, none⟩)) (by kernel_rfl) (S_load 0 7 (.int .i64 r69.2.2) hM277 (by kernel_rfl) (S_val (.agg #[.int .i64 r42.2.2, .int .i64 r69.2.2]) (by kernel_rfl) (S_fresh (some 3) #[.int .i64 r42.1, .int .i64 r69.1, .int .i64 r42.2.1, .int .i64 r69.2.1, .int .i64 r42.2.2, .int .i64 r69.2.2] 42 hM277 (by kernel_rfl) (fun g278 w279 hM280 => S_val (.int .i64 3) (by kernel_rfl) (S_val (.int .i64 0) (by kernel_rfl) (S_nil (R_block (R_loop (R_seq (R_region (?_))))))))))))
          refine S_val (.bool true) (by kernel_rfl) (S_nil (R_seq (R_yes (by kernel_rfl) (R_skip (R_seq (R_block (R_seq (R_region (S_val (.pointer (some ⟨g278, 0, none⟩)) (by kernel_rfl) (S_load 0 0 (.agg #[.int .i64 r42.1, .int .i64 r69.1]) hM280 (by kernel_rfl) (S_fresh none #[.int .i64 0, .int .i64 0] 42 hM280 (by kernel_rfl) (fun g281 w282 hM283 => ?_))))))))))))
          refine S_store 0 0 #[.int .i64 r42.1, .int .i64 r69.1] hM283 (by kernel_rfl) (fun w284 hM285 => S_nil (R_seq (R_seq (R_region (S_val (.pointer (some ⟨g281, 0, none⟩)) (by kernel_rfl) (S_load 0 0 (.int .i64 r42.1) hM285 (by kernel_rfl) (?_)))))))
          refine S_dec (r42.1 ≥ 1152921504606846976) (by kernel_rfl) (fun c286 => ?_) (fun c286 => ?_)
          · refine S_nil (R_yes (by kernel_rfl) (R_exit rfl (R_region (S_val (.int .i64 1) (by kernel_rfl) (S_val (.int .i64 1) (by kernel_rfl) (S_nil (R_inLoop (R_seq (R_region (S_val (.bool true) (by kernel_rfl) (S_nil (?_))))))))))))
            have HR := hr_pos HR c286
            refine R_seq (R_yes (by kernel_rfl) (R_skip (R_seq (R_block (R_seq (R_region (S_val (.pointer (some ⟨g278, 2, none⟩)) (by kernel_rfl) (S_load 1 2 (.agg #[.int .i64 r42.2.1, .int .i64 r69.2.1]) hM285 (by kernel_rfl) (S_fresh none #[.int .i64 0, .int .i64 0] 42 hM285 (by kernel_rfl) (fun g287 w288 hM289 => S_store 0 0 #[.int .i64 r42.2.1, .int .i64 r69.2.1] hM289 (by kernel_rfl) (fun w290 hM291 => S_nil (?_))))))))))))
            refine R_seq (R_seq (R_region (S_val (.pointer (some ⟨g287, 0, none⟩)) (by kernel_rfl) (S_load 0 0 (.int .i64 r42.2.1) hM291 (by kernel_rfl) (?_)))))
            refine S_dec (r42.2.1 ≥ 1152921504606846976) (by kernel_rfl) (fun c292 => ?_) (fun c292 => ?_)
            · refine S_nil (R_yes (by kernel_rfl) (R_exit rfl (R_region (S_val (.int .i64 2) (by kernel_rfl) (S_val (.int .i64 2) (by kernel_rfl) (S_nil (R_inLoop (R_seq (R_region (S_val (.bool true) (by kernel_rfl) (S_nil (?_))))))))))))
              have HR := hr_pos HR c292
              refine R_seq (R_yes (by kernel_rfl) (R_skip (R_seq (R_block (R_seq (R_region (S_val (.pointer (some ⟨g278, 4, none⟩)) (by kernel_rfl) (S_load 2 4 (.agg #[.int .i64 r42.2.2, .int .i64 r69.2.2]) hM291 (by kernel_rfl) (S_fresh none #[.int .i64 0, .int .i64 0] 42 hM291 (by kernel_rfl) (fun g293 w294 hM295 => S_store 0 0 #[.int .i64 r42.2.2, .int .i64 r69.2.2] hM295 (by kernel_rfl) (fun w296 hM297 => S_nil (?_))))))))))))
              refine R_seq (R_seq (R_region (S_val (.pointer (some ⟨g293, 0, none⟩)) (by kernel_rfl) (S_load 0 0 (.int .i64 r42.2.2) hM297 (by kernel_rfl) (?_)))))
              refine S_dec (r42.2.2 ≥ 1152921504606846976) (by kernel_rfl) (fun c298 => ?_) (fun c298 => ?_)
              · refine S_nil (R_yes (by kernel_rfl) (R_exit rfl (R_region (S_val (.int .i64 3) (by kernel_rfl) (S_val (.int .i64 3) (by kernel_rfl) (S_nil (R_inLoop (R_seq (R_region (S_val (.bool false) (by kernel_rfl) (S_nil (?_))))))))))))
                have HR := hr_pos HR c298
                refine R_seq (R_no (by kernel_rfl) (R_exit rfl (R_seq (R_region (S_call (s_umbralaw27_works ) (fun r : Bool => .bool r) hM297 (w_umbralaw27_works  w296) (by kernel_rfl) (fun r299 h300 w301 hM302 => ?_))))))
                have HR := hr_lt HR h300
                cases r299
                · refine S_val (.bool false) (by kernel_rfl) (S_nil (?_))
                  have HR := hr_neg HR Bool.false_ne_true
                  refine R_ret hM302 rfl (.cons (.tmp _ (.bool false) (by kernel_rfl)) .nil) rfl ?_
                  exact ⟨congrArg Ending.returned HR, hM302.below⟩
                · refine S_val (.bool true) (by kernel_rfl) (S_nil (?_))
                  have HR := hr_pos HR rfl
                  refine R_ret hM302 rfl (.cons (.tmp _ (.bool true) (by kernel_rfl)) .nil) rfl ?_
                  exact ⟨congrArg Ending.returned HR, hM302.below⟩
              · refine S_nil (R_no (by kernel_rfl) (R_skip (R_seq (R_region (S_val (.pointer (some ⟨g293, 0, none⟩)) (by kernel_rfl) (S_load 0 0 (.int .i64 r42.2.2) hM297 (by kernel_rfl) (S_int (IntKind.i64.wrap (Int.tdiv r42.2.2 4)) .i64 (by kernel_rfl) (fun x304 h305 => S_val (.pointer (some ⟨g293, 1, none⟩)) (by kernel_rfl) (S_load 0 1 (.int .i64 r69.2.2) hM297 (by kernel_rfl) (S_int (IntKind.i64.wrap (x304 - r69.2.2)) .i64 (by kernel_rfl) (fun x306 h307 => S_call (fabs x306) (fun r : Int => .int .i64 r) hM297 (c_fix_Abs x306 (wr_i64 h307) w296) (by kernel_rfl) (fun r308 h309 w310 hM311 => ?_))))))))))))
                have HR := hr_neg HR c298
                have HR := hr_lt HR h305
                have HR := hr_lt HR h307
                have HR := hr_lt HR h309
                refine S_val (.int .i64 r308) (by kernel_rfl) (S_nil (R_seq (R_region (S_val (.int .i64 r308) (by kernel_rfl) (S_val (.pointer (some ⟨g293, 0, none⟩)) (by kernel_rfl) (S_load 0 0 (.int .i64 r42.2.2) hM311 (by kernel_rfl) (S_int (Int.fdiv r42.2.2 (2 ^ 10)) .i64 (by kernel_rfl) (fun x312 h313 => S_int (IntKind.i64.wrap (x312 + 4096)) .i64 (by kernel_rfl) (fun x314 h315 => ?_)))))))))
                have HR := hr_lt HR h313
                have HR := hr_lt HR h315
                refine S_dec (r308 > x314) (by kernel_rfl) (fun c316 => ?_) (fun c316 => ?_)
                · refine S_nil (R_yes (by kernel_rfl) (R_seq (R_region (S_val (.bool false) (by kernel_rfl) (S_nil (?_))))))
                  have HR := hr_pos HR c316
                  refine R_ret hM311 rfl (.cons (.tmp _ (.bool false) (by kernel_rfl)) .nil) rfl ?_
                  exact ⟨congrArg Ending.returned HR, hM311.below⟩
                · refine S_nil (R_no (by kernel_rfl) (R_skip (R_inBlock (R_region (S_val (.int .i64 3) (by kernel_rfl) (S_val (.int .i64 3) (by kernel_rfl) (S_nil (R_inLoop (R_seq (R_region (S_val (.bool false) (by kernel_rfl) (?_))))))))))))
                  have HR := hr_neg HR c316
                  refine S_nil (R_seq (R_no (by kernel_rfl) (R_exit rfl (R_seq (R_region (S_call (s_umbralaw27_works ) (fun r : Bool => .bool r) hM311 (w_umbralaw27_works  w310) (by kernel_rfl) (fun r317 h318 w319 hM320 => ?_)))))))
                  have HR := hr_lt HR h318
                  cases r317
                  · refine S_val (.bool false) (by kernel_rfl) (S_nil (?_))
                    have HR := hr_neg HR Bool.false_ne_true
                    refine R_ret hM320 rfl (.cons (.tmp _ (.bool false) (by kernel_rfl)) .nil) rfl ?_
                    exact ⟨congrArg Ending.returned HR, hM320.below⟩
                  · refine S_val (.bool true) (by kernel_rfl) (S_nil (?_))
                    have HR := hr_pos HR rfl
                    refine R_ret hM320 rfl (.cons (.tmp _ (.bool true) (by kernel_rfl)) .nil) rfl ?_
                    exact ⟨congrArg Ending.returned HR, hM320.below⟩
            · refine S_nil (R_no (by kernel_rfl) (R_skip (R_seq (R_region (S_val (.pointer (some ⟨g287, 0, none⟩)) (by kernel_rfl) (S_load 0 0 (.int .i64 r42.2.1) hM291 (by kernel_rfl) (S_int (IntKind.i64.wrap (Int.tdiv r42.2.1 4)) .i64 (by kernel_rfl) (fun x322 h323 => S_val (.pointer (some ⟨g287, 1, none⟩)) (by kernel_rfl) (S_load 0 1 (.int .i64 r69.2.1) hM291 (by kernel_rfl) (S_int (IntKind.i64.wrap (x322 - r69.2.1)) .i64 (by kernel_rfl) (fun x324 h325 => S_call (fabs x324) (fun r : Int => .int .i64 r) hM291 (c_fix_Abs x324 (wr_i64 h325) w290) (by kernel_rfl) (fun r326 h327 w328 hM329 => ?_))))))))))))
              have HR := hr_neg HR c292
              have HR := hr_lt HR h323
              have HR := hr_lt HR h325
              have HR := hr_lt HR h327
              refine S_val (.int .i64 r326) (by kernel_rfl) (S_nil (R_seq (R_region (S_val (.int .i64 r326) (by kernel_rfl) (S_val (.pointer (some ⟨g287, 0, none⟩)) (by kernel_rfl) (S_load 0 0 (.int .i64 r42.2.1) hM329 (by kernel_rfl) (S_int (Int.fdiv r42.2.1 (2 ^ 10)) .i64 (by kernel_rfl) (fun x330 h331 => S_int (IntKind.i64.wrap (x330 + 4096)) .i64 (by kernel_rfl) (fun x332 h333 => ?_)))))))))
              have HR := hr_lt HR h331
              have HR := hr_lt HR h333
              refine S_dec (r326 > x332) (by kernel_rfl) (fun c334 => ?_) (fun c334 => ?_)
              · refine S_nil (R_yes (by kernel_rfl) (R_seq (R_region (S_val (.bool false) (by kernel_rfl) (S_nil (?_))))))
                have HR := hr_pos HR c334
                refine R_ret hM329 rfl (.cons (.tmp _ (.bool false) (by kernel_rfl)) .nil) rfl ?_
                exact ⟨congrArg Ending.returned HR, hM329.below⟩
              · refine S_nil (R_no (by kernel_rfl) (R_skip (R_inBlock (R_region (S_val (.int .i64 2) (by kernel_rfl) (S_val (.int .i64 2) (by kernel_rfl) (S_nil (R_inLoop (R_seq (R_region (S_val (.bool true) (by kernel_rfl) (?_))))))))))))
                have HR := hr_neg HR c334
                refine S_nil (R_seq (R_yes (by kernel_rfl) (R_skip (R_seq (R_block (R_seq (R_region (S_val (.pointer (some ⟨g278, 4, none⟩)) (by kernel_rfl) (S_load 2 4 (.agg #[.int .i64 r42.2.2, .int .i64 r69.2.2]) hM329 (by kernel_rfl) (S_fresh none #[.int .i64 0, .int .i64 0] 42 hM329 (by kernel_rfl) (fun g335 w336 hM337 => S_store 0 0 #[.int .i64 r42.2.2, .int .i64 r69.2.2] hM337 (by kernel_rfl) (fun w338 hM339 => ?_))))))))))))
                refine S_nil (R_seq (R_seq (R_region (S_val (.pointer (some ⟨g335, 0, none⟩)) (by kernel_rfl) (S_load 0 0 (.int .i64 r42.2.2) hM339 (by kernel_rfl) (?_))))))
                refine S_dec (r42.2.2 ≥ 1152921504606846976) (by kernel_rfl) (fun c340 => ?_) (fun c340 => ?_)
                · refine S_nil (R_yes (by kernel_rfl) (R_exit rfl (R_region (S_val (.int .i64 3) (by kernel_rfl) (S_val (.int .i64 3) (by kernel_rfl) (S_nil (R_inLoop (R_seq (R_region (S_val (.bool false) (by kernel_rfl) (S_nil (?_))))))))))))
                  have HR := hr_pos HR c340
                  refine R_seq (R_no (by kernel_rfl) (R_exit rfl (R_seq (R_region (S_call (s_umbralaw27_works ) (fun r : Bool => .bool r) hM339 (w_umbralaw27_works  w338) (by kernel_rfl) (fun r341 h342 w343 hM344 => ?_))))))
                  have HR := hr_lt HR h342
                  cases r341
                  · refine S_val (.bool false) (by kernel_rfl) (S_nil (?_))
                    have HR := hr_neg HR Bool.false_ne_true
                    refine R_ret hM344 rfl (.cons (.tmp _ (.bool false) (by kernel_rfl)) .nil) rfl ?_
                    exact ⟨congrArg Ending.returned HR, hM344.below⟩
                  · refine S_val (.bool true) (by kernel_rfl) (S_nil (?_))
                    have HR := hr_pos HR rfl
                    refine R_ret hM344 rfl (.cons (.tmp _ (.bool true) (by kernel_rfl)) .nil) rfl ?_
                    exact ⟨congrArg Ending.returned HR, hM344.below⟩
                · refine S_nil (R_no (by kernel_rfl) (R_skip (R_seq (R_region (S_val (.pointer (some ⟨g335, 0, none⟩)) (by kernel_rfl) (S_load 0 0 (.int .i64 r42.2.2) hM339 (by kernel_rfl) (S_int (IntKind.i64.wrap (Int.tdiv r42.2.2 4)) .i64 (by kernel_rfl) (fun x346 h347 => S_val (.pointer (some ⟨g335, 1, none⟩)) (by kernel_rfl) (S_load 0 1 (.int .i64 r69.2.2) hM339 (by kernel_rfl) (S_int (IntKind.i64.wrap (x346 - r69.2.2)) .i64 (by kernel_rfl) (fun x348 h349 => S_call (fabs x348) (fun r : Int => .int .i64 r) hM339 (c_fix_Abs x348 (wr_i64 h349) w338) (by kernel_rfl) (fun r350 h351 w352 hM353 => ?_))))))))))))
                  have HR := hr_neg HR c340
                  have HR := hr_lt HR h347
                  have HR := hr_lt HR h349
                  have HR := hr_lt HR h351
                  refine S_val (.int .i64 r350) (by kernel_rfl) (S_nil (R_seq (R_region (S_val (.int .i64 r350) (by kernel_rfl) (S_val (.pointer (some ⟨g335, 0, none⟩)) (by kernel_rfl) (S_load 0 0 (.int .i64 r42.2.2) hM353 (by kernel_rfl) (S_int (Int.fdiv r42.2.2 (2 ^ 10)) .i64 (by kernel_rfl) (fun x354 h355 => S_int (IntKind.i64.wrap (x354 + 4096)) .i64 (by kernel_rfl) (fun x356 h357 => ?_)))))))))
                  have HR := hr_lt HR h355
                  have HR := hr_lt HR h357
                  refine S_dec (r350 > x356) (by kernel_rfl) (fun c358 => ?_) (fun c358 => ?_)
                  · refine S_nil (R_yes (by kernel_rfl) (R_seq (R_region (S_val (.bool false) (by kernel_rfl) (S_nil (?_))))))
                    have HR := hr_pos HR c358
                    refine R_ret hM353 rfl (.cons (.tmp _ (.bool false) (by kernel_rfl)) .nil) rfl ?_
                    exact ⟨congrArg Ending.returned HR, hM353.below⟩
                  · refine S_nil (R_no (by kernel_rfl) (R_skip (R_inBlock (R_region (S_val (.int .i64 3) (by kernel_rfl) (S_val (.int .i64 3) (by kernel_rfl) (S_nil (R_inLoop (R_seq (R_region (S_val (.bool false) (by kernel_rfl) (?_))))))))))))
                    have HR := hr_neg HR c358
                    refine S_nil (R_seq (R_no (by kernel_rfl) (R_exit rfl (R_seq (R_region (S_call (s_umbralaw27_works ) (fun r : Bool => .bool r) hM353 (w_umbralaw27_works  w352) (by kernel_rfl) (fun r359 h360 w361 hM362 => ?_)))))))
                    have HR := hr_lt HR h360
                    cases r359
                    · refine S_val (.bool false) (by kernel_rfl) (S_nil (?_))
                      have HR := hr_neg HR Bool.false_ne_true
                      refine R_ret hM362 rfl (.cons (.tmp _ (.bool false) (by kernel_rfl)) .nil) rfl ?_
                      exact ⟨congrArg Ending.returned HR, hM362.below⟩
                    · refine S_val (.bool true) (by kernel_rfl) (S_nil (?_))
                      have HR := hr_pos HR rfl
                      refine R_ret hM362 rfl (.cons (.tmp _ (.bool true) (by kernel_rfl)) .nil) rfl ?_
                      exact ⟨congrArg Ending.returned HR, hM362.below⟩
          · refine S_nil (R_no (by kernel_rfl) (R_skip (R_seq (R_region (S_val (.pointer (some ⟨g281, 0, none⟩)) (by kernel_rfl) (S_load 0 0 (.int .i64 r42.1) hM285 (by kernel_rfl) (S_int (IntKind.i64.wrap (Int.tdiv r42.1 4)) .i64 (by kernel_rfl) (fun x364 h365 => S_val (.pointer (some ⟨g281, 1, none⟩)) (by kernel_rfl) (S_load 0 1 (.int .i64 r69.1) hM285 (by kernel_rfl) (S_int (IntKind.i64.wrap (x364 - r69.1)) .i64 (by kernel_rfl) (fun x366 h367 => S_call (fabs x366) (fun r : Int => .int .i64 r) hM285 (c_fix_Abs x366 (wr_i64 h367) w284) (by kernel_rfl) (fun r368 h369 w370 hM371 => ?_))))))))))))
            have HR := hr_neg HR c286
            have HR := hr_lt HR h365
            have HR := hr_lt HR h367
            have HR := hr_lt HR h369
            refine S_val (.int .i64 r368) (by kernel_rfl) (S_nil (R_seq (R_region (S_val (.int .i64 r368) (by kernel_rfl) (S_val (.pointer (some ⟨g281, 0, none⟩)) (by kernel_rfl) (S_load 0 0 (.int .i64 r42.1) hM371 (by kernel_rfl) (S_int (Int.fdiv r42.1 (2 ^ 10)) .i64 (by kernel_rfl) (fun x372 h373 => S_int (IntKind.i64.wrap (x372 + 4096)) .i64 (by kernel_rfl) (fun x374 h375 => ?_)))))))))
            have HR := hr_lt HR h373
            have HR := hr_lt HR h375
            refine S_dec (r368 > x374) (by kernel_rfl) (fun c376 => ?_) (fun c376 => ?_)
            · refine S_nil (R_yes (by kernel_rfl) (R_seq (R_region (S_val (.bool false) (by kernel_rfl) (S_nil (?_))))))
              have HR := hr_pos HR c376
              refine R_ret hM371 rfl (.cons (.tmp _ (.bool false) (by kernel_rfl)) .nil) rfl ?_
              exact ⟨congrArg Ending.returned HR, hM371.below⟩
            · refine S_nil (R_no (by kernel_rfl) (R_skip (R_inBlock (R_region (S_val (.int .i64 1) (by kernel_rfl) (S_val (.int .i64 1) (by kernel_rfl) (S_nil (R_inLoop (R_seq (R_region (S_val (.bool true) (by kernel_rfl) (?_))))))))))))
              have HR := hr_neg HR c376
              refine S_nil (R_seq (R_yes (by kernel_rfl) (R_skip (R_seq (R_block (R_seq (R_region (S_val (.pointer (some ⟨g278, 2, none⟩)) (by kernel_rfl) (S_load 1 2 (.agg #[.int .i64 r42.2.1, .int .i64 r69.2.1]) hM371 (by kernel_rfl) (S_fresh none #[.int .i64 0, .int .i64 0] 42 hM371 (by kernel_rfl) (fun g377 w378 hM379 => S_store 0 0 #[.int .i64 r42.2.1, .int .i64 r69.2.1] hM379 (by kernel_rfl) (fun w380 hM381 => ?_))))))))))))
              refine S_nil (R_seq (R_seq (R_region (S_val (.pointer (some ⟨g377, 0, none⟩)) (by kernel_rfl) (S_load 0 0 (.int .i64 r42.2.1) hM381 (by kernel_rfl) (?_))))))
              refine S_dec (r42.2.1 ≥ 1152921504606846976) (by kernel_rfl) (fun c382 => ?_) (fun c382 => ?_)
              · refine S_nil (R_yes (by kernel_rfl) (R_exit rfl (R_region (S_val (.int .i64 2) (by kernel_rfl) (S_val (.int .i64 2) (by kernel_rfl) (S_nil (R_inLoop (R_seq (R_region (S_val (.bool true) (by kernel_rfl) (S_nil (?_))))))))))))
                have HR := hr_pos HR c382
                refine R_seq (R_yes (by kernel_rfl) (R_skip (R_seq (R_block (R_seq (R_region (S_val (.pointer (some ⟨g278, 4, none⟩)) (by kernel_rfl) (S_load 2 4 (.agg #[.int .i64 r42.2.2, .int .i64 r69.2.2]) hM381 (by kernel_rfl) (S_fresh none #[.int .i64 0, .int .i64 0] 42 hM381 (by kernel_rfl) (fun g383 w384 hM385 => S_store 0 0 #[.int .i64 r42.2.2, .int .i64 r69.2.2] hM385 (by kernel_rfl) (fun w386 hM387 => S_nil (?_))))))))))))
                refine R_seq (R_seq (R_region (S_val (.pointer (some ⟨g383, 0, none⟩)) (by kernel_rfl) (S_load 0 0 (.int .i64 r42.2.2) hM387 (by kernel_rfl) (?_)))))
                refine S_dec (r42.2.2 ≥ 1152921504606846976) (by kernel_rfl) (fun c388 => ?_) (fun c388 => ?_)
                · refine S_nil (R_yes (by kernel_rfl) (R_exit rfl (R_region (S_val (.int .i64 3) (by kernel_rfl) (S_val (.int .i64 3) (by kernel_rfl) (S_nil (R_inLoop (R_seq (R_region (S_val (.bool false) (by kernel_rfl) (S_nil (?_))))))))))))
                  have HR := hr_pos HR c388
                  refine R_seq (R_no (by kernel_rfl) (R_exit rfl (R_seq (R_region (S_call (s_umbralaw27_works ) (fun r : Bool => .bool r) hM387 (w_umbralaw27_works  w386) (by kernel_rfl) (fun r389 h390 w391 hM392 => ?_))))))
                  have HR := hr_lt HR h390
                  cases r389
                  · refine S_val (.bool false) (by kernel_rfl) (S_nil (?_))
                    have HR := hr_neg HR Bool.false_ne_true
                    refine R_ret hM392 rfl (.cons (.tmp _ (.bool false) (by kernel_rfl)) .nil) rfl ?_
                    exact ⟨congrArg Ending.returned HR, hM392.below⟩
                  · refine S_val (.bool true) (by kernel_rfl) (S_nil (?_))
                    have HR := hr_pos HR rfl
                    refine R_ret hM392 rfl (.cons (.tmp _ (.bool true) (by kernel_rfl)) .nil) rfl ?_
                    exact ⟨congrArg Ending.returned HR, hM392.below⟩
                · refine S_nil (R_no (by kernel_rfl) (R_skip (R_seq (R_region (S_val (.pointer (some ⟨g383, 0, none⟩)) (by kernel_rfl) (S_load 0 0 (.int .i64 r42.2.2) hM387 (by kernel_rfl) (S_int (IntKind.i64.wrap (Int.tdiv r42.2.2 4)) .i64 (by kernel_rfl) (fun x394 h395 => S_val (.pointer (some ⟨g383, 1, none⟩)) (by kernel_rfl) (S_load 0 1 (.int .i64 r69.2.2) hM387 (by kernel_rfl) (S_int (IntKind.i64.wrap (x394 - r69.2.2)) .i64 (by kernel_rfl) (fun x396 h397 => S_call (fabs x396) (fun r : Int => .int .i64 r) hM387 (c_fix_Abs x396 (wr_i64 h397) w386) (by kernel_rfl) (fun r398 h399 w400 hM401 => ?_))))))))))))
                  have HR := hr_neg HR c388
                  have HR := hr_lt HR h395
                  have HR := hr_lt HR h397
                  have HR := hr_lt HR h399
                  refine S_val (.int .i64 r398) (by kernel_rfl) (S_nil (R_seq (R_region (S_val (.int .i64 r398) (by kernel_rfl) (S_val (.pointer (some ⟨g383, 0, none⟩)) (by kernel_rfl) (S_load 0 0 (.int .i64 r42.2.2) hM401 (by kernel_rfl) (S_int (Int.fdiv r42.2.2 (2 ^ 10)) .i64 (by kernel_rfl) (fun x402 h403 => S_int (IntKind.i64.wrap (x402 + 4096)) .i64 (by kernel_rfl) (fun x404 h405 => ?_)))))))))
                  have HR := hr_lt HR h403
                  have HR := hr_lt HR h405
                  refine S_dec (r398 > x404) (by kernel_rfl) (fun c406 => ?_) (fun c406 => ?_)
                  · refine S_nil (R_yes (by kernel_rfl) (R_seq (R_region (S_val (.bool false) (by kernel_rfl) (S_nil (?_))))))
                    have HR := hr_pos HR c406
                    refine R_ret hM401 rfl (.cons (.tmp _ (.bool false) (by kernel_rfl)) .nil) rfl ?_
                    exact ⟨congrArg Ending.returned HR, hM401.below⟩
                  · refine S_nil (R_no (by kernel_rfl) (R_skip (R_inBlock (R_region (S_val (.int .i64 3) (by kernel_rfl) (S_val (.int .i64 3) (by kernel_rfl) (S_nil (R_inLoop (R_seq (R_region (S_val (.bool false) (by kernel_rfl) (?_))))))))))))
                    have HR := hr_neg HR c406
                    refine S_nil (R_seq (R_no (by kernel_rfl) (R_exit rfl (R_seq (R_region (S_call (s_umbralaw27_works ) (fun r : Bool => .bool r) hM401 (w_umbralaw27_works  w400) (by kernel_rfl) (fun r407 h408 w409 hM410 => ?_)))))))
                    have HR := hr_lt HR h408
                    cases r407
                    · refine S_val (.bool false) (by kernel_rfl) (S_nil (?_))
                      have HR := hr_neg HR Bool.false_ne_true
                      refine R_ret hM410 rfl (.cons (.tmp _ (.bool false) (by kernel_rfl)) .nil) rfl ?_
                      exact ⟨congrArg Ending.returned HR, hM410.below⟩
                    · refine S_val (.bool true) (by kernel_rfl) (S_nil (?_))
                      have HR := hr_pos HR rfl
                      refine R_ret hM410 rfl (.cons (.tmp _ (.bool true) (by kernel_rfl)) .nil) rfl ?_
                      exact ⟨congrArg Ending.returned HR, hM410.below⟩
              · refine S_nil (R_no (by kernel_rfl) (R_skip (R_seq (R_region (S_val (.pointer (some ⟨g377, 0, none⟩)) (by kernel_rfl) (S_load 0 0 (.int .i64 r42.2.1) hM381 (by kernel_rfl) (S_int (IntKind.i64.wrap (Int.tdiv r42.2.1 4)) .i64 (by kernel_rfl) (fun x412 h413 => S_val (.pointer (some ⟨g377, 1, none⟩)) (by kernel_rfl) (S_load 0 1 (.int .i64 r69.2.1) hM381 (by kernel_rfl) (S_int (IntKind.i64.wrap (x412 - r69.2.1)) .i64 (by kernel_rfl) (fun x414 h415 => S_call (fabs x414) (fun r : Int => .int .i64 r) hM381 (c_fix_Abs x414 (wr_i64 h415) w380) (by kernel_rfl) (fun r416 h417 w418 hM419 => ?_))))))))))))
                have HR := hr_neg HR c382
                have HR := hr_lt HR h413
                have HR := hr_lt HR h415
                have HR := hr_lt HR h417
                refine S_val (.int .i64 r416) (by kernel_rfl) (S_nil (R_seq (R_region (S_val (.int .i64 r416) (by kernel_rfl) (S_val (.pointer (some ⟨g377, 0, none⟩)) (by kernel_rfl) (S_load 0 0 (.int .i64 r42.2.1) hM419 (by kernel_rfl) (S_int (Int.fdiv r42.2.1 (2 ^ 10)) .i64 (by kernel_rfl) (fun x420 h421 => S_int (IntKind.i64.wrap (x420 + 4096)) .i64 (by kernel_rfl) (fun x422 h423 => ?_)))))))))
                have HR := hr_lt HR h421
                have HR := hr_lt HR h423
                refine S_dec (r416 > x422) (by kernel_rfl) (fun c424 => ?_) (fun c424 => ?_)
                · refine S_nil (R_yes (by kernel_rfl) (R_seq (R_region (S_val (.bool false) (by kernel_rfl) (S_nil (?_))))))
                  have HR := hr_pos HR c424
                  refine R_ret hM419 rfl (.cons (.tmp _ (.bool false) (by kernel_rfl)) .nil) rfl ?_
                  exact ⟨congrArg Ending.returned HR, hM419.below⟩
                · refine S_nil (R_no (by kernel_rfl) (R_skip (R_inBlock (R_region (S_val (.int .i64 2) (by kernel_rfl) (S_val (.int .i64 2) (by kernel_rfl) (S_nil (R_inLoop (R_seq (R_region (S_val (.bool true) (by kernel_rfl) (?_))))))))))))
                  have HR := hr_neg HR c424
                  refine S_nil (R_seq (R_yes (by kernel_rfl) (R_skip (R_seq (R_block (R_seq (R_region (S_val (.pointer (some ⟨g278, 4, none⟩)) (by kernel_rfl) (S_load 2 4 (.agg #[.int .i64 r42.2.2, .int .i64 r69.2.2]) hM419 (by kernel_rfl) (S_fresh none #[.int .i64 0, .int .i64 0] 42 hM419 (by kernel_rfl) (fun g425 w426 hM427 => S_store 0 0 #[.int .i64 r42.2.2, .int .i64 r69.2.2] hM427 (by kernel_rfl) (fun w428 hM429 => ?_))))))))))))
                  refine S_nil (R_seq (R_seq (R_region (S_val (.pointer (some ⟨g425, 0, none⟩)) (by kernel_rfl) (S_load 0 0 (.int .i64 r42.2.2) hM429 (by kernel_rfl) (?_))))))
                  refine S_dec (r42.2.2 ≥ 1152921504606846976) (by kernel_rfl) (fun c430 => ?_) (fun c430 => ?_)
                  · refine S_nil (R_yes (by kernel_rfl) (R_exit rfl (R_region (S_val (.int .i64 3) (by kernel_rfl) (S_val (.int .i64 3) (by kernel_rfl) (S_nil (R_inLoop (R_seq (R_region (S_val (.bool false) (by kernel_rfl) (S_nil (?_))))))))))))
                    have HR := hr_pos HR c430
                    refine R_seq (R_no (by kernel_rfl) (R_exit rfl (R_seq (R_region (S_call (s_umbralaw27_works ) (fun r : Bool => .bool r) hM429 (w_umbralaw27_works  w428) (by kernel_rfl) (fun r431 h432 w433 hM434 => ?_))))))
                    have HR := hr_lt HR h432
                    cases r431
                    · refine S_val (.bool false) (by kernel_rfl) (S_nil (?_))
                      have HR := hr_neg HR Bool.false_ne_true
                      refine R_ret hM434 rfl (.cons (.tmp _ (.bool false) (by kernel_rfl)) .nil) rfl ?_
                      exact ⟨congrArg Ending.returned HR, hM434.below⟩
                    · refine S_val (.bool true) (by kernel_rfl) (S_nil (?_))
                      have HR := hr_pos HR rfl
                      refine R_ret hM434 rfl (.cons (.tmp _ (.bool true) (by kernel_rfl)) .nil) rfl ?_
                      exact ⟨congrArg Ending.returned HR, hM434.below⟩
                  · refine S_nil (R_no (by kernel_rfl) (R_skip (R_seq (R_region (S_val (.pointer (some ⟨g425, 0, none⟩)) (by kernel_rfl) (S_load 0 0 (.int .i64 r42.2.2) hM429 (by kernel_rfl) (S_int (IntKind.i64.wrap (Int.tdiv r42.2.2 4)) .i64 (by kernel_rfl) (fun x436 h437 => S_val (.pointer (some ⟨g425, 1, none⟩)) (by kernel_rfl) (S_load 0 1 (.int .i64 r69.2.2) hM429 (by kernel_rfl) (S_int (IntKind.i64.wrap (x436 - r69.2.2)) .i64 (by kernel_rfl) (fun x438 h439 => S_call (fabs x438) (fun r : Int => .int .i64 r) hM429 (c_fix_Abs x438 (wr_i64 h439) w428) (by kernel_rfl) (fun r440 h441 w442 hM443 => ?_))))))))))))
                    have HR := hr_neg HR c430
                    have HR := hr_lt HR h437
                    have HR := hr_lt HR h439
                    have HR := hr_lt HR h441
                    refine S_val (.int .i64 r440) (by kernel_rfl) (S_nil (R_seq (R_region (S_val (.int .i64 r440) (by kernel_rfl) (S_val (.pointer (some ⟨g425, 0, none⟩)) (by kernel_rfl) (S_load 0 0 (.int .i64 r42.2.2) hM443 (by kernel_rfl) (S_int (Int.fdiv r42.2.2 (2 ^ 10)) .i64 (by kernel_rfl) (fun x444 h445 => S_int (IntKind.i64.wrap (x444 + 4096)) .i64 (by kernel_rfl) (fun x446 h447 => ?_)))))))))
                    have HR := hr_lt HR h445
                    have HR := hr_lt HR h447
                    refine S_dec (r440 > x446) (by kernel_rfl) (fun c448 => ?_) (fun c448 => ?_)
                    · refine S_nil (R_yes (by kernel_rfl) (R_seq (R_region (S_val (.bool false) (by kernel_rfl) (S_nil (?_))))))
                      have HR := hr_pos HR c448
                      refine R_ret hM443 rfl (.cons (.tmp _ (.bool false) (by kernel_rfl)) .nil) rfl ?_
                      exact ⟨congrArg Ending.returned HR, hM443.below⟩
                    · refine S_nil (R_no (by kernel_rfl) (R_skip (R_inBlock (R_region (S_val (.int .i64 3) (by kernel_rfl) (S_val (.int .i64 3) (by kernel_rfl) (S_nil (R_inLoop (R_seq (R_region (S_val (.bool false) (by kernel_rfl) (?_))))))))))))
                      have HR := hr_neg HR c448
                      refine S_nil (R_seq (R_no (by kernel_rfl) (R_exit rfl (R_seq (R_region (S_call (s_umbralaw27_works ) (fun r : Bool => .bool r) hM443 (w_umbralaw27_works  w442) (by kernel_rfl) (fun r449 h450 w451 hM452 => ?_)))))))
                      have HR := hr_lt HR h450
                      cases r449
                      · refine S_val (.bool false) (by kernel_rfl) (S_nil (?_))
                        have HR := hr_neg HR Bool.false_ne_true
                        refine R_ret hM452 rfl (.cons (.tmp _ (.bool false) (by kernel_rfl)) .nil) rfl ?_
                        exact ⟨congrArg Ending.returned HR, hM452.below⟩
                      · refine S_val (.bool true) (by kernel_rfl) (S_nil (?_))
                        have HR := hr_pos HR rfl
                        refine R_ret hM452 rfl (.cons (.tmp _ (.bool true) (by kernel_rfl)) .nil) rfl ?_
                        exact ⟨congrArg Ending.returned HR, hM452.below⟩
        · refine F_fresh none #[.int .i64 0, .int .i64 0, .int .i64 0, .bool false, .bool false, .int .i64 0, .int .i64 0, .int .i64 0] 62 hL55 (by kernel_rfl) (fun _ => by kernel_rfl) (fun g454 F455 U456 hL457 => F_nil hM52 hL457 (fun w458 hM459 => S_store 0 0 #[.int .i64 r66.1, .int .i64 r66.2.1, .int .i64 r66.2.2, .bool true, .bool true, .int .i64 r69.1, .int .i64 r69.2.1, .int .i64 r69.2.2] hM459 (by kernel_rfl) (fun w460 hM461 => S_nil (R_seq (R_seq (R_region (S_val (.pointer (some ⟨g45, 4, none⟩)) (by kernel_rfl) (S_load 1 4 (.bool false) hM461 (by kernel_rfl) (S_val (.bool false) (by kernel_rfl) (S_val (.pointer (some ⟨g454, 4, none⟩)) (by kernel_rfl) (S_load 0 4 (.bool true) hM461 (by kernel_rfl) (?_))))))))))))
          have HR := hr_pos HR rfl
          have HR := hr_pos HR rfl
          refine S_val (.bool true) (by kernel_rfl) (S_nil (R_yes (by kernel_rfl) (R_seq (R_region (S_call (s_umbralaw27_works ) (fun r : Bool => .bool r) hM461 (w_umbralaw27_works  w460) (by kernel_rfl) (fun r462 h463 w464 hM465 => ?_))))))
          have HR := hr_lt HR h463
          cases r462
          · refine S_val (.bool false) (by kernel_rfl) (S_nil (?_))
            have HR := hr_neg HR Bool.false_ne_true
            refine R_ret hM465 rfl (.cons (.tmp _ (.bool false) (by kernel_rfl)) .nil) rfl ?_
            exact ⟨congrArg Ending.returned HR, hM465.below⟩
          · refine S_val (.bool true) (by kernel_rfl) (S_nil (?_))
            have HR := hr_pos HR rfl
            refine R_ret hM465 rfl (.cons (.tmp _ (.bool true) (by kernel_rfl)) .nil) rfl ?_
            exact ⟨congrArg Ending.returned HR, hM465.below⟩
    · refine F_fresh none #[.int .i64 0, .int .i64 0, .int .i64 0, .bool false, .bool false, .int .i64 0, .int .i64 0, .int .i64 0] 62 hL34 (by kernel_rfl) (fun _ => by kernel_rfl) (fun g469 F470 U471 hL472 => F_nil hM31 hL472 (fun w473 hM474 => S_store 0 0 #[.int .i64 r39.1, .int .i64 r39.2.1, .int .i64 r39.2.2, .bool false, .bool true, .int .i64 r42.1, .int .i64 r42.2.1, .int .i64 r42.2.2] hM474 (by kernel_rfl) (fun w475 hM476 => S_nil (R_seq (R_drawF 17 (by kernel_rfl) (fun F477 U478 hL479 => F_load 3 0 (.agg #[.int .i64 0, .int .i64 l.2.1.1, .int .i64 l.2.1.2.1, .int .i64 l.2.1.2.2, .int .i64 0, .int .i64 0, .int .i64 0, .int .i64 0, .int .i64 0, .int .i64 0, .int .i64 0, .int .i64 0, .int .i64 0]) hM476 (by kernel_rfl) (F_val (.agg #[.int .i64 0, .int .i64 0, .int .i64 0]) (fun _ => by kernel_rfl) (F_val (.pointer (some ⟨g4, 0, none⟩)) (fun _ => by kernel_rfl) (F_load 2 0 (.int .i64 x15) hM476 (by kernel_rfl) (F_int (IntKind.i64.wrap (2 * x15)) .i64 (fun _ => by kernel_rfl) (fun x480 h481 => F_val (.pointer (some ⟨g4, 1, none⟩)) (fun _ => by kernel_rfl) (?_))))))))))))
      have HR := hr_neg HR Bool.false_ne_true
      have HR := hr_pos HR rfl
      have HR := hr_lt HR h481
      refine F_load 2 1 (.int .i64 x17) hM476 (by kernel_rfl) (F_int (IntKind.i64.wrap (2 * x17)) .i64 (fun _ => by kernel_rfl) (fun x482 h483 => F_val (.pointer (some ⟨g4, 2, none⟩)) (fun _ => by kernel_rfl) (F_load 2 2 (.int .i64 x19) hM476 (by kernel_rfl) (F_int (IntKind.i64.wrap (2 * x19)) .i64 (fun _ => by kernel_rfl) (fun x484 h485 => F_val (.agg #[.int .i64 x480, .int .i64 x482, .int .i64 x484]) (fun _ => by kernel_rfl) (F_call (s_tri_Sub (0, 0, 0) (x480, x482, x484)) (fun r : Int × Int × Int => .agg #[.int .i64 r.1, .int .i64 r.2.1, .int .i64 r.2.2]) hM476 hL479 (fun w' hM' => w_tri_Sub (0, 0, 0) (x480, x482, x484) (⟨(show InI 0 from by unfold InI; omega), (show InI 0 from by unfold InI; omega), (show InI 0 from by unfold InI; omega)⟩) (⟨(wr_i64 h481), (wr_i64 h483), (wr_i64 h485)⟩) w') (by kernel_rfl) (fun _ => by kernel_rfl) (fun r486 h487 => F_load 1 0 (.agg #[.int .i64 r23.1, .int .i64 r23.2.1, .int .i64 r23.2.2]) hM476 (by kernel_rfl) (F_val (.agg #[.int .u32 0, .int .u32 0]) (fun _ => by kernel_rfl) (F_call (s_lamp_Sample (0, l.2.1, (0, 0, 0), (0, 0, 0), (0, 0, 0)) r486 r23 (0, 0)) (fun r : (Int × Int × Int) × Bool × Bool × (Int × Int × Int) => .agg #[.int .i64 r.1.1, .int .i64 r.1.2.1, .int .i64 r.1.2.2, .bool r.2.1, .bool r.2.2.1, .int .i64 r.2.2.2.1, .int .i64 r.2.2.2.2.1, .int .i64 r.2.2.2.2.2]) hM476 hL479 (fun w' hM' => w_lamp_Sample (0, l.2.1, (0, 0, 0), (0, 0, 0), (0, 0, 0)) r486 r23 (0, 0) (⟨(show InI 0 from by unfold InI; omega), h_l.2.1, ⟨(show InI 0 from by unfold InI; omega), (show InI 0 from by unfold InI; omega), (show InI 0 from by unfold InI; omega)⟩, ⟨(show InI 0 from by unfold InI; omega), (show InI 0 from by unfold InI; omega), (show InI 0 from by unfold InI; omega)⟩, ⟨(show InI 0 from by unfold InI; omega), (show InI 0 from by unfold InI; omega), (show InI 0 from by unfold InI; omega)⟩⟩) ((tr (P := fun r : Int × Int × Int => InV r) h487 (i_tri_Sub (0, 0, 0) (x480, x482, x484) (⟨(show InI 0 from by unfold InI; omega), (show InI 0 from by unfold InI; omega), (show InI 0 from by unfold InI; omega)⟩) (⟨(wr_i64 h481), (wr_i64 h483), (wr_i64 h485)⟩))).out) ((tr (P := fun r : Int × Int × Int => InV r) h24 (vtow_I (x15, x17, x19))).out) (⟨(show InU32 0 from by unfold InU32; omega), (show InU32 0 from by unfold InU32; omega)⟩) w') (by kernel_rfl) (fun _ => by kernel_rfl) (fun r488 h489 => ?_))))))))))
      have HR := hr_lt HR h483
      have HR := hr_lt HR h485
      have HR := hr_lt HR h487
      have HR := hr_lt HR h489
      obtain ⟨r490, b494, b495, r493⟩ := r488
      cases b494
      · cases b495
        · refine F_fresh none #[.int .i64 0, .int .i64 0, .int .i64 0, .bool false, .bool false, .int .i64 0, .int .i64 0, .int .i64 0] 62 hL479 (by kernel_rfl) (fun _ => by kernel_rfl) (fun g496 F497 U498 hL499 => F_nil hM476 hL499 (fun w500 hM501 => S_store 0 0 #[.int .i64 r490.1, .int .i64 r490.2.1, .int .i64 r490.2.2, .bool false, .bool false, .int .i64 r493.1, .int .i64 r493.2.1, .int .i64 r493.2.2] hM501 (by kernel_rfl) (fun w502 hM503 => S_nil (R_seq (R_seq (R_region (S_val (.pointer (some ⟨g469, 4, none⟩)) (by kernel_rfl) (S_load 1 4 (.bool true) hM503 (by kernel_rfl) (S_val (.bool true) (by kernel_rfl) (S_skip (by kernel_rfl) (S_skip (by kernel_rfl) (?_))))))))))))
          have HR := hr_neg HR Bool.false_ne_true
          have HR := hr_neg HR Bool.false_ne_true
          refine S_val (.bool true) (by kernel_rfl) (S_nil (R_yes (by kernel_rfl) (R_seq (R_region (S_call (s_umbralaw27_works ) (fun r : Bool => .bool r) hM503 (w_umbralaw27_works  w502) (by kernel_rfl) (fun r504 h505 w506 hM507 => ?_))))))
          have HR := hr_lt HR h505
          cases r504
          · refine S_val (.bool false) (by kernel_rfl) (S_nil (?_))
            have HR := hr_neg HR Bool.false_ne_true
            refine R_ret hM507 rfl (.cons (.tmp _ (.bool false) (by kernel_rfl)) .nil) rfl ?_
            exact ⟨congrArg Ending.returned HR, hM507.below⟩
          · refine S_val (.bool true) (by kernel_rfl) (S_nil (?_))
            have HR := hr_pos HR rfl
            refine R_ret hM507 rfl (.cons (.tmp _ (.bool true) (by kernel_rfl)) .nil) rfl ?_
            exact ⟨congrArg Ending.returned HR, hM507.below⟩
        · refine F_fresh none #[.int .i64 0, .int .i64 0, .int .i64 0, .bool false, .bool false, .int .i64 0, .int .i64 0, .int .i64 0] 62 hL479 (by kernel_rfl) (fun _ => by kernel_rfl) (fun g509 F510 U511 hL512 => F_nil hM476 hL512 (fun w513 hM514 => S_store 0 0 #[.int .i64 r490.1, .int .i64 r490.2.1, .int .i64 r490.2.2, .bool false, .bool true, .int .i64 r493.1, .int .i64 r493.2.1, .int .i64 r493.2.2] hM514 (by kernel_rfl) (fun w515 hM516 => S_nil (R_seq (R_seq (R_region (S_val (.pointer (some ⟨g469, 4, none⟩)) (by kernel_rfl) (S_load 1 4 (.bool true) hM516 (by kernel_rfl) (S_val (.bool true) (by kernel_rfl) (S_skip (by kernel_rfl) (S_skip (by kernel_rfl) (?_))))))))))))
          have HR := hr_neg HR Bool.false_ne_true
          have HR := hr_pos HR rfl
          refine S_val (.bool true) (by kernel_rfl) (S_nil (R_yes (by kernel_rfl) (R_seq (R_region (S_call (s_umbralaw27_works ) (fun r : Bool => .bool r) hM516 (w_umbralaw27_works  w515) (by kernel_rfl) (fun r517 h518 w519 hM520 => ?_))))))
          have HR := hr_lt HR h518
          cases r517
          · refine S_val (.bool false) (by kernel_rfl) (S_nil (?_))
            have HR := hr_neg HR Bool.false_ne_true
            refine R_ret hM520 rfl (.cons (.tmp _ (.bool false) (by kernel_rfl)) .nil) rfl ?_
            exact ⟨congrArg Ending.returned HR, hM520.below⟩
          · refine S_val (.bool true) (by kernel_rfl) (S_nil (?_))
            have HR := hr_pos HR rfl
            refine R_ret hM520 rfl (.cons (.tmp _ (.bool true) (by kernel_rfl)) .nil) rfl ?_
            exact ⟨congrArg Ending.returned HR, hM520.below⟩
      · cases b495
        · refine F_fresh none #[.int .i64 0, .int .i64 0, .int .i64 0, .bool false, .bool false, .int .i64 0, .int .i64 0, .int .i64 0] 62 hL479 (by kernel_rfl) (fun _ => by kernel_rfl) (fun g523 F524 U525 hL526 => F_nil hM476 hL526 (fun w527 hM528 => S_store 0 0 #[.int .i64 r490.1, .int .i64 r490.2.1, .int .i64 r490.2.2, .bool true, .bool false, .int .i64 r493.1, .int .i64 r493.2.1, .int .i64 r493.2.2] hM528 (by kernel_rfl) (fun w529 hM530 => S_nil (R_seq (R_seq (R_region (S_val (.pointer (some ⟨g469, 4, none⟩)) (by kernel_rfl) (S_load 1 4 (.bool true) hM530 (by kernel_rfl) (S_val (.bool true) (by kernel_rfl) (S_skip (by kernel_rfl) (S_skip (by kernel_rfl) (?_))))))))))))
          have HR := hr_pos HR rfl
          have HR := hr_neg HR Bool.false_ne_true
          refine S_val (.bool true) (by kernel_rfl) (S_nil (R_yes (by kernel_rfl) (R_seq (R_region (S_call (s_umbralaw27_works ) (fun r : Bool => .bool r) hM530 (w_umbralaw27_works  w529) (by kernel_rfl) (fun r531 h532 w533 hM534 => ?_))))))
          have HR := hr_lt HR h532
          cases r531
          · refine S_val (.bool false) (by kernel_rfl) (S_nil (?_))
            have HR := hr_neg HR Bool.false_ne_true
            refine R_ret hM534 rfl (.cons (.tmp _ (.bool false) (by kernel_rfl)) .nil) rfl ?_
            exact ⟨congrArg Ending.returned HR, hM534.below⟩
          · refine S_val (.bool true) (by kernel_rfl) (S_nil (?_))
            have HR := hr_pos HR rfl
            refine R_ret hM534 rfl (.cons (.tmp _ (.bool true) (by kernel_rfl)) .nil) rfl ?_
            exact ⟨congrArg Ending.returned HR, hM534.below⟩
        · refine F_fresh none #[.int .i64 0, .int .i64 0, .int .i64 0, .bool false, .bool false, .int .i64 0, .int .i64 0, .int .i64 0] 62 hL479 (by kernel_rfl) (fun _ => by kernel_rfl) (fun g536 F537 U538 hL539 => F_nil hM476 hL539 (fun w540 hM541 => S_store 0 0 #[.int .i64 r490.1, .int .i64 r490.2.1, .int .i64 r490.2.2, .bool true, .bool true, .int .i64 r493.1, .int .i64 r493.2.1, .int .i64 r493.2.2] hM541 (by kernel_rfl) (fun w542 hM543 => S_nil (R_seq (R_seq (R_region (S_val (.pointer (some ⟨g469, 4, none⟩)) (by kernel_rfl) (S_load 1 4 (.bool true) hM543 (by kernel_rfl) (S_val (.bool true) (by kernel_rfl) (S_skip (by kernel_rfl) (S_skip (by kernel_rfl) (?_))))))))))))
          have HR := hr_pos HR rfl
          have HR := hr_pos HR rfl
          refine S_val (.bool true) (by kernel_rfl) (S_nil (R_yes (by kernel_rfl) (R_seq (R_region (S_call (s_umbralaw27_works ) (fun r : Bool => .bool r) hM543 (w_umbralaw27_works  w542) (by kernel_rfl) (fun r544 h545 w546 hM547 => ?_))))))
          have HR := hr_lt HR h545
          cases r544
          · refine S_val (.bool false) (by kernel_rfl) (S_nil (?_))
            have HR := hr_neg HR Bool.false_ne_true
            refine R_ret hM547 rfl (.cons (.tmp _ (.bool false) (by kernel_rfl)) .nil) rfl ?_
            exact ⟨congrArg Ending.returned HR, hM547.below⟩
          · refine S_val (.bool true) (by kernel_rfl) (S_nil (?_))
            have HR := hr_pos HR rfl
            refine R_ret hM547 rfl (.cons (.tmp _ (.bool true) (by kernel_rfl)) .nil) rfl ?_
            exact ⟨congrArg Ending.returned HR, hM547.below⟩
  · cases b44
    · refine F_fresh none #[.int .i64 0, .int .i64 0, .int .i64 0, .bool false, .bool false, .int .i64 0, .int .i64 0, .int .i64 0] 62 hL34 (by kernel_rfl) (fun _ => by kernel_rfl) (fun g552 F553 U554 hL555 => F_nil hM31 hL555 (fun w556 hM557 => S_store 0 0 #[.int .i64 r39.1, .int .i64 r39.2.1, .int .i64 r39.2.2, .bool true, .bool false, .int .i64 r42.1, .int .i64 r42.2.1, .int .i64 r42.2.2] hM557 (by kernel_rfl) (fun w558 hM559 => S_nil (R_seq (R_drawF 17 (by kernel_rfl) (fun F560 U561 hL562 => F_load 3 0 (.agg #[.int .i64 0, .int .i64 l.2.1.1, .int .i64 l.2.1.2.1, .int .i64 l.2.1.2.2, .int .i64 0, .int .i64 0, .int .i64 0, .int .i64 0, .int .i64 0, .int .i64 0, .int .i64 0, .int .i64 0, .int .i64 0]) hM559 (by kernel_rfl) (F_val (.agg #[.int .i64 0, .int .i64 0, .int .i64 0]) (fun _ => by kernel_rfl) (F_val (.pointer (some ⟨g4, 0, none⟩)) (fun _ => by kernel_rfl) (F_load 2 0 (.int .i64 x15) hM559 (by kernel_rfl) (F_int (IntKind.i64.wrap (2 * x15)) .i64 (fun _ => by kernel_rfl) (fun x563 h564 => F_val (.pointer (some ⟨g4, 1, none⟩)) (fun _ => by kernel_rfl) (?_))))))))))))
      have HR := hr_pos HR rfl
      have HR := hr_neg HR Bool.false_ne_true
      have HR := hr_lt HR h564
      refine F_load 2 1 (.int .i64 x17) hM559 (by kernel_rfl) (F_int (IntKind.i64.wrap (2 * x17)) .i64 (fun _ => by kernel_rfl) (fun x565 h566 => F_val (.pointer (some ⟨g4, 2, none⟩)) (fun _ => by kernel_rfl) (F_load 2 2 (.int .i64 x19) hM559 (by kernel_rfl) (F_int (IntKind.i64.wrap (2 * x19)) .i64 (fun _ => by kernel_rfl) (fun x567 h568 => F_val (.agg #[.int .i64 x563, .int .i64 x565, .int .i64 x567]) (fun _ => by kernel_rfl) (F_call (s_tri_Sub (0, 0, 0) (x563, x565, x567)) (fun r : Int × Int × Int => .agg #[.int .i64 r.1, .int .i64 r.2.1, .int .i64 r.2.2]) hM559 hL562 (fun w' hM' => w_tri_Sub (0, 0, 0) (x563, x565, x567) (⟨(show InI 0 from by unfold InI; omega), (show InI 0 from by unfold InI; omega), (show InI 0 from by unfold InI; omega)⟩) (⟨(wr_i64 h564), (wr_i64 h566), (wr_i64 h568)⟩) w') (by kernel_rfl) (fun _ => by kernel_rfl) (fun r569 h570 => F_load 1 0 (.agg #[.int .i64 r23.1, .int .i64 r23.2.1, .int .i64 r23.2.2]) hM559 (by kernel_rfl) (F_val (.agg #[.int .u32 0, .int .u32 0]) (fun _ => by kernel_rfl) (F_call (s_lamp_Sample (0, l.2.1, (0, 0, 0), (0, 0, 0), (0, 0, 0)) r569 r23 (0, 0)) (fun r : (Int × Int × Int) × Bool × Bool × (Int × Int × Int) => .agg #[.int .i64 r.1.1, .int .i64 r.1.2.1, .int .i64 r.1.2.2, .bool r.2.1, .bool r.2.2.1, .int .i64 r.2.2.2.1, .int .i64 r.2.2.2.2.1, .int .i64 r.2.2.2.2.2]) hM559 hL562 (fun w' hM' => w_lamp_Sample (0, l.2.1, (0, 0, 0), (0, 0, 0), (0, 0, 0)) r569 r23 (0, 0) (⟨(show InI 0 from by unfold InI; omega), h_l.2.1, ⟨(show InI 0 from by unfold InI; omega), (show InI 0 from by unfold InI; omega), (show InI 0 from by unfold InI; omega)⟩, ⟨(show InI 0 from by unfold InI; omega), (show InI 0 from by unfold InI; omega), (show InI 0 from by unfold InI; omega)⟩, ⟨(show InI 0 from by unfold InI; omega), (show InI 0 from by unfold InI; omega), (show InI 0 from by unfold InI; omega)⟩⟩) ((tr (P := fun r : Int × Int × Int => InV r) h570 (i_tri_Sub (0, 0, 0) (x563, x565, x567) (⟨(show InI 0 from by unfold InI; omega), (show InI 0 from by unfold InI; omega), (show InI 0 from by unfold InI; omega)⟩) (⟨(wr_i64 h564), (wr_i64 h566), (wr_i64 h568)⟩))).out) ((tr (P := fun r : Int × Int × Int => InV r) h24 (vtow_I (x15, x17, x19))).out) (⟨(show InU32 0 from by unfold InU32; omega), (show InU32 0 from by unfold InU32; omega)⟩) w') (by kernel_rfl) (fun _ => by kernel_rfl) (fun r571 h572 => ?_))))))))))
      have HR := hr_lt HR h566
      have HR := hr_lt HR h568
      have HR := hr_lt HR h570
      have HR := hr_lt HR h572
      obtain ⟨r573, b577, b578, r576⟩ := r571
      cases b577
      · cases b578
        · refine F_fresh none #[.int .i64 0, .int .i64 0, .int .i64 0, .bool false, .bool false, .int .i64 0, .int .i64 0, .int .i64 0] 62 hL562 (by kernel_rfl) (fun _ => by kernel_rfl) (fun g579 F580 U581 hL582 => F_nil hM559 hL582 (fun w583 hM584 => S_store 0 0 #[.int .i64 r573.1, .int .i64 r573.2.1, .int .i64 r573.2.2, .bool false, .bool false, .int .i64 r576.1, .int .i64 r576.2.1, .int .i64 r576.2.2] hM584 (by kernel_rfl) (fun w585 hM586 => S_nil (R_seq (R_seq (R_region (S_val (.pointer (some ⟨g552, 4, none⟩)) (by kernel_rfl) (S_load 1 4 (.bool false) hM586 (by kernel_rfl) (S_val (.bool false) (by kernel_rfl) (S_val (.pointer (some ⟨g579, 4, none⟩)) (by kernel_rfl) (S_load 0 4 (.bool false) hM586 (by kernel_rfl) (?_))))))))))))
          have HR := hr_neg HR Bool.false_ne_true
          have HR := hr_neg HR Bool.false_ne_true
          refine S_val (.bool false) (by kernel_rfl) (S_nil (R_no (by kernel_rfl) (R_skip (R_seq (R_seq (R_region (S_val (.pointer (some ⟨g552, 5, none⟩)) (by kernel_rfl) (S_val (.pointer (some ⟨g552, 5, none⟩)) (by kernel_rfl) (S_load 1 5 (.int .i64 r42.1) hM586 (by kernel_rfl) (S_val (.pointer (some ⟨g579, 5, none⟩)) (by kernel_rfl) (S_val (.pointer (some ⟨g579, 5, none⟩)) (by kernel_rfl) (?_))))))))))))
          refine S_load 0 5 (.int .i64 r576.1) hM586 (by kernel_rfl) (S_val (.agg #[.int .i64 r42.1, .int .i64 r576.1]) (by kernel_rfl) (S_val (.pointer (some ⟨g552, 5, none⟩)) (by kernel_rfl) (S_val (.pointer (some ⟨g552, 6, none⟩)) (by kernel_rfl) (S_load 1 6 (.int .i64 r42.2.1) hM586 (by kernel_rfl) (S_val (.pointer (some ⟨g579, 5, none⟩)) (by kernel_rfl) (S_val (.pointer (some ⟨g579, 6, none⟩)) (by kernel_rfl) (S_load 0 6 (.int .i64 r576.2.1) hM586 (by kernel_rfl) (S_val (.agg #[.int .i64 r42.2.1, .int .i64 r576.2.1]) (by kernel_rfl) (S_val (.pointer (some ⟨g552, 5, none⟩)) (by kernel_rfl) (S_val (.pointer (some ⟨g552, 7, none⟩)) (by kernel_rfl) (S_load 1 7 (.int .i64 r42.2.2) hM586 (by kernel_rfl) (?_))))))))))))
          refine S_val (.pointer (some ⟨g579, 5, none⟩)) (by kernel_rfl) (S_val (.pointer (some ⟨g579, 7, none⟩)) (by kernel_rfl) (S_load 0 7 (.int .i64 r576.2.2) hM586 (by kernel_rfl) (S_val (.agg #[.int .i64 r42.2.2, .int .i64 r576.2.2]) (by kernel_rfl) (S_fresh (some 3) #[.int .i64 r42.1, .int .i64 r576.1, .int .i64 r42.2.1, .int .i64 r576.2.1, .int .i64 r42.2.2, .int .i64 r576.2.2] 42 hM586 (by kernel_rfl) (fun g587 w588 hM589 => S_val (.int .i64 3) (by kernel_rfl) (S_val (.int .i64 0) (by kernel_rfl) (S_nil (R_block (R_loop (R_seq (R_region (?_))))))))))))
          refine S_val (.bool true) (by kernel_rfl) (S_nil (R_seq (R_yes (by kernel_rfl) (R_skip (R_seq (R_block (R_seq (R_region (S_val (.pointer (some ⟨g587, 0, none⟩)) (by kernel_rfl) (S_load 0 0 (.agg #[.int .i64 r42.1, .int .i64 r576.1]) hM589 (by kernel_rfl) (S_fresh none #[.int .i64 0, .int .i64 0] 42 hM589 (by kernel_rfl) (fun g590 w591 hM592 => ?_))))))))))))
          refine S_store 0 0 #[.int .i64 r42.1, .int .i64 r576.1] hM592 (by kernel_rfl) (fun w593 hM594 => S_nil (R_seq (R_seq (R_region (S_val (.pointer (some ⟨g590, 0, none⟩)) (by kernel_rfl) (S_load 0 0 (.int .i64 r42.1) hM594 (by kernel_rfl) (?_)))))))
          refine S_dec (r42.1 ≥ 1152921504606846976) (by kernel_rfl) (fun c595 => ?_) (fun c595 => ?_)
          · refine S_nil (R_yes (by kernel_rfl) (R_exit rfl (R_region (S_val (.int .i64 1) (by kernel_rfl) (S_val (.int .i64 1) (by kernel_rfl) (S_nil (R_inLoop (R_seq (R_region (S_val (.bool true) (by kernel_rfl) (S_nil (?_))))))))))))
            have HR := hr_pos HR c595
            refine R_seq (R_yes (by kernel_rfl) (R_skip (R_seq (R_block (R_seq (R_region (S_val (.pointer (some ⟨g587, 2, none⟩)) (by kernel_rfl) (S_load 1 2 (.agg #[.int .i64 r42.2.1, .int .i64 r576.2.1]) hM594 (by kernel_rfl) (S_fresh none #[.int .i64 0, .int .i64 0] 42 hM594 (by kernel_rfl) (fun g596 w597 hM598 => S_store 0 0 #[.int .i64 r42.2.1, .int .i64 r576.2.1] hM598 (by kernel_rfl) (fun w599 hM600 => S_nil (?_))))))))))))
            refine R_seq (R_seq (R_region (S_val (.pointer (some ⟨g596, 0, none⟩)) (by kernel_rfl) (S_load 0 0 (.int .i64 r42.2.1) hM600 (by kernel_rfl) (?_)))))
            refine S_dec (r42.2.1 ≥ 1152921504606846976) (by kernel_rfl) (fun c601 => ?_) (fun c601 => ?_)
            · refine S_nil (R_yes (by kernel_rfl) (R_exit rfl (R_region (S_val (.int .i64 2) (by kernel_rfl) (S_val (.int .i64 2) (by kernel_rfl) (S_nil (R_inLoop (R_seq (R_region (S_val (.bool true) (by kernel_rfl) (S_nil (?_))))))))))))
              have HR := hr_pos HR c601
              refine R_seq (R_yes (by kernel_rfl) (R_skip (R_seq (R_block (R_seq (R_region (S_val (.pointer (some ⟨g587, 4, none⟩)) (by kernel_rfl) (S_load 2 4 (.agg #[.int .i64 r42.2.2, .int .i64 r576.2.2]) hM600 (by kernel_rfl) (S_fresh none #[.int .i64 0, .int .i64 0] 42 hM600 (by kernel_rfl) (fun g602 w603 hM604 => S_store 0 0 #[.int .i64 r42.2.2, .int .i64 r576.2.2] hM604 (by kernel_rfl) (fun w605 hM606 => S_nil (?_))))))))))))
              refine R_seq (R_seq (R_region (S_val (.pointer (some ⟨g602, 0, none⟩)) (by kernel_rfl) (S_load 0 0 (.int .i64 r42.2.2) hM606 (by kernel_rfl) (?_)))))
              refine S_dec (r42.2.2 ≥ 1152921504606846976) (by kernel_rfl) (fun c607 => ?_) (fun c607 => ?_)
              · refine S_nil (R_yes (by kernel_rfl) (R_exit rfl (R_region (S_val (.int .i64 3) (by kernel_rfl) (S_val (.int .i64 3) (by kernel_rfl) (S_nil (R_inLoop (R_seq (R_region (S_val (.bool false) (by kernel_rfl) (S_nil (?_))))))))))))
                have HR := hr_pos HR c607
                refine R_seq (R_no (by kernel_rfl) (R_exit rfl (R_seq (R_region (S_call (s_umbralaw27_works ) (fun r : Bool => .bool r) hM606 (w_umbralaw27_works  w605) (by kernel_rfl) (fun r608 h609 w610 hM611 => ?_))))))
                have HR := hr_lt HR h609
                cases r608
                · refine S_val (.bool false) (by kernel_rfl) (S_nil (?_))
                  have HR := hr_neg HR Bool.false_ne_true
                  refine R_ret hM611 rfl (.cons (.tmp _ (.bool false) (by kernel_rfl)) .nil) rfl ?_
                  exact ⟨congrArg Ending.returned HR, hM611.below⟩
                · refine S_val (.bool true) (by kernel_rfl) (S_nil (?_))
                  have HR := hr_pos HR rfl
                  refine R_ret hM611 rfl (.cons (.tmp _ (.bool true) (by kernel_rfl)) .nil) rfl ?_
                  exact ⟨congrArg Ending.returned HR, hM611.below⟩
              · refine S_nil (R_no (by kernel_rfl) (R_skip (R_seq (R_region (S_val (.pointer (some ⟨g602, 0, none⟩)) (by kernel_rfl) (S_load 0 0 (.int .i64 r42.2.2) hM606 (by kernel_rfl) (S_int (IntKind.i64.wrap (Int.tdiv r42.2.2 4)) .i64 (by kernel_rfl) (fun x613 h614 => S_val (.pointer (some ⟨g602, 1, none⟩)) (by kernel_rfl) (S_load 0 1 (.int .i64 r576.2.2) hM606 (by kernel_rfl) (S_int (IntKind.i64.wrap (x613 - r576.2.2)) .i64 (by kernel_rfl) (fun x615 h616 => S_call (fabs x615) (fun r : Int => .int .i64 r) hM606 (c_fix_Abs x615 (wr_i64 h616) w605) (by kernel_rfl) (fun r617 h618 w619 hM620 => ?_))))))))))))
                have HR := hr_neg HR c607
                have HR := hr_lt HR h614
                have HR := hr_lt HR h616
                have HR := hr_lt HR h618
                refine S_val (.int .i64 r617) (by kernel_rfl) (S_nil (R_seq (R_region (S_val (.int .i64 r617) (by kernel_rfl) (S_val (.pointer (some ⟨g602, 0, none⟩)) (by kernel_rfl) (S_load 0 0 (.int .i64 r42.2.2) hM620 (by kernel_rfl) (S_int (Int.fdiv r42.2.2 (2 ^ 10)) .i64 (by kernel_rfl) (fun x621 h622 => S_int (IntKind.i64.wrap (x621 + 4096)) .i64 (by kernel_rfl) (fun x623 h624 => ?_)))))))))
                have HR := hr_lt HR h622
                have HR := hr_lt HR h624
                refine S_dec (r617 > x623) (by kernel_rfl) (fun c625 => ?_) (fun c625 => ?_)
                · refine S_nil (R_yes (by kernel_rfl) (R_seq (R_region (S_val (.bool false) (by kernel_rfl) (S_nil (?_))))))
                  have HR := hr_pos HR c625
                  refine R_ret hM620 rfl (.cons (.tmp _ (.bool false) (by kernel_rfl)) .nil) rfl ?_
                  exact ⟨congrArg Ending.returned HR, hM620.below⟩
                · refine S_nil (R_no (by kernel_rfl) (R_skip (R_inBlock (R_region (S_val (.int .i64 3) (by kernel_rfl) (S_val (.int .i64 3) (by kernel_rfl) (S_nil (R_inLoop (R_seq (R_region (S_val (.bool false) (by kernel_rfl) (?_))))))))))))
                  have HR := hr_neg HR c625
                  refine S_nil (R_seq (R_no (by kernel_rfl) (R_exit rfl (R_seq (R_region (S_call (s_umbralaw27_works ) (fun r : Bool => .bool r) hM620 (w_umbralaw27_works  w619) (by kernel_rfl) (fun r626 h627 w628 hM629 => ?_)))))))
                  have HR := hr_lt HR h627
                  cases r626
                  · refine S_val (.bool false) (by kernel_rfl) (S_nil (?_))
                    have HR := hr_neg HR Bool.false_ne_true
                    refine R_ret hM629 rfl (.cons (.tmp _ (.bool false) (by kernel_rfl)) .nil) rfl ?_
                    exact ⟨congrArg Ending.returned HR, hM629.below⟩
                  · refine S_val (.bool true) (by kernel_rfl) (S_nil (?_))
                    have HR := hr_pos HR rfl
                    refine R_ret hM629 rfl (.cons (.tmp _ (.bool true) (by kernel_rfl)) .nil) rfl ?_
                    exact ⟨congrArg Ending.returned HR, hM629.below⟩
            · refine S_nil (R_no (by kernel_rfl) (R_skip (R_seq (R_region (S_val (.pointer (some ⟨g596, 0, none⟩)) (by kernel_rfl) (S_load 0 0 (.int .i64 r42.2.1) hM600 (by kernel_rfl) (S_int (IntKind.i64.wrap (Int.tdiv r42.2.1 4)) .i64 (by kernel_rfl) (fun x631 h632 => S_val (.pointer (some ⟨g596, 1, none⟩)) (by kernel_rfl) (S_load 0 1 (.int .i64 r576.2.1) hM600 (by kernel_rfl) (S_int (IntKind.i64.wrap (x631 - r576.2.1)) .i64 (by kernel_rfl) (fun x633 h634 => S_call (fabs x633) (fun r : Int => .int .i64 r) hM600 (c_fix_Abs x633 (wr_i64 h634) w599) (by kernel_rfl) (fun r635 h636 w637 hM638 => ?_))))))))))))
              have HR := hr_neg HR c601
              have HR := hr_lt HR h632
              have HR := hr_lt HR h634
              have HR := hr_lt HR h636
              refine S_val (.int .i64 r635) (by kernel_rfl) (S_nil (R_seq (R_region (S_val (.int .i64 r635) (by kernel_rfl) (S_val (.pointer (some ⟨g596, 0, none⟩)) (by kernel_rfl) (S_load 0 0 (.int .i64 r42.2.1) hM638 (by kernel_rfl) (S_int (Int.fdiv r42.2.1 (2 ^ 10)) .i64 (by kernel_rfl) (fun x639 h640 => S_int (IntKind.i64.wrap (x639 + 4096)) .i64 (by kernel_rfl) (fun x641 h642 => ?_)))))))))
              have HR := hr_lt HR h640
              have HR := hr_lt HR h642
              refine S_dec (r635 > x641) (by kernel_rfl) (fun c643 => ?_) (fun c643 => ?_)
              · refine S_nil (R_yes (by kernel_rfl) (R_seq (R_region (S_val (.bool false) (by kernel_rfl) (S_nil (?_))))))
                have HR := hr_pos HR c643
                refine R_ret hM638 rfl (.cons (.tmp _ (.bool false) (by kernel_rfl)) .nil) rfl ?_
                exact ⟨congrArg Ending.returned HR, hM638.below⟩
              · refine S_nil (R_no (by kernel_rfl) (R_skip (R_inBlock (R_region (S_val (.int .i64 2) (by kernel_rfl) (S_val (.int .i64 2) (by kernel_rfl) (S_nil (R_inLoop (R_seq (R_region (S_val (.bool true) (by kernel_rfl) (?_))))))))))))
                have HR := hr_neg HR c643
                refine S_nil (R_seq (R_yes (by kernel_rfl) (R_skip (R_seq (R_block (R_seq (R_region (S_val (.pointer (some ⟨g587, 4, none⟩)) (by kernel_rfl) (S_load 2 4 (.agg #[.int .i64 r42.2.2, .int .i64 r576.2.2]) hM638 (by kernel_rfl) (S_fresh none #[.int .i64 0, .int .i64 0] 42 hM638 (by kernel_rfl) (fun g644 w645 hM646 => S_store 0 0 #[.int .i64 r42.2.2, .int .i64 r576.2.2] hM646 (by kernel_rfl) (fun w647 hM648 => ?_))))))))))))
                refine S_nil (R_seq (R_seq (R_region (S_val (.pointer (some ⟨g644, 0, none⟩)) (by kernel_rfl) (S_load 0 0 (.int .i64 r42.2.2) hM648 (by kernel_rfl) (?_))))))
                refine S_dec (r42.2.2 ≥ 1152921504606846976) (by kernel_rfl) (fun c649 => ?_) (fun c649 => ?_)
                · refine S_nil (R_yes (by kernel_rfl) (R_exit rfl (R_region (S_val (.int .i64 3) (by kernel_rfl) (S_val (.int .i64 3) (by kernel_rfl) (S_nil (R_inLoop (R_seq (R_region (S_val (.bool false) (by kernel_rfl) (S_nil (?_))))))))))))
                  have HR := hr_pos HR c649
                  refine R_seq (R_no (by kernel_rfl) (R_exit rfl (R_seq (R_region (S_call (s_umbralaw27_works ) (fun r : Bool => .bool r) hM648 (w_umbralaw27_works  w647) (by kernel_rfl) (fun r650 h651 w652 hM653 => ?_))))))
                  have HR := hr_lt HR h651
                  cases r650
                  · refine S_val (.bool false) (by kernel_rfl) (S_nil (?_))
                    have HR := hr_neg HR Bool.false_ne_true
                    refine R_ret hM653 rfl (.cons (.tmp _ (.bool false) (by kernel_rfl)) .nil) rfl ?_
                    exact ⟨congrArg Ending.returned HR, hM653.below⟩
                  · refine S_val (.bool true) (by kernel_rfl) (S_nil (?_))
                    have HR := hr_pos HR rfl
                    refine R_ret hM653 rfl (.cons (.tmp _ (.bool true) (by kernel_rfl)) .nil) rfl ?_
                    exact ⟨congrArg Ending.returned HR, hM653.below⟩
                · refine S_nil (R_no (by kernel_rfl) (R_skip (R_seq (R_region (S_val (.pointer (some ⟨g644, 0, none⟩)) (by kernel_rfl) (S_load 0 0 (.int .i64 r42.2.2) hM648 (by kernel_rfl) (S_int (IntKind.i64.wrap (Int.tdiv r42.2.2 4)) .i64 (by kernel_rfl) (fun x655 h656 => S_val (.pointer (some ⟨g644, 1, none⟩)) (by kernel_rfl) (S_load 0 1 (.int .i64 r576.2.2) hM648 (by kernel_rfl) (S_int (IntKind.i64.wrap (x655 - r576.2.2)) .i64 (by kernel_rfl) (fun x657 h658 => S_call (fabs x657) (fun r : Int => .int .i64 r) hM648 (c_fix_Abs x657 (wr_i64 h658) w647) (by kernel_rfl) (fun r659 h660 w661 hM662 => ?_))))))))))))
                  have HR := hr_neg HR c649
                  have HR := hr_lt HR h656
                  have HR := hr_lt HR h658
                  have HR := hr_lt HR h660
                  refine S_val (.int .i64 r659) (by kernel_rfl) (S_nil (R_seq (R_region (S_val (.int .i64 r659) (by kernel_rfl) (S_val (.pointer (some ⟨g644, 0, none⟩)) (by kernel_rfl) (S_load 0 0 (.int .i64 r42.2.2) hM662 (by kernel_rfl) (S_int (Int.fdiv r42.2.2 (2 ^ 10)) .i64 (by kernel_rfl) (fun x663 h664 => S_int (IntKind.i64.wrap (x663 + 4096)) .i64 (by kernel_rfl) (fun x665 h666 => ?_)))))))))
                  have HR := hr_lt HR h664
                  have HR := hr_lt HR h666
                  refine S_dec (r659 > x665) (by kernel_rfl) (fun c667 => ?_) (fun c667 => ?_)
                  · refine S_nil (R_yes (by kernel_rfl) (R_seq (R_region (S_val (.bool false) (by kernel_rfl) (S_nil (?_))))))
                    have HR := hr_pos HR c667
                    refine R_ret hM662 rfl (.cons (.tmp _ (.bool false) (by kernel_rfl)) .nil) rfl ?_
                    exact ⟨congrArg Ending.returned HR, hM662.below⟩
                  · refine S_nil (R_no (by kernel_rfl) (R_skip (R_inBlock (R_region (S_val (.int .i64 3) (by kernel_rfl) (S_val (.int .i64 3) (by kernel_rfl) (S_nil (R_inLoop (R_seq (R_region (S_val (.bool false) (by kernel_rfl) (?_))))))))))))
                    have HR := hr_neg HR c667
                    refine S_nil (R_seq (R_no (by kernel_rfl) (R_exit rfl (R_seq (R_region (S_call (s_umbralaw27_works ) (fun r : Bool => .bool r) hM662 (w_umbralaw27_works  w661) (by kernel_rfl) (fun r668 h669 w670 hM671 => ?_)))))))
                    have HR := hr_lt HR h669
                    cases r668
                    · refine S_val (.bool false) (by kernel_rfl) (S_nil (?_))
                      have HR := hr_neg HR Bool.false_ne_true
                      refine R_ret hM671 rfl (.cons (.tmp _ (.bool false) (by kernel_rfl)) .nil) rfl ?_
                      exact ⟨congrArg Ending.returned HR, hM671.below⟩
                    · refine S_val (.bool true) (by kernel_rfl) (S_nil (?_))
                      have HR := hr_pos HR rfl
                      refine R_ret hM671 rfl (.cons (.tmp _ (.bool true) (by kernel_rfl)) .nil) rfl ?_
                      exact ⟨congrArg Ending.returned HR, hM671.below⟩
          · refine S_nil (R_no (by kernel_rfl) (R_skip (R_seq (R_region (S_val (.pointer (some ⟨g590, 0, none⟩)) (by kernel_rfl) (S_load 0 0 (.int .i64 r42.1) hM594 (by kernel_rfl) (S_int (IntKind.i64.wrap (Int.tdiv r42.1 4)) .i64 (by kernel_rfl) (fun x673 h674 => S_val (.pointer (some ⟨g590, 1, none⟩)) (by kernel_rfl) (S_load 0 1 (.int .i64 r576.1) hM594 (by kernel_rfl) (S_int (IntKind.i64.wrap (x673 - r576.1)) .i64 (by kernel_rfl) (fun x675 h676 => S_call (fabs x675) (fun r : Int => .int .i64 r) hM594 (c_fix_Abs x675 (wr_i64 h676) w593) (by kernel_rfl) (fun r677 h678 w679 hM680 => ?_))))))))))))
            have HR := hr_neg HR c595
            have HR := hr_lt HR h674
            have HR := hr_lt HR h676
            have HR := hr_lt HR h678
            refine S_val (.int .i64 r677) (by kernel_rfl) (S_nil (R_seq (R_region (S_val (.int .i64 r677) (by kernel_rfl) (S_val (.pointer (some ⟨g590, 0, none⟩)) (by kernel_rfl) (S_load 0 0 (.int .i64 r42.1) hM680 (by kernel_rfl) (S_int (Int.fdiv r42.1 (2 ^ 10)) .i64 (by kernel_rfl) (fun x681 h682 => S_int (IntKind.i64.wrap (x681 + 4096)) .i64 (by kernel_rfl) (fun x683 h684 => ?_)))))))))
            have HR := hr_lt HR h682
            have HR := hr_lt HR h684
            refine S_dec (r677 > x683) (by kernel_rfl) (fun c685 => ?_) (fun c685 => ?_)
            · refine S_nil (R_yes (by kernel_rfl) (R_seq (R_region (S_val (.bool false) (by kernel_rfl) (S_nil (?_))))))
              have HR := hr_pos HR c685
              refine R_ret hM680 rfl (.cons (.tmp _ (.bool false) (by kernel_rfl)) .nil) rfl ?_
              exact ⟨congrArg Ending.returned HR, hM680.below⟩
            · refine S_nil (R_no (by kernel_rfl) (R_skip (R_inBlock (R_region (S_val (.int .i64 1) (by kernel_rfl) (S_val (.int .i64 1) (by kernel_rfl) (S_nil (R_inLoop (R_seq (R_region (S_val (.bool true) (by kernel_rfl) (?_))))))))))))
              have HR := hr_neg HR c685
              refine S_nil (R_seq (R_yes (by kernel_rfl) (R_skip (R_seq (R_block (R_seq (R_region (S_val (.pointer (some ⟨g587, 2, none⟩)) (by kernel_rfl) (S_load 1 2 (.agg #[.int .i64 r42.2.1, .int .i64 r576.2.1]) hM680 (by kernel_rfl) (S_fresh none #[.int .i64 0, .int .i64 0] 42 hM680 (by kernel_rfl) (fun g686 w687 hM688 => S_store 0 0 #[.int .i64 r42.2.1, .int .i64 r576.2.1] hM688 (by kernel_rfl) (fun w689 hM690 => ?_))))))))))))
              refine S_nil (R_seq (R_seq (R_region (S_val (.pointer (some ⟨g686, 0, none⟩)) (by kernel_rfl) (S_load 0 0 (.int .i64 r42.2.1) hM690 (by kernel_rfl) (?_))))))
              refine S_dec (r42.2.1 ≥ 1152921504606846976) (by kernel_rfl) (fun c691 => ?_) (fun c691 => ?_)
              · refine S_nil (R_yes (by kernel_rfl) (R_exit rfl (R_region (S_val (.int .i64 2) (by kernel_rfl) (S_val (.int .i64 2) (by kernel_rfl) (S_nil (R_inLoop (R_seq (R_region (S_val (.bool true) (by kernel_rfl) (S_nil (?_))))))))))))
                have HR := hr_pos HR c691
                refine R_seq (R_yes (by kernel_rfl) (R_skip (R_seq (R_block (R_seq (R_region (S_val (.pointer (some ⟨g587, 4, none⟩)) (by kernel_rfl) (S_load 2 4 (.agg #[.int .i64 r42.2.2, .int .i64 r576.2.2]) hM690 (by kernel_rfl) (S_fresh none #[.int .i64 0, .int .i64 0] 42 hM690 (by kernel_rfl) (fun g692 w693 hM694 => S_store 0 0 #[.int .i64 r42.2.2, .int .i64 r576.2.2] hM694 (by kernel_rfl) (fun w695 hM696 => S_nil (?_))))))))))))
                refine R_seq (R_seq (R_region (S_val (.pointer (some ⟨g692, 0, none⟩)) (by kernel_rfl) (S_load 0 0 (.int .i64 r42.2.2) hM696 (by kernel_rfl) (?_)))))
                refine S_dec (r42.2.2 ≥ 1152921504606846976) (by kernel_rfl) (fun c697 => ?_) (fun c697 => ?_)
                · refine S_nil (R_yes (by kernel_rfl) (R_exit rfl (R_region (S_val (.int .i64 3) (by kernel_rfl) (S_val (.int .i64 3) (by kernel_rfl) (S_nil (R_inLoop (R_seq (R_region (S_val (.bool false) (by kernel_rfl) (S_nil (?_))))))))))))
                  have HR := hr_pos HR c697
                  refine R_seq (R_no (by kernel_rfl) (R_exit rfl (R_seq (R_region (S_call (s_umbralaw27_works ) (fun r : Bool => .bool r) hM696 (w_umbralaw27_works  w695) (by kernel_rfl) (fun r698 h699 w700 hM701 => ?_))))))
                  have HR := hr_lt HR h699
                  cases r698
                  · refine S_val (.bool false) (by kernel_rfl) (S_nil (?_))
                    have HR := hr_neg HR Bool.false_ne_true
                    refine R_ret hM701 rfl (.cons (.tmp _ (.bool false) (by kernel_rfl)) .nil) rfl ?_
                    exact ⟨congrArg Ending.returned HR, hM701.below⟩
                  · refine S_val (.bool true) (by kernel_rfl) (S_nil (?_))
                    have HR := hr_pos HR rfl
                    refine R_ret hM701 rfl (.cons (.tmp _ (.bool true) (by kernel_rfl)) .nil) rfl ?_
                    exact ⟨congrArg Ending.returned HR, hM701.below⟩
                · refine S_nil (R_no (by kernel_rfl) (R_skip (R_seq (R_region (S_val (.pointer (some ⟨g692, 0, none⟩)) (by kernel_rfl) (S_load 0 0 (.int .i64 r42.2.2) hM696 (by kernel_rfl) (S_int (IntKind.i64.wrap (Int.tdiv r42.2.2 4)) .i64 (by kernel_rfl) (fun x703 h704 => S_val (.pointer (some ⟨g692, 1, none⟩)) (by kernel_rfl) (S_load 0 1 (.int .i64 r576.2.2) hM696 (by kernel_rfl) (S_int (IntKind.i64.wrap (x703 - r576.2.2)) .i64 (by kernel_rfl) (fun x705 h706 => S_call (fabs x705) (fun r : Int => .int .i64 r) hM696 (c_fix_Abs x705 (wr_i64 h706) w695) (by kernel_rfl) (fun r707 h708 w709 hM710 => ?_))))))))))))
                  have HR := hr_neg HR c697
                  have HR := hr_lt HR h704
                  have HR := hr_lt HR h706
                  have HR := hr_lt HR h708
                  refine S_val (.int .i64 r707) (by kernel_rfl) (S_nil (R_seq (R_region (S_val (.int .i64 r707) (by kernel_rfl) (S_val (.pointer (some ⟨g692, 0, none⟩)) (by kernel_rfl) (S_load 0 0 (.int .i64 r42.2.2) hM710 (by kernel_rfl) (S_int (Int.fdiv r42.2.2 (2 ^ 10)) .i64 (by kernel_rfl) (fun x711 h712 => S_int (IntKind.i64.wrap (x711 + 4096)) .i64 (by kernel_rfl) (fun x713 h714 => ?_)))))))))
                  have HR := hr_lt HR h712
                  have HR := hr_lt HR h714
                  refine S_dec (r707 > x713) (by kernel_rfl) (fun c715 => ?_) (fun c715 => ?_)
                  · refine S_nil (R_yes (by kernel_rfl) (R_seq (R_region (S_val (.bool false) (by kernel_rfl) (S_nil (?_))))))
                    have HR := hr_pos HR c715
                    refine R_ret hM710 rfl (.cons (.tmp _ (.bool false) (by kernel_rfl)) .nil) rfl ?_
                    exact ⟨congrArg Ending.returned HR, hM710.below⟩
                  · refine S_nil (R_no (by kernel_rfl) (R_skip (R_inBlock (R_region (S_val (.int .i64 3) (by kernel_rfl) (S_val (.int .i64 3) (by kernel_rfl) (S_nil (R_inLoop (R_seq (R_region (S_val (.bool false) (by kernel_rfl) (?_))))))))))))
                    have HR := hr_neg HR c715
                    refine S_nil (R_seq (R_no (by kernel_rfl) (R_exit rfl (R_seq (R_region (S_call (s_umbralaw27_works ) (fun r : Bool => .bool r) hM710 (w_umbralaw27_works  w709) (by kernel_rfl) (fun r716 h717 w718 hM719 => ?_)))))))
                    have HR := hr_lt HR h717
                    cases r716
                    · refine S_val (.bool false) (by kernel_rfl) (S_nil (?_))
                      have HR := hr_neg HR Bool.false_ne_true
                      refine R_ret hM719 rfl (.cons (.tmp _ (.bool false) (by kernel_rfl)) .nil) rfl ?_
                      exact ⟨congrArg Ending.returned HR, hM719.below⟩
                    · refine S_val (.bool true) (by kernel_rfl) (S_nil (?_))
                      have HR := hr_pos HR rfl
                      refine R_ret hM719 rfl (.cons (.tmp _ (.bool true) (by kernel_rfl)) .nil) rfl ?_
                      exact ⟨congrArg Ending.returned HR, hM719.below⟩
              · refine S_nil (R_no (by kernel_rfl) (R_skip (R_seq (R_region (S_val (.pointer (some ⟨g686, 0, none⟩)) (by kernel_rfl) (S_load 0 0 (.int .i64 r42.2.1) hM690 (by kernel_rfl) (S_int (IntKind.i64.wrap (Int.tdiv r42.2.1 4)) .i64 (by kernel_rfl) (fun x721 h722 => S_val (.pointer (some ⟨g686, 1, none⟩)) (by kernel_rfl) (S_load 0 1 (.int .i64 r576.2.1) hM690 (by kernel_rfl) (S_int (IntKind.i64.wrap (x721 - r576.2.1)) .i64 (by kernel_rfl) (fun x723 h724 => S_call (fabs x723) (fun r : Int => .int .i64 r) hM690 (c_fix_Abs x723 (wr_i64 h724) w689) (by kernel_rfl) (fun r725 h726 w727 hM728 => ?_))))))))))))
                have HR := hr_neg HR c691
                have HR := hr_lt HR h722
                have HR := hr_lt HR h724
                have HR := hr_lt HR h726
                refine S_val (.int .i64 r725) (by kernel_rfl) (S_nil (R_seq (R_region (S_val (.int .i64 r725) (by kernel_rfl) (S_val (.pointer (some ⟨g686, 0, none⟩)) (by kernel_rfl) (S_load 0 0 (.int .i64 r42.2.1) hM728 (by kernel_rfl) (S_int (Int.fdiv r42.2.1 (2 ^ 10)) .i64 (by kernel_rfl) (fun x729 h730 => S_int (IntKind.i64.wrap (x729 + 4096)) .i64 (by kernel_rfl) (fun x731 h732 => ?_)))))))))
                have HR := hr_lt HR h730
                have HR := hr_lt HR h732
                refine S_dec (r725 > x731) (by kernel_rfl) (fun c733 => ?_) (fun c733 => ?_)
                · refine S_nil (R_yes (by kernel_rfl) (R_seq (R_region (S_val (.bool false) (by kernel_rfl) (S_nil (?_))))))
                  have HR := hr_pos HR c733
                  refine R_ret hM728 rfl (.cons (.tmp _ (.bool false) (by kernel_rfl)) .nil) rfl ?_
                  exact ⟨congrArg Ending.returned HR, hM728.below⟩
                · refine S_nil (R_no (by kernel_rfl) (R_skip (R_inBlock (R_region (S_val (.int .i64 2) (by kernel_rfl) (S_val (.int .i64 2) (by kernel_rfl) (S_nil (R_inLoop (R_seq (R_region (S_val (.bool true) (by kernel_rfl) (?_))))))))))))
                  have HR := hr_neg HR c733
                  refine S_nil (R_seq (R_yes (by kernel_rfl) (R_skip (R_seq (R_block (R_seq (R_region (S_val (.pointer (some ⟨g587, 4, none⟩)) (by kernel_rfl) (S_load 2 4 (.agg #[.int .i64 r42.2.2, .int .i64 r576.2.2]) hM728 (by kernel_rfl) (S_fresh none #[.int .i64 0, .int .i64 0] 42 hM728 (by kernel_rfl) (fun g734 w735 hM736 => S_store 0 0 #[.int .i64 r42.2.2, .int .i64 r576.2.2] hM736 (by kernel_rfl) (fun w737 hM738 => ?_))))))))))))
                  refine S_nil (R_seq (R_seq (R_region (S_val (.pointer (some ⟨g734, 0, none⟩)) (by kernel_rfl) (S_load 0 0 (.int .i64 r42.2.2) hM738 (by kernel_rfl) (?_))))))
                  refine S_dec (r42.2.2 ≥ 1152921504606846976) (by kernel_rfl) (fun c739 => ?_) (fun c739 => ?_)
                  · refine S_nil (R_yes (by kernel_rfl) (R_exit rfl (R_region (S_val (.int .i64 3) (by kernel_rfl) (S_val (.int .i64 3) (by kernel_rfl) (S_nil (R_inLoop (R_seq (R_region (S_val (.bool false) (by kernel_rfl) (S_nil (?_))))))))))))
                    have HR := hr_pos HR c739
                    refine R_seq (R_no (by kernel_rfl) (R_exit rfl (R_seq (R_region (S_call (s_umbralaw27_works ) (fun r : Bool => .bool r) hM738 (w_umbralaw27_works  w737) (by kernel_rfl) (fun r740 h741 w742 hM743 => ?_))))))
                    have HR := hr_lt HR h741
                    cases r740
                    · refine S_val (.bool false) (by kernel_rfl) (S_nil (?_))
                      have HR := hr_neg HR Bool.false_ne_true
                      refine R_ret hM743 rfl (.cons (.tmp _ (.bool false) (by kernel_rfl)) .nil) rfl ?_
                      exact ⟨congrArg Ending.returned HR, hM743.below⟩
                    · refine S_val (.bool true) (by kernel_rfl) (S_nil (?_))
                      have HR := hr_pos HR rfl
                      refine R_ret hM743 rfl (.cons (.tmp _ (.bool true) (by kernel_rfl)) .nil) rfl ?_
                      exact ⟨congrArg Ending.returned HR, hM743.below⟩
                  · refine S_nil (R_no (by kernel_rfl) (R_skip (R_seq (R_region (S_val (.pointer (some ⟨g734, 0, none⟩)) (by kernel_rfl) (S_load 0 0 (.int .i64 r42.2.2) hM738 (by kernel_rfl) (S_int (IntKind.i64.wrap (Int.tdiv r42.2.2 4)) .i64 (by kernel_rfl) (fun x745 h746 => S_val (.pointer (some ⟨g734, 1, none⟩)) (by kernel_rfl) (S_load 0 1 (.int .i64 r576.2.2) hM738 (by kernel_rfl) (S_int (IntKind.i64.wrap (x745 - r576.2.2)) .i64 (by kernel_rfl) (fun x747 h748 => S_call (fabs x747) (fun r : Int => .int .i64 r) hM738 (c_fix_Abs x747 (wr_i64 h748) w737) (by kernel_rfl) (fun r749 h750 w751 hM752 => ?_))))))))))))
                    have HR := hr_neg HR c739
                    have HR := hr_lt HR h746
                    have HR := hr_lt HR h748
                    have HR := hr_lt HR h750
                    refine S_val (.int .i64 r749) (by kernel_rfl) (S_nil (R_seq (R_region (S_val (.int .i64 r749) (by kernel_rfl) (S_val (.pointer (some ⟨g734, 0, none⟩)) (by kernel_rfl) (S_load 0 0 (.int .i64 r42.2.2) hM752 (by kernel_rfl) (S_int (Int.fdiv r42.2.2 (2 ^ 10)) .i64 (by kernel_rfl) (fun x753 h754 => S_int (IntKind.i64.wrap (x753 + 4096)) .i64 (by kernel_rfl) (fun x755 h756 => ?_)))))))))
                    have HR := hr_lt HR h754
                    have HR := hr_lt HR h756
                    refine S_dec (r749 > x755) (by kernel_rfl) (fun c757 => ?_) (fun c757 => ?_)
                    · refine S_nil (R_yes (by kernel_rfl) (R_seq (R_region (S_val (.bool false) (by kernel_rfl) (S_nil (?_))))))
                      have HR := hr_pos HR c757
                      refine R_ret hM752 rfl (.cons (.tmp _ (.bool false) (by kernel_rfl)) .nil) rfl ?_
                      exact ⟨congrArg Ending.returned HR, hM752.below⟩
                    · refine S_nil (R_no (by kernel_rfl) (R_skip (R_inBlock (R_region (S_val (.int .i64 3) (by kernel_rfl) (S_val (.int .i64 3) (by kernel_rfl) (S_nil (R_inLoop (R_seq (R_region (S_val (.bool false) (by kernel_rfl) (?_))))))))))))
                      have HR := hr_neg HR c757
                      refine S_nil (R_seq (R_no (by kernel_rfl) (R_exit rfl (R_seq (R_region (S_call (s_umbralaw27_works ) (fun r : Bool => .bool r) hM752 (w_umbralaw27_works  w751) (by kernel_rfl) (fun r758 h759 w760 hM761 => ?_)))))))
                      have HR := hr_lt HR h759
                      cases r758
                      · refine S_val (.bool false) (by kernel_rfl) (S_nil (?_))
                        have HR := hr_neg HR Bool.false_ne_true
                        refine R_ret hM761 rfl (.cons (.tmp _ (.bool false) (by kernel_rfl)) .nil) rfl ?_
                        exact ⟨congrArg Ending.returned HR, hM761.below⟩
                      · refine S_val (.bool true) (by kernel_rfl) (S_nil (?_))
                        have HR := hr_pos HR rfl
                        refine R_ret hM761 rfl (.cons (.tmp _ (.bool true) (by kernel_rfl)) .nil) rfl ?_
                        exact ⟨congrArg Ending.returned HR, hM761.below⟩
        · refine F_fresh none #[.int .i64 0, .int .i64 0, .int .i64 0, .bool false, .bool false, .int .i64 0, .int .i64 0, .int .i64 0] 62 hL562 (by kernel_rfl) (fun _ => by kernel_rfl) (fun g763 F764 U765 hL766 => F_nil hM559 hL766 (fun w767 hM768 => S_store 0 0 #[.int .i64 r573.1, .int .i64 r573.2.1, .int .i64 r573.2.2, .bool false, .bool true, .int .i64 r576.1, .int .i64 r576.2.1, .int .i64 r576.2.2] hM768 (by kernel_rfl) (fun w769 hM770 => S_nil (R_seq (R_seq (R_region (S_val (.pointer (some ⟨g552, 4, none⟩)) (by kernel_rfl) (S_load 1 4 (.bool false) hM770 (by kernel_rfl) (S_val (.bool false) (by kernel_rfl) (S_val (.pointer (some ⟨g763, 4, none⟩)) (by kernel_rfl) (S_load 0 4 (.bool true) hM770 (by kernel_rfl) (?_))))))))))))
          have HR := hr_neg HR Bool.false_ne_true
          have HR := hr_pos HR rfl
          refine S_val (.bool true) (by kernel_rfl) (S_nil (R_yes (by kernel_rfl) (R_seq (R_region (S_call (s_umbralaw27_works ) (fun r : Bool => .bool r) hM770 (w_umbralaw27_works  w769) (by kernel_rfl) (fun r771 h772 w773 hM774 => ?_))))))
          have HR := hr_lt HR h772
          cases r771
          · refine S_val (.bool false) (by kernel_rfl) (S_nil (?_))
            have HR := hr_neg HR Bool.false_ne_true
            refine R_ret hM774 rfl (.cons (.tmp _ (.bool false) (by kernel_rfl)) .nil) rfl ?_
            exact ⟨congrArg Ending.returned HR, hM774.below⟩
          · refine S_val (.bool true) (by kernel_rfl) (S_nil (?_))
            have HR := hr_pos HR rfl
            refine R_ret hM774 rfl (.cons (.tmp _ (.bool true) (by kernel_rfl)) .nil) rfl ?_
            exact ⟨congrArg Ending.returned HR, hM774.below⟩
      · cases b578
        · refine F_fresh none #[.int .i64 0, .int .i64 0, .int .i64 0, .bool false, .bool false, .int .i64 0, .int .i64 0, .int .i64 0] 62 hL562 (by kernel_rfl) (fun _ => by kernel_rfl) (fun g777 F778 U779 hL780 => F_nil hM559 hL780 (fun w781 hM782 => S_store 0 0 #[.int .i64 r573.1, .int .i64 r573.2.1, .int .i64 r573.2.2, .bool true, .bool false, .int .i64 r576.1, .int .i64 r576.2.1, .int .i64 r576.2.2] hM782 (by kernel_rfl) (fun w783 hM784 => S_nil (R_seq (R_seq (R_region (S_val (.pointer (some ⟨g552, 4, none⟩)) (by kernel_rfl) (S_load 1 4 (.bool false) hM784 (by kernel_rfl) (S_val (.bool false) (by kernel_rfl) (S_val (.pointer (some ⟨g777, 4, none⟩)) (by kernel_rfl) (S_load 0 4 (.bool false) hM784 (by kernel_rfl) (?_))))))))))))
          have HR := hr_pos HR rfl
          have HR := hr_neg HR Bool.false_ne_true
          refine S_val (.bool false) (by kernel_rfl) (S_nil (R_no (by kernel_rfl) (R_skip (R_seq (R_seq (R_region (S_val (.pointer (some ⟨g552, 5, none⟩)) (by kernel_rfl) (S_val (.pointer (some ⟨g552, 5, none⟩)) (by kernel_rfl) (S_load 1 5 (.int .i64 r42.1) hM784 (by kernel_rfl) (S_val (.pointer (some ⟨g777, 5, none⟩)) (by kernel_rfl) (S_val (.pointer (some ⟨g777, 5, none⟩)) (by kernel_rfl) (?_))))))))))))
          refine S_load 0 5 (.int .i64 r576.1) hM784 (by kernel_rfl) (S_val (.agg #[.int .i64 r42.1, .int .i64 r576.1]) (by kernel_rfl) (S_val (.pointer (some ⟨g552, 5, none⟩)) (by kernel_rfl) (S_val (.pointer (some ⟨g552, 6, none⟩)) (by kernel_rfl) (S_load 1 6 (.int .i64 r42.2.1) hM784 (by kernel_rfl) (S_val (.pointer (some ⟨g777, 5, none⟩)) (by kernel_rfl) (S_val (.pointer (some ⟨g777, 6, none⟩)) (by kernel_rfl) (S_load 0 6 (.int .i64 r576.2.1) hM784 (by kernel_rfl) (S_val (.agg #[.int .i64 r42.2.1, .int .i64 r576.2.1]) (by kernel_rfl) (S_val (.pointer (some ⟨g552, 5, none⟩)) (by kernel_rfl) (S_val (.pointer (some ⟨g552, 7, none⟩)) (by kernel_rfl) (S_load 1 7 (.int .i64 r42.2.2) hM784 (by kernel_rfl) (?_))))))))))))
          refine S_val (.pointer (some ⟨g777, 5, none⟩)) (by kernel_rfl) (S_val (.pointer (some ⟨g777, 7, none⟩)) (by kernel_rfl) (S_load 0 7 (.int .i64 r576.2.2) hM784 (by kernel_rfl) (S_val (.agg #[.int .i64 r42.2.2, .int .i64 r576.2.2]) (by kernel_rfl) (S_fresh (some 3) #[.int .i64 r42.1, .int .i64 r576.1, .int .i64 r42.2.1, .int .i64 r576.2.1, .int .i64 r42.2.2, .int .i64 r576.2.2] 42 hM784 (by kernel_rfl) (fun g785 w786 hM787 => S_val (.int .i64 3) (by kernel_rfl) (S_val (.int .i64 0) (by kernel_rfl) (S_nil (R_block (R_loop (R_seq (R_region (?_))))))))))))
          refine S_val (.bool true) (by kernel_rfl) (S_nil (R_seq (R_yes (by kernel_rfl) (R_skip (R_seq (R_block (R_seq (R_region (S_val (.pointer (some ⟨g785, 0, none⟩)) (by kernel_rfl) (S_load 0 0 (.agg #[.int .i64 r42.1, .int .i64 r576.1]) hM787 (by kernel_rfl) (S_fresh none #[.int .i64 0, .int .i64 0] 42 hM787 (by kernel_rfl) (fun g788 w789 hM790 => ?_))))))))))))
          refine S_store 0 0 #[.int .i64 r42.1, .int .i64 r576.1] hM790 (by kernel_rfl) (fun w791 hM792 => S_nil (R_seq (R_seq (R_region (S_val (.pointer (some ⟨g788, 0, none⟩)) (by kernel_rfl) (S_load 0 0 (.int .i64 r42.1) hM792 (by kernel_rfl) (?_)))))))
          refine S_dec (r42.1 ≥ 1152921504606846976) (by kernel_rfl) (fun c793 => ?_) (fun c793 => ?_)
          · refine S_nil (R_yes (by kernel_rfl) (R_exit rfl (R_region (S_val (.int .i64 1) (by kernel_rfl) (S_val (.int .i64 1) (by kernel_rfl) (S_nil (R_inLoop (R_seq (R_region (S_val (.bool true) (by kernel_rfl) (S_nil (?_))))))))))))
            have HR := hr_pos HR c793
            refine R_seq (R_yes (by kernel_rfl) (R_skip (R_seq (R_block (R_seq (R_region (S_val (.pointer (some ⟨g785, 2, none⟩)) (by kernel_rfl) (S_load 1 2 (.agg #[.int .i64 r42.2.1, .int .i64 r576.2.1]) hM792 (by kernel_rfl) (S_fresh none #[.int .i64 0, .int .i64 0] 42 hM792 (by kernel_rfl) (fun g794 w795 hM796 => S_store 0 0 #[.int .i64 r42.2.1, .int .i64 r576.2.1] hM796 (by kernel_rfl) (fun w797 hM798 => S_nil (?_))))))))))))
            refine R_seq (R_seq (R_region (S_val (.pointer (some ⟨g794, 0, none⟩)) (by kernel_rfl) (S_load 0 0 (.int .i64 r42.2.1) hM798 (by kernel_rfl) (?_)))))
            refine S_dec (r42.2.1 ≥ 1152921504606846976) (by kernel_rfl) (fun c799 => ?_) (fun c799 => ?_)
            · refine S_nil (R_yes (by kernel_rfl) (R_exit rfl (R_region (S_val (.int .i64 2) (by kernel_rfl) (S_val (.int .i64 2) (by kernel_rfl) (S_nil (R_inLoop (R_seq (R_region (S_val (.bool true) (by kernel_rfl) (S_nil (?_))))))))))))
              have HR := hr_pos HR c799
              refine R_seq (R_yes (by kernel_rfl) (R_skip (R_seq (R_block (R_seq (R_region (S_val (.pointer (some ⟨g785, 4, none⟩)) (by kernel_rfl) (S_load 2 4 (.agg #[.int .i64 r42.2.2, .int .i64 r576.2.2]) hM798 (by kernel_rfl) (S_fresh none #[.int .i64 0, .int .i64 0] 42 hM798 (by kernel_rfl) (fun g800 w801 hM802 => S_store 0 0 #[.int .i64 r42.2.2, .int .i64 r576.2.2] hM802 (by kernel_rfl) (fun w803 hM804 => S_nil (?_))))))))))))
              refine R_seq (R_seq (R_region (S_val (.pointer (some ⟨g800, 0, none⟩)) (by kernel_rfl) (S_load 0 0 (.int .i64 r42.2.2) hM804 (by kernel_rfl) (?_)))))
              refine S_dec (r42.2.2 ≥ 1152921504606846976) (by kernel_rfl) (fun c805 => ?_) (fun c805 => ?_)
              · refine S_nil (R_yes (by kernel_rfl) (R_exit rfl (R_region (S_val (.int .i64 3) (by kernel_rfl) (S_val (.int .i64 3) (by kernel_rfl) (S_nil (R_inLoop (R_seq (R_region (S_val (.bool false) (by kernel_rfl) (S_nil (?_))))))))))))
                have HR := hr_pos HR c805
                refine R_seq (R_no (by kernel_rfl) (R_exit rfl (R_seq (R_region (S_call (s_umbralaw27_works ) (fun r : Bool => .bool r) hM804 (w_umbralaw27_works  w803) (by kernel_rfl) (fun r806 h807 w808 hM809 => ?_))))))
                have HR := hr_lt HR h807
                cases r806
                · refine S_val (.bool false) (by kernel_rfl) (S_nil (?_))
                  have HR := hr_neg HR Bool.false_ne_true
                  refine R_ret hM809 rfl (.cons (.tmp _ (.bool false) (by kernel_rfl)) .nil) rfl ?_
                  exact ⟨congrArg Ending.returned HR, hM809.below⟩
                · refine S_val (.bool true) (by kernel_rfl) (S_nil (?_))
                  have HR := hr_pos HR rfl
                  refine R_ret hM809 rfl (.cons (.tmp _ (.bool true) (by kernel_rfl)) .nil) rfl ?_
                  exact ⟨congrArg Ending.returned HR, hM809.below⟩
              · refine S_nil (R_no (by kernel_rfl) (R_skip (R_seq (R_region (S_val (.pointer (some ⟨g800, 0, none⟩)) (by kernel_rfl) (S_load 0 0 (.int .i64 r42.2.2) hM804 (by kernel_rfl) (S_int (IntKind.i64.wrap (Int.tdiv r42.2.2 4)) .i64 (by kernel_rfl) (fun x811 h812 => S_val (.pointer (some ⟨g800, 1, none⟩)) (by kernel_rfl) (S_load 0 1 (.int .i64 r576.2.2) hM804 (by kernel_rfl) (S_int (IntKind.i64.wrap (x811 - r576.2.2)) .i64 (by kernel_rfl) (fun x813 h814 => S_call (fabs x813) (fun r : Int => .int .i64 r) hM804 (c_fix_Abs x813 (wr_i64 h814) w803) (by kernel_rfl) (fun r815 h816 w817 hM818 => ?_))))))))))))
                have HR := hr_neg HR c805
                have HR := hr_lt HR h812
                have HR := hr_lt HR h814
                have HR := hr_lt HR h816
                refine S_val (.int .i64 r815) (by kernel_rfl) (S_nil (R_seq (R_region (S_val (.int .i64 r815) (by kernel_rfl) (S_val (.pointer (some ⟨g800, 0, none⟩)) (by kernel_rfl) (S_load 0 0 (.int .i64 r42.2.2) hM818 (by kernel_rfl) (S_int (Int.fdiv r42.2.2 (2 ^ 10)) .i64 (by kernel_rfl) (fun x819 h820 => S_int (IntKind.i64.wrap (x819 + 4096)) .i64 (by kernel_rfl) (fun x821 h822 => ?_)))))))))
                have HR := hr_lt HR h820
                have HR := hr_lt HR h822
                refine S_dec (r815 > x821) (by kernel_rfl) (fun c823 => ?_) (fun c823 => ?_)
                · refine S_nil (R_yes (by kernel_rfl) (R_seq (R_region (S_val (.bool false) (by kernel_rfl) (S_nil (?_))))))
                  have HR := hr_pos HR c823
                  refine R_ret hM818 rfl (.cons (.tmp _ (.bool false) (by kernel_rfl)) .nil) rfl ?_
                  exact ⟨congrArg Ending.returned HR, hM818.below⟩
                · refine S_nil (R_no (by kernel_rfl) (R_skip (R_inBlock (R_region (S_val (.int .i64 3) (by kernel_rfl) (S_val (.int .i64 3) (by kernel_rfl) (S_nil (R_inLoop (R_seq (R_region (S_val (.bool false) (by kernel_rfl) (?_))))))))))))
                  have HR := hr_neg HR c823
                  refine S_nil (R_seq (R_no (by kernel_rfl) (R_exit rfl (R_seq (R_region (S_call (s_umbralaw27_works ) (fun r : Bool => .bool r) hM818 (w_umbralaw27_works  w817) (by kernel_rfl) (fun r824 h825 w826 hM827 => ?_)))))))
                  have HR := hr_lt HR h825
                  cases r824
                  · refine S_val (.bool false) (by kernel_rfl) (S_nil (?_))
                    have HR := hr_neg HR Bool.false_ne_true
                    refine R_ret hM827 rfl (.cons (.tmp _ (.bool false) (by kernel_rfl)) .nil) rfl ?_
                    exact ⟨congrArg Ending.returned HR, hM827.below⟩
                  · refine S_val (.bool true) (by kernel_rfl) (S_nil (?_))
                    have HR := hr_pos HR rfl
                    refine R_ret hM827 rfl (.cons (.tmp _ (.bool true) (by kernel_rfl)) .nil) rfl ?_
                    exact ⟨congrArg Ending.returned HR, hM827.below⟩
            · refine S_nil (R_no (by kernel_rfl) (R_skip (R_seq (R_region (S_val (.pointer (some ⟨g794, 0, none⟩)) (by kernel_rfl) (S_load 0 0 (.int .i64 r42.2.1) hM798 (by kernel_rfl) (S_int (IntKind.i64.wrap (Int.tdiv r42.2.1 4)) .i64 (by kernel_rfl) (fun x829 h830 => S_val (.pointer (some ⟨g794, 1, none⟩)) (by kernel_rfl) (S_load 0 1 (.int .i64 r576.2.1) hM798 (by kernel_rfl) (S_int (IntKind.i64.wrap (x829 - r576.2.1)) .i64 (by kernel_rfl) (fun x831 h832 => S_call (fabs x831) (fun r : Int => .int .i64 r) hM798 (c_fix_Abs x831 (wr_i64 h832) w797) (by kernel_rfl) (fun r833 h834 w835 hM836 => ?_))))))))))))
              have HR := hr_neg HR c799
              have HR := hr_lt HR h830
              have HR := hr_lt HR h832
              have HR := hr_lt HR h834
              refine S_val (.int .i64 r833) (by kernel_rfl) (S_nil (R_seq (R_region (S_val (.int .i64 r833) (by kernel_rfl) (S_val (.pointer (some ⟨g794, 0, none⟩)) (by kernel_rfl) (S_load 0 0 (.int .i64 r42.2.1) hM836 (by kernel_rfl) (S_int (Int.fdiv r42.2.1 (2 ^ 10)) .i64 (by kernel_rfl) (fun x837 h838 => S_int (IntKind.i64.wrap (x837 + 4096)) .i64 (by kernel_rfl) (fun x839 h840 => ?_)))))))))
              have HR := hr_lt HR h838
              have HR := hr_lt HR h840
              refine S_dec (r833 > x839) (by kernel_rfl) (fun c841 => ?_) (fun c841 => ?_)
              · refine S_nil (R_yes (by kernel_rfl) (R_seq (R_region (S_val (.bool false) (by kernel_rfl) (S_nil (?_))))))
                have HR := hr_pos HR c841
                refine R_ret hM836 rfl (.cons (.tmp _ (.bool false) (by kernel_rfl)) .nil) rfl ?_
                exact ⟨congrArg Ending.returned HR, hM836.below⟩
              · refine S_nil (R_no (by kernel_rfl) (R_skip (R_inBlock (R_region (S_val (.int .i64 2) (by kernel_rfl) (S_val (.int .i64 2) (by kernel_rfl) (S_nil (R_inLoop (R_seq (R_region (S_val (.bool true) (by kernel_rfl) (?_))))))))))))
                have HR := hr_neg HR c841
                refine S_nil (R_seq (R_yes (by kernel_rfl) (R_skip (R_seq (R_block (R_seq (R_region (S_val (.pointer (some ⟨g785, 4, none⟩)) (by kernel_rfl) (S_load 2 4 (.agg #[.int .i64 r42.2.2, .int .i64 r576.2.2]) hM836 (by kernel_rfl) (S_fresh none #[.int .i64 0, .int .i64 0] 42 hM836 (by kernel_rfl) (fun g842 w843 hM844 => S_store 0 0 #[.int .i64 r42.2.2, .int .i64 r576.2.2] hM844 (by kernel_rfl) (fun w845 hM846 => ?_))))))))))))
                refine S_nil (R_seq (R_seq (R_region (S_val (.pointer (some ⟨g842, 0, none⟩)) (by kernel_rfl) (S_load 0 0 (.int .i64 r42.2.2) hM846 (by kernel_rfl) (?_))))))
                refine S_dec (r42.2.2 ≥ 1152921504606846976) (by kernel_rfl) (fun c847 => ?_) (fun c847 => ?_)
                · refine S_nil (R_yes (by kernel_rfl) (R_exit rfl (R_region (S_val (.int .i64 3) (by kernel_rfl) (S_val (.int .i64 3) (by kernel_rfl) (S_nil (R_inLoop (R_seq (R_region (S_val (.bool false) (by kernel_rfl) (S_nil (?_))))))))))))
                  have HR := hr_pos HR c847
                  refine R_seq (R_no (by kernel_rfl) (R_exit rfl (R_seq (R_region (S_call (s_umbralaw27_works ) (fun r : Bool => .bool r) hM846 (w_umbralaw27_works  w845) (by kernel_rfl) (fun r848 h849 w850 hM851 => ?_))))))
                  have HR := hr_lt HR h849
                  cases r848
                  · refine S_val (.bool false) (by kernel_rfl) (S_nil (?_))
                    have HR := hr_neg HR Bool.false_ne_true
                    refine R_ret hM851 rfl (.cons (.tmp _ (.bool false) (by kernel_rfl)) .nil) rfl ?_
                    exact ⟨congrArg Ending.returned HR, hM851.below⟩
                  · refine S_val (.bool true) (by kernel_rfl) (S_nil (?_))
                    have HR := hr_pos HR rfl
                    refine R_ret hM851 rfl (.cons (.tmp _ (.bool true) (by kernel_rfl)) .nil) rfl ?_
                    exact ⟨congrArg Ending.returned HR, hM851.below⟩
                · refine S_nil (R_no (by kernel_rfl) (R_skip (R_seq (R_region (S_val (.pointer (some ⟨g842, 0, none⟩)) (by kernel_rfl) (S_load 0 0 (.int .i64 r42.2.2) hM846 (by kernel_rfl) (S_int (IntKind.i64.wrap (Int.tdiv r42.2.2 4)) .i64 (by kernel_rfl) (fun x853 h854 => S_val (.pointer (some ⟨g842, 1, none⟩)) (by kernel_rfl) (S_load 0 1 (.int .i64 r576.2.2) hM846 (by kernel_rfl) (S_int (IntKind.i64.wrap (x853 - r576.2.2)) .i64 (by kernel_rfl) (fun x855 h856 => S_call (fabs x855) (fun r : Int => .int .i64 r) hM846 (c_fix_Abs x855 (wr_i64 h856) w845) (by kernel_rfl) (fun r857 h858 w859 hM860 => ?_))))))))))))
                  have HR := hr_neg HR c847
                  have HR := hr_lt HR h854
                  have HR := hr_lt HR h856
                  have HR := hr_lt HR h858
                  refine S_val (.int .i64 r857) (by kernel_rfl) (S_nil (R_seq (R_region (S_val (.int .i64 r857) (by kernel_rfl) (S_val (.pointer (some ⟨g842, 0, none⟩)) (by kernel_rfl) (S_load 0 0 (.int .i64 r42.2.2) hM860 (by kernel_rfl) (S_int (Int.fdiv r42.2.2 (2 ^ 10)) .i64 (by kernel_rfl) (fun x861 h862 => S_int (IntKind.i64.wrap (x861 + 4096)) .i64 (by kernel_rfl) (fun x863 h864 => ?_)))))))))
                  have HR := hr_lt HR h862
                  have HR := hr_lt HR h864
                  refine S_dec (r857 > x863) (by kernel_rfl) (fun c865 => ?_) (fun c865 => ?_)
                  · refine S_nil (R_yes (by kernel_rfl) (R_seq (R_region (S_val (.bool false) (by kernel_rfl) (S_nil (?_))))))
                    have HR := hr_pos HR c865
                    refine R_ret hM860 rfl (.cons (.tmp _ (.bool false) (by kernel_rfl)) .nil) rfl ?_
                    exact ⟨congrArg Ending.returned HR, hM860.below⟩
                  · refine S_nil (R_no (by kernel_rfl) (R_skip (R_inBlock (R_region (S_val (.int .i64 3) (by kernel_rfl) (S_val (.int .i64 3) (by kernel_rfl) (S_nil (R_inLoop (R_seq (R_region (S_val (.bool false) (by kernel_rfl) (?_))))))))))))
                    have HR := hr_neg HR c865
                    refine S_nil (R_seq (R_no (by kernel_rfl) (R_exit rfl (R_seq (R_region (S_call (s_umbralaw27_works ) (fun r : Bool => .bool r) hM860 (w_umbralaw27_works  w859) (by kernel_rfl) (fun r866 h867 w868 hM869 => ?_)))))))
                    have HR := hr_lt HR h867
                    cases r866
                    · refine S_val (.bool false) (by kernel_rfl) (S_nil (?_))
                      have HR := hr_neg HR Bool.false_ne_true
                      refine R_ret hM869 rfl (.cons (.tmp _ (.bool false) (by kernel_rfl)) .nil) rfl ?_
                      exact ⟨congrArg Ending.returned HR, hM869.below⟩
                    · refine S_val (.bool true) (by kernel_rfl) (S_nil (?_))
                      have HR := hr_pos HR rfl
                      refine R_ret hM869 rfl (.cons (.tmp _ (.bool true) (by kernel_rfl)) .nil) rfl ?_
                      exact ⟨congrArg Ending.returned HR, hM869.below⟩
          · refine S_nil (R_no (by kernel_rfl) (R_skip (R_seq (R_region (S_val (.pointer (some ⟨g788, 0, none⟩)) (by kernel_rfl) (S_load 0 0 (.int .i64 r42.1) hM792 (by kernel_rfl) (S_int (IntKind.i64.wrap (Int.tdiv r42.1 4)) .i64 (by kernel_rfl) (fun x871 h872 => S_val (.pointer (some ⟨g788, 1, none⟩)) (by kernel_rfl) (S_load 0 1 (.int .i64 r576.1) hM792 (by kernel_rfl) (S_int (IntKind.i64.wrap (x871 - r576.1)) .i64 (by kernel_rfl) (fun x873 h874 => S_call (fabs x873) (fun r : Int => .int .i64 r) hM792 (c_fix_Abs x873 (wr_i64 h874) w791) (by kernel_rfl) (fun r875 h876 w877 hM878 => ?_))))))))))))
            have HR := hr_neg HR c793
            have HR := hr_lt HR h872
            have HR := hr_lt HR h874
            have HR := hr_lt HR h876
            refine S_val (.int .i64 r875) (by kernel_rfl) (S_nil (R_seq (R_region (S_val (.int .i64 r875) (by kernel_rfl) (S_val (.pointer (some ⟨g788, 0, none⟩)) (by kernel_rfl) (S_load 0 0 (.int .i64 r42.1) hM878 (by kernel_rfl) (S_int (Int.fdiv r42.1 (2 ^ 10)) .i64 (by kernel_rfl) (fun x879 h880 => S_int (IntKind.i64.wrap (x879 + 4096)) .i64 (by kernel_rfl) (fun x881 h882 => ?_)))))))))
            have HR := hr_lt HR h880
            have HR := hr_lt HR h882
            refine S_dec (r875 > x881) (by kernel_rfl) (fun c883 => ?_) (fun c883 => ?_)
            · refine S_nil (R_yes (by kernel_rfl) (R_seq (R_region (S_val (.bool false) (by kernel_rfl) (S_nil (?_))))))
              have HR := hr_pos HR c883
              refine R_ret hM878 rfl (.cons (.tmp _ (.bool false) (by kernel_rfl)) .nil) rfl ?_
              exact ⟨congrArg Ending.returned HR, hM878.below⟩
            · refine S_nil (R_no (by kernel_rfl) (R_skip (R_inBlock (R_region (S_val (.int .i64 1) (by kernel_rfl) (S_val (.int .i64 1) (by kernel_rfl) (S_nil (R_inLoop (R_seq (R_region (S_val (.bool true) (by kernel_rfl) (?_))))))))))))
              have HR := hr_neg HR c883
              refine S_nil (R_seq (R_yes (by kernel_rfl) (R_skip (R_seq (R_block (R_seq (R_region (S_val (.pointer (some ⟨g785, 2, none⟩)) (by kernel_rfl) (S_load 1 2 (.agg #[.int .i64 r42.2.1, .int .i64 r576.2.1]) hM878 (by kernel_rfl) (S_fresh none #[.int .i64 0, .int .i64 0] 42 hM878 (by kernel_rfl) (fun g884 w885 hM886 => S_store 0 0 #[.int .i64 r42.2.1, .int .i64 r576.2.1] hM886 (by kernel_rfl) (fun w887 hM888 => ?_))))))))))))
              refine S_nil (R_seq (R_seq (R_region (S_val (.pointer (some ⟨g884, 0, none⟩)) (by kernel_rfl) (S_load 0 0 (.int .i64 r42.2.1) hM888 (by kernel_rfl) (?_))))))
              refine S_dec (r42.2.1 ≥ 1152921504606846976) (by kernel_rfl) (fun c889 => ?_) (fun c889 => ?_)
              · refine S_nil (R_yes (by kernel_rfl) (R_exit rfl (R_region (S_val (.int .i64 2) (by kernel_rfl) (S_val (.int .i64 2) (by kernel_rfl) (S_nil (R_inLoop (R_seq (R_region (S_val (.bool true) (by kernel_rfl) (S_nil (?_))))))))))))
                have HR := hr_pos HR c889
                refine R_seq (R_yes (by kernel_rfl) (R_skip (R_seq (R_block (R_seq (R_region (S_val (.pointer (some ⟨g785, 4, none⟩)) (by kernel_rfl) (S_load 2 4 (.agg #[.int .i64 r42.2.2, .int .i64 r576.2.2]) hM888 (by kernel_rfl) (S_fresh none #[.int .i64 0, .int .i64 0] 42 hM888 (by kernel_rfl) (fun g890 w891 hM892 => S_store 0 0 #[.int .i64 r42.2.2, .int .i64 r576.2.2] hM892 (by kernel_rfl) (fun w893 hM894 => S_nil (?_))))))))))))
                refine R_seq (R_seq (R_region (S_val (.pointer (some ⟨g890, 0, none⟩)) (by kernel_rfl) (S_load 0 0 (.int .i64 r42.2.2) hM894 (by kernel_rfl) (?_)))))
                refine S_dec (r42.2.2 ≥ 1152921504606846976) (by kernel_rfl) (fun c895 => ?_) (fun c895 => ?_)
                · refine S_nil (R_yes (by kernel_rfl) (R_exit rfl (R_region (S_val (.int .i64 3) (by kernel_rfl) (S_val (.int .i64 3) (by kernel_rfl) (S_nil (R_inLoop (R_seq (R_region (S_val (.bool false) (by kernel_rfl) (S_nil (?_))))))))))))
                  have HR := hr_pos HR c895
                  refine R_seq (R_no (by kernel_rfl) (R_exit rfl (R_seq (R_region (S_call (s_umbralaw27_works ) (fun r : Bool => .bool r) hM894 (w_umbralaw27_works  w893) (by kernel_rfl) (fun r896 h897 w898 hM899 => ?_))))))
                  have HR := hr_lt HR h897
                  cases r896
                  · refine S_val (.bool false) (by kernel_rfl) (S_nil (?_))
                    have HR := hr_neg HR Bool.false_ne_true
                    refine R_ret hM899 rfl (.cons (.tmp _ (.bool false) (by kernel_rfl)) .nil) rfl ?_
                    exact ⟨congrArg Ending.returned HR, hM899.below⟩
                  · refine S_val (.bool true) (by kernel_rfl) (S_nil (?_))
                    have HR := hr_pos HR rfl
                    refine R_ret hM899 rfl (.cons (.tmp _ (.bool true) (by kernel_rfl)) .nil) rfl ?_
                    exact ⟨congrArg Ending.returned HR, hM899.below⟩
                · refine S_nil (R_no (by kernel_rfl) (R_skip (R_seq (R_region (S_val (.pointer (some ⟨g890, 0, none⟩)) (by kernel_rfl) (S_load 0 0 (.int .i64 r42.2.2) hM894 (by kernel_rfl) (S_int (IntKind.i64.wrap (Int.tdiv r42.2.2 4)) .i64 (by kernel_rfl) (fun x901 h902 => S_val (.pointer (some ⟨g890, 1, none⟩)) (by kernel_rfl) (S_load 0 1 (.int .i64 r576.2.2) hM894 (by kernel_rfl) (S_int (IntKind.i64.wrap (x901 - r576.2.2)) .i64 (by kernel_rfl) (fun x903 h904 => S_call (fabs x903) (fun r : Int => .int .i64 r) hM894 (c_fix_Abs x903 (wr_i64 h904) w893) (by kernel_rfl) (fun r905 h906 w907 hM908 => ?_))))))))))))
                  have HR := hr_neg HR c895
                  have HR := hr_lt HR h902
                  have HR := hr_lt HR h904
                  have HR := hr_lt HR h906
                  refine S_val (.int .i64 r905) (by kernel_rfl) (S_nil (R_seq (R_region (S_val (.int .i64 r905) (by kernel_rfl) (S_val (.pointer (some ⟨g890, 0, none⟩)) (by kernel_rfl) (S_load 0 0 (.int .i64 r42.2.2) hM908 (by kernel_rfl) (S_int (Int.fdiv r42.2.2 (2 ^ 10)) .i64 (by kernel_rfl) (fun x909 h910 => S_int (IntKind.i64.wrap (x909 + 4096)) .i64 (by kernel_rfl) (fun x911 h912 => ?_)))))))))
                  have HR := hr_lt HR h910
                  have HR := hr_lt HR h912
                  refine S_dec (r905 > x911) (by kernel_rfl) (fun c913 => ?_) (fun c913 => ?_)
                  · refine S_nil (R_yes (by kernel_rfl) (R_seq (R_region (S_val (.bool false) (by kernel_rfl) (S_nil (?_))))))
                    have HR := hr_pos HR c913
                    refine R_ret hM908 rfl (.cons (.tmp _ (.bool false) (by kernel_rfl)) .nil) rfl ?_
                    exact ⟨congrArg Ending.returned HR, hM908.below⟩
                  · refine S_nil (R_no (by kernel_rfl) (R_skip (R_inBlock (R_region (S_val (.int .i64 3) (by kernel_rfl) (S_val (.int .i64 3) (by kernel_rfl) (S_nil (R_inLoop (R_seq (R_region (S_val (.bool false) (by kernel_rfl) (?_))))))))))))
                    have HR := hr_neg HR c913
                    refine S_nil (R_seq (R_no (by kernel_rfl) (R_exit rfl (R_seq (R_region (S_call (s_umbralaw27_works ) (fun r : Bool => .bool r) hM908 (w_umbralaw27_works  w907) (by kernel_rfl) (fun r914 h915 w916 hM917 => ?_)))))))
                    have HR := hr_lt HR h915
                    cases r914
                    · refine S_val (.bool false) (by kernel_rfl) (S_nil (?_))
                      have HR := hr_neg HR Bool.false_ne_true
                      refine R_ret hM917 rfl (.cons (.tmp _ (.bool false) (by kernel_rfl)) .nil) rfl ?_
                      exact ⟨congrArg Ending.returned HR, hM917.below⟩
                    · refine S_val (.bool true) (by kernel_rfl) (S_nil (?_))
                      have HR := hr_pos HR rfl
                      refine R_ret hM917 rfl (.cons (.tmp _ (.bool true) (by kernel_rfl)) .nil) rfl ?_
                      exact ⟨congrArg Ending.returned HR, hM917.below⟩
              · refine S_nil (R_no (by kernel_rfl) (R_skip (R_seq (R_region (S_val (.pointer (some ⟨g884, 0, none⟩)) (by kernel_rfl) (S_load 0 0 (.int .i64 r42.2.1) hM888 (by kernel_rfl) (S_int (IntKind.i64.wrap (Int.tdiv r42.2.1 4)) .i64 (by kernel_rfl) (fun x919 h920 => S_val (.pointer (some ⟨g884, 1, none⟩)) (by kernel_rfl) (S_load 0 1 (.int .i64 r576.2.1) hM888 (by kernel_rfl) (S_int (IntKind.i64.wrap (x919 - r576.2.1)) .i64 (by kernel_rfl) (fun x921 h922 => S_call (fabs x921) (fun r : Int => .int .i64 r) hM888 (c_fix_Abs x921 (wr_i64 h922) w887) (by kernel_rfl) (fun r923 h924 w925 hM926 => ?_))))))))))))
                have HR := hr_neg HR c889
                have HR := hr_lt HR h920
                have HR := hr_lt HR h922
                have HR := hr_lt HR h924
                refine S_val (.int .i64 r923) (by kernel_rfl) (S_nil (R_seq (R_region (S_val (.int .i64 r923) (by kernel_rfl) (S_val (.pointer (some ⟨g884, 0, none⟩)) (by kernel_rfl) (S_load 0 0 (.int .i64 r42.2.1) hM926 (by kernel_rfl) (S_int (Int.fdiv r42.2.1 (2 ^ 10)) .i64 (by kernel_rfl) (fun x927 h928 => S_int (IntKind.i64.wrap (x927 + 4096)) .i64 (by kernel_rfl) (fun x929 h930 => ?_)))))))))
                have HR := hr_lt HR h928
                have HR := hr_lt HR h930
                refine S_dec (r923 > x929) (by kernel_rfl) (fun c931 => ?_) (fun c931 => ?_)
                · refine S_nil (R_yes (by kernel_rfl) (R_seq (R_region (S_val (.bool false) (by kernel_rfl) (S_nil (?_))))))
                  have HR := hr_pos HR c931
                  refine R_ret hM926 rfl (.cons (.tmp _ (.bool false) (by kernel_rfl)) .nil) rfl ?_
                  exact ⟨congrArg Ending.returned HR, hM926.below⟩
                · refine S_nil (R_no (by kernel_rfl) (R_skip (R_inBlock (R_region (S_val (.int .i64 2) (by kernel_rfl) (S_val (.int .i64 2) (by kernel_rfl) (S_nil (R_inLoop (R_seq (R_region (S_val (.bool true) (by kernel_rfl) (?_))))))))))))
                  have HR := hr_neg HR c931
                  refine S_nil (R_seq (R_yes (by kernel_rfl) (R_skip (R_seq (R_block (R_seq (R_region (S_val (.pointer (some ⟨g785, 4, none⟩)) (by kernel_rfl) (S_load 2 4 (.agg #[.int .i64 r42.2.2, .int .i64 r576.2.2]) hM926 (by kernel_rfl) (S_fresh none #[.int .i64 0, .int .i64 0] 42 hM926 (by kernel_rfl) (fun g932 w933 hM934 => S_store 0 0 #[.int .i64 r42.2.2, .int .i64 r576.2.2] hM934 (by kernel_rfl) (fun w935 hM936 => ?_))))))))))))
                  refine S_nil (R_seq (R_seq (R_region (S_val (.pointer (some ⟨g932, 0, none⟩)) (by kernel_rfl) (S_load 0 0 (.int .i64 r42.2.2) hM936 (by kernel_rfl) (?_))))))
                  refine S_dec (r42.2.2 ≥ 1152921504606846976) (by kernel_rfl) (fun c937 => ?_) (fun c937 => ?_)
                  · refine S_nil (R_yes (by kernel_rfl) (R_exit rfl (R_region (S_val (.int .i64 3) (by kernel_rfl) (S_val (.int .i64 3) (by kernel_rfl) (S_nil (R_inLoop (R_seq (R_region (S_val (.bool false) (by kernel_rfl) (S_nil (?_))))))))))))
                    have HR := hr_pos HR c937
                    refine R_seq (R_no (by kernel_rfl) (R_exit rfl (R_seq (R_region (S_call (s_umbralaw27_works ) (fun r : Bool => .bool r) hM936 (w_umbralaw27_works  w935) (by kernel_rfl) (fun r938 h939 w940 hM941 => ?_))))))
                    have HR := hr_lt HR h939
                    cases r938
                    · refine S_val (.bool false) (by kernel_rfl) (S_nil (?_))
                      have HR := hr_neg HR Bool.false_ne_true
                      refine R_ret hM941 rfl (.cons (.tmp _ (.bool false) (by kernel_rfl)) .nil) rfl ?_
                      exact ⟨congrArg Ending.returned HR, hM941.below⟩
                    · refine S_val (.bool true) (by kernel_rfl) (S_nil (?_))
                      have HR := hr_pos HR rfl
                      refine R_ret hM941 rfl (.cons (.tmp _ (.bool true) (by kernel_rfl)) .nil) rfl ?_
                      exact ⟨congrArg Ending.returned HR, hM941.below⟩
                  · refine S_nil (R_no (by kernel_rfl) (R_skip (R_seq (R_region (S_val (.pointer (some ⟨g932, 0, none⟩)) (by kernel_rfl) (S_load 0 0 (.int .i64 r42.2.2) hM936 (by kernel_rfl) (S_int (IntKind.i64.wrap (Int.tdiv r42.2.2 4)) .i64 (by kernel_rfl) (fun x943 h944 => S_val (.pointer (some ⟨g932, 1, none⟩)) (by kernel_rfl) (S_load 0 1 (.int .i64 r576.2.2) hM936 (by kernel_rfl) (S_int (IntKind.i64.wrap (x943 - r576.2.2)) .i64 (by kernel_rfl) (fun x945 h946 => S_call (fabs x945) (fun r : Int => .int .i64 r) hM936 (c_fix_Abs x945 (wr_i64 h946) w935) (by kernel_rfl) (fun r947 h948 w949 hM950 => ?_))))))))))))
                    have HR := hr_neg HR c937
                    have HR := hr_lt HR h944
                    have HR := hr_lt HR h946
                    have HR := hr_lt HR h948
                    refine S_val (.int .i64 r947) (by kernel_rfl) (S_nil (R_seq (R_region (S_val (.int .i64 r947) (by kernel_rfl) (S_val (.pointer (some ⟨g932, 0, none⟩)) (by kernel_rfl) (S_load 0 0 (.int .i64 r42.2.2) hM950 (by kernel_rfl) (S_int (Int.fdiv r42.2.2 (2 ^ 10)) .i64 (by kernel_rfl) (fun x951 h952 => S_int (IntKind.i64.wrap (x951 + 4096)) .i64 (by kernel_rfl) (fun x953 h954 => ?_)))))))))
                    have HR := hr_lt HR h952
                    have HR := hr_lt HR h954
                    refine S_dec (r947 > x953) (by kernel_rfl) (fun c955 => ?_) (fun c955 => ?_)
                    · refine S_nil (R_yes (by kernel_rfl) (R_seq (R_region (S_val (.bool false) (by kernel_rfl) (S_nil (?_))))))
                      have HR := hr_pos HR c955
                      refine R_ret hM950 rfl (.cons (.tmp _ (.bool false) (by kernel_rfl)) .nil) rfl ?_
                      exact ⟨congrArg Ending.returned HR, hM950.below⟩
                    · refine S_nil (R_no (by kernel_rfl) (R_skip (R_inBlock (R_region (S_val (.int .i64 3) (by kernel_rfl) (S_val (.int .i64 3) (by kernel_rfl) (S_nil (R_inLoop (R_seq (R_region (S_val (.bool false) (by kernel_rfl) (?_))))))))))))
                      have HR := hr_neg HR c955
                      refine S_nil (R_seq (R_no (by kernel_rfl) (R_exit rfl (R_seq (R_region (S_call (s_umbralaw27_works ) (fun r : Bool => .bool r) hM950 (w_umbralaw27_works  w949) (by kernel_rfl) (fun r956 h957 w958 hM959 => ?_)))))))
                      have HR := hr_lt HR h957
                      cases r956
                      · refine S_val (.bool false) (by kernel_rfl) (S_nil (?_))
                        have HR := hr_neg HR Bool.false_ne_true
                        refine R_ret hM959 rfl (.cons (.tmp _ (.bool false) (by kernel_rfl)) .nil) rfl ?_
                        exact ⟨congrArg Ending.returned HR, hM959.below⟩
                      · refine S_val (.bool true) (by kernel_rfl) (S_nil (?_))
                        have HR := hr_pos HR rfl
                        refine R_ret hM959 rfl (.cons (.tmp _ (.bool true) (by kernel_rfl)) .nil) rfl ?_
                        exact ⟨congrArg Ending.returned HR, hM959.below⟩
        · refine F_fresh none #[.int .i64 0, .int .i64 0, .int .i64 0, .bool false, .bool false, .int .i64 0, .int .i64 0, .int .i64 0] 62 hL562 (by kernel_rfl) (fun _ => by kernel_rfl) (fun g961 F962 U963 hL964 => F_nil hM559 hL964 (fun w965 hM966 => S_store 0 0 #[.int .i64 r573.1, .int .i64 r573.2.1, .int .i64 r573.2.2, .bool true, .bool true, .int .i64 r576.1, .int .i64 r576.2.1, .int .i64 r576.2.2] hM966 (by kernel_rfl) (fun w967 hM968 => S_nil (R_seq (R_seq (R_region (S_val (.pointer (some ⟨g552, 4, none⟩)) (by kernel_rfl) (S_load 1 4 (.bool false) hM968 (by kernel_rfl) (S_val (.bool false) (by kernel_rfl) (S_val (.pointer (some ⟨g961, 4, none⟩)) (by kernel_rfl) (S_load 0 4 (.bool true) hM968 (by kernel_rfl) (?_))))))))))))
          have HR := hr_pos HR rfl
          have HR := hr_pos HR rfl
          refine S_val (.bool true) (by kernel_rfl) (S_nil (R_yes (by kernel_rfl) (R_seq (R_region (S_call (s_umbralaw27_works ) (fun r : Bool => .bool r) hM968 (w_umbralaw27_works  w967) (by kernel_rfl) (fun r969 h970 w971 hM972 => ?_))))))
          have HR := hr_lt HR h970
          cases r969
          · refine S_val (.bool false) (by kernel_rfl) (S_nil (?_))
            have HR := hr_neg HR Bool.false_ne_true
            refine R_ret hM972 rfl (.cons (.tmp _ (.bool false) (by kernel_rfl)) .nil) rfl ?_
            exact ⟨congrArg Ending.returned HR, hM972.below⟩
          · refine S_val (.bool true) (by kernel_rfl) (S_nil (?_))
            have HR := hr_pos HR rfl
            refine R_ret hM972 rfl (.cons (.tmp _ (.bool true) (by kernel_rfl)) .nil) rfl ?_
            exact ⟨congrArg Ending.returned HR, hM972.below⟩
    · refine F_fresh none #[.int .i64 0, .int .i64 0, .int .i64 0, .bool false, .bool false, .int .i64 0, .int .i64 0, .int .i64 0] 62 hL34 (by kernel_rfl) (fun _ => by kernel_rfl) (fun g976 F977 U978 hL979 => F_nil hM31 hL979 (fun w980 hM981 => S_store 0 0 #[.int .i64 r39.1, .int .i64 r39.2.1, .int .i64 r39.2.2, .bool true, .bool true, .int .i64 r42.1, .int .i64 r42.2.1, .int .i64 r42.2.2] hM981 (by kernel_rfl) (fun w982 hM983 => S_nil (R_seq (R_drawF 17 (by kernel_rfl) (fun F984 U985 hL986 => F_load 3 0 (.agg #[.int .i64 0, .int .i64 l.2.1.1, .int .i64 l.2.1.2.1, .int .i64 l.2.1.2.2, .int .i64 0, .int .i64 0, .int .i64 0, .int .i64 0, .int .i64 0, .int .i64 0, .int .i64 0, .int .i64 0, .int .i64 0]) hM983 (by kernel_rfl) (F_val (.agg #[.int .i64 0, .int .i64 0, .int .i64 0]) (fun _ => by kernel_rfl) (F_val (.pointer (some ⟨g4, 0, none⟩)) (fun _ => by kernel_rfl) (F_load 2 0 (.int .i64 x15) hM983 (by kernel_rfl) (F_int (IntKind.i64.wrap (2 * x15)) .i64 (fun _ => by kernel_rfl) (fun x987 h988 => F_val (.pointer (some ⟨g4, 1, none⟩)) (fun _ => by kernel_rfl) (?_))))))))))))
      have HR := hr_pos HR rfl
      have HR := hr_pos HR rfl
      have HR := hr_lt HR h988
      refine F_load 2 1 (.int .i64 x17) hM983 (by kernel_rfl) (F_int (IntKind.i64.wrap (2 * x17)) .i64 (fun _ => by kernel_rfl) (fun x989 h990 => F_val (.pointer (some ⟨g4, 2, none⟩)) (fun _ => by kernel_rfl) (F_load 2 2 (.int .i64 x19) hM983 (by kernel_rfl) (F_int (IntKind.i64.wrap (2 * x19)) .i64 (fun _ => by kernel_rfl) (fun x991 h992 => F_val (.agg #[.int .i64 x987, .int .i64 x989, .int .i64 x991]) (fun _ => by kernel_rfl) (F_call (s_tri_Sub (0, 0, 0) (x987, x989, x991)) (fun r : Int × Int × Int => .agg #[.int .i64 r.1, .int .i64 r.2.1, .int .i64 r.2.2]) hM983 hL986 (fun w' hM' => w_tri_Sub (0, 0, 0) (x987, x989, x991) (⟨(show InI 0 from by unfold InI; omega), (show InI 0 from by unfold InI; omega), (show InI 0 from by unfold InI; omega)⟩) (⟨(wr_i64 h988), (wr_i64 h990), (wr_i64 h992)⟩) w') (by kernel_rfl) (fun _ => by kernel_rfl) (fun r993 h994 => F_load 1 0 (.agg #[.int .i64 r23.1, .int .i64 r23.2.1, .int .i64 r23.2.2]) hM983 (by kernel_rfl) (F_val (.agg #[.int .u32 0, .int .u32 0]) (fun _ => by kernel_rfl) (F_call (s_lamp_Sample (0, l.2.1, (0, 0, 0), (0, 0, 0), (0, 0, 0)) r993 r23 (0, 0)) (fun r : (Int × Int × Int) × Bool × Bool × (Int × Int × Int) => .agg #[.int .i64 r.1.1, .int .i64 r.1.2.1, .int .i64 r.1.2.2, .bool r.2.1, .bool r.2.2.1, .int .i64 r.2.2.2.1, .int .i64 r.2.2.2.2.1, .int .i64 r.2.2.2.2.2]) hM983 hL986 (fun w' hM' => w_lamp_Sample (0, l.2.1, (0, 0, 0), (0, 0, 0), (0, 0, 0)) r993 r23 (0, 0) (⟨(show InI 0 from by unfold InI; omega), h_l.2.1, ⟨(show InI 0 from by unfold InI; omega), (show InI 0 from by unfold InI; omega), (show InI 0 from by unfold InI; omega)⟩, ⟨(show InI 0 from by unfold InI; omega), (show InI 0 from by unfold InI; omega), (show InI 0 from by unfold InI; omega)⟩, ⟨(show InI 0 from by unfold InI; omega), (show InI 0 from by unfold InI; omega), (show InI 0 from by unfold InI; omega)⟩⟩) ((tr (P := fun r : Int × Int × Int => InV r) h994 (i_tri_Sub (0, 0, 0) (x987, x989, x991) (⟨(show InI 0 from by unfold InI; omega), (show InI 0 from by unfold InI; omega), (show InI 0 from by unfold InI; omega)⟩) (⟨(wr_i64 h988), (wr_i64 h990), (wr_i64 h992)⟩))).out) ((tr (P := fun r : Int × Int × Int => InV r) h24 (vtow_I (x15, x17, x19))).out) (⟨(show InU32 0 from by unfold InU32; omega), (show InU32 0 from by unfold InU32; omega)⟩) w') (by kernel_rfl) (fun _ => by kernel_rfl) (fun r995 h996 => ?_))))))))))
      have HR := hr_lt HR h990
      have HR := hr_lt HR h992
      have HR := hr_lt HR h994
      have HR := hr_lt HR h996
      obtain ⟨r997, b1001, b1002, r1000⟩ := r995
      cases b1001
      · cases b1002
        · refine F_fresh none #[.int .i64 0, .int .i64 0, .int .i64 0, .bool false, .bool false, .int .i64 0, .int .i64 0, .int .i64 0] 62 hL986 (by kernel_rfl) (fun _ => by kernel_rfl) (fun g1003 F1004 U1005 hL1006 => F_nil hM983 hL1006 (fun w1007 hM1008 => S_store 0 0 #[.int .i64 r997.1, .int .i64 r997.2.1, .int .i64 r997.2.2, .bool false, .bool false, .int .i64 r1000.1, .int .i64 r1000.2.1, .int .i64 r1000.2.2] hM1008 (by kernel_rfl) (fun w1009 hM1010 => S_nil (R_seq (R_seq (R_region (S_val (.pointer (some ⟨g976, 4, none⟩)) (by kernel_rfl) (S_load 1 4 (.bool true) hM1010 (by kernel_rfl) (S_val (.bool true) (by kernel_rfl) (S_skip (by kernel_rfl) (S_skip (by kernel_rfl) (?_))))))))))))
          have HR := hr_neg HR Bool.false_ne_true
          have HR := hr_neg HR Bool.false_ne_true
          refine S_val (.bool true) (by kernel_rfl) (S_nil (R_yes (by kernel_rfl) (R_seq (R_region (S_call (s_umbralaw27_works ) (fun r : Bool => .bool r) hM1010 (w_umbralaw27_works  w1009) (by kernel_rfl) (fun r1011 h1012 w1013 hM1014 => ?_))))))
          have HR := hr_lt HR h1012
          cases r1011
          · refine S_val (.bool false) (by kernel_rfl) (S_nil (?_))
            have HR := hr_neg HR Bool.false_ne_true
            refine R_ret hM1014 rfl (.cons (.tmp _ (.bool false) (by kernel_rfl)) .nil) rfl ?_
            exact ⟨congrArg Ending.returned HR, hM1014.below⟩
          · refine S_val (.bool true) (by kernel_rfl) (S_nil (?_))
            have HR := hr_pos HR rfl
            refine R_ret hM1014 rfl (.cons (.tmp _ (.bool true) (by kernel_rfl)) .nil) rfl ?_
            exact ⟨congrArg Ending.returned HR, hM1014.below⟩
        · refine F_fresh none #[.int .i64 0, .int .i64 0, .int .i64 0, .bool false, .bool false, .int .i64 0, .int .i64 0, .int .i64 0] 62 hL986 (by kernel_rfl) (fun _ => by kernel_rfl) (fun g1016 F1017 U1018 hL1019 => F_nil hM983 hL1019 (fun w1020 hM1021 => S_store 0 0 #[.int .i64 r997.1, .int .i64 r997.2.1, .int .i64 r997.2.2, .bool false, .bool true, .int .i64 r1000.1, .int .i64 r1000.2.1, .int .i64 r1000.2.2] hM1021 (by kernel_rfl) (fun w1022 hM1023 => S_nil (R_seq (R_seq (R_region (S_val (.pointer (some ⟨g976, 4, none⟩)) (by kernel_rfl) (S_load 1 4 (.bool true) hM1023 (by kernel_rfl) (S_val (.bool true) (by kernel_rfl) (S_skip (by kernel_rfl) (S_skip (by kernel_rfl) (?_))))))))))))
          have HR := hr_neg HR Bool.false_ne_true
          have HR := hr_pos HR rfl
          refine S_val (.bool true) (by kernel_rfl) (S_nil (R_yes (by kernel_rfl) (R_seq (R_region (S_call (s_umbralaw27_works ) (fun r : Bool => .bool r) hM1023 (w_umbralaw27_works  w1022) (by kernel_rfl) (fun r1024 h1025 w1026 hM1027 => ?_))))))
          have HR := hr_lt HR h1025
          cases r1024
          · refine S_val (.bool false) (by kernel_rfl) (S_nil (?_))
            have HR := hr_neg HR Bool.false_ne_true
            refine R_ret hM1027 rfl (.cons (.tmp _ (.bool false) (by kernel_rfl)) .nil) rfl ?_
            exact ⟨congrArg Ending.returned HR, hM1027.below⟩
          · refine S_val (.bool true) (by kernel_rfl) (S_nil (?_))
            have HR := hr_pos HR rfl
            refine R_ret hM1027 rfl (.cons (.tmp _ (.bool true) (by kernel_rfl)) .nil) rfl ?_
            exact ⟨congrArg Ending.returned HR, hM1027.below⟩
      · cases b1002
        · refine F_fresh none #[.int .i64 0, .int .i64 0, .int .i64 0, .bool false, .bool false, .int .i64 0, .int .i64 0, .int .i64 0] 62 hL986 (by kernel_rfl) (fun _ => by kernel_rfl) (fun g1030 F1031 U1032 hL1033 => F_nil hM983 hL1033 (fun w1034 hM1035 => S_store 0 0 #[.int .i64 r997.1, .int .i64 r997.2.1, .int .i64 r997.2.2, .bool true, .bool false, .int .i64 r1000.1, .int .i64 r1000.2.1, .int .i64 r1000.2.2] hM1035 (by kernel_rfl) (fun w1036 hM1037 => S_nil (R_seq (R_seq (R_region (S_val (.pointer (some ⟨g976, 4, none⟩)) (by kernel_rfl) (S_load 1 4 (.bool true) hM1037 (by kernel_rfl) (S_val (.bool true) (by kernel_rfl) (S_skip (by kernel_rfl) (S_skip (by kernel_rfl) (?_))))))))))))
          have HR := hr_pos HR rfl
          have HR := hr_neg HR Bool.false_ne_true
          refine S_val (.bool true) (by kernel_rfl) (S_nil (R_yes (by kernel_rfl) (R_seq (R_region (S_call (s_umbralaw27_works ) (fun r : Bool => .bool r) hM1037 (w_umbralaw27_works  w1036) (by kernel_rfl) (fun r1038 h1039 w1040 hM1041 => ?_))))))
          have HR := hr_lt HR h1039
          cases r1038
          · refine S_val (.bool false) (by kernel_rfl) (S_nil (?_))
            have HR := hr_neg HR Bool.false_ne_true
            refine R_ret hM1041 rfl (.cons (.tmp _ (.bool false) (by kernel_rfl)) .nil) rfl ?_
            exact ⟨congrArg Ending.returned HR, hM1041.below⟩
          · refine S_val (.bool true) (by kernel_rfl) (S_nil (?_))
            have HR := hr_pos HR rfl
            refine R_ret hM1041 rfl (.cons (.tmp _ (.bool true) (by kernel_rfl)) .nil) rfl ?_
            exact ⟨congrArg Ending.returned HR, hM1041.below⟩
        · refine F_fresh none #[.int .i64 0, .int .i64 0, .int .i64 0, .bool false, .bool false, .int .i64 0, .int .i64 0, .int .i64 0] 62 hL986 (by kernel_rfl) (fun _ => by kernel_rfl) (fun g1043 F1044 U1045 hL1046 => F_nil hM983 hL1046 (fun w1047 hM1048 => S_store 0 0 #[.int .i64 r997.1, .int .i64 r997.2.1, .int .i64 r997.2.2, .bool true, .bool true, .int .i64 r1000.1, .int .i64 r1000.2.1, .int .i64 r1000.2.2] hM1048 (by kernel_rfl) (fun w1049 hM1050 => S_nil (R_seq (R_seq (R_region (S_val (.pointer (some ⟨g976, 4, none⟩)) (by kernel_rfl) (S_load 1 4 (.bool true) hM1050 (by kernel_rfl) (S_val (.bool true) (by kernel_rfl) (S_skip (by kernel_rfl) (S_skip (by kernel_rfl) (?_))))))))))))
          have HR := hr_pos HR rfl
          have HR := hr_pos HR rfl
          refine S_val (.bool true) (by kernel_rfl) (S_nil (R_yes (by kernel_rfl) (R_seq (R_region (S_call (s_umbralaw27_works ) (fun r : Bool => .bool r) hM1050 (w_umbralaw27_works  w1049) (by kernel_rfl) (fun r1051 h1052 w1053 hM1054 => ?_))))))
          have HR := hr_lt HR h1052
          cases r1051
          · refine S_val (.bool false) (by kernel_rfl) (S_nil (?_))
            have HR := hr_neg HR Bool.false_ne_true
            refine R_ret hM1054 rfl (.cons (.tmp _ (.bool false) (by kernel_rfl)) .nil) rfl ?_
            exact ⟨congrArg Ending.returned HR, hM1054.below⟩
          · refine S_val (.bool true) (by kernel_rfl) (S_nil (?_))
            have HR := hr_pos HR rfl
            refine R_ret hM1054 rfl (.cons (.tmp _ (.bool true) (by kernel_rfl)) .nil) rfl ?_
            exact ⟨congrArg Ending.returned HR, hM1054.below⟩

end Go.Proofs.Ytjhnkpapbjkbcaa

namespace Go.Proofs.Ytjhnkpapbjkbcaa
open Go.RowKit Go.Sort
set_option linter.unusedVariables false
set_option linter.unusedSimpArgs false

theorem fmul_nn {a b : Int} (ha : 0 ≤ a) (hb : 0 ≤ b) : 0 ≤ fmul a b := by
  have := Int.mul_nonneg ha hb
  unfold fmul clampI
  repeat' split
  all_goals omega
theorem color_nn {c : Int} (h : 0 ≤ c ∧ c ≤ 1048576) : 0 ≤ s_texel_Color_1 65536 c := by
  unfold s_texel_Color_1
  simp only [lt]
  have e : fof 65536 = 281474976710656 := by decide
  rw [e]
  unfold fof
  rw [clampI_v (by omega)]
  unfold fdiv fq
  rw [if_neg (by omega), if_pos (by omega)]
  unfold clampI
  repeat' split
  all_goals omega
theorem bright_nn {l : Lt} (h : (0 ≤ l.2.1.1 ∧ l.2.1.1 ≤ 1048576) ∧ (0 ≤ l.2.1.2.1 ∧ l.2.1.2.1 ≤ 1048576) ∧ (0 ≤ l.2.1.2.2 ∧ l.2.1.2.2 ≤ 1048576)) {k : Int} (hk : 0 ≤ k) : 0 ≤ (vscale (s_lamp_Bright l) k).1 ∧ 0 ≤ (vscale (s_lamp_Bright l) k).2.1 ∧ 0 ≤ (vscale (s_lamp_Bright l) k).2.2 := by
  have c1 := color_nn h.1
  have c2 := color_nn h.2.1
  have c3 := color_nn h.2.2
  exact ⟨fmul_nn c1 hk, fmul_nn c2 hk, fmul_nn c3 hk⟩
theorem point_bd (l : Lt) (draw : Int × Int) (h : ¬ Far3 l.2.2.1 4096 ∧ ¬ Far3 l.2.2.2.1 4096 ∧ ¬ Far3 l.2.2.2.2 4096) (h1 : InU32 draw.1) (h2 : InU32 draw.2) : ¬ Far3 (s_lamp_Point l draw) 12288 := by
  obtain ⟨n1, n2, n3⟩ := h
  unfold s_lamp_Point
  simp only [lt]
  obtain ⟨a1, a2, a3⟩ := near3 n1
  obtain ⟨b1, b2, b3⟩ := near3 n2
  obtain ⟨c1, c2, c3⟩ := near3 n3
  by_cases h : l.1 = 1
  · rw [if_pos h]
    obtain ⟨p1, p2, p3⟩ := point1 (draw := draw) a1 b1 c1 h1 h2
    obtain ⟨q1, q2, q3⟩ := point1 (draw := draw) a2 b2 c2 h1 h2
    obtain ⟨r1, r2, r3⟩ := point1 (draw := draw) a3 b3 c3 h1 h2
    unfold Far3
    rw [p1, q1, r1]
    simp only
    omega
  · rw [if_neg h]
    unfold Far3
    omega
theorem sub_v {p q : T3} (hp : ¬ Far3 p 12288) (hq : ¬ Far3 q 65536) : s_tri_Sub p q = (p.1 - q.1, p.2.1 - q.2.1, p.2.2 - q.2.2) ∧ ¬ Far3 (s_tri_Sub p q) 131072 := by
  have e : s_tri_Sub p q = (p.1 - q.1, p.2.1 - q.2.1, p.2.2 - q.2.2) := by
    unfold Far3 at *
    unfold s_tri_Sub
    simp only [lt]
    rw [wr_id (n := p.1 - q.1) (by unfold InI; omega), wr_id (n := p.2.1 - q.2.1) (by unfold InI; omega), wr_id (n := p.2.2 - q.2.2) (by unfold InI; omega)]
  refine ⟨e, ?_⟩
  rw [e]
  unfold Far3 at *
  simp only
  omega
theorem dot_v {p : T3} (h : ¬ Far3 p 131072) : s_tri_Dot p p = p.1 * p.1 + p.2.1 * p.2.1 + p.2.2 * p.2.2 ∧ 0 ≤ s_tri_Dot p p ∧ s_tri_Dot p p ≤ 51539607552 ∧ (s_tri_Dot p p = 0 → p = (0, 0, 0)) := by
  have sq : ∀ x : Int, -131072 ≤ x ∧ x ≤ 131072 → 0 ≤ x * x ∧ x * x ≤ 17179869184 ∧ (x * x = 0 → x = 0) := by
    intro x hx
    refine ⟨?_, ?_, fun e => ?_⟩
    · rcases Int.le_total 0 x with g | g
      · exact Int.mul_nonneg g g
      · exact Int.mul_nonneg_of_nonpos_of_nonpos g g
    · rcases Int.le_total 0 x with g | g
      · have := Int.mul_le_mul hx.2 hx.2 g (by omega); omega
      · have := Int.mul_le_mul (show -x ≤ 131072 by omega) (show -x ≤ 131072 by omega) (show 0 ≤ -x by omega) (by omega)
        rw [Int.neg_mul_neg] at this
        omega
    · rcases Int.mul_eq_zero.1 e with e | e <;> exact e
  obtain ⟨x1, x2, x3⟩ := near3 h
  have a1 := sq _ x1
  have a2 := sq _ x2
  have a3 := sq _ x3
  have e : s_tri_Dot p p = p.1 * p.1 + p.2.1 * p.2.1 + p.2.2 * p.2.2 := by
    unfold s_tri_Dot
    simp only [lt]
    rw [wr_id (n := p.1 * p.1) (by unfold InI; omega), wr_id (n := p.2.1 * p.2.1) (by unfold InI; omega), wr_id (n := p.2.2 * p.2.2) (by unfold InI; omega), wr_id (n := p.1 * p.1 + p.2.1 * p.2.1) (by unfold InI; omega), wr_id (by unfold InI; omega)]
  refine ⟨e, ?_, ?_, ?_⟩
  · omega
  · omega
  · rw [e]
    intro h0
    obtain ⟨p1, p2, p3⟩ := p
    simp only at *
    rw [a1.2.2 (by omega), a2.2.2 (by omega), a3.2.2 (by omega)]
theorem far_v (r n a : T3) (hm : mayB r = true) : (s__umbra_lamp_far__comes r a (vtow n) = (neg3 r, satAdd (fneg (vdot (vtow n) (vtow r))) (fneg (vdot (vtow n) (vtow r)))) ∧ vdot (vtow n) (vtow r) < 0) ∨ (s__umbra_lamp_far__comes r a (vtow n) = (r, satAdd (vdot (vtow n) (vtow r)) (vdot (vtow n) (vtow r))) ∧ 0 ≤ vdot (vtow n) (vtow r)) := by
  have hb := may_I hm
  unfold s__umbra_lamp_far__comes
  simp only [lt]
  have hI := vdot_I (vtow n) (vtow r)
  generalize vdot (vtow n) (vtow r) = c at *
  by_cases h : c < 0
  · left
    rw [if_pos h, wr_id (n := 0 - r.1) (by unfold InI; omega), wr_id (n := 0 - r.2.1) (by unfold InI; omega), wr_id (n := 0 - r.2.2) (by unfold InI; omega), sumF2 (fneg_I c)]
    unfold neg3
    simp only [Int.zero_sub]
    exact ⟨by first | trivial | rfl, h⟩
  · right
    rw [if_neg h, sumF2 hI]
    exact ⟨rfl, by omega⟩
theorem may_neg {r : T3} (hm : mayB r = true) : mayB (neg3 r) = true := by
  unfold mayB neg3 at *
  simp only [Bool.and_eq_true, decide_eq_true_eq] at *
  omega
theorem may_far {r : T3} (hm : mayB r = true) : ¬ Far3 r 131072 ∧ r ≠ (0, 0, 0) := by
  have hb := may_I hm
  refine ⟨by unfold Far3; omega, fun e => ?_⟩
  subst e
  revert hm
  decide
theorem satAdd_nn {a b : Int} (ha : 0 ≤ a) (hb : 0 ≤ b) : 0 ≤ satAdd a b := by unfold satAdd clampI; repeat' split; all_goals omega
theorem md_nn {a b c : Int} (ha : 0 ≤ a) (hb : 0 ≤ b) (hc : 0 ≤ c) : 0 ≤ mdN a b c := by
  unfold mdN
  split
  · omega
  · unfold fq
    rw [if_pos (by omega)]
    have := Int.ediv_nonneg (Int.mul_nonneg ha hb) hc
    unfold clampI
    repeat' split
    all_goals omega
theorem near_val (p a n : T3) : s__umbra_lamp_near__comes p a n = (if s_tri_Sub p a = (0, 0, 0) then ((0, 0, 0), 0) else if vdot n (vtow (s_tri_Sub p a)) ≤ 0 then ((0, 0, 0), 0) else (s_tri_Sub p a, mdN (vdot n (vtow (s_tri_Sub p a))) 1048576 (s_tri_Dot (s_tri_Sub p a) (s_tri_Sub p a)))) := rfl
theorem far_val (r a n : T3) : s__umbra_lamp_far__comes r a n = (if vdot n (vtow r) < 0 then ((IntKind.i64.wrap (0 - r.1), IntKind.i64.wrap (0 - r.2.1), IntKind.i64.wrap (0 - r.2.2)), sumF [fneg (vdot n (vtow r)), fneg (vdot n (vtow r))]) else (r, sumF [vdot n (vtow r), vdot n (vtow r)])) := by
  unfold s__umbra_lamp_far__comes
  simp only [lt]
/-- What comes: nothing, or of a way that looks at the surface. -/
theorem sample_v (l : Lt) (a n : T3) (draw : Int × Int) (h1 : InU32 draw.1) (h2 : InU32 draw.2) : s_lamp_Sample l a (vtow n) draw = ((0, 0, 0), false, true, (0, 0, 0)) ∨
    ∃ w g, s_lamp_Sample l a (vtow n) draw = (w, decide (l.1 = 2), false, g) ∧ s_asset_Light l = 0 ∧ s_tri_May a w = true ∧ vdot (vtow n) (vtow w) ≥ -16 ∧ 0 ≤ g.1 ∧ 0 ≤ g.2.1 ∧ 0 ≤ g.2.2 := by
  unfold s_lamp_Sample
  simp only [lt]
  by_cases hl : s_asset_Light l = 0
  · rw [if_pos hl]
    obtain ⟨-, hc, hn⟩ := light_ok hl
    by_cases hm : s_tri_May a (1, 0, 0) = true
    · rw [if_pos hm]
      have ha : ¬ Far3 a 65536 := by
        rw [may_v, decide_eq_true_eq] at hm
        exact hm.1
      by_cases h0 : l.1 = 2
      · rw [if_pos h0]
        have hp := pdir_may h1
        generalize pdir draw.1 = r at *
        have hk : (s__umbra_lamp_far__comes r a (vtow n)).2 ≥ 0 ∧ mayB (s__umbra_lamp_far__comes r a (vtow n)).1 = true ∧ vdot (vtow n) (vtow (s__umbra_lamp_far__comes r a (vtow n)).1) ≥ -16 := by
          rcases far_v r n a hp with ⟨e, hd⟩ | ⟨e, hd⟩
          · rw [e]
            have : 0 ≤ fneg (vdot (vtow n) (vtow r)) := by
              unfold fneg satSub clampI
              repeat' split
              all_goals omega
            exact ⟨satAdd_nn this this, may_neg hp, turn_dot n r (may_I hp) hd⟩
          · rw [e]
            exact ⟨satAdd_nn hd hd, hp, by simp only; omega⟩
        generalize s__umbra_lamp_far__comes r a (vtow n) = c at *
        by_cases hz : c.2 = 0
        · rw [if_pos hz]; exact .inl rfl
        · rw [if_neg hz]
          right
          have hf := may_far hk.2.1
          refine ⟨_, _, by rw [decide_eq_true h0], hl, ?_, hk.2.2, bright_nn hc hk.1⟩
          rw [may_v, decide_eq_true_eq]
          exact ⟨ha, hf⟩
      · rw [if_neg h0]
        have hp := point_bd l draw hn h1 h2
        generalize s_lamp_Point l draw = p at *
        have hv := near_val p a (vtow n)
        obtain ⟨-, hs⟩ := sub_v hp ha
        have hd := dot_v hs
        generalize s__umbra_lamp_near__comes p a (vtow n) = c at *
        generalize s_tri_Sub p a = w at *
        by_cases hw : w = (0, 0, 0)
        · left
          rw [if_pos hw] at hv
          subst hv
          rw [if_pos rfl]
        · by_cases hcc : vdot (vtow n) (vtow w) ≤ 0
          · left
            rw [if_neg hw, if_pos hcc] at hv
            subst hv
            rw [if_pos rfl]
          · right
            rw [if_neg hw, if_neg hcc] at hv
            subst hv
            rw [if_neg hw]
            refine ⟨_, _, by rw [decide_eq_false h0], hl, ?_, (show vdot (vtow n) (vtow w) ≥ -16 by omega), bright_nn hc (md_nn (by omega) (by omega) hd.2.1)⟩
            rw [may_v, decide_eq_true_eq]
            exact ⟨ha, hs, hw⟩
    · rw [if_neg hm]; exact .inl rfl
  · rw [if_neg hl]; exact .inl rfl
theorem LampBehind_true (l : Lt) (a : T3 × T3 × (Int × Int)) (n : T3) (h1 : InU32 a.2.2.1) (h2 : InU32 a.2.2.2) : s_umbralaw27_LampBehind l a n = true := by
  unfold s_umbralaw27_LampBehind
  simp only [lt, works27, if_true]
  have hs := sample_v l a.1 n a.2.2 h1 h2
  generalize s_lamp_Sample l a.1 (vtow n) a.2.2 = r at *
  rcases hs with e | ⟨w, g, e, hl, hm, hd, g1, g2, g3⟩
  · subst e
    simp
  · have hmin : gmin (gmin g.1 g.2.1) g.2.2 ≥ 0 := by rw [gmin_eq, gmin_eq]; omega
    by_cases h0 : l.1 = 2
    · rw [decide_eq_true h0] at e
      subst e
      simp only
      rw [if_pos trivial, if_neg (by simp), if_pos hl, if_pos hm, if_pos h0, if_pos hd, if_pos hmin]
    · rw [decide_eq_false h0] at e
      subst e
      simp only
      rw [if_neg (by simp), if_neg (by simp), if_pos hl, if_pos hm, if_neg h0, if_pos hd, if_pos hmin]
end Go.Proofs.Ytjhnkpapbjkbcaa

namespace Go.Proofs.Ytjhnkpapbjkbcaa
open Go.RowKit Go.Sort
set_option linter.unusedVariables false
set_option linter.unusedSimpArgs false

theorem light_eq (l : Lt) : s_asset_Light l = s_umbraref15_Light l := by
  unfold s_asset_Light s_umbraref15_Light
  simp only [lt, outn1, outn3, light1, off_v _ 4096 (by omega), decide_eq_true_eq]
  by_cases k0 : l.1 < 0
  · simp [k0]
  by_cases k1 : l.1 > 2
  · simp [k0, k1]
  by_cases c1 : l.2.1.1 < 0
  · simp [k0, k1, c1]
  by_cases c2 : l.2.1.1 > 1048576
  · simp [k0, k1, c1, c2]
  by_cases c3 : l.2.1.2.1 < 0
  · simp [k0, k1, c1, c2, c3]
  by_cases c4 : l.2.1.2.1 > 1048576
  · simp [k0, k1, c1, c2, c3, c4]
  by_cases c5 : l.2.1.2.2 < 0
  · simp [k0, k1, c1, c2, c3, c4, c5]
  by_cases c6 : l.2.1.2.2 > 1048576
  · simp [k0, k1, c1, c2, c3, c4, c5, c6]
  rw [if_neg (show ¬(l.1 < 0 ∨ l.1 > 2) by omega), if_neg (show ¬((l.2.1.1 < 0 ∨ l.2.1.1 > 1048576) ∨ (l.2.1.2.1 < 0 ∨ l.2.1.2.1 > 1048576) ∨ (l.2.1.2.2 < 0 ∨ l.2.1.2.2 > 1048576)) by omega),
    if_neg k0, if_neg k1, if_neg c1, if_neg c2, if_neg c3, if_neg c4, if_neg c5, if_neg c6]
  by_cases f1 : Far3 l.2.2.1 4096
  · rw [if_pos f1, if_pos f1]
  rw [if_neg f1, if_neg f1]
  by_cases f2 : Far3 l.2.2.2.1 4096
  · rw [if_pos f2, if_pos f2]
  rw [if_neg f2, if_neg f2]
  by_cases f3 : Far3 l.2.2.2.2 4096
  · rw [if_pos f3, if_pos f3]
  rw [if_neg f3, if_neg f3]
  by_cases e2 : l.1 = 2
  · rw [if_pos e2, if_pos e2, if_neg (show ¬ l.1 = 1 by omega)]
  · rw [if_neg e2, if_neg e2]
    by_cases e1 : l.1 = 1
    · rw [if_pos e1, if_neg (show ¬ l.1 = 0 by omega)]
    · rw [if_neg e1, if_pos (show l.1 = 0 by omega)]
theorem of_v {u x : Int} (hu : -4096 ≤ u ∧ u ≤ 4096) (hx : InU32 x) : s_umbraref27_of u x = u * x / 4294967296 := by
  unfold InU32 at hx
  obtain ⟨P, hP⟩ : ∃ P, P = absU u * x := ⟨_, rfl⟩
  have hb : 0 ≤ P ∧ P ≤ 17592186044416 := by
    have ha : 0 ≤ absU u ∧ absU u ≤ 4096 := by unfold absU; split <;> omega
    have h1 := Int.mul_nonneg ha.1 hx.1
    have h2 := Int.mul_le_mul ha.2 hx.2 hx.1 (by omega)
    omega
  unfold s_umbraref27_of m64
  simp only [lt]
  rw [wr_idU (n := x) (by unfold InU; omega), ← hP]
  have e1 : wHi P = 0 := by unfold wHi; omega
  have e2 : wLo P = P := by unfold wLo; omega
  rw [e1, e2]
  have e3 : IntKind.u64.wrap (0 * 2 ^ 32) = 0 := by decide
  have e4 : Int.fdiv P (2 ^ 32) = P / 4294967296 := Int.fdiv_eq_ediv_of_nonneg _ (by decide)
  have e5 : bits .or .u64 0 (P / 4294967296) = P / 4294967296 := by
    rw [u64_or _ _ (by omega) (by omega) (by omega) (by omega)]
    simp only [Int.toNat_zero, Nat.zero_or]
    omega
  rw [e3, e4, e5, and_low (by omega) (by omega), wr_id (n := P / 4294967296) (by unfold InI; omega), wr_id (n := 0 - P / 4294967296) (by unfold InI; omega), wr_id (n := 0 - P / 4294967296 - 1) (by unfold InI; omega)]
  unfold absU at hP
  by_cases h : u < 0
  · rw [if_pos h] at hP ⊢
    rw [Int.neg_mul] at hP
    split <;> omega
  · rw [if_neg h] at hP ⊢
    rw [hP]
theorem point_eq (l : Lt) (draw : Int × Int) (h : ¬ Far3 l.2.2.1 4096 ∧ ¬ Far3 l.2.2.2.1 4096 ∧ ¬ Far3 l.2.2.2.2 4096) (h1 : InU32 draw.1) (h2 : InU32 draw.2) : s_lamp_Point l draw = s_umbraref27_Point l draw := by
  obtain ⟨n1, n2, n3⟩ := h
  obtain ⟨a1, a2, a3⟩ := near3 n1
  obtain ⟨b1, b2, b3⟩ := near3 n2
  obtain ⟨c1, c2, c3⟩ := near3 n3
  have step : ∀ t u v : Int, (-4096 ≤ t ∧ t ≤ 4096) → (-4096 ≤ u ∧ u ≤ 4096) → (-4096 ≤ v ∧ v ≤ 4096) → s_lamp_Point_1 draw t u v = IntKind.i64.wrap (IntKind.i64.wrap (t + s_umbraref27_of u draw.1) + s_umbraref27_of v draw.2) := by
    intro t u v ht hu hv
    rw [(point1 (draw := draw) ht hu hv h1 h2).1, of_v hu h1, of_v hv h2]
    have m1 := md_v hu h1
    have m2 := md_v hv h2
    generalize u * draw.1 / 4294967296 = A at *
    generalize v * draw.2 / 4294967296 = B at *
    rw [wr_id (n := t + A) (by unfold InI; omega), wr_id (n := t + A + B) (by unfold InI; omega)]
  unfold s_lamp_Point s_umbraref27_Point
  simp only [lt]
  by_cases h0 : l.1 = 1
  · rw [if_pos h0, if_pos h0, step _ _ _ a1 b1 c1, step _ _ _ a2 b2 c2, step _ _ _ a3 b3 c3]
  · rw [if_neg h0, if_neg h0]
theorem bright_eq (l : Lt) : s_lamp_Bright l = s_umbraref27_Bright l := by
  unfold s_lamp_Bright s_umbraref27_Bright s_texel_Color s_umbraref25_Color s_texel_Color_1
  simp only [lt]
theorem much_eq {c s : Int} (hc : 0 < c) (hi : InI c) (hs : 0 < s ∧ s ≤ 51539607552) : (if (m64 (IntKind.u64.wrap c) 1048576).1 < IntKind.u64.wrap s then nearV (dvh (m64 (IntKind.u64.wrap c) 1048576).1 (m64 (IntKind.u64.wrap c) 1048576).2 (IntKind.u64.wrap s)).1 false false else nearV 0 false true) = mdN c 1048576 s := by
  unfold InI at hi
  rw [wr_idU (n := c) (by unfold InU; omega), wr_idU (n := s) (by unfold InU; omega)]
  unfold m64 dvh
  simp only
  obtain ⟨P, hP⟩ : ∃ P, P = c * 1048576 := ⟨_, rfl⟩
  rw [← hP]
  have e : wHi P * 18446744073709551616 + wLo P = P := by unfold wHi wLo; omega
  rw [e]
  have em : mdN c 1048576 s = clampI (P / s) := by
    unfold mdN fq
    rw [if_neg (by omega), if_pos (by omega), hP]
  rw [em]
  have q0 := Int.ediv_nonneg (show 0 ≤ P by omega) (show 0 ≤ s by omega)
  by_cases h : wHi P < s
  · rw [if_pos h]
    generalize P / s = Q at *
    unfold nearV clampI
    simp only [Bool.false_or, decide_eq_true_eq]
    repeat' split
    all_goals first | omega | (simp at * <;> omega)
  · rw [if_neg h]
    have hq : 18446744073709551616 ≤ P / s := by
      rw [Int.le_ediv_iff_mul_le (by omega)]
      unfold wHi at h
      omega
    generalize P / s = Q at *
    have en : nearV 0 false true = 9223372036854775807 := by decide
    rw [en]
    unfold clampI
    repeat' split
    all_goals omega
theorem sample_eq (l : Lt) (a n : T3) (draw : Int × Int) (h1 : InU32 draw.1) (h2 : InU32 draw.2) : s_lamp_Sample l a n draw = s_umbraref27_Sample l a n draw := by
  unfold s_lamp_Sample s_umbraref27_Sample
  simp only [lt]
  rw [light_eq l]
  by_cases hl : s_umbraref15_Light l = 0
  · rw [if_pos hl, if_pos hl]
    obtain ⟨-, hc, hn⟩ := light_ok ((light_eq l).trans hl)
    by_cases hf : Far3 a 65536
    · rw [if_neg (show ¬ s_tri_May a (1, 0, 0) = true by rw [may_v, decide_eq_true_eq]; exact fun h => h.1 hf), if_pos (show s_umbraref13_Off a 65536 = true by rw [off_v _ 65536 (by omega), decide_eq_true_eq]; exact hf)]
    · rw [if_pos (show s_tri_May a (1, 0, 0) = true by rw [may_v, decide_eq_true_eq]; exact ⟨hf, by decide, by simp⟩), if_neg (show ¬ s_umbraref13_Off a 65536 = true by rw [off_v _ 65536 (by omega), decide_eq_true_eq]; exact hf)]
      by_cases h0 : l.1 = 2
      · rw [if_pos h0, if_pos h0]
        have hv := far_val (pdir draw.1) a n
        generalize s__umbra_lamp_far__comes (pdir draw.1) a n = q at *
        have hI := vdot_I n (vtow (pdir draw.1))
        generalize vdot n (vtow (pdir draw.1)) = c at *
        have hI' := hI
        unfold InI at hI
        have hb := bright_eq l
        generalize s_lamp_Bright l = B at *
        subst hb
        by_cases hz : c = 0
        · have hs0 : sumF [c, c] = 0 := by subst hz; decide
          rw [if_neg (by omega), hs0] at hv
          subst hv
          rw [if_pos hz, if_pos rfl]
        · rw [if_neg hz]
          by_cases hm : c < 0
          · have hfn : fneg c = satSub 0 c := rfl
            have hpos : 0 < satSub 0 c := by
              unfold satSub clampI
              repeat' split
              all_goals omega
            have hs : ¬ satAdd (satSub 0 c) (satSub 0 c) = 0 := by
              generalize satSub 0 c = k at *
              unfold satAdd clampI
              repeat' split
              all_goals omega
            rw [if_pos hm, hfn, sumF2 (satSub_I 0 c)] at hv
            subst hv
            rw [if_pos hm, if_neg hs]
          · have hs : ¬ satAdd c c = 0 := by
              unfold satAdd clampI
              repeat' split
              all_goals omega
            rw [if_neg hm, sumF2 hI'] at hv
            subst hv
            rw [if_neg hm, if_neg hs]
      · rw [if_neg h0, if_neg h0]
        rw [← point_eq l draw hn h1 h2]
        have hp := point_bd l draw hn h1 h2
        generalize s_lamp_Point l draw = p at *
        have es : s_umbraref20_Sub p a = s_tri_Sub p a := rfl
        have ed : ∀ w, s_umbraref20_Dot w w = s_tri_Dot w w := fun _ => rfl
        simp only [es]
        generalize hdd : s_umbraref20_Dot (s_tri_Sub p a) (s_tri_Sub p a) = D
        rw [ed] at hdd
        have hv := near_val p a n
        obtain ⟨-, hs⟩ := sub_v hp hf
        have hd := dot_v hs
        generalize s__umbra_lamp_near__comes p a n = q at *
        generalize s_tri_Sub p a = w at *
        have hb := bright_eq l
        generalize s_lamp_Bright l = B at *
        subst hb
        rw [hdd] at hv hd
        have hcI := vdot_I n (vtow w)
        generalize vdot n (vtow w) = c at *
        by_cases hw : w = (0, 0, 0)
        · have : D = 0 := by
            rw [← hdd, hw]
            decide
          rw [if_pos hw] at hv
          subst hv
          rw [if_pos rfl, if_pos this]
        · have hd0 : ¬ D = 0 := fun e => hw (hd.2.2.2 e)
          rw [if_neg hd0]
          by_cases hcc : c ≤ 0
          · rw [if_neg hw, if_pos hcc] at hv
            subst hv
            rw [if_pos rfl, if_pos hcc]
          · rw [if_neg hw, if_neg hcc] at hv
            subst hv
            have hmu := much_eq (c := c) (s := D) (by omega) hcI ⟨by omega, hd.2.2.1⟩
            rw [if_neg hw, if_neg hcc]
            simp only
            rw [← hmu]
            split <;> rfl
  · rw [if_neg hl, if_neg hl]
theorem LampSamples_true (l : Lt) (a : T3 × T3 × (Int × Int)) (h1 : InU32 a.2.2.1) (h2 : InU32 a.2.2.2) : s_umbralaw27_LampSamples l a = true := by
  unfold s_umbralaw27_LampSamples
  simp only [lt, works27, if_true, sample_eq l a.1 a.2.1 a.2.2 h1 h2]
  generalize s_umbraref27_Sample l a.1 a.2.1 a.2.2 = r
  obtain ⟨w, b1, b2, g⟩ := r
  cases b1 <;> cases b2 <;> simp
end Go.Proofs.Ytjhnkpapbjkbcaa

namespace Go.Proofs.Ytjhnkpapbjkbcaa
open Go.RowKit
set_option linter.unusedVariables false
set_option linter.unusedSimpArgs false

theorem sq_bd' (x : Int) : 0 ≤ x * x := by
  rcases Int.le_total 0 x with g | g
  · exact Int.mul_nonneg g g
  · exact Int.mul_nonneg_of_nonpos_of_nonpos g g
theorem part_bd {x v R : Int} (hR : 0 < R) (hv : x * 18446744073709551616 / R = v) :
    x * x * 340282366920938463463374607431768211456 - 36893488147419103232 * (R * absU x) ≤ R * R * (v * v) ∧ R * R * (v * v) ≤ x * x * 340282366920938463463374607431768211456 + 36893488147419103232 * (R * absU x) + R * R := by
  have e1 := Int.mul_ediv_add_emod (x * 18446744073709551616) R
  have e2 := Int.emod_nonneg (x * 18446744073709551616) (Int.ne_of_gt hR)
  have e3 := Int.emod_lt_of_pos (x * 18446744073709551616) hR
  rw [hv] at e1
  generalize x * 18446744073709551616 % R = r at *
  have k1 : R * R * (v * v) = (x * 18446744073709551616 - r) * (x * 18446744073709551616 - r) := by
    have : R * v = x * 18446744073709551616 - r := by omega
    rw [← this]; grind
  have k2 : (x * 18446744073709551616 - r) * (x * 18446744073709551616 - r) = x * x * 340282366920938463463374607431768211456 - 36893488147419103232 * (x * r) + r * r := by grind
  have k3 : 0 ≤ r * r := Int.mul_nonneg e2 e2
  have k4 : r * r ≤ R * R := Int.mul_le_mul (by omega) (by omega) e2 (by omega)
  have k5 : -(R * absU x) ≤ x * r ∧ x * r ≤ R * absU x := by
    have ha : 0 ≤ absU x := by unfold absU; split <;> omega
    have h1 : absU x * r ≤ absU x * R := Int.mul_le_mul_of_nonneg_left (by omega) ha
    have h0 : 0 ≤ absU x * r := Int.mul_nonneg ha e2
    rw [Int.mul_comm R]
    by_cases hx : x < 0
    · rw [absU_neg hx] at *
      rw [Int.neg_mul] at h1 h0
      rw [Int.neg_mul] at *
      omega
    · rw [absU_pos (by omega)] at *
      omega
  rw [k1, k2]
  generalize x * r = a at *
  generalize r * r = b at *
  generalize R * R = c at *
  generalize R * absU x = d at *
  generalize x * x = e at *
  omega

theorem near_num {x y z S R u v t : Int} (hS : x * x + y * y + z * z = S) (hS1 : 1 ≤ S) (hS2 : S ≤ 4611686018427387903) (hR : IsRoot (S * 18446744073709551616) R)
    (hu : x * 18446744073709551616 / R = u) (hv : y * 18446744073709551616 / R = v) (ht : z * 18446744073709551616 / R = t) :
    18446744056529682428 ≤ u * u + v * v + t * t ∧ u * u + v * v + t * t ≤ 18446744099479355401 := by
  obtain ⟨r0, r1, r2⟩ := hR
  have hR32 : 4294967296 ≤ R := by
    rcases Int.lt_or_le R 4294967296 with g | g
    · have := sq_mono (a := R + 1) (b := 4294967296) (by omega) (by omega)
      omega
    · exact g
  obtain ⟨a1, a2⟩ := part_bd (by omega) hu
  obtain ⟨b1, b2⟩ := part_bd (by omega) hv
  obtain ⟨c1, c2⟩ := part_bd (by omega) ht
  -- the sum of the sizes
  have ha : 0 ≤ absU x := by unfold absU; split <;> omega
  have hb : 0 ≤ absU y := by unfold absU; split <;> omega
  have hc : 0 ≤ absU z := by unfold absU; split <;> omega
  have ea : absU x * absU x = x * x := absU_mul_pos Iff.rfl
  have eb : absU y * absU y = y * y := absU_mul_pos Iff.rfl
  have ec : absU z * absU z = z * z := absU_mul_pos Iff.rfl
  have hsum : (absU x + absU y + absU z) * 4294967296 ≤ 2 * (R + 1) := by
    generalize absU x = X at *
    generalize absU y = Y at *
    generalize absU z = Z at *
    rcases Int.lt_or_le (2 * (R + 1)) ((X + Y + Z) * 4294967296) with g | g
    · exfalso
      have h3 : (X + Y + Z) * (X + Y + Z) ≤ 3 * (X * X + Y * Y + Z * Z) := by
        have q1 : 0 ≤ (X - Y) * (X - Y) := by have := (sq_bd' (X - Y)); exact this
        have q2 : 0 ≤ (Y - Z) * (Y - Z) := by have := (sq_bd' (Y - Z)); exact this
        have q3 : 0 ≤ (X - Z) * (X - Z) := by have := (sq_bd' (X - Z)); exact this
        grind
      have h4 := sq_mono (a := 2 * (R + 1)) (b := (X + Y + Z) * 4294967296) (by omega) (by omega)
      have h5 : ((X + Y + Z) * 4294967296) * ((X + Y + Z) * 4294967296) = (X + Y + Z) * (X + Y + Z) * 18446744073709551616 := by grind
      have h6 : 2 * (R + 1) * (2 * (R + 1)) = 4 * ((R + 1) * (R + 1)) := by grind
      rw [h5, h6] at h4
      have h7 : 0 ≤ (R + 1) * (R + 1) := sq_bd' _
      omega
    · exact g
  have hprod : R * (absU x + absU y + absU z) * 4294967296 ≤ 2 * (R * R) + 2 * R := by
    have := Int.mul_le_mul_of_nonneg_left hsum (show 0 ≤ R by omega)
    have e1 : R * ((absU x + absU y + absU z) * 4294967296) = R * (absU x + absU y + absU z) * 4294967296 := by grind
    have e2 : R * (2 * (R + 1)) = 2 * (R * R) + 2 * R := by grind
    rw [e1, e2] at this
    exact this
  have hprod2 : R * (absU x + absU y + absU z) = R * absU x + R * absU y + R * absU z := by grind
  rw [hprod2] at hprod
  have hT : R * R * (u * u + v * v + t * t) = R * R * (u * u) + R * R * (v * v) + R * R * (t * t) := by grind
  have hRR : 4294967296 * R ≤ R * R := Int.mul_le_mul_of_nonneg_right hR32 (by omega)
  have hR1 : (R + 1) * (R + 1) = R * R + 2 * R + 1 := by grind
  rw [hR1] at r2
  obtain ⟨T, eT⟩ : ∃ T, u * u + v * v + t * t = T := ⟨_, rfl⟩
  rw [eT] at hT ⊢
  have hlo : R * R * 18446744056529682428 ≤ R * R * T := by
    rw [hT]
    generalize R * R * (u * u) = U at *
    generalize R * R * (v * v) = V at *
    generalize R * R * (t * t) = W at *
    generalize R * absU x = A at *
    generalize R * absU y = B at *
    generalize R * absU z = C at *
    generalize R * R = P at *
    generalize x * x = D at *
    generalize y * y = E at *
    generalize z * z = F at *
    omega
  have hhi : R * R * T ≤ R * R * 18446744099479355401 := by
    rw [hT]
    generalize R * R * (u * u) = U at *
    generalize R * R * (v * v) = V at *
    generalize R * R * (t * t) = W at *
    generalize R * absU x = A at *
    generalize R * absU y = B at *
    generalize R * absU z = C at *
    generalize R * R = P at *
    generalize x * x = D at *
    generalize y * y = E at *
    generalize z * z = F at *
    omega
  have hP : 0 < R * R := Int.mul_pos (by omega) (by omega)
  exact ⟨Int.le_of_mul_le_mul_left hlo hP, Int.le_of_mul_le_mul_left hhi hP⟩

theorem clip_zero {n : Int} (h : clip n = 0) : n = 0 := by unfold clip at h; omega
theorem near_bd {p : T3} (h : p ≠ zero3) : 4294967288 ≤ vlen (vtow p) ∧ vlen (vtow p) ≤ 4294967304 := by
  have h0 := clip_sq (clip_bd p.1)
  have h1 := clip_sq (clip_bd p.2.1)
  have h2 := clip_sq (clip_bd p.2.2)
  obtain ⟨S, hS⟩ : ∃ S, clip p.1 * clip p.1 + clip p.2.1 * clip p.2.1 + clip p.2.2 * clip p.2.2 = S := ⟨_, rfl⟩
  have hS1 : 1 ≤ S := by
    rcases Int.lt_or_le S 1 with g | g
    · exfalso
      apply h
      have e0 := clip_zero (sq_zero (x := clip p.1) (by omega))
      have e1 := clip_zero (sq_zero (x := clip p.2.1) (by omega))
      have e2 := clip_zero (sq_zero (x := clip p.2.2) (by omega))
      obtain ⟨a, b, c⟩ := p
      simp at e0 e1 e2
      subst e0 e1 e2
      rfl
    · exact g
  have hr := (sqN_root (x := S * 18446744073709551616) (by omega) (by omega)).1
  have eR : sqN (S * 18446744073709551616) = vroot p := by rw [← hS]; rfl
  rw [eR] at hr
  have hn := near_num hS hS1 (by omega) hr rfl rfl rfl
  have hz : vroot p ≠ 0 := by
    intro e
    rw [e] at hr
    have := hr.2.2
    omega
  have ev : vtow p = (clip p.1 * 18446744073709551616 / vroot p, clip p.2.1 * 18446744073709551616 / vroot p, clip p.2.2 * 18446744073709551616 / vroot p) := by unfold vtow; rw [if_neg hz]
  have eT : vT (vtow p) = clip p.1 * 18446744073709551616 / vroot p * (clip p.1 * 18446744073709551616 / vroot p) + clip p.2.1 * 18446744073709551616 / vroot p * (clip p.2.1 * 18446744073709551616 / vroot p) + clip p.2.2 * 18446744073709551616 / vroot p * (clip p.2.2 * 18446744073709551616 / vroot p) := by rw [ev]; rfl
  rw [← eT] at hn
  unfold vlen
  rw [if_neg (by omega)]
  obtain ⟨⟨r0, r1, r2⟩, -⟩ := sqN_root (x := vT (vtow p)) (by omega) (by omega)
  generalize sqN (vT (vtow p)) = r at *
  generalize vT (vtow p) = T at *
  constructor
  · rcases Int.lt_or_le r 4294967288 with g | g
    · have := sq_mono (a := r + 1) (b := 4294967288) (by omega) (by omega)
      omega
    · exact g
  · rcases Int.lt_or_le 4294967304 r with g | g
    · have := sq_mono (a := 4294967305) (b := r) (by omega) (by omega)
      omega
    · exact g

end Go.Proofs.Ytjhnkpapbjkbcaa

namespace Go.Proofs.Ytjhnkpapbjkbcaa
open Go.RowKit Go.Sort
set_option linter.unusedVariables false
set_option linter.unusedSimpArgs false

theorem sq_nnn (a : Int) : 0 ≤ a * a := by
  rcases Int.le_total 0 a with h | h
  · exact Int.mul_nonneg h h
  · exact Int.mul_nonneg_of_nonpos_of_nonpos h h
theorem root2 {S R R' : Int} (h0 : 0 ≤ S) (hR : IsRoot S R) (hR' : IsRoot (4 * S) R') : 2 * R ≤ R' ∧ R' ≤ 2 * R + 1 := by
  obtain ⟨r0, r1, r2⟩ := hR
  obtain ⟨s0, s1, s2⟩ := hR'
  have e1 : (2 * R) * (2 * R) = 4 * (R * R) := by grind
  have e2 : (2 * R + 2) * (2 * R + 2) = 4 * ((R + 1) * (R + 1)) := by grind
  constructor
  · rcases Int.lt_or_le R' (2 * R) with g | g
    · have := sq_mono (a := R' + 1) (b := 2 * R) (by omega) (by omega)
      omega
    · exact g
  · rcases Int.lt_or_le (2 * R + 1) R' with g | g
    · have := sq_mono (a := 2 * R + 2) (b := R') (by omega) (by omega)
      omega
    · exact g
theorem part2 {x R R' : Int} (hR : 4294967296 ≤ R) (h1 : 2 * R ≤ R') (h2 : R' ≤ 2 * R + 1) (hq : -4294967296 ≤ 2 * x * 18446744073709551616 / R' ∧ 2 * x * 18446744073709551616 / R' ≤ 4294967296) : -2 ≤ 2 * x * 18446744073709551616 / R' - x * 18446744073709551616 / R ∧ 2 * x * 18446744073709551616 / R' - x * 18446744073709551616 / R ≤ 2 := by
  have a1 := Int.ediv_mul_le (2 * x * 18446744073709551616) (show R' ≠ 0 by omega)
  have a2 := Int.lt_ediv_add_one_mul_self (2 * x * 18446744073709551616) (show 0 < R' by omega)
  have b1 := Int.ediv_mul_le (x * 18446744073709551616) (show R ≠ 0 by omega)
  have b2 := Int.lt_ediv_add_one_mul_self (x * 18446744073709551616) (show 0 < R by omega)
  generalize 2 * x * 18446744073709551616 / R' = n' at *
  generalize x * 18446744073709551616 / R = n at *
  rw [Int.add_mul] at a2 b2
  have hd : R * (n' - n) = n' * R - n * R := by grind
  rcases (show R' = 2 * R ∨ R' = 2 * R + 1 by omega) with e | e
  · subst e
    have e1 : n' * (2 * R) = 2 * (n' * R) := by grind
    rw [e1] at a1 a2
    constructor
    · have := Int.lt_of_mul_lt_mul_left (show R * (-2) < R * (n' - n) by omega) (by omega)
      omega
    · have := Int.lt_of_mul_lt_mul_left (show R * (n' - n) < R * 2 by omega) (by omega)
      omega
  · subst e
    have e1 : n' * (2 * R + 1) = 2 * (n' * R) + n' := by grind
    rw [e1] at a1 a2
    constructor
    · have := Int.lt_of_mul_lt_mul_left (show R * (-3) < R * (n' - n) by omega) (by omega)
      omega
    · have := Int.lt_of_mul_lt_mul_left (show R * (n' - n) < R * 3 by omega) (by omega)
      omega
def dbl (p : T3) : T3 := (2 * p.1, 2 * p.2.1, 2 * p.2.2)
theorem vtow_dbl (p : T3) (h : ¬ Far3 p 8191) (hz : p ≠ zero3) : (-2 ≤ (vtow (dbl p)).1 - (vtow p).1 ∧ (vtow (dbl p)).1 - (vtow p).1 ≤ 2) ∧ (-2 ≤ (vtow (dbl p)).2.1 - (vtow p).2.1 ∧ (vtow (dbl p)).2.1 - (vtow p).2.1 ≤ 2) ∧ (-2 ≤ (vtow (dbl p)).2.2 - (vtow p).2.2 ∧ (vtow (dbl p)).2.2 - (vtow p).2.2 ≤ 2) := by
  have h3 := near3 h
  have c : ∀ x : Int, -8191 ≤ x ∧ x ≤ 8191 → clip x = x ∧ clip (2 * x) = 2 * x := by intro x hx; unfold clip; omega
  obtain ⟨c1, c2, c3⟩ : (clip p.1 = p.1 ∧ clip (2 * p.1) = 2 * p.1) ∧ (clip p.2.1 = p.2.1 ∧ clip (2 * p.2.1) = 2 * p.2.1) ∧ (clip p.2.2 = p.2.2 ∧ clip (2 * p.2.2) = 2 * p.2.2) := ⟨c _ h3.1, c _ h3.2.1, c _ h3.2.2⟩
  have hd := vtow_bd (dbl p)
  have s1 := sq_nnn p.1; have s2 := sq_nnn p.2.1; have s3 := sq_nnn p.2.2
  obtain ⟨S, hS⟩ : ∃ S, S = p.1 * p.1 + p.2.1 * p.2.1 + p.2.2 * p.2.2 := ⟨_, rfl⟩
  have hS1 : 1 ≤ S := by
    rcases Int.lt_or_le S 1 with g | g
    · exfalso
      apply hz
      have z1 : p.1 * p.1 = 0 := by omega
      have z2 : p.2.1 * p.2.1 = 0 := by omega
      have z3 : p.2.2 * p.2.2 = 0 := by omega
      have e1 := (Int.mul_eq_zero.1 z1).elim id id
      have e2 := (Int.mul_eq_zero.1 z2).elim id id
      have e3 := (Int.mul_eq_zero.1 z3).elim id id
      exact Prod.ext e1 (Prod.ext e2 e3)
    · exact g
  have q : ∀ x : Int, -8191 ≤ x ∧ x ≤ 8191 → x * x ≤ 67092481 := by
    intro x hx
    rcases Int.le_total 0 x with g | g
    · exact Int.mul_le_mul hx.2 hx.2 g (by omega)
    · have := Int.mul_le_mul (show -x ≤ 8191 by omega) (show -x ≤ 8191 by omega) (show 0 ≤ -x by omega) (by omega)
      rw [Int.neg_mul_neg] at this
      exact this
  have q1 := q _ h3.1; have q2 := q _ h3.2.1; have q3 := q _ h3.2.2
  have hr : vroot p = sqN (S * 18446744073709551616) := by unfold vroot; rw [c1.1, c2.1, c3.1, hS]
  have hr' : vroot (dbl p) = sqN (4 * (S * 18446744073709551616)) := by
    unfold vroot dbl
    simp only [c1.2, c2.2, c3.2]
    congr 1
    rw [hS]
    grind
  obtain ⟨k1, -⟩ := sqN_root (x := S * 18446744073709551616) (by omega) (by omega)
  obtain ⟨k2, -⟩ := sqN_root (x := 4 * (S * 18446744073709551616)) (by omega) (by omega)
  rw [← hr] at k1
  rw [← hr'] at k2
  obtain ⟨m1, m2⟩ := root2 (by omega) k1 k2
  have hR : 4294967296 ≤ vroot p := by
    obtain ⟨r0, r1, r2⟩ := k1
    rcases Int.lt_or_le (vroot p) 4294967296 with g | g
    · have := sq_mono (a := vroot p + 1) (b := 4294967296) (by omega) (by omega)
      omega
    · exact g
  have ev : vtow p = (p.1 * 18446744073709551616 / vroot p, p.2.1 * 18446744073709551616 / vroot p, p.2.2 * 18446744073709551616 / vroot p) := by
    unfold vtow
    rw [if_neg (by omega), c1.1, c2.1, c3.1]
  have ev' : vtow (dbl p) = (2 * p.1 * 18446744073709551616 / vroot (dbl p), 2 * p.2.1 * 18446744073709551616 / vroot (dbl p), 2 * p.2.2 * 18446744073709551616 / vroot (dbl p)) := by
    unfold vtow
    rw [if_neg (by omega)]
    show (clip (2 * p.1) * _ / _, clip (2 * p.2.1) * _ / _, clip (2 * p.2.2) * _ / _) = _
    rw [c1.2, c2.2, c3.2]
  rw [ev'] at hd ⊢
  rw [ev]
  simp only at hd ⊢
  exact ⟨part2 hR m1 m2 hd.1, part2 hR m1 m2 hd.2.1, part2 hR m1 m2 hd.2.2⟩
/-- A quarter, but for what is rounded. -/
theorem quarter {c c' s k A B : Int} (hc : 4294967200 ≤ c ∧ c ≤ 4294967320) (hc' : 4294967200 ≤ c' ∧ c' ≤ 4294967320) (hs : 1 ≤ s) (hk : 0 ≤ k ∧ k ≤ 1048576)
    (hA : A = c * 1048576 / s) (hB : B = c' * 1048576 / (4 * s)) :
    0 ≤ k * A ∧ 0 ≤ k * B ∧ k * A ≤ 1048576 * 4503599741894656 ∧ k * B ≤ 1048576 * 4503599741894656 ∧
    (-(k * A / 65536 / 1024 + 4096) ≤ k * A / 65536 / 4 - k * B / 65536 ∧ k * A / 65536 / 4 - k * B / 65536 ≤ k * A / 65536 / 1024 + 4096) := by
  have a1 := Int.ediv_mul_le (c * 1048576) (show s ≠ 0 by omega)
  have a2 := Int.lt_ediv_add_one_mul_self (c * 1048576) (show 0 < s by omega)
  have b1 := Int.ediv_mul_le (c' * 1048576) (show 4 * s ≠ 0 by omega)
  have b2 := Int.lt_ediv_add_one_mul_self (c' * 1048576) (show 0 < 4 * s by omega)
  have A0 := Int.ediv_nonneg (show 0 ≤ c * 1048576 by omega) (show 0 ≤ s by omega)
  have B0 := Int.ediv_nonneg (show 0 ≤ c' * 1048576 by omega) (show 0 ≤ 4 * s by omega)
  have A1 := Int.ediv_le_self s (show 0 ≤ c * 1048576 by omega)
  have B1 := Int.ediv_le_self (4 * s) (show 0 ≤ c' * 1048576 by omega)
  rw [← hA] at a1 a2 A0 A1
  rw [← hB] at b1 b2 B0 B1
  clear hA hB
  have e1 : B * (4 * s) = 4 * (B * s) := by grind
  have e2 : (B + 1) * (4 * s) = 4 * (B * s) + 4 * s := by grind
  have e3 : (A + 1) * s = A * s + s := by grind
  rw [e1] at b1
  rw [e2] at b2
  rw [e3] at a2
  have u1 : s * (1048576 * (A - 4 * B)) = 1048576 * (A * s) - 4194304 * (B * s) := by grind
  have u2 : s * (A + 1 + 8388608) = A * s + s + 8388608 * s := by grind
  have d1 : 1048576 * (A - 4 * B) ≤ A + 1 + 8388608 := by
    have : s * (1048576 * (A - 4 * B)) ≤ s * (A + 1 + 8388608) := by omega
    exact Int.le_of_mul_le_mul_left this (by omega)
  have d2 : -(A + 1 + 8388608) ≤ 1048576 * (A - 4 * B) := by
    have e : s * -(A + 1 + 8388608) = -(A * s + s + 8388608 * s) := by grind
    have : s * -(A + 1 + 8388608) ≤ s * (1048576 * (A - 4 * B)) := by omega
    exact Int.le_of_mul_le_mul_left this (by omega)
  have kA := Int.mul_nonneg hk.1 A0
  have kB := Int.mul_nonneg hk.1 B0
  have m1 := Int.mul_le_mul_of_nonneg_left d1 hk.1
  have m2 := Int.mul_le_mul_of_nonneg_left d2 hk.1
  have e4 : k * (1048576 * (A - 4 * B)) = 1048576 * (k * A) - 4194304 * (k * B) := by grind
  have e5 : k * (A + 1 + 8388608) = k * A + 8388609 * k := by grind
  have e6 : k * -(A + 1 + 8388608) = -(k * A + 8388609 * k) := by grind
  rw [e4, e5] at m1
  rw [e4, e6] at m2
  have n1 := Int.mul_le_mul hk.2 (show A ≤ 4503599741894656 by omega) A0 (by omega)
  have n2 := Int.mul_le_mul hk.2 (show B ≤ 4503599741894656 by omega) B0 (by omega)
  generalize k * A = X at *
  generalize k * B = Y at *
  refine ⟨kA, kB, n1, n2, ?_, ?_⟩
  · omega
  · omega
end Go.Proofs.Ytjhnkpapbjkbcaa

namespace Go.Proofs.Ytjhnkpapbjkbcaa
open Go.RowKit Go.Sort
set_option linter.unusedVariables false
set_option linter.unusedSimpArgs false

def nn (v : T3) : Int := v.1 * v.1 + v.2.1 * v.2.1 + v.2.2 * v.2.2
theorem nn_bd {p : T3} (h : p ≠ zero3) : 4294967288 * 4294967288 ≤ nn (vtow p) ∧ nn (vtow p) < 4294967305 * 4294967305 := by
  have hn := near_bd h
  have hB := vtow_bd p
  have e : vT (vtow p) = nn (vtow p) := rfl
  unfold vlen at hn
  rw [e] at hn
  generalize vtow p = v at *
  have q0 : 0 ≤ nn v := by
    unfold nn
    have := sq_nnn v.1; have := sq_nnn v.2.1; have := sq_nnn v.2.2
    omega
  by_cases hb : 85070591730234615865843651857942052864 ≤ nn v
  · rw [if_pos hb] at hn; omega
  · rw [if_neg hb] at hn
    obtain ⟨⟨r0, r1, r2⟩, -⟩ := sqN_root (x := nn v) q0 (by omega)
    generalize sqN (nn v) = r at *
    have s1 := sq_mono (a := 4294967288) (b := r) (by omega) (by omega)
    have s2 := sq_mono (a := r + 1) (b := 4294967305) (by omega) (by omega)
    omega
theorem color_v {k : Int} (h : 0 ≤ k ∧ k ≤ 1048576) : s_texel_Color_1 65536 k = k * 65536 := by
  unfold s_texel_Color_1
  simp only [lt]
  have e : fof 65536 = 281474976710656 := by decide
  rw [e]
  unfold fof
  rw [clampI_v (by omega)]
  unfold fdiv fq
  rw [if_neg (by omega), if_pos (by omega), show k * 4294967296 * 4294967296 / 281474976710656 = k * 65536 by omega]
  exact clampI_v (by omega)
theorem gain_v {k A : Int} (h : 0 ≤ k ∧ k ≤ 1048576) (h0 : 0 ≤ k * A) (h1 : k * A ≤ 1048576 * 4503599741894656) : fmul (s_texel_Color_1 65536 k) A = k * A / 65536 := by
  rw [color_v h]
  unfold fmul
  have e : k * 65536 * A = 65536 * (k * A) := by grind
  rw [e]
  generalize k * A = X at *
  rw [show 65536 * X / 4294967296 = X / 65536 by omega]
  exact clampI_v (by omega)
theorem far_c {P Q : Int} (hP : 0 ≤ P ∧ P ≤ 144115188075855872) (hQ : 0 ≤ Q ∧ Q ≤ 144115188075855872) (h : -(P / 1024 + 4096) ≤ P / 4 - Q ∧ P / 4 - Q ≤ P / 1024 + 4096) : ¬ fabs (IntKind.i64.wrap (IntKind.i64.wrap (Int.tdiv P 4) - Q)) > IntKind.i64.wrap (Int.fdiv P (2 ^ 10) + 4096) := by
  rw [Int.tdiv_eq_ediv_of_nonneg hP.1, Int.fdiv_eq_ediv_of_nonneg _ (by decide), show (2 : Int) ^ 10 = 1024 by decide]
  rw [wr_id (n := P / 4) (by unfold InI; omega), wr_id (n := P / 4 - Q) (by unfold InI; omega), wr_id (n := P / 1024 + 4096) (by unfold InI; omega), fabs_val (by unfold InI; omega)]
  split <;> (try split) <;> omega
theorem sample0 (col a n w : T3) (ha : ¬ Far3 a 65536) (hw : s_tri_Sub (0, 0, 0) a = w) : s_lamp_Sample (0, col, (0, 0, 0), (0, 0, 0), (0, 0, 0)) a n (0, 0) = ((0, 0, 0), false, true, (0, 0, 0)) ∨
    (s_asset_Light (0, col, (0, 0, 0), (0, 0, 0), (0, 0, 0)) = 0 ∧ w ≠ (0, 0, 0) ∧ 0 < vdot n (vtow w) ∧ s_lamp_Sample (0, col, (0, 0, 0), (0, 0, 0), (0, 0, 0)) a n (0, 0) = (w, false, false, vscale (s_lamp_Bright (0, col, (0, 0, 0), (0, 0, 0), (0, 0, 0))) (mdN (vdot n (vtow w)) 1048576 (s_tri_Dot w w)))) := by
  unfold s_lamp_Sample
  simp only [lt]
  by_cases hl : s_asset_Light (0, col, (0, 0, 0), (0, 0, 0), (0, 0, 0)) = 0
  · rw [if_pos hl, if_pos (show s_tri_May a (1, 0, 0) = true by rw [may_v, decide_eq_true_eq]; exact ⟨ha, by decide, by simp⟩), if_neg (show ¬ (0 : Int) = 2 by decide)]
    have hp : s_lamp_Point (0, col, (0, 0, 0), (0, 0, 0), (0, 0, 0)) (0, 0) = (0, 0, 0) := by
      unfold s_lamp_Point
      rw [if_neg (show ¬ (0 : Int) = 1 by decide)]
    rw [hp]
    have hv := near_val (0, 0, 0) a n
    rw [hw] at hv
    generalize s__umbra_lamp_near__comes (0, 0, 0) a n = q at *
    by_cases h0 : w = (0, 0, 0)
    · rw [if_pos h0] at hv
      subst hv
      rw [if_pos rfl]
      exact .inl rfl
    · by_cases hc : vdot n (vtow w) ≤ 0
      · rw [if_neg h0, if_pos hc] at hv
        subst hv
        rw [if_pos rfl]
        exact .inl rfl
      · rw [if_neg h0, if_neg hc] at hv
        subst hv
        rw [if_neg h0]
        exact .inr ⟨hl, h0, by omega, rfl⟩
  · rw [if_neg hl]
    exact .inl rfl
theorem sub_neg {w : T3} (h : ¬ Far3 w 16382) : s_tri_Sub (0, 0, 0) w = neg3 w ∧ s_tri_Sub (0, 0, 0) (neg3 w) = w ∧ ¬ Far3 (neg3 w) 65536 := by
  have h3 := near3 h
  refine ⟨?_, ?_, ?_⟩
  · unfold s_tri_Sub neg3
    simp only [lt]
    rw [wr_id (n := 0 - w.1) (by unfold InI; omega), wr_id (n := 0 - w.2.1) (by unfold InI; omega), wr_id (n := 0 - w.2.2) (by unfold InI; omega), Int.zero_sub, Int.zero_sub, Int.zero_sub]
  · unfold s_tri_Sub neg3
    simp only [lt]
    rw [wr_id (n := 0 - -w.1) (by unfold InI; omega), wr_id (n := 0 - -w.2.1) (by unfold InI; omega), wr_id (n := 0 - -w.2.2) (by unfold InI; omega)]
    rw [show 0 - -w.1 = w.1 by omega, show 0 - -w.2.1 = w.2.1 by omega, show 0 - -w.2.2 = w.2.2 by omega]
  · unfold Far3 neg3
    simp only
    omega
theorem far_num (w : T3) (h : ¬ Far3 w 8191) (hz : w ≠ zero3) : (4294967200 ≤ vdot (vtow w) (vtow w) ∧ vdot (vtow w) (vtow w) ≤ 4294967320) ∧ (4294967200 ≤ vdot (vtow w) (vtow (dbl w)) ∧ vdot (vtow w) (vtow (dbl w)) ≤ 4294967320) := by
  obtain ⟨v1, v2, v3⟩ := vtow_B w
  obtain ⟨u1, u2, u3⟩ := vtow_B (dbl w)
  have hn := nn_bd hz
  obtain ⟨d1, d2, d3⟩ := vtow_dbl w h hz
  unfold nn at hn
  rw [vdot_small v1 v2 v3 v1 v2 v3, vdot_small v1 v2 v3 u1 u2 u3]
  have step : ∀ x y : Int, InB x → (-2 ≤ y - x ∧ y - x ≤ 2) → x * x - 8589934592 ≤ x * y ∧ x * y ≤ x * x + 8589934592 := by
    intro x y hx hd
    unfold InB at hx
    rcases (show y = x - 2 ∨ y = x - 1 ∨ y = x ∨ y = x + 1 ∨ y = x + 2 by omega) with e | e | e | e | e <;> subst e <;> (try simp only [Int.mul_sub, Int.mul_add]) <;> omega
  have s1 := step _ _ v1 d1
  have s2 := step _ _ v2 d2
  have s3 := step _ _ v3 d3
  omega
theorem md_small {c s : Int} (hc : 4294967200 ≤ c ∧ c ≤ 4294967320) (hs : 1 ≤ s) : mdN c 1048576 s = c * 1048576 / s := by
  have A0 := Int.ediv_nonneg (show 0 ≤ c * 1048576 by omega) (show 0 ≤ s by omega)
  have A1 := Int.ediv_le_self s (show 0 ≤ c * 1048576 by omega)
  unfold mdN fq
  rw [if_neg (by omega), if_pos (by omega)]
  exact clampI_v (by omega)
theorem LampFar_true (l : Lt) (way : T3) : s_umbralaw27_LampFar l way = true := by
  unfold s_umbralaw27_LampFar
  simp only [lt, works27, if_true]
  have tm : ∀ a : Int, -8191 ≤ Int.tmod a 8192 ∧ Int.tmod a 8192 ≤ 8191 := by
    intro a
    rcases Int.le_total 0 a with g | g
    · rw [Int.tmod_eq_emod_of_nonneg g]; omega
    · have e : Int.tmod a 8192 = -(Int.tmod (-a) 8192) := by rw [Int.neg_tmod, Int.neg_neg]
      rw [e, Int.tmod_eq_emod_of_nonneg (show 0 ≤ -a by omega)]; omega
  have hx := tm way.1; have hy := tm way.2.1; have hz := tm way.2.2
  generalize Int.tmod way.1 8192 = x at *
  generalize Int.tmod way.2.1 8192 = y at *
  generalize Int.tmod way.2.2 8192 = z at *
  obtain ⟨r1, hr1⟩ : ∃ r, s_lamp_Sample (0, l.2.1, (0, 0, 0), (0, 0, 0), (0, 0, 0)) (s_tri_Sub (0, 0, 0) (x, y, z)) (vtow (x, y, z)) (0, 0) = r := ⟨_, rfl⟩
  obtain ⟨r2, hr2⟩ : ∃ r, s_lamp_Sample (0, l.2.1, (0, 0, 0), (0, 0, 0), (0, 0, 0)) (s_tri_Sub (0, 0, 0) (IntKind.i64.wrap (2 * x), IntKind.i64.wrap (2 * y), IntKind.i64.wrap (2 * z))) (vtow (x, y, z)) (0, 0) = r := ⟨_, rfl⟩
  rw [hr1, hr2]
  rw [wr_id (n := 2 * x) (by unfold InI; omega), wr_id (n := 2 * y) (by unfold InI; omega), wr_id (n := 2 * z) (by unfold InI; omega)] at hr2
  have hw : ¬ Far3 (x, y, z) 8191 := by unfold Far3; simp only; omega
  have hw' : ¬ Far3 (x, y, z) 16382 := by unfold Far3; simp only; omega
  have hw2 : ¬ Far3 (dbl (x, y, z)) 16382 := by unfold Far3 dbl; simp only; omega
  obtain ⟨a1, a2, a3⟩ := sub_neg hw'
  obtain ⟨b1, b2, b3⟩ := sub_neg hw2
  have ed : (2 * x, 2 * y, 2 * z) = dbl (x, y, z) := rfl
  rw [a1] at hr1
  rw [ed, b1] at hr2
  have S1 := sample0 l.2.1 (neg3 (x, y, z)) (vtow (x, y, z)) _ a3 a2
  have S2 := sample0 l.2.1 (neg3 (dbl (x, y, z))) (vtow (x, y, z)) _ b3 b2
  rw [hr1] at S1
  rw [hr2] at S2
  clear hr1 hr2
  rcases S1 with e | ⟨hl, hne, hc, e⟩
  · subst e
    simp
  · rcases S2 with e2 | ⟨-, -, hc2, e2⟩
    · subst e e2
      simp
    · obtain ⟨-, ⟨k1, k2, k3⟩, -⟩ := light_ok hl
      simp only at k1 k2 k3
      obtain ⟨n1, n2⟩ := far_num (x, y, z) hw hne
      have hf1 : ¬ Far3 (x, y, z) 131072 := by unfold Far3; simp only; omega
      have hf2 : ¬ Far3 (dbl (x, y, z)) 131072 := by unfold Far3 dbl; simp only; omega
      obtain ⟨q1, q2, q3, q4⟩ := dot_v hf1
      obtain ⟨p1, p2, p3, p4⟩ := dot_v hf2
      have hs : 1 ≤ s_tri_Dot (x, y, z) (x, y, z) := by
        rcases Int.lt_or_le (s_tri_Dot (x, y, z) (x, y, z)) 1 with g | g
        · exact absurd (q4 (by omega)) hne
        · exact g
      have h4 : s_tri_Dot (dbl (x, y, z)) (dbl (x, y, z)) = 4 * s_tri_Dot (x, y, z) (x, y, z) := by
        rw [p1, q1]
        unfold dbl
        simp only
        grind
      rw [h4] at e2
      rw [md_small n1 hs] at e
      rw [md_small n2 (by omega)] at e2
      have Q := fun k hk => quarter (k := k) n1 n2 hs hk rfl rfl
      generalize vdot (vtow (x, y, z)) (vtow (x, y, z)) * 1048576 / s_tri_Dot (x, y, z) (x, y, z) = A at *
      generalize vdot (vtow (x, y, z)) (vtow (dbl (x, y, z))) * 1048576 / (4 * s_tri_Dot (x, y, z) (x, y, z)) = B at *
      obtain ⟨c1, c2, c3, c4, c5⟩ := Q _ k1
      obtain ⟨d1, d2, d3, d4, d5⟩ := Q _ k2
      obtain ⟨f1, f2, f3, f4, f5⟩ := Q _ k3
      have g1 : vscale (s_lamp_Bright (0, l.2.1, (0, 0, 0), (0, 0, 0), (0, 0, 0))) A = (l.2.1.1 * A / 65536, l.2.1.2.1 * A / 65536, l.2.1.2.2 * A / 65536) := by
        show (fmul (s_texel_Color_1 65536 l.2.1.1) A, fmul (s_texel_Color_1 65536 l.2.1.2.1) A, fmul (s_texel_Color_1 65536 l.2.1.2.2) A) = _
        rw [gain_v k1 c1 c3, gain_v k2 d1 d3, gain_v k3 f1 f3]
      have g2 : vscale (s_lamp_Bright (0, l.2.1, (0, 0, 0), (0, 0, 0), (0, 0, 0))) B = (l.2.1.1 * B / 65536, l.2.1.2.1 * B / 65536, l.2.1.2.2 * B / 65536) := by
        show (fmul (s_texel_Color_1 65536 l.2.1.1) B, fmul (s_texel_Color_1 65536 l.2.1.2.1) B, fmul (s_texel_Color_1 65536 l.2.1.2.2) B) = _
        rw [gain_v k1 c2 c4, gain_v k2 d2 d4, gain_v k3 f2 f4]
      rw [g1] at e
      rw [g2] at e2
      have t1 := far_c (P := l.2.1.1 * A / 65536) (Q := l.2.1.1 * B / 65536) (by omega) (by omega) c5
      have t2 := far_c (P := l.2.1.2.1 * A / 65536) (Q := l.2.1.2.1 * B / 65536) (by omega) (by omega) d5
      have t3 := far_c (P := l.2.1.2.2 * A / 65536) (Q := l.2.1.2.2 * B / 65536) (by omega) (by omega) f5
      subst e e2
      simp only
      rw [if_neg Bool.false_ne_true, if_neg Bool.false_ne_true, if_neg Bool.false_ne_true, if_neg Bool.false_ne_true]
      rw [if_neg (show ¬ l.2.1.1 * A / 65536 ≥ 1152921504606846976 by omega), if_neg t1, if_neg (show ¬ l.2.1.2.1 * A / 65536 ≥ 1152921504606846976 by omega), if_neg t2, if_neg (show ¬ l.2.1.2.2 * A / 65536 ≥ 1152921504606846976 by omega), if_neg t3]
end Go.Proofs.Ytjhnkpapbjkbcaa

namespace Go.Proofs.Ytjhnkpapbjkbcaa
open Go.RowKit Go.Sort
set_option linter.unusedVariables false
set_option linter.unusedSimpArgs false

theorem lawLampFar (ns0 : List Int) (h0 : Al2 Fits [.i64, .i64, .i64, .i64, .i64, .i64, .i64, .i64, .i64, .i64, .i64, .i64, .i64] ns0) (ns1 : List Int) (h1 : Al2 Fits [.i64, .i64, .i64] ns1) (w : World) : Calls Try.prog 12 #[.agg (vals [.i64, .i64, .i64, .i64, .i64, .i64, .i64, .i64, .i64, .i64, .i64, .i64, .i64] ns0).toArray, .agg (vals [.i64, .i64, .i64] ns1).toArray] w (Ret (.bool true) w) := by
  obtain ⟨b0_0, l0_0, rfl, f0_0, h0⟩ := al2_cons h0
  obtain ⟨b0_1, l0_1, rfl, f0_1, h0⟩ := al2_cons h0
  obtain ⟨b0_2, l0_2, rfl, f0_2, h0⟩ := al2_cons h0
  obtain ⟨b0_3, l0_3, rfl, f0_3, h0⟩ := al2_cons h0
  obtain ⟨b0_4, l0_4, rfl, f0_4, h0⟩ := al2_cons h0
  obtain ⟨b0_5, l0_5, rfl, f0_5, h0⟩ := al2_cons h0
  obtain ⟨b0_6, l0_6, rfl, f0_6, h0⟩ := al2_cons h0
  obtain ⟨b0_7, l0_7, rfl, f0_7, h0⟩ := al2_cons h0
  obtain ⟨b0_8, l0_8, rfl, f0_8, h0⟩ := al2_cons h0
  obtain ⟨b0_9, l0_9, rfl, f0_9, h0⟩ := al2_cons h0
  obtain ⟨b0_10, l0_10, rfl, f0_10, h0⟩ := al2_cons h0
  obtain ⟨b0_11, l0_11, rfl, f0_11, h0⟩ := al2_cons h0
  obtain ⟨b0_12, l0_12, rfl, f0_12, h0⟩ := al2_cons h0
  obtain rfl := al2_nil h0
  obtain ⟨b1_0, l1_0, rfl, f1_0, h1⟩ := al2_cons h1
  obtain ⟨b1_1, l1_1, rfl, f1_1, h1⟩ := al2_cons h1
  obtain ⟨b1_2, l1_2, rfl, f1_2, h1⟩ := al2_cons h1
  obtain rfl := al2_nil h1
  have hw := w_umbralaw27_LampFar (b0_0, (b0_1, b0_2, b0_3), (b0_4, b0_5, b0_6), (b0_7, b0_8, b0_9), (b0_10, b0_11, b0_12)) (b1_0, b1_1, b1_2) ⟨fit_i64 f0_0, ⟨fit_i64 f0_1, fit_i64 f0_2, fit_i64 f0_3⟩, ⟨fit_i64 f0_4, fit_i64 f0_5, fit_i64 f0_6⟩, ⟨fit_i64 f0_7, fit_i64 f0_8, fit_i64 f0_9⟩, ⟨fit_i64 f0_10, fit_i64 f0_11, fit_i64 f0_12⟩⟩ ⟨fit_i64 f1_0, fit_i64 f1_1, fit_i64 f1_2⟩ w
  rw [LampFar_true (b0_0, (b0_1, b0_2, b0_3), (b0_4, b0_5, b0_6), (b0_7, b0_8, b0_9), (b0_10, b0_11, b0_12)) (b1_0, b1_1, b1_2)] at hw
  exact hw

end Go.Proofs.Ytjhnkpapbjkbcaa

namespace Go.Proofs.Ytjhnkpapbjkbcaa
open Go.RowKit Go.Sort
set_option linter.unusedVariables false
set_option linter.unusedSimpArgs false

theorem LampSamples_law (l : Int × (Int × Int × Int) × (Int × Int × Int) × (Int × Int × Int) × (Int × Int × Int)) (a : (Int × Int × Int) × (Int × Int × Int) × (Int × Int)) (h_l : (InI l.1 ∧ InV l.2.1 ∧ InV l.2.2.1 ∧ InV l.2.2.2.1 ∧ InV l.2.2.2.2)) (h_a : (InV a.1 ∧ InV a.2.1 ∧ (InU32 a.2.2.1 ∧ InU32 a.2.2.2))) : s_umbralaw27_LampSamples l a = true := LampSamples_true l a h_a.2.2.1 h_a.2.2.2

theorem lawLampSamples (ns0 : List Int) (h0 : Al2 Fits [.i64, .i64, .i64, .i64, .i64, .i64, .i64, .i64, .i64, .i64, .i64, .i64, .i64] ns0) (ns1 : List Int) (h1 : Al2 Fits [.i64, .i64, .i64, .i64, .i64, .i64, .u32, .u32] ns1) (w : World) : Calls Try.prog 9 #[.agg (vals [.i64, .i64, .i64, .i64, .i64, .i64, .i64, .i64, .i64, .i64, .i64, .i64, .i64] ns0).toArray, .agg (vals [.i64, .i64, .i64, .i64, .i64, .i64, .u32, .u32] ns1).toArray] w (Ret (.bool true) w) := by
  obtain ⟨b0_0, l0_0, rfl, f0_0, h0⟩ := al2_cons h0
  obtain ⟨b0_1, l0_1, rfl, f0_1, h0⟩ := al2_cons h0
  obtain ⟨b0_2, l0_2, rfl, f0_2, h0⟩ := al2_cons h0
  obtain ⟨b0_3, l0_3, rfl, f0_3, h0⟩ := al2_cons h0
  obtain ⟨b0_4, l0_4, rfl, f0_4, h0⟩ := al2_cons h0
  obtain ⟨b0_5, l0_5, rfl, f0_5, h0⟩ := al2_cons h0
  obtain ⟨b0_6, l0_6, rfl, f0_6, h0⟩ := al2_cons h0
  obtain ⟨b0_7, l0_7, rfl, f0_7, h0⟩ := al2_cons h0
  obtain ⟨b0_8, l0_8, rfl, f0_8, h0⟩ := al2_cons h0
  obtain ⟨b0_9, l0_9, rfl, f0_9, h0⟩ := al2_cons h0
  obtain ⟨b0_10, l0_10, rfl, f0_10, h0⟩ := al2_cons h0
  obtain ⟨b0_11, l0_11, rfl, f0_11, h0⟩ := al2_cons h0
  obtain ⟨b0_12, l0_12, rfl, f0_12, h0⟩ := al2_cons h0
  obtain rfl := al2_nil h0
  obtain ⟨b1_0, l1_0, rfl, f1_0, h1⟩ := al2_cons h1
  obtain ⟨b1_1, l1_1, rfl, f1_1, h1⟩ := al2_cons h1
  obtain ⟨b1_2, l1_2, rfl, f1_2, h1⟩ := al2_cons h1
  obtain ⟨b1_3, l1_3, rfl, f1_3, h1⟩ := al2_cons h1
  obtain ⟨b1_4, l1_4, rfl, f1_4, h1⟩ := al2_cons h1
  obtain ⟨b1_5, l1_5, rfl, f1_5, h1⟩ := al2_cons h1
  obtain ⟨b1_6, l1_6, rfl, f1_6, h1⟩ := al2_cons h1
  obtain ⟨b1_7, l1_7, rfl, f1_7, h1⟩ := al2_cons h1
  obtain rfl := al2_nil h1
  have hw := w_umbralaw27_LampSamples (b0_0, (b0_1, b0_2, b0_3), (b0_4, b0_5, b0_6), (b0_7, b0_8, b0_9), (b0_10, b0_11, b0_12)) ((b1_0, b1_1, b1_2), (b1_3, b1_4, b1_5), (b1_6, b1_7)) ⟨fit_i64 f0_0, ⟨fit_i64 f0_1, fit_i64 f0_2, fit_i64 f0_3⟩, ⟨fit_i64 f0_4, fit_i64 f0_5, fit_i64 f0_6⟩, ⟨fit_i64 f0_7, fit_i64 f0_8, fit_i64 f0_9⟩, ⟨fit_i64 f0_10, fit_i64 f0_11, fit_i64 f0_12⟩⟩ ⟨⟨fit_i64 f1_0, fit_i64 f1_1, fit_i64 f1_2⟩, ⟨fit_i64 f1_3, fit_i64 f1_4, fit_i64 f1_5⟩, ⟨fit_u32 f1_6, fit_u32 f1_7⟩⟩ w
  rw [LampSamples_law (b0_0, (b0_1, b0_2, b0_3), (b0_4, b0_5, b0_6), (b0_7, b0_8, b0_9), (b0_10, b0_11, b0_12)) ((b1_0, b1_1, b1_2), (b1_3, b1_4, b1_5), (b1_6, b1_7)) ⟨fit_i64 f0_0, ⟨fit_i64 f0_1, fit_i64 f0_2, fit_i64 f0_3⟩, ⟨fit_i64 f0_4, fit_i64 f0_5, fit_i64 f0_6⟩, ⟨fit_i64 f0_7, fit_i64 f0_8, fit_i64 f0_9⟩, ⟨fit_i64 f0_10, fit_i64 f0_11, fit_i64 f0_12⟩⟩ ⟨⟨fit_i64 f1_0, fit_i64 f1_1, fit_i64 f1_2⟩, ⟨fit_i64 f1_3, fit_i64 f1_4, fit_i64 f1_5⟩, ⟨fit_u32 f1_6, fit_u32 f1_7⟩⟩] at hw
  exact hw

theorem LampBehind_law (l : Int × (Int × Int × Int) × (Int × Int × Int) × (Int × Int × Int) × (Int × Int × Int)) (a : (Int × Int × Int) × (Int × Int × Int) × (Int × Int)) (n : Int × Int × Int) (h_l : (InI l.1 ∧ InV l.2.1 ∧ InV l.2.2.1 ∧ InV l.2.2.2.1 ∧ InV l.2.2.2.2)) (h_a : (InV a.1 ∧ InV a.2.1 ∧ (InU32 a.2.2.1 ∧ InU32 a.2.2.2))) (h_n : InV n) : s_umbralaw27_LampBehind l a n = true := LampBehind_true l a n h_a.2.2.1 h_a.2.2.2

theorem lawLampBehind (ns0 : List Int) (h0 : Al2 Fits [.i64, .i64, .i64, .i64, .i64, .i64, .i64, .i64, .i64, .i64, .i64, .i64, .i64] ns0) (ns1 : List Int) (h1 : Al2 Fits [.i64, .i64, .i64, .i64, .i64, .i64, .u32, .u32] ns1) (ns2 : List Int) (h2 : Al2 Fits [.i64, .i64, .i64] ns2) (w : World) : Calls Try.prog 10 #[.agg (vals [.i64, .i64, .i64, .i64, .i64, .i64, .i64, .i64, .i64, .i64, .i64, .i64, .i64] ns0).toArray, .agg (vals [.i64, .i64, .i64, .i64, .i64, .i64, .u32, .u32] ns1).toArray, .agg (vals [.i64, .i64, .i64] ns2).toArray] w (Ret (.bool true) w) := by
  obtain ⟨b0_0, l0_0, rfl, f0_0, h0⟩ := al2_cons h0
  obtain ⟨b0_1, l0_1, rfl, f0_1, h0⟩ := al2_cons h0
  obtain ⟨b0_2, l0_2, rfl, f0_2, h0⟩ := al2_cons h0
  obtain ⟨b0_3, l0_3, rfl, f0_3, h0⟩ := al2_cons h0
  obtain ⟨b0_4, l0_4, rfl, f0_4, h0⟩ := al2_cons h0
  obtain ⟨b0_5, l0_5, rfl, f0_5, h0⟩ := al2_cons h0
  obtain ⟨b0_6, l0_6, rfl, f0_6, h0⟩ := al2_cons h0
  obtain ⟨b0_7, l0_7, rfl, f0_7, h0⟩ := al2_cons h0
  obtain ⟨b0_8, l0_8, rfl, f0_8, h0⟩ := al2_cons h0
  obtain ⟨b0_9, l0_9, rfl, f0_9, h0⟩ := al2_cons h0
  obtain ⟨b0_10, l0_10, rfl, f0_10, h0⟩ := al2_cons h0
  obtain ⟨b0_11, l0_11, rfl, f0_11, h0⟩ := al2_cons h0
  obtain ⟨b0_12, l0_12, rfl, f0_12, h0⟩ := al2_cons h0
  obtain rfl := al2_nil h0
  obtain ⟨b1_0, l1_0, rfl, f1_0, h1⟩ := al2_cons h1
  obtain ⟨b1_1, l1_1, rfl, f1_1, h1⟩ := al2_cons h1
  obtain ⟨b1_2, l1_2, rfl, f1_2, h1⟩ := al2_cons h1
  obtain ⟨b1_3, l1_3, rfl, f1_3, h1⟩ := al2_cons h1
  obtain ⟨b1_4, l1_4, rfl, f1_4, h1⟩ := al2_cons h1
  obtain ⟨b1_5, l1_5, rfl, f1_5, h1⟩ := al2_cons h1
  obtain ⟨b1_6, l1_6, rfl, f1_6, h1⟩ := al2_cons h1
  obtain ⟨b1_7, l1_7, rfl, f1_7, h1⟩ := al2_cons h1
  obtain rfl := al2_nil h1
  obtain ⟨b2_0, l2_0, rfl, f2_0, h2⟩ := al2_cons h2
  obtain ⟨b2_1, l2_1, rfl, f2_1, h2⟩ := al2_cons h2
  obtain ⟨b2_2, l2_2, rfl, f2_2, h2⟩ := al2_cons h2
  obtain rfl := al2_nil h2
  have hw := w_umbralaw27_LampBehind (b0_0, (b0_1, b0_2, b0_3), (b0_4, b0_5, b0_6), (b0_7, b0_8, b0_9), (b0_10, b0_11, b0_12)) ((b1_0, b1_1, b1_2), (b1_3, b1_4, b1_5), (b1_6, b1_7)) (b2_0, b2_1, b2_2) ⟨fit_i64 f0_0, ⟨fit_i64 f0_1, fit_i64 f0_2, fit_i64 f0_3⟩, ⟨fit_i64 f0_4, fit_i64 f0_5, fit_i64 f0_6⟩, ⟨fit_i64 f0_7, fit_i64 f0_8, fit_i64 f0_9⟩, ⟨fit_i64 f0_10, fit_i64 f0_11, fit_i64 f0_12⟩⟩ ⟨⟨fit_i64 f1_0, fit_i64 f1_1, fit_i64 f1_2⟩, ⟨fit_i64 f1_3, fit_i64 f1_4, fit_i64 f1_5⟩, ⟨fit_u32 f1_6, fit_u32 f1_7⟩⟩ ⟨fit_i64 f2_0, fit_i64 f2_1, fit_i64 f2_2⟩ w
  rw [LampBehind_law (b0_0, (b0_1, b0_2, b0_3), (b0_4, b0_5, b0_6), (b0_7, b0_8, b0_9), (b0_10, b0_11, b0_12)) ((b1_0, b1_1, b1_2), (b1_3, b1_4, b1_5), (b1_6, b1_7)) (b2_0, b2_1, b2_2) ⟨fit_i64 f0_0, ⟨fit_i64 f0_1, fit_i64 f0_2, fit_i64 f0_3⟩, ⟨fit_i64 f0_4, fit_i64 f0_5, fit_i64 f0_6⟩, ⟨fit_i64 f0_7, fit_i64 f0_8, fit_i64 f0_9⟩, ⟨fit_i64 f0_10, fit_i64 f0_11, fit_i64 f0_12⟩⟩ ⟨⟨fit_i64 f1_0, fit_i64 f1_1, fit_i64 f1_2⟩, ⟨fit_i64 f1_3, fit_i64 f1_4, fit_i64 f1_5⟩, ⟨fit_u32 f1_6, fit_u32 f1_7⟩⟩ ⟨fit_i64 f2_0, fit_i64 f2_1, fit_i64 f2_2⟩] at hw
  exact hw

end Go.Proofs.Ytjhnkpapbjkbcaa
