/-
  How the program was made: its words, and what follows for every row of the seat.
-/
import Derived.Test.YtemafanncejeiaaProg
import Derived.Test.YtemafanncejeiaaWords
namespace Go.Proofs.Ytemafanncejeiaa
open Bal
set_option maxRecDepth 100000
def initW0 : List Char := ['h', 'a', 'r', 'n', 'e', 's', 's']
def initW1 : List Char := ['a', 'd', '4', '1', '8', 'c', '4', 'b', 'a', '6', '2', '4', '4', '1', '8', 'a', 'd', '0', 'd', '8', '8', '4', '7', 'a', '8', 'b', 'a', 'b', '1', '4', '6', '4', '0', 'b', 'e', '2', 'a', '8', 'c', '1', '4', '1', '5', 'a', '6', 'c', '9', '1', 'd', '9', 'e', 'c', '1', 'a', '2', 'c', 'c', 'f', 'c', 'a', 'f', 'a', '1', '3']
def initW2 : List Char := ['c', 'u', 't']
def initW3 : List Char := ['a', 't']
def initW4 : List Char := ['b', 'a', 'l', 'l', 'o', 'n', 'e', 't', '/', 'b', 'a', 'l', 'l', 'o', 'n', 'e', 't', 'l', 'a', 'w', '0', '3', '.', 'G', 'a', 's', 'V', 'o', 'l', 'u', 'm', 'e', 's']
def initW5 : List Char := ['b', 'a', 'l', 'l', 'o', 'n', 'e', 't', '/', 'b', 'a', 'l', 'l', 'o', 'n', 'e', 't', 'l', 'a', 'w', '0', '3', '.', 'G', 'a', 's', 'L', 'i', 'f', 't', 's']
def initW6 : List Char := ['b', 'a', 'l', 'l', 'o', 'n', 'e', 't', '/', 'b', 'a', 'l', 'l', 'o', 'n', 'e', 't', 'l', 'a', 'w', '0', '3', '.', 'G', 'a', 's', 'H', 'u', 'l', 'l', 's']
def initW7 : List Char := ['b', 'a', 'l', 'l', 'o', 'n', 'e', 't', '/', 'b', 'a', 'l', 'l', 'o', 'n', 'e', 't', 'l', 'a', 'w', '0', '3', '.', 'G', 'a', 's', 'D', 'o', 'e', 's']
def initW8 : List Char := ['b', 'a', 'l', 'l', 'o', 'n', 'e', 't', '/', 'b', 'a', 'l', 'l', 'o', 'n', 'e', 't', 'l', 'a', 'w', '0', '3', '.', 'G', 'a', 's', 'P', 'l', 'a', 'y', 's']
def initW9 : List Char := ['b', 'a', 'l', 'l', 'o', 'n', 'e', 't', '/', 'b', 'a', 'l', 'l', 'o', 'n', 'e', 't', 'l', 'a', 'w', '0', '3', '.', 'G', 'a', 's', 'L', 'e', 'a', 'k', 's']
def initW10 : List Char := ['b', 'a', 'l', 'l', 'o', 'n', 'e', 't', '/', 'b', 'a', 'l', 'l', 'o', 'n', 'e', 't', 'l', 'a', 'w', '0', '3', '.', 'G', 'a', 's', 'W', 'a', 'r', 'm', 'e', 'r']
def initW11 : List Char := ['b', 'a', 'l', 'l', 'o', 'n', 'e', 't', '/', 'b', 'a', 'l', 'l', 'o', 'n', 'e', 't', 'l', 'a', 'w', '0', '3', '.', 'G', 'a', 's', 'K', 'e', 'p', 't']
def initW12 : List Char := ['b', 'a', 'l', 'l', 'o', 'n', 'e', 't', '/', 'b', 'a', 'l', 'l', 'o', 'n', 'e', 't', 'l', 'a', 'w', '0', '3', '.', 'G', 'a', 's', 'P', 'u', 'r', 'e']
def initW13 : List Char := ['b', 'a', 'l', 'l', 'o', 'n', 'e', 't', '/', 'b', 'a', 'l', 'l', 'o', 'n', 'e', 't', 'l', 'a', 'w', '0', '3', '.', 'G', 'a', 's', 'H', 'e', 'l', 'd']
def initW14 : List Char := ['b', 'a', 'l', 'l', 'o', 'n', 'e', 't', '/', 'b', 'a', 'l', 'l', 'o', 'n', 'e', 't', 'l', 'a', 'w', '0', '3', '.', 'G', 'a', 's', 'T', 'i', 'g', 'h', 't']
def initW15 : List Char := ['b', 'a', 'l', 'l', 'o', 'n', 'e', 't', '/', 'b', 'a', 'l', 'l', 'o', 'n', 'e', 't', 'l', 'a', 'w', '0', '3', '.', 'G', 'a', 's', 'N', 'a', 'm', 'e', 'd']
def initW16 : List Char := ['b', 'a', 'l', 'l', 'o', 'n', 'e', 't', '/', 'b', 'a', 'l', 'l', 'o', 'n', 'e', 't', 'l', 'a', 'w', '0', '3', '.', 'G', 'a', 's', 'E', 'x', 'a', 'c', 't']
def initW17 : List Char := ['b', 'a', 'l', 'l', 'o', 'n', 'e', 't', '/', 'b', 'a', 'l', 'l', 'o', 'n', 'e', 't', 'l', 'a', 'w', '0', '3', '.', 'G', 'a', 's', 'P', 'r', 'o', 'v', 'e', 'd']
def initW18 : List Char := ['b', 'a', 'l', 'l', 'o', 'n', 'e', 't', '/', 'b', 'a', 'l', 'l', 'o', 'n', 'e', 't', 'l', 'a', 'w', '0', '3', '.', 'G', 'a', 's', 'B', 'l', 'o', 'w', 'n']
def initW19 : List Char := ['b', 'a', 'l', 'l', 'o', 'n', 'e', 't', '/', 'b', 'a', 'l', 'l', 'o', 'n', 'e', 't', 'l', 'a', 'w', '0', '3', '.', 'G', 'a', 's', 'R', 'o', 'o', 'f']
def initW20 : List Char := ['b', 'a', 'l', 'l', 'o', 'n', 'e', 't', '/', 'b', 'a', 'l', 'l', 'o', 'n', 'e', 't', 'l', 'a', 'w', '0', '3', '.', 'G', 'a', 's', 'P', 'l', 'a', 'y', 'e', 'd']
def initW21 : List Char := ['b', 'a', 'l', 'l', 'o', 'n', 'e', 't', '/', 'b', 'a', 'l', 'l', 'o', 'n', 'e', 't', 'l', 'a', 'w', '0', '3', '.', 'G', 'a', 's', 'F', 'u', 'l', 'l']
def initW22 : List Char := ['b', 'a', 'l', 'l', 'o', 'n', 'e', 't', '/', 'b', 'a', 'l', 'l', 'o', 'n', 'e', 't', 'l', 'a', 'w', '0', '3', '.', 'G', 'a', 's', 'E', 'x', 'a', 'm', 'p', 'l', 'e', 's']
def initL : List Char := initW0 ++ ' ' :: (initW1 ++ ' ' :: (initW2 ++ ' ' :: (initW3 ++ ' ' :: (initW4 ++ ' ' :: (initW5 ++ ' ' :: (initW6 ++ ' ' :: (initW7 ++ ' ' :: (initW8 ++ ' ' :: (initW9 ++ ' ' :: (initW10 ++ ' ' :: (initW11 ++ ' ' :: (initW12 ++ ' ' :: (initW13 ++ ' ' :: (initW14 ++ ' ' :: (initW15 ++ ' ' :: (initW16 ++ ' ' :: (initW17 ++ ' ' :: (initW18 ++ ' ' :: (initW19 ++ ' ' :: (initW20 ++ ' ' :: (initW21 ++ ' ' :: initW22)))))))))))))))))))))
theorem init_is : Try.prog.initOrder = String.ofList initL := by kernel_rfl
theorem init_words : wordsSigns Try.prog.initOrder.toList = [initW0, initW1, initW2, initW3, initW4, initW5, initW6, initW7, initW8, initW9, initW10, initW11, initW12, initW13, initW14, initW15, initW16, initW17, initW18, initW19, initW20, initW21, initW22] := by
  rw [init_is, String.toList_ofList]
  unfold initL
  rw [words_cons _ _ (by decide), words_cons _ _ (by decide), words_cons _ _ (by decide), words_cons _ _ (by decide), words_cons _ _ (by decide), words_cons _ _ (by decide), words_cons _ _ (by decide), words_cons _ _ (by decide), words_cons _ _ (by decide), words_cons _ _ (by decide), words_cons _ _ (by decide), words_cons _ _ (by decide), words_cons _ _ (by decide), words_cons _ _ (by decide), words_cons _ _ (by decide), words_cons _ _ (by decide), words_cons _ _ (by decide), words_cons _ _ (by decide), words_cons _ _ (by decide), words_cons _ _ (by decide), words_cons _ _ (by decide), words_cons _ _ (by decide), words_last _ (by decide)]
theorem init_cut : wordsSigns Try.prog.initOrder.toList = initW0 :: initW1 :: ['c', 'u', 't'] :: [initW3, initW4, initW5, initW6, initW7, initW8, initW9, initW10, initW11, initW12, initW13, initW14, initW15, initW16, initW17, initW18, initW19, initW20, initW21, initW22] := init_words
theorem init_sum : isSumSigns initW1 = true := by decide
theorem make_is : Try.prog.make = some .cut := make_cut init_cut rfl init_sum
theorem liftsFinal_is : Try.prog.liftsFinal = false := lifts_cut init_cut rfl init_sum
theorem mayEnter_is : Try.prog.mayEnter = true := enter_cut init_cut rfl init_sum (by kernel_rfl) (by kernel_rfl) (by kernel_rfl)
end Go.Proofs.Ytemafanncejeiaa
