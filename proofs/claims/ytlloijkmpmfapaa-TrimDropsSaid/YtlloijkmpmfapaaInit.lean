/-
  How the program was made: its words, and what follows for every row of the seat.
-/
import Derived.Test.YtlloijkmpmfapaaProg
import Derived.Test.YtlloijkmpmfapaaWords
namespace Go.Proofs.Ytlloijkmpmfapaa
open Bal
set_option maxRecDepth 100000
def initW0 : List Char := ['h', 'a', 'r', 'n', 'e', 's', 's']
def initW1 : List Char := ['d', 'f', '2', '5', '7', 'e', '2', '5', 'd', '1', '3', '1', '8', '6', '4', 'f', '7', 'd', '9', '6', '7', '4', '9', '9', '6', '9', 'd', 'f', '9', '7', 'a', 'b', '9', '3', '6', '5', 'f', '5', '8', 'b', 'e', '6', '7', 'e', 'd', '0', '3', '5', '2', 'e', '0', '1', 'e', '6', '6', 'a', 'c', 'f', 'b', '2', '4', '8', '1', '5']
def initW2 : List Char := ['c', 'u', 't']
def initW3 : List Char := ['a', 't']
def initW4 : List Char := ['b', 'a', 'l', 'l', 'o', 'n', 'e', 't', '/', 'b', 'a', 'l', 'l', 'o', 'n', 'e', 't', 'l', 'a', 'w', '0', '4', '.', 'T', 'r', 'i', 'm', 'C', 'h', 'e', 'c', 'k', 's']
def initW5 : List Char := ['b', 'a', 'l', 'l', 'o', 'n', 'e', 't', '/', 'b', 'a', 'l', 'l', 'o', 'n', 'e', 't', 'l', 'a', 'w', '0', '4', '.', 'T', 'r', 'i', 'm', 'B', 'r', 'e', 'a', 'c', 'h', 'e', 's']
def initW6 : List Char := ['b', 'a', 'l', 'l', 'o', 'n', 'e', 't', '/', 'b', 'a', 'l', 'l', 'o', 'n', 'e', 't', 'l', 'a', 'w', '0', '4', '.', 'T', 'r', 'i', 'm', 'B', 'a', 'l', 'a', 'n', 'c', 'e', 's']
def initW7 : List Char := ['b', 'a', 'l', 'l', 'o', 'n', 'e', 't', '/', 'b', 'a', 'l', 'l', 'o', 'n', 'e', 't', 'l', 'a', 'w', '0', '4', '.', 'T', 'r', 'i', 'm', 'S', 't', 'r', 'a', 'i', 'n', 's']
def initW8 : List Char := ['b', 'a', 'l', 'l', 'o', 'n', 'e', 't', '/', 'b', 'a', 'l', 'l', 'o', 'n', 'e', 't', 'l', 'a', 'w', '0', '4', '.', 'T', 'r', 'i', 'm', 'D', 'r', 'o', 'p', 's']
def initW9 : List Char := ['b', 'a', 'l', 'l', 'o', 'n', 'e', 't', '/', 'b', 'a', 'l', 'l', 'o', 'n', 'e', 't', 'l', 'a', 'w', '0', '4', '.', 'T', 'r', 'i', 'm', 'S', 't', 'o', 'w', 's']
def initW10 : List Char := ['b', 'a', 'l', 'l', 'o', 'n', 'e', 't', '/', 'b', 'a', 'l', 'l', 'o', 'n', 'e', 't', 'l', 'a', 'w', '0', '4', '.', 'T', 'r', 'i', 'm', 'D', 'r', 'o', 'p', 'p', 'e', 'd']
def initW11 : List Char := ['b', 'a', 'l', 'l', 'o', 'n', 'e', 't', '/', 'b', 'a', 'l', 'l', 'o', 'n', 'e', 't', 'l', 'a', 'w', '0', '4', '.', 'T', 'r', 'i', 'm', 'E', 'n', 'd', 's']
def initW12 : List Char := ['b', 'a', 'l', 'l', 'o', 'n', 'e', 't', '/', 'b', 'a', 'l', 'l', 'o', 'n', 'e', 't', 'l', 'a', 'w', '0', '4', '.', 'T', 'r', 'i', 'm', 'R', 'e', 'a', 'c', 'h', 'e', 'd']
def initW13 : List Char := ['b', 'a', 'l', 'l', 'o', 'n', 'e', 't', '/', 'b', 'a', 'l', 'l', 'o', 'n', 'e', 't', 'l', 'a', 'w', '0', '4', '.', 'T', 'r', 'i', 'm', 'W', 'o', 'r', 's', 't']
def initW14 : List Char := ['b', 'a', 'l', 'l', 'o', 'n', 'e', 't', '/', 'b', 'a', 'l', 'l', 'o', 'n', 'e', 't', 'l', 'a', 'w', '0', '4', '.', 'T', 'r', 'i', 'm', 'K', 'e', 'p', 't']
def initW15 : List Char := ['b', 'a', 'l', 'l', 'o', 'n', 'e', 't', '/', 'b', 'a', 'l', 'l', 'o', 'n', 'e', 't', 'l', 'a', 'w', '0', '4', '.', 'T', 'r', 'i', 'm', 'B', 'e', 't', 't', 'e', 'r']
def initW16 : List Char := ['b', 'a', 'l', 'l', 'o', 'n', 'e', 't', '/', 'b', 'a', 'l', 'l', 'o', 'n', 'e', 't', 'l', 'a', 'w', '0', '4', '.', 'T', 'r', 'i', 'm', 'F', 'a', 'r']
def initW17 : List Char := ['b', 'a', 'l', 'l', 'o', 'n', 'e', 't', '/', 'b', 'a', 'l', 'l', 'o', 'n', 'e', 't', 'l', 'a', 'w', '0', '4', '.', 'T', 'r', 'i', 'm', 'S', 't', 'o', 'w', 'e', 'd']
def initW18 : List Char := ['b', 'a', 'l', 'l', 'o', 'n', 'e', 't', '/', 'b', 'a', 'l', 'l', 'o', 'n', 'e', 't', 'l', 'a', 'w', '0', '4', '.', 'T', 'r', 'i', 'm', 'E', 'x', 'a', 'm', 'p', 'l', 'e', 's']
def initL : List Char := initW0 ++ ' ' :: (initW1 ++ ' ' :: (initW2 ++ ' ' :: (initW3 ++ ' ' :: (initW4 ++ ' ' :: (initW5 ++ ' ' :: (initW6 ++ ' ' :: (initW7 ++ ' ' :: (initW8 ++ ' ' :: (initW9 ++ ' ' :: (initW10 ++ ' ' :: (initW11 ++ ' ' :: (initW12 ++ ' ' :: (initW13 ++ ' ' :: (initW14 ++ ' ' :: (initW15 ++ ' ' :: (initW16 ++ ' ' :: (initW17 ++ ' ' :: initW18)))))))))))))))))
theorem init_is : Try.prog.initOrder = String.ofList initL := by kernel_rfl
theorem init_words : wordsSigns Try.prog.initOrder.toList = [initW0, initW1, initW2, initW3, initW4, initW5, initW6, initW7, initW8, initW9, initW10, initW11, initW12, initW13, initW14, initW15, initW16, initW17, initW18] := by
  rw [init_is, String.toList_ofList]
  unfold initL
  rw [words_cons _ _ (by decide), words_cons _ _ (by decide), words_cons _ _ (by decide), words_cons _ _ (by decide), words_cons _ _ (by decide), words_cons _ _ (by decide), words_cons _ _ (by decide), words_cons _ _ (by decide), words_cons _ _ (by decide), words_cons _ _ (by decide), words_cons _ _ (by decide), words_cons _ _ (by decide), words_cons _ _ (by decide), words_cons _ _ (by decide), words_cons _ _ (by decide), words_cons _ _ (by decide), words_cons _ _ (by decide), words_cons _ _ (by decide), words_last _ (by decide)]
theorem init_cut : wordsSigns Try.prog.initOrder.toList = initW0 :: initW1 :: ['c', 'u', 't'] :: [initW3, initW4, initW5, initW6, initW7, initW8, initW9, initW10, initW11, initW12, initW13, initW14, initW15, initW16, initW17, initW18] := init_words
theorem init_sum : isSumSigns initW1 = true := by decide
theorem make_is : Try.prog.make = some .cut := make_cut init_cut rfl init_sum
theorem liftsFinal_is : Try.prog.liftsFinal = false := lifts_cut init_cut rfl init_sum
theorem mayEnter_is : Try.prog.mayEnter = true := enter_cut init_cut rfl init_sum (by kernel_rfl) (by kernel_rfl) (by kernel_rfl)
end Go.Proofs.Ytlloijkmpmfapaa
