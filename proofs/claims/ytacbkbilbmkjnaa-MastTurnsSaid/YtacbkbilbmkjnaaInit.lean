/-
  How the program was made: its words, and what follows for every row of the seat.
-/
import Derived.Test.YtacbkbilbmkjnaaProg
import Derived.Test.YtacbkbilbmkjnaaWords
namespace Go.Proofs.Ytacbkbilbmkjnaa
open Bal
set_option maxRecDepth 100000
def initW0 : List Char := ['h', 'a', 'r', 'n', 'e', 's', 's']
def initW1 : List Char := ['a', '9', '4', '8', 'c', 'd', '3', 'd', '6', 'b', '1', '6', '0', '2', 'f', '1', '2', '3', '8', 'a', '5', '4', 'f', '9', '3', '0', '5', '6', '3', '3', '7', 'd', '8', '1', '4', '5', '8', '5', '8', 'e', 'a', '2', '5', '9', 'd', 'e', '5', 'b', 'c', '9', 'd', 'd', '1', '1', '4', '4', 'b', '2', '3', 'c', 'd', '6', '3', '6']
def initW2 : List Char := ['c', 'u', 't']
def initW3 : List Char := ['a', 't']
def initW4 : List Char := ['b', 'a', 'l', 'l', 'o', 'n', 'e', 't', '/', 'b', 'a', 'l', 'l', 'o', 'n', 'e', 't', 'l', 'a', 'w', '0', '7', '.', 'M', 'a', 's', 't', 'W', 'i', 'n', 'd', 's']
def initW5 : List Char := ['b', 'a', 'l', 'l', 'o', 'n', 'e', 't', '/', 'b', 'a', 'l', 'l', 'o', 'n', 'e', 't', 'l', 'a', 'w', '0', '7', '.', 'M', 'a', 's', 't', 'T', 'u', 'r', 'n', 's']
def initW6 : List Char := ['b', 'a', 'l', 'l', 'o', 'n', 'e', 't', '/', 'b', 'a', 'l', 'l', 'o', 'n', 'e', 't', 'l', 'a', 'w', '0', '7', '.', 'M', 'a', 's', 't', 'D', 'o', 'e', 's']
def initW7 : List Char := ['b', 'a', 'l', 'l', 'o', 'n', 'e', 't', '/', 'b', 'a', 'l', 'l', 'o', 'n', 'e', 't', 'l', 'a', 'w', '0', '7', '.', 'M', 'a', 's', 't', 'P', 'l', 'a', 'y', 's']
def initW8 : List Char := ['b', 'a', 'l', 'l', 'o', 'n', 'e', 't', '/', 'b', 'a', 'l', 'l', 'o', 'n', 'e', 't', 'l', 'a', 'w', '0', '7', '.', 'M', 'a', 's', 't', 'P', 'l', 'a', 'n', 's']
def initW9 : List Char := ['b', 'a', 'l', 'l', 'o', 'n', 'e', 't', '/', 'b', 'a', 'l', 'l', 'o', 'n', 'e', 't', 'l', 'a', 'w', '0', '7', '.', 'M', 'a', 's', 't', 'D', 'e', 'c', 'i', 'd', 'e', 's']
def initL : List Char := initW0 ++ ' ' :: (initW1 ++ ' ' :: (initW2 ++ ' ' :: (initW3 ++ ' ' :: (initW4 ++ ' ' :: (initW5 ++ ' ' :: (initW6 ++ ' ' :: (initW7 ++ ' ' :: (initW8 ++ ' ' :: initW9))))))))
theorem init_is : Try.prog.initOrder = String.ofList initL := by kernel_rfl
theorem init_words : wordsSigns Try.prog.initOrder.toList = [initW0, initW1, initW2, initW3, initW4, initW5, initW6, initW7, initW8, initW9] := by
  rw [init_is, String.toList_ofList]
  unfold initL
  rw [words_cons _ _ (by decide), words_cons _ _ (by decide), words_cons _ _ (by decide), words_cons _ _ (by decide), words_cons _ _ (by decide), words_cons _ _ (by decide), words_cons _ _ (by decide), words_cons _ _ (by decide), words_cons _ _ (by decide), words_last _ (by decide)]
theorem init_cut : wordsSigns Try.prog.initOrder.toList = initW0 :: initW1 :: ['c', 'u', 't'] :: [initW3, initW4, initW5, initW6, initW7, initW8, initW9] := init_words
theorem init_sum : isSumSigns initW1 = true := by decide
theorem make_is : Try.prog.make = some .cut := make_cut init_cut rfl init_sum
theorem liftsFinal_is : Try.prog.liftsFinal = false := lifts_cut init_cut rfl init_sum
theorem mayEnter_is : Try.prog.mayEnter = true := enter_cut init_cut rfl init_sum (by kernel_rfl) (by kernel_rfl) (by kernel_rfl)
end Go.Proofs.Ytacbkbilbmkjnaa
