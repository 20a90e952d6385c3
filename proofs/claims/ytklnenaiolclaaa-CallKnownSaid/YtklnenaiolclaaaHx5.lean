-- Written by hprint.py, a program of this session's, over the kit's printer.
import Derived.Test.YtklnenaiolclaaaHx0
namespace Go.Proofs.Ytklnenaiolclaaa.H
open Go.RowKit Go.Proofs.YtklnenaiolclaaaW.PrintWords Go.Proofs.YtklnenaiolclaaaW.PrintLast Go.Proofs.YtklnenaiolclaaaW.PrintMore
attribute [local go_sem] max2_int min2_int max_two min_two max_three min_three max_four min_four   -- for this text's walks alone
set_option linter.unusedVariables false
set_option linter.unusedSimpArgs false

-- NOT PRINTED: function 17 (cofferdamref25_Encode)

-- NOT PRINTED: function 18 (call_Check)

-- NOT PRINTED: function 6 (cofferdamlaw25_CallWords)

-- NOT PRINTED: function 7 (cofferdamlaw25_CallBack)

-- NOT PRINTED: function 8 (cofferdamlaw25_CallKnown)

end Go.Proofs.Ytklnenaiolclaaa.H
