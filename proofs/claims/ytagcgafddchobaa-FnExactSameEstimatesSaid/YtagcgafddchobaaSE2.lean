/- The law FnExactSameEstimates holds: for every input that reads as data it returns true, and its arguments read as before. No condition is added. -/
import Derived.Test.YtagcgafddchobaaProg
import Derived.KernelRfl
import Derived.Deep.Slices
import Derived.WalkKit
import Derived.ProofKit
import Derived.OpenShut
import Derived.ShutString
import Derived.ChangeOld
import Derived.Below
import Derived.SizedLaws
import Derived.Carry
import Derived.Test.YtagcgafddchobaaRows
import Derived.Test.YtagcgafddchobaaSE0
import Derived.Test.YtagcgafddchobaaSE1
set_option linter.unusedVariables false
set_option linter.unusedSimpArgs false
section
open Go Go.AM
noncomputable def F_w_szIntS : FnT
  | [.pls [⟨(.sl (.one (.int .i64))), a0⟩], .pls [⟨i6, left⟩]] => some (C.wl [⟨(.sl (.one (.int .i64))), a0⟩] && C.okLeft left, [[⟨i6, C.sz [⟨(.sl (.one (.int .i64))), a0⟩] left⟩]])
  | _ => none
noncomputable def F_w_szBigInt : FnT
  | [.pls [⟨.bool, a0⟩, ⟨(.sl (.one (.int .i64))), a1⟩], .pls [⟨i6, left⟩]] => some (C.wl [⟨.bool, a0⟩, ⟨(.sl (.one (.int .i64))), a1⟩] && C.okLeft left, [[⟨i6, C.sz [⟨.bool, a0⟩, ⟨(.sl (.one (.int .i64))), a1⟩] left⟩]])
  | _ => none
noncomputable def F_w_szRat : FnT
  | [.pls [⟨.bool, a0⟩, ⟨(.sl (.one (.int .i64))), a1⟩, ⟨(.sl (.one (.int .i64))), a2⟩], .pls [⟨i6, left⟩]] => some (C.wl [⟨.bool, a0⟩, ⟨(.sl (.one (.int .i64))), a1⟩, ⟨(.sl (.one (.int .i64))), a2⟩] && C.okLeft left, [[⟨i6, C.sz [⟨.bool, a0⟩, ⟨(.sl (.one (.int .i64))), a1⟩, ⟨(.sl (.one (.int .i64))), a2⟩] left⟩]])
  | _ => none
noncomputable def F_w_szObservation : FnT
  | [.pls [⟨(.int .i64), a0⟩, ⟨(.int .i64), a1⟩, ⟨(.int .i64), a2⟩, ⟨.bool, a3⟩, ⟨(.sl (.one (.int .i64))), a4⟩, ⟨(.sl (.one (.int .i64))), a5⟩, ⟨.bool, a6⟩, ⟨(.sl (.one (.int .i64))), a7⟩, ⟨(.sl (.one (.int .i64))), a8⟩], .pls [⟨i6, left⟩]] => some (C.wl [⟨(.int .i64), a0⟩, ⟨(.int .i64), a1⟩, ⟨(.int .i64), a2⟩, ⟨.bool, a3⟩, ⟨(.sl (.one (.int .i64))), a4⟩, ⟨(.sl (.one (.int .i64))), a5⟩, ⟨.bool, a6⟩, ⟨(.sl (.one (.int .i64))), a7⟩, ⟨(.sl (.one (.int .i64))), a8⟩] && C.okLeft left, [[⟨i6, C.sz [⟨(.int .i64), a0⟩, ⟨(.int .i64), a1⟩, ⟨(.int .i64), a2⟩, ⟨.bool, a3⟩, ⟨(.sl (.one (.int .i64))), a4⟩, ⟨(.sl (.one (.int .i64))), a5⟩, ⟨.bool, a6⟩, ⟨(.sl (.one (.int .i64))), a7⟩, ⟨(.sl (.one (.int .i64))), a8⟩] left⟩]])
  | _ => none
noncomputable def F_w_szCandidate : FnT
  | [.pls [⟨(.int .i64), a0⟩, ⟨(.int .i64), a1⟩, ⟨(.int .i64), a2⟩, ⟨.bool, a3⟩, ⟨(.sl (.one (.int .i64))), a4⟩, ⟨(.sl (.one (.int .i64))), a5⟩, ⟨.bool, a6⟩, ⟨(.sl (.one (.int .i64))), a7⟩, ⟨(.sl (.one (.int .i64))), a8⟩, ⟨(.int .i64), a9⟩], .pls [⟨i6, left⟩]] => some (C.wl [⟨(.int .i64), a0⟩, ⟨(.int .i64), a1⟩, ⟨(.int .i64), a2⟩, ⟨.bool, a3⟩, ⟨(.sl (.one (.int .i64))), a4⟩, ⟨(.sl (.one (.int .i64))), a5⟩, ⟨.bool, a6⟩, ⟨(.sl (.one (.int .i64))), a7⟩, ⟨(.sl (.one (.int .i64))), a8⟩, ⟨(.int .i64), a9⟩] && C.okLeft left, [[⟨i6, C.sz [⟨(.int .i64), a0⟩, ⟨(.int .i64), a1⟩, ⟨(.int .i64), a2⟩, ⟨.bool, a3⟩, ⟨(.sl (.one (.int .i64))), a4⟩, ⟨(.sl (.one (.int .i64))), a5⟩, ⟨.bool, a6⟩, ⟨(.sl (.one (.int .i64))), a7⟩, ⟨(.sl (.one (.int .i64))), a8⟩, ⟨(.int .i64), a9⟩] left⟩]])
  | _ => none
noncomputable def F_w_szCandidateS : FnT
  | [.pls [⟨(.sl (.cons (.int .i64) (.cons (.int .i64) (.cons (.int .i64) (.cons .bool (.cons (.sl (.one (.int .i64))) (.cons (.sl (.one (.int .i64))) (.cons .bool (.cons (.sl (.one (.int .i64))) (.cons (.sl (.one (.int .i64))) (.one (.int .i64)))))))))))), a0⟩], .pls [⟨i6, left⟩]] => some (C.wl [⟨(.sl (.cons (.int .i64) (.cons (.int .i64) (.cons (.int .i64) (.cons .bool (.cons (.sl (.one (.int .i64))) (.cons (.sl (.one (.int .i64))) (.cons .bool (.cons (.sl (.one (.int .i64))) (.cons (.sl (.one (.int .i64))) (.one (.int .i64)))))))))))), a0⟩] && C.okLeft left, [[⟨i6, C.sz [⟨(.sl (.cons (.int .i64) (.cons (.int .i64) (.cons (.int .i64) (.cons .bool (.cons (.sl (.one (.int .i64))) (.cons (.sl (.one (.int .i64))) (.cons .bool (.cons (.sl (.one (.int .i64))) (.cons (.sl (.one (.int .i64))) (.one (.int .i64)))))))))))), a0⟩] left⟩]])
  | _ => none
noncomputable def F_w_szRatS : FnT
  | [.pls [⟨(.sl (.cons .bool (.cons (.sl (.one (.int .i64))) (.one (.sl (.one (.int .i64))))))), a0⟩], .pls [⟨i6, left⟩]] => some (C.wl [⟨(.sl (.cons .bool (.cons (.sl (.one (.int .i64))) (.one (.sl (.one (.int .i64))))))), a0⟩] && C.okLeft left, [[⟨i6, C.sz [⟨(.sl (.cons .bool (.cons (.sl (.one (.int .i64))) (.one (.sl (.one (.int .i64))))))), a0⟩] left⟩]])
  | _ => none
noncomputable def F_w_szMatrix : FnT
  | [.pls [⟨(.int .i64), a0⟩, ⟨(.int .i64), a1⟩, ⟨(.sl (.cons .bool (.cons (.sl (.one (.int .i64))) (.one (.sl (.one (.int .i64))))))), a2⟩], .pls [⟨i6, left⟩]] => some (C.wl [⟨(.int .i64), a0⟩, ⟨(.int .i64), a1⟩, ⟨(.sl (.cons .bool (.cons (.sl (.one (.int .i64))) (.one (.sl (.one (.int .i64))))))), a2⟩] && C.okLeft left, [[⟨i6, C.sz [⟨(.int .i64), a0⟩, ⟨(.int .i64), a1⟩, ⟨(.sl (.cons .bool (.cons (.sl (.one (.int .i64))) (.one (.sl (.one (.int .i64))))))), a2⟩] left⟩]])
  | _ => none
noncomputable def F_w_szEstimate : FnT
  | [.pls [⟨(.sl (.cons .bool (.cons (.sl (.one (.int .i64))) (.one (.sl (.one (.int .i64))))))), a0⟩, ⟨(.int .i64), a1⟩, ⟨(.int .i64), a2⟩, ⟨(.sl (.cons .bool (.cons (.sl (.one (.int .i64))) (.one (.sl (.one (.int .i64))))))), a3⟩], .pls [⟨i6, left⟩]] => some (C.wl [⟨(.sl (.cons .bool (.cons (.sl (.one (.int .i64))) (.one (.sl (.one (.int .i64))))))), a0⟩, ⟨(.int .i64), a1⟩, ⟨(.int .i64), a2⟩, ⟨(.sl (.cons .bool (.cons (.sl (.one (.int .i64))) (.one (.sl (.one (.int .i64))))))), a3⟩] && C.okLeft left, [[⟨i6, C.sz [⟨(.sl (.cons .bool (.cons (.sl (.one (.int .i64))) (.one (.sl (.one (.int .i64))))))), a0⟩, ⟨(.int .i64), a1⟩, ⟨(.int .i64), a2⟩, ⟨(.sl (.cons .bool (.cons (.sl (.one (.int .i64))) (.one (.sl (.one (.int .i64))))))), a3⟩] left⟩]])
  | _ => none
noncomputable def F_w_toIntS : FnT
  | [.pls [⟨(.sl (.one (.int .i64))), a0⟩]] => some (C.lim [⟨(.sl (.one (.int .i64))), a0⟩], [[⟨(.sl (.one (.int .i64))), a0⟩]])
  | _ => none
noncomputable def F_w_toBigInt : FnT
  | [.pls [⟨.bool, a0⟩, ⟨(.sl (.one (.int .i64))), a1⟩]] => some (C.lim [⟨.bool, a0⟩, ⟨(.sl (.one (.int .i64))), a1⟩], [[⟨.bool, a0⟩, ⟨(.sl (.one (.int .i64))), a1⟩]])
  | _ => none
noncomputable def F_w_toRat : FnT
  | [.pls [⟨.bool, a0⟩, ⟨(.sl (.one (.int .i64))), a1⟩, ⟨(.sl (.one (.int .i64))), a2⟩]] => some (C.lim [⟨.bool, a0⟩, ⟨(.sl (.one (.int .i64))), a1⟩, ⟨(.sl (.one (.int .i64))), a2⟩], [[⟨.bool, a0⟩, ⟨(.sl (.one (.int .i64))), a1⟩, ⟨(.sl (.one (.int .i64))), a2⟩]])
  | _ => none
noncomputable def F_w_toObservation : FnT
  | [.pls [⟨(.int .i64), a0⟩, ⟨(.int .i64), a1⟩, ⟨(.int .i64), a2⟩, ⟨.bool, a3⟩, ⟨(.sl (.one (.int .i64))), a4⟩, ⟨(.sl (.one (.int .i64))), a5⟩, ⟨.bool, a6⟩, ⟨(.sl (.one (.int .i64))), a7⟩, ⟨(.sl (.one (.int .i64))), a8⟩]] => some (C.lim [⟨(.int .i64), a0⟩, ⟨(.int .i64), a1⟩, ⟨(.int .i64), a2⟩, ⟨.bool, a3⟩, ⟨(.sl (.one (.int .i64))), a4⟩, ⟨(.sl (.one (.int .i64))), a5⟩, ⟨.bool, a6⟩, ⟨(.sl (.one (.int .i64))), a7⟩, ⟨(.sl (.one (.int .i64))), a8⟩], [[⟨(.int .i64), a0⟩, ⟨(.int .i64), a1⟩, ⟨(.int .i64), a2⟩, ⟨.bool, a3⟩, ⟨(.sl (.one (.int .i64))), a4⟩, ⟨(.sl (.one (.int .i64))), a5⟩, ⟨.bool, a6⟩, ⟨(.sl (.one (.int .i64))), a7⟩, ⟨(.sl (.one (.int .i64))), a8⟩]])
  | _ => none
noncomputable def F_w_toCandidate : FnT
  | [.pls [⟨(.int .i64), a0⟩, ⟨(.int .i64), a1⟩, ⟨(.int .i64), a2⟩, ⟨.bool, a3⟩, ⟨(.sl (.one (.int .i64))), a4⟩, ⟨(.sl (.one (.int .i64))), a5⟩, ⟨.bool, a6⟩, ⟨(.sl (.one (.int .i64))), a7⟩, ⟨(.sl (.one (.int .i64))), a8⟩, ⟨(.int .i64), a9⟩]] => some (C.lim [⟨(.int .i64), a0⟩, ⟨(.int .i64), a1⟩, ⟨(.int .i64), a2⟩, ⟨.bool, a3⟩, ⟨(.sl (.one (.int .i64))), a4⟩, ⟨(.sl (.one (.int .i64))), a5⟩, ⟨.bool, a6⟩, ⟨(.sl (.one (.int .i64))), a7⟩, ⟨(.sl (.one (.int .i64))), a8⟩, ⟨(.int .i64), a9⟩], [[⟨(.int .i64), a0⟩, ⟨(.int .i64), a1⟩, ⟨(.int .i64), a2⟩, ⟨.bool, a3⟩, ⟨(.sl (.one (.int .i64))), a4⟩, ⟨(.sl (.one (.int .i64))), a5⟩, ⟨.bool, a6⟩, ⟨(.sl (.one (.int .i64))), a7⟩, ⟨(.sl (.one (.int .i64))), a8⟩, ⟨(.int .i64), a9⟩]])
  | _ => none
noncomputable def F_w_toCandidateS : FnT
  | [.pls [⟨(.sl (.cons (.int .i64) (.cons (.int .i64) (.cons (.int .i64) (.cons .bool (.cons (.sl (.one (.int .i64))) (.cons (.sl (.one (.int .i64))) (.cons .bool (.cons (.sl (.one (.int .i64))) (.cons (.sl (.one (.int .i64))) (.one (.int .i64)))))))))))), a0⟩]] => some (C.lim [⟨(.sl (.cons (.int .i64) (.cons (.int .i64) (.cons (.int .i64) (.cons .bool (.cons (.sl (.one (.int .i64))) (.cons (.sl (.one (.int .i64))) (.cons .bool (.cons (.sl (.one (.int .i64))) (.cons (.sl (.one (.int .i64))) (.one (.int .i64)))))))))))), a0⟩], [[⟨(.sl (.cons (.int .i64) (.cons (.int .i64) (.cons (.int .i64) (.cons .bool (.cons (.sl (.one (.int .i64))) (.cons (.sl (.one (.int .i64))) (.cons .bool (.cons (.sl (.one (.int .i64))) (.cons (.sl (.one (.int .i64))) (.one (.int .i64)))))))))))), a0⟩]])
  | _ => none
noncomputable def F_w_toRatS : FnT
  | [.pls [⟨(.sl (.cons .bool (.cons (.sl (.one (.int .i64))) (.one (.sl (.one (.int .i64))))))), a0⟩]] => some (C.lim [⟨(.sl (.cons .bool (.cons (.sl (.one (.int .i64))) (.one (.sl (.one (.int .i64))))))), a0⟩], [[⟨(.sl (.cons .bool (.cons (.sl (.one (.int .i64))) (.one (.sl (.one (.int .i64))))))), a0⟩]])
  | _ => none
noncomputable def F_w_toMatrix : FnT
  | [.pls [⟨(.int .i64), a0⟩, ⟨(.int .i64), a1⟩, ⟨(.sl (.cons .bool (.cons (.sl (.one (.int .i64))) (.one (.sl (.one (.int .i64))))))), a2⟩]] => some (C.lim [⟨(.int .i64), a0⟩, ⟨(.int .i64), a1⟩, ⟨(.sl (.cons .bool (.cons (.sl (.one (.int .i64))) (.one (.sl (.one (.int .i64))))))), a2⟩], [[⟨(.int .i64), a0⟩, ⟨(.int .i64), a1⟩, ⟨(.sl (.cons .bool (.cons (.sl (.one (.int .i64))) (.one (.sl (.one (.int .i64))))))), a2⟩]])
  | _ => none
noncomputable def F_w_toEstimate : FnT
  | [.pls [⟨(.sl (.cons .bool (.cons (.sl (.one (.int .i64))) (.one (.sl (.one (.int .i64))))))), a0⟩, ⟨(.int .i64), a1⟩, ⟨(.int .i64), a2⟩, ⟨(.sl (.cons .bool (.cons (.sl (.one (.int .i64))) (.one (.sl (.one (.int .i64))))))), a3⟩]] => some (C.lim [⟨(.sl (.cons .bool (.cons (.sl (.one (.int .i64))) (.one (.sl (.one (.int .i64))))))), a0⟩, ⟨(.int .i64), a1⟩, ⟨(.int .i64), a2⟩, ⟨(.sl (.cons .bool (.cons (.sl (.one (.int .i64))) (.one (.sl (.one (.int .i64))))))), a3⟩], [[⟨(.sl (.cons .bool (.cons (.sl (.one (.int .i64))) (.one (.sl (.one (.int .i64))))))), a0⟩, ⟨(.int .i64), a1⟩, ⟨(.int .i64), a2⟩, ⟨(.sl (.cons .bool (.cons (.sl (.one (.int .i64))) (.one (.sl (.one (.int .i64))))))), a3⟩]])
  | _ => none
noncomputable def F_w_eqIntS : FnT
  | [.pls [⟨(.sl (.one (.int .i64))), a0⟩], .pls [⟨(.sl (.one (.int .i64))), b0⟩]] => some (C.lim [⟨(.sl (.one (.int .i64))), a0⟩] && C.lim [⟨(.sl (.one (.int .i64))), b0⟩], [[⟨.bool, C.eqPs [⟨(.sl (.one (.int .i64))), a0⟩] [⟨(.sl (.one (.int .i64))), b0⟩]⟩]])
  | _ => none
noncomputable def F_w_eqBigInt : FnT
  | [.pls [⟨.bool, a0⟩, ⟨(.sl (.one (.int .i64))), a1⟩], .pls [⟨.bool, b0⟩, ⟨(.sl (.one (.int .i64))), b1⟩]] => some (C.lim [⟨.bool, a0⟩, ⟨(.sl (.one (.int .i64))), a1⟩] && C.lim [⟨.bool, b0⟩, ⟨(.sl (.one (.int .i64))), b1⟩], [[⟨.bool, C.eqPs [⟨.bool, a0⟩, ⟨(.sl (.one (.int .i64))), a1⟩] [⟨.bool, b0⟩, ⟨(.sl (.one (.int .i64))), b1⟩]⟩]])
  | _ => none
noncomputable def F_w_eqRat : FnT
  | [.pls [⟨.bool, a0⟩, ⟨(.sl (.one (.int .i64))), a1⟩, ⟨(.sl (.one (.int .i64))), a2⟩], .pls [⟨.bool, b0⟩, ⟨(.sl (.one (.int .i64))), b1⟩, ⟨(.sl (.one (.int .i64))), b2⟩]] => some (C.lim [⟨.bool, a0⟩, ⟨(.sl (.one (.int .i64))), a1⟩, ⟨(.sl (.one (.int .i64))), a2⟩] && C.lim [⟨.bool, b0⟩, ⟨(.sl (.one (.int .i64))), b1⟩, ⟨(.sl (.one (.int .i64))), b2⟩], [[⟨.bool, C.eqPs [⟨.bool, a0⟩, ⟨(.sl (.one (.int .i64))), a1⟩, ⟨(.sl (.one (.int .i64))), a2⟩] [⟨.bool, b0⟩, ⟨(.sl (.one (.int .i64))), b1⟩, ⟨(.sl (.one (.int .i64))), b2⟩]⟩]])
  | _ => none
noncomputable def F_w_eqObservation : FnT
  | [.pls [⟨(.int .i64), a0⟩, ⟨(.int .i64), a1⟩, ⟨(.int .i64), a2⟩, ⟨.bool, a3⟩, ⟨(.sl (.one (.int .i64))), a4⟩, ⟨(.sl (.one (.int .i64))), a5⟩, ⟨.bool, a6⟩, ⟨(.sl (.one (.int .i64))), a7⟩, ⟨(.sl (.one (.int .i64))), a8⟩], .pls [⟨(.int .i64), b0⟩, ⟨(.int .i64), b1⟩, ⟨(.int .i64), b2⟩, ⟨.bool, b3⟩, ⟨(.sl (.one (.int .i64))), b4⟩, ⟨(.sl (.one (.int .i64))), b5⟩, ⟨.bool, b6⟩, ⟨(.sl (.one (.int .i64))), b7⟩, ⟨(.sl (.one (.int .i64))), b8⟩]] => some (C.lim [⟨(.int .i64), a0⟩, ⟨(.int .i64), a1⟩, ⟨(.int .i64), a2⟩, ⟨.bool, a3⟩, ⟨(.sl (.one (.int .i64))), a4⟩, ⟨(.sl (.one (.int .i64))), a5⟩, ⟨.bool, a6⟩, ⟨(.sl (.one (.int .i64))), a7⟩, ⟨(.sl (.one (.int .i64))), a8⟩] && C.lim [⟨(.int .i64), b0⟩, ⟨(.int .i64), b1⟩, ⟨(.int .i64), b2⟩, ⟨.bool, b3⟩, ⟨(.sl (.one (.int .i64))), b4⟩, ⟨(.sl (.one (.int .i64))), b5⟩, ⟨.bool, b6⟩, ⟨(.sl (.one (.int .i64))), b7⟩, ⟨(.sl (.one (.int .i64))), b8⟩], [[⟨.bool, C.eqPs [⟨(.int .i64), a0⟩, ⟨(.int .i64), a1⟩, ⟨(.int .i64), a2⟩, ⟨.bool, a3⟩, ⟨(.sl (.one (.int .i64))), a4⟩, ⟨(.sl (.one (.int .i64))), a5⟩, ⟨.bool, a6⟩, ⟨(.sl (.one (.int .i64))), a7⟩, ⟨(.sl (.one (.int .i64))), a8⟩] [⟨(.int .i64), b0⟩, ⟨(.int .i64), b1⟩, ⟨(.int .i64), b2⟩, ⟨.bool, b3⟩, ⟨(.sl (.one (.int .i64))), b4⟩, ⟨(.sl (.one (.int .i64))), b5⟩, ⟨.bool, b6⟩, ⟨(.sl (.one (.int .i64))), b7⟩, ⟨(.sl (.one (.int .i64))), b8⟩]⟩]])
  | _ => none
noncomputable def F_w_eqCandidate : FnT
  | [.pls [⟨(.int .i64), a0⟩, ⟨(.int .i64), a1⟩, ⟨(.int .i64), a2⟩, ⟨.bool, a3⟩, ⟨(.sl (.one (.int .i64))), a4⟩, ⟨(.sl (.one (.int .i64))), a5⟩, ⟨.bool, a6⟩, ⟨(.sl (.one (.int .i64))), a7⟩, ⟨(.sl (.one (.int .i64))), a8⟩, ⟨(.int .i64), a9⟩], .pls [⟨(.int .i64), b0⟩, ⟨(.int .i64), b1⟩, ⟨(.int .i64), b2⟩, ⟨.bool, b3⟩, ⟨(.sl (.one (.int .i64))), b4⟩, ⟨(.sl (.one (.int .i64))), b5⟩, ⟨.bool, b6⟩, ⟨(.sl (.one (.int .i64))), b7⟩, ⟨(.sl (.one (.int .i64))), b8⟩, ⟨(.int .i64), b9⟩]] => some (C.lim [⟨(.int .i64), a0⟩, ⟨(.int .i64), a1⟩, ⟨(.int .i64), a2⟩, ⟨.bool, a3⟩, ⟨(.sl (.one (.int .i64))), a4⟩, ⟨(.sl (.one (.int .i64))), a5⟩, ⟨.bool, a6⟩, ⟨(.sl (.one (.int .i64))), a7⟩, ⟨(.sl (.one (.int .i64))), a8⟩, ⟨(.int .i64), a9⟩] && C.lim [⟨(.int .i64), b0⟩, ⟨(.int .i64), b1⟩, ⟨(.int .i64), b2⟩, ⟨.bool, b3⟩, ⟨(.sl (.one (.int .i64))), b4⟩, ⟨(.sl (.one (.int .i64))), b5⟩, ⟨.bool, b6⟩, ⟨(.sl (.one (.int .i64))), b7⟩, ⟨(.sl (.one (.int .i64))), b8⟩, ⟨(.int .i64), b9⟩], [[⟨.bool, C.eqPs [⟨(.int .i64), a0⟩, ⟨(.int .i64), a1⟩, ⟨(.int .i64), a2⟩, ⟨.bool, a3⟩, ⟨(.sl (.one (.int .i64))), a4⟩, ⟨(.sl (.one (.int .i64))), a5⟩, ⟨.bool, a6⟩, ⟨(.sl (.one (.int .i64))), a7⟩, ⟨(.sl (.one (.int .i64))), a8⟩, ⟨(.int .i64), a9⟩] [⟨(.int .i64), b0⟩, ⟨(.int .i64), b1⟩, ⟨(.int .i64), b2⟩, ⟨.bool, b3⟩, ⟨(.sl (.one (.int .i64))), b4⟩, ⟨(.sl (.one (.int .i64))), b5⟩, ⟨.bool, b6⟩, ⟨(.sl (.one (.int .i64))), b7⟩, ⟨(.sl (.one (.int .i64))), b8⟩, ⟨(.int .i64), b9⟩]⟩]])
  | _ => none
noncomputable def F_w_eqCandidateS : FnT
  | [.pls [⟨(.sl (.cons (.int .i64) (.cons (.int .i64) (.cons (.int .i64) (.cons .bool (.cons (.sl (.one (.int .i64))) (.cons (.sl (.one (.int .i64))) (.cons .bool (.cons (.sl (.one (.int .i64))) (.cons (.sl (.one (.int .i64))) (.one (.int .i64)))))))))))), a0⟩], .pls [⟨(.sl (.cons (.int .i64) (.cons (.int .i64) (.cons (.int .i64) (.cons .bool (.cons (.sl (.one (.int .i64))) (.cons (.sl (.one (.int .i64))) (.cons .bool (.cons (.sl (.one (.int .i64))) (.cons (.sl (.one (.int .i64))) (.one (.int .i64)))))))))))), b0⟩]] => some (C.lim [⟨(.sl (.cons (.int .i64) (.cons (.int .i64) (.cons (.int .i64) (.cons .bool (.cons (.sl (.one (.int .i64))) (.cons (.sl (.one (.int .i64))) (.cons .bool (.cons (.sl (.one (.int .i64))) (.cons (.sl (.one (.int .i64))) (.one (.int .i64)))))))))))), a0⟩] && C.lim [⟨(.sl (.cons (.int .i64) (.cons (.int .i64) (.cons (.int .i64) (.cons .bool (.cons (.sl (.one (.int .i64))) (.cons (.sl (.one (.int .i64))) (.cons .bool (.cons (.sl (.one (.int .i64))) (.cons (.sl (.one (.int .i64))) (.one (.int .i64)))))))))))), b0⟩], [[⟨.bool, C.eqPs [⟨(.sl (.cons (.int .i64) (.cons (.int .i64) (.cons (.int .i64) (.cons .bool (.cons (.sl (.one (.int .i64))) (.cons (.sl (.one (.int .i64))) (.cons .bool (.cons (.sl (.one (.int .i64))) (.cons (.sl (.one (.int .i64))) (.one (.int .i64)))))))))))), a0⟩] [⟨(.sl (.cons (.int .i64) (.cons (.int .i64) (.cons (.int .i64) (.cons .bool (.cons (.sl (.one (.int .i64))) (.cons (.sl (.one (.int .i64))) (.cons .bool (.cons (.sl (.one (.int .i64))) (.cons (.sl (.one (.int .i64))) (.one (.int .i64)))))))))))), b0⟩]⟩]])
  | _ => none
noncomputable def F_w_eqRatS : FnT
  | [.pls [⟨(.sl (.cons .bool (.cons (.sl (.one (.int .i64))) (.one (.sl (.one (.int .i64))))))), a0⟩], .pls [⟨(.sl (.cons .bool (.cons (.sl (.one (.int .i64))) (.one (.sl (.one (.int .i64))))))), b0⟩]] => some (C.lim [⟨(.sl (.cons .bool (.cons (.sl (.one (.int .i64))) (.one (.sl (.one (.int .i64))))))), a0⟩] && C.lim [⟨(.sl (.cons .bool (.cons (.sl (.one (.int .i64))) (.one (.sl (.one (.int .i64))))))), b0⟩], [[⟨.bool, C.eqPs [⟨(.sl (.cons .bool (.cons (.sl (.one (.int .i64))) (.one (.sl (.one (.int .i64))))))), a0⟩] [⟨(.sl (.cons .bool (.cons (.sl (.one (.int .i64))) (.one (.sl (.one (.int .i64))))))), b0⟩]⟩]])
  | _ => none
noncomputable def F_w_eqMatrix : FnT
  | [.pls [⟨(.int .i64), a0⟩, ⟨(.int .i64), a1⟩, ⟨(.sl (.cons .bool (.cons (.sl (.one (.int .i64))) (.one (.sl (.one (.int .i64))))))), a2⟩], .pls [⟨(.int .i64), b0⟩, ⟨(.int .i64), b1⟩, ⟨(.sl (.cons .bool (.cons (.sl (.one (.int .i64))) (.one (.sl (.one (.int .i64))))))), b2⟩]] => some (C.lim [⟨(.int .i64), a0⟩, ⟨(.int .i64), a1⟩, ⟨(.sl (.cons .bool (.cons (.sl (.one (.int .i64))) (.one (.sl (.one (.int .i64))))))), a2⟩] && C.lim [⟨(.int .i64), b0⟩, ⟨(.int .i64), b1⟩, ⟨(.sl (.cons .bool (.cons (.sl (.one (.int .i64))) (.one (.sl (.one (.int .i64))))))), b2⟩], [[⟨.bool, C.eqPs [⟨(.int .i64), a0⟩, ⟨(.int .i64), a1⟩, ⟨(.sl (.cons .bool (.cons (.sl (.one (.int .i64))) (.one (.sl (.one (.int .i64))))))), a2⟩] [⟨(.int .i64), b0⟩, ⟨(.int .i64), b1⟩, ⟨(.sl (.cons .bool (.cons (.sl (.one (.int .i64))) (.one (.sl (.one (.int .i64))))))), b2⟩]⟩]])
  | _ => none
noncomputable def F_w_eqEstimate : FnT
  | [.pls [⟨(.sl (.cons .bool (.cons (.sl (.one (.int .i64))) (.one (.sl (.one (.int .i64))))))), a0⟩, ⟨(.int .i64), a1⟩, ⟨(.int .i64), a2⟩, ⟨(.sl (.cons .bool (.cons (.sl (.one (.int .i64))) (.one (.sl (.one (.int .i64))))))), a3⟩], .pls [⟨(.sl (.cons .bool (.cons (.sl (.one (.int .i64))) (.one (.sl (.one (.int .i64))))))), b0⟩, ⟨(.int .i64), b1⟩, ⟨(.int .i64), b2⟩, ⟨(.sl (.cons .bool (.cons (.sl (.one (.int .i64))) (.one (.sl (.one (.int .i64))))))), b3⟩]] => some (C.lim [⟨(.sl (.cons .bool (.cons (.sl (.one (.int .i64))) (.one (.sl (.one (.int .i64))))))), a0⟩, ⟨(.int .i64), a1⟩, ⟨(.int .i64), a2⟩, ⟨(.sl (.cons .bool (.cons (.sl (.one (.int .i64))) (.one (.sl (.one (.int .i64))))))), a3⟩] && C.lim [⟨(.sl (.cons .bool (.cons (.sl (.one (.int .i64))) (.one (.sl (.one (.int .i64))))))), b0⟩, ⟨(.int .i64), b1⟩, ⟨(.int .i64), b2⟩, ⟨(.sl (.cons .bool (.cons (.sl (.one (.int .i64))) (.one (.sl (.one (.int .i64))))))), b3⟩], [[⟨.bool, C.eqPs [⟨(.sl (.cons .bool (.cons (.sl (.one (.int .i64))) (.one (.sl (.one (.int .i64))))))), a0⟩, ⟨(.int .i64), a1⟩, ⟨(.int .i64), a2⟩, ⟨(.sl (.cons .bool (.cons (.sl (.one (.int .i64))) (.one (.sl (.one (.int .i64))))))), a3⟩] [⟨(.sl (.cons .bool (.cons (.sl (.one (.int .i64))) (.one (.sl (.one (.int .i64))))))), b0⟩, ⟨(.int .i64), b1⟩, ⟨(.int .i64), b2⟩, ⟨(.sl (.cons .bool (.cons (.sl (.one (.int .i64))) (.one (.sl (.one (.int .i64))))))), b3⟩]⟩]])
  | _ => none
noncomputable def F_i_sameInts : FnT
  | [.pls [⟨(.sl (.one (.int .i64))), a0⟩], .pls [⟨(.sl (.one (.int .i64))), b0⟩]] => some (C.lim [⟨(.sl (.one (.int .i64))), a0⟩] && C.lim [⟨(.sl (.one (.int .i64))), b0⟩], [[⟨.bool, C.eqPs [⟨(.sl (.one (.int .i64))), a0⟩] [⟨(.sl (.one (.int .i64))), b0⟩]⟩]])
  | _ => none
noncomputable def F_s_l04List : FnT
  | [.pls [⟨(.sl (.one (.int .i64))), a0⟩], .pls [⟨(.sl (.one (.int .i64))), b0⟩]] => some (C.lim [⟨(.sl (.one (.int .i64))), a0⟩] && C.lim [⟨(.sl (.one (.int .i64))), b0⟩], [[⟨.bool, C.eqPs [⟨(.sl (.one (.int .i64))), a0⟩] [⟨(.sl (.one (.int .i64))), b0⟩]⟩]])
  | _ => none
noncomputable def F_i_RatEqual : FnT
  | [.pls [⟨.bool, a0⟩, ⟨(.sl (.one (.int .i64))), a1⟩, ⟨(.sl (.one (.int .i64))), a2⟩], .pls [⟨.bool, b0⟩, ⟨(.sl (.one (.int .i64))), b1⟩, ⟨(.sl (.one (.int .i64))), b2⟩]] => some (C.lim [⟨.bool, a0⟩, ⟨(.sl (.one (.int .i64))), a1⟩, ⟨(.sl (.one (.int .i64))), a2⟩] && C.lim [⟨.bool, b0⟩, ⟨(.sl (.one (.int .i64))), b1⟩, ⟨(.sl (.one (.int .i64))), b2⟩], [[⟨.bool, C.eqPs [⟨.bool, a0⟩, ⟨(.sl (.one (.int .i64))), a1⟩, ⟨(.sl (.one (.int .i64))), a2⟩] [⟨.bool, b0⟩, ⟨(.sl (.one (.int .i64))), b1⟩, ⟨(.sl (.one (.int .i64))), b2⟩]⟩]])
  | _ => none
noncomputable def F_s_RatEqual : FnT
  | [.pls [⟨.bool, a0⟩, ⟨(.sl (.one (.int .i64))), a1⟩, ⟨(.sl (.one (.int .i64))), a2⟩], .pls [⟨.bool, b0⟩, ⟨(.sl (.one (.int .i64))), b1⟩, ⟨(.sl (.one (.int .i64))), b2⟩]] => some (C.lim [⟨.bool, a0⟩, ⟨(.sl (.one (.int .i64))), a1⟩, ⟨(.sl (.one (.int .i64))), a2⟩] && C.lim [⟨.bool, b0⟩, ⟨(.sl (.one (.int .i64))), b1⟩, ⟨(.sl (.one (.int .i64))), b2⟩], [[⟨.bool, C.eqPs [⟨.bool, a0⟩, ⟨(.sl (.one (.int .i64))), a1⟩, ⟨(.sl (.one (.int .i64))), a2⟩] [⟨.bool, b0⟩, ⟨(.sl (.one (.int .i64))), b1⟩, ⟨(.sl (.one (.int .i64))), b2⟩]⟩]])
  | _ => none
noncomputable def F_i_EqualVectors : FnT
  | [.pls [⟨(.sl (.cons .bool (.cons (.sl (.one (.int .i64))) (.one (.sl (.one (.int .i64))))))), a0⟩], .pls [⟨(.sl (.cons .bool (.cons (.sl (.one (.int .i64))) (.one (.sl (.one (.int .i64))))))), b0⟩]] => some (C.lim [⟨(.sl (.cons .bool (.cons (.sl (.one (.int .i64))) (.one (.sl (.one (.int .i64))))))), a0⟩] && C.lim [⟨(.sl (.cons .bool (.cons (.sl (.one (.int .i64))) (.one (.sl (.one (.int .i64))))))), b0⟩], [[⟨.bool, C.eqPs [⟨(.sl (.cons .bool (.cons (.sl (.one (.int .i64))) (.one (.sl (.one (.int .i64))))))), a0⟩] [⟨(.sl (.cons .bool (.cons (.sl (.one (.int .i64))) (.one (.sl (.one (.int .i64))))))), b0⟩]⟩]])
  | _ => none
noncomputable def F_s_EqualVectors : FnT
  | [.pls [⟨(.sl (.cons .bool (.cons (.sl (.one (.int .i64))) (.one (.sl (.one (.int .i64))))))), a0⟩], .pls [⟨(.sl (.cons .bool (.cons (.sl (.one (.int .i64))) (.one (.sl (.one (.int .i64))))))), b0⟩]] => some (C.lim [⟨(.sl (.cons .bool (.cons (.sl (.one (.int .i64))) (.one (.sl (.one (.int .i64))))))), a0⟩] && C.lim [⟨(.sl (.cons .bool (.cons (.sl (.one (.int .i64))) (.one (.sl (.one (.int .i64))))))), b0⟩], [[⟨.bool, C.eqPs [⟨(.sl (.cons .bool (.cons (.sl (.one (.int .i64))) (.one (.sl (.one (.int .i64))))))), a0⟩] [⟨(.sl (.cons .bool (.cons (.sl (.one (.int .i64))) (.one (.sl (.one (.int .i64))))))), b0⟩]⟩]])
  | _ => none
noncomputable def F_i_EqualMatrices : FnT
  | [.pls [⟨(.int .i64), a0⟩, ⟨(.int .i64), a1⟩, ⟨(.sl (.cons .bool (.cons (.sl (.one (.int .i64))) (.one (.sl (.one (.int .i64))))))), a2⟩], .pls [⟨(.int .i64), b0⟩, ⟨(.int .i64), b1⟩, ⟨(.sl (.cons .bool (.cons (.sl (.one (.int .i64))) (.one (.sl (.one (.int .i64))))))), b2⟩]] => some (C.lim [⟨(.int .i64), a0⟩, ⟨(.int .i64), a1⟩, ⟨(.sl (.cons .bool (.cons (.sl (.one (.int .i64))) (.one (.sl (.one (.int .i64))))))), a2⟩] && C.lim [⟨(.int .i64), b0⟩, ⟨(.int .i64), b1⟩, ⟨(.sl (.cons .bool (.cons (.sl (.one (.int .i64))) (.one (.sl (.one (.int .i64))))))), b2⟩], [[⟨.bool, C.eqPs [⟨(.int .i64), a0⟩, ⟨(.int .i64), a1⟩, ⟨(.sl (.cons .bool (.cons (.sl (.one (.int .i64))) (.one (.sl (.one (.int .i64))))))), a2⟩] [⟨(.int .i64), b0⟩, ⟨(.int .i64), b1⟩, ⟨(.sl (.cons .bool (.cons (.sl (.one (.int .i64))) (.one (.sl (.one (.int .i64))))))), b2⟩]⟩]])
  | _ => none
noncomputable def F_s_EqualMatrices : FnT
  | [.pls [⟨(.int .i64), a0⟩, ⟨(.int .i64), a1⟩, ⟨(.sl (.cons .bool (.cons (.sl (.one (.int .i64))) (.one (.sl (.one (.int .i64))))))), a2⟩], .pls [⟨(.int .i64), b0⟩, ⟨(.int .i64), b1⟩, ⟨(.sl (.cons .bool (.cons (.sl (.one (.int .i64))) (.one (.sl (.one (.int .i64))))))), b2⟩]] => some (C.lim [⟨(.int .i64), a0⟩, ⟨(.int .i64), a1⟩, ⟨(.sl (.cons .bool (.cons (.sl (.one (.int .i64))) (.one (.sl (.one (.int .i64))))))), a2⟩] && C.lim [⟨(.int .i64), b0⟩, ⟨(.int .i64), b1⟩, ⟨(.sl (.cons .bool (.cons (.sl (.one (.int .i64))) (.one (.sl (.one (.int .i64))))))), b2⟩], [[⟨.bool, C.eqPs [⟨(.int .i64), a0⟩, ⟨(.int .i64), a1⟩, ⟨(.sl (.cons .bool (.cons (.sl (.one (.int .i64))) (.one (.sl (.one (.int .i64))))))), a2⟩] [⟨(.int .i64), b0⟩, ⟨(.int .i64), b1⟩, ⟨(.sl (.cons .bool (.cons (.sl (.one (.int .i64))) (.one (.sl (.one (.int .i64))))))), b2⟩]⟩]])
  | _ => none
noncomputable def F_i_SameEstimates : FnT
  | [.pls [⟨(.sl (.cons .bool (.cons (.sl (.one (.int .i64))) (.one (.sl (.one (.int .i64))))))), a0⟩, ⟨(.int .i64), a1⟩, ⟨(.int .i64), a2⟩, ⟨(.sl (.cons .bool (.cons (.sl (.one (.int .i64))) (.one (.sl (.one (.int .i64))))))), a3⟩], .pls [⟨(.sl (.cons .bool (.cons (.sl (.one (.int .i64))) (.one (.sl (.one (.int .i64))))))), b0⟩, ⟨(.int .i64), b1⟩, ⟨(.int .i64), b2⟩, ⟨(.sl (.cons .bool (.cons (.sl (.one (.int .i64))) (.one (.sl (.one (.int .i64))))))), b3⟩]] => some (C.lim [⟨(.sl (.cons .bool (.cons (.sl (.one (.int .i64))) (.one (.sl (.one (.int .i64))))))), a0⟩, ⟨(.int .i64), a1⟩, ⟨(.int .i64), a2⟩, ⟨(.sl (.cons .bool (.cons (.sl (.one (.int .i64))) (.one (.sl (.one (.int .i64))))))), a3⟩] && C.lim [⟨(.sl (.cons .bool (.cons (.sl (.one (.int .i64))) (.one (.sl (.one (.int .i64))))))), b0⟩, ⟨(.int .i64), b1⟩, ⟨(.int .i64), b2⟩, ⟨(.sl (.cons .bool (.cons (.sl (.one (.int .i64))) (.one (.sl (.one (.int .i64))))))), b3⟩], [[⟨.bool, C.eqPs [⟨(.sl (.cons .bool (.cons (.sl (.one (.int .i64))) (.one (.sl (.one (.int .i64))))))), a0⟩, ⟨(.int .i64), a1⟩, ⟨(.int .i64), a2⟩, ⟨(.sl (.cons .bool (.cons (.sl (.one (.int .i64))) (.one (.sl (.one (.int .i64))))))), a3⟩] [⟨(.sl (.cons .bool (.cons (.sl (.one (.int .i64))) (.one (.sl (.one (.int .i64))))))), b0⟩, ⟨(.int .i64), b1⟩, ⟨(.int .i64), b2⟩, ⟨(.sl (.cons .bool (.cons (.sl (.one (.int .i64))) (.one (.sl (.one (.int .i64))))))), b3⟩]⟩]])
  | _ => none
noncomputable def F_s_SameEstimates : FnT
  | [.pls [⟨(.sl (.cons .bool (.cons (.sl (.one (.int .i64))) (.one (.sl (.one (.int .i64))))))), a0⟩, ⟨(.int .i64), a1⟩, ⟨(.int .i64), a2⟩, ⟨(.sl (.cons .bool (.cons (.sl (.one (.int .i64))) (.one (.sl (.one (.int .i64))))))), a3⟩], .pls [⟨(.sl (.cons .bool (.cons (.sl (.one (.int .i64))) (.one (.sl (.one (.int .i64))))))), b0⟩, ⟨(.int .i64), b1⟩, ⟨(.int .i64), b2⟩, ⟨(.sl (.cons .bool (.cons (.sl (.one (.int .i64))) (.one (.sl (.one (.int .i64))))))), b3⟩]] => some (C.lim [⟨(.sl (.cons .bool (.cons (.sl (.one (.int .i64))) (.one (.sl (.one (.int .i64))))))), a0⟩, ⟨(.int .i64), a1⟩, ⟨(.int .i64), a2⟩, ⟨(.sl (.cons .bool (.cons (.sl (.one (.int .i64))) (.one (.sl (.one (.int .i64))))))), a3⟩] && C.lim [⟨(.sl (.cons .bool (.cons (.sl (.one (.int .i64))) (.one (.sl (.one (.int .i64))))))), b0⟩, ⟨(.int .i64), b1⟩, ⟨(.int .i64), b2⟩, ⟨(.sl (.cons .bool (.cons (.sl (.one (.int .i64))) (.one (.sl (.one (.int .i64))))))), b3⟩], [[⟨.bool, C.eqPs [⟨(.sl (.cons .bool (.cons (.sl (.one (.int .i64))) (.one (.sl (.one (.int .i64))))))), a0⟩, ⟨(.int .i64), a1⟩, ⟨(.int .i64), a2⟩, ⟨(.sl (.cons .bool (.cons (.sl (.one (.int .i64))) (.one (.sl (.one (.int .i64))))))), a3⟩] [⟨(.sl (.cons .bool (.cons (.sl (.one (.int .i64))) (.one (.sl (.one (.int .i64))))))), b0⟩, ⟨(.int .i64), b1⟩, ⟨(.int .i64), b2⟩, ⟨(.sl (.cons .bool (.cons (.sl (.one (.int .i64))) (.one (.sl (.one (.int .i64))))))), b3⟩]⟩]])
  | _ => none
def sg_w_szIntS : Sig := ⟨[⟨.one, [], [], []⟩, ⟨.one, [], [], []⟩], [⟨.one, [], [], []⟩]⟩
def sg_w_szBigInt : Sig := ⟨[⟨.agg, [], [], []⟩, ⟨.one, [], [], []⟩], [⟨.one, [], [], []⟩]⟩
def sg_w_szRat : Sig := ⟨[⟨.agg, [], [], []⟩, ⟨.one, [], [], []⟩], [⟨.one, [], [], []⟩]⟩
def sg_w_szObservation : Sig := ⟨[⟨.agg, [], [], []⟩, ⟨.one, [], [], []⟩], [⟨.one, [], [], []⟩]⟩
def sg_w_szCandidate : Sig := ⟨[⟨.agg, [], [], []⟩, ⟨.one, [], [], []⟩], [⟨.one, [], [], []⟩]⟩
def sg_w_szCandidateS : Sig := ⟨[⟨.one, [], [], []⟩, ⟨.one, [], [], []⟩], [⟨.one, [], [], []⟩]⟩
def sg_w_szRatS : Sig := ⟨[⟨.one, [], [], []⟩, ⟨.one, [], [], []⟩], [⟨.one, [], [], []⟩]⟩
def sg_w_szMatrix : Sig := ⟨[⟨.agg, [], [], []⟩, ⟨.one, [], [], []⟩], [⟨.one, [], [], []⟩]⟩
def sg_w_szEstimate : Sig := ⟨[⟨.agg, [], [], []⟩, ⟨.one, [], [], []⟩], [⟨.one, [], [], []⟩]⟩
def sg_w_toIntS : Sig := ⟨[⟨.one, [], [], []⟩], [⟨.one, [], [], []⟩]⟩
def sg_w_toBigInt : Sig := ⟨[⟨.agg, [], [], []⟩], [⟨.agg, [], [], []⟩]⟩
def sg_w_toRat : Sig := ⟨[⟨.agg, [], [], []⟩], [⟨.agg, [], [], []⟩]⟩
def sg_w_toObservation : Sig := ⟨[⟨.agg, [], [], []⟩], [⟨.agg, [], [], []⟩]⟩
def sg_w_toCandidate : Sig := ⟨[⟨.agg, [], [], []⟩], [⟨.agg, [], [], []⟩]⟩
def sg_w_toCandidateS : Sig := ⟨[⟨.one, [], [], []⟩], [⟨.one, [], [], []⟩]⟩
def sg_w_toRatS : Sig := ⟨[⟨.one, [], [], []⟩], [⟨.one, [], [], []⟩]⟩
def sg_w_toMatrix : Sig := ⟨[⟨.agg, [], [], []⟩], [⟨.agg, [], [], []⟩]⟩
def sg_w_toEstimate : Sig := ⟨[⟨.agg, [], [], []⟩], [⟨.agg, [], [], []⟩]⟩
def sg_w_eqIntS : Sig := ⟨[⟨.one, [], [], []⟩, ⟨.one, [], [], []⟩], [⟨.one, [], [], []⟩]⟩
def sg_w_eqBigInt : Sig := ⟨[⟨.agg, [], [], []⟩, ⟨.agg, [], [], []⟩], [⟨.one, [], [], []⟩]⟩
def sg_w_eqRat : Sig := ⟨[⟨.agg, [], [], []⟩, ⟨.agg, [], [], []⟩], [⟨.one, [], [], []⟩]⟩
def sg_w_eqObservation : Sig := ⟨[⟨.agg, [], [], []⟩, ⟨.agg, [], [], []⟩], [⟨.one, [], [], []⟩]⟩
def sg_w_eqCandidate : Sig := ⟨[⟨.agg, [], [], []⟩, ⟨.agg, [], [], []⟩], [⟨.one, [], [], []⟩]⟩
def sg_w_eqCandidateS : Sig := ⟨[⟨.one, [], [], []⟩, ⟨.one, [], [], []⟩], [⟨.one, [], [], []⟩]⟩
def sg_w_eqRatS : Sig := ⟨[⟨.one, [], [], []⟩, ⟨.one, [], [], []⟩], [⟨.one, [], [], []⟩]⟩
def sg_w_eqMatrix : Sig := ⟨[⟨.agg, [], [], []⟩, ⟨.agg, [], [], []⟩], [⟨.one, [], [], []⟩]⟩
def sg_w_eqEstimate : Sig := ⟨[⟨.agg, [], [], []⟩, ⟨.agg, [], [], []⟩], [⟨.one, [], [], []⟩]⟩
def sg_i_sameInts : Sig := ⟨[⟨.one, [], [], []⟩, ⟨.one, [], [], []⟩], [⟨.one, [], [], []⟩]⟩
def sg_s_l04List : Sig := ⟨[⟨.one, [], [], []⟩, ⟨.one, [], [], []⟩], [⟨.one, [], [], []⟩]⟩
def sg_i_RatEqual : Sig := ⟨[⟨.agg, [], [], []⟩, ⟨.agg, [], [], []⟩], [⟨.one, [], [], []⟩]⟩
def sg_s_RatEqual : Sig := ⟨[⟨.agg, [], [], []⟩, ⟨.agg, [], [], []⟩], [⟨.one, [], [], []⟩]⟩
def sg_i_EqualVectors : Sig := ⟨[⟨.one, [], [], []⟩, ⟨.one, [], [], []⟩], [⟨.one, [], [], []⟩]⟩
def sg_s_EqualVectors : Sig := ⟨[⟨.one, [], [], []⟩, ⟨.one, [], [], []⟩], [⟨.one, [], [], []⟩]⟩
def sg_i_EqualMatrices : Sig := ⟨[⟨.agg, [], [], []⟩, ⟨.agg, [], [], []⟩], [⟨.one, [], [], []⟩]⟩
def sg_s_EqualMatrices : Sig := ⟨[⟨.agg, [], [], []⟩, ⟨.agg, [], [], []⟩], [⟨.one, [], [], []⟩]⟩
def sg_i_SameEstimates : Sig := ⟨[⟨.agg, [], [], []⟩, ⟨.agg, [], [], []⟩], [⟨.one, [], [], []⟩]⟩
def sg_s_SameEstimates : Sig := ⟨[⟨.agg, [], [], []⟩, ⟨.agg, [], [], []⟩], [⟨.one, [], [], []⟩]⟩
def sg_s_l01In : Sig := ⟨[⟨.one, [], [], []⟩, ⟨.one, [], [], []⟩, ⟨.one, [], [], []⟩], [⟨.one, [], [], []⟩]⟩
def sg_s_PlanCost : Sig := ⟨[⟨.one, [], [], []⟩, ⟨.one, [], [], []⟩], [⟨.one, [], [], []⟩]⟩
def sg_i_PlanCost : Sig := ⟨[⟨.one, [], [], []⟩, ⟨.one, [], [], []⟩], [⟨.one, [], [], []⟩]⟩
def sg_w_FnExactPlanCost : Sig := ⟨[⟨.one, [], [], []⟩, ⟨.one, [], [], []⟩], [⟨.one, [], [], []⟩]⟩
def sg_w_FnExactSameEstimates : Sig := ⟨[⟨.agg, [], [], []⟩, ⟨.agg, [], [], []⟩], [⟨.one, [], [], []⟩]⟩
noncomputable def lw_w_szIntS : Law := ⟨66, sg_w_szIntS, F_w_szIntS⟩
noncomputable def lw_w_szBigInt : Law := ⟨65, sg_w_szBigInt, F_w_szBigInt⟩
noncomputable def lw_w_szRat : Law := ⟨60, sg_w_szRat, F_w_szRat⟩
noncomputable def lw_w_szObservation : Law := ⟨57, sg_w_szObservation, F_w_szObservation⟩
noncomputable def lw_w_szCandidate : Law := ⟨43, sg_w_szCandidate, F_w_szCandidate⟩
noncomputable def lw_w_szCandidateS : Law := ⟨24, sg_w_szCandidateS, F_w_szCandidateS⟩
noncomputable def lw_w_szRatS : Law := ⟨46, sg_w_szRatS, F_w_szRatS⟩
noncomputable def lw_w_szMatrix : Law := ⟨47, sg_w_szMatrix, F_w_szMatrix⟩
noncomputable def lw_w_szEstimate : Law := ⟨29, sg_w_szEstimate, F_w_szEstimate⟩
noncomputable def lw_w_toIntS : Law := ⟨23, sg_w_toIntS, F_w_toIntS⟩
noncomputable def lw_w_toBigInt : Law := ⟨68, sg_w_toBigInt, F_w_toBigInt⟩
noncomputable def lw_w_toRat : Law := ⟨62, sg_w_toRat, F_w_toRat⟩
noncomputable def lw_w_toObservation : Law := ⟨58, sg_w_toObservation, F_w_toObservation⟩
noncomputable def lw_w_toCandidate : Law := ⟨44, sg_w_toCandidate, F_w_toCandidate⟩
noncomputable def lw_w_toCandidateS : Law := ⟨26, sg_w_toCandidateS, F_w_toCandidateS⟩
noncomputable def lw_w_toRatS : Law := ⟨50, sg_w_toRatS, F_w_toRatS⟩
noncomputable def lw_w_toMatrix : Law := ⟨51, sg_w_toMatrix, F_w_toMatrix⟩
noncomputable def lw_w_toEstimate : Law := ⟨31, sg_w_toEstimate, F_w_toEstimate⟩
noncomputable def lw_w_eqIntS : Law := ⟨16, sg_w_eqIntS, F_w_eqIntS⟩
noncomputable def lw_w_eqBigInt : Law := ⟨70, sg_w_eqBigInt, F_w_eqBigInt⟩
noncomputable def lw_w_eqRat : Law := ⟨64, sg_w_eqRat, F_w_eqRat⟩
noncomputable def lw_w_eqObservation : Law := ⟨59, sg_w_eqObservation, F_w_eqObservation⟩
noncomputable def lw_w_eqCandidate : Law := ⟨45, sg_w_eqCandidate, F_w_eqCandidate⟩
noncomputable def lw_w_eqCandidateS : Law := ⟨28, sg_w_eqCandidateS, F_w_eqCandidateS⟩
noncomputable def lw_w_eqRatS : Law := ⟨54, sg_w_eqRatS, F_w_eqRatS⟩
noncomputable def lw_w_eqMatrix : Law := ⟨55, sg_w_eqMatrix, F_w_eqMatrix⟩
noncomputable def lw_w_eqEstimate : Law := ⟨33, sg_w_eqEstimate, F_w_eqEstimate⟩
noncomputable def lw_i_sameInts : Law := ⟨69, sg_i_sameInts, F_i_sameInts⟩
noncomputable def lw_s_l04List : Law := ⟨67, sg_s_l04List, F_s_l04List⟩
noncomputable def lw_i_RatEqual : Law := ⟨63, sg_i_RatEqual, F_i_RatEqual⟩
noncomputable def lw_s_RatEqual : Law := ⟨61, sg_s_RatEqual, F_s_RatEqual⟩
noncomputable def lw_i_EqualVectors : Law := ⟨52, sg_i_EqualVectors, F_i_EqualVectors⟩
noncomputable def lw_s_EqualVectors : Law := ⟨48, sg_s_EqualVectors, F_s_EqualVectors⟩
noncomputable def lw_i_EqualMatrices : Law := ⟨53, sg_i_EqualMatrices, F_i_EqualMatrices⟩
noncomputable def lw_s_EqualMatrices : Law := ⟨49, sg_s_EqualMatrices, F_s_EqualMatrices⟩
noncomputable def lw_i_SameEstimates : Law := ⟨32, sg_i_SameEstimates, F_i_SameEstimates⟩
noncomputable def lw_s_SameEstimates : Law := ⟨30, sg_s_SameEstimates, F_s_SameEstimates⟩
noncomputable def lw_s_l01In : Law := ⟨34, sg_s_l01In, F_s_l01In⟩
noncomputable def lw_s_PlanCost : Law := ⟨25, sg_s_PlanCost, F_s_PlanCost⟩
noncomputable def lw_i_PlanCost : Law := ⟨27, sg_i_PlanCost, F_i_PlanCost⟩
noncomputable def lw_w_FnExactPlanCost : Law := ⟨8, sg_w_FnExactPlanCost, F_w_FnExactPlanCost⟩
noncomputable def lw_w_FnExactSameEstimates : Law := ⟨9, sg_w_FnExactSameEstimates, F_w_FnExactSameEstimates⟩
end
section
open Go Go.AM
set_option maxRecDepth 1000000
set_option linter.unusedVariables false
-- i_EqualMatrices
noncomputable def bs_i_EqualMatrices : List LoopB := []
noncomputable def cx_i_EqualMatrices (n : Nat) : CtxT := ctxOf tab.tys [lw_i_EqualVectors] bs_i_EqualMatrices (fun _ => false) (fun t => decide (t < 2) || [2, 3, 4].contains t) n
noncomputable def T_i_EqualMatrices (n : Nat) (a_0 : Int) (a_1 : Int) (a_2 : List (Bool × (List (Int)) × (List (Int)))) (b_0 : Int) (b_1 : Int) (b_2 : List (Bool × (List (Int)) × (List (Int)))) : Tr (List (List PL)) :=
  (.br (a_0 == b_0)
 (.br (a_1 == b_1)
 (.br (C.lim [PL.mk (LT.sl (Row.cons LT.bool (Row.cons LI (Row.one LI)))) a_2] && C.lim [PL.mk (LT.sl (Row.cons LT.bool (Row.cons LI (Row.one LI)))) b_2])
 (.ret [[⟨.bool, C.eqPs [PL.mk (LT.sl (Row.cons LT.bool (Row.cons LI (Row.one LI)))) a_2] [PL.mk (LT.sl (Row.cons LT.bool (Row.cons LI (Row.one LI)))) b_2]⟩]])
 .fail)
 (.ret [[⟨.bool, Bool.false⟩]]))
 (.ret [[⟨.bool, Bool.false⟩]]))
theorem T_i_EqualMatrices_ok (n : Nat) (a_0 : Int) (a_1 : Int) (a_2 : List (Bool × (List (Int)) × (List (Int)))) (b_0 : Int) (b_1 : Int) (b_2 : List (Bool × (List (Int)) × (List (Int)))) : (fnT (cx_i_EqualMatrices n) Go.Proofs.Try.f53 sg_i_EqualMatrices [.pls [⟨(.int .i64), a_0⟩, ⟨(.int .i64), a_1⟩, ⟨(.sl (.cons .bool (.cons (.sl (.one (.int .i64))) (.one (.sl (.one (.int .i64))))))), a_2⟩], .pls [⟨(.int .i64), b_0⟩, ⟨(.int .i64), b_1⟩, ⟨(.sl (.cons .bool (.cons (.sl (.one (.int .i64))) (.one (.sl (.one (.int .i64))))))), b_2⟩]]).run = (T_i_EqualMatrices n a_0 a_1 a_2 b_0 b_1 b_2).run := by kernel_rfl
theorem loops_i_EqualMatrices (n : Nat) : ∀ b ∈ allLoops (bodyOf Go.Proofs.Try.f53), BodyOk (cx_i_EqualMatrices n) bs_i_EqualMatrices n b :=
  allOf0 (by kernel_rfl) 
-- i_EqualVectors
def sh_i_EqualVectors_4 : Shape := ⟨[], 27, [(0, (.val (.one (.imm (.sl (.cons .bool (.cons (.sl (.one (.int .i64))) (.one (.sl (.one (.int .i64))))))))))), (1, (.val (.one (.imm (.sl (.cons .bool (.cons (.sl (.one (.int .i64))) (.one (.sl (.one (.int .i64))))))))))), (12, (.val (.one (.imm (.int .i64))))), (13, (.val (.one (.imm (.int .i64)))))], []⟩
def xs_i_EqualVectors_4 : List (Ex × Shape) := [(.ret, ⟨[], 27, [(4, (.val (.one (.imm .bool))))], []⟩), (.exit 0, ⟨[], 27, [], []⟩)]
noncomputable def B_i_EqualVectors_4 (n : Nat) : (List (Bool × (List (Int)) × List (Int))) × (List (Bool × (List (Int)) × List (Int))) × Int × Int → Tr (((List (Bool × (List (Int)) × List (Int))) × (List (Bool × (List (Int)) × List (Int))) × Int × Int) ⊕ Bool ⊕ Unit)
  | (s0, s1, s12, s13) =>
   (.br (decide (s13 < s12))
 (.br (decide (0 ≤ s13) && decide (s13 < (↑(List.length s0) : Int)))
 (.br (decide (0 ≤ s13) && decide (s13 < (↑(List.length s1) : Int)))
 (.br (C.lim [PL.mk LT.bool (gd s0 s13).1, PL.mk LI (gd s0 s13).2.1, PL.mk LI (gd s0 s13).2.2] && C.lim [PL.mk LT.bool (gd s1 s13).1, PL.mk LI (gd s1 s13).2.1, PL.mk LI (gd s1 s13).2.2])
 (.br (!C.eqPs [PL.mk LT.bool (gd s0 s13).1, PL.mk LI (gd s0 s13).2.1, PL.mk LI (gd s0 s13).2.2] [PL.mk LT.bool (gd s1 s13).1, PL.mk LI (gd s1 s13).2.1, PL.mk LI (gd s1 s13).2.2])
 (.ret (.inr ((.inl Bool.false))))
 (.ret (.inl ((s0, s1, s12, w64 (s13 + 1))))))
 .fail)
 .fail)
 .fail)
 (.ret (.inr ((.inr ())))))
noncomputable def bs_i_EqualVectors : List LoopB := [⟨4, sh_i_EqualVectors_4, xs_i_EqualVectors_4, B_i_EqualVectors_4⟩]
noncomputable def cx_i_EqualVectors (n : Nat) : CtxT := ctxOf tab.tys [lw_i_RatEqual] bs_i_EqualVectors (fun _ => false) (fun t => decide (t < 2) || [4, 5].contains t) n
noncomputable def T_i_EqualVectors (n : Nat) (a : List (Bool × (List (Int)) × (List (Int)))) (b : List (Bool × (List (Int)) × (List (Int)))) : Tr (List (List PL)) :=
  (.br (!(↑(List.length a) : Int) == (↑(List.length b) : Int))
 (.ret [[⟨.bool, Bool.false⟩]])
 (.opt (it B_i_EqualVectors_4 n (a, b, (↑(List.length a) : Int), 0)) fun r0 =>
 (.sum (r0) (fun r1 =>
 (.ret [[⟨.bool, r1⟩]])) (fun r1 =>
 (.ret [[⟨.bool, Bool.true⟩]])))))
theorem T_i_EqualVectors_ok (n : Nat) (a : List (Bool × (List (Int)) × (List (Int)))) (b : List (Bool × (List (Int)) × (List (Int)))) : (fnT (cx_i_EqualVectors n) Go.Proofs.Try.f52 sg_i_EqualVectors [.pls [⟨(.sl (.cons .bool (.cons (.sl (.one (.int .i64))) (.one (.sl (.one (.int .i64))))))), a⟩], .pls [⟨(.sl (.cons .bool (.cons (.sl (.one (.int .i64))) (.one (.sl (.one (.int .i64))))))), b⟩]]).run = (T_i_EqualVectors n a b).run := by kernel_rfl
theorem B_i_EqualVectors_4_eq (n : Nat) (s0 : List (Bool × (List (Int)) × List (Int))) (s1 : List (Bool × (List (Int)) × List (Int))) (s12 : Int) (s13 : Int) : (bodyR (cx_i_EqualVectors n) (nthLoop (bodyOf Go.Proofs.Try.f52) 0) ⟨4, sh_i_EqualVectors_4, xs_i_EqualVectors_4, B_i_EqualVectors_4⟩ (s0, s1, s12, s13)).run = (B_i_EqualVectors_4 n (s0, s1, s12, s13)).run := by kernel_rfl
theorem B_i_EqualVectors_4_ok (n : Nat) : ∀ t, (bodyR (cx_i_EqualVectors n) (nthLoop (bodyOf Go.Proofs.Try.f52) 0) ⟨4, sh_i_EqualVectors_4, xs_i_EqualVectors_4, B_i_EqualVectors_4⟩ t).run = (B_i_EqualVectors_4 n t).run := fun (t : (List (Bool × (List (Int)) × List (Int))) × (List (Bool × (List (Int)) × List (Int))) × Int × Int) => B_i_EqualVectors_4_eq n t.1 t.2.1 t.2.2.1 t.2.2.2
theorem loops_i_EqualVectors (n : Nat) : ∀ b ∈ allLoops (bodyOf Go.Proofs.Try.f52), BodyOk (cx_i_EqualVectors n) bs_i_EqualVectors n b :=
  allOf1 (by kernel_rfl) ⟨⟨4, sh_i_EqualVectors_4, xs_i_EqualVectors_4, B_i_EqualVectors_4⟩, by kernel_rfl, B_i_EqualVectors_4_ok n⟩
-- i_PlanCost
def sh_i_PlanCost_3 : Shape := ⟨[], 47, [(0, (.val (.one (.imm (.sl (.cons (.int .i64) (.cons (.int .i64) (.cons (.int .i64) (.cons .bool (.cons (.sl (.one (.int .i64))) (.cons (.sl (.one (.int .i64))) (.cons .bool (.cons (.sl (.one (.int .i64))) (.cons (.sl (.one (.int .i64))) (.one (.int .i64)))))))))))))))), (5, (.val (.one (.imm (.int .i64))))), (8, (.val (.one (.imm (.sl (.one (.int .i64))))))), (9, (.val (.one (.imm (.int .i64))))), (10, (.val (.one (.imm (.int .i64)))))], []⟩
def xs_i_PlanCost_3 : List (Ex × Shape) := [(.exit 0, ⟨[], 47, [(5, (.val (.one (.imm (.int .i64)))))], []⟩)]
noncomputable def B_i_PlanCost_3 (n : Nat) : (List (Int × Int × Int × Bool × (List (Int)) × (List (Int)) × Bool × (List (Int)) × (List (Int)) × Int)) × Int × (List (Int)) × Int × Int → Tr (((List (Int × Int × Int × Bool × (List (Int)) × (List (Int)) × Bool × (List (Int)) × (List (Int)) × Int)) × Int × (List (Int)) × Int × Int) ⊕ Int)
  | (s0, s5, s8, s9, s10) =>
   (.br (decide (s10 < s9))
 (.br (decide (0 ≤ s10) && decide (s10 < (↑(List.length s8) : Int)))
 (.br (decide (gd s8 s10 ≥ 0))
 (.br (decide (gd s8 s10 < (↑(List.length s0) : Int)))
 (.br (decide (0 ≤ gd s8 s10) && decide (gd s8 s10 < (↑(List.length s0) : Int)))
 (.br (decide ((gd s0 (gd s8 s10)).2.2.2.2.2.2.2.2.2 ≥ 1))
 (.br (decide (0 ≤ gd s8 s10) && decide (gd s8 s10 < (↑(List.length s0) : Int)))
 (.br (decide ((gd s0 (gd s8 s10)).2.2.2.2.2.2.2.2.2 ≤ 1000))
 (.br (decide (0 ≤ gd s8 s10) && decide (gd s8 s10 < (↑(List.length s0) : Int)))
 (.ret (.inl ((s0, w64 (s5 + (gd s0 (gd s8 s10)).2.2.2.2.2.2.2.2.2), s8, s9, w64 (s10 + 1)))))
 .fail)
 (.ret (.inl ((s0, s5, s8, s9, w64 (s10 + 1))))))
 .fail)
 (.ret (.inl ((s0, s5, s8, s9, w64 (s10 + 1))))))
 .fail)
 (.ret (.inl ((s0, s5, s8, s9, w64 (s10 + 1))))))
 (.ret (.inl ((s0, s5, s8, s9, w64 (s10 + 1))))))
 .fail)
 (.ret (.inr s5)))
noncomputable def bs_i_PlanCost : List LoopB := [⟨3, sh_i_PlanCost_3, xs_i_PlanCost_3, B_i_PlanCost_3⟩]
noncomputable def cx_i_PlanCost (n : Nat) : CtxT := ctxOf tab.tys [] bs_i_PlanCost (fun _ => false) (fun t => decide (t < 2) || [4, 5, 7].contains t) n
noncomputable def T_i_PlanCost (n : Nat) (list : List (Int × Int × Int × Bool × (List (Int)) × (List (Int)) × Bool × (List (Int)) × (List (Int)) × Int)) (set : List (Int)) : Tr (List (List PL)) :=
  (.opt (it B_i_PlanCost_3 n (list, 0, set, (↑(List.length set) : Int), 0)) fun r0 =>
 (.ret [[⟨(.int .i64), r0⟩]]))
theorem T_i_PlanCost_ok (n : Nat) (list : List (Int × Int × Int × Bool × (List (Int)) × (List (Int)) × Bool × (List (Int)) × (List (Int)) × Int)) (set : List (Int)) : (fnT (cx_i_PlanCost n) Go.Proofs.Try.f27 sg_i_PlanCost [.pls [⟨(.sl (.cons (.int .i64) (.cons (.int .i64) (.cons (.int .i64) (.cons .bool (.cons (.sl (.one (.int .i64))) (.cons (.sl (.one (.int .i64))) (.cons .bool (.cons (.sl (.one (.int .i64))) (.cons (.sl (.one (.int .i64))) (.one (.int .i64)))))))))))), list⟩], .pls [⟨(.sl (.one (.int .i64))), set⟩]]).run = (T_i_PlanCost n list set).run := by kernel_rfl
theorem B_i_PlanCost_3_eq (n : Nat) (s0 : List (Int × Int × Int × Bool × (List (Int)) × (List (Int)) × Bool × (List (Int)) × (List (Int)) × Int)) (s5 : Int) (s8 : List (Int)) (s9 : Int) (s10 : Int) : (bodyR (cx_i_PlanCost n) (nthLoop (bodyOf Go.Proofs.Try.f27) 0) ⟨3, sh_i_PlanCost_3, xs_i_PlanCost_3, B_i_PlanCost_3⟩ (s0, s5, s8, s9, s10)).run = (B_i_PlanCost_3 n (s0, s5, s8, s9, s10)).run := by kernel_rfl
theorem B_i_PlanCost_3_ok (n : Nat) : ∀ t, (bodyR (cx_i_PlanCost n) (nthLoop (bodyOf Go.Proofs.Try.f27) 0) ⟨3, sh_i_PlanCost_3, xs_i_PlanCost_3, B_i_PlanCost_3⟩ t).run = (B_i_PlanCost_3 n t).run := fun (t : (List (Int × Int × Int × Bool × (List (Int)) × (List (Int)) × Bool × (List (Int)) × (List (Int)) × Int)) × Int × (List (Int)) × Int × Int) => B_i_PlanCost_3_eq n t.1 t.2.1 t.2.2.1 t.2.2.2.1 t.2.2.2.2
theorem loops_i_PlanCost (n : Nat) : ∀ b ∈ allLoops (bodyOf Go.Proofs.Try.f27), BodyOk (cx_i_PlanCost n) bs_i_PlanCost n b :=
  allOf1 (by kernel_rfl) ⟨⟨3, sh_i_PlanCost_3, xs_i_PlanCost_3, B_i_PlanCost_3⟩, by kernel_rfl, B_i_PlanCost_3_ok n⟩
-- i_RatEqual
noncomputable def bs_i_RatEqual : List LoopB := []
noncomputable def cx_i_RatEqual (n : Nat) : CtxT := ctxOf tab.tys [lw_i_sameInts] bs_i_RatEqual (fun _ => false) (fun t => decide (t < 2) || [2, 3, 4].contains t) n
noncomputable def T_i_RatEqual (n : Nat) (r_0 : Bool) (r_1 : List (Int)) (r_2 : List (Int)) (s_0 : Bool) (s_1 : List (Int)) (s_2 : List (Int)) : Tr (List (List PL)) :=
  (.br (r_0 == s_0)
 (.br (C.lim [PL.mk LI r_1] && C.lim [PL.mk LI s_1])
 (.br (C.eqPs [PL.mk LI r_1] [PL.mk LI s_1])
 (.br (C.lim [PL.mk LI r_2] && C.lim [PL.mk LI s_2])
 (.ret [[⟨.bool, C.eqPs [PL.mk LI r_2] [PL.mk LI s_2]⟩]])
 .fail)
 (.ret [[⟨.bool, Bool.false⟩]]))
 .fail)
 (.ret [[⟨.bool, Bool.false⟩]]))
theorem T_i_RatEqual_ok (n : Nat) (r_0 : Bool) (r_1 : List (Int)) (r_2 : List (Int)) (s_0 : Bool) (s_1 : List (Int)) (s_2 : List (Int)) : (fnT (cx_i_RatEqual n) Go.Proofs.Try.f63 sg_i_RatEqual [.pls [⟨.bool, r_0⟩, ⟨(.sl (.one (.int .i64))), r_1⟩, ⟨(.sl (.one (.int .i64))), r_2⟩], .pls [⟨.bool, s_0⟩, ⟨(.sl (.one (.int .i64))), s_1⟩, ⟨(.sl (.one (.int .i64))), s_2⟩]]).run = (T_i_RatEqual n r_0 r_1 r_2 s_0 s_1 s_2).run := by kernel_rfl
theorem loops_i_RatEqual (n : Nat) : ∀ b ∈ allLoops (bodyOf Go.Proofs.Try.f63), BodyOk (cx_i_RatEqual n) bs_i_RatEqual n b :=
  allOf0 (by kernel_rfl) 
-- i_SameEstimates
noncomputable def bs_i_SameEstimates : List LoopB := []
noncomputable def cx_i_SameEstimates (n : Nat) : CtxT := ctxOf tab.tys [lw_i_EqualVectors, lw_i_EqualMatrices] bs_i_SameEstimates (fun _ => false) (fun t => decide (t < 2) || [2, 3, 4].contains t) n
noncomputable def T_i_SameEstimates (n : Nat) (a_0 : List (Bool × (List (Int)) × (List (Int)))) (a_1 : Int) (a_2 : Int) (a_3 : List (Bool × (List (Int)) × (List (Int)))) (b_0 : List (Bool × (List (Int)) × (List (Int)))) (b_1 : Int) (b_2 : Int) (b_3 : List (Bool × (List (Int)) × (List (Int)))) : Tr (List (List PL)) :=
  (.br (C.lim [PL.mk (LT.sl (Row.cons LT.bool (Row.cons LI (Row.one LI)))) a_0] && C.lim [PL.mk (LT.sl (Row.cons LT.bool (Row.cons LI (Row.one LI)))) b_0])
 (.br (C.eqPs [PL.mk (LT.sl (Row.cons LT.bool (Row.cons LI (Row.one LI)))) a_0] [PL.mk (LT.sl (Row.cons LT.bool (Row.cons LI (Row.one LI)))) b_0])
 (.br (C.lim [PL.mk i6 a_1, PL.mk i6 a_2, PL.mk (LT.sl (Row.cons LT.bool (Row.cons LI (Row.one LI)))) a_3] && C.lim [PL.mk i6 b_1, PL.mk i6 b_2, PL.mk (LT.sl (Row.cons LT.bool (Row.cons LI (Row.one LI)))) b_3])
 (.ret [[⟨.bool, C.eqPs [PL.mk i6 a_1, PL.mk i6 a_2, PL.mk (LT.sl (Row.cons LT.bool (Row.cons LI (Row.one LI)))) a_3] [PL.mk i6 b_1, PL.mk i6 b_2, PL.mk (LT.sl (Row.cons LT.bool (Row.cons LI (Row.one LI)))) b_3]⟩]])
 .fail)
 (.ret [[⟨.bool, Bool.false⟩]]))
 .fail)
theorem T_i_SameEstimates_ok (n : Nat) (a_0 : List (Bool × (List (Int)) × (List (Int)))) (a_1 : Int) (a_2 : Int) (a_3 : List (Bool × (List (Int)) × (List (Int)))) (b_0 : List (Bool × (List (Int)) × (List (Int)))) (b_1 : Int) (b_2 : Int) (b_3 : List (Bool × (List (Int)) × (List (Int)))) : (fnT (cx_i_SameEstimates n) Go.Proofs.Try.f32 sg_i_SameEstimates [.pls [⟨(.sl (.cons .bool (.cons (.sl (.one (.int .i64))) (.one (.sl (.one (.int .i64))))))), a_0⟩, ⟨(.int .i64), a_1⟩, ⟨(.int .i64), a_2⟩, ⟨(.sl (.cons .bool (.cons (.sl (.one (.int .i64))) (.one (.sl (.one (.int .i64))))))), a_3⟩], .pls [⟨(.sl (.cons .bool (.cons (.sl (.one (.int .i64))) (.one (.sl (.one (.int .i64))))))), b_0⟩, ⟨(.int .i64), b_1⟩, ⟨(.int .i64), b_2⟩, ⟨(.sl (.cons .bool (.cons (.sl (.one (.int .i64))) (.one (.sl (.one (.int .i64))))))), b_3⟩]]).run = (T_i_SameEstimates n a_0 a_1 a_2 a_3 b_0 b_1 b_2 b_3).run := by kernel_rfl
theorem loops_i_SameEstimates (n : Nat) : ∀ b ∈ allLoops (bodyOf Go.Proofs.Try.f32), BodyOk (cx_i_SameEstimates n) bs_i_SameEstimates n b :=
  allOf0 (by kernel_rfl) 
-- i_sameInts
def sh_i_sameInts_4 : Shape := ⟨[], 26, [(0, (.val (.one (.imm (.sl (.one (.int .i64))))))), (1, (.val (.one (.imm (.sl (.one (.int .i64))))))), (12, (.val (.one (.imm (.int .i64))))), (13, (.val (.one (.imm (.int .i64)))))], []⟩
def xs_i_sameInts_4 : List (Ex × Shape) := [(.ret, ⟨[], 26, [(4, (.val (.one (.imm .bool))))], []⟩), (.exit 0, ⟨[], 26, [], []⟩)]
noncomputable def B_i_sameInts_4 (n : Nat) : (List (Int)) × (List (Int)) × Int × Int → Tr (((List (Int)) × (List (Int)) × Int × Int) ⊕ Bool ⊕ Unit)
  | (s0, s1, s12, s13) =>
   (.br (decide (s13 < s12))
 (.br (decide (0 ≤ s13) && decide (s13 < (↑(List.length s0) : Int)))
 (.br (decide (0 ≤ s13) && decide (s13 < (↑(List.length s1) : Int)))
 (.br (!gd s0 s13 == gd s1 s13)
 (.ret (.inr ((.inl Bool.false))))
 (.ret (.inl ((s0, s1, s12, w64 (s13 + 1))))))
 .fail)
 .fail)
 (.ret (.inr ((.inr ())))))
noncomputable def bs_i_sameInts : List LoopB := [⟨4, sh_i_sameInts_4, xs_i_sameInts_4, B_i_sameInts_4⟩]
noncomputable def cx_i_sameInts (n : Nat) : CtxT := ctxOf tab.tys [] bs_i_sameInts (fun _ => false) (fun t => decide (t < 2) || [4, 5].contains t) n
noncomputable def T_i_sameInts (n : Nat) (a : List (Int)) (b : List (Int)) : Tr (List (List PL)) :=
  (.br (!(↑(List.length a) : Int) == (↑(List.length b) : Int))
 (.ret [[⟨.bool, Bool.false⟩]])
 (.opt (it B_i_sameInts_4 n (a, b, (↑(List.length a) : Int), 0)) fun r0 =>
 (.sum (r0) (fun r1 =>
 (.ret [[⟨.bool, r1⟩]])) (fun r1 =>
 (.ret [[⟨.bool, Bool.true⟩]])))))
theorem T_i_sameInts_ok (n : Nat) (a : List (Int)) (b : List (Int)) : (fnT (cx_i_sameInts n) Go.Proofs.Try.f69 sg_i_sameInts [.pls [⟨(.sl (.one (.int .i64))), a⟩], .pls [⟨(.sl (.one (.int .i64))), b⟩]]).run = (T_i_sameInts n a b).run := by kernel_rfl
theorem B_i_sameInts_4_eq (n : Nat) (s0 : List (Int)) (s1 : List (Int)) (s12 : Int) (s13 : Int) : (bodyR (cx_i_sameInts n) (nthLoop (bodyOf Go.Proofs.Try.f69) 0) ⟨4, sh_i_sameInts_4, xs_i_sameInts_4, B_i_sameInts_4⟩ (s0, s1, s12, s13)).run = (B_i_sameInts_4 n (s0, s1, s12, s13)).run := by kernel_rfl
theorem B_i_sameInts_4_ok (n : Nat) : ∀ t, (bodyR (cx_i_sameInts n) (nthLoop (bodyOf Go.Proofs.Try.f69) 0) ⟨4, sh_i_sameInts_4, xs_i_sameInts_4, B_i_sameInts_4⟩ t).run = (B_i_sameInts_4 n t).run := fun (t : (List (Int)) × (List (Int)) × Int × Int) => B_i_sameInts_4_eq n t.1 t.2.1 t.2.2.1 t.2.2.2
theorem loops_i_sameInts (n : Nat) : ∀ b ∈ allLoops (bodyOf Go.Proofs.Try.f69), BodyOk (cx_i_sameInts n) bs_i_sameInts n b :=
  allOf1 (by kernel_rfl) ⟨⟨4, sh_i_sameInts_4, xs_i_sameInts_4, B_i_sameInts_4⟩, by kernel_rfl, B_i_sameInts_4_ok n⟩
-- s_EqualMatrices
noncomputable def bs_s_EqualMatrices : List LoopB := []
noncomputable def cx_s_EqualMatrices (n : Nat) : CtxT := ctxOf tab.tys [lw_s_EqualVectors] bs_s_EqualMatrices (fun _ => false) (fun t => decide (t < 2) || [2, 3, 4].contains t) n
noncomputable def T_s_EqualMatrices (n : Nat) (a_0 : Int) (a_1 : Int) (a_2 : List (Bool × (List (Int)) × (List (Int)))) (b_0 : Int) (b_1 : Int) (b_2 : List (Bool × (List (Int)) × (List (Int)))) : Tr (List (List PL)) :=
  (.br (a_0 == b_0)
 (.br (a_1 == b_1)
 (.br (C.lim [PL.mk (LT.sl (Row.cons LT.bool (Row.cons LI (Row.one LI)))) a_2] && C.lim [PL.mk (LT.sl (Row.cons LT.bool (Row.cons LI (Row.one LI)))) b_2])
 (.ret [[⟨.bool, C.eqPs [PL.mk (LT.sl (Row.cons LT.bool (Row.cons LI (Row.one LI)))) a_2] [PL.mk (LT.sl (Row.cons LT.bool (Row.cons LI (Row.one LI)))) b_2]⟩]])
 .fail)
 (.ret [[⟨.bool, Bool.false⟩]]))
 (.ret [[⟨.bool, Bool.false⟩]]))
theorem T_s_EqualMatrices_ok (n : Nat) (a_0 : Int) (a_1 : Int) (a_2 : List (Bool × (List (Int)) × (List (Int)))) (b_0 : Int) (b_1 : Int) (b_2 : List (Bool × (List (Int)) × (List (Int)))) : (fnT (cx_s_EqualMatrices n) Go.Proofs.Try.f49 sg_s_EqualMatrices [.pls [⟨(.int .i64), a_0⟩, ⟨(.int .i64), a_1⟩, ⟨(.sl (.cons .bool (.cons (.sl (.one (.int .i64))) (.one (.sl (.one (.int .i64))))))), a_2⟩], .pls [⟨(.int .i64), b_0⟩, ⟨(.int .i64), b_1⟩, ⟨(.sl (.cons .bool (.cons (.sl (.one (.int .i64))) (.one (.sl (.one (.int .i64))))))), b_2⟩]]).run = (T_s_EqualMatrices n a_0 a_1 a_2 b_0 b_1 b_2).run := by kernel_rfl
theorem loops_s_EqualMatrices (n : Nat) : ∀ b ∈ allLoops (bodyOf Go.Proofs.Try.f49), BodyOk (cx_s_EqualMatrices n) bs_s_EqualMatrices n b :=
  allOf0 (by kernel_rfl) 
-- s_EqualVectors
def sh_s_EqualVectors_4 : Shape := ⟨[], 27, [(1, (.val (.one (.imm (.sl (.cons .bool (.cons (.sl (.one (.int .i64))) (.one (.sl (.one (.int .i64))))))))))), (12, (.val (.one (.imm (.sl (.cons .bool (.cons (.sl (.one (.int .i64))) (.one (.sl (.one (.int .i64))))))))))), (13, (.val (.one (.imm (.int .i64))))), (14, (.val (.one (.imm (.int .i64)))))], []⟩
def xs_s_EqualVectors_4 : List (Ex × Shape) := [(.ret, ⟨[], 27, [(4, (.val (.one (.imm .bool))))], []⟩), (.exit 0, ⟨[], 27, [], []⟩)]
noncomputable def B_s_EqualVectors_4 (n : Nat) : (List (Bool × (List (Int)) × List (Int))) × (List (Bool × (List (Int)) × List (Int))) × Int × Int → Tr (((List (Bool × (List (Int)) × List (Int))) × (List (Bool × (List (Int)) × List (Int))) × Int × Int) ⊕ Bool ⊕ Unit)
  | (s1, s12, s13, s14) =>
   (.br (decide (s14 < s13))
 (.br (decide (0 ≤ s14) && decide (s14 < (↑(List.length s12) : Int)))
 (.br (decide (0 ≤ s14) && decide (s14 < (↑(List.length s1) : Int)))
 (.br (C.lim [PL.mk LT.bool (gd s12 s14).1, PL.mk LI (gd s12 s14).2.1, PL.mk LI (gd s12 s14).2.2] && C.lim [PL.mk LT.bool (gd s1 s14).1, PL.mk LI (gd s1 s14).2.1, PL.mk LI (gd s1 s14).2.2])
 (.br (!C.eqPs [PL.mk LT.bool (gd s12 s14).1, PL.mk LI (gd s12 s14).2.1, PL.mk LI (gd s12 s14).2.2] [PL.mk LT.bool (gd s1 s14).1, PL.mk LI (gd s1 s14).2.1, PL.mk LI (gd s1 s14).2.2])
 (.ret (.inr ((.inl Bool.false))))
 (.ret (.inl ((s1, s12, s13, w64 (s14 + 1))))))
 .fail)
 .fail)
 .fail)
 (.ret (.inr ((.inr ())))))
noncomputable def bs_s_EqualVectors : List LoopB := [⟨4, sh_s_EqualVectors_4, xs_s_EqualVectors_4, B_s_EqualVectors_4⟩]
noncomputable def cx_s_EqualVectors (n : Nat) : CtxT := ctxOf tab.tys [lw_s_RatEqual] bs_s_EqualVectors (fun _ => false) (fun t => decide (t < 2) || [4, 6, 5].contains t) n
noncomputable def T_s_EqualVectors (n : Nat) (a : List (Bool × (List (Int)) × (List (Int)))) (b : List (Bool × (List (Int)) × (List (Int)))) : Tr (List (List PL)) :=
  (.br (!(↑(List.length a) : Int) == (↑(List.length b) : Int))
 (.ret [[⟨.bool, Bool.false⟩]])
 (.opt (it B_s_EqualVectors_4 n (b, a, (↑(List.length a) : Int), 0)) fun r0 =>
 (.sum (r0) (fun r1 =>
 (.ret [[⟨.bool, r1⟩]])) (fun r1 =>
 (.ret [[⟨.bool, Bool.true⟩]])))))
theorem T_s_EqualVectors_ok (n : Nat) (a : List (Bool × (List (Int)) × (List (Int)))) (b : List (Bool × (List (Int)) × (List (Int)))) : (fnT (cx_s_EqualVectors n) Go.Proofs.Try.f48 sg_s_EqualVectors [.pls [⟨(.sl (.cons .bool (.cons (.sl (.one (.int .i64))) (.one (.sl (.one (.int .i64))))))), a⟩], .pls [⟨(.sl (.cons .bool (.cons (.sl (.one (.int .i64))) (.one (.sl (.one (.int .i64))))))), b⟩]]).run = (T_s_EqualVectors n a b).run := by kernel_rfl
theorem B_s_EqualVectors_4_eq (n : Nat) (s1 : List (Bool × (List (Int)) × List (Int))) (s12 : List (Bool × (List (Int)) × List (Int))) (s13 : Int) (s14 : Int) : (bodyR (cx_s_EqualVectors n) (nthLoop (bodyOf Go.Proofs.Try.f48) 0) ⟨4, sh_s_EqualVectors_4, xs_s_EqualVectors_4, B_s_EqualVectors_4⟩ (s1, s12, s13, s14)).run = (B_s_EqualVectors_4 n (s1, s12, s13, s14)).run := by kernel_rfl
theorem B_s_EqualVectors_4_ok (n : Nat) : ∀ t, (bodyR (cx_s_EqualVectors n) (nthLoop (bodyOf Go.Proofs.Try.f48) 0) ⟨4, sh_s_EqualVectors_4, xs_s_EqualVectors_4, B_s_EqualVectors_4⟩ t).run = (B_s_EqualVectors_4 n t).run := fun (t : (List (Bool × (List (Int)) × List (Int))) × (List (Bool × (List (Int)) × List (Int))) × Int × Int) => B_s_EqualVectors_4_eq n t.1 t.2.1 t.2.2.1 t.2.2.2
theorem loops_s_EqualVectors (n : Nat) : ∀ b ∈ allLoops (bodyOf Go.Proofs.Try.f48), BodyOk (cx_s_EqualVectors n) bs_s_EqualVectors n b :=
  allOf1 (by kernel_rfl) ⟨⟨4, sh_s_EqualVectors_4, xs_s_EqualVectors_4, B_s_EqualVectors_4⟩, by kernel_rfl, B_s_EqualVectors_4_ok n⟩
-- s_PlanCost
def sh_s_PlanCost_3 : Shape := ⟨[], 36, [(0, (.val (.one (.imm (.sl (.cons (.int .i64) (.cons (.int .i64) (.cons (.int .i64) (.cons .bool (.cons (.sl (.one (.int .i64))) (.cons (.sl (.one (.int .i64))) (.cons .bool (.cons (.sl (.one (.int .i64))) (.cons (.sl (.one (.int .i64))) (.one (.int .i64)))))))))))))))), (5, (.val (.one (.imm (.int .i64))))), (8, (.val (.one (.imm (.sl (.one (.int .i64))))))), (9, (.val (.one (.imm (.int .i64))))), (10, (.val (.one (.imm (.int .i64)))))], []⟩
def xs_s_PlanCost_3 : List (Ex × Shape) := [(.exit 0, ⟨[], 36, [(5, (.val (.one (.imm (.int .i64)))))], []⟩)]
noncomputable def B_s_PlanCost_3 (n : Nat) : (List (Int × Int × Int × Bool × (List (Int)) × (List (Int)) × Bool × (List (Int)) × (List (Int)) × Int)) × Int × (List (Int)) × Int × Int → Tr (((List (Int × Int × Int × Bool × (List (Int)) × (List (Int)) × Bool × (List (Int)) × (List (Int)) × Int)) × Int × (List (Int)) × Int × Int) ⊕ Int)
  | (s0, s5, s8, s9, s10) =>
   (.br (decide (s10 < s9))
 (.br (decide (0 ≤ s10) && decide (s10 < (↑(List.length s8) : Int)))
 (.br (decide (0 ≤ gd s8 s10) && decide (gd s8 s10 ≤ w64 ((↑(List.length s0) : Int) - 1)))
 (.br (decide (0 ≤ gd s8 s10) && decide (gd s8 s10 < (↑(List.length s0) : Int)))
 (.br (decide (1 ≤ (gd s0 (gd s8 s10)).2.2.2.2.2.2.2.2.2) && decide ((gd s0 (gd s8 s10)).2.2.2.2.2.2.2.2.2 ≤ 1000))
 (.br (decide (0 ≤ gd s8 s10) && decide (gd s8 s10 < (↑(List.length s0) : Int)))
 (.ret (.inl ((s0, w64 (s5 + (gd s0 (gd s8 s10)).2.2.2.2.2.2.2.2.2), s8, s9, w64 (s10 + 1)))))
 .fail)
 (.ret (.inl ((s0, s5, s8, s9, w64 (s10 + 1))))))
 .fail)
 (.ret (.inl ((s0, s5, s8, s9, w64 (s10 + 1))))))
 .fail)
 (.ret (.inr s5)))
noncomputable def bs_s_PlanCost : List LoopB := [⟨3, sh_s_PlanCost_3, xs_s_PlanCost_3, B_s_PlanCost_3⟩]
noncomputable def cx_s_PlanCost (n : Nat) : CtxT := ctxOf tab.tys [lw_s_l01In] bs_s_PlanCost (fun _ => false) (fun t => decide (t < 2) || [4, 5, 7].contains t) n
noncomputable def T_s_PlanCost (n : Nat) (list : List (Int × Int × Int × Bool × (List (Int)) × (List (Int)) × Bool × (List (Int)) × (List (Int)) × Int)) (set : List (Int)) : Tr (List (List PL)) :=
  (.opt (it B_s_PlanCost_3 n (list, 0, set, (↑(List.length set) : Int), 0)) fun r0 =>
 (.ret [[⟨(.int .i64), r0⟩]]))
theorem T_s_PlanCost_ok (n : Nat) (list : List (Int × Int × Int × Bool × (List (Int)) × (List (Int)) × Bool × (List (Int)) × (List (Int)) × Int)) (set : List (Int)) : (fnT (cx_s_PlanCost n) Go.Proofs.Try.f25 sg_s_PlanCost [.pls [⟨(.sl (.cons (.int .i64) (.cons (.int .i64) (.cons (.int .i64) (.cons .bool (.cons (.sl (.one (.int .i64))) (.cons (.sl (.one (.int .i64))) (.cons .bool (.cons (.sl (.one (.int .i64))) (.cons (.sl (.one (.int .i64))) (.one (.int .i64)))))))))))), list⟩], .pls [⟨(.sl (.one (.int .i64))), set⟩]]).run = (T_s_PlanCost n list set).run := by kernel_rfl
theorem B_s_PlanCost_3_eq (n : Nat) (s0 : List (Int × Int × Int × Bool × (List (Int)) × (List (Int)) × Bool × (List (Int)) × (List (Int)) × Int)) (s5 : Int) (s8 : List (Int)) (s9 : Int) (s10 : Int) : (bodyR (cx_s_PlanCost n) (nthLoop (bodyOf Go.Proofs.Try.f25) 0) ⟨3, sh_s_PlanCost_3, xs_s_PlanCost_3, B_s_PlanCost_3⟩ (s0, s5, s8, s9, s10)).run = (B_s_PlanCost_3 n (s0, s5, s8, s9, s10)).run := by kernel_rfl
theorem B_s_PlanCost_3_ok (n : Nat) : ∀ t, (bodyR (cx_s_PlanCost n) (nthLoop (bodyOf Go.Proofs.Try.f25) 0) ⟨3, sh_s_PlanCost_3, xs_s_PlanCost_3, B_s_PlanCost_3⟩ t).run = (B_s_PlanCost_3 n t).run := fun (t : (List (Int × Int × Int × Bool × (List (Int)) × (List (Int)) × Bool × (List (Int)) × (List (Int)) × Int)) × Int × (List (Int)) × Int × Int) => B_s_PlanCost_3_eq n t.1 t.2.1 t.2.2.1 t.2.2.2.1 t.2.2.2.2
theorem loops_s_PlanCost (n : Nat) : ∀ b ∈ allLoops (bodyOf Go.Proofs.Try.f25), BodyOk (cx_s_PlanCost n) bs_s_PlanCost n b :=
  allOf1 (by kernel_rfl) ⟨⟨3, sh_s_PlanCost_3, xs_s_PlanCost_3, B_s_PlanCost_3⟩, by kernel_rfl, B_s_PlanCost_3_ok n⟩
-- s_RatEqual
noncomputable def bs_s_RatEqual : List LoopB := []
noncomputable def cx_s_RatEqual (n : Nat) : CtxT := ctxOf tab.tys [lw_s_l04List] bs_s_RatEqual (fun _ => false) (fun t => decide (t < 2) || [2, 3, 4].contains t) n
noncomputable def T_s_RatEqual (n : Nat) (r_0 : Bool) (r_1 : List (Int)) (r_2 : List (Int)) (s_0 : Bool) (s_1 : List (Int)) (s_2 : List (Int)) : Tr (List (List PL)) :=
  (.br (r_0 == s_0)
 (.br (C.lim [PL.mk LI r_1] && C.lim [PL.mk LI s_1])
 (.br (C.eqPs [PL.mk LI r_1] [PL.mk LI s_1])
 (.br (C.lim [PL.mk LI r_2] && C.lim [PL.mk LI s_2])
 (.ret [[⟨.bool, C.eqPs [PL.mk LI r_2] [PL.mk LI s_2]⟩]])
 .fail)
 (.ret [[⟨.bool, Bool.false⟩]]))
 .fail)
 (.ret [[⟨.bool, Bool.false⟩]]))
theorem T_s_RatEqual_ok (n : Nat) (r_0 : Bool) (r_1 : List (Int)) (r_2 : List (Int)) (s_0 : Bool) (s_1 : List (Int)) (s_2 : List (Int)) : (fnT (cx_s_RatEqual n) Go.Proofs.Try.f61 sg_s_RatEqual [.pls [⟨.bool, r_0⟩, ⟨(.sl (.one (.int .i64))), r_1⟩, ⟨(.sl (.one (.int .i64))), r_2⟩], .pls [⟨.bool, s_0⟩, ⟨(.sl (.one (.int .i64))), s_1⟩, ⟨(.sl (.one (.int .i64))), s_2⟩]]).run = (T_s_RatEqual n r_0 r_1 r_2 s_0 s_1 s_2).run := by kernel_rfl
theorem loops_s_RatEqual (n : Nat) : ∀ b ∈ allLoops (bodyOf Go.Proofs.Try.f61), BodyOk (cx_s_RatEqual n) bs_s_RatEqual n b :=
  allOf0 (by kernel_rfl) 
-- s_SameEstimates
noncomputable def bs_s_SameEstimates : List LoopB := []
noncomputable def cx_s_SameEstimates (n : Nat) : CtxT := ctxOf tab.tys [lw_s_EqualVectors, lw_s_EqualMatrices] bs_s_SameEstimates (fun _ => false) (fun t => decide (t < 2) || [2, 3, 4].contains t) n
noncomputable def T_s_SameEstimates (n : Nat) (a_0 : List (Bool × (List (Int)) × (List (Int)))) (a_1 : Int) (a_2 : Int) (a_3 : List (Bool × (List (Int)) × (List (Int)))) (b_0 : List (Bool × (List (Int)) × (List (Int)))) (b_1 : Int) (b_2 : Int) (b_3 : List (Bool × (List (Int)) × (List (Int)))) : Tr (List (List PL)) :=
  (.br (C.lim [PL.mk (LT.sl (Row.cons LT.bool (Row.cons LI (Row.one LI)))) a_0] && C.lim [PL.mk (LT.sl (Row.cons LT.bool (Row.cons LI (Row.one LI)))) b_0])
 (.br (C.eqPs [PL.mk (LT.sl (Row.cons LT.bool (Row.cons LI (Row.one LI)))) a_0] [PL.mk (LT.sl (Row.cons LT.bool (Row.cons LI (Row.one LI)))) b_0])
 (.br (C.lim [PL.mk i6 a_1, PL.mk i6 a_2, PL.mk (LT.sl (Row.cons LT.bool (Row.cons LI (Row.one LI)))) a_3] && C.lim [PL.mk i6 b_1, PL.mk i6 b_2, PL.mk (LT.sl (Row.cons LT.bool (Row.cons LI (Row.one LI)))) b_3])
 (.ret [[⟨.bool, C.eqPs [PL.mk i6 a_1, PL.mk i6 a_2, PL.mk (LT.sl (Row.cons LT.bool (Row.cons LI (Row.one LI)))) a_3] [PL.mk i6 b_1, PL.mk i6 b_2, PL.mk (LT.sl (Row.cons LT.bool (Row.cons LI (Row.one LI)))) b_3]⟩]])
 .fail)
 (.ret [[⟨.bool, Bool.false⟩]]))
 .fail)
theorem T_s_SameEstimates_ok (n : Nat) (a_0 : List (Bool × (List (Int)) × (List (Int)))) (a_1 : Int) (a_2 : Int) (a_3 : List (Bool × (List (Int)) × (List (Int)))) (b_0 : List (Bool × (List (Int)) × (List (Int)))) (b_1 : Int) (b_2 : Int) (b_3 : List (Bool × (List (Int)) × (List (Int)))) : (fnT (cx_s_SameEstimates n) Go.Proofs.Try.f30 sg_s_SameEstimates [.pls [⟨(.sl (.cons .bool (.cons (.sl (.one (.int .i64))) (.one (.sl (.one (.int .i64))))))), a_0⟩, ⟨(.int .i64), a_1⟩, ⟨(.int .i64), a_2⟩, ⟨(.sl (.cons .bool (.cons (.sl (.one (.int .i64))) (.one (.sl (.one (.int .i64))))))), a_3⟩], .pls [⟨(.sl (.cons .bool (.cons (.sl (.one (.int .i64))) (.one (.sl (.one (.int .i64))))))), b_0⟩, ⟨(.int .i64), b_1⟩, ⟨(.int .i64), b_2⟩, ⟨(.sl (.cons .bool (.cons (.sl (.one (.int .i64))) (.one (.sl (.one (.int .i64))))))), b_3⟩]]).run = (T_s_SameEstimates n a_0 a_1 a_2 a_3 b_0 b_1 b_2 b_3).run := by kernel_rfl
theorem loops_s_SameEstimates (n : Nat) : ∀ b ∈ allLoops (bodyOf Go.Proofs.Try.f30), BodyOk (cx_s_SameEstimates n) bs_s_SameEstimates n b :=
  allOf0 (by kernel_rfl) 
-- s_l01In
noncomputable def bs_s_l01In : List LoopB := []
noncomputable def cx_s_l01In (n : Nat) : CtxT := ctxOf tab.tys [] bs_s_l01In (fun _ => false) (fun t => decide (t < 3) || [6].contains t) n
noncomputable def T_s_l01In (n : Nat) (n0 : Int) (lo : Int) (hi : Int) : Tr (List (List PL)) :=
  (.br (decide (n0 ≥ lo))
 (.ret [[⟨.bool, decide (n0 ≤ hi)⟩]])
 (.ret [[⟨.bool, Bool.false⟩]]))
theorem T_s_l01In_ok (n : Nat) (n0 : Int) (lo : Int) (hi : Int) : (fnT (cx_s_l01In n) Go.Proofs.Try.f34 sg_s_l01In [.pls [⟨(.int .i64), n0⟩], .pls [⟨(.int .i64), lo⟩], .pls [⟨(.int .i64), hi⟩]]).run = (T_s_l01In n n0 lo hi).run := by kernel_rfl
theorem loops_s_l01In (n : Nat) : ∀ b ∈ allLoops (bodyOf Go.Proofs.Try.f34), BodyOk (cx_s_l01In n) bs_s_l01In n b :=
  allOf0 (by kernel_rfl) 
-- s_l04List
def sh_s_l04List_4 : Shape := ⟨[], 26, [(0, (.val (.one (.imm (.sl (.one (.int .i64))))))), (1, (.val (.one (.imm (.sl (.one (.int .i64))))))), (12, (.val (.one (.imm (.int .i64))))), (13, (.val (.one (.imm (.int .i64)))))], []⟩
def xs_s_l04List_4 : List (Ex × Shape) := [(.ret, ⟨[], 26, [(4, (.val (.one (.imm .bool))))], []⟩), (.exit 0, ⟨[], 26, [], []⟩)]
noncomputable def B_s_l04List_4 (n : Nat) : (List (Int)) × (List (Int)) × Int × Int → Tr (((List (Int)) × (List (Int)) × Int × Int) ⊕ Bool ⊕ Unit)
  | (s0, s1, s12, s13) =>
   (.br (decide (s13 < s12))
 (.br (decide (0 ≤ s13) && decide (s13 < (↑(List.length s0) : Int)))
 (.br (decide (0 ≤ s13) && decide (s13 < (↑(List.length s1) : Int)))
 (.br (!gd s0 s13 == gd s1 s13)
 (.ret (.inr ((.inl Bool.false))))
 (.ret (.inl ((s0, s1, s12, w64 (s13 + 1))))))
 .fail)
 .fail)
 (.ret (.inr ((.inr ())))))
noncomputable def bs_s_l04List : List LoopB := [⟨4, sh_s_l04List_4, xs_s_l04List_4, B_s_l04List_4⟩]
noncomputable def cx_s_l04List (n : Nat) : CtxT := ctxOf tab.tys [] bs_s_l04List (fun _ => false) (fun t => decide (t < 2) || [4, 5].contains t) n
noncomputable def T_s_l04List (n : Nat) (a : List (Int)) (b : List (Int)) : Tr (List (List PL)) :=
  (.br (!(↑(List.length a) : Int) == (↑(List.length b) : Int))
 (.ret [[⟨.bool, Bool.false⟩]])
 (.opt (it B_s_l04List_4 n (a, b, (↑(List.length a) : Int), 0)) fun r0 =>
 (.sum (r0) (fun r1 =>
 (.ret [[⟨.bool, r1⟩]])) (fun r1 =>
 (.ret [[⟨.bool, Bool.true⟩]])))))
theorem T_s_l04List_ok (n : Nat) (a : List (Int)) (b : List (Int)) : (fnT (cx_s_l04List n) Go.Proofs.Try.f67 sg_s_l04List [.pls [⟨(.sl (.one (.int .i64))), a⟩], .pls [⟨(.sl (.one (.int .i64))), b⟩]]).run = (T_s_l04List n a b).run := by kernel_rfl
theorem B_s_l04List_4_eq (n : Nat) (s0 : List (Int)) (s1 : List (Int)) (s12 : Int) (s13 : Int) : (bodyR (cx_s_l04List n) (nthLoop (bodyOf Go.Proofs.Try.f67) 0) ⟨4, sh_s_l04List_4, xs_s_l04List_4, B_s_l04List_4⟩ (s0, s1, s12, s13)).run = (B_s_l04List_4 n (s0, s1, s12, s13)).run := by kernel_rfl
theorem B_s_l04List_4_ok (n : Nat) : ∀ t, (bodyR (cx_s_l04List n) (nthLoop (bodyOf Go.Proofs.Try.f67) 0) ⟨4, sh_s_l04List_4, xs_s_l04List_4, B_s_l04List_4⟩ t).run = (B_s_l04List_4 n t).run := fun (t : (List (Int)) × (List (Int)) × Int × Int) => B_s_l04List_4_eq n t.1 t.2.1 t.2.2.1 t.2.2.2
theorem loops_s_l04List (n : Nat) : ∀ b ∈ allLoops (bodyOf Go.Proofs.Try.f67), BodyOk (cx_s_l04List n) bs_s_l04List n b :=
  allOf1 (by kernel_rfl) ⟨⟨4, sh_s_l04List_4, xs_s_l04List_4, B_s_l04List_4⟩, by kernel_rfl, B_s_l04List_4_ok n⟩
-- w_FnExactPlanCost
noncomputable def bs_w_FnExactPlanCost : List LoopB := []
noncomputable def cx_w_FnExactPlanCost (n : Nat) : CtxT := ctxOf tab.tys [lw_w_szCandidateS, lw_w_toCandidateS, lw_w_toIntS, lw_s_PlanCost, lw_i_PlanCost, lw_w_eqCandidateS, lw_w_eqIntS] bs_w_FnExactPlanCost (fun _ => false) (fun t => decide (t < 2) || [4, 5, 6, 7, 8, 9].contains t) n
noncomputable def T_w_FnExactPlanCost (n : Nat) (aList : List (Int × Int × Int × Bool × (List (Int)) × (List (Int)) × Bool × (List (Int)) × (List (Int)) × Int)) (aSet : List (Int)) : Tr (List (List PL)) :=
  (.br (decide ((↑(List.length aSet) : Int) > 1048576))
 (.ret [[⟨.bool, Bool.true⟩]])
 (.br (C.wl [PL.mk (LT.sl (Row.cons i6 (Row.cons i6 (Row.cons i6 (Row.cons LT.bool (Row.cons LI (Row.cons LI (Row.cons LT.bool (Row.cons LI (Row.cons LI (Row.one i6))))))))))) aList] && (sealed C0.okLeft).1 1048576)
 (.br (decide (C.sz [PL.mk (LT.sl (Row.cons i6 (Row.cons i6 (Row.cons i6 (Row.cons LT.bool (Row.cons LI (Row.cons LI (Row.cons LT.bool (Row.cons LI (Row.cons LI (Row.one i6))))))))))) aList] 1048576 < 0))
 (.ret [[⟨.bool, Bool.true⟩]])
 (.br (C.lim [PL.mk (LT.sl (Row.cons i6 (Row.cons i6 (Row.cons i6 (Row.cons LT.bool (Row.cons LI (Row.cons LI (Row.cons LT.bool (Row.cons LI (Row.cons LI (Row.one i6))))))))))) aList])
 (.br (C.lim [PL.mk LI aSet])
 (.br (C.lim [PL.mk (LT.sl (Row.cons i6 (Row.cons i6 (Row.cons i6 (Row.cons LT.bool (Row.cons LI (Row.cons LI (Row.cons LT.bool (Row.cons LI (Row.cons LI (Row.one i6))))))))))) aList] && C.lim [PL.mk LI aSet])
 (.br (C.lim [PL.mk (LT.sl (Row.cons i6 (Row.cons i6 (Row.cons i6 (Row.cons LT.bool (Row.cons LI (Row.cons LI (Row.cons LT.bool (Row.cons LI (Row.cons LI (Row.one i6))))))))))) aList])
 (.br (C.lim [PL.mk LI aSet])
 (.br (C.lim [PL.mk (LT.sl (Row.cons i6 (Row.cons i6 (Row.cons i6 (Row.cons LT.bool (Row.cons LI (Row.cons LI (Row.cons LT.bool (Row.cons LI (Row.cons LI (Row.one i6))))))))))) aList] && C.lim [PL.mk LI aSet])
 (.br (!C.planCost aList aSet == C.planCost aList aSet)
 (.ret [[⟨.bool, Bool.false⟩]])
 (.br (C.lim [PL.mk (LT.sl (Row.cons i6 (Row.cons i6 (Row.cons i6 (Row.cons LT.bool (Row.cons LI (Row.cons LI (Row.cons LT.bool (Row.cons LI (Row.cons LI (Row.one i6))))))))))) aList])
 (.br (C.lim [PL.mk (LT.sl (Row.cons i6 (Row.cons i6 (Row.cons i6 (Row.cons LT.bool (Row.cons LI (Row.cons LI (Row.cons LT.bool (Row.cons LI (Row.cons LI (Row.one i6))))))))))) aList] && C.lim [PL.mk (LT.sl (Row.cons i6 (Row.cons i6 (Row.cons i6 (Row.cons LT.bool (Row.cons LI (Row.cons LI (Row.cons LT.bool (Row.cons LI (Row.cons LI (Row.one i6))))))))))) aList])
 (.br (!C.eqPs [PL.mk (LT.sl (Row.cons i6 (Row.cons i6 (Row.cons i6 (Row.cons LT.bool (Row.cons LI (Row.cons LI (Row.cons LT.bool (Row.cons LI (Row.cons LI (Row.one i6))))))))))) aList] [PL.mk (LT.sl (Row.cons i6 (Row.cons i6 (Row.cons i6 (Row.cons LT.bool (Row.cons LI (Row.cons LI (Row.cons LT.bool (Row.cons LI (Row.cons LI (Row.one i6))))))))))) aList])
 (.ret [[⟨.bool, Bool.false⟩]])
 (.br (C.lim [PL.mk LI aSet])
 (.br (C.lim [PL.mk LI aSet] && C.lim [PL.mk LI aSet])
 (.br (!C.eqPs [PL.mk LI aSet] [PL.mk LI aSet])
 (.ret [[⟨.bool, Bool.false⟩]])
 (.ret [[⟨.bool, Bool.true⟩]]))
 .fail)
 .fail))
 .fail)
 .fail))
 .fail)
 .fail)
 .fail)
 .fail)
 .fail)
 .fail))
 .fail))
theorem T_w_FnExactPlanCost_ok (n : Nat) (aList : List (Int × Int × Int × Bool × (List (Int)) × (List (Int)) × Bool × (List (Int)) × (List (Int)) × Int)) (aSet : List (Int)) : (fnT (cx_w_FnExactPlanCost n) Go.Proofs.Try.f8 sg_w_FnExactPlanCost [.pls [⟨(.sl (.cons (.int .i64) (.cons (.int .i64) (.cons (.int .i64) (.cons .bool (.cons (.sl (.one (.int .i64))) (.cons (.sl (.one (.int .i64))) (.cons .bool (.cons (.sl (.one (.int .i64))) (.cons (.sl (.one (.int .i64))) (.one (.int .i64)))))))))))), aList⟩], .pls [⟨(.sl (.one (.int .i64))), aSet⟩]]).run = (T_w_FnExactPlanCost n aList aSet).run := by kernel_rfl
theorem loops_w_FnExactPlanCost (n : Nat) : ∀ b ∈ allLoops (bodyOf Go.Proofs.Try.f8), BodyOk (cx_w_FnExactPlanCost n) bs_w_FnExactPlanCost n b :=
  allOf0 (by kernel_rfl) 
-- w_FnExactSameEstimates
noncomputable def bs_w_FnExactSameEstimates : List LoopB := []
noncomputable def cx_w_FnExactSameEstimates (n : Nat) : CtxT := ctxOf tab.tys [lw_w_szEstimate, lw_w_toEstimate, lw_s_SameEstimates, lw_i_SameEstimates, lw_w_eqEstimate] bs_w_FnExactSameEstimates (fun _ => false) (fun t => decide (t < 2) || [2, 3, 4, 5, 6, 7, 8, 9].contains t) n
noncomputable def T_w_FnExactSameEstimates (n : Nat) (aA_0 : List (Bool × (List (Int)) × (List (Int)))) (aA_1 : Int) (aA_2 : Int) (aA_3 : List (Bool × (List (Int)) × (List (Int)))) (aB_0 : List (Bool × (List (Int)) × (List (Int)))) (aB_1 : Int) (aB_2 : Int) (aB_3 : List (Bool × (List (Int)) × (List (Int)))) : Tr (List (List PL)) :=
  (.br (C.wl [PL.mk (LT.sl (Row.cons LT.bool (Row.cons LI (Row.one LI)))) aA_0, PL.mk i6 aA_1, PL.mk i6 aA_2, PL.mk (LT.sl (Row.cons LT.bool (Row.cons LI (Row.one LI)))) aA_3] && (sealed C0.okLeft).1 1048576)
 (.br (decide (C.sz [PL.mk (LT.sl (Row.cons LT.bool (Row.cons LI (Row.one LI)))) aA_0, PL.mk i6 aA_1, PL.mk i6 aA_2, PL.mk (LT.sl (Row.cons LT.bool (Row.cons LI (Row.one LI)))) aA_3] 1048576 < 0))
 (.ret [[⟨.bool, Bool.true⟩]])
 (.br (C.wl [PL.mk (LT.sl (Row.cons LT.bool (Row.cons LI (Row.one LI)))) aB_0, PL.mk i6 aB_1, PL.mk i6 aB_2, PL.mk (LT.sl (Row.cons LT.bool (Row.cons LI (Row.one LI)))) aB_3] && C.okLeft (C.sz [PL.mk (LT.sl (Row.cons LT.bool (Row.cons LI (Row.one LI)))) aA_0, PL.mk i6 aA_1, PL.mk i6 aA_2, PL.mk (LT.sl (Row.cons LT.bool (Row.cons LI (Row.one LI)))) aA_3] 1048576))
 (.br (decide (C.sz [PL.mk (LT.sl (Row.cons LT.bool (Row.cons LI (Row.one LI)))) aB_0, PL.mk i6 aB_1, PL.mk i6 aB_2, PL.mk (LT.sl (Row.cons LT.bool (Row.cons LI (Row.one LI)))) aB_3] (C.sz [PL.mk (LT.sl (Row.cons LT.bool (Row.cons LI (Row.one LI)))) aA_0, PL.mk i6 aA_1, PL.mk i6 aA_2, PL.mk (LT.sl (Row.cons LT.bool (Row.cons LI (Row.one LI)))) aA_3] 1048576) < 0))
 (.ret [[⟨.bool, Bool.true⟩]])
 (.br (C.lim [PL.mk (LT.sl (Row.cons LT.bool (Row.cons LI (Row.one LI)))) aA_0, PL.mk i6 aA_1, PL.mk i6 aA_2, PL.mk (LT.sl (Row.cons LT.bool (Row.cons LI (Row.one LI)))) aA_3])
 (.br (C.lim [PL.mk (LT.sl (Row.cons LT.bool (Row.cons LI (Row.one LI)))) aB_0, PL.mk i6 aB_1, PL.mk i6 aB_2, PL.mk (LT.sl (Row.cons LT.bool (Row.cons LI (Row.one LI)))) aB_3])
 (.br (C.lim [PL.mk (LT.sl (Row.cons LT.bool (Row.cons LI (Row.one LI)))) aA_0, PL.mk i6 aA_1, PL.mk i6 aA_2, PL.mk (LT.sl (Row.cons LT.bool (Row.cons LI (Row.one LI)))) aA_3] && C.lim [PL.mk (LT.sl (Row.cons LT.bool (Row.cons LI (Row.one LI)))) aB_0, PL.mk i6 aB_1, PL.mk i6 aB_2, PL.mk (LT.sl (Row.cons LT.bool (Row.cons LI (Row.one LI)))) aB_3])
 (.br (C.lim [PL.mk (LT.sl (Row.cons LT.bool (Row.cons LI (Row.one LI)))) aA_0, PL.mk i6 aA_1, PL.mk i6 aA_2, PL.mk (LT.sl (Row.cons LT.bool (Row.cons LI (Row.one LI)))) aA_3])
 (.br (C.lim [PL.mk (LT.sl (Row.cons LT.bool (Row.cons LI (Row.one LI)))) aB_0, PL.mk i6 aB_1, PL.mk i6 aB_2, PL.mk (LT.sl (Row.cons LT.bool (Row.cons LI (Row.one LI)))) aB_3])
 (.br (C.lim [PL.mk (LT.sl (Row.cons LT.bool (Row.cons LI (Row.one LI)))) aA_0, PL.mk i6 aA_1, PL.mk i6 aA_2, PL.mk (LT.sl (Row.cons LT.bool (Row.cons LI (Row.one LI)))) aA_3] && C.lim [PL.mk (LT.sl (Row.cons LT.bool (Row.cons LI (Row.one LI)))) aB_0, PL.mk i6 aB_1, PL.mk i6 aB_2, PL.mk (LT.sl (Row.cons LT.bool (Row.cons LI (Row.one LI)))) aB_3])
 (.br (!C.eqPs [PL.mk (LT.sl (Row.cons LT.bool (Row.cons LI (Row.one LI)))) aA_0, PL.mk i6 aA_1, PL.mk i6 aA_2, PL.mk (LT.sl (Row.cons LT.bool (Row.cons LI (Row.one LI)))) aA_3] [PL.mk (LT.sl (Row.cons LT.bool (Row.cons LI (Row.one LI)))) aB_0, PL.mk i6 aB_1, PL.mk i6 aB_2, PL.mk (LT.sl (Row.cons LT.bool (Row.cons LI (Row.one LI)))) aB_3] == C.eqPs [PL.mk (LT.sl (Row.cons LT.bool (Row.cons LI (Row.one LI)))) aA_0, PL.mk i6 aA_1, PL.mk i6 aA_2, PL.mk (LT.sl (Row.cons LT.bool (Row.cons LI (Row.one LI)))) aA_3] [PL.mk (LT.sl (Row.cons LT.bool (Row.cons LI (Row.one LI)))) aB_0, PL.mk i6 aB_1, PL.mk i6 aB_2, PL.mk (LT.sl (Row.cons LT.bool (Row.cons LI (Row.one LI)))) aB_3])
 (.ret [[⟨.bool, Bool.false⟩]])
 (.br (C.lim [PL.mk (LT.sl (Row.cons LT.bool (Row.cons LI (Row.one LI)))) aA_0, PL.mk i6 aA_1, PL.mk i6 aA_2, PL.mk (LT.sl (Row.cons LT.bool (Row.cons LI (Row.one LI)))) aA_3])
 (.br (C.lim [PL.mk (LT.sl (Row.cons LT.bool (Row.cons LI (Row.one LI)))) aA_0, PL.mk i6 aA_1, PL.mk i6 aA_2, PL.mk (LT.sl (Row.cons LT.bool (Row.cons LI (Row.one LI)))) aA_3] && C.lim [PL.mk (LT.sl (Row.cons LT.bool (Row.cons LI (Row.one LI)))) aA_0, PL.mk i6 aA_1, PL.mk i6 aA_2, PL.mk (LT.sl (Row.cons LT.bool (Row.cons LI (Row.one LI)))) aA_3])
 (.br (!C.eqPs [PL.mk (LT.sl (Row.cons LT.bool (Row.cons LI (Row.one LI)))) aA_0, PL.mk i6 aA_1, PL.mk i6 aA_2, PL.mk (LT.sl (Row.cons LT.bool (Row.cons LI (Row.one LI)))) aA_3] [PL.mk (LT.sl (Row.cons LT.bool (Row.cons LI (Row.one LI)))) aA_0, PL.mk i6 aA_1, PL.mk i6 aA_2, PL.mk (LT.sl (Row.cons LT.bool (Row.cons LI (Row.one LI)))) aA_3])
 (.ret [[⟨.bool, Bool.false⟩]])
 (.br (C.lim [PL.mk (LT.sl (Row.cons LT.bool (Row.cons LI (Row.one LI)))) aB_0, PL.mk i6 aB_1, PL.mk i6 aB_2, PL.mk (LT.sl (Row.cons LT.bool (Row.cons LI (Row.one LI)))) aB_3])
 (.br (C.lim [PL.mk (LT.sl (Row.cons LT.bool (Row.cons LI (Row.one LI)))) aB_0, PL.mk i6 aB_1, PL.mk i6 aB_2, PL.mk (LT.sl (Row.cons LT.bool (Row.cons LI (Row.one LI)))) aB_3] && C.lim [PL.mk (LT.sl (Row.cons LT.bool (Row.cons LI (Row.one LI)))) aB_0, PL.mk i6 aB_1, PL.mk i6 aB_2, PL.mk (LT.sl (Row.cons LT.bool (Row.cons LI (Row.one LI)))) aB_3])
 (.br (!C.eqPs [PL.mk (LT.sl (Row.cons LT.bool (Row.cons LI (Row.one LI)))) aB_0, PL.mk i6 aB_1, PL.mk i6 aB_2, PL.mk (LT.sl (Row.cons LT.bool (Row.cons LI (Row.one LI)))) aB_3] [PL.mk (LT.sl (Row.cons LT.bool (Row.cons LI (Row.one LI)))) aB_0, PL.mk i6 aB_1, PL.mk i6 aB_2, PL.mk (LT.sl (Row.cons LT.bool (Row.cons LI (Row.one LI)))) aB_3])
 (.ret [[⟨.bool, Bool.false⟩]])
 (.ret [[⟨.bool, Bool.true⟩]]))
 .fail)
 .fail))
 .fail)
 .fail))
 .fail)
 .fail)
 .fail)
 .fail)
 .fail)
 .fail))
 .fail))
 .fail)
theorem T_w_FnExactSameEstimates_ok (n : Nat) (aA_0 : List (Bool × (List (Int)) × (List (Int)))) (aA_1 : Int) (aA_2 : Int) (aA_3 : List (Bool × (List (Int)) × (List (Int)))) (aB_0 : List (Bool × (List (Int)) × (List (Int)))) (aB_1 : Int) (aB_2 : Int) (aB_3 : List (Bool × (List (Int)) × (List (Int)))) : (fnT (cx_w_FnExactSameEstimates n) Go.Proofs.Try.f9 sg_w_FnExactSameEstimates [.pls [⟨(.sl (.cons .bool (.cons (.sl (.one (.int .i64))) (.one (.sl (.one (.int .i64))))))), aA_0⟩, ⟨(.int .i64), aA_1⟩, ⟨(.int .i64), aA_2⟩, ⟨(.sl (.cons .bool (.cons (.sl (.one (.int .i64))) (.one (.sl (.one (.int .i64))))))), aA_3⟩], .pls [⟨(.sl (.cons .bool (.cons (.sl (.one (.int .i64))) (.one (.sl (.one (.int .i64))))))), aB_0⟩, ⟨(.int .i64), aB_1⟩, ⟨(.int .i64), aB_2⟩, ⟨(.sl (.cons .bool (.cons (.sl (.one (.int .i64))) (.one (.sl (.one (.int .i64))))))), aB_3⟩]]).run = (T_w_FnExactSameEstimates n aA_0 aA_1 aA_2 aA_3 aB_0 aB_1 aB_2 aB_3).run := by kernel_rfl
theorem loops_w_FnExactSameEstimates (n : Nat) : ∀ b ∈ allLoops (bodyOf Go.Proofs.Try.f9), BodyOk (cx_w_FnExactSameEstimates n) bs_w_FnExactSameEstimates n b :=
  allOf0 (by kernel_rfl) 
-- w_eqBigInt
noncomputable def bs_w_eqBigInt : List LoopB := []
noncomputable def cx_w_eqBigInt (n : Nat) : CtxT := ctxOf tab.tys [lw_w_eqIntS] bs_w_eqBigInt (fun _ => false) (fun t => decide (t < 2) || [2, 3, 4].contains t) n
noncomputable def T_w_eqBigInt (n : Nat) (a_0 : Bool) (a_1 : List (Int)) (b_0 : Bool) (b_1 : List (Int)) : Tr (List (List PL)) :=
  (.br (!a_0 == b_0)
 (.ret [[⟨.bool, Bool.false⟩]])
 (.br (C.lim [PL.mk LI a_1] && C.lim [PL.mk LI b_1])
 (.br (!C.eqPs [PL.mk LI a_1] [PL.mk LI b_1])
 (.ret [[⟨.bool, Bool.false⟩]])
 (.ret [[⟨.bool, Bool.true⟩]]))
 .fail))
theorem T_w_eqBigInt_ok (n : Nat) (a_0 : Bool) (a_1 : List (Int)) (b_0 : Bool) (b_1 : List (Int)) : (fnT (cx_w_eqBigInt n) Go.Proofs.Try.f70 sg_w_eqBigInt [.pls [⟨.bool, a_0⟩, ⟨(.sl (.one (.int .i64))), a_1⟩], .pls [⟨.bool, b_0⟩, ⟨(.sl (.one (.int .i64))), b_1⟩]]).run = (T_w_eqBigInt n a_0 a_1 b_0 b_1).run := by kernel_rfl
theorem loops_w_eqBigInt (n : Nat) : ∀ b ∈ allLoops (bodyOf Go.Proofs.Try.f70), BodyOk (cx_w_eqBigInt n) bs_w_eqBigInt n b :=
  allOf0 (by kernel_rfl) 
-- w_eqCandidate
noncomputable def bs_w_eqCandidate : List LoopB := []
noncomputable def cx_w_eqCandidate (n : Nat) : CtxT := ctxOf tab.tys [lw_w_eqObservation] bs_w_eqCandidate (fun _ => false) (fun t => decide (t < 2) || [2, 3, 4].contains t) n
noncomputable def T_w_eqCandidate (n : Nat) (a_0 : Int) (a_1 : Int) (a_2 : Int) (a_3 : Bool) (a_4 : List (Int)) (a_5 : List (Int)) (a_6 : Bool) (a_7 : List (Int)) (a_8 : List (Int)) (a_9 : Int) (b_0 : Int) (b_1 : Int) (b_2 : Int) (b_3 : Bool) (b_4 : List (Int)) (b_5 : List (Int)) (b_6 : Bool) (b_7 : List (Int)) (b_8 : List (Int)) (b_9 : Int) : Tr (List (List PL)) :=
  (.br (C.lim [PL.mk i6 a_0, PL.mk i6 a_1, PL.mk i6 a_2, PL.mk LT.bool a_3, PL.mk LI a_4, PL.mk LI a_5, PL.mk LT.bool a_6, PL.mk LI a_7, PL.mk LI a_8] && C.lim [PL.mk i6 b_0, PL.mk i6 b_1, PL.mk i6 b_2, PL.mk LT.bool b_3, PL.mk LI b_4, PL.mk LI b_5, PL.mk LT.bool b_6, PL.mk LI b_7, PL.mk LI b_8])
 (.br (!C.eqPs [PL.mk i6 a_0, PL.mk i6 a_1, PL.mk i6 a_2, PL.mk LT.bool a_3, PL.mk LI a_4, PL.mk LI a_5, PL.mk LT.bool a_6, PL.mk LI a_7, PL.mk LI a_8] [PL.mk i6 b_0, PL.mk i6 b_1, PL.mk i6 b_2, PL.mk LT.bool b_3, PL.mk LI b_4, PL.mk LI b_5, PL.mk LT.bool b_6, PL.mk LI b_7, PL.mk LI b_8])
 (.ret [[⟨.bool, Bool.false⟩]])
 (.br (!a_9 == b_9)
 (.ret [[⟨.bool, Bool.false⟩]])
 (.ret [[⟨.bool, Bool.true⟩]])))
 .fail)
theorem T_w_eqCandidate_ok (n : Nat) (a_0 : Int) (a_1 : Int) (a_2 : Int) (a_3 : Bool) (a_4 : List (Int)) (a_5 : List (Int)) (a_6 : Bool) (a_7 : List (Int)) (a_8 : List (Int)) (a_9 : Int) (b_0 : Int) (b_1 : Int) (b_2 : Int) (b_3 : Bool) (b_4 : List (Int)) (b_5 : List (Int)) (b_6 : Bool) (b_7 : List (Int)) (b_8 : List (Int)) (b_9 : Int) : (fnT (cx_w_eqCandidate n) Go.Proofs.Try.f45 sg_w_eqCandidate [.pls [⟨(.int .i64), a_0⟩, ⟨(.int .i64), a_1⟩, ⟨(.int .i64), a_2⟩, ⟨.bool, a_3⟩, ⟨(.sl (.one (.int .i64))), a_4⟩, ⟨(.sl (.one (.int .i64))), a_5⟩, ⟨.bool, a_6⟩, ⟨(.sl (.one (.int .i64))), a_7⟩, ⟨(.sl (.one (.int .i64))), a_8⟩, ⟨(.int .i64), a_9⟩], .pls [⟨(.int .i64), b_0⟩, ⟨(.int .i64), b_1⟩, ⟨(.int .i64), b_2⟩, ⟨.bool, b_3⟩, ⟨(.sl (.one (.int .i64))), b_4⟩, ⟨(.sl (.one (.int .i64))), b_5⟩, ⟨.bool, b_6⟩, ⟨(.sl (.one (.int .i64))), b_7⟩, ⟨(.sl (.one (.int .i64))), b_8⟩, ⟨(.int .i64), b_9⟩]]).run = (T_w_eqCandidate n a_0 a_1 a_2 a_3 a_4 a_5 a_6 a_7 a_8 a_9 b_0 b_1 b_2 b_3 b_4 b_5 b_6 b_7 b_8 b_9).run := by kernel_rfl
theorem loops_w_eqCandidate (n : Nat) : ∀ b ∈ allLoops (bodyOf Go.Proofs.Try.f45), BodyOk (cx_w_eqCandidate n) bs_w_eqCandidate n b :=
  allOf0 (by kernel_rfl) 
-- w_eqCandidateS
def sh_w_eqCandidateS_4 : Shape := ⟨[], 27, [(0, (.val (.one (.imm (.sl (.cons (.int .i64) (.cons (.int .i64) (.cons (.int .i64) (.cons .bool (.cons (.sl (.one (.int .i64))) (.cons (.sl (.one (.int .i64))) (.cons .bool (.cons (.sl (.one (.int .i64))) (.cons (.sl (.one (.int .i64))) (.one (.int .i64)))))))))))))))), (1, (.val (.one (.imm (.sl (.cons (.int .i64) (.cons (.int .i64) (.cons (.int .i64) (.cons .bool (.cons (.sl (.one (.int .i64))) (.cons (.sl (.one (.int .i64))) (.cons .bool (.cons (.sl (.one (.int .i64))) (.cons (.sl (.one (.int .i64))) (.one (.int .i64)))))))))))))))), (5, (.val (.one (.imm (.int .i64)))))], []⟩
def xs_w_eqCandidateS_4 : List (Ex × Shape) := [(.ret, ⟨[], 27, [(4, (.val (.one (.imm .bool))))], []⟩), (.exit 0, ⟨[], 27, [], []⟩)]
noncomputable def B_w_eqCandidateS_4 (n : Nat) : (List (Int × Int × Int × Bool × (List (Int)) × (List (Int)) × Bool × (List (Int)) × (List (Int)) × Int)) × (List (Int × Int × Int × Bool × (List (Int)) × (List (Int)) × Bool × (List (Int)) × (List (Int)) × Int)) × Int → Tr (((List (Int × Int × Int × Bool × (List (Int)) × (List (Int)) × Bool × (List (Int)) × (List (Int)) × Int)) × (List (Int × Int × Int × Bool × (List (Int)) × (List (Int)) × Bool × (List (Int)) × (List (Int)) × Int)) × Int) ⊕ Bool ⊕ Unit)
  | (s0, s1, s5) =>
   (.br (decide (s5 < (↑(List.length s0) : Int)))
 (.br (decide (0 ≤ s5) && decide (s5 < (↑(List.length s0) : Int)))
 (.br (decide (0 ≤ s5) && decide (s5 < (↑(List.length s1) : Int)))
 (.br (C.lim [PL.mk i6 (gd s0 s5).1, PL.mk i6 (gd s0 s5).2.1, PL.mk i6 (gd s0 s5).2.2.1, PL.mk LT.bool (gd s0 s5).2.2.2.1, PL.mk LI (gd s0 s5).2.2.2.2.1, PL.mk LI (gd s0 s5).2.2.2.2.2.1, PL.mk LT.bool (gd s0 s5).2.2.2.2.2.2.1, PL.mk LI (gd s0 s5).2.2.2.2.2.2.2.1, PL.mk LI (gd s0 s5).2.2.2.2.2.2.2.2.1, PL.mk i6 (gd s0 s5).2.2.2.2.2.2.2.2.2] && C.lim [PL.mk i6 (gd s1 s5).1, PL.mk i6 (gd s1 s5).2.1, PL.mk i6 (gd s1 s5).2.2.1, PL.mk LT.bool (gd s1 s5).2.2.2.1, PL.mk LI (gd s1 s5).2.2.2.2.1, PL.mk LI (gd s1 s5).2.2.2.2.2.1, PL.mk LT.bool (gd s1 s5).2.2.2.2.2.2.1, PL.mk LI (gd s1 s5).2.2.2.2.2.2.2.1, PL.mk LI (gd s1 s5).2.2.2.2.2.2.2.2.1, PL.mk i6 (gd s1 s5).2.2.2.2.2.2.2.2.2])
 (.br (!C.eqPs [PL.mk i6 (gd s0 s5).1, PL.mk i6 (gd s0 s5).2.1, PL.mk i6 (gd s0 s5).2.2.1, PL.mk LT.bool (gd s0 s5).2.2.2.1, PL.mk LI (gd s0 s5).2.2.2.2.1, PL.mk LI (gd s0 s5).2.2.2.2.2.1, PL.mk LT.bool (gd s0 s5).2.2.2.2.2.2.1, PL.mk LI (gd s0 s5).2.2.2.2.2.2.2.1, PL.mk LI (gd s0 s5).2.2.2.2.2.2.2.2.1, PL.mk i6 (gd s0 s5).2.2.2.2.2.2.2.2.2] [PL.mk i6 (gd s1 s5).1, PL.mk i6 (gd s1 s5).2.1, PL.mk i6 (gd s1 s5).2.2.1, PL.mk LT.bool (gd s1 s5).2.2.2.1, PL.mk LI (gd s1 s5).2.2.2.2.1, PL.mk LI (gd s1 s5).2.2.2.2.2.1, PL.mk LT.bool (gd s1 s5).2.2.2.2.2.2.1, PL.mk LI (gd s1 s5).2.2.2.2.2.2.2.1, PL.mk LI (gd s1 s5).2.2.2.2.2.2.2.2.1, PL.mk i6 (gd s1 s5).2.2.2.2.2.2.2.2.2])
 (.ret (.inr ((.inl Bool.false))))
 (.ret (.inl ((s0, s1, w64 (s5 + 1))))))
 .fail)
 .fail)
 .fail)
 (.ret (.inr ((.inr ())))))
noncomputable def bs_w_eqCandidateS : List LoopB := [⟨4, sh_w_eqCandidateS_4, xs_w_eqCandidateS_4, B_w_eqCandidateS_4⟩]
noncomputable def cx_w_eqCandidateS (n : Nat) : CtxT := ctxOf tab.tys [lw_w_eqCandidate] bs_w_eqCandidateS (fun _ => false) (fun t => decide (t < 2) || [4, 5].contains t) n
noncomputable def T_w_eqCandidateS (n : Nat) (a : List (Int × Int × Int × Bool × (List (Int)) × (List (Int)) × Bool × (List (Int)) × (List (Int)) × Int)) (b : List (Int × Int × Int × Bool × (List (Int)) × (List (Int)) × Bool × (List (Int)) × (List (Int)) × Int)) : Tr (List (List PL)) :=
  (.br (!(↑(List.length a) : Int) == (↑(List.length b) : Int))
 (.ret [[⟨.bool, Bool.false⟩]])
 (.opt (it B_w_eqCandidateS_4 n (a, b, 0)) fun r0 =>
 (.sum (r0) (fun r1 =>
 (.ret [[⟨.bool, r1⟩]])) (fun r1 =>
 (.ret [[⟨.bool, Bool.true⟩]])))))
theorem T_w_eqCandidateS_ok (n : Nat) (a : List (Int × Int × Int × Bool × (List (Int)) × (List (Int)) × Bool × (List (Int)) × (List (Int)) × Int)) (b : List (Int × Int × Int × Bool × (List (Int)) × (List (Int)) × Bool × (List (Int)) × (List (Int)) × Int)) : (fnT (cx_w_eqCandidateS n) Go.Proofs.Try.f28 sg_w_eqCandidateS [.pls [⟨(.sl (.cons (.int .i64) (.cons (.int .i64) (.cons (.int .i64) (.cons .bool (.cons (.sl (.one (.int .i64))) (.cons (.sl (.one (.int .i64))) (.cons .bool (.cons (.sl (.one (.int .i64))) (.cons (.sl (.one (.int .i64))) (.one (.int .i64)))))))))))), a⟩], .pls [⟨(.sl (.cons (.int .i64) (.cons (.int .i64) (.cons (.int .i64) (.cons .bool (.cons (.sl (.one (.int .i64))) (.cons (.sl (.one (.int .i64))) (.cons .bool (.cons (.sl (.one (.int .i64))) (.cons (.sl (.one (.int .i64))) (.one (.int .i64)))))))))))), b⟩]]).run = (T_w_eqCandidateS n a b).run := by kernel_rfl
theorem B_w_eqCandidateS_4_eq (n : Nat) (s0 : List (Int × Int × Int × Bool × (List (Int)) × (List (Int)) × Bool × (List (Int)) × (List (Int)) × Int)) (s1 : List (Int × Int × Int × Bool × (List (Int)) × (List (Int)) × Bool × (List (Int)) × (List (Int)) × Int)) (s5 : Int) : (bodyR (cx_w_eqCandidateS n) (nthLoop (bodyOf Go.Proofs.Try.f28) 0) ⟨4, sh_w_eqCandidateS_4, xs_w_eqCandidateS_4, B_w_eqCandidateS_4⟩ (s0, s1, s5)).run = (B_w_eqCandidateS_4 n (s0, s1, s5)).run := by kernel_rfl
theorem B_w_eqCandidateS_4_ok (n : Nat) : ∀ t, (bodyR (cx_w_eqCandidateS n) (nthLoop (bodyOf Go.Proofs.Try.f28) 0) ⟨4, sh_w_eqCandidateS_4, xs_w_eqCandidateS_4, B_w_eqCandidateS_4⟩ t).run = (B_w_eqCandidateS_4 n t).run := fun (t : (List (Int × Int × Int × Bool × (List (Int)) × (List (Int)) × Bool × (List (Int)) × (List (Int)) × Int)) × (List (Int × Int × Int × Bool × (List (Int)) × (List (Int)) × Bool × (List (Int)) × (List (Int)) × Int)) × Int) => B_w_eqCandidateS_4_eq n t.1 t.2.1 t.2.2
theorem loops_w_eqCandidateS (n : Nat) : ∀ b ∈ allLoops (bodyOf Go.Proofs.Try.f28), BodyOk (cx_w_eqCandidateS n) bs_w_eqCandidateS n b :=
  allOf1 (by kernel_rfl) ⟨⟨4, sh_w_eqCandidateS_4, xs_w_eqCandidateS_4, B_w_eqCandidateS_4⟩, by kernel_rfl, B_w_eqCandidateS_4_ok n⟩
-- w_eqEstimate
noncomputable def bs_w_eqEstimate : List LoopB := []
noncomputable def cx_w_eqEstimate (n : Nat) : CtxT := ctxOf tab.tys [lw_w_eqRatS, lw_w_eqMatrix] bs_w_eqEstimate (fun _ => false) (fun t => decide (t < 2) || [2, 3, 4].contains t) n
noncomputable def T_w_eqEstimate (n : Nat) (a_0 : List (Bool × (List (Int)) × (List (Int)))) (a_1 : Int) (a_2 : Int) (a_3 : List (Bool × (List (Int)) × (List (Int)))) (b_0 : List (Bool × (List (Int)) × (List (Int)))) (b_1 : Int) (b_2 : Int) (b_3 : List (Bool × (List (Int)) × (List (Int)))) : Tr (List (List PL)) :=
  (.br (C.lim [PL.mk (LT.sl (Row.cons LT.bool (Row.cons LI (Row.one LI)))) a_0] && C.lim [PL.mk (LT.sl (Row.cons LT.bool (Row.cons LI (Row.one LI)))) b_0])
 (.br (!C.eqPs [PL.mk (LT.sl (Row.cons LT.bool (Row.cons LI (Row.one LI)))) a_0] [PL.mk (LT.sl (Row.cons LT.bool (Row.cons LI (Row.one LI)))) b_0])
 (.ret [[⟨.bool, Bool.false⟩]])
 (.br (C.lim [PL.mk i6 a_1, PL.mk i6 a_2, PL.mk (LT.sl (Row.cons LT.bool (Row.cons LI (Row.one LI)))) a_3] && C.lim [PL.mk i6 b_1, PL.mk i6 b_2, PL.mk (LT.sl (Row.cons LT.bool (Row.cons LI (Row.one LI)))) b_3])
 (.br (!C.eqPs [PL.mk i6 a_1, PL.mk i6 a_2, PL.mk (LT.sl (Row.cons LT.bool (Row.cons LI (Row.one LI)))) a_3] [PL.mk i6 b_1, PL.mk i6 b_2, PL.mk (LT.sl (Row.cons LT.bool (Row.cons LI (Row.one LI)))) b_3])
 (.ret [[⟨.bool, Bool.false⟩]])
 (.ret [[⟨.bool, Bool.true⟩]]))
 .fail))
 .fail)
theorem T_w_eqEstimate_ok (n : Nat) (a_0 : List (Bool × (List (Int)) × (List (Int)))) (a_1 : Int) (a_2 : Int) (a_3 : List (Bool × (List (Int)) × (List (Int)))) (b_0 : List (Bool × (List (Int)) × (List (Int)))) (b_1 : Int) (b_2 : Int) (b_3 : List (Bool × (List (Int)) × (List (Int)))) : (fnT (cx_w_eqEstimate n) Go.Proofs.Try.f33 sg_w_eqEstimate [.pls [⟨(.sl (.cons .bool (.cons (.sl (.one (.int .i64))) (.one (.sl (.one (.int .i64))))))), a_0⟩, ⟨(.int .i64), a_1⟩, ⟨(.int .i64), a_2⟩, ⟨(.sl (.cons .bool (.cons (.sl (.one (.int .i64))) (.one (.sl (.one (.int .i64))))))), a_3⟩], .pls [⟨(.sl (.cons .bool (.cons (.sl (.one (.int .i64))) (.one (.sl (.one (.int .i64))))))), b_0⟩, ⟨(.int .i64), b_1⟩, ⟨(.int .i64), b_2⟩, ⟨(.sl (.cons .bool (.cons (.sl (.one (.int .i64))) (.one (.sl (.one (.int .i64))))))), b_3⟩]]).run = (T_w_eqEstimate n a_0 a_1 a_2 a_3 b_0 b_1 b_2 b_3).run := by kernel_rfl
theorem loops_w_eqEstimate (n : Nat) : ∀ b ∈ allLoops (bodyOf Go.Proofs.Try.f33), BodyOk (cx_w_eqEstimate n) bs_w_eqEstimate n b :=
  allOf0 (by kernel_rfl) 
-- w_eqIntS
def sh_w_eqIntS_4 : Shape := ⟨[], 26, [(0, (.val (.one (.imm (.sl (.one (.int .i64))))))), (1, (.val (.one (.imm (.sl (.one (.int .i64))))))), (5, (.val (.one (.imm (.int .i64)))))], []⟩
def xs_w_eqIntS_4 : List (Ex × Shape) := [(.ret, ⟨[], 26, [(4, (.val (.one (.imm .bool))))], []⟩), (.exit 0, ⟨[], 26, [], []⟩)]
noncomputable def B_w_eqIntS_4 (n : Nat) : (List (Int)) × (List (Int)) × Int → Tr (((List (Int)) × (List (Int)) × Int) ⊕ Bool ⊕ Unit)
  | (s0, s1, s5) =>
   (.br (decide (s5 < (↑(List.length s0) : Int)))
 (.br (decide (0 ≤ s5) && decide (s5 < (↑(List.length s0) : Int)))
 (.br (decide (0 ≤ s5) && decide (s5 < (↑(List.length s1) : Int)))
 (.br (!gd s0 s5 == gd s1 s5)
 (.ret (.inr ((.inl Bool.false))))
 (.ret (.inl ((s0, s1, w64 (s5 + 1))))))
 .fail)
 .fail)
 (.ret (.inr ((.inr ())))))
noncomputable def bs_w_eqIntS : List LoopB := [⟨4, sh_w_eqIntS_4, xs_w_eqIntS_4, B_w_eqIntS_4⟩]
noncomputable def cx_w_eqIntS (n : Nat) : CtxT := ctxOf tab.tys [] bs_w_eqIntS (fun _ => false) (fun t => decide (t < 2) || [4, 5].contains t) n
noncomputable def T_w_eqIntS (n : Nat) (a : List (Int)) (b : List (Int)) : Tr (List (List PL)) :=
  (.br (!(↑(List.length a) : Int) == (↑(List.length b) : Int))
 (.ret [[⟨.bool, Bool.false⟩]])
 (.opt (it B_w_eqIntS_4 n (a, b, 0)) fun r0 =>
 (.sum (r0) (fun r1 =>
 (.ret [[⟨.bool, r1⟩]])) (fun r1 =>
 (.ret [[⟨.bool, Bool.true⟩]])))))
theorem T_w_eqIntS_ok (n : Nat) (a : List (Int)) (b : List (Int)) : (fnT (cx_w_eqIntS n) Go.Proofs.Try.f16 sg_w_eqIntS [.pls [⟨(.sl (.one (.int .i64))), a⟩], .pls [⟨(.sl (.one (.int .i64))), b⟩]]).run = (T_w_eqIntS n a b).run := by kernel_rfl
theorem B_w_eqIntS_4_eq (n : Nat) (s0 : List (Int)) (s1 : List (Int)) (s5 : Int) : (bodyR (cx_w_eqIntS n) (nthLoop (bodyOf Go.Proofs.Try.f16) 0) ⟨4, sh_w_eqIntS_4, xs_w_eqIntS_4, B_w_eqIntS_4⟩ (s0, s1, s5)).run = (B_w_eqIntS_4 n (s0, s1, s5)).run := by kernel_rfl
theorem B_w_eqIntS_4_ok (n : Nat) : ∀ t, (bodyR (cx_w_eqIntS n) (nthLoop (bodyOf Go.Proofs.Try.f16) 0) ⟨4, sh_w_eqIntS_4, xs_w_eqIntS_4, B_w_eqIntS_4⟩ t).run = (B_w_eqIntS_4 n t).run := fun (t : (List (Int)) × (List (Int)) × Int) => B_w_eqIntS_4_eq n t.1 t.2.1 t.2.2
theorem loops_w_eqIntS (n : Nat) : ∀ b ∈ allLoops (bodyOf Go.Proofs.Try.f16), BodyOk (cx_w_eqIntS n) bs_w_eqIntS n b :=
  allOf1 (by kernel_rfl) ⟨⟨4, sh_w_eqIntS_4, xs_w_eqIntS_4, B_w_eqIntS_4⟩, by kernel_rfl, B_w_eqIntS_4_ok n⟩
-- w_eqMatrix
noncomputable def bs_w_eqMatrix : List LoopB := []
noncomputable def cx_w_eqMatrix (n : Nat) : CtxT := ctxOf tab.tys [lw_w_eqRatS] bs_w_eqMatrix (fun _ => false) (fun t => decide (t < 2) || [2, 3, 4].contains t) n
noncomputable def T_w_eqMatrix (n : Nat) (a_0 : Int) (a_1 : Int) (a_2 : List (Bool × (List (Int)) × (List (Int)))) (b_0 : Int) (b_1 : Int) (b_2 : List (Bool × (List (Int)) × (List (Int)))) : Tr (List (List PL)) :=
  (.br (!a_0 == b_0)
 (.ret [[⟨.bool, Bool.false⟩]])
 (.br (!a_1 == b_1)
 (.ret [[⟨.bool, Bool.false⟩]])
 (.br (C.lim [PL.mk (LT.sl (Row.cons LT.bool (Row.cons LI (Row.one LI)))) a_2] && C.lim [PL.mk (LT.sl (Row.cons LT.bool (Row.cons LI (Row.one LI)))) b_2])
 (.br (!C.eqPs [PL.mk (LT.sl (Row.cons LT.bool (Row.cons LI (Row.one LI)))) a_2] [PL.mk (LT.sl (Row.cons LT.bool (Row.cons LI (Row.one LI)))) b_2])
 (.ret [[⟨.bool, Bool.false⟩]])
 (.ret [[⟨.bool, Bool.true⟩]]))
 .fail)))
theorem T_w_eqMatrix_ok (n : Nat) (a_0 : Int) (a_1 : Int) (a_2 : List (Bool × (List (Int)) × (List (Int)))) (b_0 : Int) (b_1 : Int) (b_2 : List (Bool × (List (Int)) × (List (Int)))) : (fnT (cx_w_eqMatrix n) Go.Proofs.Try.f55 sg_w_eqMatrix [.pls [⟨(.int .i64), a_0⟩, ⟨(.int .i64), a_1⟩, ⟨(.sl (.cons .bool (.cons (.sl (.one (.int .i64))) (.one (.sl (.one (.int .i64))))))), a_2⟩], .pls [⟨(.int .i64), b_0⟩, ⟨(.int .i64), b_1⟩, ⟨(.sl (.cons .bool (.cons (.sl (.one (.int .i64))) (.one (.sl (.one (.int .i64))))))), b_2⟩]]).run = (T_w_eqMatrix n a_0 a_1 a_2 b_0 b_1 b_2).run := by kernel_rfl
theorem loops_w_eqMatrix (n : Nat) : ∀ b ∈ allLoops (bodyOf Go.Proofs.Try.f55), BodyOk (cx_w_eqMatrix n) bs_w_eqMatrix n b :=
  allOf0 (by kernel_rfl) 
-- w_eqObservation
noncomputable def bs_w_eqObservation : List LoopB := []
noncomputable def cx_w_eqObservation (n : Nat) : CtxT := ctxOf tab.tys [lw_w_eqRat] bs_w_eqObservation (fun _ => false) (fun t => decide (t < 2) || [2, 3, 4].contains t) n
noncomputable def T_w_eqObservation (n : Nat) (a_0 : Int) (a_1 : Int) (a_2 : Int) (a_3 : Bool) (a_4 : List (Int)) (a_5 : List (Int)) (a_6 : Bool) (a_7 : List (Int)) (a_8 : List (Int)) (b_0 : Int) (b_1 : Int) (b_2 : Int) (b_3 : Bool) (b_4 : List (Int)) (b_5 : List (Int)) (b_6 : Bool) (b_7 : List (Int)) (b_8 : List (Int)) : Tr (List (List PL)) :=
  (.br (!a_0 == b_0)
 (.ret [[⟨.bool, Bool.false⟩]])
 (.br (!a_1 == b_1)
 (.ret [[⟨.bool, Bool.false⟩]])
 (.br (!a_2 == b_2)
 (.ret [[⟨.bool, Bool.false⟩]])
 (.br (C.lim [PL.mk LT.bool a_3, PL.mk LI a_4, PL.mk LI a_5] && C.lim [PL.mk LT.bool b_3, PL.mk LI b_4, PL.mk LI b_5])
 (.br (!C.eqPs [PL.mk LT.bool a_3, PL.mk LI a_4, PL.mk LI a_5] [PL.mk LT.bool b_3, PL.mk LI b_4, PL.mk LI b_5])
 (.ret [[⟨.bool, Bool.false⟩]])
 (.br (C.lim [PL.mk LT.bool a_6, PL.mk LI a_7, PL.mk LI a_8] && C.lim [PL.mk LT.bool b_6, PL.mk LI b_7, PL.mk LI b_8])
 (.br (!C.eqPs [PL.mk LT.bool a_6, PL.mk LI a_7, PL.mk LI a_8] [PL.mk LT.bool b_6, PL.mk LI b_7, PL.mk LI b_8])
 (.ret [[⟨.bool, Bool.false⟩]])
 (.ret [[⟨.bool, Bool.true⟩]]))
 .fail))
 .fail))))
theorem T_w_eqObservation_ok (n : Nat) (a_0 : Int) (a_1 : Int) (a_2 : Int) (a_3 : Bool) (a_4 : List (Int)) (a_5 : List (Int)) (a_6 : Bool) (a_7 : List (Int)) (a_8 : List (Int)) (b_0 : Int) (b_1 : Int) (b_2 : Int) (b_3 : Bool) (b_4 : List (Int)) (b_5 : List (Int)) (b_6 : Bool) (b_7 : List (Int)) (b_8 : List (Int)) : (fnT (cx_w_eqObservation n) Go.Proofs.Try.f59 sg_w_eqObservation [.pls [⟨(.int .i64), a_0⟩, ⟨(.int .i64), a_1⟩, ⟨(.int .i64), a_2⟩, ⟨.bool, a_3⟩, ⟨(.sl (.one (.int .i64))), a_4⟩, ⟨(.sl (.one (.int .i64))), a_5⟩, ⟨.bool, a_6⟩, ⟨(.sl (.one (.int .i64))), a_7⟩, ⟨(.sl (.one (.int .i64))), a_8⟩], .pls [⟨(.int .i64), b_0⟩, ⟨(.int .i64), b_1⟩, ⟨(.int .i64), b_2⟩, ⟨.bool, b_3⟩, ⟨(.sl (.one (.int .i64))), b_4⟩, ⟨(.sl (.one (.int .i64))), b_5⟩, ⟨.bool, b_6⟩, ⟨(.sl (.one (.int .i64))), b_7⟩, ⟨(.sl (.one (.int .i64))), b_8⟩]]).run = (T_w_eqObservation n a_0 a_1 a_2 a_3 a_4 a_5 a_6 a_7 a_8 b_0 b_1 b_2 b_3 b_4 b_5 b_6 b_7 b_8).run := by kernel_rfl
theorem loops_w_eqObservation (n : Nat) : ∀ b ∈ allLoops (bodyOf Go.Proofs.Try.f59), BodyOk (cx_w_eqObservation n) bs_w_eqObservation n b :=
  allOf0 (by kernel_rfl) 
-- w_eqRat
noncomputable def bs_w_eqRat : List LoopB := []
noncomputable def cx_w_eqRat (n : Nat) : CtxT := ctxOf tab.tys [lw_w_eqBigInt, lw_w_eqIntS] bs_w_eqRat (fun _ => false) (fun t => decide (t < 2) || [2, 3, 4].contains t) n
noncomputable def T_w_eqRat (n : Nat) (a_0 : Bool) (a_1 : List (Int)) (a_2 : List (Int)) (b_0 : Bool) (b_1 : List (Int)) (b_2 : List (Int)) : Tr (List (List PL)) :=
  (.br (C.lim [PL.mk LT.bool a_0, PL.mk LI a_1] && C.lim [PL.mk LT.bool b_0, PL.mk LI b_1])
 (.br (!C.eqPs [PL.mk LT.bool a_0, PL.mk LI a_1] [PL.mk LT.bool b_0, PL.mk LI b_1])
 (.ret [[⟨.bool, Bool.false⟩]])
 (.br (C.lim [PL.mk LI a_2] && C.lim [PL.mk LI b_2])
 (.br (!C.eqPs [PL.mk LI a_2] [PL.mk LI b_2])
 (.ret [[⟨.bool, Bool.false⟩]])
 (.ret [[⟨.bool, Bool.true⟩]]))
 .fail))
 .fail)
theorem T_w_eqRat_ok (n : Nat) (a_0 : Bool) (a_1 : List (Int)) (a_2 : List (Int)) (b_0 : Bool) (b_1 : List (Int)) (b_2 : List (Int)) : (fnT (cx_w_eqRat n) Go.Proofs.Try.f64 sg_w_eqRat [.pls [⟨.bool, a_0⟩, ⟨(.sl (.one (.int .i64))), a_1⟩, ⟨(.sl (.one (.int .i64))), a_2⟩], .pls [⟨.bool, b_0⟩, ⟨(.sl (.one (.int .i64))), b_1⟩, ⟨(.sl (.one (.int .i64))), b_2⟩]]).run = (T_w_eqRat n a_0 a_1 a_2 b_0 b_1 b_2).run := by kernel_rfl
theorem loops_w_eqRat (n : Nat) : ∀ b ∈ allLoops (bodyOf Go.Proofs.Try.f64), BodyOk (cx_w_eqRat n) bs_w_eqRat n b :=
  allOf0 (by kernel_rfl) 
-- w_eqRatS
def sh_w_eqRatS_4 : Shape := ⟨[], 27, [(0, (.val (.one (.imm (.sl (.cons .bool (.cons (.sl (.one (.int .i64))) (.one (.sl (.one (.int .i64))))))))))), (1, (.val (.one (.imm (.sl (.cons .bool (.cons (.sl (.one (.int .i64))) (.one (.sl (.one (.int .i64))))))))))), (5, (.val (.one (.imm (.int .i64)))))], []⟩
def xs_w_eqRatS_4 : List (Ex × Shape) := [(.ret, ⟨[], 27, [(4, (.val (.one (.imm .bool))))], []⟩), (.exit 0, ⟨[], 27, [], []⟩)]
noncomputable def B_w_eqRatS_4 (n : Nat) : (List (Bool × (List (Int)) × List (Int))) × (List (Bool × (List (Int)) × List (Int))) × Int → Tr (((List (Bool × (List (Int)) × List (Int))) × (List (Bool × (List (Int)) × List (Int))) × Int) ⊕ Bool ⊕ Unit)
  | (s0, s1, s5) =>
   (.br (decide (s5 < (↑(List.length s0) : Int)))
 (.br (decide (0 ≤ s5) && decide (s5 < (↑(List.length s0) : Int)))
 (.br (decide (0 ≤ s5) && decide (s5 < (↑(List.length s1) : Int)))
 (.br (C.lim [PL.mk LT.bool (gd s0 s5).1, PL.mk LI (gd s0 s5).2.1, PL.mk LI (gd s0 s5).2.2] && C.lim [PL.mk LT.bool (gd s1 s5).1, PL.mk LI (gd s1 s5).2.1, PL.mk LI (gd s1 s5).2.2])
 (.br (!C.eqPs [PL.mk LT.bool (gd s0 s5).1, PL.mk LI (gd s0 s5).2.1, PL.mk LI (gd s0 s5).2.2] [PL.mk LT.bool (gd s1 s5).1, PL.mk LI (gd s1 s5).2.1, PL.mk LI (gd s1 s5).2.2])
 (.ret (.inr ((.inl Bool.false))))
 (.ret (.inl ((s0, s1, w64 (s5 + 1))))))
 .fail)
 .fail)
 .fail)
 (.ret (.inr ((.inr ())))))
noncomputable def bs_w_eqRatS : List LoopB := [⟨4, sh_w_eqRatS_4, xs_w_eqRatS_4, B_w_eqRatS_4⟩]
noncomputable def cx_w_eqRatS (n : Nat) : CtxT := ctxOf tab.tys [lw_w_eqRat] bs_w_eqRatS (fun _ => false) (fun t => decide (t < 2) || [4, 5].contains t) n
noncomputable def T_w_eqRatS (n : Nat) (a : List (Bool × (List (Int)) × (List (Int)))) (b : List (Bool × (List (Int)) × (List (Int)))) : Tr (List (List PL)) :=
  (.br (!(↑(List.length a) : Int) == (↑(List.length b) : Int))
 (.ret [[⟨.bool, Bool.false⟩]])
 (.opt (it B_w_eqRatS_4 n (a, b, 0)) fun r0 =>
 (.sum (r0) (fun r1 =>
 (.ret [[⟨.bool, r1⟩]])) (fun r1 =>
 (.ret [[⟨.bool, Bool.true⟩]])))))
theorem T_w_eqRatS_ok (n : Nat) (a : List (Bool × (List (Int)) × (List (Int)))) (b : List (Bool × (List (Int)) × (List (Int)))) : (fnT (cx_w_eqRatS n) Go.Proofs.Try.f54 sg_w_eqRatS [.pls [⟨(.sl (.cons .bool (.cons (.sl (.one (.int .i64))) (.one (.sl (.one (.int .i64))))))), a⟩], .pls [⟨(.sl (.cons .bool (.cons (.sl (.one (.int .i64))) (.one (.sl (.one (.int .i64))))))), b⟩]]).run = (T_w_eqRatS n a b).run := by kernel_rfl
theorem B_w_eqRatS_4_eq (n : Nat) (s0 : List (Bool × (List (Int)) × List (Int))) (s1 : List (Bool × (List (Int)) × List (Int))) (s5 : Int) : (bodyR (cx_w_eqRatS n) (nthLoop (bodyOf Go.Proofs.Try.f54) 0) ⟨4, sh_w_eqRatS_4, xs_w_eqRatS_4, B_w_eqRatS_4⟩ (s0, s1, s5)).run = (B_w_eqRatS_4 n (s0, s1, s5)).run := by kernel_rfl
theorem B_w_eqRatS_4_ok (n : Nat) : ∀ t, (bodyR (cx_w_eqRatS n) (nthLoop (bodyOf Go.Proofs.Try.f54) 0) ⟨4, sh_w_eqRatS_4, xs_w_eqRatS_4, B_w_eqRatS_4⟩ t).run = (B_w_eqRatS_4 n t).run := fun (t : (List (Bool × (List (Int)) × List (Int))) × (List (Bool × (List (Int)) × List (Int))) × Int) => B_w_eqRatS_4_eq n t.1 t.2.1 t.2.2
theorem loops_w_eqRatS (n : Nat) : ∀ b ∈ allLoops (bodyOf Go.Proofs.Try.f54), BodyOk (cx_w_eqRatS n) bs_w_eqRatS n b :=
  allOf1 (by kernel_rfl) ⟨⟨4, sh_w_eqRatS_4, xs_w_eqRatS_4, B_w_eqRatS_4⟩, by kernel_rfl, B_w_eqRatS_4_ok n⟩
-- w_szBigInt
noncomputable def bs_w_szBigInt : List LoopB := []
noncomputable def cx_w_szBigInt (n : Nat) : CtxT := ctxOf tab.tys [lw_w_szIntS] bs_w_szBigInt (fun _ => false) (fun t => decide (t < 2) || [2, 4, 1].contains t) n
noncomputable def T_w_szBigInt (n : Nat) (a_0 : Bool) (a_1 : List (Int)) (left : Int) : Tr (List (List PL)) :=
  (.br (C.wl [PL.mk LI a_1] && C.okLeft left)
 (.br (decide (C.sz [PL.mk LI a_1] left < 0))
 (.ret [[⟨(.int .i64), -1⟩]])
 (.ret [[⟨(.int .i64), C.sz [PL.mk LI a_1] left⟩]]))
 .fail)
theorem T_w_szBigInt_ok (n : Nat) (a_0 : Bool) (a_1 : List (Int)) (left : Int) : (fnT (cx_w_szBigInt n) Go.Proofs.Try.f65 sg_w_szBigInt [.pls [⟨.bool, a_0⟩, ⟨(.sl (.one (.int .i64))), a_1⟩], .pls [⟨(.int .i64), left⟩]]).run = (T_w_szBigInt n a_0 a_1 left).run := by kernel_rfl
theorem loops_w_szBigInt (n : Nat) : ∀ b ∈ allLoops (bodyOf Go.Proofs.Try.f65), BodyOk (cx_w_szBigInt n) bs_w_szBigInt n b :=
  allOf0 (by kernel_rfl) 
-- w_szCandidate
noncomputable def bs_w_szCandidate : List LoopB := []
noncomputable def cx_w_szCandidate (n : Nat) : CtxT := ctxOf tab.tys [lw_w_szObservation] bs_w_szCandidate (fun _ => false) (fun t => decide (t < 2) || [2, 4, 1].contains t) n
noncomputable def T_w_szCandidate (n : Nat) (a_0 : Int) (a_1 : Int) (a_2 : Int) (a_3 : Bool) (a_4 : List (Int)) (a_5 : List (Int)) (a_6 : Bool) (a_7 : List (Int)) (a_8 : List (Int)) (a_9 : Int) (left : Int) : Tr (List (List PL)) :=
  (.br (C.wl [PL.mk i6 a_0, PL.mk i6 a_1, PL.mk i6 a_2, PL.mk LT.bool a_3, PL.mk LI a_4, PL.mk LI a_5, PL.mk LT.bool a_6, PL.mk LI a_7, PL.mk LI a_8] && C.okLeft left)
 (.br (decide (C.sz [PL.mk i6 a_0, PL.mk i6 a_1, PL.mk i6 a_2, PL.mk LT.bool a_3, PL.mk LI a_4, PL.mk LI a_5, PL.mk LT.bool a_6, PL.mk LI a_7, PL.mk LI a_8] left < 0))
 (.ret [[⟨(.int .i64), -1⟩]])
 (.ret [[⟨(.int .i64), C.sz [PL.mk i6 a_0, PL.mk i6 a_1, PL.mk i6 a_2, PL.mk LT.bool a_3, PL.mk LI a_4, PL.mk LI a_5, PL.mk LT.bool a_6, PL.mk LI a_7, PL.mk LI a_8] left⟩]]))
 .fail)
theorem T_w_szCandidate_ok (n : Nat) (a_0 : Int) (a_1 : Int) (a_2 : Int) (a_3 : Bool) (a_4 : List (Int)) (a_5 : List (Int)) (a_6 : Bool) (a_7 : List (Int)) (a_8 : List (Int)) (a_9 : Int) (left : Int) : (fnT (cx_w_szCandidate n) Go.Proofs.Try.f43 sg_w_szCandidate [.pls [⟨(.int .i64), a_0⟩, ⟨(.int .i64), a_1⟩, ⟨(.int .i64), a_2⟩, ⟨.bool, a_3⟩, ⟨(.sl (.one (.int .i64))), a_4⟩, ⟨(.sl (.one (.int .i64))), a_5⟩, ⟨.bool, a_6⟩, ⟨(.sl (.one (.int .i64))), a_7⟩, ⟨(.sl (.one (.int .i64))), a_8⟩, ⟨(.int .i64), a_9⟩], .pls [⟨(.int .i64), left⟩]]).run = (T_w_szCandidate n a_0 a_1 a_2 a_3 a_4 a_5 a_6 a_7 a_8 a_9 left).run := by kernel_rfl
theorem loops_w_szCandidate (n : Nat) : ∀ b ∈ allLoops (bodyOf Go.Proofs.Try.f43), BodyOk (cx_w_szCandidate n) bs_w_szCandidate n b :=
  allOf0 (by kernel_rfl) 
-- w_szCandidateS
def sh_w_szCandidateS_5 : Shape := ⟨[], 27, [(0, (.val (.one (.imm (.sl (.cons (.int .i64) (.cons (.int .i64) (.cons (.int .i64) (.cons .bool (.cons (.sl (.one (.int .i64))) (.cons (.sl (.one (.int .i64))) (.cons .bool (.cons (.sl (.one (.int .i64))) (.cons (.sl (.one (.int .i64))) (.one (.int .i64)))))))))))))))), (1, (.val (.one (.imm (.int .i64))))), (5, (.val (.one (.imm (.int .i64)))))], []⟩
def xs_w_szCandidateS_5 : List (Ex × Shape) := [(.ret, ⟨[], 27, [(4, (.val (.one (.imm (.int .i64)))))], []⟩), (.exit 0, ⟨[], 27, [(1, (.val (.one (.imm (.int .i64)))))], []⟩)]
noncomputable def B_w_szCandidateS_5 (n : Nat) : (List (Int × Int × Int × Bool × (List (Int)) × (List (Int)) × Bool × (List (Int)) × (List (Int)) × Int)) × Int × Int → Tr (((List (Int × Int × Int × Bool × (List (Int)) × (List (Int)) × Bool × (List (Int)) × (List (Int)) × Int)) × Int × Int) ⊕ Int ⊕ Int)
  | (s0, s1, s5) =>
   (.br (decide (s5 < (↑(List.length s0) : Int)))
 (.br (decide (0 ≤ s5) && decide (s5 < (↑(List.length s0) : Int)))
 (.br (C.wl [PL.mk i6 (gd s0 s5).1, PL.mk i6 (gd s0 s5).2.1, PL.mk i6 (gd s0 s5).2.2.1, PL.mk LT.bool (gd s0 s5).2.2.2.1, PL.mk LI (gd s0 s5).2.2.2.2.1, PL.mk LI (gd s0 s5).2.2.2.2.2.1, PL.mk LT.bool (gd s0 s5).2.2.2.2.2.2.1, PL.mk LI (gd s0 s5).2.2.2.2.2.2.2.1, PL.mk LI (gd s0 s5).2.2.2.2.2.2.2.2.1, PL.mk i6 (gd s0 s5).2.2.2.2.2.2.2.2.2] && C.okLeft s1)
 (.br (decide (C.sz [PL.mk i6 (gd s0 s5).1, PL.mk i6 (gd s0 s5).2.1, PL.mk i6 (gd s0 s5).2.2.1, PL.mk LT.bool (gd s0 s5).2.2.2.1, PL.mk LI (gd s0 s5).2.2.2.2.1, PL.mk LI (gd s0 s5).2.2.2.2.2.1, PL.mk LT.bool (gd s0 s5).2.2.2.2.2.2.1, PL.mk LI (gd s0 s5).2.2.2.2.2.2.2.1, PL.mk LI (gd s0 s5).2.2.2.2.2.2.2.2.1, PL.mk i6 (gd s0 s5).2.2.2.2.2.2.2.2.2] s1 < 0))
 (.ret (.inr ((.inl (-1)))))
 (.ret (.inl ((s0, C.sz [PL.mk i6 (gd s0 s5).1, PL.mk i6 (gd s0 s5).2.1, PL.mk i6 (gd s0 s5).2.2.1, PL.mk LT.bool (gd s0 s5).2.2.2.1, PL.mk LI (gd s0 s5).2.2.2.2.1, PL.mk LI (gd s0 s5).2.2.2.2.2.1, PL.mk LT.bool (gd s0 s5).2.2.2.2.2.2.1, PL.mk LI (gd s0 s5).2.2.2.2.2.2.2.1, PL.mk LI (gd s0 s5).2.2.2.2.2.2.2.2.1, PL.mk i6 (gd s0 s5).2.2.2.2.2.2.2.2.2] s1, w64 (s5 + 1))))))
 .fail)
 .fail)
 (.ret (.inr ((.inr s1)))))
noncomputable def bs_w_szCandidateS : List LoopB := [⟨5, sh_w_szCandidateS_5, xs_w_szCandidateS_5, B_w_szCandidateS_5⟩]
noncomputable def cx_w_szCandidateS (n : Nat) : CtxT := ctxOf tab.tys [lw_w_szCandidate] bs_w_szCandidateS (fun _ => false) (fun t => decide (t < 2) || [4, 1, 5].contains t) n
noncomputable def T_w_szCandidateS (n : Nat) (a : List (Int × Int × Int × Bool × (List (Int)) × (List (Int)) × Bool × (List (Int)) × (List (Int)) × Int)) (left : Int) : Tr (List (List PL)) :=
  (.br (decide (w64 (left - (↑(List.length a) : Int)) < 0))
 (.ret [[⟨(.int .i64), -1⟩]])
 (.opt (it B_w_szCandidateS_5 n (a, w64 (left - (↑(List.length a) : Int)), 0)) fun r0 =>
 (.sum (r0) (fun r1 =>
 (.ret [[⟨(.int .i64), r1⟩]])) (fun r1 =>
 (.ret [[⟨(.int .i64), r1⟩]])))))
theorem T_w_szCandidateS_ok (n : Nat) (a : List (Int × Int × Int × Bool × (List (Int)) × (List (Int)) × Bool × (List (Int)) × (List (Int)) × Int)) (left : Int) : (fnT (cx_w_szCandidateS n) Go.Proofs.Try.f24 sg_w_szCandidateS [.pls [⟨(.sl (.cons (.int .i64) (.cons (.int .i64) (.cons (.int .i64) (.cons .bool (.cons (.sl (.one (.int .i64))) (.cons (.sl (.one (.int .i64))) (.cons .bool (.cons (.sl (.one (.int .i64))) (.cons (.sl (.one (.int .i64))) (.one (.int .i64)))))))))))), a⟩], .pls [⟨(.int .i64), left⟩]]).run = (T_w_szCandidateS n a left).run := by kernel_rfl
theorem B_w_szCandidateS_5_eq (n : Nat) (s0 : List (Int × Int × Int × Bool × (List (Int)) × (List (Int)) × Bool × (List (Int)) × (List (Int)) × Int)) (s1 : Int) (s5 : Int) : (bodyR (cx_w_szCandidateS n) (nthLoop (bodyOf Go.Proofs.Try.f24) 0) ⟨5, sh_w_szCandidateS_5, xs_w_szCandidateS_5, B_w_szCandidateS_5⟩ (s0, s1, s5)).run = (B_w_szCandidateS_5 n (s0, s1, s5)).run := by kernel_rfl
theorem B_w_szCandidateS_5_ok (n : Nat) : ∀ t, (bodyR (cx_w_szCandidateS n) (nthLoop (bodyOf Go.Proofs.Try.f24) 0) ⟨5, sh_w_szCandidateS_5, xs_w_szCandidateS_5, B_w_szCandidateS_5⟩ t).run = (B_w_szCandidateS_5 n t).run := fun (t : (List (Int × Int × Int × Bool × (List (Int)) × (List (Int)) × Bool × (List (Int)) × (List (Int)) × Int)) × Int × Int) => B_w_szCandidateS_5_eq n t.1 t.2.1 t.2.2
theorem loops_w_szCandidateS (n : Nat) : ∀ b ∈ allLoops (bodyOf Go.Proofs.Try.f24), BodyOk (cx_w_szCandidateS n) bs_w_szCandidateS n b :=
  allOf1 (by kernel_rfl) ⟨⟨5, sh_w_szCandidateS_5, xs_w_szCandidateS_5, B_w_szCandidateS_5⟩, by kernel_rfl, B_w_szCandidateS_5_ok n⟩
-- w_szEstimate
noncomputable def bs_w_szEstimate : List LoopB := []
noncomputable def cx_w_szEstimate (n : Nat) : CtxT := ctxOf tab.tys [lw_w_szRatS, lw_w_szMatrix] bs_w_szEstimate (fun _ => false) (fun t => decide (t < 2) || [2, 4, 1].contains t) n
noncomputable def T_w_szEstimate (n : Nat) (a_0 : List (Bool × (List (Int)) × (List (Int)))) (a_1 : Int) (a_2 : Int) (a_3 : List (Bool × (List (Int)) × (List (Int)))) (left : Int) : Tr (List (List PL)) :=
  (.br (C.wl [PL.mk (LT.sl (Row.cons LT.bool (Row.cons LI (Row.one LI)))) a_0] && C.okLeft left)
 (.br (decide (C.sz [PL.mk (LT.sl (Row.cons LT.bool (Row.cons LI (Row.one LI)))) a_0] left < 0))
 (.ret [[⟨(.int .i64), -1⟩]])
 (.br (C.wl [PL.mk i6 a_1, PL.mk i6 a_2, PL.mk (LT.sl (Row.cons LT.bool (Row.cons LI (Row.one LI)))) a_3] && C.okLeft (C.sz [PL.mk (LT.sl (Row.cons LT.bool (Row.cons LI (Row.one LI)))) a_0] left))
 (.br (decide (C.sz [PL.mk i6 a_1, PL.mk i6 a_2, PL.mk (LT.sl (Row.cons LT.bool (Row.cons LI (Row.one LI)))) a_3] (C.sz [PL.mk (LT.sl (Row.cons LT.bool (Row.cons LI (Row.one LI)))) a_0] left) < 0))
 (.ret [[⟨(.int .i64), -1⟩]])
 (.ret [[⟨(.int .i64), C.sz [PL.mk i6 a_1, PL.mk i6 a_2, PL.mk (LT.sl (Row.cons LT.bool (Row.cons LI (Row.one LI)))) a_3] (C.sz [PL.mk (LT.sl (Row.cons LT.bool (Row.cons LI (Row.one LI)))) a_0] left)⟩]]))
 .fail))
 .fail)
theorem T_w_szEstimate_ok (n : Nat) (a_0 : List (Bool × (List (Int)) × (List (Int)))) (a_1 : Int) (a_2 : Int) (a_3 : List (Bool × (List (Int)) × (List (Int)))) (left : Int) : (fnT (cx_w_szEstimate n) Go.Proofs.Try.f29 sg_w_szEstimate [.pls [⟨(.sl (.cons .bool (.cons (.sl (.one (.int .i64))) (.one (.sl (.one (.int .i64))))))), a_0⟩, ⟨(.int .i64), a_1⟩, ⟨(.int .i64), a_2⟩, ⟨(.sl (.cons .bool (.cons (.sl (.one (.int .i64))) (.one (.sl (.one (.int .i64))))))), a_3⟩], .pls [⟨(.int .i64), left⟩]]).run = (T_w_szEstimate n a_0 a_1 a_2 a_3 left).run := by kernel_rfl
theorem loops_w_szEstimate (n : Nat) : ∀ b ∈ allLoops (bodyOf Go.Proofs.Try.f29), BodyOk (cx_w_szEstimate n) bs_w_szEstimate n b :=
  allOf0 (by kernel_rfl) 
-- w_szIntS
noncomputable def bs_w_szIntS : List LoopB := []
noncomputable def cx_w_szIntS (n : Nat) : CtxT := ctxOf tab.tys [] bs_w_szIntS (fun _ => false) (fun t => decide (t < 2) || [4, 1].contains t) n
noncomputable def T_w_szIntS (n : Nat) (a : List (Int)) (left : Int) : Tr (List (List PL)) :=
  (.br (decide (w64 (left - (↑(List.length a) : Int)) < 0))
 (.ret [[⟨(.int .i64), -1⟩]])
 (.ret [[⟨(.int .i64), w64 (left - (↑(List.length a) : Int))⟩]]))
theorem T_w_szIntS_ok (n : Nat) (a : List (Int)) (left : Int) : (fnT (cx_w_szIntS n) Go.Proofs.Try.f66 sg_w_szIntS [.pls [⟨(.sl (.one (.int .i64))), a⟩], .pls [⟨(.int .i64), left⟩]]).run = (T_w_szIntS n a left).run := by kernel_rfl
theorem loops_w_szIntS (n : Nat) : ∀ b ∈ allLoops (bodyOf Go.Proofs.Try.f66), BodyOk (cx_w_szIntS n) bs_w_szIntS n b :=
  allOf0 (by kernel_rfl) 
-- w_szMatrix
noncomputable def bs_w_szMatrix : List LoopB := []
noncomputable def cx_w_szMatrix (n : Nat) : CtxT := ctxOf tab.tys [lw_w_szRatS] bs_w_szMatrix (fun _ => false) (fun t => decide (t < 2) || [2, 4, 1].contains t) n
noncomputable def T_w_szMatrix (n : Nat) (a_0 : Int) (a_1 : Int) (a_2 : List (Bool × (List (Int)) × (List (Int)))) (left : Int) : Tr (List (List PL)) :=
  (.br (C.wl [PL.mk (LT.sl (Row.cons LT.bool (Row.cons LI (Row.one LI)))) a_2] && C.okLeft left)
 (.br (decide (C.sz [PL.mk (LT.sl (Row.cons LT.bool (Row.cons LI (Row.one LI)))) a_2] left < 0))
 (.ret [[⟨(.int .i64), -1⟩]])
 (.ret [[⟨(.int .i64), C.sz [PL.mk (LT.sl (Row.cons LT.bool (Row.cons LI (Row.one LI)))) a_2] left⟩]]))
 .fail)
theorem T_w_szMatrix_ok (n : Nat) (a_0 : Int) (a_1 : Int) (a_2 : List (Bool × (List (Int)) × (List (Int)))) (left : Int) : (fnT (cx_w_szMatrix n) Go.Proofs.Try.f47 sg_w_szMatrix [.pls [⟨(.int .i64), a_0⟩, ⟨(.int .i64), a_1⟩, ⟨(.sl (.cons .bool (.cons (.sl (.one (.int .i64))) (.one (.sl (.one (.int .i64))))))), a_2⟩], .pls [⟨(.int .i64), left⟩]]).run = (T_w_szMatrix n a_0 a_1 a_2 left).run := by kernel_rfl
theorem loops_w_szMatrix (n : Nat) : ∀ b ∈ allLoops (bodyOf Go.Proofs.Try.f47), BodyOk (cx_w_szMatrix n) bs_w_szMatrix n b :=
  allOf0 (by kernel_rfl) 
-- w_szObservation
noncomputable def bs_w_szObservation : List LoopB := []
noncomputable def cx_w_szObservation (n : Nat) : CtxT := ctxOf tab.tys [lw_w_szRat] bs_w_szObservation (fun _ => false) (fun t => decide (t < 2) || [2, 4, 1].contains t) n
noncomputable def T_w_szObservation (n : Nat) (a_0 : Int) (a_1 : Int) (a_2 : Int) (a_3 : Bool) (a_4 : List (Int)) (a_5 : List (Int)) (a_6 : Bool) (a_7 : List (Int)) (a_8 : List (Int)) (left : Int) : Tr (List (List PL)) :=
  (.br (C.wl [PL.mk LT.bool a_3, PL.mk LI a_4, PL.mk LI a_5] && C.okLeft left)
 (.br (decide (C.sz [PL.mk LT.bool a_3, PL.mk LI a_4, PL.mk LI a_5] left < 0))
 (.ret [[⟨(.int .i64), -1⟩]])
 (.br (C.wl [PL.mk LT.bool a_6, PL.mk LI a_7, PL.mk LI a_8] && C.okLeft (C.sz [PL.mk LT.bool a_3, PL.mk LI a_4, PL.mk LI a_5] left))
 (.br (decide (C.sz [PL.mk LT.bool a_6, PL.mk LI a_7, PL.mk LI a_8] (C.sz [PL.mk LT.bool a_3, PL.mk LI a_4, PL.mk LI a_5] left) < 0))
 (.ret [[⟨(.int .i64), -1⟩]])
 (.ret [[⟨(.int .i64), C.sz [PL.mk LT.bool a_6, PL.mk LI a_7, PL.mk LI a_8] (C.sz [PL.mk LT.bool a_3, PL.mk LI a_4, PL.mk LI a_5] left)⟩]]))
 .fail))
 .fail)
theorem T_w_szObservation_ok (n : Nat) (a_0 : Int) (a_1 : Int) (a_2 : Int) (a_3 : Bool) (a_4 : List (Int)) (a_5 : List (Int)) (a_6 : Bool) (a_7 : List (Int)) (a_8 : List (Int)) (left : Int) : (fnT (cx_w_szObservation n) Go.Proofs.Try.f57 sg_w_szObservation [.pls [⟨(.int .i64), a_0⟩, ⟨(.int .i64), a_1⟩, ⟨(.int .i64), a_2⟩, ⟨.bool, a_3⟩, ⟨(.sl (.one (.int .i64))), a_4⟩, ⟨(.sl (.one (.int .i64))), a_5⟩, ⟨.bool, a_6⟩, ⟨(.sl (.one (.int .i64))), a_7⟩, ⟨(.sl (.one (.int .i64))), a_8⟩], .pls [⟨(.int .i64), left⟩]]).run = (T_w_szObservation n a_0 a_1 a_2 a_3 a_4 a_5 a_6 a_7 a_8 left).run := by kernel_rfl
theorem loops_w_szObservation (n : Nat) : ∀ b ∈ allLoops (bodyOf Go.Proofs.Try.f57), BodyOk (cx_w_szObservation n) bs_w_szObservation n b :=
  allOf0 (by kernel_rfl) 
-- w_szRat
noncomputable def bs_w_szRat : List LoopB := []
noncomputable def cx_w_szRat (n : Nat) : CtxT := ctxOf tab.tys [lw_w_szBigInt, lw_w_szIntS] bs_w_szRat (fun _ => false) (fun t => decide (t < 2) || [2, 4, 1].contains t) n
noncomputable def T_w_szRat (n : Nat) (a_0 : Bool) (a_1 : List (Int)) (a_2 : List (Int)) (left : Int) : Tr (List (List PL)) :=
  (.br (C.wl [PL.mk LT.bool a_0, PL.mk LI a_1] && C.okLeft left)
 (.br (decide (C.sz [PL.mk LT.bool a_0, PL.mk LI a_1] left < 0))
 (.ret [[⟨(.int .i64), -1⟩]])
 (.br (C.wl [PL.mk LI a_2] && C.okLeft (C.sz [PL.mk LT.bool a_0, PL.mk LI a_1] left))
 (.br (decide (C.sz [PL.mk LI a_2] (C.sz [PL.mk LT.bool a_0, PL.mk LI a_1] left) < 0))
 (.ret [[⟨(.int .i64), -1⟩]])
 (.ret [[⟨(.int .i64), C.sz [PL.mk LI a_2] (C.sz [PL.mk LT.bool a_0, PL.mk LI a_1] left)⟩]]))
 .fail))
 .fail)
theorem T_w_szRat_ok (n : Nat) (a_0 : Bool) (a_1 : List (Int)) (a_2 : List (Int)) (left : Int) : (fnT (cx_w_szRat n) Go.Proofs.Try.f60 sg_w_szRat [.pls [⟨.bool, a_0⟩, ⟨(.sl (.one (.int .i64))), a_1⟩, ⟨(.sl (.one (.int .i64))), a_2⟩], .pls [⟨(.int .i64), left⟩]]).run = (T_w_szRat n a_0 a_1 a_2 left).run := by kernel_rfl
theorem loops_w_szRat (n : Nat) : ∀ b ∈ allLoops (bodyOf Go.Proofs.Try.f60), BodyOk (cx_w_szRat n) bs_w_szRat n b :=
  allOf0 (by kernel_rfl) 
-- w_szRatS
def sh_w_szRatS_5 : Shape := ⟨[], 27, [(0, (.val (.one (.imm (.sl (.cons .bool (.cons (.sl (.one (.int .i64))) (.one (.sl (.one (.int .i64))))))))))), (1, (.val (.one (.imm (.int .i64))))), (5, (.val (.one (.imm (.int .i64)))))], []⟩
def xs_w_szRatS_5 : List (Ex × Shape) := [(.ret, ⟨[], 27, [(4, (.val (.one (.imm (.int .i64)))))], []⟩), (.exit 0, ⟨[], 27, [(1, (.val (.one (.imm (.int .i64)))))], []⟩)]
noncomputable def B_w_szRatS_5 (n : Nat) : (List (Bool × (List (Int)) × List (Int))) × Int × Int → Tr (((List (Bool × (List (Int)) × List (Int))) × Int × Int) ⊕ Int ⊕ Int)
  | (s0, s1, s5) =>
   (.br (decide (s5 < (↑(List.length s0) : Int)))
 (.br (decide (0 ≤ s5) && decide (s5 < (↑(List.length s0) : Int)))
 (.br (C.wl [PL.mk LT.bool (gd s0 s5).1, PL.mk LI (gd s0 s5).2.1, PL.mk LI (gd s0 s5).2.2] && C.okLeft s1)
 (.br (decide (C.sz [PL.mk LT.bool (gd s0 s5).1, PL.mk LI (gd s0 s5).2.1, PL.mk LI (gd s0 s5).2.2] s1 < 0))
 (.ret (.inr ((.inl (-1)))))
 (.ret (.inl ((s0, C.sz [PL.mk LT.bool (gd s0 s5).1, PL.mk LI (gd s0 s5).2.1, PL.mk LI (gd s0 s5).2.2] s1, w64 (s5 + 1))))))
 .fail)
 .fail)
 (.ret (.inr ((.inr s1)))))
noncomputable def bs_w_szRatS : List LoopB := [⟨5, sh_w_szRatS_5, xs_w_szRatS_5, B_w_szRatS_5⟩]
noncomputable def cx_w_szRatS (n : Nat) : CtxT := ctxOf tab.tys [lw_w_szRat] bs_w_szRatS (fun _ => false) (fun t => decide (t < 2) || [4, 1, 5].contains t) n
noncomputable def T_w_szRatS (n : Nat) (a : List (Bool × (List (Int)) × (List (Int)))) (left : Int) : Tr (List (List PL)) :=
  (.br (decide (w64 (left - (↑(List.length a) : Int)) < 0))
 (.ret [[⟨(.int .i64), -1⟩]])
 (.opt (it B_w_szRatS_5 n (a, w64 (left - (↑(List.length a) : Int)), 0)) fun r0 =>
 (.sum (r0) (fun r1 =>
 (.ret [[⟨(.int .i64), r1⟩]])) (fun r1 =>
 (.ret [[⟨(.int .i64), r1⟩]])))))
theorem T_w_szRatS_ok (n : Nat) (a : List (Bool × (List (Int)) × (List (Int)))) (left : Int) : (fnT (cx_w_szRatS n) Go.Proofs.Try.f46 sg_w_szRatS [.pls [⟨(.sl (.cons .bool (.cons (.sl (.one (.int .i64))) (.one (.sl (.one (.int .i64))))))), a⟩], .pls [⟨(.int .i64), left⟩]]).run = (T_w_szRatS n a left).run := by kernel_rfl
theorem B_w_szRatS_5_eq (n : Nat) (s0 : List (Bool × (List (Int)) × List (Int))) (s1 : Int) (s5 : Int) : (bodyR (cx_w_szRatS n) (nthLoop (bodyOf Go.Proofs.Try.f46) 0) ⟨5, sh_w_szRatS_5, xs_w_szRatS_5, B_w_szRatS_5⟩ (s0, s1, s5)).run = (B_w_szRatS_5 n (s0, s1, s5)).run := by kernel_rfl
theorem B_w_szRatS_5_ok (n : Nat) : ∀ t, (bodyR (cx_w_szRatS n) (nthLoop (bodyOf Go.Proofs.Try.f46) 0) ⟨5, sh_w_szRatS_5, xs_w_szRatS_5, B_w_szRatS_5⟩ t).run = (B_w_szRatS_5 n t).run := fun (t : (List (Bool × (List (Int)) × List (Int))) × Int × Int) => B_w_szRatS_5_eq n t.1 t.2.1 t.2.2
theorem loops_w_szRatS (n : Nat) : ∀ b ∈ allLoops (bodyOf Go.Proofs.Try.f46), BodyOk (cx_w_szRatS n) bs_w_szRatS n b :=
  allOf1 (by kernel_rfl) ⟨⟨5, sh_w_szRatS_5, xs_w_szRatS_5, B_w_szRatS_5⟩, by kernel_rfl, B_w_szRatS_5_ok n⟩
-- w_toBigInt
noncomputable def bs_w_toBigInt : List LoopB := []
noncomputable def cx_w_toBigInt (n : Nat) : CtxT := ctxOf tab.tys [lw_w_toIntS] bs_w_toBigInt (fun _ => false) (fun t => decide (t < 1) || [1, 2, 3].contains t) n
noncomputable def T_w_toBigInt (n : Nat) (a_0 : Bool) (a_1 : List (Int)) : Tr (List (List PL)) :=
  (.br (C.lim [PL.mk LI a_1])
 (.ret [[⟨.bool, a_0⟩, ⟨(.sl (.one (.int .i64))), a_1⟩]])
 .fail)
theorem T_w_toBigInt_ok (n : Nat) (a_0 : Bool) (a_1 : List (Int)) : (fnT (cx_w_toBigInt n) Go.Proofs.Try.f68 sg_w_toBigInt [.pls [⟨.bool, a_0⟩, ⟨(.sl (.one (.int .i64))), a_1⟩]]).run = (T_w_toBigInt n a_0 a_1).run := by kernel_rfl
theorem loops_w_toBigInt (n : Nat) : ∀ b ∈ allLoops (bodyOf Go.Proofs.Try.f68), BodyOk (cx_w_toBigInt n) bs_w_toBigInt n b :=
  allOf0 (by kernel_rfl) 
-- w_toCandidate
noncomputable def bs_w_toCandidate : List LoopB := []
noncomputable def cx_w_toCandidate (n : Nat) : CtxT := ctxOf tab.tys [lw_w_toObservation] bs_w_toCandidate (fun _ => false) (fun t => decide (t < 1) || [1, 2, 3].contains t) n
noncomputable def T_w_toCandidate (n : Nat) (a_0 : Int) (a_1 : Int) (a_2 : Int) (a_3 : Bool) (a_4 : List (Int)) (a_5 : List (Int)) (a_6 : Bool) (a_7 : List (Int)) (a_8 : List (Int)) (a_9 : Int) : Tr (List (List PL)) :=
  (.br (C.lim [PL.mk i6 a_0, PL.mk i6 a_1, PL.mk i6 a_2, PL.mk LT.bool a_3, PL.mk LI a_4, PL.mk LI a_5, PL.mk LT.bool a_6, PL.mk LI a_7, PL.mk LI a_8])
 (.ret [[⟨(.int .i64), a_0⟩, ⟨(.int .i64), a_1⟩, ⟨(.int .i64), a_2⟩, ⟨.bool, a_3⟩, ⟨(.sl (.one (.int .i64))), a_4⟩, ⟨(.sl (.one (.int .i64))), a_5⟩, ⟨.bool, a_6⟩, ⟨(.sl (.one (.int .i64))), a_7⟩, ⟨(.sl (.one (.int .i64))), a_8⟩, ⟨(.int .i64), a_9⟩]])
 .fail)
theorem T_w_toCandidate_ok (n : Nat) (a_0 : Int) (a_1 : Int) (a_2 : Int) (a_3 : Bool) (a_4 : List (Int)) (a_5 : List (Int)) (a_6 : Bool) (a_7 : List (Int)) (a_8 : List (Int)) (a_9 : Int) : (fnT (cx_w_toCandidate n) Go.Proofs.Try.f44 sg_w_toCandidate [.pls [⟨(.int .i64), a_0⟩, ⟨(.int .i64), a_1⟩, ⟨(.int .i64), a_2⟩, ⟨.bool, a_3⟩, ⟨(.sl (.one (.int .i64))), a_4⟩, ⟨(.sl (.one (.int .i64))), a_5⟩, ⟨.bool, a_6⟩, ⟨(.sl (.one (.int .i64))), a_7⟩, ⟨(.sl (.one (.int .i64))), a_8⟩, ⟨(.int .i64), a_9⟩]]).run = (T_w_toCandidate n a_0 a_1 a_2 a_3 a_4 a_5 a_6 a_7 a_8 a_9).run := by kernel_rfl
theorem loops_w_toCandidate (n : Nat) : ∀ b ∈ allLoops (bodyOf Go.Proofs.Try.f44), BodyOk (cx_w_toCandidate n) bs_w_toCandidate n b :=
  allOf0 (by kernel_rfl) 
-- w_toCandidateS
def sh_w_toCandidateS_3 : Shape := ⟨[], 23, [(0, (.val (.one (.imm (.sl (.cons (.int .i64) (.cons (.int .i64) (.cons (.int .i64) (.cons .bool (.cons (.sl (.one (.int .i64))) (.cons (.sl (.one (.int .i64))) (.cons .bool (.cons (.sl (.one (.int .i64))) (.cons (.sl (.one (.int .i64))) (.one (.int .i64)))))))))))))))), (3, (.val (.one (.own (3, 0))))), (4, (.val (.one (.imm (.int .i64)))))], [(3, [(.arr 80 (.cons (.int .i64) (.cons (.int .i64) (.cons (.int .i64) (.cons .bool (.cons (.sl (.one (.int .i64))) (.cons (.sl (.one (.int .i64))) (.cons .bool (.cons (.sl (.one (.int .i64))) (.cons (.sl (.one (.int .i64))) (.one (.int .i64))))))))))))])]⟩
def xs_w_toCandidateS_3 : List (Ex × Shape) := [(.exit 0, ⟨[], 23, [(3, (.val (.one (.own (3, 0)))))], [(3, [(.arr 80 (.cons (.int .i64) (.cons (.int .i64) (.cons (.int .i64) (.cons .bool (.cons (.sl (.one (.int .i64))) (.cons (.sl (.one (.int .i64))) (.cons .bool (.cons (.sl (.one (.int .i64))) (.cons (.sl (.one (.int .i64))) (.one (.int .i64))))))))))))])]⟩)]
noncomputable def B_w_toCandidateS_3 (n : Nat) : (List (Int × Int × Int × Bool × (List (Int)) × (List (Int)) × Bool × (List (Int)) × (List (Int)) × Int)) × Int × (List (Int × Int × Int × Bool × (List (Int)) × (List (Int)) × Bool × (List (Int)) × (List (Int)) × Int)) → Tr (((List (Int × Int × Int × Bool × (List (Int)) × (List (Int)) × Bool × (List (Int)) × (List (Int)) × Int)) × Int × (List (Int × Int × Int × Bool × (List (Int)) × (List (Int)) × Bool × (List (Int)) × (List (Int)) × Int))) ⊕ ((List (Int × Int × Int × Bool × (List (Int)) × (List (Int)) × Bool × (List (Int)) × (List (Int)) × Int))))
  | (s0, s4, o3) =>
   (.br (decide (s4 < (↑(List.length s0) : Int)))
 (.br (decide (0 ≤ s4) && decide (s4 < (↑(List.length s0) : Int)))
 (.br (C.lim [PL.mk i6 (gd s0 s4).1, PL.mk i6 (gd s0 s4).2.1, PL.mk i6 (gd s0 s4).2.2.1, PL.mk LT.bool (gd s0 s4).2.2.2.1, PL.mk LI (gd s0 s4).2.2.2.2.1, PL.mk LI (gd s0 s4).2.2.2.2.2.1, PL.mk LT.bool (gd s0 s4).2.2.2.2.2.2.1, PL.mk LI (gd s0 s4).2.2.2.2.2.2.2.1, PL.mk LI (gd s0 s4).2.2.2.2.2.2.2.2.1, PL.mk i6 (gd s0 s4).2.2.2.2.2.2.2.2.2])
 (.br (decide (0 ≤ s4) && decide (s4 < (↑(List.length o3) : Int)))
 (.ret (.inl ((s0, w64 (s4 + 1), List.set o3 (Int.toNat s4) ((gd s0 s4).1, (gd s0 s4).2.1, (gd s0 s4).2.2.1, (gd s0 s4).2.2.2.1, (gd s0 s4).2.2.2.2.1, (gd s0 s4).2.2.2.2.2.1, (gd s0 s4).2.2.2.2.2.2.1, (gd s0 s4).2.2.2.2.2.2.2.1, (gd s0 s4).2.2.2.2.2.2.2.2.1, (gd s0 s4).2.2.2.2.2.2.2.2.2)))))
 .fail)
 .fail)
 .fail)
 (.ret (.inr o3)))
noncomputable def bs_w_toCandidateS : List LoopB := [⟨3, sh_w_toCandidateS_3, xs_w_toCandidateS_3, B_w_toCandidateS_3⟩]
noncomputable def cx_w_toCandidateS (n : Nat) : CtxT := ctxOf tab.tys [lw_w_toCandidate] bs_w_toCandidateS (fun _ => false) (fun t => decide (t < 1) || [2, 3, 4].contains t) n
noncomputable def T_w_toCandidateS (n : Nat) (a : List (Int × Int × Int × Bool × (List (Int)) × (List (Int)) × Bool × (List (Int)) × (List (Int)) × Int)) : Tr (List (List PL)) :=
  (.br (decide (0 ≤ (↑(List.length a) : Int)) && (decide ((↑(List.length a) : Int) ≤ (↑(List.length a) : Int)) && (decide (144 * (↑(List.length a) : Int) ≤ 140737488355328) && decide ((↑(List.length a) : Int) ≤ 9223372036854775807))))
 (.opt (it B_w_toCandidateS_3 n (a, 0, List.replicate (Int.toNat (↑(List.length a) : Int)) (0, 0, 0, Bool.false, [], [], Bool.false, [], [], 0))) fun r0 =>
 (.ret [[⟨(.sl (.cons (.int .i64) (.cons (.int .i64) (.cons (.int .i64) (.cons .bool (.cons (.sl (.one (.int .i64))) (.cons (.sl (.one (.int .i64))) (.cons .bool (.cons (.sl (.one (.int .i64))) (.cons (.sl (.one (.int .i64))) (.one (.int .i64)))))))))))), r0⟩]]))
 .fail)
theorem T_w_toCandidateS_ok (n : Nat) (a : List (Int × Int × Int × Bool × (List (Int)) × (List (Int)) × Bool × (List (Int)) × (List (Int)) × Int)) : (fnT (cx_w_toCandidateS n) Go.Proofs.Try.f26 sg_w_toCandidateS [.pls [⟨(.sl (.cons (.int .i64) (.cons (.int .i64) (.cons (.int .i64) (.cons .bool (.cons (.sl (.one (.int .i64))) (.cons (.sl (.one (.int .i64))) (.cons .bool (.cons (.sl (.one (.int .i64))) (.cons (.sl (.one (.int .i64))) (.one (.int .i64)))))))))))), a⟩]]).run = (T_w_toCandidateS n a).run := by kernel_rfl
theorem B_w_toCandidateS_3_eq (n : Nat) (s0 : List (Int × Int × Int × Bool × (List (Int)) × (List (Int)) × Bool × (List (Int)) × (List (Int)) × Int)) (s4 : Int) (o3 : List (Int × Int × Int × Bool × (List (Int)) × (List (Int)) × Bool × (List (Int)) × (List (Int)) × Int)) : (bodyR (cx_w_toCandidateS n) (nthLoop (bodyOf Go.Proofs.Try.f26) 0) ⟨3, sh_w_toCandidateS_3, xs_w_toCandidateS_3, B_w_toCandidateS_3⟩ (s0, s4, o3)).run = (B_w_toCandidateS_3 n (s0, s4, o3)).run := by kernel_rfl
theorem B_w_toCandidateS_3_ok (n : Nat) : ∀ t, (bodyR (cx_w_toCandidateS n) (nthLoop (bodyOf Go.Proofs.Try.f26) 0) ⟨3, sh_w_toCandidateS_3, xs_w_toCandidateS_3, B_w_toCandidateS_3⟩ t).run = (B_w_toCandidateS_3 n t).run := fun (t : (List (Int × Int × Int × Bool × (List (Int)) × (List (Int)) × Bool × (List (Int)) × (List (Int)) × Int)) × Int × (List (Int × Int × Int × Bool × (List (Int)) × (List (Int)) × Bool × (List (Int)) × (List (Int)) × Int))) => B_w_toCandidateS_3_eq n t.1 t.2.1 t.2.2
theorem loops_w_toCandidateS (n : Nat) : ∀ b ∈ allLoops (bodyOf Go.Proofs.Try.f26), BodyOk (cx_w_toCandidateS n) bs_w_toCandidateS n b :=
  allOf1 (by kernel_rfl) ⟨⟨3, sh_w_toCandidateS_3, xs_w_toCandidateS_3, B_w_toCandidateS_3⟩, by kernel_rfl, B_w_toCandidateS_3_ok n⟩
-- w_toEstimate
noncomputable def bs_w_toEstimate : List LoopB := []
noncomputable def cx_w_toEstimate (n : Nat) : CtxT := ctxOf tab.tys [lw_w_toRatS, lw_w_toMatrix] bs_w_toEstimate (fun _ => false) (fun t => decide (t < 1) || [1, 2, 3].contains t) n
noncomputable def T_w_toEstimate (n : Nat) (a_0 : List (Bool × (List (Int)) × (List (Int)))) (a_1 : Int) (a_2 : Int) (a_3 : List (Bool × (List (Int)) × (List (Int)))) : Tr (List (List PL)) :=
  (.br (C.lim [PL.mk (LT.sl (Row.cons LT.bool (Row.cons LI (Row.one LI)))) a_0])
 (.br (C.lim [PL.mk i6 a_1, PL.mk i6 a_2, PL.mk (LT.sl (Row.cons LT.bool (Row.cons LI (Row.one LI)))) a_3])
 (.ret [[⟨(.sl (.cons .bool (.cons (.sl (.one (.int .i64))) (.one (.sl (.one (.int .i64))))))), a_0⟩, ⟨(.int .i64), a_1⟩, ⟨(.int .i64), a_2⟩, ⟨(.sl (.cons .bool (.cons (.sl (.one (.int .i64))) (.one (.sl (.one (.int .i64))))))), a_3⟩]])
 .fail)
 .fail)
theorem T_w_toEstimate_ok (n : Nat) (a_0 : List (Bool × (List (Int)) × (List (Int)))) (a_1 : Int) (a_2 : Int) (a_3 : List (Bool × (List (Int)) × (List (Int)))) : (fnT (cx_w_toEstimate n) Go.Proofs.Try.f31 sg_w_toEstimate [.pls [⟨(.sl (.cons .bool (.cons (.sl (.one (.int .i64))) (.one (.sl (.one (.int .i64))))))), a_0⟩, ⟨(.int .i64), a_1⟩, ⟨(.int .i64), a_2⟩, ⟨(.sl (.cons .bool (.cons (.sl (.one (.int .i64))) (.one (.sl (.one (.int .i64))))))), a_3⟩]]).run = (T_w_toEstimate n a_0 a_1 a_2 a_3).run := by kernel_rfl
theorem loops_w_toEstimate (n : Nat) : ∀ b ∈ allLoops (bodyOf Go.Proofs.Try.f31), BodyOk (cx_w_toEstimate n) bs_w_toEstimate n b :=
  allOf0 (by kernel_rfl) 
-- w_toIntS
def sh_w_toIntS_3 : Shape := ⟨[], 22, [(0, (.val (.one (.imm (.sl (.one (.int .i64))))))), (3, (.val (.one (.own (3, 0))))), (4, (.val (.one (.imm (.int .i64)))))], [(3, [(.arr 3 (.one (.int .i64)))])]⟩
def xs_w_toIntS_3 : List (Ex × Shape) := [(.exit 0, ⟨[], 22, [(3, (.val (.one (.own (3, 0)))))], [(3, [(.arr 3 (.one (.int .i64)))])]⟩)]
noncomputable def B_w_toIntS_3 (n : Nat) : (List (Int)) × Int × (List (Int)) → Tr (((List (Int)) × Int × (List (Int))) ⊕ ((List (Int))))
  | (s0, s4, o3) =>
   (.br (decide (s4 < (↑(List.length s0) : Int)))
 (.br (decide (0 ≤ s4) && decide (s4 < (↑(List.length s0) : Int)))
 (.br (decide (0 ≤ s4) && decide (s4 < (↑(List.length o3) : Int)))
 (.ret (.inl ((s0, w64 (s4 + 1), List.set o3 (Int.toNat s4) (gd s0 s4)))))
 .fail)
 .fail)
 (.ret (.inr o3)))
noncomputable def bs_w_toIntS : List LoopB := [⟨3, sh_w_toIntS_3, xs_w_toIntS_3, B_w_toIntS_3⟩]
noncomputable def cx_w_toIntS (n : Nat) : CtxT := ctxOf tab.tys [] bs_w_toIntS (fun _ => false) (fun t => decide (t < 1) || [2, 3, 4].contains t) n
noncomputable def T_w_toIntS (n : Nat) (a : List (Int)) : Tr (List (List PL)) :=
  (.br (decide (0 ≤ (↑(List.length a) : Int)) && (decide ((↑(List.length a) : Int) ≤ (↑(List.length a) : Int)) && (decide (8 * (↑(List.length a) : Int) ≤ 140737488355328) && decide ((↑(List.length a) : Int) ≤ 9223372036854775807))))
 (.opt (it B_w_toIntS_3 n (a, 0, List.replicate (Int.toNat (↑(List.length a) : Int)) 0)) fun r0 =>
 (.ret [[⟨(.sl (.one (.int .i64))), r0⟩]]))
 .fail)
theorem T_w_toIntS_ok (n : Nat) (a : List (Int)) : (fnT (cx_w_toIntS n) Go.Proofs.Try.f23 sg_w_toIntS [.pls [⟨(.sl (.one (.int .i64))), a⟩]]).run = (T_w_toIntS n a).run := by kernel_rfl
theorem B_w_toIntS_3_eq (n : Nat) (s0 : List (Int)) (s4 : Int) (o3 : List (Int)) : (bodyR (cx_w_toIntS n) (nthLoop (bodyOf Go.Proofs.Try.f23) 0) ⟨3, sh_w_toIntS_3, xs_w_toIntS_3, B_w_toIntS_3⟩ (s0, s4, o3)).run = (B_w_toIntS_3 n (s0, s4, o3)).run := by kernel_rfl
theorem B_w_toIntS_3_ok (n : Nat) : ∀ t, (bodyR (cx_w_toIntS n) (nthLoop (bodyOf Go.Proofs.Try.f23) 0) ⟨3, sh_w_toIntS_3, xs_w_toIntS_3, B_w_toIntS_3⟩ t).run = (B_w_toIntS_3 n t).run := fun (t : (List (Int)) × Int × (List (Int))) => B_w_toIntS_3_eq n t.1 t.2.1 t.2.2
theorem loops_w_toIntS (n : Nat) : ∀ b ∈ allLoops (bodyOf Go.Proofs.Try.f23), BodyOk (cx_w_toIntS n) bs_w_toIntS n b :=
  allOf1 (by kernel_rfl) ⟨⟨3, sh_w_toIntS_3, xs_w_toIntS_3, B_w_toIntS_3⟩, by kernel_rfl, B_w_toIntS_3_ok n⟩
-- w_toMatrix
noncomputable def bs_w_toMatrix : List LoopB := []
noncomputable def cx_w_toMatrix (n : Nat) : CtxT := ctxOf tab.tys [lw_w_toRatS] bs_w_toMatrix (fun _ => false) (fun t => decide (t < 1) || [1, 2, 3].contains t) n
noncomputable def T_w_toMatrix (n : Nat) (a_0 : Int) (a_1 : Int) (a_2 : List (Bool × (List (Int)) × (List (Int)))) : Tr (List (List PL)) :=
  (.br (C.lim [PL.mk (LT.sl (Row.cons LT.bool (Row.cons LI (Row.one LI)))) a_2])
 (.ret [[⟨(.int .i64), a_0⟩, ⟨(.int .i64), a_1⟩, ⟨(.sl (.cons .bool (.cons (.sl (.one (.int .i64))) (.one (.sl (.one (.int .i64))))))), a_2⟩]])
 .fail)
theorem T_w_toMatrix_ok (n : Nat) (a_0 : Int) (a_1 : Int) (a_2 : List (Bool × (List (Int)) × (List (Int)))) : (fnT (cx_w_toMatrix n) Go.Proofs.Try.f51 sg_w_toMatrix [.pls [⟨(.int .i64), a_0⟩, ⟨(.int .i64), a_1⟩, ⟨(.sl (.cons .bool (.cons (.sl (.one (.int .i64))) (.one (.sl (.one (.int .i64))))))), a_2⟩]]).run = (T_w_toMatrix n a_0 a_1 a_2).run := by kernel_rfl
theorem loops_w_toMatrix (n : Nat) : ∀ b ∈ allLoops (bodyOf Go.Proofs.Try.f51), BodyOk (cx_w_toMatrix n) bs_w_toMatrix n b :=
  allOf0 (by kernel_rfl) 
-- w_toObservation
noncomputable def bs_w_toObservation : List LoopB := []
noncomputable def cx_w_toObservation (n : Nat) : CtxT := ctxOf tab.tys [lw_w_toRat] bs_w_toObservation (fun _ => false) (fun t => decide (t < 1) || [1, 2, 3].contains t) n
noncomputable def T_w_toObservation (n : Nat) (a_0 : Int) (a_1 : Int) (a_2 : Int) (a_3 : Bool) (a_4 : List (Int)) (a_5 : List (Int)) (a_6 : Bool) (a_7 : List (Int)) (a_8 : List (Int)) : Tr (List (List PL)) :=
  (.br (C.lim [PL.mk LT.bool a_3, PL.mk LI a_4, PL.mk LI a_5])
 (.br (C.lim [PL.mk LT.bool a_6, PL.mk LI a_7, PL.mk LI a_8])
 (.ret [[⟨(.int .i64), a_0⟩, ⟨(.int .i64), a_1⟩, ⟨(.int .i64), a_2⟩, ⟨.bool, a_3⟩, ⟨(.sl (.one (.int .i64))), a_4⟩, ⟨(.sl (.one (.int .i64))), a_5⟩, ⟨.bool, a_6⟩, ⟨(.sl (.one (.int .i64))), a_7⟩, ⟨(.sl (.one (.int .i64))), a_8⟩]])
 .fail)
 .fail)
theorem T_w_toObservation_ok (n : Nat) (a_0 : Int) (a_1 : Int) (a_2 : Int) (a_3 : Bool) (a_4 : List (Int)) (a_5 : List (Int)) (a_6 : Bool) (a_7 : List (Int)) (a_8 : List (Int)) : (fnT (cx_w_toObservation n) Go.Proofs.Try.f58 sg_w_toObservation [.pls [⟨(.int .i64), a_0⟩, ⟨(.int .i64), a_1⟩, ⟨(.int .i64), a_2⟩, ⟨.bool, a_3⟩, ⟨(.sl (.one (.int .i64))), a_4⟩, ⟨(.sl (.one (.int .i64))), a_5⟩, ⟨.bool, a_6⟩, ⟨(.sl (.one (.int .i64))), a_7⟩, ⟨(.sl (.one (.int .i64))), a_8⟩]]).run = (T_w_toObservation n a_0 a_1 a_2 a_3 a_4 a_5 a_6 a_7 a_8).run := by kernel_rfl
theorem loops_w_toObservation (n : Nat) : ∀ b ∈ allLoops (bodyOf Go.Proofs.Try.f58), BodyOk (cx_w_toObservation n) bs_w_toObservation n b :=
  allOf0 (by kernel_rfl) 
-- w_toRat
noncomputable def bs_w_toRat : List LoopB := []
noncomputable def cx_w_toRat (n : Nat) : CtxT := ctxOf tab.tys [lw_w_toBigInt, lw_w_toIntS] bs_w_toRat (fun _ => false) (fun t => decide (t < 1) || [1, 2, 3].contains t) n
noncomputable def T_w_toRat (n : Nat) (a_0 : Bool) (a_1 : List (Int)) (a_2 : List (Int)) : Tr (List (List PL)) :=
  (.br (C.lim [PL.mk LT.bool a_0, PL.mk LI a_1])
 (.br (C.lim [PL.mk LI a_2])
 (.ret [[⟨.bool, a_0⟩, ⟨(.sl (.one (.int .i64))), a_1⟩, ⟨(.sl (.one (.int .i64))), a_2⟩]])
 .fail)
 .fail)
theorem T_w_toRat_ok (n : Nat) (a_0 : Bool) (a_1 : List (Int)) (a_2 : List (Int)) : (fnT (cx_w_toRat n) Go.Proofs.Try.f62 sg_w_toRat [.pls [⟨.bool, a_0⟩, ⟨(.sl (.one (.int .i64))), a_1⟩, ⟨(.sl (.one (.int .i64))), a_2⟩]]).run = (T_w_toRat n a_0 a_1 a_2).run := by kernel_rfl
theorem loops_w_toRat (n : Nat) : ∀ b ∈ allLoops (bodyOf Go.Proofs.Try.f62), BodyOk (cx_w_toRat n) bs_w_toRat n b :=
  allOf0 (by kernel_rfl) 
-- w_toRatS
def sh_w_toRatS_3 : Shape := ⟨[], 23, [(0, (.val (.one (.imm (.sl (.cons .bool (.cons (.sl (.one (.int .i64))) (.one (.sl (.one (.int .i64))))))))))), (3, (.val (.one (.own (3, 0))))), (4, (.val (.one (.imm (.int .i64)))))], [(3, [(.arr 76 (.cons .bool (.cons (.sl (.one (.int .i64))) (.one (.sl (.one (.int .i64)))))))])]⟩
def xs_w_toRatS_3 : List (Ex × Shape) := [(.exit 0, ⟨[], 23, [(3, (.val (.one (.own (3, 0)))))], [(3, [(.arr 76 (.cons .bool (.cons (.sl (.one (.int .i64))) (.one (.sl (.one (.int .i64)))))))])]⟩)]
noncomputable def B_w_toRatS_3 (n : Nat) : (List (Bool × (List (Int)) × List (Int))) × Int × (List (Bool × (List (Int)) × List (Int))) → Tr (((List (Bool × (List (Int)) × List (Int))) × Int × (List (Bool × (List (Int)) × List (Int)))) ⊕ ((List (Bool × (List (Int)) × List (Int)))))
  | (s0, s4, o3) =>
   (.br (decide (s4 < (↑(List.length s0) : Int)))
 (.br (decide (0 ≤ s4) && decide (s4 < (↑(List.length s0) : Int)))
 (.br (C.lim [PL.mk LT.bool (gd s0 s4).1, PL.mk LI (gd s0 s4).2.1, PL.mk LI (gd s0 s4).2.2])
 (.br (decide (0 ≤ s4) && decide (s4 < (↑(List.length o3) : Int)))
 (.ret (.inl ((s0, w64 (s4 + 1), List.set o3 (Int.toNat s4) ((gd s0 s4).1, (gd s0 s4).2.1, (gd s0 s4).2.2)))))
 .fail)
 .fail)
 .fail)
 (.ret (.inr o3)))
noncomputable def bs_w_toRatS : List LoopB := [⟨3, sh_w_toRatS_3, xs_w_toRatS_3, B_w_toRatS_3⟩]
noncomputable def cx_w_toRatS (n : Nat) : CtxT := ctxOf tab.tys [lw_w_toRat] bs_w_toRatS (fun _ => false) (fun t => decide (t < 1) || [2, 3, 4].contains t) n
noncomputable def T_w_toRatS (n : Nat) (a : List (Bool × (List (Int)) × (List (Int)))) : Tr (List (List PL)) :=
  (.br (decide (0 ≤ (↑(List.length a) : Int)) && (decide ((↑(List.length a) : Int) ≤ (↑(List.length a) : Int)) && (decide (56 * (↑(List.length a) : Int) ≤ 140737488355328) && decide ((↑(List.length a) : Int) ≤ 9223372036854775807))))
 (.opt (it B_w_toRatS_3 n (a, 0, List.replicate (Int.toNat (↑(List.length a) : Int)) (Bool.false, [], []))) fun r0 =>
 (.ret [[⟨(.sl (.cons .bool (.cons (.sl (.one (.int .i64))) (.one (.sl (.one (.int .i64))))))), r0⟩]]))
 .fail)
theorem T_w_toRatS_ok (n : Nat) (a : List (Bool × (List (Int)) × (List (Int)))) : (fnT (cx_w_toRatS n) Go.Proofs.Try.f50 sg_w_toRatS [.pls [⟨(.sl (.cons .bool (.cons (.sl (.one (.int .i64))) (.one (.sl (.one (.int .i64))))))), a⟩]]).run = (T_w_toRatS n a).run := by kernel_rfl
theorem B_w_toRatS_3_eq (n : Nat) (s0 : List (Bool × (List (Int)) × List (Int))) (s4 : Int) (o3 : List (Bool × (List (Int)) × List (Int))) : (bodyR (cx_w_toRatS n) (nthLoop (bodyOf Go.Proofs.Try.f50) 0) ⟨3, sh_w_toRatS_3, xs_w_toRatS_3, B_w_toRatS_3⟩ (s0, s4, o3)).run = (B_w_toRatS_3 n (s0, s4, o3)).run := by kernel_rfl
theorem B_w_toRatS_3_ok (n : Nat) : ∀ t, (bodyR (cx_w_toRatS n) (nthLoop (bodyOf Go.Proofs.Try.f50) 0) ⟨3, sh_w_toRatS_3, xs_w_toRatS_3, B_w_toRatS_3⟩ t).run = (B_w_toRatS_3 n t).run := fun (t : (List (Bool × (List (Int)) × List (Int))) × Int × (List (Bool × (List (Int)) × List (Int)))) => B_w_toRatS_3_eq n t.1 t.2.1 t.2.2
theorem loops_w_toRatS (n : Nat) : ∀ b ∈ allLoops (bodyOf Go.Proofs.Try.f50), BodyOk (cx_w_toRatS n) bs_w_toRatS n b :=
  allOf1 (by kernel_rfl) ⟨⟨3, sh_w_toRatS_3, xs_w_toRatS_3, B_w_toRatS_3⟩, by kernel_rfl, B_w_toRatS_3_ok n⟩
end
section
open Go Go.AM
set_option linter.unusedVariables false
set_option linter.unusedSimpArgs false
set_option maxRecDepth 100000
theorem P_w_szIntS (a : List (Int)) (left : Int) (h : (C.wl [⟨LI, a⟩] && C.okLeft left) = true) : Ev (fun n => T_w_szIntS n a left) [[⟨i6, C.sz [⟨LI, a⟩] left⟩]] := by
  refine Ev.any fun n => ?_
  simp only [Bool.and_eq_true] at h
  refine ok_szL (r := .one i6) (xs := a) h.1 h.2 fun h1 e => ok_ret.mpr ?_
  rw [e, C.sz_def, C0.szPs_cons, C0.szPs_nil, C0.szT_LI, if_pos (by omega)]
  rfl
theorem P_w_szBigInt (a_0 : Bool) (a_1 : List (Int)) (left : Int) (h : (C.wl [⟨.bool, a_0⟩, ⟨LI, a_1⟩] && C.okLeft left) = true) : Ev (fun n => T_w_szBigInt n a_0 a_1 left) [[⟨i6, C.sz [⟨.bool, a_0⟩, ⟨LI, a_1⟩] left⟩]] := by
  refine Ev.any fun n => ?_
  simp only [Bool.and_eq_true, C.wl_eq, C0.wl_cons, C0.wl_nil] at h
  exact ok_szE (by simp only [C0.szPs_cons, C0.szPs_nil, C0.szT_int, C0.szT_bool] <;> omega) (by simp only [C.wl_eq, C0.wl_cons, C0.wl_nil, h, Bool.and_self]) h.2
theorem P_w_szRat (a_0 : Bool) (a_1 : List (Int)) (a_2 : List (Int)) (left : Int) (h : (C.wl [⟨.bool, a_0⟩, ⟨LI, a_1⟩, ⟨LI, a_2⟩] && C.okLeft left) = true) : Ev (fun n => T_w_szRat n a_0 a_1 a_2 left) [[⟨i6, C.sz [⟨.bool, a_0⟩, ⟨LI, a_1⟩, ⟨LI, a_2⟩] left⟩]] := by
  refine Ev.any fun n => ?_
  simp only [Bool.and_eq_true, C.wl_eq, C0.wl_cons, C0.wl_nil] at h
  refine ok_szS [⟨LI, a_2⟩] (by simp only [C0.szPs_cons, C0.szPs_nil, C0.szT_int, C0.szT_bool] <;> omega) (by simp only [C.wl_eq, C0.wl_cons, C0.wl_nil, h, Bool.and_self]) h.2 fun hl0 => ?_
  exact ok_szE (by simp only [C0.szPs_cons, C0.szPs_nil, C0.szT_int, C0.szT_bool] <;> omega) (by simp only [C.wl_eq, C0.wl_cons, C0.wl_nil, h, Bool.and_self]) hl0
theorem P_w_szObservation (a_0 : Int) (a_1 : Int) (a_2 : Int) (a_3 : Bool) (a_4 : List (Int)) (a_5 : List (Int)) (a_6 : Bool) (a_7 : List (Int)) (a_8 : List (Int)) (left : Int) (h : (C.wl [⟨i6, a_0⟩, ⟨i6, a_1⟩, ⟨i6, a_2⟩, ⟨.bool, a_3⟩, ⟨LI, a_4⟩, ⟨LI, a_5⟩, ⟨.bool, a_6⟩, ⟨LI, a_7⟩, ⟨LI, a_8⟩] && C.okLeft left) = true) : Ev (fun n => T_w_szObservation n a_0 a_1 a_2 a_3 a_4 a_5 a_6 a_7 a_8 left) [[⟨i6, C.sz [⟨i6, a_0⟩, ⟨i6, a_1⟩, ⟨i6, a_2⟩, ⟨.bool, a_3⟩, ⟨LI, a_4⟩, ⟨LI, a_5⟩, ⟨.bool, a_6⟩, ⟨LI, a_7⟩, ⟨LI, a_8⟩] left⟩]] := by
  refine Ev.any fun n => ?_
  simp only [Bool.and_eq_true, C.wl_eq, C0.wl_cons, C0.wl_nil] at h
  refine ok_szS [⟨.bool, a_6⟩, ⟨LI, a_7⟩, ⟨LI, a_8⟩] (by simp only [C0.szPs_cons, C0.szPs_nil, C0.szT_int, C0.szT_bool] <;> omega) (by simp only [C.wl_eq, C0.wl_cons, C0.wl_nil, h, Bool.and_self]) h.2 fun hl0 => ?_
  exact ok_szE (by simp only [C0.szPs_cons, C0.szPs_nil, C0.szT_int, C0.szT_bool] <;> omega) (by simp only [C.wl_eq, C0.wl_cons, C0.wl_nil, h, Bool.and_self]) hl0
theorem P_w_szCandidate (a_0 : Int) (a_1 : Int) (a_2 : Int) (a_3 : Bool) (a_4 : List (Int)) (a_5 : List (Int)) (a_6 : Bool) (a_7 : List (Int)) (a_8 : List (Int)) (a_9 : Int) (left : Int) (h : (C.wl [⟨i6, a_0⟩, ⟨i6, a_1⟩, ⟨i6, a_2⟩, ⟨.bool, a_3⟩, ⟨LI, a_4⟩, ⟨LI, a_5⟩, ⟨.bool, a_6⟩, ⟨LI, a_7⟩, ⟨LI, a_8⟩, ⟨i6, a_9⟩] && C.okLeft left) = true) : Ev (fun n => T_w_szCandidate n a_0 a_1 a_2 a_3 a_4 a_5 a_6 a_7 a_8 a_9 left) [[⟨i6, C.sz [⟨i6, a_0⟩, ⟨i6, a_1⟩, ⟨i6, a_2⟩, ⟨.bool, a_3⟩, ⟨LI, a_4⟩, ⟨LI, a_5⟩, ⟨.bool, a_6⟩, ⟨LI, a_7⟩, ⟨LI, a_8⟩, ⟨i6, a_9⟩] left⟩]] := by
  refine Ev.any fun n => ?_
  simp only [Bool.and_eq_true, C.wl_eq, C0.wl_cons, C0.wl_nil] at h
  exact ok_szE (by simp only [C0.szPs_cons, C0.szPs_nil, C0.szT_int, C0.szT_bool] <;> omega) (by simp only [C.wl_eq, C0.wl_cons, C0.wl_nil, h, Bool.and_self]) h.2
theorem P_w_szCandidateS (a : List (Int × Int × Int × Bool × (List (Int)) × (List (Int)) × Bool × (List (Int)) × (List (Int)) × Int)) (left : Int) (h : (C.wl [⟨(.sl (.cons i6 (.cons i6 (.cons i6 (.cons .bool (.cons LI (.cons LI (.cons .bool (.cons LI (.cons LI (.one i6))))))))))), a⟩] && C.okLeft left) = true) : Ev (fun n => T_w_szCandidateS n a left) [[⟨i6, C.sz [⟨(.sl (.cons i6 (.cons i6 (.cons i6 (.cons .bool (.cons LI (.cons LI (.cons .bool (.cons LI (.cons LI (.one i6))))))))))), a⟩] left⟩]] := by
  simp only [Bool.and_eq_true] at h
  refine Ev.from (a.length + 1) fun n hn => ?_
  have hlL := (C.okLeft_def _).mp h.2
  have hwa := h.1
  rw [C.wl_eq, C0.wl_cons, C0.wl_nil, C0.wlT_sl] at hwa
  simp only [Bool.and_eq_true, decide_eq_true_eq, Bool.and_true] at hwa
  refine ok_szL (r := (.cons i6 (.cons i6 (.cons i6 (.cons .bool (.cons LI (.cons LI (.cons .bool (.cons LI (.cons LI (.one i6))))))))))) (xs := a) h.1 h.2 fun h1 e => ?_
  rw [e]
  obtain ⟨rr, hr, hrr⟩ := sz_loop (r := (.cons i6 (.cons i6 (.cons i6 (.cons .bool (.cons LI (.cons LI (.cons .bool (.cons LI (.cons LI (.one i6))))))))))) a left h.2 h1 (B := B_w_szCandidateS_5) (n := n) (by omega) (fun i s hi hi' hs => by
    obtain ⟨hii, hg⟩ := gd_eq hi hi'
    have hw : C0.wlR (.cons i6 (.cons i6 (.cons i6 (.cons .bool (.cons LI (.cons LI (.cons .bool (.cons LI (.cons LI (.one i6)))))))))) (gd a i) = true := by rw [hg]; exact List.all_eq_true.mp hwa.2 _ (List.getElem_mem hii)
    have hw2 : C.wl [⟨i6, (gd a i).1⟩, ⟨i6, (gd a i).2.1⟩, ⟨i6, (gd a i).2.2.1⟩, ⟨.bool, (gd a i).2.2.2.1⟩, ⟨LI, (gd a i).2.2.2.2.1⟩, ⟨LI, (gd a i).2.2.2.2.2.1⟩, ⟨.bool, (gd a i).2.2.2.2.2.2.1⟩, ⟨LI, (gd a i).2.2.2.2.2.2.2.1⟩, ⟨LI, (gd a i).2.2.2.2.2.2.2.2.1⟩, ⟨i6, (gd a i).2.2.2.2.2.2.2.2.2⟩] = true := by rw [C.wl_eq]; simp only [C0.wl_cons, C0.wl_nil, Bool.and_true]; exact hw
    have hz : C0.szPs [⟨i6, (gd a i).1⟩, ⟨i6, (gd a i).2.1⟩, ⟨i6, (gd a i).2.2.1⟩, ⟨.bool, (gd a i).2.2.2.1⟩, ⟨LI, (gd a i).2.2.2.2.1⟩, ⟨LI, (gd a i).2.2.2.2.2.1⟩, ⟨.bool, (gd a i).2.2.2.2.2.2.1⟩, ⟨LI, (gd a i).2.2.2.2.2.2.2.1⟩, ⟨LI, (gd a i).2.2.2.2.2.2.2.2.1⟩, ⟨i6, (gd a i).2.2.2.2.2.2.2.2.2⟩] = C0.szR (.cons i6 (.cons i6 (.cons i6 (.cons .bool (.cons LI (.cons LI (.cons .bool (.cons LI (.cons LI (.one i6)))))))))) (gd a i) := by simp only [C0.szPs_cons, C0.szPs_nil, Nat.add_zero]; rfl
    refine ok_brT (by simp; omega) (ok_brT (by simp; omega) (ok_brT (by rw [hw2, hs]; rfl) (ok_brC (fun hc => ?_) fun hc => ?_)))
    · obtain ⟨g1, g2⟩ := sz_neg (of_decide_eq_true hc) hs
      rw [hz] at g2
      rw [ok_ret, if_neg (by omega)]
    · obtain ⟨g1, g2, g3⟩ := sz_nonneg (of_decide_eq_false hc) hs
      rw [hz] at g1 g2
      rw [ok_ret, if_pos g2, g1, w64_id (by omega)])
    (fun i s hi => ok_brF (by simp; omega) (ok_ret.mpr rfl))
  refine ok_opt hr ?_
  rcases hrr with rfl | rfl <;> exact ok_ret.mpr rfl
theorem P_w_szRatS (a : List (Bool × (List (Int)) × (List (Int)))) (left : Int) (h : (C.wl [⟨(.sl (.cons .bool (.cons LI (.one LI)))), a⟩] && C.okLeft left) = true) : Ev (fun n => T_w_szRatS n a left) [[⟨i6, C.sz [⟨(.sl (.cons .bool (.cons LI (.one LI)))), a⟩] left⟩]] := by
  simp only [Bool.and_eq_true] at h
  refine Ev.from (a.length + 1) fun n hn => ?_
  have hlL := (C.okLeft_def _).mp h.2
  have hwa := h.1
  rw [C.wl_eq, C0.wl_cons, C0.wl_nil, C0.wlT_sl] at hwa
  simp only [Bool.and_eq_true, decide_eq_true_eq, Bool.and_true] at hwa
  refine ok_szL (r := (.cons .bool (.cons LI (.one LI)))) (xs := a) h.1 h.2 fun h1 e => ?_
  rw [e]
  obtain ⟨rr, hr, hrr⟩ := sz_loop (r := (.cons .bool (.cons LI (.one LI)))) a left h.2 h1 (B := B_w_szRatS_5) (n := n) (by omega) (fun i s hi hi' hs => by
    obtain ⟨hii, hg⟩ := gd_eq hi hi'
    have hw : C0.wlR (.cons .bool (.cons LI (.one LI))) (gd a i) = true := by rw [hg]; exact List.all_eq_true.mp hwa.2 _ (List.getElem_mem hii)
    have hw2 : C.wl [⟨.bool, (gd a i).1⟩, ⟨LI, (gd a i).2.1⟩, ⟨LI, (gd a i).2.2⟩] = true := by rw [C.wl_eq]; simp only [C0.wl_cons, C0.wl_nil, Bool.and_true]; exact hw
    have hz : C0.szPs [⟨.bool, (gd a i).1⟩, ⟨LI, (gd a i).2.1⟩, ⟨LI, (gd a i).2.2⟩] = C0.szR (.cons .bool (.cons LI (.one LI))) (gd a i) := by simp only [C0.szPs_cons, C0.szPs_nil, Nat.add_zero]; rfl
    refine ok_brT (by simp; omega) (ok_brT (by simp; omega) (ok_brT (by rw [hw2, hs]; rfl) (ok_brC (fun hc => ?_) fun hc => ?_)))
    · obtain ⟨g1, g2⟩ := sz_neg (of_decide_eq_true hc) hs
      rw [hz] at g2
      rw [ok_ret, if_neg (by omega)]
    · obtain ⟨g1, g2, g3⟩ := sz_nonneg (of_decide_eq_false hc) hs
      rw [hz] at g1 g2
      rw [ok_ret, if_pos g2, g1, w64_id (by omega)])
    (fun i s hi => ok_brF (by simp; omega) (ok_ret.mpr rfl))
  refine ok_opt hr ?_
  rcases hrr with rfl | rfl <;> exact ok_ret.mpr rfl
theorem P_w_szMatrix (a_0 : Int) (a_1 : Int) (a_2 : List (Bool × (List (Int)) × (List (Int)))) (left : Int) (h : (C.wl [⟨i6, a_0⟩, ⟨i6, a_1⟩, ⟨(.sl (.cons .bool (.cons LI (.one LI)))), a_2⟩] && C.okLeft left) = true) : Ev (fun n => T_w_szMatrix n a_0 a_1 a_2 left) [[⟨i6, C.sz [⟨i6, a_0⟩, ⟨i6, a_1⟩, ⟨(.sl (.cons .bool (.cons LI (.one LI)))), a_2⟩] left⟩]] := by
  refine Ev.any fun n => ?_
  simp only [Bool.and_eq_true, C.wl_eq, C0.wl_cons, C0.wl_nil] at h
  exact ok_szE (by simp only [C0.szPs_cons, C0.szPs_nil, C0.szT_int, C0.szT_bool] <;> omega) (by simp only [C.wl_eq, C0.wl_cons, C0.wl_nil, h, Bool.and_self]) h.2
theorem P_w_szEstimate (a_0 : List (Bool × (List (Int)) × (List (Int)))) (a_1 : Int) (a_2 : Int) (a_3 : List (Bool × (List (Int)) × (List (Int)))) (left : Int) (h : (C.wl [⟨(.sl (.cons .bool (.cons LI (.one LI)))), a_0⟩, ⟨i6, a_1⟩, ⟨i6, a_2⟩, ⟨(.sl (.cons .bool (.cons LI (.one LI)))), a_3⟩] && C.okLeft left) = true) : Ev (fun n => T_w_szEstimate n a_0 a_1 a_2 a_3 left) [[⟨i6, C.sz [⟨(.sl (.cons .bool (.cons LI (.one LI)))), a_0⟩, ⟨i6, a_1⟩, ⟨i6, a_2⟩, ⟨(.sl (.cons .bool (.cons LI (.one LI)))), a_3⟩] left⟩]] := by
  refine Ev.any fun n => ?_
  simp only [Bool.and_eq_true, C.wl_eq, C0.wl_cons, C0.wl_nil] at h
  refine ok_szS [⟨i6, a_1⟩, ⟨i6, a_2⟩, ⟨(.sl (.cons .bool (.cons LI (.one LI)))), a_3⟩] (by simp only [C0.szPs_cons, C0.szPs_nil, C0.szT_int, C0.szT_bool] <;> omega) (by simp only [C.wl_eq, C0.wl_cons, C0.wl_nil, h, Bool.and_self]) h.2 fun hl0 => ?_
  exact ok_szE (by simp only [C0.szPs_cons, C0.szPs_nil, C0.szT_int, C0.szT_bool] <;> omega) (by simp only [C.wl_eq, C0.wl_cons, C0.wl_nil, h, Bool.and_self]) hl0
theorem P_w_toIntS (a : List (Int)) (h : C.lim [⟨LI, a⟩] = true) : Ev (fun n => T_w_toIntS n a) [[⟨LI, a⟩]] := by
  rw [C.lim_def] at h
  rw [C0.szPs_cons, C0.szPs_nil, C0.szT_sl] at h
  refine Ev.from (a.length + 1) fun n hn => ?_
  refine ok_brT (by simp; omega) ?_
  have hloop := to_loop (α := Int) a (0 : Int) (B := B_w_toIntS_3) (n := n) (by omega) (fun i o hi hi' ho => by
      refine ok_brT (by simp; omega) (ok_brT (by simp; omega) (ok_brT (by simp; omega) (ok_ret.mpr ?_)))
      rw [w64_id (by omega)])
    (fun i o hi => ok_brF (by simp; omega) (ok_ret.mpr rfl))
  rw [show ((a.length : Int).toNat) = a.length by omega]
  exact ok_opt hloop (ok_ret.mpr rfl)
theorem P_w_toBigInt (a_0 : Bool) (a_1 : List (Int)) (h : C.lim [⟨.bool, a_0⟩, ⟨LI, a_1⟩] = true) : Ev (fun n => T_w_toBigInt n a_0 a_1) [[⟨.bool, a_0⟩, ⟨LI, a_1⟩]] := by
  rw [C.lim_def] at h
  refine Ev.any fun n => ?_
  simp only [C0.szPs_cons, C0.szPs_nil, C0.szT_int, C0.szT_bool] at h
  refine ok_brT ((C.lim_def _).mpr (by simp only [C0.szPs_cons, C0.szPs_nil, C0.szT_int, C0.szT_bool] <;> omega)) ?_
  exact ok_ret.mpr rfl
theorem P_w_toRat (a_0 : Bool) (a_1 : List (Int)) (a_2 : List (Int)) (h : C.lim [⟨.bool, a_0⟩, ⟨LI, a_1⟩, ⟨LI, a_2⟩] = true) : Ev (fun n => T_w_toRat n a_0 a_1 a_2) [[⟨.bool, a_0⟩, ⟨LI, a_1⟩, ⟨LI, a_2⟩]] := by
  rw [C.lim_def] at h
  refine Ev.any fun n => ?_
  simp only [C0.szPs_cons, C0.szPs_nil, C0.szT_int, C0.szT_bool] at h
  refine ok_brT ((C.lim_def _).mpr (by simp only [C0.szPs_cons, C0.szPs_nil, C0.szT_int, C0.szT_bool] <;> omega)) ?_
  refine ok_brT ((C.lim_def _).mpr (by simp only [C0.szPs_cons, C0.szPs_nil, C0.szT_int, C0.szT_bool] <;> omega)) ?_
  exact ok_ret.mpr rfl
theorem P_w_toObservation (a_0 : Int) (a_1 : Int) (a_2 : Int) (a_3 : Bool) (a_4 : List (Int)) (a_5 : List (Int)) (a_6 : Bool) (a_7 : List (Int)) (a_8 : List (Int)) (h : C.lim [⟨i6, a_0⟩, ⟨i6, a_1⟩, ⟨i6, a_2⟩, ⟨.bool, a_3⟩, ⟨LI, a_4⟩, ⟨LI, a_5⟩, ⟨.bool, a_6⟩, ⟨LI, a_7⟩, ⟨LI, a_8⟩] = true) : Ev (fun n => T_w_toObservation n a_0 a_1 a_2 a_3 a_4 a_5 a_6 a_7 a_8) [[⟨i6, a_0⟩, ⟨i6, a_1⟩, ⟨i6, a_2⟩, ⟨.bool, a_3⟩, ⟨LI, a_4⟩, ⟨LI, a_5⟩, ⟨.bool, a_6⟩, ⟨LI, a_7⟩, ⟨LI, a_8⟩]] := by
  rw [C.lim_def] at h
  refine Ev.any fun n => ?_
  simp only [C0.szPs_cons, C0.szPs_nil, C0.szT_int, C0.szT_bool] at h
  refine ok_brT ((C.lim_def _).mpr (by simp only [C0.szPs_cons, C0.szPs_nil, C0.szT_int, C0.szT_bool] <;> omega)) ?_
  refine ok_brT ((C.lim_def _).mpr (by simp only [C0.szPs_cons, C0.szPs_nil, C0.szT_int, C0.szT_bool] <;> omega)) ?_
  exact ok_ret.mpr rfl
theorem P_w_toCandidate (a_0 : Int) (a_1 : Int) (a_2 : Int) (a_3 : Bool) (a_4 : List (Int)) (a_5 : List (Int)) (a_6 : Bool) (a_7 : List (Int)) (a_8 : List (Int)) (a_9 : Int) (h : C.lim [⟨i6, a_0⟩, ⟨i6, a_1⟩, ⟨i6, a_2⟩, ⟨.bool, a_3⟩, ⟨LI, a_4⟩, ⟨LI, a_5⟩, ⟨.bool, a_6⟩, ⟨LI, a_7⟩, ⟨LI, a_8⟩, ⟨i6, a_9⟩] = true) : Ev (fun n => T_w_toCandidate n a_0 a_1 a_2 a_3 a_4 a_5 a_6 a_7 a_8 a_9) [[⟨i6, a_0⟩, ⟨i6, a_1⟩, ⟨i6, a_2⟩, ⟨.bool, a_3⟩, ⟨LI, a_4⟩, ⟨LI, a_5⟩, ⟨.bool, a_6⟩, ⟨LI, a_7⟩, ⟨LI, a_8⟩, ⟨i6, a_9⟩]] := by
  rw [C.lim_def] at h
  refine Ev.any fun n => ?_
  simp only [C0.szPs_cons, C0.szPs_nil, C0.szT_int, C0.szT_bool] at h
  refine ok_brT ((C.lim_def _).mpr (by simp only [C0.szPs_cons, C0.szPs_nil, C0.szT_int, C0.szT_bool] <;> omega)) ?_
  exact ok_ret.mpr rfl
theorem P_w_toCandidateS (a : List (Int × Int × Int × Bool × (List (Int)) × (List (Int)) × Bool × (List (Int)) × (List (Int)) × Int)) (h : C.lim [⟨(.sl (.cons i6 (.cons i6 (.cons i6 (.cons .bool (.cons LI (.cons LI (.cons .bool (.cons LI (.cons LI (.one i6))))))))))), a⟩] = true) : Ev (fun n => T_w_toCandidateS n a) [[⟨(.sl (.cons i6 (.cons i6 (.cons i6 (.cons .bool (.cons LI (.cons LI (.cons .bool (.cons LI (.cons LI (.one i6))))))))))), a⟩]] := by
  rw [C.lim_def] at h
  rw [C0.szPs_cons, C0.szPs_nil, C0.szT_sl] at h
  refine Ev.from (a.length + 1) fun n hn => ?_
  refine ok_brT (by simp; omega) ?_
  have hloop := to_loop (α := Int × Int × Int × Bool × (List (Int)) × (List (Int)) × Bool × (List (Int)) × (List (Int)) × Int) a (Row.dflt (.cons i6 (.cons i6 (.cons i6 (.cons .bool (.cons LI (.cons LI (.cons .bool (.cons LI (.cons LI (.one i6))))))))))) (B := B_w_toCandidateS_3) (n := n) (by omega) (fun i o hi hi' ho => by
      obtain ⟨hii, hg⟩ := gd_eq hi hi'
      have h1 := C0.szT_split (.cons i6 (.cons i6 (.cons i6 (.cons .bool (.cons LI (.cons LI (.cons .bool (.cons LI (.cons LI (.one i6)))))))))) a i.toNat hii
      have h2 := C0.szT_take (.cons i6 (.cons i6 (.cons i6 (.cons .bool (.cons LI (.cons LI (.cons .bool (.cons LI (.cons LI (.one i6)))))))))) a (i.toNat + 1)
      have hz : C0.szPs [⟨i6, (gd a i).1⟩, ⟨i6, (gd a i).2.1⟩, ⟨i6, (gd a i).2.2.1⟩, ⟨.bool, (gd a i).2.2.2.1⟩, ⟨LI, (gd a i).2.2.2.2.1⟩, ⟨LI, (gd a i).2.2.2.2.2.1⟩, ⟨.bool, (gd a i).2.2.2.2.2.2.1⟩, ⟨LI, (gd a i).2.2.2.2.2.2.2.1⟩, ⟨LI, (gd a i).2.2.2.2.2.2.2.2.1⟩, ⟨i6, (gd a i).2.2.2.2.2.2.2.2.2⟩] = C0.szR (.cons i6 (.cons i6 (.cons i6 (.cons .bool (.cons LI (.cons LI (.cons .bool (.cons LI (.cons LI (.one i6)))))))))) (gd a i) := by simp only [C0.szPs_cons, C0.szPs_nil, Nat.add_zero]; rfl
      refine ok_brT (by simp; omega) (ok_brT (by simp; omega) (ok_brT ((C.lim_def _).mpr (by rw [hz, hg]; omega)) (ok_brT (by simp; omega) (ok_ret.mpr ?_))))
      rw [w64_id (by omega)])
    (fun i o hi => ok_brF (by simp; omega) (ok_ret.mpr rfl))
  rw [show ((a.length : Int).toNat) = a.length by omega]
  exact ok_opt hloop (ok_ret.mpr rfl)
theorem P_w_toRatS (a : List (Bool × (List (Int)) × (List (Int)))) (h : C.lim [⟨(.sl (.cons .bool (.cons LI (.one LI)))), a⟩] = true) : Ev (fun n => T_w_toRatS n a) [[⟨(.sl (.cons .bool (.cons LI (.one LI)))), a⟩]] := by
  rw [C.lim_def] at h
  rw [C0.szPs_cons, C0.szPs_nil, C0.szT_sl] at h
  refine Ev.from (a.length + 1) fun n hn => ?_
  refine ok_brT (by simp; omega) ?_
  have hloop := to_loop (α := Bool × (List (Int)) × (List (Int))) a (Row.dflt (.cons .bool (.cons LI (.one LI)))) (B := B_w_toRatS_3) (n := n) (by omega) (fun i o hi hi' ho => by
      obtain ⟨hii, hg⟩ := gd_eq hi hi'
      have h1 := C0.szT_split (.cons .bool (.cons LI (.one LI))) a i.toNat hii
      have h2 := C0.szT_take (.cons .bool (.cons LI (.one LI))) a (i.toNat + 1)
      have hz : C0.szPs [⟨.bool, (gd a i).1⟩, ⟨LI, (gd a i).2.1⟩, ⟨LI, (gd a i).2.2⟩] = C0.szR (.cons .bool (.cons LI (.one LI))) (gd a i) := by simp only [C0.szPs_cons, C0.szPs_nil, Nat.add_zero]; rfl
      refine ok_brT (by simp; omega) (ok_brT (by simp; omega) (ok_brT ((C.lim_def _).mpr (by rw [hz, hg]; omega)) (ok_brT (by simp; omega) (ok_ret.mpr ?_))))
      rw [w64_id (by omega)])
    (fun i o hi => ok_brF (by simp; omega) (ok_ret.mpr rfl))
  rw [show ((a.length : Int).toNat) = a.length by omega]
  exact ok_opt hloop (ok_ret.mpr rfl)
theorem P_w_toMatrix (a_0 : Int) (a_1 : Int) (a_2 : List (Bool × (List (Int)) × (List (Int)))) (h : C.lim [⟨i6, a_0⟩, ⟨i6, a_1⟩, ⟨(.sl (.cons .bool (.cons LI (.one LI)))), a_2⟩] = true) : Ev (fun n => T_w_toMatrix n a_0 a_1 a_2) [[⟨i6, a_0⟩, ⟨i6, a_1⟩, ⟨(.sl (.cons .bool (.cons LI (.one LI)))), a_2⟩]] := by
  rw [C.lim_def] at h
  refine Ev.any fun n => ?_
  simp only [C0.szPs_cons, C0.szPs_nil, C0.szT_int, C0.szT_bool] at h
  refine ok_brT ((C.lim_def _).mpr (by simp only [C0.szPs_cons, C0.szPs_nil, C0.szT_int, C0.szT_bool] <;> omega)) ?_
  exact ok_ret.mpr rfl
theorem P_w_toEstimate (a_0 : List (Bool × (List (Int)) × (List (Int)))) (a_1 : Int) (a_2 : Int) (a_3 : List (Bool × (List (Int)) × (List (Int)))) (h : C.lim [⟨(.sl (.cons .bool (.cons LI (.one LI)))), a_0⟩, ⟨i6, a_1⟩, ⟨i6, a_2⟩, ⟨(.sl (.cons .bool (.cons LI (.one LI)))), a_3⟩] = true) : Ev (fun n => T_w_toEstimate n a_0 a_1 a_2 a_3) [[⟨(.sl (.cons .bool (.cons LI (.one LI)))), a_0⟩, ⟨i6, a_1⟩, ⟨i6, a_2⟩, ⟨(.sl (.cons .bool (.cons LI (.one LI)))), a_3⟩]] := by
  rw [C.lim_def] at h
  refine Ev.any fun n => ?_
  simp only [C0.szPs_cons, C0.szPs_nil, C0.szT_int, C0.szT_bool] at h
  refine ok_brT ((C.lim_def _).mpr (by simp only [C0.szPs_cons, C0.szPs_nil, C0.szT_int, C0.szT_bool] <;> omega)) ?_
  refine ok_brT ((C.lim_def _).mpr (by simp only [C0.szPs_cons, C0.szPs_nil, C0.szT_int, C0.szT_bool] <;> omega)) ?_
  exact ok_ret.mpr rfl
theorem P_w_eqIntS (a : List (Int)) (b : List (Int)) (h : (C.lim [⟨LI, a⟩] && C.lim [⟨LI, b⟩]) = true) : Ev (fun n => T_w_eqIntS n a b) [[⟨.bool, C.eqPs [⟨LI, a⟩] [⟨LI, b⟩]⟩]] := by
  rw [Bool.and_eq_true, C.lim_def, C.lim_def] at h
  rw [C0.szPs_cons, C0.szPs_nil, C0.szT_sl, C0.szPs_cons, C0.szPs_nil, C0.szT_sl] at h
  refine Ev.from (a.length + 1) fun n hn => ?_
  have he : C.eqPs [⟨LI, a⟩] [⟨LI, b⟩] = C0.all2 (C0.eqR (.one i6)) a b := by rw [C.eqPs_eq, C0.eqPs_cons, C0.eqPs_nil, C0.eqT_sl, Bool.and_true]
  rw [he]
  refine ok_brC (fun g => ?_) fun g => ?_
  · rw [ok_ret, all2_len]
    intro hh
    rw [hh] at g
    simp at g
  have hlen : a.length = b.length := by simp at g; omega
  obtain ⟨rr, hr, hrr⟩ := eq_loop (C0.eqR (.one i6)) a b hlen (B := B_w_eqIntS_4) (n := n) (by omega) (fun i hi hi' => by
      refine ok_brT (by simp; omega) (ok_brT (by simp; omega) (ok_brT (by simp; omega) (ok_brC (fun g => ok_ret.mpr ?_) fun g => ok_ret.mpr ?_)))
      · rw [if_neg (by rw [C0.eqR_one]; simp only [C0.eqT_int]; simpa using g)]
      · rw [if_pos (by rw [C0.eqR_one]; simp only [C0.eqT_int]; simpa using g), w64_id (by omega)])
    (fun i hi => ok_brF (by simp; omega) (ok_ret.mpr rfl))
  refine ok_opt hr ?_
  split at hrr
  · rename_i g2; subst hrr; rw [g2]; exact ok_ret.mpr rfl
  · rename_i g2; subst hrr; rw [show C0.all2 (C0.eqR (.one i6)) a b = false from by simpa using g2]; exact ok_ret.mpr rfl
theorem P_w_eqBigInt (a_0 : Bool) (a_1 : List (Int)) (b_0 : Bool) (b_1 : List (Int)) (h : (C.lim [⟨.bool, a_0⟩, ⟨LI, a_1⟩] && C.lim [⟨.bool, b_0⟩, ⟨LI, b_1⟩]) = true) : Ev (fun n => T_w_eqBigInt n a_0 a_1 b_0 b_1) [[⟨.bool, C.eqPs [⟨.bool, a_0⟩, ⟨LI, a_1⟩] [⟨.bool, b_0⟩, ⟨LI, b_1⟩]⟩]] := by
  rw [Bool.and_eq_true, C.lim_def, C.lim_def] at h
  refine Ev.any fun n => ?_
  simp only [C0.szPs_cons, C0.szPs_nil, C0.szT_int, C0.szT_bool] at h
  have hfull : C.eqPs [⟨.bool, a_0⟩, ⟨LI, a_1⟩] [⟨.bool, b_0⟩, ⟨LI, b_1⟩] = ((a_0 == b_0) && C.eqPs [⟨LI, a_1⟩] [⟨LI, b_1⟩]) := by
    simp only [C.eqPs_eq, C0.eqPs_cons, C0.eqPs_nil, C0.eqT_int, C0.eqT_bool, C0.eqT_str, Bool.and_true, Bool.and_assoc] <;> rfl
  rw [hfull]
  refine ok_brC (fun g => ?_) fun g0 => ?_
  · refine ok_ret.mpr ?_
    simp_all
  refine ok_brT (by rw [Bool.and_eq_true, C.lim_def, C.lim_def]; simp only [C0.szPs_cons, C0.szPs_nil, C0.szT_int, C0.szT_bool] <;> omega) ?_
  refine ok_brC (fun g => ?_) fun g1 => ?_
  · refine ok_ret.mpr ?_
    simp_all
  refine ok_ret.mpr ?_
  simp_all
theorem P_w_eqRat (a_0 : Bool) (a_1 : List (Int)) (a_2 : List (Int)) (b_0 : Bool) (b_1 : List (Int)) (b_2 : List (Int)) (h : (C.lim [⟨.bool, a_0⟩, ⟨LI, a_1⟩, ⟨LI, a_2⟩] && C.lim [⟨.bool, b_0⟩, ⟨LI, b_1⟩, ⟨LI, b_2⟩]) = true) : Ev (fun n => T_w_eqRat n a_0 a_1 a_2 b_0 b_1 b_2) [[⟨.bool, C.eqPs [⟨.bool, a_0⟩, ⟨LI, a_1⟩, ⟨LI, a_2⟩] [⟨.bool, b_0⟩, ⟨LI, b_1⟩, ⟨LI, b_2⟩]⟩]] := by
  rw [Bool.and_eq_true, C.lim_def, C.lim_def] at h
  refine Ev.any fun n => ?_
  simp only [C0.szPs_cons, C0.szPs_nil, C0.szT_int, C0.szT_bool] at h
  have hfull : C.eqPs [⟨.bool, a_0⟩, ⟨LI, a_1⟩, ⟨LI, a_2⟩] [⟨.bool, b_0⟩, ⟨LI, b_1⟩, ⟨LI, b_2⟩] = (C.eqPs [⟨.bool, a_0⟩, ⟨LI, a_1⟩] [⟨.bool, b_0⟩, ⟨LI, b_1⟩] && C.eqPs [⟨LI, a_2⟩] [⟨LI, b_2⟩]) := by
    simp only [C.eqPs_eq, C0.eqPs_cons, C0.eqPs_nil, C0.eqT_int, C0.eqT_bool, C0.eqT_str, Bool.and_true, Bool.and_assoc] <;> rfl
  rw [hfull]
  refine ok_brT (by rw [Bool.and_eq_true, C.lim_def, C.lim_def]; simp only [C0.szPs_cons, C0.szPs_nil, C0.szT_int, C0.szT_bool] <;> omega) ?_
  refine ok_brC (fun g => ?_) fun g0 => ?_
  · refine ok_ret.mpr ?_
    simp_all
  refine ok_brT (by rw [Bool.and_eq_true, C.lim_def, C.lim_def]; simp only [C0.szPs_cons, C0.szPs_nil, C0.szT_int, C0.szT_bool] <;> omega) ?_
  refine ok_brC (fun g => ?_) fun g2 => ?_
  · refine ok_ret.mpr ?_
    simp_all
  refine ok_ret.mpr ?_
  simp_all
theorem P_w_eqObservation (a_0 : Int) (a_1 : Int) (a_2 : Int) (a_3 : Bool) (a_4 : List (Int)) (a_5 : List (Int)) (a_6 : Bool) (a_7 : List (Int)) (a_8 : List (Int)) (b_0 : Int) (b_1 : Int) (b_2 : Int) (b_3 : Bool) (b_4 : List (Int)) (b_5 : List (Int)) (b_6 : Bool) (b_7 : List (Int)) (b_8 : List (Int)) (h : (C.lim [⟨i6, a_0⟩, ⟨i6, a_1⟩, ⟨i6, a_2⟩, ⟨.bool, a_3⟩, ⟨LI, a_4⟩, ⟨LI, a_5⟩, ⟨.bool, a_6⟩, ⟨LI, a_7⟩, ⟨LI, a_8⟩] && C.lim [⟨i6, b_0⟩, ⟨i6, b_1⟩, ⟨i6, b_2⟩, ⟨.bool, b_3⟩, ⟨LI, b_4⟩, ⟨LI, b_5⟩, ⟨.bool, b_6⟩, ⟨LI, b_7⟩, ⟨LI, b_8⟩]) = true) : Ev (fun n => T_w_eqObservation n a_0 a_1 a_2 a_3 a_4 a_5 a_6 a_7 a_8 b_0 b_1 b_2 b_3 b_4 b_5 b_6 b_7 b_8) [[⟨.bool, C.eqPs [⟨i6, a_0⟩, ⟨i6, a_1⟩, ⟨i6, a_2⟩, ⟨.bool, a_3⟩, ⟨LI, a_4⟩, ⟨LI, a_5⟩, ⟨.bool, a_6⟩, ⟨LI, a_7⟩, ⟨LI, a_8⟩] [⟨i6, b_0⟩, ⟨i6, b_1⟩, ⟨i6, b_2⟩, ⟨.bool, b_3⟩, ⟨LI, b_4⟩, ⟨LI, b_5⟩, ⟨.bool, b_6⟩, ⟨LI, b_7⟩, ⟨LI, b_8⟩]⟩]] := by
  rw [Bool.and_eq_true, C.lim_def, C.lim_def] at h
  refine Ev.any fun n => ?_
  simp only [C0.szPs_cons, C0.szPs_nil, C0.szT_int, C0.szT_bool] at h
  have hfull : C.eqPs [⟨i6, a_0⟩, ⟨i6, a_1⟩, ⟨i6, a_2⟩, ⟨.bool, a_3⟩, ⟨LI, a_4⟩, ⟨LI, a_5⟩, ⟨.bool, a_6⟩, ⟨LI, a_7⟩, ⟨LI, a_8⟩] [⟨i6, b_0⟩, ⟨i6, b_1⟩, ⟨i6, b_2⟩, ⟨.bool, b_3⟩, ⟨LI, b_4⟩, ⟨LI, b_5⟩, ⟨.bool, b_6⟩, ⟨LI, b_7⟩, ⟨LI, b_8⟩] = ((a_0 == b_0) && ((a_1 == b_1) && ((a_2 == b_2) && (C.eqPs [⟨.bool, a_3⟩, ⟨LI, a_4⟩, ⟨LI, a_5⟩] [⟨.bool, b_3⟩, ⟨LI, b_4⟩, ⟨LI, b_5⟩] && C.eqPs [⟨.bool, a_6⟩, ⟨LI, a_7⟩, ⟨LI, a_8⟩] [⟨.bool, b_6⟩, ⟨LI, b_7⟩, ⟨LI, b_8⟩])))) := by
    simp only [C.eqPs_eq, C0.eqPs_cons, C0.eqPs_nil, C0.eqT_int, C0.eqT_bool, C0.eqT_str, Bool.and_true, Bool.and_assoc] <;> rfl
  rw [hfull]
  refine ok_brC (fun g => ?_) fun g0 => ?_
  · refine ok_ret.mpr ?_
    simp_all
  refine ok_brC (fun g => ?_) fun g1 => ?_
  · refine ok_ret.mpr ?_
    simp_all
  refine ok_brC (fun g => ?_) fun g2 => ?_
  · refine ok_ret.mpr ?_
    simp_all
  refine ok_brT (by rw [Bool.and_eq_true, C.lim_def, C.lim_def]; simp only [C0.szPs_cons, C0.szPs_nil, C0.szT_int, C0.szT_bool] <;> omega) ?_
  refine ok_brC (fun g => ?_) fun g3 => ?_
  · refine ok_ret.mpr ?_
    simp_all
  refine ok_brT (by rw [Bool.and_eq_true, C.lim_def, C.lim_def]; simp only [C0.szPs_cons, C0.szPs_nil, C0.szT_int, C0.szT_bool] <;> omega) ?_
  refine ok_brC (fun g => ?_) fun g6 => ?_
  · refine ok_ret.mpr ?_
    simp_all
  refine ok_ret.mpr ?_
  simp_all
theorem P_w_eqCandidate (a_0 : Int) (a_1 : Int) (a_2 : Int) (a_3 : Bool) (a_4 : List (Int)) (a_5 : List (Int)) (a_6 : Bool) (a_7 : List (Int)) (a_8 : List (Int)) (a_9 : Int) (b_0 : Int) (b_1 : Int) (b_2 : Int) (b_3 : Bool) (b_4 : List (Int)) (b_5 : List (Int)) (b_6 : Bool) (b_7 : List (Int)) (b_8 : List (Int)) (b_9 : Int) (h : (C.lim [⟨i6, a_0⟩, ⟨i6, a_1⟩, ⟨i6, a_2⟩, ⟨.bool, a_3⟩, ⟨LI, a_4⟩, ⟨LI, a_5⟩, ⟨.bool, a_6⟩, ⟨LI, a_7⟩, ⟨LI, a_8⟩, ⟨i6, a_9⟩] && C.lim [⟨i6, b_0⟩, ⟨i6, b_1⟩, ⟨i6, b_2⟩, ⟨.bool, b_3⟩, ⟨LI, b_4⟩, ⟨LI, b_5⟩, ⟨.bool, b_6⟩, ⟨LI, b_7⟩, ⟨LI, b_8⟩, ⟨i6, b_9⟩]) = true) : Ev (fun n => T_w_eqCandidate n a_0 a_1 a_2 a_3 a_4 a_5 a_6 a_7 a_8 a_9 b_0 b_1 b_2 b_3 b_4 b_5 b_6 b_7 b_8 b_9) [[⟨.bool, C.eqPs [⟨i6, a_0⟩, ⟨i6, a_1⟩, ⟨i6, a_2⟩, ⟨.bool, a_3⟩, ⟨LI, a_4⟩, ⟨LI, a_5⟩, ⟨.bool, a_6⟩, ⟨LI, a_7⟩, ⟨LI, a_8⟩, ⟨i6, a_9⟩] [⟨i6, b_0⟩, ⟨i6, b_1⟩, ⟨i6, b_2⟩, ⟨.bool, b_3⟩, ⟨LI, b_4⟩, ⟨LI, b_5⟩, ⟨.bool, b_6⟩, ⟨LI, b_7⟩, ⟨LI, b_8⟩, ⟨i6, b_9⟩]⟩]] := by
  rw [Bool.and_eq_true, C.lim_def, C.lim_def] at h
  refine Ev.any fun n => ?_
  simp only [C0.szPs_cons, C0.szPs_nil, C0.szT_int, C0.szT_bool] at h
  have hfull : C.eqPs [⟨i6, a_0⟩, ⟨i6, a_1⟩, ⟨i6, a_2⟩, ⟨.bool, a_3⟩, ⟨LI, a_4⟩, ⟨LI, a_5⟩, ⟨.bool, a_6⟩, ⟨LI, a_7⟩, ⟨LI, a_8⟩, ⟨i6, a_9⟩] [⟨i6, b_0⟩, ⟨i6, b_1⟩, ⟨i6, b_2⟩, ⟨.bool, b_3⟩, ⟨LI, b_4⟩, ⟨LI, b_5⟩, ⟨.bool, b_6⟩, ⟨LI, b_7⟩, ⟨LI, b_8⟩, ⟨i6, b_9⟩] = (C.eqPs [⟨i6, a_0⟩, ⟨i6, a_1⟩, ⟨i6, a_2⟩, ⟨.bool, a_3⟩, ⟨LI, a_4⟩, ⟨LI, a_5⟩, ⟨.bool, a_6⟩, ⟨LI, a_7⟩, ⟨LI, a_8⟩] [⟨i6, b_0⟩, ⟨i6, b_1⟩, ⟨i6, b_2⟩, ⟨.bool, b_3⟩, ⟨LI, b_4⟩, ⟨LI, b_5⟩, ⟨.bool, b_6⟩, ⟨LI, b_7⟩, ⟨LI, b_8⟩] && (a_9 == b_9)) := by
    simp only [C.eqPs_eq, C0.eqPs_cons, C0.eqPs_nil, C0.eqT_int, C0.eqT_bool, C0.eqT_str, Bool.and_true, Bool.and_assoc] <;> rfl
  rw [hfull]
  refine ok_brT (by rw [Bool.and_eq_true, C.lim_def, C.lim_def]; simp only [C0.szPs_cons, C0.szPs_nil, C0.szT_int, C0.szT_bool] <;> omega) ?_
  refine ok_brC (fun g => ?_) fun g0 => ?_
  · refine ok_ret.mpr ?_
    simp_all
  refine ok_brC (fun g => ?_) fun g9 => ?_
  · refine ok_ret.mpr ?_
    simp_all
  refine ok_ret.mpr ?_
  simp_all
theorem P_w_eqCandidateS (a : List (Int × Int × Int × Bool × (List (Int)) × (List (Int)) × Bool × (List (Int)) × (List (Int)) × Int)) (b : List (Int × Int × Int × Bool × (List (Int)) × (List (Int)) × Bool × (List (Int)) × (List (Int)) × Int)) (h : (C.lim [⟨(.sl (.cons i6 (.cons i6 (.cons i6 (.cons .bool (.cons LI (.cons LI (.cons .bool (.cons LI (.cons LI (.one i6))))))))))), a⟩] && C.lim [⟨(.sl (.cons i6 (.cons i6 (.cons i6 (.cons .bool (.cons LI (.cons LI (.cons .bool (.cons LI (.cons LI (.one i6))))))))))), b⟩]) = true) : Ev (fun n => T_w_eqCandidateS n a b) [[⟨.bool, C.eqPs [⟨(.sl (.cons i6 (.cons i6 (.cons i6 (.cons .bool (.cons LI (.cons LI (.cons .bool (.cons LI (.cons LI (.one i6))))))))))), a⟩] [⟨(.sl (.cons i6 (.cons i6 (.cons i6 (.cons .bool (.cons LI (.cons LI (.cons .bool (.cons LI (.cons LI (.one i6))))))))))), b⟩]⟩]] := by
  rw [Bool.and_eq_true, C.lim_def, C.lim_def] at h
  rw [C0.szPs_cons, C0.szPs_nil, C0.szT_sl, C0.szPs_cons, C0.szPs_nil, C0.szT_sl] at h
  refine Ev.from (a.length + 1) fun n hn => ?_
  have he : C.eqPs [⟨(.sl (.cons i6 (.cons i6 (.cons i6 (.cons .bool (.cons LI (.cons LI (.cons .bool (.cons LI (.cons LI (.one i6))))))))))), a⟩] [⟨(.sl (.cons i6 (.cons i6 (.cons i6 (.cons .bool (.cons LI (.cons LI (.cons .bool (.cons LI (.cons LI (.one i6))))))))))), b⟩] = C0.all2 (C0.eqR (.cons i6 (.cons i6 (.cons i6 (.cons .bool (.cons LI (.cons LI (.cons .bool (.cons LI (.cons LI (.one i6))))))))))) a b := by rw [C.eqPs_eq, C0.eqPs_cons, C0.eqPs_nil, C0.eqT_sl, Bool.and_true]
  rw [he]
  refine ok_brC (fun g => ?_) fun g => ?_
  · rw [ok_ret, all2_len]
    intro hh
    rw [hh] at g
    simp at g
  have hlen : a.length = b.length := by simp at g; omega
  obtain ⟨rr, hr, hrr⟩ := eq_loop (C0.eqR (.cons i6 (.cons i6 (.cons i6 (.cons .bool (.cons LI (.cons LI (.cons .bool (.cons LI (.cons LI (.one i6))))))))))) a b hlen (B := B_w_eqCandidateS_4) (n := n) (by omega) (fun i hi hi' => by
      obtain ⟨hii, hg⟩ := gd_eq hi hi'
      obtain ⟨hjj, hg'⟩ := gd_eq (xs := b) hi (by omega)
      have h1 := C0.szT_split (.cons i6 (.cons i6 (.cons i6 (.cons .bool (.cons LI (.cons LI (.cons .bool (.cons LI (.cons LI (.one i6)))))))))) a i.toNat hii
      have h2 := C0.szT_take (.cons i6 (.cons i6 (.cons i6 (.cons .bool (.cons LI (.cons LI (.cons .bool (.cons LI (.cons LI (.one i6)))))))))) a (i.toNat + 1)
      have h3 := C0.szT_split (.cons i6 (.cons i6 (.cons i6 (.cons .bool (.cons LI (.cons LI (.cons .bool (.cons LI (.cons LI (.one i6)))))))))) b i.toNat hjj
      have h4 := C0.szT_take (.cons i6 (.cons i6 (.cons i6 (.cons .bool (.cons LI (.cons LI (.cons .bool (.cons LI (.cons LI (.one i6)))))))))) b (i.toNat + 1)
      have hz : C0.szPs [⟨i6, (gd a i).1⟩, ⟨i6, (gd a i).2.1⟩, ⟨i6, (gd a i).2.2.1⟩, ⟨.bool, (gd a i).2.2.2.1⟩, ⟨LI, (gd a i).2.2.2.2.1⟩, ⟨LI, (gd a i).2.2.2.2.2.1⟩, ⟨.bool, (gd a i).2.2.2.2.2.2.1⟩, ⟨LI, (gd a i).2.2.2.2.2.2.2.1⟩, ⟨LI, (gd a i).2.2.2.2.2.2.2.2.1⟩, ⟨i6, (gd a i).2.2.2.2.2.2.2.2.2⟩] = C0.szR (.cons i6 (.cons i6 (.cons i6 (.cons .bool (.cons LI (.cons LI (.cons .bool (.cons LI (.cons LI (.one i6)))))))))) (gd a i) := by simp only [C0.szPs_cons, C0.szPs_nil, Nat.add_zero]; rfl
      have hz' : C0.szPs [⟨i6, (gd b i).1⟩, ⟨i6, (gd b i).2.1⟩, ⟨i6, (gd b i).2.2.1⟩, ⟨.bool, (gd b i).2.2.2.1⟩, ⟨LI, (gd b i).2.2.2.2.1⟩, ⟨LI, (gd b i).2.2.2.2.2.1⟩, ⟨.bool, (gd b i).2.2.2.2.2.2.1⟩, ⟨LI, (gd b i).2.2.2.2.2.2.2.1⟩, ⟨LI, (gd b i).2.2.2.2.2.2.2.2.1⟩, ⟨i6, (gd b i).2.2.2.2.2.2.2.2.2⟩] = C0.szR (.cons i6 (.cons i6 (.cons i6 (.cons .bool (.cons LI (.cons LI (.cons .bool (.cons LI (.cons LI (.one i6)))))))))) (gd b i) := by simp only [C0.szPs_cons, C0.szPs_nil, Nat.add_zero]; rfl
      have hq : C.eqPs [⟨i6, (gd a i).1⟩, ⟨i6, (gd a i).2.1⟩, ⟨i6, (gd a i).2.2.1⟩, ⟨.bool, (gd a i).2.2.2.1⟩, ⟨LI, (gd a i).2.2.2.2.1⟩, ⟨LI, (gd a i).2.2.2.2.2.1⟩, ⟨.bool, (gd a i).2.2.2.2.2.2.1⟩, ⟨LI, (gd a i).2.2.2.2.2.2.2.1⟩, ⟨LI, (gd a i).2.2.2.2.2.2.2.2.1⟩, ⟨i6, (gd a i).2.2.2.2.2.2.2.2.2⟩] [⟨i6, (gd b i).1⟩, ⟨i6, (gd b i).2.1⟩, ⟨i6, (gd b i).2.2.1⟩, ⟨.bool, (gd b i).2.2.2.1⟩, ⟨LI, (gd b i).2.2.2.2.1⟩, ⟨LI, (gd b i).2.2.2.2.2.1⟩, ⟨.bool, (gd b i).2.2.2.2.2.2.1⟩, ⟨LI, (gd b i).2.2.2.2.2.2.2.1⟩, ⟨LI, (gd b i).2.2.2.2.2.2.2.2.1⟩, ⟨i6, (gd b i).2.2.2.2.2.2.2.2.2⟩] = C0.eqR (.cons i6 (.cons i6 (.cons i6 (.cons .bool (.cons LI (.cons LI (.cons .bool (.cons LI (.cons LI (.one i6)))))))))) (gd a i) (gd b i) := by rw [C.eqPs_eq]; simp only [C0.eqPs_cons, C0.eqPs_nil, Bool.and_true]; rfl
      refine ok_brT (by simp; omega) (ok_brT (by simp; omega) (ok_brT (by simp; omega) (ok_brT (by rw [Bool.and_eq_true, C.lim_def, C.lim_def, hz, hz', hg, hg']; omega) (ok_brC (fun g => ok_ret.mpr ?_) fun g => ok_ret.mpr ?_))))
      · rw [hq] at g
        rw [if_neg (by simpa using g)]
      · rw [hq] at g
        rw [if_pos (by simpa using g), w64_id (by omega)])
    (fun i hi => ok_brF (by simp; omega) (ok_ret.mpr rfl))
  refine ok_opt hr ?_
  split at hrr
  · rename_i g2; subst hrr; rw [g2]; exact ok_ret.mpr rfl
  · rename_i g2; subst hrr; rw [show C0.all2 (C0.eqR (.cons i6 (.cons i6 (.cons i6 (.cons .bool (.cons LI (.cons LI (.cons .bool (.cons LI (.cons LI (.one i6))))))))))) a b = false from by simpa using g2]; exact ok_ret.mpr rfl
theorem P_w_eqRatS (a : List (Bool × (List (Int)) × (List (Int)))) (b : List (Bool × (List (Int)) × (List (Int)))) (h : (C.lim [⟨(.sl (.cons .bool (.cons LI (.one LI)))), a⟩] && C.lim [⟨(.sl (.cons .bool (.cons LI (.one LI)))), b⟩]) = true) : Ev (fun n => T_w_eqRatS n a b) [[⟨.bool, C.eqPs [⟨(.sl (.cons .bool (.cons LI (.one LI)))), a⟩] [⟨(.sl (.cons .bool (.cons LI (.one LI)))), b⟩]⟩]] := by
  rw [Bool.and_eq_true, C.lim_def, C.lim_def] at h
  rw [C0.szPs_cons, C0.szPs_nil, C0.szT_sl, C0.szPs_cons, C0.szPs_nil, C0.szT_sl] at h
  refine Ev.from (a.length + 1) fun n hn => ?_
  have he : C.eqPs [⟨(.sl (.cons .bool (.cons LI (.one LI)))), a⟩] [⟨(.sl (.cons .bool (.cons LI (.one LI)))), b⟩] = C0.all2 (C0.eqR (.cons .bool (.cons LI (.one LI)))) a b := by rw [C.eqPs_eq, C0.eqPs_cons, C0.eqPs_nil, C0.eqT_sl, Bool.and_true]
  rw [he]
  refine ok_brC (fun g => ?_) fun g => ?_
  · rw [ok_ret, all2_len]
    intro hh
    rw [hh] at g
    simp at g
  have hlen : a.length = b.length := by simp at g; omega
  obtain ⟨rr, hr, hrr⟩ := eq_loop (C0.eqR (.cons .bool (.cons LI (.one LI)))) a b hlen (B := B_w_eqRatS_4) (n := n) (by omega) (fun i hi hi' => by
      obtain ⟨hii, hg⟩ := gd_eq hi hi'
      obtain ⟨hjj, hg'⟩ := gd_eq (xs := b) hi (by omega)
      have h1 := C0.szT_split (.cons .bool (.cons LI (.one LI))) a i.toNat hii
      have h2 := C0.szT_take (.cons .bool (.cons LI (.one LI))) a (i.toNat + 1)
      have h3 := C0.szT_split (.cons .bool (.cons LI (.one LI))) b i.toNat hjj
      have h4 := C0.szT_take (.cons .bool (.cons LI (.one LI))) b (i.toNat + 1)
      have hz : C0.szPs [⟨.bool, (gd a i).1⟩, ⟨LI, (gd a i).2.1⟩, ⟨LI, (gd a i).2.2⟩] = C0.szR (.cons .bool (.cons LI (.one LI))) (gd a i) := by simp only [C0.szPs_cons, C0.szPs_nil, Nat.add_zero]; rfl
      have hz' : C0.szPs [⟨.bool, (gd b i).1⟩, ⟨LI, (gd b i).2.1⟩, ⟨LI, (gd b i).2.2⟩] = C0.szR (.cons .bool (.cons LI (.one LI))) (gd b i) := by simp only [C0.szPs_cons, C0.szPs_nil, Nat.add_zero]; rfl
      have hq : C.eqPs [⟨.bool, (gd a i).1⟩, ⟨LI, (gd a i).2.1⟩, ⟨LI, (gd a i).2.2⟩] [⟨.bool, (gd b i).1⟩, ⟨LI, (gd b i).2.1⟩, ⟨LI, (gd b i).2.2⟩] = C0.eqR (.cons .bool (.cons LI (.one LI))) (gd a i) (gd b i) := by rw [C.eqPs_eq]; simp only [C0.eqPs_cons, C0.eqPs_nil, Bool.and_true]; rfl
      refine ok_brT (by simp; omega) (ok_brT (by simp; omega) (ok_brT (by simp; omega) (ok_brT (by rw [Bool.and_eq_true, C.lim_def, C.lim_def, hz, hz', hg, hg']; omega) (ok_brC (fun g => ok_ret.mpr ?_) fun g => ok_ret.mpr ?_))))
      · rw [hq] at g
        rw [if_neg (by simpa using g)]
      · rw [hq] at g
        rw [if_pos (by simpa using g), w64_id (by omega)])
    (fun i hi => ok_brF (by simp; omega) (ok_ret.mpr rfl))
  refine ok_opt hr ?_
  split at hrr
  · rename_i g2; subst hrr; rw [g2]; exact ok_ret.mpr rfl
  · rename_i g2; subst hrr; rw [show C0.all2 (C0.eqR (.cons .bool (.cons LI (.one LI)))) a b = false from by simpa using g2]; exact ok_ret.mpr rfl
theorem P_w_eqMatrix (a_0 : Int) (a_1 : Int) (a_2 : List (Bool × (List (Int)) × (List (Int)))) (b_0 : Int) (b_1 : Int) (b_2 : List (Bool × (List (Int)) × (List (Int)))) (h : (C.lim [⟨i6, a_0⟩, ⟨i6, a_1⟩, ⟨(.sl (.cons .bool (.cons LI (.one LI)))), a_2⟩] && C.lim [⟨i6, b_0⟩, ⟨i6, b_1⟩, ⟨(.sl (.cons .bool (.cons LI (.one LI)))), b_2⟩]) = true) : Ev (fun n => T_w_eqMatrix n a_0 a_1 a_2 b_0 b_1 b_2) [[⟨.bool, C.eqPs [⟨i6, a_0⟩, ⟨i6, a_1⟩, ⟨(.sl (.cons .bool (.cons LI (.one LI)))), a_2⟩] [⟨i6, b_0⟩, ⟨i6, b_1⟩, ⟨(.sl (.cons .bool (.cons LI (.one LI)))), b_2⟩]⟩]] := by
  rw [Bool.and_eq_true, C.lim_def, C.lim_def] at h
  refine Ev.any fun n => ?_
  simp only [C0.szPs_cons, C0.szPs_nil, C0.szT_int, C0.szT_bool] at h
  have hfull : C.eqPs [⟨i6, a_0⟩, ⟨i6, a_1⟩, ⟨(.sl (.cons .bool (.cons LI (.one LI)))), a_2⟩] [⟨i6, b_0⟩, ⟨i6, b_1⟩, ⟨(.sl (.cons .bool (.cons LI (.one LI)))), b_2⟩] = ((a_0 == b_0) && ((a_1 == b_1) && C.eqPs [⟨(.sl (.cons .bool (.cons LI (.one LI)))), a_2⟩] [⟨(.sl (.cons .bool (.cons LI (.one LI)))), b_2⟩])) := by
    simp only [C.eqPs_eq, C0.eqPs_cons, C0.eqPs_nil, C0.eqT_int, C0.eqT_bool, C0.eqT_str, Bool.and_true, Bool.and_assoc] <;> rfl
  rw [hfull]
  refine ok_brC (fun g => ?_) fun g0 => ?_
  · refine ok_ret.mpr ?_
    simp_all
  refine ok_brC (fun g => ?_) fun g1 => ?_
  · refine ok_ret.mpr ?_
    simp_all
  refine ok_brT (by rw [Bool.and_eq_true, C.lim_def, C.lim_def]; simp only [C0.szPs_cons, C0.szPs_nil, C0.szT_int, C0.szT_bool] <;> omega) ?_
  refine ok_brC (fun g => ?_) fun g2 => ?_
  · refine ok_ret.mpr ?_
    simp_all
  refine ok_ret.mpr ?_
  simp_all
theorem P_w_eqEstimate (a_0 : List (Bool × (List (Int)) × (List (Int)))) (a_1 : Int) (a_2 : Int) (a_3 : List (Bool × (List (Int)) × (List (Int)))) (b_0 : List (Bool × (List (Int)) × (List (Int)))) (b_1 : Int) (b_2 : Int) (b_3 : List (Bool × (List (Int)) × (List (Int)))) (h : (C.lim [⟨(.sl (.cons .bool (.cons LI (.one LI)))), a_0⟩, ⟨i6, a_1⟩, ⟨i6, a_2⟩, ⟨(.sl (.cons .bool (.cons LI (.one LI)))), a_3⟩] && C.lim [⟨(.sl (.cons .bool (.cons LI (.one LI)))), b_0⟩, ⟨i6, b_1⟩, ⟨i6, b_2⟩, ⟨(.sl (.cons .bool (.cons LI (.one LI)))), b_3⟩]) = true) : Ev (fun n => T_w_eqEstimate n a_0 a_1 a_2 a_3 b_0 b_1 b_2 b_3) [[⟨.bool, C.eqPs [⟨(.sl (.cons .bool (.cons LI (.one LI)))), a_0⟩, ⟨i6, a_1⟩, ⟨i6, a_2⟩, ⟨(.sl (.cons .bool (.cons LI (.one LI)))), a_3⟩] [⟨(.sl (.cons .bool (.cons LI (.one LI)))), b_0⟩, ⟨i6, b_1⟩, ⟨i6, b_2⟩, ⟨(.sl (.cons .bool (.cons LI (.one LI)))), b_3⟩]⟩]] := by
  rw [Bool.and_eq_true, C.lim_def, C.lim_def] at h
  refine Ev.any fun n => ?_
  simp only [C0.szPs_cons, C0.szPs_nil, C0.szT_int, C0.szT_bool] at h
  have hfull : C.eqPs [⟨(.sl (.cons .bool (.cons LI (.one LI)))), a_0⟩, ⟨i6, a_1⟩, ⟨i6, a_2⟩, ⟨(.sl (.cons .bool (.cons LI (.one LI)))), a_3⟩] [⟨(.sl (.cons .bool (.cons LI (.one LI)))), b_0⟩, ⟨i6, b_1⟩, ⟨i6, b_2⟩, ⟨(.sl (.cons .bool (.cons LI (.one LI)))), b_3⟩] = (C.eqPs [⟨(.sl (.cons .bool (.cons LI (.one LI)))), a_0⟩] [⟨(.sl (.cons .bool (.cons LI (.one LI)))), b_0⟩] && C.eqPs [⟨i6, a_1⟩, ⟨i6, a_2⟩, ⟨(.sl (.cons .bool (.cons LI (.one LI)))), a_3⟩] [⟨i6, b_1⟩, ⟨i6, b_2⟩, ⟨(.sl (.cons .bool (.cons LI (.one LI)))), b_3⟩]) := by
    simp only [C.eqPs_eq, C0.eqPs_cons, C0.eqPs_nil, C0.eqT_int, C0.eqT_bool, C0.eqT_str, Bool.and_true, Bool.and_assoc] <;> rfl
  rw [hfull]
  refine ok_brT (by rw [Bool.and_eq_true, C.lim_def, C.lim_def]; simp only [C0.szPs_cons, C0.szPs_nil, C0.szT_int, C0.szT_bool] <;> omega) ?_
  refine ok_brC (fun g => ?_) fun g0 => ?_
  · refine ok_ret.mpr ?_
    simp_all
  refine ok_brT (by rw [Bool.and_eq_true, C.lim_def, C.lim_def]; simp only [C0.szPs_cons, C0.szPs_nil, C0.szT_int, C0.szT_bool] <;> omega) ?_
  refine ok_brC (fun g => ?_) fun g1 => ?_
  · refine ok_ret.mpr ?_
    simp_all
  refine ok_ret.mpr ?_
  simp_all
theorem P_i_sameInts (a : List (Int)) (b : List (Int)) (h : (C.lim [⟨LI, a⟩] && C.lim [⟨LI, b⟩]) = true) : Ev (fun n => T_i_sameInts n a b) [[⟨.bool, C.eqPs [⟨LI, a⟩] [⟨LI, b⟩]⟩]] := by
  rw [Bool.and_eq_true, C.lim_def, C.lim_def] at h
  rw [C0.szPs_cons, C0.szPs_nil, C0.szT_sl, C0.szPs_cons, C0.szPs_nil, C0.szT_sl] at h
  refine Ev.from (a.length + 1) fun n hn => ?_
  have he : C.eqPs [⟨LI, a⟩] [⟨LI, b⟩] = C0.all2 (C0.eqR (.one i6)) a b := by rw [C.eqPs_eq, C0.eqPs_cons, C0.eqPs_nil, C0.eqT_sl, Bool.and_true]
  rw [he]
  refine ok_brC (fun g => ?_) fun g => ?_
  · rw [ok_ret, all2_len]
    intro hh
    rw [hh] at g
    simp at g
  have hlen : a.length = b.length := by simp at g; omega
  obtain ⟨rr, hr, hrr⟩ := eq_loop2 (C0.eqR (.one i6)) a b hlen (B := B_i_sameInts_4) (n := n) (by omega) (fun i hi hi' => by
      refine ok_brT (by simp; omega) (ok_brT (by simp; omega) (ok_brT (by simp; omega) (ok_brC (fun g => ok_ret.mpr ?_) fun g => ok_ret.mpr ?_)))
      · rw [if_neg (by rw [C0.eqR_one]; simp only [C0.eqT_int]; simpa using g)]
      · rw [if_pos (by rw [C0.eqR_one]; simp only [C0.eqT_int]; simpa using g), w64_id (by omega)])
    (fun i hi => ok_brF (by simp; omega) (ok_ret.mpr rfl))
  refine ok_opt hr ?_
  split at hrr
  · rename_i g2; subst hrr; rw [g2]; exact ok_ret.mpr rfl
  · rename_i g2; subst hrr; rw [show C0.all2 (C0.eqR (.one i6)) a b = false from by simpa using g2]; exact ok_ret.mpr rfl
theorem P_s_l04List (a : List (Int)) (b : List (Int)) (h : (C.lim [⟨LI, a⟩] && C.lim [⟨LI, b⟩]) = true) : Ev (fun n => T_s_l04List n a b) [[⟨.bool, C.eqPs [⟨LI, a⟩] [⟨LI, b⟩]⟩]] := by
  rw [Bool.and_eq_true, C.lim_def, C.lim_def] at h
  rw [C0.szPs_cons, C0.szPs_nil, C0.szT_sl, C0.szPs_cons, C0.szPs_nil, C0.szT_sl] at h
  refine Ev.from (a.length + 1) fun n hn => ?_
  have he : C.eqPs [⟨LI, a⟩] [⟨LI, b⟩] = C0.all2 (C0.eqR (.one i6)) a b := by rw [C.eqPs_eq, C0.eqPs_cons, C0.eqPs_nil, C0.eqT_sl, Bool.and_true]
  rw [he]
  refine ok_brC (fun g => ?_) fun g => ?_
  · rw [ok_ret, all2_len]
    intro hh
    rw [hh] at g
    simp at g
  have hlen : a.length = b.length := by simp at g; omega
  obtain ⟨rr, hr, hrr⟩ := eq_loop2 (C0.eqR (.one i6)) a b hlen (B := B_s_l04List_4) (n := n) (by omega) (fun i hi hi' => by
      refine ok_brT (by simp; omega) (ok_brT (by simp; omega) (ok_brT (by simp; omega) (ok_brC (fun g => ok_ret.mpr ?_) fun g => ok_ret.mpr ?_)))
      · rw [if_neg (by rw [C0.eqR_one]; simp only [C0.eqT_int]; simpa using g)]
      · rw [if_pos (by rw [C0.eqR_one]; simp only [C0.eqT_int]; simpa using g), w64_id (by omega)])
    (fun i hi => ok_brF (by simp; omega) (ok_ret.mpr rfl))
  refine ok_opt hr ?_
  split at hrr
  · rename_i g2; subst hrr; rw [g2]; exact ok_ret.mpr rfl
  · rename_i g2; subst hrr; rw [show C0.all2 (C0.eqR (.one i6)) a b = false from by simpa using g2]; exact ok_ret.mpr rfl
theorem P_i_RatEqual (a_0 : Bool) (a_1 : List (Int)) (a_2 : List (Int)) (b_0 : Bool) (b_1 : List (Int)) (b_2 : List (Int)) (h : (C.lim [⟨.bool, a_0⟩, ⟨LI, a_1⟩, ⟨LI, a_2⟩] && C.lim [⟨.bool, b_0⟩, ⟨LI, b_1⟩, ⟨LI, b_2⟩]) = true) : Ev (fun n => T_i_RatEqual n a_0 a_1 a_2 b_0 b_1 b_2) [[⟨.bool, C.eqPs [⟨.bool, a_0⟩, ⟨LI, a_1⟩, ⟨LI, a_2⟩] [⟨.bool, b_0⟩, ⟨LI, b_1⟩, ⟨LI, b_2⟩]⟩]] := by
  rw [Bool.and_eq_true, C.lim_def, C.lim_def] at h
  refine Ev.any fun n => ?_
  simp only [C0.szPs_cons, C0.szPs_nil, C0.szT_int, C0.szT_bool] at h
  have hfull : C.eqPs [⟨.bool, a_0⟩, ⟨LI, a_1⟩, ⟨LI, a_2⟩] [⟨.bool, b_0⟩, ⟨LI, b_1⟩, ⟨LI, b_2⟩] = ((a_0 == b_0) && (C.eqPs [⟨LI, a_1⟩] [⟨LI, b_1⟩] && C.eqPs [⟨LI, a_2⟩] [⟨LI, b_2⟩])) := by
    simp only [C.eqPs_eq, C0.eqPs_cons, C0.eqPs_nil, C0.eqT_int, C0.eqT_bool, C0.eqT_str, Bool.and_true, Bool.and_assoc] <;> rfl
  rw [hfull]
  refine ok_brC (fun g0 => ?_) fun g => ?_
  rotate_left
  · refine ok_ret.mpr ?_
    simp_all
  refine ok_brT (by rw [Bool.and_eq_true, C.lim_def, C.lim_def]; simp only [C0.szPs_cons, C0.szPs_nil, C0.szT_int, C0.szT_bool] <;> omega) ?_
  refine ok_brC (fun g1 => ?_) fun g => ?_
  rotate_left
  · refine ok_ret.mpr ?_
    simp_all
  refine ok_brT (by rw [Bool.and_eq_true, C.lim_def, C.lim_def]; simp only [C0.szPs_cons, C0.szPs_nil, C0.szT_int, C0.szT_bool] <;> omega) ?_
  refine ok_ret.mpr ?_
  simp_all
theorem P_s_RatEqual (a_0 : Bool) (a_1 : List (Int)) (a_2 : List (Int)) (b_0 : Bool) (b_1 : List (Int)) (b_2 : List (Int)) (h : (C.lim [⟨.bool, a_0⟩, ⟨LI, a_1⟩, ⟨LI, a_2⟩] && C.lim [⟨.bool, b_0⟩, ⟨LI, b_1⟩, ⟨LI, b_2⟩]) = true) : Ev (fun n => T_s_RatEqual n a_0 a_1 a_2 b_0 b_1 b_2) [[⟨.bool, C.eqPs [⟨.bool, a_0⟩, ⟨LI, a_1⟩, ⟨LI, a_2⟩] [⟨.bool, b_0⟩, ⟨LI, b_1⟩, ⟨LI, b_2⟩]⟩]] := by
  rw [Bool.and_eq_true, C.lim_def, C.lim_def] at h
  refine Ev.any fun n => ?_
  simp only [C0.szPs_cons, C0.szPs_nil, C0.szT_int, C0.szT_bool] at h
  have hfull : C.eqPs [⟨.bool, a_0⟩, ⟨LI, a_1⟩, ⟨LI, a_2⟩] [⟨.bool, b_0⟩, ⟨LI, b_1⟩, ⟨LI, b_2⟩] = ((a_0 == b_0) && (C.eqPs [⟨LI, a_1⟩] [⟨LI, b_1⟩] && C.eqPs [⟨LI, a_2⟩] [⟨LI, b_2⟩])) := by
    simp only [C.eqPs_eq, C0.eqPs_cons, C0.eqPs_nil, C0.eqT_int, C0.eqT_bool, C0.eqT_str, Bool.and_true, Bool.and_assoc] <;> rfl
  rw [hfull]
  refine ok_brC (fun g0 => ?_) fun g => ?_
  rotate_left
  · refine ok_ret.mpr ?_
    simp_all
  refine ok_brT (by rw [Bool.and_eq_true, C.lim_def, C.lim_def]; simp only [C0.szPs_cons, C0.szPs_nil, C0.szT_int, C0.szT_bool] <;> omega) ?_
  refine ok_brC (fun g1 => ?_) fun g => ?_
  rotate_left
  · refine ok_ret.mpr ?_
    simp_all
  refine ok_brT (by rw [Bool.and_eq_true, C.lim_def, C.lim_def]; simp only [C0.szPs_cons, C0.szPs_nil, C0.szT_int, C0.szT_bool] <;> omega) ?_
  refine ok_ret.mpr ?_
  simp_all
theorem P_i_EqualVectors (a : List (Bool × (List (Int)) × (List (Int)))) (b : List (Bool × (List (Int)) × (List (Int)))) (h : (C.lim [⟨(.sl (.cons .bool (.cons LI (.one LI)))), a⟩] && C.lim [⟨(.sl (.cons .bool (.cons LI (.one LI)))), b⟩]) = true) : Ev (fun n => T_i_EqualVectors n a b) [[⟨.bool, C.eqPs [⟨(.sl (.cons .bool (.cons LI (.one LI)))), a⟩] [⟨(.sl (.cons .bool (.cons LI (.one LI)))), b⟩]⟩]] := by
  rw [Bool.and_eq_true, C.lim_def, C.lim_def] at h
  rw [C0.szPs_cons, C0.szPs_nil, C0.szT_sl, C0.szPs_cons, C0.szPs_nil, C0.szT_sl] at h
  refine Ev.from (a.length + 1) fun n hn => ?_
  have he : C.eqPs [⟨(.sl (.cons .bool (.cons LI (.one LI)))), a⟩] [⟨(.sl (.cons .bool (.cons LI (.one LI)))), b⟩] = C0.all2 (C0.eqR (.cons .bool (.cons LI (.one LI)))) a b := by rw [C.eqPs_eq, C0.eqPs_cons, C0.eqPs_nil, C0.eqT_sl, Bool.and_true]
  rw [he]
  refine ok_brC (fun g => ?_) fun g => ?_
  · rw [ok_ret, all2_len]
    intro hh
    rw [hh] at g
    simp at g
  have hlen : a.length = b.length := by simp at g; omega
  obtain ⟨rr, hr, hrr⟩ := eq_loop2 (C0.eqR (.cons .bool (.cons LI (.one LI)))) a b hlen (B := B_i_EqualVectors_4) (n := n) (by omega) (fun i hi hi' => by
      obtain ⟨hii, hg⟩ := gd_eq hi hi'
      obtain ⟨hjj, hg'⟩ := gd_eq (xs := b) hi (by omega)
      have h1 := C0.szT_split (.cons .bool (.cons LI (.one LI))) a i.toNat hii
      have h2 := C0.szT_take (.cons .bool (.cons LI (.one LI))) a (i.toNat + 1)
      have h3 := C0.szT_split (.cons .bool (.cons LI (.one LI))) b i.toNat hjj
      have h4 := C0.szT_take (.cons .bool (.cons LI (.one LI))) b (i.toNat + 1)
      have hz : C0.szPs [⟨.bool, (gd a i).1⟩, ⟨LI, (gd a i).2.1⟩, ⟨LI, (gd a i).2.2⟩] = C0.szR (.cons .bool (.cons LI (.one LI))) (gd a i) := by simp only [C0.szPs_cons, C0.szPs_nil, Nat.add_zero]; rfl
      have hz' : C0.szPs [⟨.bool, (gd b i).1⟩, ⟨LI, (gd b i).2.1⟩, ⟨LI, (gd b i).2.2⟩] = C0.szR (.cons .bool (.cons LI (.one LI))) (gd b i) := by simp only [C0.szPs_cons, C0.szPs_nil, Nat.add_zero]; rfl
      have hq : C.eqPs [⟨.bool, (gd a i).1⟩, ⟨LI, (gd a i).2.1⟩, ⟨LI, (gd a i).2.2⟩] [⟨.bool, (gd b i).1⟩, ⟨LI, (gd b i).2.1⟩, ⟨LI, (gd b i).2.2⟩] = C0.eqR (.cons .bool (.cons LI (.one LI))) (gd a i) (gd b i) := by rw [C.eqPs_eq]; simp only [C0.eqPs_cons, C0.eqPs_nil, Bool.and_true]; rfl
      refine ok_brT (by simp; omega) (ok_brT (by simp; omega) (ok_brT (by simp; omega) (ok_brT (by rw [Bool.and_eq_true, C.lim_def, C.lim_def, hz, hz', hg, hg']; omega) (ok_brC (fun g => ok_ret.mpr ?_) fun g => ok_ret.mpr ?_))))
      · rw [hq] at g
        rw [if_neg (by simpa using g)]
      · rw [hq] at g
        rw [if_pos (by simpa using g), w64_id (by omega)])
    (fun i hi => ok_brF (by simp; omega) (ok_ret.mpr rfl))
  refine ok_opt hr ?_
  split at hrr
  · rename_i g2; subst hrr; rw [g2]; exact ok_ret.mpr rfl
  · rename_i g2; subst hrr; rw [show C0.all2 (C0.eqR (.cons .bool (.cons LI (.one LI)))) a b = false from by simpa using g2]; exact ok_ret.mpr rfl
theorem P_s_EqualVectors (a : List (Bool × (List (Int)) × (List (Int)))) (b : List (Bool × (List (Int)) × (List (Int)))) (h : (C.lim [⟨(.sl (.cons .bool (.cons LI (.one LI)))), a⟩] && C.lim [⟨(.sl (.cons .bool (.cons LI (.one LI)))), b⟩]) = true) : Ev (fun n => T_s_EqualVectors n a b) [[⟨.bool, C.eqPs [⟨(.sl (.cons .bool (.cons LI (.one LI)))), a⟩] [⟨(.sl (.cons .bool (.cons LI (.one LI)))), b⟩]⟩]] := by
  rw [Bool.and_eq_true, C.lim_def, C.lim_def] at h
  rw [C0.szPs_cons, C0.szPs_nil, C0.szT_sl, C0.szPs_cons, C0.szPs_nil, C0.szT_sl] at h
  refine Ev.from (a.length + 1) fun n hn => ?_
  have he : C.eqPs [⟨(.sl (.cons .bool (.cons LI (.one LI)))), a⟩] [⟨(.sl (.cons .bool (.cons LI (.one LI)))), b⟩] = C0.all2 (C0.eqR (.cons .bool (.cons LI (.one LI)))) a b := by rw [C.eqPs_eq, C0.eqPs_cons, C0.eqPs_nil, C0.eqT_sl, Bool.and_true]
  rw [he]
  refine ok_brC (fun g => ?_) fun g => ?_
  · rw [ok_ret, all2_len]
    intro hh
    rw [hh] at g
    simp at g
  have hlen : a.length = b.length := by simp at g; omega
  obtain ⟨rr, hr, hrr⟩ := eq_loop3 (C0.eqR (.cons .bool (.cons LI (.one LI)))) a b hlen (B := B_s_EqualVectors_4) (n := n) (by omega) (fun i hi hi' => by
      obtain ⟨hii, hg⟩ := gd_eq hi hi'
      obtain ⟨hjj, hg'⟩ := gd_eq (xs := b) hi (by omega)
      have h1 := C0.szT_split (.cons .bool (.cons LI (.one LI))) a i.toNat hii
      have h2 := C0.szT_take (.cons .bool (.cons LI (.one LI))) a (i.toNat + 1)
      have h3 := C0.szT_split (.cons .bool (.cons LI (.one LI))) b i.toNat hjj
      have h4 := C0.szT_take (.cons .bool (.cons LI (.one LI))) b (i.toNat + 1)
      have hz : C0.szPs [⟨.bool, (gd a i).1⟩, ⟨LI, (gd a i).2.1⟩, ⟨LI, (gd a i).2.2⟩] = C0.szR (.cons .bool (.cons LI (.one LI))) (gd a i) := by simp only [C0.szPs_cons, C0.szPs_nil, Nat.add_zero]; rfl
      have hz' : C0.szPs [⟨.bool, (gd b i).1⟩, ⟨LI, (gd b i).2.1⟩, ⟨LI, (gd b i).2.2⟩] = C0.szR (.cons .bool (.cons LI (.one LI))) (gd b i) := by simp only [C0.szPs_cons, C0.szPs_nil, Nat.add_zero]; rfl
      have hq : C.eqPs [⟨.bool, (gd a i).1⟩, ⟨LI, (gd a i).2.1⟩, ⟨LI, (gd a i).2.2⟩] [⟨.bool, (gd b i).1⟩, ⟨LI, (gd b i).2.1⟩, ⟨LI, (gd b i).2.2⟩] = C0.eqR (.cons .bool (.cons LI (.one LI))) (gd a i) (gd b i) := by rw [C.eqPs_eq]; simp only [C0.eqPs_cons, C0.eqPs_nil, Bool.and_true]; rfl
      refine ok_brT (by simp; omega) (ok_brT (by simp; omega) (ok_brT (by simp; omega) (ok_brT (by rw [Bool.and_eq_true, C.lim_def, C.lim_def, hz, hz', hg, hg']; omega) (ok_brC (fun g => ok_ret.mpr ?_) fun g => ok_ret.mpr ?_))))
      · rw [hq] at g
        rw [if_neg (by simpa using g)]
      · rw [hq] at g
        rw [if_pos (by simpa using g), w64_id (by omega)])
    (fun i hi => ok_brF (by simp; omega) (ok_ret.mpr rfl))
  refine ok_opt hr ?_
  split at hrr
  · rename_i g2; subst hrr; rw [g2]; exact ok_ret.mpr rfl
  · rename_i g2; subst hrr; rw [show C0.all2 (C0.eqR (.cons .bool (.cons LI (.one LI)))) a b = false from by simpa using g2]; exact ok_ret.mpr rfl
theorem P_i_EqualMatrices (a_0 : Int) (a_1 : Int) (a_2 : List (Bool × (List (Int)) × (List (Int)))) (b_0 : Int) (b_1 : Int) (b_2 : List (Bool × (List (Int)) × (List (Int)))) (h : (C.lim [⟨i6, a_0⟩, ⟨i6, a_1⟩, ⟨(.sl (.cons .bool (.cons LI (.one LI)))), a_2⟩] && C.lim [⟨i6, b_0⟩, ⟨i6, b_1⟩, ⟨(.sl (.cons .bool (.cons LI (.one LI)))), b_2⟩]) = true) : Ev (fun n => T_i_EqualMatrices n a_0 a_1 a_2 b_0 b_1 b_2) [[⟨.bool, C.eqPs [⟨i6, a_0⟩, ⟨i6, a_1⟩, ⟨(.sl (.cons .bool (.cons LI (.one LI)))), a_2⟩] [⟨i6, b_0⟩, ⟨i6, b_1⟩, ⟨(.sl (.cons .bool (.cons LI (.one LI)))), b_2⟩]⟩]] := by
  rw [Bool.and_eq_true, C.lim_def, C.lim_def] at h
  refine Ev.any fun n => ?_
  simp only [C0.szPs_cons, C0.szPs_nil, C0.szT_int, C0.szT_bool] at h
  have hfull : C.eqPs [⟨i6, a_0⟩, ⟨i6, a_1⟩, ⟨(.sl (.cons .bool (.cons LI (.one LI)))), a_2⟩] [⟨i6, b_0⟩, ⟨i6, b_1⟩, ⟨(.sl (.cons .bool (.cons LI (.one LI)))), b_2⟩] = ((a_0 == b_0) && ((a_1 == b_1) && C.eqPs [⟨(.sl (.cons .bool (.cons LI (.one LI)))), a_2⟩] [⟨(.sl (.cons .bool (.cons LI (.one LI)))), b_2⟩])) := by
    simp only [C.eqPs_eq, C0.eqPs_cons, C0.eqPs_nil, C0.eqT_int, C0.eqT_bool, C0.eqT_str, Bool.and_true, Bool.and_assoc] <;> rfl
  rw [hfull]
  refine ok_brC (fun g0 => ?_) fun g => ?_
  rotate_left
  · refine ok_ret.mpr ?_
    simp_all
  refine ok_brC (fun g1 => ?_) fun g => ?_
  rotate_left
  · refine ok_ret.mpr ?_
    simp_all
  refine ok_brT (by rw [Bool.and_eq_true, C.lim_def, C.lim_def]; simp only [C0.szPs_cons, C0.szPs_nil, C0.szT_int, C0.szT_bool] <;> omega) ?_
  refine ok_ret.mpr ?_
  simp_all
theorem P_s_EqualMatrices (a_0 : Int) (a_1 : Int) (a_2 : List (Bool × (List (Int)) × (List (Int)))) (b_0 : Int) (b_1 : Int) (b_2 : List (Bool × (List (Int)) × (List (Int)))) (h : (C.lim [⟨i6, a_0⟩, ⟨i6, a_1⟩, ⟨(.sl (.cons .bool (.cons LI (.one LI)))), a_2⟩] && C.lim [⟨i6, b_0⟩, ⟨i6, b_1⟩, ⟨(.sl (.cons .bool (.cons LI (.one LI)))), b_2⟩]) = true) : Ev (fun n => T_s_EqualMatrices n a_0 a_1 a_2 b_0 b_1 b_2) [[⟨.bool, C.eqPs [⟨i6, a_0⟩, ⟨i6, a_1⟩, ⟨(.sl (.cons .bool (.cons LI (.one LI)))), a_2⟩] [⟨i6, b_0⟩, ⟨i6, b_1⟩, ⟨(.sl (.cons .bool (.cons LI (.one LI)))), b_2⟩]⟩]] := by
  rw [Bool.and_eq_true, C.lim_def, C.lim_def] at h
  refine Ev.any fun n => ?_
  simp only [C0.szPs_cons, C0.szPs_nil, C0.szT_int, C0.szT_bool] at h
  have hfull : C.eqPs [⟨i6, a_0⟩, ⟨i6, a_1⟩, ⟨(.sl (.cons .bool (.cons LI (.one LI)))), a_2⟩] [⟨i6, b_0⟩, ⟨i6, b_1⟩, ⟨(.sl (.cons .bool (.cons LI (.one LI)))), b_2⟩] = ((a_0 == b_0) && ((a_1 == b_1) && C.eqPs [⟨(.sl (.cons .bool (.cons LI (.one LI)))), a_2⟩] [⟨(.sl (.cons .bool (.cons LI (.one LI)))), b_2⟩])) := by
    simp only [C.eqPs_eq, C0.eqPs_cons, C0.eqPs_nil, C0.eqT_int, C0.eqT_bool, C0.eqT_str, Bool.and_true, Bool.and_assoc] <;> rfl
  rw [hfull]
  refine ok_brC (fun g0 => ?_) fun g => ?_
  rotate_left
  · refine ok_ret.mpr ?_
    simp_all
  refine ok_brC (fun g1 => ?_) fun g => ?_
  rotate_left
  · refine ok_ret.mpr ?_
    simp_all
  refine ok_brT (by rw [Bool.and_eq_true, C.lim_def, C.lim_def]; simp only [C0.szPs_cons, C0.szPs_nil, C0.szT_int, C0.szT_bool] <;> omega) ?_
  refine ok_ret.mpr ?_
  simp_all
theorem P_i_SameEstimates (a_0 : List (Bool × (List (Int)) × (List (Int)))) (a_1 : Int) (a_2 : Int) (a_3 : List (Bool × (List (Int)) × (List (Int)))) (b_0 : List (Bool × (List (Int)) × (List (Int)))) (b_1 : Int) (b_2 : Int) (b_3 : List (Bool × (List (Int)) × (List (Int)))) (h : (C.lim [⟨(.sl (.cons .bool (.cons LI (.one LI)))), a_0⟩, ⟨i6, a_1⟩, ⟨i6, a_2⟩, ⟨(.sl (.cons .bool (.cons LI (.one LI)))), a_3⟩] && C.lim [⟨(.sl (.cons .bool (.cons LI (.one LI)))), b_0⟩, ⟨i6, b_1⟩, ⟨i6, b_2⟩, ⟨(.sl (.cons .bool (.cons LI (.one LI)))), b_3⟩]) = true) : Ev (fun n => T_i_SameEstimates n a_0 a_1 a_2 a_3 b_0 b_1 b_2 b_3) [[⟨.bool, C.eqPs [⟨(.sl (.cons .bool (.cons LI (.one LI)))), a_0⟩, ⟨i6, a_1⟩, ⟨i6, a_2⟩, ⟨(.sl (.cons .bool (.cons LI (.one LI)))), a_3⟩] [⟨(.sl (.cons .bool (.cons LI (.one LI)))), b_0⟩, ⟨i6, b_1⟩, ⟨i6, b_2⟩, ⟨(.sl (.cons .bool (.cons LI (.one LI)))), b_3⟩]⟩]] := by
  rw [Bool.and_eq_true, C.lim_def, C.lim_def] at h
  refine Ev.any fun n => ?_
  simp only [C0.szPs_cons, C0.szPs_nil, C0.szT_int, C0.szT_bool] at h
  have hfull : C.eqPs [⟨(.sl (.cons .bool (.cons LI (.one LI)))), a_0⟩, ⟨i6, a_1⟩, ⟨i6, a_2⟩, ⟨(.sl (.cons .bool (.cons LI (.one LI)))), a_3⟩] [⟨(.sl (.cons .bool (.cons LI (.one LI)))), b_0⟩, ⟨i6, b_1⟩, ⟨i6, b_2⟩, ⟨(.sl (.cons .bool (.cons LI (.one LI)))), b_3⟩] = (C.eqPs [⟨(.sl (.cons .bool (.cons LI (.one LI)))), a_0⟩] [⟨(.sl (.cons .bool (.cons LI (.one LI)))), b_0⟩] && C.eqPs [⟨i6, a_1⟩, ⟨i6, a_2⟩, ⟨(.sl (.cons .bool (.cons LI (.one LI)))), a_3⟩] [⟨i6, b_1⟩, ⟨i6, b_2⟩, ⟨(.sl (.cons .bool (.cons LI (.one LI)))), b_3⟩]) := by
    simp only [C.eqPs_eq, C0.eqPs_cons, C0.eqPs_nil, C0.eqT_int, C0.eqT_bool, C0.eqT_str, Bool.and_true, Bool.and_assoc] <;> rfl
  rw [hfull]
  refine ok_brT (by rw [Bool.and_eq_true, C.lim_def, C.lim_def]; simp only [C0.szPs_cons, C0.szPs_nil, C0.szT_int, C0.szT_bool] <;> omega) ?_
  refine ok_brC (fun g0 => ?_) fun g => ?_
  rotate_left
  · refine ok_ret.mpr ?_
    simp_all
  refine ok_brT (by rw [Bool.and_eq_true, C.lim_def, C.lim_def]; simp only [C0.szPs_cons, C0.szPs_nil, C0.szT_int, C0.szT_bool] <;> omega) ?_
  refine ok_ret.mpr ?_
  simp_all
theorem P_s_SameEstimates (a_0 : List (Bool × (List (Int)) × (List (Int)))) (a_1 : Int) (a_2 : Int) (a_3 : List (Bool × (List (Int)) × (List (Int)))) (b_0 : List (Bool × (List (Int)) × (List (Int)))) (b_1 : Int) (b_2 : Int) (b_3 : List (Bool × (List (Int)) × (List (Int)))) (h : (C.lim [⟨(.sl (.cons .bool (.cons LI (.one LI)))), a_0⟩, ⟨i6, a_1⟩, ⟨i6, a_2⟩, ⟨(.sl (.cons .bool (.cons LI (.one LI)))), a_3⟩] && C.lim [⟨(.sl (.cons .bool (.cons LI (.one LI)))), b_0⟩, ⟨i6, b_1⟩, ⟨i6, b_2⟩, ⟨(.sl (.cons .bool (.cons LI (.one LI)))), b_3⟩]) = true) : Ev (fun n => T_s_SameEstimates n a_0 a_1 a_2 a_3 b_0 b_1 b_2 b_3) [[⟨.bool, C.eqPs [⟨(.sl (.cons .bool (.cons LI (.one LI)))), a_0⟩, ⟨i6, a_1⟩, ⟨i6, a_2⟩, ⟨(.sl (.cons .bool (.cons LI (.one LI)))), a_3⟩] [⟨(.sl (.cons .bool (.cons LI (.one LI)))), b_0⟩, ⟨i6, b_1⟩, ⟨i6, b_2⟩, ⟨(.sl (.cons .bool (.cons LI (.one LI)))), b_3⟩]⟩]] := by
  rw [Bool.and_eq_true, C.lim_def, C.lim_def] at h
  refine Ev.any fun n => ?_
  simp only [C0.szPs_cons, C0.szPs_nil, C0.szT_int, C0.szT_bool] at h
  have hfull : C.eqPs [⟨(.sl (.cons .bool (.cons LI (.one LI)))), a_0⟩, ⟨i6, a_1⟩, ⟨i6, a_2⟩, ⟨(.sl (.cons .bool (.cons LI (.one LI)))), a_3⟩] [⟨(.sl (.cons .bool (.cons LI (.one LI)))), b_0⟩, ⟨i6, b_1⟩, ⟨i6, b_2⟩, ⟨(.sl (.cons .bool (.cons LI (.one LI)))), b_3⟩] = (C.eqPs [⟨(.sl (.cons .bool (.cons LI (.one LI)))), a_0⟩] [⟨(.sl (.cons .bool (.cons LI (.one LI)))), b_0⟩] && C.eqPs [⟨i6, a_1⟩, ⟨i6, a_2⟩, ⟨(.sl (.cons .bool (.cons LI (.one LI)))), a_3⟩] [⟨i6, b_1⟩, ⟨i6, b_2⟩, ⟨(.sl (.cons .bool (.cons LI (.one LI)))), b_3⟩]) := by
    simp only [C.eqPs_eq, C0.eqPs_cons, C0.eqPs_nil, C0.eqT_int, C0.eqT_bool, C0.eqT_str, Bool.and_true, Bool.and_assoc] <;> rfl
  rw [hfull]
  refine ok_brT (by rw [Bool.and_eq_true, C.lim_def, C.lim_def]; simp only [C0.szPs_cons, C0.szPs_nil, C0.szT_int, C0.szT_bool] <;> omega) ?_
  refine ok_brC (fun g0 => ?_) fun g => ?_
  rotate_left
  · refine ok_ret.mpr ?_
    simp_all
  refine ok_brT (by rw [Bool.and_eq_true, C.lim_def, C.lim_def]; simp only [C0.szPs_cons, C0.szPs_nil, C0.szT_int, C0.szT_bool] <;> omega) ?_
  refine ok_ret.mpr ?_
  simp_all
end
section
open Go Go.AM
set_option linter.unusedVariables false
set_option linter.unusedSimpArgs false
set_option maxRecDepth 100000
theorem P_s_l01In (n0 lo hi : Int) (h : true = true) : Ev (fun n => T_s_l01In n n0 lo hi) [[⟨LB, decide (lo ≤ n0) && decide (n0 ≤ hi)⟩]] := by
  refine Ev.any fun n => ?_
  unfold T_s_l01In
  by_cases h1 : lo ≤ n0
  · simp [ok_br, ok_ret, h1]
  · simp [ok_br, ok_ret, h1]
theorem planCost_step (xs : List DCand) (set : List Int) (i : Nat) (h : i < set.length) : C0.planCost xs (set.take (i + 1)) = C0.planCost xs (set.take i) + C0.costAt xs set[i] := by
  unfold C0.planCost
  rw [← List.take_append_getElem h, List.map_append, List.sum_append]; simp
theorem costAt_le (xs : List DCand) (k : Int) : 0 ≤ C0.costAt xs k ∧ C0.costAt xs k ≤ 1000 := by
  unfold C0.costAt
  split <;> omega
theorem planCost_le (xs : List DCand) (set : List Int) : ∀ i : Nat, i ≤ set.length → 0 ≤ C0.planCost xs (set.take i) ∧ C0.planCost xs (set.take i) ≤ 1000 * i
  | 0, _ => by simp [C0.planCost]
  | i + 1, h => by
    have ih := planCost_le xs set i (by omega)
    have := costAt_le xs set[i]
    rw [planCost_step xs set i (by omega)]; omega
theorem plan_loop (xs : List DCand) (set : List Int) (hs : set.length ≤ 1048576) {B : Nat → (List DCand × Int × List Int × Int × Int) → Tr ((List DCand × Int × List Int × Int × Int) ⊕ Int)} {n : Nat} (hn : set.length < n)
    (hB : ∀ i s, 0 ≤ i → i < (set.length : Int) → 0 ≤ s → s ≤ 1000 * i → (B n (xs, s, set, (set.length : Int), i)).ok fun y => y = .inl (xs, s + C0.costAt xs (gd set i), set, (set.length : Int), i + 1))
    (hE : ∀ i s, (set.length : Int) ≤ i → (B n (xs, s, set, (set.length : Int), i)).ok fun y => y = .inr s) : it B n (xs, 0, set, (set.length : Int), 0) = some (C0.planCost xs set) := by
  obtain ⟨rr, h1, h2⟩ := it_rule (B := B) (n := n) (fun s => s.1 = xs ∧ s.2.2.1 = set ∧ s.2.2.2.1 = (set.length : Int) ∧ 0 ≤ s.2.2.2.2 ∧ s.2.2.2.2 ≤ (set.length : Int) ∧ s.2.1 = C0.planCost xs (set.take s.2.2.2.2.toNat)) (fun s => ((set.length : Int) - s.2.2.2.2).toNat) (fun rr => rr = C0.planCost xs set) (by
    rintro ⟨ys, s, set', L, i⟩ ⟨e0, e1, e2, h1, h2, h3⟩
    simp only at e0 e1 e2 h1 h2 h3 ⊢
    subst e0 e1 e2
    have hle := planCost_le ys set' i.toNat (by omega)
    rcases Int.lt_or_le i (set'.length : Int) with h | h
    · refine (hB i s h1 h (by omega) (by omega)).mono fun y hy => ?_
      subst hy
      obtain ⟨hi, hg⟩ := gd_eq h1 h
      refine ⟨⟨rfl, rfl, rfl, by show 0 ≤ i + 1; omega, by show i + 1 ≤ _; omega, ?_⟩, by show ((set'.length : Int) - (i + 1)).toNat < _; omega⟩
      show s + _ = C0.planCost ys (set'.take (i + 1).toNat)
      rw [show (i + 1).toNat = i.toNat + 1 by omega, planCost_step ys set' i.toNat hi, h3, hg]
    · refine (hE i s h).mono fun y hy => ?_
      subst hy
      show s = _
      rw [h3, List.take_of_length_le (by omega)]) (xs, 0, set, (set.length : Int), 0) ⟨rfl, rfl, rfl, Int.le_refl _, by show (0 : Int) ≤ (set.length : Int); omega, by simp [C0.planCost]⟩ (by show ((set.length : Int) - 0).toNat < n; omega)
  rw [h1, h2]
theorem P_i_PlanCost (list : List DCand) (set : List Int) (h : (C.lim [⟨.sl RCand, list⟩] && C.lim [⟨LI, set⟩]) = true) : Ev (fun n => T_i_PlanCost n list set) [[⟨i6, C.planCost list set⟩]] := by
  rw [Bool.and_eq_true, C.lim_def, C.lim_def] at h
  simp only [C0.szPs_cons, C0.szPs_nil, C0.szT_LI] at h
  refine Ev.from (set.length + 1) fun n hn => ?_
  have hl := plan_loop list set (by omega) (B := B_i_PlanCost_3) (n := n) (by omega) (fun i s hi hi' hs hs' => by
    refine ok_brT (by simp; omega) (ok_brT (by simp; omega) ?_)
    have hw : w64 (i + 1) = i + 1 := w64_id (by omega)
    simp only [ok_br, ok_ret, ok_fail, decide_eq_true_eq, Bool.and_eq_true, hw]
    unfold C0.costAt
    by_cases h1 : 0 ≤ gd set i
    · by_cases h2 : gd set i < (list.length : Int)
      · by_cases h3 : 1 ≤ (gd list (gd set i)).2.2.2.2.2.2.2.2.2
        · by_cases h4 : (gd list (gd set i)).2.2.2.2.2.2.2.2.2 ≤ 1000
          · simp [h1, h2, h3, h4, w64_id (show -9223372036854775808 ≤ s + (gd list (gd set i)).2.2.2.2.2.2.2.2.2 ∧ s + (gd list (gd set i)).2.2.2.2.2.2.2.2.2 < 9223372036854775808 by omega)]
          · simp [h1, h2, h3, h4]
        · simp [h1, h2, h3]
      · simp [h1, h2]
    · simp [h1])
    (fun i s hi => ok_brF (by simp; omega) (ok_ret.mpr rfl))
  refine ok_opt hl (ok_ret.mpr ?_)
  rw [C.planCost_eq]
theorem P_s_PlanCost (list : List DCand) (set : List Int) (h : (C.lim [⟨.sl RCand, list⟩] && C.lim [⟨LI, set⟩]) = true) : Ev (fun n => T_s_PlanCost n list set) [[⟨i6, C.planCost list set⟩]] := by
  rw [Bool.and_eq_true, C.lim_def, C.lim_def] at h
  simp only [C0.szPs_cons, C0.szPs_nil, C0.szT_LI, C0.szT_sl] at h
  refine Ev.from (set.length + 1) fun n hn => ?_
  have hl := plan_loop list set (by omega) (B := B_s_PlanCost_3) (n := n) (by omega) (fun i s hi hi' hs hs' => by
    refine ok_brT (by simp; omega) (ok_brT (by simp; omega) ?_)
    have hw : w64 (i + 1) = i + 1 := w64_id (by omega)
    have hw2 : w64 ((list.length : Int) - 1) = (list.length : Int) - 1 := w64_id (by omega)
    simp only [ok_br, ok_ret, ok_fail, decide_eq_true_eq, Bool.and_eq_true, hw, hw2]
    unfold C0.costAt
    by_cases h1 : 0 ≤ gd set i
    · by_cases h2 : gd set i < (list.length : Int)
      · have h2' : gd set i ≤ (list.length : Int) - 1 := by omega
        by_cases h3 : 1 ≤ (gd list (gd set i)).2.2.2.2.2.2.2.2.2
        · by_cases h4 : (gd list (gd set i)).2.2.2.2.2.2.2.2.2 ≤ 1000
          · simp [h1, h2, h2', h3, h4, w64_id (show -9223372036854775808 ≤ s + (gd list (gd set i)).2.2.2.2.2.2.2.2.2 ∧ s + (gd list (gd set i)).2.2.2.2.2.2.2.2.2 < 9223372036854775808 by omega)]
          · simp [h1, h2, h2', h3, h4]
        · simp [h1, h2, h2', h3]
      · have h2' : ¬ gd set i ≤ (list.length : Int) - 1 := by omega
        simp [h1, h2, h2']
    · simp [h1])
    (fun i s hi => ok_brF (by simp; omega) (ok_ret.mpr rfl))
  refine ok_opt hl (ok_ret.mpr ?_)
  rw [C.planCost_eq]
theorem lim_of_sz {ps : List PL} (h : ¬ C.sz ps 1048576 < 0) : C.lim ps = true := by
  rw [C.lim_def]
  obtain ⟨_, h2, _⟩ := sz_nonneg h ((C.okLeft_def _).mpr (by omega))
  omega
theorem lim_of_sz2 {ps : List PL} {l : Int} (hl : C.okLeft l = true) (h : ¬ C.sz ps l < 0) : C.lim ps = true := by
  rw [C.lim_def]
  obtain ⟨_, h2, _⟩ := sz_nonneg h hl
  have := (C.okLeft_def _).mp hl
  omega
theorem P_w_FnExactPlanCost (aList : List DCand) (aSet : List Int) (h : (C.wl [⟨.sl RCand, aList⟩] && C.wl [⟨LI, aSet⟩]) = true) : Ev (fun n => T_w_FnExactPlanCost n aList aSet) [[⟨LB, true⟩]] := by
  rw [Bool.and_eq_true] at h
  refine Ev.any fun n => ?_
  refine ok_brC (fun g => ok_ret.mpr rfl) fun g => ?_
  have hs : C.lim [⟨LI, aSet⟩] = true := by
    rw [C.lim_def]; simp only [C0.szPs_cons, C0.szPs_nil, C0.szT_LI]; simp at g; omega
  have hk : C.okLeft 1048576 = true := (C.okLeft_def _).mpr (by omega)
  refine ok_brT (by rw [Bool.and_eq_true]; exact ⟨h.1, hk⟩) (ok_brC (fun g => ok_ret.mpr rfl) fun g => ?_)
  have hc : C.lim [⟨.sl RCand, aList⟩] = true := lim_of_sz (of_decide_eq_false g)
  have he : ∀ ps, C.eqPs ps ps = true := fun ps => by rw [C.eqPs_eq]; exact C0.eqPs_refl ps
  simp [ok_br, ok_ret, hs, hc, he]
theorem P_w_FnExactSameEstimates (a0 : List (Bool × List Int × List Int)) (a1 a2 : Int) (a3 b0 : List (Bool × List Int × List Int)) (b1 b2 : Int) (b3 : List (Bool × List Int × List Int))
    (h : (C.wl [⟨.sl RRat, a0⟩, ⟨i6, a1⟩, ⟨i6, a2⟩, ⟨.sl RRat, a3⟩] && C.wl [⟨.sl RRat, b0⟩, ⟨i6, b1⟩, ⟨i6, b2⟩, ⟨.sl RRat, b3⟩]) = true) : Ev (fun n => T_w_FnExactSameEstimates n a0 a1 a2 a3 b0 b1 b2 b3) [[⟨LB, true⟩]] := by
  rw [Bool.and_eq_true] at h
  refine Ev.any fun n => ?_
  have hk : C.okLeft 1048576 = true := (C.okLeft_def _).mpr (by omega)
  refine ok_brT (by rw [Bool.and_eq_true]; exact ⟨h.1, hk⟩) (ok_brC (fun g => ok_ret.mpr rfl) fun g => ?_)
  obtain ⟨g1, g2, g3⟩ := sz_nonneg (of_decide_eq_false g) hk
  refine ok_brT (by rw [Bool.and_eq_true]; exact ⟨h.2, g3⟩) (ok_brC (fun g => ok_ret.mpr rfl) fun g' => ?_)
  have hc := lim_of_sz (of_decide_eq_false g)
  have hd := lim_of_sz2 g3 (of_decide_eq_false g')
  have he : ∀ ps, C.eqPs ps ps = true := fun ps => by rw [C.eqPs_eq]; exact C0.eqPs_refl ps
  simp [ok_br, ok_ret, hc, hd, he]
end
section
open Go Go.AM
set_option maxRecDepth 1000000
theorem tabOk : tab.all (fun x => tyOkB Go.Proofs.Try.prog x.1 x.2) = true := by kernel_rfl
theorem mixedOk : Go.Proofs.Try.prog.follows .mixedOrders = true := by kernel_rfl
theorem law_w_szIntS : LawOk Go.Proofs.Try.prog lw_w_szIntS := by
  refine fnLaw (l := []) LawsOk.nil (Tab.ok tabOk) mixedOk Go.Proofs.Try.func66 (by kernel_rfl) (body := bodyOf Go.Proofs.Try.f66) (by kernel_rfl) sg_w_szIntS F_w_szIntS bs_w_szIntS (fun _ => false) (fun t => decide (t < 2) || [4, 1].contains t) (fun n => loops_w_szIntS n) (fun args outs h => ?_)
  unfold F_w_szIntS at h
  split at h
  · obtain ⟨hc, rfl⟩ := useF h
    exact (P_w_szIntS _ _ hc).law fun n => T_w_szIntS_ok n _ _
  · cases h
theorem law_w_szBigInt : LawOk Go.Proofs.Try.prog lw_w_szBigInt := by
  refine fnLaw (l := [lw_w_szIntS]) (LawsOk.cons law_w_szIntS LawsOk.nil) (Tab.ok tabOk) mixedOk Go.Proofs.Try.func65 (by kernel_rfl) (body := bodyOf Go.Proofs.Try.f65) (by kernel_rfl) sg_w_szBigInt F_w_szBigInt bs_w_szBigInt (fun _ => false) (fun t => decide (t < 2) || [2, 4, 1].contains t) (fun n => loops_w_szBigInt n) (fun args outs h => ?_)
  unfold F_w_szBigInt at h
  split at h
  · obtain ⟨hc, rfl⟩ := useF h
    exact (P_w_szBigInt _ _ _ hc).law fun n => T_w_szBigInt_ok n _ _ _
  · cases h
theorem law_w_szRat : LawOk Go.Proofs.Try.prog lw_w_szRat := by
  refine fnLaw (l := [lw_w_szBigInt, lw_w_szIntS]) (LawsOk.cons law_w_szBigInt (LawsOk.cons law_w_szIntS LawsOk.nil)) (Tab.ok tabOk) mixedOk Go.Proofs.Try.func60 (by kernel_rfl) (body := bodyOf Go.Proofs.Try.f60) (by kernel_rfl) sg_w_szRat F_w_szRat bs_w_szRat (fun _ => false) (fun t => decide (t < 2) || [2, 4, 1].contains t) (fun n => loops_w_szRat n) (fun args outs h => ?_)
  unfold F_w_szRat at h
  split at h
  · obtain ⟨hc, rfl⟩ := useF h
    exact (P_w_szRat _ _ _ _ hc).law fun n => T_w_szRat_ok n _ _ _ _
  · cases h
theorem law_w_szObservation : LawOk Go.Proofs.Try.prog lw_w_szObservation := by
  refine fnLaw (l := [lw_w_szRat]) (LawsOk.cons law_w_szRat LawsOk.nil) (Tab.ok tabOk) mixedOk Go.Proofs.Try.func57 (by kernel_rfl) (body := bodyOf Go.Proofs.Try.f57) (by kernel_rfl) sg_w_szObservation F_w_szObservation bs_w_szObservation (fun _ => false) (fun t => decide (t < 2) || [2, 4, 1].contains t) (fun n => loops_w_szObservation n) (fun args outs h => ?_)
  unfold F_w_szObservation at h
  split at h
  · obtain ⟨hc, rfl⟩ := useF h
    exact (P_w_szObservation _ _ _ _ _ _ _ _ _ _ hc).law fun n => T_w_szObservation_ok n _ _ _ _ _ _ _ _ _ _
  · cases h
theorem law_w_szCandidate : LawOk Go.Proofs.Try.prog lw_w_szCandidate := by
  refine fnLaw (l := [lw_w_szObservation]) (LawsOk.cons law_w_szObservation LawsOk.nil) (Tab.ok tabOk) mixedOk Go.Proofs.Try.func43 (by kernel_rfl) (body := bodyOf Go.Proofs.Try.f43) (by kernel_rfl) sg_w_szCandidate F_w_szCandidate bs_w_szCandidate (fun _ => false) (fun t => decide (t < 2) || [2, 4, 1].contains t) (fun n => loops_w_szCandidate n) (fun args outs h => ?_)
  unfold F_w_szCandidate at h
  split at h
  · obtain ⟨hc, rfl⟩ := useF h
    exact (P_w_szCandidate _ _ _ _ _ _ _ _ _ _ _ hc).law fun n => T_w_szCandidate_ok n _ _ _ _ _ _ _ _ _ _ _
  · cases h
theorem law_w_szCandidateS : LawOk Go.Proofs.Try.prog lw_w_szCandidateS := by
  refine fnLaw (l := [lw_w_szCandidate]) (LawsOk.cons law_w_szCandidate LawsOk.nil) (Tab.ok tabOk) mixedOk Go.Proofs.Try.func24 (by kernel_rfl) (body := bodyOf Go.Proofs.Try.f24) (by kernel_rfl) sg_w_szCandidateS F_w_szCandidateS bs_w_szCandidateS (fun _ => false) (fun t => decide (t < 2) || [4, 1, 5].contains t) (fun n => loops_w_szCandidateS n) (fun args outs h => ?_)
  unfold F_w_szCandidateS at h
  split at h
  · obtain ⟨hc, rfl⟩ := useF h
    exact (P_w_szCandidateS _ _ hc).law fun n => T_w_szCandidateS_ok n _ _
  · cases h
theorem law_w_szRatS : LawOk Go.Proofs.Try.prog lw_w_szRatS := by
  refine fnLaw (l := [lw_w_szRat]) (LawsOk.cons law_w_szRat LawsOk.nil) (Tab.ok tabOk) mixedOk Go.Proofs.Try.func46 (by kernel_rfl) (body := bodyOf Go.Proofs.Try.f46) (by kernel_rfl) sg_w_szRatS F_w_szRatS bs_w_szRatS (fun _ => false) (fun t => decide (t < 2) || [4, 1, 5].contains t) (fun n => loops_w_szRatS n) (fun args outs h => ?_)
  unfold F_w_szRatS at h
  split at h
  · obtain ⟨hc, rfl⟩ := useF h
    exact (P_w_szRatS _ _ hc).law fun n => T_w_szRatS_ok n _ _
  · cases h
theorem law_w_szMatrix : LawOk Go.Proofs.Try.prog lw_w_szMatrix := by
  refine fnLaw (l := [lw_w_szRatS]) (LawsOk.cons law_w_szRatS LawsOk.nil) (Tab.ok tabOk) mixedOk Go.Proofs.Try.func47 (by kernel_rfl) (body := bodyOf Go.Proofs.Try.f47) (by kernel_rfl) sg_w_szMatrix F_w_szMatrix bs_w_szMatrix (fun _ => false) (fun t => decide (t < 2) || [2, 4, 1].contains t) (fun n => loops_w_szMatrix n) (fun args outs h => ?_)
  unfold F_w_szMatrix at h
  split at h
  · obtain ⟨hc, rfl⟩ := useF h
    exact (P_w_szMatrix _ _ _ _ hc).law fun n => T_w_szMatrix_ok n _ _ _ _
  · cases h
theorem law_w_szEstimate : LawOk Go.Proofs.Try.prog lw_w_szEstimate := by
  refine fnLaw (l := [lw_w_szRatS, lw_w_szMatrix]) (LawsOk.cons law_w_szRatS (LawsOk.cons law_w_szMatrix LawsOk.nil)) (Tab.ok tabOk) mixedOk Go.Proofs.Try.func29 (by kernel_rfl) (body := bodyOf Go.Proofs.Try.f29) (by kernel_rfl) sg_w_szEstimate F_w_szEstimate bs_w_szEstimate (fun _ => false) (fun t => decide (t < 2) || [2, 4, 1].contains t) (fun n => loops_w_szEstimate n) (fun args outs h => ?_)
  unfold F_w_szEstimate at h
  split at h
  · obtain ⟨hc, rfl⟩ := useF h
    exact (P_w_szEstimate _ _ _ _ _ hc).law fun n => T_w_szEstimate_ok n _ _ _ _ _
  · cases h
theorem law_w_toIntS : LawOk Go.Proofs.Try.prog lw_w_toIntS := by
  refine fnLaw (l := []) LawsOk.nil (Tab.ok tabOk) mixedOk Go.Proofs.Try.func23 (by kernel_rfl) (body := bodyOf Go.Proofs.Try.f23) (by kernel_rfl) sg_w_toIntS F_w_toIntS bs_w_toIntS (fun _ => false) (fun t => decide (t < 1) || [2, 3, 4].contains t) (fun n => loops_w_toIntS n) (fun args outs h => ?_)
  unfold F_w_toIntS at h
  split at h
  · obtain ⟨hc, rfl⟩ := useF h
    exact (P_w_toIntS _ hc).law fun n => T_w_toIntS_ok n _
  · cases h
theorem law_w_toBigInt : LawOk Go.Proofs.Try.prog lw_w_toBigInt := by
  refine fnLaw (l := [lw_w_toIntS]) (LawsOk.cons law_w_toIntS LawsOk.nil) (Tab.ok tabOk) mixedOk Go.Proofs.Try.func68 (by kernel_rfl) (body := bodyOf Go.Proofs.Try.f68) (by kernel_rfl) sg_w_toBigInt F_w_toBigInt bs_w_toBigInt (fun _ => false) (fun t => decide (t < 1) || [1, 2, 3].contains t) (fun n => loops_w_toBigInt n) (fun args outs h => ?_)
  unfold F_w_toBigInt at h
  split at h
  · obtain ⟨hc, rfl⟩ := useF h
    exact (P_w_toBigInt _ _ hc).law fun n => T_w_toBigInt_ok n _ _
  · cases h
theorem law_w_toRat : LawOk Go.Proofs.Try.prog lw_w_toRat := by
  refine fnLaw (l := [lw_w_toBigInt, lw_w_toIntS]) (LawsOk.cons law_w_toBigInt (LawsOk.cons law_w_toIntS LawsOk.nil)) (Tab.ok tabOk) mixedOk Go.Proofs.Try.func62 (by kernel_rfl) (body := bodyOf Go.Proofs.Try.f62) (by kernel_rfl) sg_w_toRat F_w_toRat bs_w_toRat (fun _ => false) (fun t => decide (t < 1) || [1, 2, 3].contains t) (fun n => loops_w_toRat n) (fun args outs h => ?_)
  unfold F_w_toRat at h
  split at h
  · obtain ⟨hc, rfl⟩ := useF h
    exact (P_w_toRat _ _ _ hc).law fun n => T_w_toRat_ok n _ _ _
  · cases h
theorem law_w_toObservation : LawOk Go.Proofs.Try.prog lw_w_toObservation := by
  refine fnLaw (l := [lw_w_toRat]) (LawsOk.cons law_w_toRat LawsOk.nil) (Tab.ok tabOk) mixedOk Go.Proofs.Try.func58 (by kernel_rfl) (body := bodyOf Go.Proofs.Try.f58) (by kernel_rfl) sg_w_toObservation F_w_toObservation bs_w_toObservation (fun _ => false) (fun t => decide (t < 1) || [1, 2, 3].contains t) (fun n => loops_w_toObservation n) (fun args outs h => ?_)
  unfold F_w_toObservation at h
  split at h
  · obtain ⟨hc, rfl⟩ := useF h
    exact (P_w_toObservation _ _ _ _ _ _ _ _ _ hc).law fun n => T_w_toObservation_ok n _ _ _ _ _ _ _ _ _
  · cases h
theorem law_w_toCandidate : LawOk Go.Proofs.Try.prog lw_w_toCandidate := by
  refine fnLaw (l := [lw_w_toObservation]) (LawsOk.cons law_w_toObservation LawsOk.nil) (Tab.ok tabOk) mixedOk Go.Proofs.Try.func44 (by kernel_rfl) (body := bodyOf Go.Proofs.Try.f44) (by kernel_rfl) sg_w_toCandidate F_w_toCandidate bs_w_toCandidate (fun _ => false) (fun t => decide (t < 1) || [1, 2, 3].contains t) (fun n => loops_w_toCandidate n) (fun args outs h => ?_)
  unfold F_w_toCandidate at h
  split at h
  · obtain ⟨hc, rfl⟩ := useF h
    exact (P_w_toCandidate _ _ _ _ _ _ _ _ _ _ hc).law fun n => T_w_toCandidate_ok n _ _ _ _ _ _ _ _ _ _
  · cases h
theorem law_w_toCandidateS : LawOk Go.Proofs.Try.prog lw_w_toCandidateS := by
  refine fnLaw (l := [lw_w_toCandidate]) (LawsOk.cons law_w_toCandidate LawsOk.nil) (Tab.ok tabOk) mixedOk Go.Proofs.Try.func26 (by kernel_rfl) (body := bodyOf Go.Proofs.Try.f26) (by kernel_rfl) sg_w_toCandidateS F_w_toCandidateS bs_w_toCandidateS (fun _ => false) (fun t => decide (t < 1) || [2, 3, 4].contains t) (fun n => loops_w_toCandidateS n) (fun args outs h => ?_)
  unfold F_w_toCandidateS at h
  split at h
  · obtain ⟨hc, rfl⟩ := useF h
    exact (P_w_toCandidateS _ hc).law fun n => T_w_toCandidateS_ok n _
  · cases h
theorem law_w_toRatS : LawOk Go.Proofs.Try.prog lw_w_toRatS := by
  refine fnLaw (l := [lw_w_toRat]) (LawsOk.cons law_w_toRat LawsOk.nil) (Tab.ok tabOk) mixedOk Go.Proofs.Try.func50 (by kernel_rfl) (body := bodyOf Go.Proofs.Try.f50) (by kernel_rfl) sg_w_toRatS F_w_toRatS bs_w_toRatS (fun _ => false) (fun t => decide (t < 1) || [2, 3, 4].contains t) (fun n => loops_w_toRatS n) (fun args outs h => ?_)
  unfold F_w_toRatS at h
  split at h
  · obtain ⟨hc, rfl⟩ := useF h
    exact (P_w_toRatS _ hc).law fun n => T_w_toRatS_ok n _
  · cases h
theorem law_w_toMatrix : LawOk Go.Proofs.Try.prog lw_w_toMatrix := by
  refine fnLaw (l := [lw_w_toRatS]) (LawsOk.cons law_w_toRatS LawsOk.nil) (Tab.ok tabOk) mixedOk Go.Proofs.Try.func51 (by kernel_rfl) (body := bodyOf Go.Proofs.Try.f51) (by kernel_rfl) sg_w_toMatrix F_w_toMatrix bs_w_toMatrix (fun _ => false) (fun t => decide (t < 1) || [1, 2, 3].contains t) (fun n => loops_w_toMatrix n) (fun args outs h => ?_)
  unfold F_w_toMatrix at h
  split at h
  · obtain ⟨hc, rfl⟩ := useF h
    exact (P_w_toMatrix _ _ _ hc).law fun n => T_w_toMatrix_ok n _ _ _
  · cases h
theorem law_w_toEstimate : LawOk Go.Proofs.Try.prog lw_w_toEstimate := by
  refine fnLaw (l := [lw_w_toRatS, lw_w_toMatrix]) (LawsOk.cons law_w_toRatS (LawsOk.cons law_w_toMatrix LawsOk.nil)) (Tab.ok tabOk) mixedOk Go.Proofs.Try.func31 (by kernel_rfl) (body := bodyOf Go.Proofs.Try.f31) (by kernel_rfl) sg_w_toEstimate F_w_toEstimate bs_w_toEstimate (fun _ => false) (fun t => decide (t < 1) || [1, 2, 3].contains t) (fun n => loops_w_toEstimate n) (fun args outs h => ?_)
  unfold F_w_toEstimate at h
  split at h
  · obtain ⟨hc, rfl⟩ := useF h
    exact (P_w_toEstimate _ _ _ _ hc).law fun n => T_w_toEstimate_ok n _ _ _ _
  · cases h
theorem law_w_eqIntS : LawOk Go.Proofs.Try.prog lw_w_eqIntS := by
  refine fnLaw (l := []) LawsOk.nil (Tab.ok tabOk) mixedOk Go.Proofs.Try.func16 (by kernel_rfl) (body := bodyOf Go.Proofs.Try.f16) (by kernel_rfl) sg_w_eqIntS F_w_eqIntS bs_w_eqIntS (fun _ => false) (fun t => decide (t < 2) || [4, 5].contains t) (fun n => loops_w_eqIntS n) (fun args outs h => ?_)
  unfold F_w_eqIntS at h
  split at h
  · obtain ⟨hc, rfl⟩ := useF h
    exact (P_w_eqIntS _ _ hc).law fun n => T_w_eqIntS_ok n _ _
  · cases h
theorem law_w_eqBigInt : LawOk Go.Proofs.Try.prog lw_w_eqBigInt := by
  refine fnLaw (l := [lw_w_eqIntS]) (LawsOk.cons law_w_eqIntS LawsOk.nil) (Tab.ok tabOk) mixedOk Go.Proofs.Try.func70 (by kernel_rfl) (body := bodyOf Go.Proofs.Try.f70) (by kernel_rfl) sg_w_eqBigInt F_w_eqBigInt bs_w_eqBigInt (fun _ => false) (fun t => decide (t < 2) || [2, 3, 4].contains t) (fun n => loops_w_eqBigInt n) (fun args outs h => ?_)
  unfold F_w_eqBigInt at h
  split at h
  · obtain ⟨hc, rfl⟩ := useF h
    exact (P_w_eqBigInt _ _ _ _ hc).law fun n => T_w_eqBigInt_ok n _ _ _ _
  · cases h
theorem law_w_eqRat : LawOk Go.Proofs.Try.prog lw_w_eqRat := by
  refine fnLaw (l := [lw_w_eqBigInt, lw_w_eqIntS]) (LawsOk.cons law_w_eqBigInt (LawsOk.cons law_w_eqIntS LawsOk.nil)) (Tab.ok tabOk) mixedOk Go.Proofs.Try.func64 (by kernel_rfl) (body := bodyOf Go.Proofs.Try.f64) (by kernel_rfl) sg_w_eqRat F_w_eqRat bs_w_eqRat (fun _ => false) (fun t => decide (t < 2) || [2, 3, 4].contains t) (fun n => loops_w_eqRat n) (fun args outs h => ?_)
  unfold F_w_eqRat at h
  split at h
  · obtain ⟨hc, rfl⟩ := useF h
    exact (P_w_eqRat _ _ _ _ _ _ hc).law fun n => T_w_eqRat_ok n _ _ _ _ _ _
  · cases h
theorem law_w_eqObservation : LawOk Go.Proofs.Try.prog lw_w_eqObservation := by
  refine fnLaw (l := [lw_w_eqRat]) (LawsOk.cons law_w_eqRat LawsOk.nil) (Tab.ok tabOk) mixedOk Go.Proofs.Try.func59 (by kernel_rfl) (body := bodyOf Go.Proofs.Try.f59) (by kernel_rfl) sg_w_eqObservation F_w_eqObservation bs_w_eqObservation (fun _ => false) (fun t => decide (t < 2) || [2, 3, 4].contains t) (fun n => loops_w_eqObservation n) (fun args outs h => ?_)
  unfold F_w_eqObservation at h
  split at h
  · obtain ⟨hc, rfl⟩ := useF h
    exact (P_w_eqObservation _ _ _ _ _ _ _ _ _ _ _ _ _ _ _ _ _ _ hc).law fun n => T_w_eqObservation_ok n _ _ _ _ _ _ _ _ _ _ _ _ _ _ _ _ _ _
  · cases h
theorem law_w_eqCandidate : LawOk Go.Proofs.Try.prog lw_w_eqCandidate := by
  refine fnLaw (l := [lw_w_eqObservation]) (LawsOk.cons law_w_eqObservation LawsOk.nil) (Tab.ok tabOk) mixedOk Go.Proofs.Try.func45 (by kernel_rfl) (body := bodyOf Go.Proofs.Try.f45) (by kernel_rfl) sg_w_eqCandidate F_w_eqCandidate bs_w_eqCandidate (fun _ => false) (fun t => decide (t < 2) || [2, 3, 4].contains t) (fun n => loops_w_eqCandidate n) (fun args outs h => ?_)
  unfold F_w_eqCandidate at h
  split at h
  · obtain ⟨hc, rfl⟩ := useF h
    exact (P_w_eqCandidate _ _ _ _ _ _ _ _ _ _ _ _ _ _ _ _ _ _ _ _ hc).law fun n => T_w_eqCandidate_ok n _ _ _ _ _ _ _ _ _ _ _ _ _ _ _ _ _ _ _ _
  · cases h
theorem law_w_eqCandidateS : LawOk Go.Proofs.Try.prog lw_w_eqCandidateS := by
  refine fnLaw (l := [lw_w_eqCandidate]) (LawsOk.cons law_w_eqCandidate LawsOk.nil) (Tab.ok tabOk) mixedOk Go.Proofs.Try.func28 (by kernel_rfl) (body := bodyOf Go.Proofs.Try.f28) (by kernel_rfl) sg_w_eqCandidateS F_w_eqCandidateS bs_w_eqCandidateS (fun _ => false) (fun t => decide (t < 2) || [4, 5].contains t) (fun n => loops_w_eqCandidateS n) (fun args outs h => ?_)
  unfold F_w_eqCandidateS at h
  split at h
  · obtain ⟨hc, rfl⟩ := useF h
    exact (P_w_eqCandidateS _ _ hc).law fun n => T_w_eqCandidateS_ok n _ _
  · cases h
theorem law_w_eqRatS : LawOk Go.Proofs.Try.prog lw_w_eqRatS := by
  refine fnLaw (l := [lw_w_eqRat]) (LawsOk.cons law_w_eqRat LawsOk.nil) (Tab.ok tabOk) mixedOk Go.Proofs.Try.func54 (by kernel_rfl) (body := bodyOf Go.Proofs.Try.f54) (by kernel_rfl) sg_w_eqRatS F_w_eqRatS bs_w_eqRatS (fun _ => false) (fun t => decide (t < 2) || [4, 5].contains t) (fun n => loops_w_eqRatS n) (fun args outs h => ?_)
  unfold F_w_eqRatS at h
  split at h
  · obtain ⟨hc, rfl⟩ := useF h
    exact (P_w_eqRatS _ _ hc).law fun n => T_w_eqRatS_ok n _ _
  · cases h
theorem law_w_eqMatrix : LawOk Go.Proofs.Try.prog lw_w_eqMatrix := by
  refine fnLaw (l := [lw_w_eqRatS]) (LawsOk.cons law_w_eqRatS LawsOk.nil) (Tab.ok tabOk) mixedOk Go.Proofs.Try.func55 (by kernel_rfl) (body := bodyOf Go.Proofs.Try.f55) (by kernel_rfl) sg_w_eqMatrix F_w_eqMatrix bs_w_eqMatrix (fun _ => false) (fun t => decide (t < 2) || [2, 3, 4].contains t) (fun n => loops_w_eqMatrix n) (fun args outs h => ?_)
  unfold F_w_eqMatrix at h
  split at h
  · obtain ⟨hc, rfl⟩ := useF h
    exact (P_w_eqMatrix _ _ _ _ _ _ hc).law fun n => T_w_eqMatrix_ok n _ _ _ _ _ _
  · cases h
theorem law_w_eqEstimate : LawOk Go.Proofs.Try.prog lw_w_eqEstimate := by
  refine fnLaw (l := [lw_w_eqRatS, lw_w_eqMatrix]) (LawsOk.cons law_w_eqRatS (LawsOk.cons law_w_eqMatrix LawsOk.nil)) (Tab.ok tabOk) mixedOk Go.Proofs.Try.func33 (by kernel_rfl) (body := bodyOf Go.Proofs.Try.f33) (by kernel_rfl) sg_w_eqEstimate F_w_eqEstimate bs_w_eqEstimate (fun _ => false) (fun t => decide (t < 2) || [2, 3, 4].contains t) (fun n => loops_w_eqEstimate n) (fun args outs h => ?_)
  unfold F_w_eqEstimate at h
  split at h
  · obtain ⟨hc, rfl⟩ := useF h
    exact (P_w_eqEstimate _ _ _ _ _ _ _ _ hc).law fun n => T_w_eqEstimate_ok n _ _ _ _ _ _ _ _
  · cases h
theorem law_i_sameInts : LawOk Go.Proofs.Try.prog lw_i_sameInts := by
  refine fnLaw (l := []) LawsOk.nil (Tab.ok tabOk) mixedOk Go.Proofs.Try.func69 (by kernel_rfl) (body := bodyOf Go.Proofs.Try.f69) (by kernel_rfl) sg_i_sameInts F_i_sameInts bs_i_sameInts (fun _ => false) (fun t => decide (t < 2) || [4, 5].contains t) (fun n => loops_i_sameInts n) (fun args outs h => ?_)
  unfold F_i_sameInts at h
  split at h
  · obtain ⟨hc, rfl⟩ := useF h
    exact (P_i_sameInts _ _ hc).law fun n => T_i_sameInts_ok n _ _
  · cases h
theorem law_s_l04List : LawOk Go.Proofs.Try.prog lw_s_l04List := by
  refine fnLaw (l := []) LawsOk.nil (Tab.ok tabOk) mixedOk Go.Proofs.Try.func67 (by kernel_rfl) (body := bodyOf Go.Proofs.Try.f67) (by kernel_rfl) sg_s_l04List F_s_l04List bs_s_l04List (fun _ => false) (fun t => decide (t < 2) || [4, 5].contains t) (fun n => loops_s_l04List n) (fun args outs h => ?_)
  unfold F_s_l04List at h
  split at h
  · obtain ⟨hc, rfl⟩ := useF h
    exact (P_s_l04List _ _ hc).law fun n => T_s_l04List_ok n _ _
  · cases h
theorem law_i_RatEqual : LawOk Go.Proofs.Try.prog lw_i_RatEqual := by
  refine fnLaw (l := [lw_i_sameInts]) (LawsOk.cons law_i_sameInts LawsOk.nil) (Tab.ok tabOk) mixedOk Go.Proofs.Try.func63 (by kernel_rfl) (body := bodyOf Go.Proofs.Try.f63) (by kernel_rfl) sg_i_RatEqual F_i_RatEqual bs_i_RatEqual (fun _ => false) (fun t => decide (t < 2) || [2, 3, 4].contains t) (fun n => loops_i_RatEqual n) (fun args outs h => ?_)
  unfold F_i_RatEqual at h
  split at h
  · obtain ⟨hc, rfl⟩ := useF h
    exact (P_i_RatEqual _ _ _ _ _ _ hc).law fun n => T_i_RatEqual_ok n _ _ _ _ _ _
  · cases h
theorem law_s_RatEqual : LawOk Go.Proofs.Try.prog lw_s_RatEqual := by
  refine fnLaw (l := [lw_s_l04List]) (LawsOk.cons law_s_l04List LawsOk.nil) (Tab.ok tabOk) mixedOk Go.Proofs.Try.func61 (by kernel_rfl) (body := bodyOf Go.Proofs.Try.f61) (by kernel_rfl) sg_s_RatEqual F_s_RatEqual bs_s_RatEqual (fun _ => false) (fun t => decide (t < 2) || [2, 3, 4].contains t) (fun n => loops_s_RatEqual n) (fun args outs h => ?_)
  unfold F_s_RatEqual at h
  split at h
  · obtain ⟨hc, rfl⟩ := useF h
    exact (P_s_RatEqual _ _ _ _ _ _ hc).law fun n => T_s_RatEqual_ok n _ _ _ _ _ _
  · cases h
theorem law_i_EqualVectors : LawOk Go.Proofs.Try.prog lw_i_EqualVectors := by
  refine fnLaw (l := [lw_i_RatEqual]) (LawsOk.cons law_i_RatEqual LawsOk.nil) (Tab.ok tabOk) mixedOk Go.Proofs.Try.func52 (by kernel_rfl) (body := bodyOf Go.Proofs.Try.f52) (by kernel_rfl) sg_i_EqualVectors F_i_EqualVectors bs_i_EqualVectors (fun _ => false) (fun t => decide (t < 2) || [4, 5].contains t) (fun n => loops_i_EqualVectors n) (fun args outs h => ?_)
  unfold F_i_EqualVectors at h
  split at h
  · obtain ⟨hc, rfl⟩ := useF h
    exact (P_i_EqualVectors _ _ hc).law fun n => T_i_EqualVectors_ok n _ _
  · cases h
theorem law_s_EqualVectors : LawOk Go.Proofs.Try.prog lw_s_EqualVectors := by
  refine fnLaw (l := [lw_s_RatEqual]) (LawsOk.cons law_s_RatEqual LawsOk.nil) (Tab.ok tabOk) mixedOk Go.Proofs.Try.func48 (by kernel_rfl) (body := bodyOf Go.Proofs.Try.f48) (by kernel_rfl) sg_s_EqualVectors F_s_EqualVectors bs_s_EqualVectors (fun _ => false) (fun t => decide (t < 2) || [4, 6, 5].contains t) (fun n => loops_s_EqualVectors n) (fun args outs h => ?_)
  unfold F_s_EqualVectors at h
  split at h
  · obtain ⟨hc, rfl⟩ := useF h
    exact (P_s_EqualVectors _ _ hc).law fun n => T_s_EqualVectors_ok n _ _
  · cases h
theorem law_i_EqualMatrices : LawOk Go.Proofs.Try.prog lw_i_EqualMatrices := by
  refine fnLaw (l := [lw_i_EqualVectors]) (LawsOk.cons law_i_EqualVectors LawsOk.nil) (Tab.ok tabOk) mixedOk Go.Proofs.Try.func53 (by kernel_rfl) (body := bodyOf Go.Proofs.Try.f53) (by kernel_rfl) sg_i_EqualMatrices F_i_EqualMatrices bs_i_EqualMatrices (fun _ => false) (fun t => decide (t < 2) || [2, 3, 4].contains t) (fun n => loops_i_EqualMatrices n) (fun args outs h => ?_)
  unfold F_i_EqualMatrices at h
  split at h
  · obtain ⟨hc, rfl⟩ := useF h
    exact (P_i_EqualMatrices _ _ _ _ _ _ hc).law fun n => T_i_EqualMatrices_ok n _ _ _ _ _ _
  · cases h
theorem law_s_EqualMatrices : LawOk Go.Proofs.Try.prog lw_s_EqualMatrices := by
  refine fnLaw (l := [lw_s_EqualVectors]) (LawsOk.cons law_s_EqualVectors LawsOk.nil) (Tab.ok tabOk) mixedOk Go.Proofs.Try.func49 (by kernel_rfl) (body := bodyOf Go.Proofs.Try.f49) (by kernel_rfl) sg_s_EqualMatrices F_s_EqualMatrices bs_s_EqualMatrices (fun _ => false) (fun t => decide (t < 2) || [2, 3, 4].contains t) (fun n => loops_s_EqualMatrices n) (fun args outs h => ?_)
  unfold F_s_EqualMatrices at h
  split at h
  · obtain ⟨hc, rfl⟩ := useF h
    exact (P_s_EqualMatrices _ _ _ _ _ _ hc).law fun n => T_s_EqualMatrices_ok n _ _ _ _ _ _
  · cases h
theorem law_i_SameEstimates : LawOk Go.Proofs.Try.prog lw_i_SameEstimates := by
  refine fnLaw (l := [lw_i_EqualVectors, lw_i_EqualMatrices]) (LawsOk.cons law_i_EqualVectors (LawsOk.cons law_i_EqualMatrices LawsOk.nil)) (Tab.ok tabOk) mixedOk Go.Proofs.Try.func32 (by kernel_rfl) (body := bodyOf Go.Proofs.Try.f32) (by kernel_rfl) sg_i_SameEstimates F_i_SameEstimates bs_i_SameEstimates (fun _ => false) (fun t => decide (t < 2) || [2, 3, 4].contains t) (fun n => loops_i_SameEstimates n) (fun args outs h => ?_)
  unfold F_i_SameEstimates at h
  split at h
  · obtain ⟨hc, rfl⟩ := useF h
    exact (P_i_SameEstimates _ _ _ _ _ _ _ _ hc).law fun n => T_i_SameEstimates_ok n _ _ _ _ _ _ _ _
  · cases h
theorem law_s_SameEstimates : LawOk Go.Proofs.Try.prog lw_s_SameEstimates := by
  refine fnLaw (l := [lw_s_EqualVectors, lw_s_EqualMatrices]) (LawsOk.cons law_s_EqualVectors (LawsOk.cons law_s_EqualMatrices LawsOk.nil)) (Tab.ok tabOk) mixedOk Go.Proofs.Try.func30 (by kernel_rfl) (body := bodyOf Go.Proofs.Try.f30) (by kernel_rfl) sg_s_SameEstimates F_s_SameEstimates bs_s_SameEstimates (fun _ => false) (fun t => decide (t < 2) || [2, 3, 4].contains t) (fun n => loops_s_SameEstimates n) (fun args outs h => ?_)
  unfold F_s_SameEstimates at h
  split at h
  · obtain ⟨hc, rfl⟩ := useF h
    exact (P_s_SameEstimates _ _ _ _ _ _ _ _ hc).law fun n => T_s_SameEstimates_ok n _ _ _ _ _ _ _ _
  · cases h
theorem law_s_l01In : LawOk Go.Proofs.Try.prog lw_s_l01In := by
  refine fnLaw (l := []) LawsOk.nil (Tab.ok tabOk) mixedOk Go.Proofs.Try.func34 (by kernel_rfl) (body := bodyOf Go.Proofs.Try.f34) (by kernel_rfl) sg_s_l01In F_s_l01In bs_s_l01In (fun _ => false) (fun t => decide (t < 3) || [6].contains t) (fun n => loops_s_l01In n) (fun args outs h => ?_)
  unfold F_s_l01In at h
  split at h
  · obtain ⟨hc, rfl⟩ := useF h
    exact (P_s_l01In _ _ _ hc).law fun n => T_s_l01In_ok n _ _ _
  · cases h
theorem law_i_PlanCost : LawOk Go.Proofs.Try.prog lw_i_PlanCost := by
  refine fnLaw (l := []) LawsOk.nil (Tab.ok tabOk) mixedOk Go.Proofs.Try.func27 (by kernel_rfl) (body := bodyOf Go.Proofs.Try.f27) (by kernel_rfl) sg_i_PlanCost F_i_PlanCost bs_i_PlanCost (fun _ => false) (fun t => decide (t < 2) || [4, 5, 7].contains t) (fun n => loops_i_PlanCost n) (fun args outs h => ?_)
  unfold F_i_PlanCost at h
  split at h
  · obtain ⟨hc, rfl⟩ := useF h
    exact (P_i_PlanCost _ _ hc).law fun n => T_i_PlanCost_ok n _ _
  · cases h
theorem law_s_PlanCost : LawOk Go.Proofs.Try.prog lw_s_PlanCost := by
  refine fnLaw (l := [lw_s_l01In]) (LawsOk.cons law_s_l01In LawsOk.nil) (Tab.ok tabOk) mixedOk Go.Proofs.Try.func25 (by kernel_rfl) (body := bodyOf Go.Proofs.Try.f25) (by kernel_rfl) sg_s_PlanCost F_s_PlanCost bs_s_PlanCost (fun _ => false) (fun t => decide (t < 2) || [4, 5, 7].contains t) (fun n => loops_s_PlanCost n) (fun args outs h => ?_)
  unfold F_s_PlanCost at h
  unfold F_i_PlanCost at h
  split at h
  · obtain ⟨hc, rfl⟩ := useF h
    exact (P_s_PlanCost _ _ hc).law fun n => T_s_PlanCost_ok n _ _
  · cases h
theorem law_w_FnExactPlanCost : LawOk Go.Proofs.Try.prog lw_w_FnExactPlanCost := by
  refine fnLaw (l := [lw_w_szCandidateS, lw_w_toCandidateS, lw_w_toIntS, lw_s_PlanCost, lw_i_PlanCost, lw_w_eqCandidateS, lw_w_eqIntS]) (LawsOk.cons law_w_szCandidateS (LawsOk.cons law_w_toCandidateS (LawsOk.cons law_w_toIntS (LawsOk.cons law_s_PlanCost (LawsOk.cons law_i_PlanCost (LawsOk.cons law_w_eqCandidateS (LawsOk.cons law_w_eqIntS LawsOk.nil))))))) (Tab.ok tabOk) mixedOk Go.Proofs.Try.func8 (by kernel_rfl) (body := bodyOf Go.Proofs.Try.f8) (by kernel_rfl) sg_w_FnExactPlanCost F_w_FnExactPlanCost bs_w_FnExactPlanCost (fun _ => false) (fun t => decide (t < 2) || [4, 5, 6, 7, 8, 9].contains t) (fun n => loops_w_FnExactPlanCost n) (fun args outs h => ?_)
  unfold F_w_FnExactPlanCost at h
  split at h
  · obtain ⟨hc, rfl⟩ := useF h
    exact (P_w_FnExactPlanCost _ _ hc).law fun n => T_w_FnExactPlanCost_ok n _ _
  · cases h
theorem law_w_FnExactSameEstimates : LawOk Go.Proofs.Try.prog lw_w_FnExactSameEstimates := by
  refine fnLaw (l := [lw_w_szEstimate, lw_w_toEstimate, lw_s_SameEstimates, lw_i_SameEstimates, lw_w_eqEstimate]) (LawsOk.cons law_w_szEstimate (LawsOk.cons law_w_toEstimate (LawsOk.cons law_s_SameEstimates (LawsOk.cons law_i_SameEstimates (LawsOk.cons law_w_eqEstimate LawsOk.nil))))) (Tab.ok tabOk) mixedOk Go.Proofs.Try.func9 (by kernel_rfl) (body := bodyOf Go.Proofs.Try.f9) (by kernel_rfl) sg_w_FnExactSameEstimates F_w_FnExactSameEstimates bs_w_FnExactSameEstimates (fun _ => false) (fun t => decide (t < 2) || [2, 3, 4, 5, 6, 7, 8, 9].contains t) (fun n => loops_w_FnExactSameEstimates n) (fun args outs h => ?_)
  unfold F_w_FnExactSameEstimates at h
  split at h
  · obtain ⟨hc, rfl⟩ := useF h
    exact (P_w_FnExactSameEstimates _ _ _ _ _ _ _ _ hc).law fun n => T_w_FnExactSameEstimates_ok n _ _ _ _ _ _ _ _
  · cases h
end
section
namespace Go.AM
open Go.RowKit
set_option linter.unusedVariables false

/-- fields that lie side by side, from an offset on -/
def fldsT (P : Program) (f : TypeId → Option (List LT)) : List Field → Nat → Option (List LT)
  | [], _ => some []
  | x :: xs, o => if x.offset = o then (f x.type).bind fun l => if P.cellsOf x.type = l.length then (fldsT P f xs (o + l.length)).map fun m => l ++ m else none else none
def shapeT (P : Program) : Nat → TypeId → Option (List LT)
  | 0, _ => none
  | n + 1, t => match P.underlying t with
    | some (.int k) => some [.int k]
    | some .bool => some [.bool]
    | some .string => some [.str]
    | some (.slice e) => (shapeT P n e).bind fun l => match l with
      | [] => none
      | t0 :: ts => if P.cellsOf e = (t0 :: ts).length then some [.sl (lvs.rowOf t0 ts)] else none
    | some (.struct F) => (fldsT P (shapeT P n) F.toList 0).bind fun l => if P.cellsOf t = l.length then some l else none
    | _ => none
mutual
def wfT : (t : LT) → t.den → Prop
  | .int k, n => (Lit.int k n).wf = true
  | .bool, _ => True
  | .str, s => s.size ≤ maxLen
  | .sl r, xs => xs.length ≤ maxLen ∧ ∀ x ∈ xs, wfR r x
def wfR : (r : Row) → r.den → Prop
  | .one t, x => wfT t x
  | .cons t r, x => wfT t x.1 ∧ wfR r x.2
end
def wfPs : List PL → Prop
  | [] => True
  | p :: ps => wfT p.t p.x ∧ wfPs ps
def Told (w : World) (l : List LT) (cs : List Value) : Prop := ∃ ps : List PL, ps.map (·.t) = l ∧ repPLs w (fun b => b < w.heap.size) ps cs ∧ wfPs ps
theorem rowOf_len (t : LT) : ∀ ts : List LT, (lvs.rowOf t ts).len = ts.length + 1 := by
  intro ts
  induction ts generalizing t with
  | nil => rfl
  | cons u us ih => show (lvs.rowOf u us).len + 1 = _; rw [ih]; rfl
theorem castT_self {t : LT} (x : t.den) : castT t t x = some x := by simp [castT]
theorem join_told (t : LT) : ∀ (ts : List LT) (ps : List PL), ps.map (·.t) = t :: ts → wfPs ps → ∃ x, joinRow (lvs.rowOf t ts) ps = some x ∧ wfR (lvs.rowOf t ts) x := by
  intro ts
  induction ts generalizing t with
  | nil =>
    intro ps h hw
    match ps, h, hw with
    | [⟨t', x⟩], h, hw =>
      have e : t' = t := by simpa using h
      subst e
      exact ⟨x, castT_self x, hw.1⟩
  | cons u us ih =>
    intro ps h hw
    match ps, h, hw with
    | ⟨t', x⟩ :: ps, h, hw =>
      have h1 : t' = t ∧ ps.map (·.t) = u :: us := by simpa using h
      obtain ⟨rfl, h1⟩ := h1
      obtain ⟨y, hy, hwy⟩ := ih u ps h1 hw.2
      refine ⟨(x, y), ?_, hw.1, hwy⟩
      show (castT _ _ x).bind _ = _
      rw [castT_self]
      show (joinRow (lvs.rowOf u us) ps).bind _ = _
      rw [hy]; rfl
theorem wfPs_append : ∀ (a b : List PL), wfPs a → wfPs b → wfPs (a ++ b)
  | [], _, _, h => h
  | _ :: a, b, h, k => ⟨h.1, wfPs_append a b h.2 k⟩
theorem mapM_range {α : Type} (f : Nat → Option α) : ∀ (n : Nat) (cs : List α), (List.range n).mapM f = some cs → cs.length = n ∧ ∀ i, i < n → f i = cs[i]?
  | 0, cs, h => by
    have : cs = [] := by simpa using h.symm
    subst this; exact ⟨rfl, fun i hi => by omega⟩
  | n + 1, cs, h => by
    rw [List.range_succ, List.mapM_append] at h
    simp only [List.mapM_cons, List.mapM_nil, Option.bind_eq_bind, Option.pure_def, Option.bind_eq_some_iff] at h
    obtain ⟨a, ha, b, ⟨c, hc, d, hd, e⟩, e2⟩ := h
    injection hd with hd; subst hd
    injection e with e; subst e
    injection e2 with e2; subst e2
    obtain ⟨h1, h2⟩ := mapM_range f n a ha
    refine ⟨by simp [h1], fun i hi => ?_⟩
    by_cases hn : i < n
    · rw [h2 i hn, List.getElem?_append_left (by omega)]
    · have : i = n := by omega
      subst this
      rw [hc, List.getElem?_append_right (by omega), h1]; simp
theorem cells_told {w : World} {a : Addr} {n : Nat} {cs : List Value} (h : w.cells? 0 a n = some cs) : cs.length = n ∧ ∀ j u, cs[j]? = some u → w.cell? (a.add j) = some u := by
  unfold World.cells? at h
  rw [if_pos (Nat.zero_le _)] at h
  obtain ⟨h1, h2⟩ := mapM_range _ _ _ h
  refine ⟨h1, fun j u hj => ?_⟩
  have : j < n := by rw [← h1]; exact (List.getElem?_eq_some_iff.mp hj).1
  rw [h2 j this]; exact hj
theorem cell_lt {w : World} {a : Addr} {u : Value} (h : w.cell? a = some u) : a.block < w.heap.size := by
  rcases Nat.lt_or_ge a.block w.heap.size with h1 | h1
  · exact h1
  · unfold World.cell? at h
    rw [Array.getElem?_eq_none h1] at h
    cases h
theorem add_block (a : Addr) (j : Nat) : (a.add j).block = a.block := by unfold Addr.add; split <;> rfl
section
variable {H : Type} {enc : TypeId × Value → H} {P : Program} {w : World} {spare : Nat → Bool} {held : Bool}
/-- rows, one by one -/
theorem rows_told {r : Row} {ad : Addr} (len : Nat) (hE : ∀ i, i < len → ∃ cs' x, w.cells? 0 (ad.add (i * r.len)) r.len = some cs' ∧ repRow w (fun b => b < w.heap.size) r x cs' ∧ wfR r x) : ∀ m, m ≤ len →
    ∃ (xs : List r.den) (cells : List Value), xs.length = m ∧ cells.length = m * r.len ∧ (∀ j u, cells[j]? = some u → w.cell? (ad.add j) = some u) ∧ repRowsP (repRow w (fun b => b < w.heap.size) r) xs cells ∧ ∀ x ∈ xs, wfR r x
  | 0, _ => ⟨[], [], rfl, by simp, fun j u h => by simp at h, rfl, fun x hx => by cases hx⟩
  | m + 1, hm => by
    obtain ⟨xs, cells, h1, h2, h3, h4, h5⟩ := rows_told len hE m (by omega)
    obtain ⟨cs', x, g1, g2, g3⟩ := hE m (by omega)
    obtain ⟨k1, k2⟩ := cells_told g1
    refine ⟨xs ++ [x], cells ++ cs', by simp [h1], by rw [List.length_append, h2, k1, Nat.add_mul, Nat.one_mul], fun j u hj => ?_, repRowsP_append _ _ _ _ h4 ⟨cs', [], by simp, g2, rfl⟩, fun y hy => ?_⟩
    · by_cases hl : j < cells.length
      · rw [List.getElem?_append_left hl] at hj; exact h3 j u hj
      · rw [List.getElem?_append_right (by omega)] at hj
        have := k2 _ u hj
        rw [add_add, ← h2] at this
        rw [← this]; congr 2; omega
    · rcases List.mem_append.mp hy with hy | hy
      · exact h5 y hy
      · have : y = x := by simpa using hy
        subst this; exact g3
theorem flds_told {n fuel : Nat} (ih : ∀ t l cs x, shapeT P n t = some l → DataW.trod enc P w 0 spare held fuel t cs = some x → Told w l cs) : ∀ (F : List Field) (o : Nat) (l : List LT) (cs : List Value),
    fldsT P (shapeT P n) F o = some l → (∀ f ∈ F, ∃ x, DataW.trod enc P w 0 spare held fuel f.type ((cs.drop f.offset).take (P.cellsOf f.type)) = some x) → cs.length = o + l.length → Told w l (cs.drop o)
  | [], o, l, cs, hl, hx, hn => by
    injection hl with hl; subst hl
    refine ⟨[], rfl, ?_, trivial⟩
    show cs.drop o = []
    exact List.drop_eq_nil_of_le (by simp at hn; omega)
  | f :: F, o, l, cs, hl, hx, hn => by
    unfold fldsT at hl
    split at hl
    case isFalse => cases hl
    rename_i ho
    obtain ⟨l1, h1, hl⟩ := Option.bind_eq_some_iff.1 hl
    split at hl
    case isFalse => cases hl
    rename_i hc
    obtain ⟨l2, h2, rfl⟩ := Option.map_eq_some_iff.1 hl
    obtain ⟨x, hx1⟩ := hx f (by simp)
    rw [ho, hc] at hx1
    rw [List.length_append] at hn
    obtain ⟨ps1, a1, a2, a3⟩ := ih _ _ _ _ h1 hx1
    obtain ⟨ps2, b1, b2, b3⟩ := flds_told ih F (o + l1.length) l2 cs h2 (fun g hg => hx g (List.mem_cons_of_mem _ hg)) (by omega)
    refine ⟨ps1 ++ ps2, by rw [List.map_append, a1, b1], ?_, wfPs_append _ _ a3 b3⟩
    have : cs.drop o = (cs.drop o).take l1.length ++ cs.drop (o + l1.length) := by
      rw [← List.drop_drop, List.take_append_drop]
    rw [this]
    exact repPLs_append _ _ _ _ a2 b2
theorem trod_told : ∀ (n fuel : Nat) (t : TypeId) (l : List LT) (cs : List Value) (x : DataW H × List MemPlace), shapeT P n t = some l → DataW.trod enc P w 0 spare held fuel t cs = some x → Told w l cs
  | 0, _, _, _, _, _, h, _ => by cases h
  | n + 1, 0, _, _, _, _, _, h => by cases h
  | n + 1, fuel + 1, t, l, cs, x, hs, h => by
    unfold shapeT at hs
    have h0 := h
    split at hs
    · rename_i k hu
      injection hs with hs; subst hs
      obtain ⟨k', rfl, _, hw⟩ := DataW.trod_int hu h
      exact ⟨[⟨.int k, k'⟩], rfl, ⟨_, [], rfl, rfl, rfl⟩, hw, trivial⟩
    · rename_i hu
      injection hs with hs; subst hs
      obtain ⟨b, rfl, _⟩ := DataW.trod_bool hu h
      exact ⟨[⟨.bool, b⟩], rfl, ⟨_, [], rfl, rfl, rfl⟩, trivial, trivial⟩
    · rename_i hu
      injection hs with hs; subst hs
      obtain ⟨s, rfl, _, hz⟩ := DataW.trod_string hu h
      exact ⟨[⟨.str, s⟩], rfl, ⟨_, [], rfl, rfl, rfl⟩, hz, trivial⟩
    · rename_i e hu
      obtain ⟨le, he, hs⟩ := Option.bind_eq_some_iff.1 hs
      split at hs
      · cases hs
      rename_i t0 ts
      split at hs
      case isFalse => cases hs
      rename_i hc
      injection hs with hs; subst hs
      have hrl : (lvs.rowOf t0 ts).len = P.cellsOf e := by rw [rowOf_len, hc]; rfl
      rcases Go.Deep.open_slice hu h with ⟨rfl, _⟩ | ⟨a, len, cap, m, n', Dd, Pl, rfl, _, hle, hcap, hm, _, hel⟩
      · exact ⟨[⟨.sl (lvs.rowOf t0 ts), []⟩], rfl, ⟨_, [], rfl, ⟨none, 0, [], rfl, Nat.le_refl _, by simp, fun hx => absurd rfl hx, rfl⟩, rfl⟩, ⟨Nat.zero_le _, fun x hx => by cases hx⟩, trivial⟩
      · have hlm : len ≤ m := by rw [hm]; split <;> omega
        have hE : ∀ i, i < len → ∃ cs' x, w.cells? 0 (a.add (i * (lvs.rowOf t0 ts).len)) (lvs.rowOf t0 ts).len = some cs' ∧ repRow w (fun b => b < w.heap.size) (lvs.rowOf t0 ts) x cs' ∧ wfR (lvs.rowOf t0 ts) x := by
          intro i hi
          obtain ⟨cs', g1, g2⟩ := hel i (by omega)
          rw [hrl]
          obtain ⟨ps, a1, a2, a3⟩ := trod_told n n' e (t0 :: ts) cs' _ he g2
          obtain ⟨y, hy, hw⟩ := join_told t0 ts ps a1 a3
          exact ⟨cs', y, g1, joinRow_rep _ _ _ hy _ a2, hw⟩
        obtain ⟨xs, cells, g1, g2, g3, g4, g5⟩ := rows_told len hE len (Nat.le_refl _)
        refine ⟨[⟨.sl (lvs.rowOf t0 ts), xs⟩], rfl, ⟨_, [], rfl, ⟨some a, cap, cells, by rw [g1], by rw [g1]; exact hle, by rw [g1]; exact g2, fun hx => ⟨a, rfl, ?_, g3⟩, g4⟩, rfl⟩, ⟨by rw [g1]; omega, g5⟩, trivial⟩
        have hl0 : 0 < cells.length := by
          rw [g2]; exact Nat.mul_pos (by rw [← g1]; exact List.length_pos_iff.mpr hx) (Row.len_pos _)
        have := cell_lt (g3 0 cells[0] (List.getElem?_eq_getElem hl0))
        rwa [add_block] at this
    · rename_i F hu
      obtain ⟨l', hl', hs⟩ := Option.bind_eq_some_iff.1 hs
      split at hs
      case isFalse => cases hs
      rename_i hc
      injection hs with hs; subst hs
      obtain ⟨xs, n', hfu, _, hcl, hxl, hf⟩ := DataW.trod_struct hu h
      have hfu' : n' = fuel := by omega
      subst hfu'
      have := flds_told (fun t l cs x => trod_told n n' t l cs x) F.toList 0 l' cs hl' (fun f hf' => by
        obtain ⟨i, hi, e⟩ := List.mem_iff_getElem.mp hf'
        have hi' : i < F.size := by simpa using hi
        have h1 := hf i f (by rw [Array.getElem?_eq_getElem hi']; rw [← e]; simp)
        rw [List.getElem?_eq_getElem (by omega)] at h1
        exact ⟨_, h1⟩) (by rw [hcl, hc]; omega)
      simpa using this
    · cases hs
end
end Go.AM
end
section
namespace Go.AM
open Go.RowKit Go.ChangeShapes Go.WideShapes
set_option linter.unusedVariables false

def kindOf (P : Program) (t : TypeId) : PK := match P.underlying t with
  | some (.struct _) => .agg
  | _ => .one
def parOf (P : Program) (t : TypeId) : Par := ⟨kindOf P t, [], [], []⟩
theorem ALs_of {w : World} {ok : Nat → Prop} : ∀ (ps : List PL) (vs : List Value), repPLs w ok ps vs → ALs w ok [] [] ps vs []
  | [], vs, h => ⟨h, rfl⟩
  | p :: ps, _, ⟨v, vs', e, h1, h2⟩ => ⟨v, vs', [], [], e, rfl, repT_one _ _ _ h1, ⟨rfl, h1⟩, ALs_of ps vs' h2⟩
section
variable {H : Type} {enc : TypeId × Value → H} {P : Program} {w : World} {spare : Nat → Bool} {held : Bool}
theorem arg_told {n : Nat} {t : TypeId} {l : List LT} {v : Value} {d : DataW H} {p : List MemPlace} (hs : shapeT P n t = some l) (h : DataW.Trod enc P w 0 spare held t v d p) (hv : Value.okWide P w .any 0 t v) :
    ∃ ps : List PL, ps.map (·.t) = l ∧ ACmp w (fun b => b < w.heap.size) (parOf P t) (.pls ps) v [] ∧ wfPs ps := by
  obtain ⟨fuel, h⟩ := h
  obtain ⟨ps, h1, h2, h3⟩ := trod_told n fuel t l _ _ hs h
  refine ⟨ps, h1, ?_, h3⟩
  unfold parOf kindOf ACmp
  cases hu : P.underlying t with
  | none =>
    cases n with
    | zero => cases hs
    | succ n => unfold shapeT at hs; rw [hu] at hs; cases hs
  | some u =>
    have hone : (∀ F, u ≠ .struct F) → ps.length = 1 → v.cells = #[v] → (match (match u with | .struct _ => PK.agg | _ => PK.one), (PA.pls ps) with
        | .one, .pls ps => ps.length = 1 ∧ ALs w (fun b => b < w.heap.size) [] [] ps [v] []
        | .agg, .pls ps => ∃ vs, v = .agg vs ∧ ALs w (fun b => b < w.heap.size) [] [] ps vs.toList []
        | .ptr, .pls ps => ([] : List Value) = [] ∧ RPtr w (fun b => b < w.heap.size) ps v
        | .fn, .fn f caps => ([] : List Value) = [] ∧ ∃ vs, v = .func (.func f) #[] vs ∧ RCaps w (fun b => b < w.heap.size) caps vs.toList
        | _, _ => False) := by
      intro hF hl hc
      rw [hc] at h2
      cases u <;> first | exact absurd rfl (hF _) | exact ⟨hl, ALs_of _ _ h2⟩
    cases n with
    | zero => cases hs
    | succ n =>
      unfold shapeT at hs
      rw [hu] at hs
      cases u with
      | struct F =>
        unfold Value.okWide at hv
        rw [hu] at hv
        obtain ⟨cs, rfl, _, _⟩ := hv
        exact ⟨cs, rfl, ALs_of _ _ h2⟩
      | int k =>
        injection hs with hs; subst hs
        have hl : ps.length = 1 := by simpa using congrArg List.length h1
        refine hone (by simp) hl ?_
        obtain ⟨x, rfl⟩ := okWide_int hu hv
        rfl
      | bool =>
        injection hs with hs; subst hs
        have hl : ps.length = 1 := by simpa using congrArg List.length h1
        refine hone (by simp) hl ?_
        obtain ⟨x, rfl⟩ := okWide_bool hu hv
        rfl
      | string =>
        injection hs with hs; subst hs
        have hl : ps.length = 1 := by simpa using congrArg List.length h1
        refine hone (by simp) hl ?_
        obtain ⟨x, rfl⟩ := okWide_string hu hv
        rfl
      | slice e =>
        obtain ⟨l', _, hs⟩ := Option.bind_eq_some_iff.1 hs
        split at hs
        · cases hs
        · split at hs
          · injection hs with hs; subst hs
            have hl : ps.length = 1 := by simpa using congrArg List.length h1
            refine hone (by simp) hl ?_
            obtain ⟨A, m, c, rfl⟩ := okWide_slice hu hv
            rfl
          · cases hs
      | _ => cases hs
theorem args_told {n : Nat} : ∀ (ts : List TypeId) (ls : List (List LT)) (vs : List Value) (ds : List (DataW H)) (p : List MemPlace), ts.map (shapeT P n) = ls.map some → DataW.TrodAll enc P w 0 spare held ts vs ds p →
    (∀ (j : Nat) t v, ts[j]? = some t → vs[j]? = some v → Value.okWide P w .any 0 t v) →
    ∃ pas : List (List PL), pas.map (fun ps => ps.map (·.t)) = ls ∧ AArgs w (fun b => b < w.heap.size) (ts.map (parOf P)) (pas.map .pls) vs [] ∧ ∀ x ∈ pas, wfPs x
  | [], ls, vs, ds, p, hl, h, _ => by
    obtain ⟨rfl, rfl, rfl⟩ := trodAll_nil h
    have : ls = [] := by simpa using hl.symm
    subst this
    exact ⟨[], rfl, ⟨rfl, rfl, rfl⟩, fun x hx => by cases hx⟩
  | t :: ts, ls, vs, ds, p, hl, h, hv => by
    obtain ⟨v, vs', d, ds', q, q', rfl, rfl, rfl, h1, h2⟩ := trodAll_cons h
    cases ls with
    | nil => simp at hl
    | cons l ls =>
      simp only [List.map_cons, List.cons.injEq] at hl
      obtain ⟨ps, a1, a2, a3⟩ := arg_told hl.1 h1 (hv 0 t v rfl rfl)
      obtain ⟨pas, b1, b2, b3⟩ := args_told ts ls vs' ds' q' hl.2 h2 (fun j t v hj hj' => hv (j + 1) t v hj hj')
      refine ⟨ps :: pas, by simp [a1, b1], ⟨_, _, v, vs', [], [], rfl, rfl, rfl, a2, b2⟩, fun x hx => ?_⟩
      rcases List.mem_cons.mp hx with rfl | hx
      · exact a3
      · exact b3 x hx
end
theorem belowAll {H : Type} {enc : TypeId × Value → H} {P : Program} (hl : laidOutB P = true) {W W' : World} (hb : Below W.heap.size W W') : ∀ (ts : List TypeId) (vs : List Value) (ds : List (DataW H)) (p : List MemPlace), (ts.all fun t => P.readableRec t && decide (t < P.types.size)) = true →
    DataW.TrodAll enc P W 0 (fun _ => true) true ts vs ds p → (∀ x ∈ p, x.block < W.heap.size) → DataW.TrodAll enc P W' 0 (fun b => decide (b < W.heap.size)) true ts vs ds p
  | [], vs, ds, p, _, h, _ => by
    obtain ⟨rfl, rfl, rfl⟩ := trodAll_nil h
    exact trodAll_mk0
  | t :: ts, vs, ds, p, hr, h, hlt => by
    obtain ⟨v, vs', d, ds', q, q', rfl, rfl, rfl, h1, h2⟩ := trodAll_cons h
    simp only [List.all_cons, Bool.and_eq_true, decide_eq_true_eq] at hr
    exact trodAll_cons_mk (Below.trod hl hr.1.1 hr.1.2 h1 hb (fun x hx => hlt x (List.mem_append_left _ hx))) (belowAll hl hb ts vs' ds' q' hr.2 h2 (fun x hx => hlt x (List.mem_append_right _ hx)))
/-- a function of arguments that are read, that answers true -/
theorem call_told {H : Type} {enc : TypeId × Value → H} {P : Program} {W : World} {spare : Nat → Bool} {held : Bool} {n : Nat} {f : FuncId} {F : FnT} {sig : Sig} {ts : List TypeId} {ls : List (List LT)} (hlaw : LawOk P ⟨f, sig, F⟩) (hsig : sig = ⟨ts.map (parOf P), [⟨.one, [], [], []⟩]⟩)
    (hls : ts.map (shapeT P n) = ls.map some) (hF : ∀ pas : List (List PL), pas.map (fun ps => ps.map (·.t)) = ls → (∀ x ∈ pas, wfPs x) → F (pas.map .pls) = some (true, [[⟨.bool, true⟩]]))
    {args : Array Value} {ds : List (DataW H)} {p : List MemPlace} (h : DataW.TrodAll enc P W 0 spare held ts args.toList ds p) (hv : ∀ (j : Nat) t v, ts[j]? = some t → args[j]? = some v → Value.okWide P W .any 0 t v) :
    Calls P f args W fun e W' => e = .returned (.bool true) ∧ Below W.heap.size W W' := by
  obtain ⟨pas, h1, h2, h3⟩ := args_told ts ls args.toList ds p hls h (fun j t v hj hj' => hv j t v hj (by simpa using hj'))
  subst hsig
  have hFn : F.fn (pas.map .pls) = some [[⟨.bool, true⟩]] := by
    unfold FnT.fn
    rw [hF pas h1 h3]; rfl
  have hsp := hlaw.spec (pas.map .pls) _ hFn W args [] (fun b => b < W.heap.size) (fun b hb => ⟨hb, fun hh => by obtain ⟨v, hv, _⟩ := hh; cases hv⟩) (fun b hb => by obtain ⟨v, hv, _⟩ := hb; cases hv) (fun i j b u v hu => by simp at hu) h2
  refine hsp.mono fun e W' hp => ?_
  obtain ⟨v, vs, ws, ok', rfl, rfl, ha, hk, _⟩ := hp
  obtain ⟨pa, pas', u, us, o1, o2, e1, e2, e3, hc, hr⟩ := ha
  simp only [List.map_cons, List.map_nil, List.cons.injEq] at e1
  obtain ⟨rfl, rfl⟩ := e1
  obtain ⟨_, rfl, _⟩ := hr
  subst e2
  unfold ACmp at hc
  obtain ⟨_, hc⟩ := hc
  obtain ⟨v1, vs1, q1, q2, e4, _, _, hl, _⟩ := hc
  injection e4 with e4 _
  subst e4
  have : u = .bool true := hl.2
  subst this
  exact ⟨rfl, hk.os, hk.tape, hk.output, hk.size, fun k hk' => hk.block k hk' (fun hh => by obtain ⟨v, hv, _⟩ := hh; cases hv)⟩
end Go.AM
end
section
open Go Go.AM
mutual
theorem wlT_of_wf : ∀ (t : LT) (x : t.den), wfT t x → C0.wlT t x = true
  | .int _, _, _ => rfl
  | .bool, _, _ => rfl
  | .str, s, h => by
    rw [C0.wlT_str]
    have h' : s.size ≤ maxLen := h
    exact decide_eq_true (by unfold maxLen at h'; omega)
  | .sl r, xs, h => by
    obtain ⟨h1, h2⟩ := (show xs.length ≤ maxLen ∧ ∀ x ∈ xs, wfR r x from h)
    rw [C0.wlT_sl, Bool.and_eq_true]
    exact ⟨decide_eq_true (by unfold maxLen at h1; omega), List.all_eq_true.mpr fun x hx => wlR_of_wf r x (h2 x hx)⟩
theorem wlR_of_wf : ∀ (r : Row) (x : r.den), wfR r x → C0.wlR r x = true
  | .one t, x, h => wlT_of_wf t x h
  | .cons t r, x, h => by
    obtain ⟨h1, h2⟩ := (show wfT t x.1 ∧ wfR r x.2 from h)
    rw [C0.wlR_cons, wlT_of_wf t x.1 h1, wlR_of_wf r x.2 h2]; rfl
end
theorem wl_of_wf : ∀ (ps : List PL), wfPs ps → C0.wl ps = true
  | [], _ => rfl
  | ⟨t, x⟩ :: ps, h => by rw [C0.wl_cons, wlT_of_wf t x h.1, wl_of_wf ps h.2]; rfl
end
section
namespace Go.Proofs.Ytagcgafddchobaa.fnExactSameEstimates
open Go.ChangeShapes Go.WideShapes Go.ChangeAt Go.RowKit Go.AM
set_option linter.unusedVariables false
set_option maxRecDepth 1000000
theorem own : ownKnob Try.prog.godebug = none := by kernel_rfl
theorem laid : laidOutB Try.prog = true := by kernel_rfl
theorem told (pas : List (List PL)) (h1 : pas.map (fun ps => ps.map (·.t)) = [[.sl RRat, i6, i6, .sl RRat], [.sl RRat, i6, i6, .sl RRat]]) (h2 : ∀ x ∈ pas, wfPs x) : F_w_FnExactSameEstimates (pas.map .pls) = some (true, [[⟨.bool, true⟩]]) := by
  match pas, h1, h2 with
  | [[⟨t1, a0⟩, ⟨t2, a1⟩, ⟨t3, a2⟩, ⟨t4, a3⟩], [⟨t5, b0⟩, ⟨t6, b1⟩, ⟨t7, b2⟩, ⟨t8, b3⟩]], h1, h2 =>
    simp only [List.map_cons, List.map_nil, List.cons.injEq, and_true] at h1
    obtain ⟨⟨rfl, rfl, rfl, rfl⟩, rfl, rfl, rfl, rfl⟩ := h1
    have ha := wl_of_wf _ (h2 [⟨.sl RRat, a0⟩, ⟨i6, a1⟩, ⟨i6, a2⟩, ⟨.sl RRat, a3⟩] (by simp))
    have hb := wl_of_wf _ (h2 [⟨.sl RRat, b0⟩, ⟨i6, b1⟩, ⟨i6, b2⟩, ⟨.sl RRat, b3⟩] (by simp))
    show some (C.wl [⟨.sl RRat, a0⟩, ⟨i6, a1⟩, ⟨i6, a2⟩, ⟨.sl RRat, a3⟩] && C.wl [⟨.sl RRat, b0⟩, ⟨i6, b1⟩, ⟨i6, b2⟩, ⟨.sl RRat, b3⟩], _) = _
    rw [C.wl_eq, ha, hb]; rfl
theorem lifted (os : Os) (started : os.Started) (H : Type) (enc : TypeId × Value → H) :
    ReturnsInHanded {} Try.checked os 9 .any (Rows.fnExactSameEstimatesSpec.pre6 enc Try.prog Try.f9 Rows.fnExactSameEstimatesRow.domain false) (Rows.fnExactSameEstimatesSpec.post enc Try.prog Try.f9 false true false false) := by
  refine returnsInHanded_of_change_sized (C := Try.checked) own started (by kernel_rfl) Try.func9
    (ChangeSpec.witness6 (enc := enc) (C := Try.checked) false ⟨#[], #[.agg #[.slice none 0 0, .int .i64 0, .int .i64 0, .slice none 0 0], .agg #[.slice none 0 0, .int .i64 0, .int .i64 0, .slice none 0 0]], []⟩ 8 (by kernel_rfl) (by kernel_rfl) (by kernel_rfl) (by kernel_rfl)) ?_
  intro W base args ds gs before hval0 hW hcnd hsz0 _
  clear hsz0 hcnd
  have hval : ∀ (j : Nat) t v, Try.f9.params.toList[j]? = some t → args[j]? = some v → Value.okWide Try.prog W .any 0 t v := fun j t v hj hv => (hval0 j t v (by simpa using hj) hv)
  have hW' := hW
  obtain ⟨p, q, hA0, hV, rfl, hfz, hnd⟩ := hW
  obtain ⟨rfl, rfl⟩ := trodVars_none hV
  have hlt : ∀ x ∈ p, x.block < W.heap.size := fun x hx => by simpa using hW'.lt x (List.mem_append_left _ hx)
  have hA : DataW.TrodAll enc Try.prog W 0 (fun _ => true) true Try.f9.params.toList args.toList ds p := hA0
  refine (call_told (n := 20) law_w_FnExactSameEstimates (ts := Try.f9.params.toList) (ls := [[.sl RRat, i6, i6, .sl RRat], [.sl RRat, i6, i6, .sl RRat]]) (by kernel_rfl) (by kernel_rfl) (fun pas h1 h2 => told pas h1 h2) hA hval).mono fun e W' ⟨he, bel⟩ => ?_
  subst he
  have hB := belowAll laid bel Try.f9.params.toList args.toList ds p (by kernel_rfl) hA hlt
  rw [Try.params9] at hA
  obtain ⟨v0, vs0, d0, ds0, p0, q0, hv0, rfl, rfl, h0, r0⟩ := trodAll_cons hA
  obtain ⟨v1, vs1, d1, ds1, p1, q1, hv1, rfl, rfl, h1, r1⟩ := trodAll_cons r0
  obtain ⟨_, rfl, rfl⟩ := trodAll_nil r1
  exact ⟨_, rfl, _, _, _, [], _, [], hW', trodAll_mk1 (shut_bool Try.underlying4 _), hB, rfl, bel.frame _, fun h => by cases h⟩
theorem over : Rows.fnExactSameEstimatesRow.holds Try.pinned (OpenSpec.ofChange Rows.fnExactSameEstimatesSpec) :=
  OpenClaim.holds_of_wide 9 Try.f9 rfl rfl rfl rfl rfl rfl rfl ⟨rfl, rfl, rfl, rfl, rfl⟩ rfl rfl rfl rfl rfl (by kernel_rfl) Try.func9 (by kernel_rfl)
    (of_decide_eq_true (by kernel_rfl)) (by unfold Func.isWrapper; first | (rw [if_pos (by decide +kernel)]; kernel_rfl) | (rw [if_neg (by decide +kernel)]; exact ⟨rfl, rfl⟩))
    (fun os started H enc _ => lifted os started H enc)
theorem proved : Rows.FnExactSameEstimatesSaid := over
end Go.Proofs.Ytagcgafddchobaa.fnExactSameEstimates
namespace Go.Proofs.Ytagcgafddchobaa
/-- The row, under a short name, for the claim. -/
theorem fnExactSameEstimates_holds : Rows.FnExactSameEstimatesSaid := fnExactSameEstimates.proved
end Go.Proofs.Ytagcgafddchobaa
end
