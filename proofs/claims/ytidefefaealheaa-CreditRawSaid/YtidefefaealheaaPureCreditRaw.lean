/- Nothing is taken that was not granted, and what is granted at once to a service is cut to the most: true for every pair of numbers. -/
import Derived.Test.YtidefefaealheaaPCreditRawx1
import Derived.Test.YtidefefaealheaaAid
import Derived.KernelRfl
namespace Go.Proofs.Ytidefefaealheaa.Pure
open Go.RowKit Go.Proofs.Ytidefefaealheaa.PCreditRaw Go.Proofs.YtidefefaealheaaW.PrintWords Go.Proofs.YtidefefaealheaaW.PrintLast Go.Proofs.Ytidefefaealheaa.Aid

theorem CreditRaw : cablewaylaw21_CreditRaw.Pure := by
  intro a0 a1 _ _
  have hb : 0 ≤ mn (mx a0 0) 16 ∧ mn (mx a0 0) 16 ≤ 16 := by unfold mn mx; split <;> split <;> omega
  have h : wrap64 (0 + mn (mx a0 0) 16) = mn (mx a0 0) 16 := by unfold wrap64; omega
  have h2 : wrap64 (mn (mx a0 0) 16 - 0) = mn (mx a0 0) 16 := by unfold wrap64; omega
  have h3 : wrap64 0 = 0 := by kernel_rfl
  have ha : cablewaylaw21_awake.f = some true := by kernel_rfl
  simp only [cablewaylaw21_CreditRaw.f, credit_New.f, credit_Window.f, credit_Client_Take.f, credit_Server_More.f, credit_Server_Send.f, ha, credit_Client_Out.f, credit_Server_Left.f, h, Option.bind_some, h2]
  simp [h3]
end Go.Proofs.Ytidefefaealheaa.Pure
