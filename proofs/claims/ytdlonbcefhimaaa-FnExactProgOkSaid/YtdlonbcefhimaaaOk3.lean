import Derived.Test.YtdlonbcefhimaaaD3
import Derived.Test.YtdlonbcefhimaaaProg
namespace Go.Proofs.Ytdlonbcefhimaaa.XD
open Go
set_option linter.all false
theorem ok3 : okFun Try.prog Try.f3 d3 = true := by kernel_rfl
theorem ok14 : okFun Try.prog Try.f14 d14 = true := by kernel_rfl
theorem ok15 : okFun Try.prog Try.f15 d15 = true := by kernel_rfl
theorem ok16 : okFun Try.prog Try.f16 d16 = true := by kernel_rfl
theorem ok17 : okFun Try.prog Try.f17 d17 = true := by kernel_rfl
theorem ok18 : okFun Try.prog Try.f18 d18 = true := by kernel_rfl
theorem ok38 : okFun Try.prog Try.f38 d38 = true := by kernel_rfl
theorem ok39 : okFun Try.prog Try.f39 d39 = true := by kernel_rfl
theorem ok40 : okFun Try.prog Try.f40 d40 = true := by kernel_rfl
theorem ok41 : okFun Try.prog Try.f41 d41 = true := by kernel_rfl
theorem ok42 : okFun Try.prog Try.f42 d42 = true := by kernel_rfl
theorem ok43 : okFun Try.prog Try.f43 d43 = true := by kernel_rfl
theorem ok44 : okFun Try.prog Try.f44 d44 = true := by kernel_rfl
theorem ok45 : okFun Try.prog Try.f45 d45 = true := by kernel_rfl
theorem ok60 : okFun Try.prog Try.f60 d60 = true := by kernel_rfl
theorem ok61 : okFun Try.prog Try.f61 d61 = true := by kernel_rfl
theorem ok62 : okFun Try.prog Try.f62 d62 = true := by kernel_rfl
theorem ok63 : okFun Try.prog Try.f63 d63 = true := by kernel_rfl
theorem ok64 : okFun Try.prog Try.f64 d64 = true := by kernel_rfl
theorem ok65 : okFun Try.prog Try.f65 d65 = true := by kernel_rfl
theorem ok66 : okFun Try.prog Try.f66 d66 = true := by kernel_rfl
theorem ok67 : okFun Try.prog Try.f67 d67 = true := by kernel_rfl
theorem ok68 : okFun Try.prog Try.f68 d68 = true := by kernel_rfl
theorem ok69 : okFun Try.prog Try.f69 d69 = true := by kernel_rfl
theorem ok80 : okFun Try.prog Try.f80 d80 = true := by kernel_rfl
theorem ok81 : okFun Try.prog Try.f81 d81 = true := by kernel_rfl
theorem ok127 : okFun Try.prog Try.f127 d127 = true := by kernel_rfl
theorem ok128 : okFun Try.prog Try.f128 d128 = true := by kernel_rfl
theorem ok129 : okFun Try.prog Try.f129 d129 = true := by kernel_rfl
theorem ok130 : okFun Try.prog Try.f130 d130 = true := by kernel_rfl
theorem ok131 : okFun Try.prog Try.f131 d131 = true := by kernel_rfl
theorem ok132 : okFun Try.prog Try.f132 d132 = true := by kernel_rfl
theorem ok134 : okFun Try.prog Try.f134 d134 = true := by kernel_rfl
theorem ok135 : okFun Try.prog Try.f135 d135 = true := by kernel_rfl
theorem ok136 : okFun Try.prog Try.f136 d136 = true := by kernel_rfl
theorem ok137 : okFun Try.prog Try.f137 d137 = true := by kernel_rfl
theorem ok138 : okFun Try.prog Try.f138 d138 = true := by kernel_rfl
theorem mixed : Try.prog.follows .mixedOrders = true := by kernel_rfl
theorem envOK : EnvOK Try.prog E where
  mix := mixed
  fn := fun f d h => by
    simp only [E, List.lookup] at h
    repeat' (split at h)
    all_goals first | (cases h; done) | skip
    all_goals (injection h with h; subst h; rename_i he; simp at he; subst he)
    · exact ⟨_, Try.func3, ok3⟩
    · exact ⟨_, Try.func14, ok14⟩
    · exact ⟨_, Try.func15, ok15⟩
    · exact ⟨_, Try.func16, ok16⟩
    · exact ⟨_, Try.func17, ok17⟩
    · exact ⟨_, Try.func18, ok18⟩
    · exact ⟨_, Try.func38, ok38⟩
    · exact ⟨_, Try.func39, ok39⟩
    · exact ⟨_, Try.func40, ok40⟩
    · exact ⟨_, Try.func41, ok41⟩
    · exact ⟨_, Try.func42, ok42⟩
    · exact ⟨_, Try.func43, ok43⟩
    · exact ⟨_, Try.func44, ok44⟩
    · exact ⟨_, Try.func45, ok45⟩
    · exact ⟨_, Try.func60, ok60⟩
    · exact ⟨_, Try.func61, ok61⟩
    · exact ⟨_, Try.func62, ok62⟩
    · exact ⟨_, Try.func63, ok63⟩
    · exact ⟨_, Try.func64, ok64⟩
    · exact ⟨_, Try.func65, ok65⟩
    · exact ⟨_, Try.func66, ok66⟩
    · exact ⟨_, Try.func67, ok67⟩
    · exact ⟨_, Try.func68, ok68⟩
    · exact ⟨_, Try.func69, ok69⟩
    · exact ⟨_, Try.func80, ok80⟩
    · exact ⟨_, Try.func81, ok81⟩
    · exact ⟨_, Try.func127, ok127⟩
    · exact ⟨_, Try.func128, ok128⟩
    · exact ⟨_, Try.func129, ok129⟩
    · exact ⟨_, Try.func130, ok130⟩
    · exact ⟨_, Try.func131, ok131⟩
    · exact ⟨_, Try.func132, ok132⟩
    · exact ⟨_, Try.func134, ok134⟩
    · exact ⟨_, Try.func135, ok135⟩
    · exact ⟨_, Try.func136, ok136⟩
    · exact ⟨_, Try.func137, ok137⟩
    · exact ⟨_, Try.func138, ok138⟩
  prim := fun f p h => by cases h
end Go.Proofs.Ytdlonbcefhimaaa.XD
