/- The numbers under which this dump holds sync.Mutex (seat 18.D; literal numbers). -/
import Derived.Test.YtoigoiefnapokaaDoorGKWrite
import Derived.Conc.MuLone
import Derived.KernelRfl
namespace Go.Proofs.YtoigoiefnapokaaDoor.T
abbrev muLink : Go.Conc.Locks.MuLink := { lock := 25, unlock := 26, ilock := 34, iunlock := 35, lockSlow := 46, unlockSlow := 49, disable := 42, enable := 44, acquire := 45, relMerge := 47, cas32 := 43, add32 := 48, tMutex := 62, tIMutex := 60, tPMutex := 82, tPIMutex := 91, tPI32 := 93, tUP := 95, tNoCopy := 57, tU32 := 58 }
theorem muLib : Go.Conc.Locks.MuLib Tryd.prog muLink :=
  ⟨Tryd.func25, Tryd.func26, Tryd.func34, Tryd.func35, Tryd.func42, Tryd.func44, Tryd.func45, Tryd.func47, Tryd.func43, Tryd.func48, Tryd.underlying60, Tryd.runUnderlying60, Tryd.sizeOf60, Tryd.isAgg60, Tryd.zeroValue60, Tryd.underlying62, Tryd.runUnderlying62, Tryd.sizeOf62, Tryd.isAgg62, Tryd.zeroValue62, Tryd.underlying82, Tryd.runUnderlying82, Tryd.sizeOf82, Tryd.isAgg82, Tryd.zeroValue82, Tryd.underlying91, Tryd.runUnderlying91, Tryd.sizeOf91, Tryd.isAgg91, Tryd.zeroValue91, Tryd.underlying93, Tryd.runUnderlying93, Tryd.sizeOf93, Tryd.isAgg93, Tryd.zeroValue93, Tryd.underlying95, Tryd.runUnderlying95, Tryd.sizeOf95, Tryd.isAgg95, Tryd.zeroValue95, Tryd.underlying57, Tryd.runUnderlying57, Tryd.sizeOf57, Tryd.isAgg57, Tryd.zeroValue57, Tryd.underlying21, Tryd.runUnderlying21, Tryd.sizeOf21, Tryd.isAgg21, Tryd.zeroValue21, (by kernel_rfl)⟩
end Go.Proofs.YtoigoiefnapokaaDoor.T
