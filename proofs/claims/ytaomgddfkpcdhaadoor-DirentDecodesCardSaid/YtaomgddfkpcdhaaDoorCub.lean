import Derived.Test.YtaomgddfkpcdhaaDoorCur
/-! The writer of package cursor, further: Raw, Text, Pad, Bytes. -/
namespace Go.Proofs.YtaomgddfkpcdhaaDoor
open Go.RowKit Go.Proofs.YtaomgddfkpcdhaaDoorW.PrintWords
end Go.Proofs.YtaomgddfkpcdhaaDoor
