/-
  What the facts on services say.
-/
import Derived.Test.YtchlimkophmjlaaLawG
import Derived.Test.YtchlimkophmjlaaLawE
namespace Go.Proofs.Ytchlimkophmjlaa
namespace V
theorem gchar {c : T_api_Char} (h : G_T_api_Char c) : COk c := ⟨guuid h.1, gbytes h.2.2.2.1, glen h.2.2.2.1, fun d hd => gattr (h.2.2.2.2.2 d hd), glen h.2.2.2.2⟩
theorem gsvc {s : T_api_Service} (h : G_T_api_Service s) : SOk s := ⟨guuid h.1, fun c hc => gchar (h.2.2.2 c hc), glen h.2.2⟩
theorem glist {l : List T_api_Service} (h : GAll G_T_api_Service l) : LOk l := ⟨fun s hs => gsvc (h.2 s hs), glen h⟩
end V
end Go.Proofs.Ytchlimkophmjlaa
