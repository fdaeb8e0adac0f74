/-
  DERIVED. GIVEN WITH THE SEED: THE CARDS: each row of YthfncbnokjikfaaDoorRows.lean that lists a variable, with what it lists TIED to the program's text (the seventh form; the later family's looks); each row that meets fmt, with fmt's text TOLD by the authors' own Lean function (tested against real Go, not proved from fmt's source: count such statements apart). THE CARD IS WHAT COUNTS. Prove the row's statement (the work); the ties are given (YthfncbnokjikfaaDoorTie.lean); close each card by the builder's one call (the guide's Derived/Test/ToyasCard.lean, 'card_holds'). Laid BY PROGRAM, IN A SANDBOX (cutbox-door.mjs). By AI agents, Wed Nov 11 2026. No macro, syntax, notation, axiom, sorry.
-/
import Derived.Test.YthfncbnokjikfaaDoorRows
import GoSem.ClaimSeven
namespace Go.Proofs.YthfncbnokjikfaaDoor
namespace Rows

/-- THE TIED CARD OF 'groatlaw11.RouteLonger'. -/
def routeLongerCard : Claim7 := { stood := { row := routeLongerRow, standIns := [], harness := (true, "4aa44f361b4125baee1bdd373a51d4353d96bfedbeb1fe07c815235b5180d30e"), looks := true }, kinds := [], alts := [], laidByText := true, laidKinds := [.data, .pinned], laidTests := true, laidLooks := .later }
def RouteLongerCardSaid : Prop := Claim7.holds Tryd.pinned (.plain (OpenSpec.ofChange routeLongerSpec)) routeLongerCard

/-- THE TIED CARD OF 'groatlaw11.RouteOrder'. -/
def routeOrderCard : Claim7 := { stood := { row := routeOrderRow, standIns := [], harness := (true, "4aa44f361b4125baee1bdd373a51d4353d96bfedbeb1fe07c815235b5180d30e"), looks := true }, kinds := [], alts := [], laidByText := true, laidKinds := [.data, .pinned], laidTests := true, laidLooks := .later }
def RouteOrderCardSaid : Prop := Claim7.holds Tryd.pinned (.plain (OpenSpec.ofChange routeOrderSpec)) routeOrderCard

/-- THE TIED CARD OF 'groatlaw11.RouteOwn'. -/
def routeOwnCard : Claim7 := { stood := { row := routeOwnRow, standIns := [], harness := (true, "4aa44f361b4125baee1bdd373a51d4353d96bfedbeb1fe07c815235b5180d30e"), looks := true }, kinds := [], alts := [], laidByText := true, laidKinds := [.data, .pinned], laidTests := true, laidLooks := .later }
def RouteOwnCardSaid : Prop := Claim7.holds Tryd.pinned (.plain (OpenSpec.ofChange routeOwnSpec)) routeOwnCard

/-- THE TIED CARD OF 'groatlaw11.RoutePlays'. -/
def routePlaysCard : Claim7 := { stood := { row := routePlaysRow, standIns := [], harness := (true, "4aa44f361b4125baee1bdd373a51d4353d96bfedbeb1fe07c815235b5180d30e"), looks := true }, kinds := [], alts := [], laidByText := true, laidKinds := [.data, .pinned], laidTests := true, laidLooks := .later }
def RoutePlaysCardSaid : Prop := Claim7.holds Tryd.pinned (.plain (OpenSpec.ofChange routePlaysSpec)) routePlaysCard

/-- THE SECOND FORM's CARD OF 'groatlaw11.RouteLonger'. -/
def routeLongerUptoCard : Claim7 := { stood := { row := routeLongerUptoRow, standIns := [], harness := (true, "4aa44f361b4125baee1bdd373a51d4353d96bfedbeb1fe07c815235b5180d30e"), looks := true }, kinds := [], alts := [], laidByText := true, laidKinds := [.data, .pinned], laidTests := true, laidLooks := .later }
def RouteLongerUptoCardSaid : Prop := Claim7.holds Tryd.pinned (.plain (OpenSpec.upto routeLongerSpec)) routeLongerUptoCard

/-- THE SECOND FORM's CARD OF 'groatlaw11.RouteOrder'. -/
def routeOrderUptoCard : Claim7 := { stood := { row := routeOrderUptoRow, standIns := [], harness := (true, "4aa44f361b4125baee1bdd373a51d4353d96bfedbeb1fe07c815235b5180d30e"), looks := true }, kinds := [], alts := [], laidByText := true, laidKinds := [.data, .pinned], laidTests := true, laidLooks := .later }
def RouteOrderUptoCardSaid : Prop := Claim7.holds Tryd.pinned (.plain (OpenSpec.upto routeOrderSpec)) routeOrderUptoCard

/-- THE SECOND FORM's CARD OF 'groatlaw11.RouteOwn'. -/
def routeOwnUptoCard : Claim7 := { stood := { row := routeOwnUptoRow, standIns := [], harness := (true, "4aa44f361b4125baee1bdd373a51d4353d96bfedbeb1fe07c815235b5180d30e"), looks := true }, kinds := [], alts := [], laidByText := true, laidKinds := [.data, .pinned], laidTests := true, laidLooks := .later }
def RouteOwnUptoCardSaid : Prop := Claim7.holds Tryd.pinned (.plain (OpenSpec.upto routeOwnSpec)) routeOwnUptoCard

/-- THE SECOND FORM's CARD OF 'groatlaw11.RoutePlays'. -/
def routePlaysUptoCard : Claim7 := { stood := { row := routePlaysUptoRow, standIns := [], harness := (true, "4aa44f361b4125baee1bdd373a51d4353d96bfedbeb1fe07c815235b5180d30e"), looks := true }, kinds := [], alts := [], laidByText := true, laidKinds := [.data, .pinned], laidTests := true, laidLooks := .later }
def RoutePlaysUptoCardSaid : Prop := Claim7.holds Tryd.pinned (.plain (OpenSpec.upto routePlaysSpec)) routePlaysUptoCard
end Rows
end Go.Proofs.YthfncbnokjikfaaDoor
