import Derived.Test.YtlapbjdhekcipaaGreatProg
import Derived.Shelf.Abstract
import Derived.Test.YtlapbjdhekcipaaGreatXE
set_option linter.unusedVariables false
set_option linter.unusedSimpArgs false
namespace Go.Proofs.YtlapbjdhekcipaaGreat
open Go Go.Ae
def tt:TT:=fun t=>match t with
 | 1=>some ⟨1,8,.other,[.nilFunc]⟩
 | 2=>some ⟨1,8,.int .i64,[.int .i64 0]⟩
 | 3=>some ⟨1,8,.int .i64,[.int .i64 0]⟩
 | 4=>some ⟨1,1,.bool,[.bool false]⟩
 | 5=>some ⟨1,1,.int .u8,[.int .u8 0]⟩
 | 6=>some ⟨1,1,.int .u8,[.int .u8 0]⟩
 | 7=>some ⟨4,24,.struct [(0,1,false),(1,1,false),(2,1,false),(3,1,false)],[.int .i64 0,.int .i64 0,.bool false,.int .u8 0]⟩
 | 8=>some ⟨4,24,.struct [(0,1,false),(1,1,false),(2,1,false),(3,1,false)],[.int .i64 0,.int .i64 0,.bool false,.int .u8 0]⟩
 | 9=>some ⟨1,16,.str,[.string ⟨#[]⟩]⟩
 | 10=>some ⟨1,16,.str,[.string ⟨#[]⟩]⟩
 | 11=>some ⟨1,16,.str,[.string ⟨#[]⟩]⟩
 | 12=>some ⟨1,8,.int .u64,[.int .u64 0]⟩
 | 13=>some ⟨2,24,.struct [(0,1,false),(1,1,false)],[.string ⟨#[]⟩,.int .u64 0]⟩
 | 14=>some ⟨2,24,.struct [(0,1,false),(1,1,false)],[.string ⟨#[]⟩,.int .u64 0]⟩
 | 18=>some ⟨1,8,.struct [(0,1,false)],[.pointer none]⟩
 | 19=>some ⟨1,8,.struct [(0,1,false)],[.pointer none]⟩
 | 21=>some ⟨1,4,.int .i32,[.int .i32 0]⟩
 | 22=>some ⟨1,24,.slice 26,[.slice none 0 0]⟩
 | 23=>some ⟨3,40,.struct [(0,1,false),(1,1,false),(2,1,false)],[.bool false,.string ⟨#[]⟩,.string ⟨#[]⟩]⟩
 | 24=>some ⟨3,40,.struct [(0,1,false),(1,1,false),(2,1,false)],[.bool false,.string ⟨#[]⟩,.string ⟨#[]⟩]⟩
 | 25=>some ⟨6,80,.struct [(0,3,true),(3,3,true)],[.bool false,.string ⟨#[]⟩,.string ⟨#[]⟩,.bool false,.string ⟨#[]⟩,.string ⟨#[]⟩]⟩
 | 26=>some ⟨6,80,.struct [(0,3,true),(3,3,true)],[.bool false,.string ⟨#[]⟩,.string ⟨#[]⟩,.bool false,.string ⟨#[]⟩,.string ⟨#[]⟩]⟩
 | 27=>some ⟨1,8,.other,[.nilFunc]⟩
 | 28=>some ⟨1,8,.other,[.nilFunc]⟩
 | 29=>some ⟨1,8,.int .i64,[.int .i64 0]⟩
 | 31=>some ⟨1,8,.other,[.nilFunc]⟩
 | 32=>some ⟨1,8,.other,[.nilFunc]⟩
 | 33=>some ⟨1,8,.other,[.nilFunc]⟩
 | 34=>some ⟨1,8,.other,[.nilFunc]⟩
 | 36=>some ⟨1,8,.other,[.nilFunc]⟩
 | 38=>some ⟨1,8,.other,[.nilFunc]⟩
 | 39=>some ⟨12,160,.struct [(0,6,true),(6,6,true)],[.bool false,.string ⟨#[]⟩,.string ⟨#[]⟩,.bool false,.string ⟨#[]⟩,.string ⟨#[]⟩,.bool false,.string ⟨#[]⟩,.string ⟨#[]⟩,.bool false,.string ⟨#[]⟩,.string ⟨#[]⟩]⟩
 | 40=>some ⟨12,160,.struct [(0,6,true),(6,6,true)],[.bool false,.string ⟨#[]⟩,.string ⟨#[]⟩,.bool false,.string ⟨#[]⟩,.string ⟨#[]⟩,.bool false,.string ⟨#[]⟩,.string ⟨#[]⟩,.bool false,.string ⟨#[]⟩,.string ⟨#[]⟩]⟩
 | 41=>some ⟨1,8,.other,[.nilFunc]⟩
 | 42=>some ⟨1,8,.other,[.nilFunc]⟩
 | 43=>some ⟨1,8,.other,[.nilFunc]⟩
 | 44=>some ⟨1,8,.other,[.nilFunc]⟩
 | 45=>some ⟨1,8,.other,[.nilFunc]⟩
 | 47=>some ⟨1,8,.other,[.nilFunc]⟩
 | 48=>some ⟨1,8,.other,[.nilFunc]⟩
 | 49=>some ⟨1,8,.other,[.nilFunc]⟩
 | 50=>some ⟨1,8,.other,[.nilFunc]⟩
 | 51=>some ⟨1,8,.other,[.nilFunc]⟩
 | 52=>some ⟨1,8,.other,[.nilFunc]⟩
 | 53=>some ⟨1,8,.other,[.nilFunc]⟩
 | 54=>some ⟨1,8,.other,[.nilFunc]⟩
 | 55=>some ⟨1,24,.slice 24,[.slice none 0 0]⟩
 | 56=>some ⟨1,8,.other,[.nilFunc]⟩
 | 57=>some ⟨1,8,.other,[.nilFunc]⟩
 | 59=>some ⟨1,8,.other,[.nilFunc]⟩
 | 61=>some ⟨1,8,.other,[.nilFunc]⟩
 | 62=>some ⟨1,8,.other,[.nilFunc]⟩
 | 63=>some ⟨1,8,.other,[.nilFunc]⟩
 | 64=>some ⟨1,8,.other,[.nilFunc]⟩
 | 65=>some ⟨1,8,.other,[.nilFunc]⟩
 | 67=>some ⟨1,8,.other,[.nilFunc]⟩
 | 68=>some ⟨1,24,.slice 22,[.slice none 0 0]⟩
 | 69=>some ⟨1,8,.other,[.nilFunc]⟩
 | 70=>some ⟨1,8,.other,[.nilFunc]⟩
 | 71=>some ⟨1,8,.other,[.nilFunc]⟩
 | 72=>some ⟨1,8,.other,[.nilFunc]⟩
 | 73=>some ⟨1,8,.other,[.nilFunc]⟩
 | 74=>some ⟨1,8,.other,[.nilFunc]⟩
 | 75=>some ⟨1,8,.other,[.nilFunc]⟩
 | 76=>some ⟨1,8,.other,[.nilFunc]⟩
 | 77=>some ⟨1,8,.other,[.nilFunc]⟩
 | 78=>some ⟨1,8,.other,[.nilFunc]⟩
 | 79=>some ⟨1,8,.other,[.nilFunc]⟩
 | 80=>some ⟨1,8,.other,[.nilFunc]⟩
 | 81=>some ⟨1,8,.other,[.nilFunc]⟩
 | 82=>some ⟨1,8,.other,[.nilFunc]⟩
 | 83=>some ⟨1,8,.other,[.nilFunc]⟩
 | 84=>some ⟨1,8,.other,[.nilFunc]⟩
 | 85=>some ⟨1,8,.other,[.nilFunc]⟩
 | 86=>some ⟨1,8,.other,[.nilFunc]⟩
 | 88=>some ⟨1,8,.other,[.nilFunc]⟩
 | 89=>some ⟨1,8,.other,[.nilFunc]⟩
 | 90=>some ⟨1,8,.other,[.nilFunc]⟩
 | 91=>some ⟨1,8,.other,[.nilFunc]⟩
 | 92=>some ⟨2,24,.struct [(0,1,false),(1,1,false)],[.bool false,.string ⟨#[]⟩]⟩
 | 93=>some ⟨2,24,.struct [(0,1,false),(1,1,false)],[.bool false,.string ⟨#[]⟩]⟩
 | 94=>some ⟨1,8,.other,[.nilFunc]⟩
 | 95=>some ⟨1,8,.other,[.nilFunc]⟩
 | 96=>some ⟨4,48,.struct [(0,2,true),(2,2,true)],[.bool false,.string ⟨#[]⟩,.bool false,.string ⟨#[]⟩]⟩
 | 97=>some ⟨4,48,.struct [(0,2,true),(2,2,true)],[.bool false,.string ⟨#[]⟩,.bool false,.string ⟨#[]⟩]⟩
 | 98=>some ⟨1,8,.other,[.nilFunc]⟩
 | 99=>some ⟨1,8,.other,[.nilFunc]⟩
 | 100=>some ⟨1,8,.other,[.nilFunc]⟩
 | 101=>some ⟨1,8,.other,[.nilFunc]⟩
 | 102=>some ⟨1,8,.other,[.nilFunc]⟩
 | 103=>some ⟨1,8,.other,[.nilFunc]⟩
 | 104=>some ⟨1,8,.other,[.nilFunc]⟩
 | 105=>some ⟨1,8,.other,[.nilFunc]⟩
 | 106=>some ⟨1,8,.other,[.nilFunc]⟩
 | 107=>some ⟨1,8,.other,[.nilFunc]⟩
 | 108=>some ⟨1,8,.other,[.nilFunc]⟩
 | 110=>some ⟨1,8,.other,[.nilFunc]⟩
 | 111=>some ⟨1,8,.other,[.nilFunc]⟩
 | 112=>some ⟨1,8,.other,[.nilFunc]⟩
 | 113=>some ⟨1,8,.other,[.nilFunc]⟩
 | 114=>some ⟨1,8,.other,[.nilFunc]⟩
 | 115=>some ⟨1,24,.slice 3,[.slice none 0 0]⟩
 | 116=>some ⟨1,8,.other,[.nilFunc]⟩
 | 117=>some ⟨1,8,.other,[.nilFunc]⟩
 | 118=>some ⟨1,8,.other,[.nilFunc]⟩
 | 119=>some ⟨1,8,.other,[.nilFunc]⟩
 | 120=>some ⟨9,120,.struct [(0,3,true),(3,3,true),(6,3,true)],[.bool false,.string ⟨#[]⟩,.string ⟨#[]⟩,.bool false,.string ⟨#[]⟩,.string ⟨#[]⟩,.bool false,.string ⟨#[]⟩,.string ⟨#[]⟩]⟩
 | 121=>some ⟨9,120,.struct [(0,3,true),(3,3,true),(6,3,true)],[.bool false,.string ⟨#[]⟩,.string ⟨#[]⟩,.bool false,.string ⟨#[]⟩,.string ⟨#[]⟩,.bool false,.string ⟨#[]⟩,.string ⟨#[]⟩]⟩
 | 123=>some ⟨1,8,.other,[.nilFunc]⟩
 | 124=>some ⟨1,8,.other,[.nilFunc]⟩
 | 125=>some ⟨1,8,.other,[.nilFunc]⟩
 | 126=>some ⟨1,8,.other,[.nilFunc]⟩
 | 127=>some ⟨1,8,.other,[.nilFunc]⟩
 | 128=>some ⟨1,8,.other,[.nilFunc]⟩
 | 129=>some ⟨1,8,.int .u64,[.int .u64 0]⟩
 | 130=>some ⟨1,8,.other,[.nilFunc]⟩
 | 131=>some ⟨1,4,.int .u32,[.int .u32 0]⟩
 | 132=>some ⟨1,8,.int .u64,[.int .u64 0]⟩
 | 133=>some ⟨1,24,.slice 131,[.slice none 0 0]⟩
 | 134=>some ⟨1,24,.slice 131,[.slice none 0 0]⟩
 | 135=>some ⟨1,8,.other,[.nilFunc]⟩
 | 137=>some ⟨1,8,.other,[.nilFunc]⟩
 | 138=>some ⟨1,8,.other,[.nilFunc]⟩
 | 139=>some ⟨1,8,.other,[.nilFunc]⟩
 | 140=>some ⟨1,8,.other,[.nilFunc]⟩
 | 142=>some ⟨1,8,.other,[.nilFunc]⟩
 | 143=>some ⟨1,8,.other,[.nilFunc]⟩
 | 144=>some ⟨1,8,.other,[.nilFunc]⟩
 | 146=>some ⟨1,8,.other,[.nilFunc]⟩
 | 147=>some ⟨1,8,.other,[.nilFunc]⟩
 | 148=>some ⟨1,8,.other,[.nilFunc]⟩
 | 149=>some ⟨1,8,.other,[.nilFunc]⟩
 | 150=>some ⟨1,8,.other,[.nilFunc]⟩
 | 152=>some ⟨1,8,.other,[.nilFunc]⟩
 | 153=>some ⟨1,8,.other,[.nilFunc]⟩
 | 154=>some ⟨1,8,.other,[.nilFunc]⟩
 | 156=>some ⟨1,8,.other,[.nilFunc]⟩
 | 157=>some ⟨1,8,.other,[.nilFunc]⟩
 | 158=>some ⟨1,8,.other,[.nilFunc]⟩
 | 159=>some ⟨8,8,.array 8 5,[.int .u8 0,.int .u8 0,.int .u8 0,.int .u8 0,.int .u8 0,.int .u8 0,.int .u8 0,.int .u8 0]⟩
 | 160=>some ⟨1,24,.slice 5,[.slice none 0 0]⟩
 | 162=>some ⟨1,8,.other,[.nilFunc]⟩
 | 163=>some ⟨1,8,.other,[.nilFunc]⟩
 | 164=>some ⟨1,8,.other,[.nilFunc]⟩
 | 165=>some ⟨1,8,.other,[.nilFunc]⟩
 | 167=>some ⟨1,8,.other,[.nilFunc]⟩
 | 168=>some ⟨1,8,.other,[.nilFunc]⟩
 | 169=>some ⟨1,8,.other,[.nilFunc]⟩
 | 170=>some ⟨1,8,.other,[.nilFunc]⟩
 | 172=>some ⟨1,8,.other,[.nilFunc]⟩
 | 173=>some ⟨8,128,.array 8 9,[.string ⟨#[]⟩,.string ⟨#[]⟩,.string ⟨#[]⟩,.string ⟨#[]⟩,.string ⟨#[]⟩,.string ⟨#[]⟩,.string ⟨#[]⟩,.string ⟨#[]⟩]⟩
 | 177=>some ⟨4,40,.struct [(0,1,false),(1,1,false),(2,1,false),(3,1,false)],[.pointer none,.pointer none,.pointer none,.string ⟨#[]⟩]⟩
 | 178=>some ⟨4,40,.struct [(0,1,false),(1,1,false),(2,1,false),(3,1,false)],[.pointer none,.pointer none,.pointer none,.string ⟨#[]⟩]⟩
 | 182=>some ⟨1,8,.other,[.nilFunc]⟩
 | 183=>some ⟨1,1,.int .u8,[.int .u8 0]⟩
 | 184=>some ⟨1,1,.int .u8,[.int .u8 0]⟩
 | 185=>some ⟨1,8,.other,[.nilFunc]⟩
 | 187=>some ⟨1,4,.int .i32,[.int .i32 0]⟩
 | 188=>some ⟨1,4,.int .i32,[.int .i32 0]⟩
 | 189=>some ⟨11,48,.struct [(0,1,false),(1,1,false),(2,1,false),(3,1,false),(4,1,false),(5,1,false),(6,1,false),(7,1,false),(8,1,false),(9,1,false),(10,1,false)],[.int .u64 0,.int .u64 0,.int .u32 0,.int .u8 0,.int .u8 0,.int .u8 0,.int .u8 0,.nilFunc,.pointer none,.int .i32 0,.int .i32 0]⟩
 | 190=>some ⟨11,48,.struct [(0,1,false),(1,1,false),(2,1,false),(3,1,false),(4,1,false),(5,1,false),(6,1,false),(7,1,false),(8,1,false),(9,1,false),(10,1,false)],[.int .u64 0,.int .u64 0,.int .u32 0,.int .u8 0,.int .u8 0,.int .u8 0,.int .u8 0,.nilFunc,.pointer none,.int .i32 0,.int .i32 0]⟩
 | 191=>some ⟨1,16,.struct [(0,1,false)],[.string ⟨#[]⟩]⟩
 | 192=>some ⟨1,16,.struct [(0,1,false)],[.string ⟨#[]⟩]⟩
 | _=>none
theorem ade:aB Tryz.prog 1 ⟨1,8,.other,[.nilFunc]⟩:=aL (by kernel_rfl) (by kernel_rfl) (by kernel_rfl)
theorem adf:aB Tryz.prog 2 ⟨1,8,.int .i64,[.int .i64 0]⟩:=aL (by kernel_rfl) (by kernel_rfl) (by kernel_rfl)
theorem adg:aB Tryz.prog 3 ⟨1,8,.int .i64,[.int .i64 0]⟩:=aL (by kernel_rfl) (by kernel_rfl) (by kernel_rfl)
theorem adh:aB Tryz.prog 4 ⟨1,1,.bool,[.bool false]⟩:=aL (by kernel_rfl) (by kernel_rfl) (by kernel_rfl)
theorem adi:aB Tryz.prog 5 ⟨1,1,.int .u8,[.int .u8 0]⟩:=aL (by kernel_rfl) (by kernel_rfl) (by kernel_rfl)
theorem adj:aB Tryz.prog 6 ⟨1,1,.int .u8,[.int .u8 0]⟩:=aL (by kernel_rfl) (by kernel_rfl) (by kernel_rfl)
theorem adk:aB Tryz.prog 7 ⟨4,24,.struct [(0,1,false),(1,1,false),(2,1,false),(3,1,false)],[.int .i64 0,.int .i64 0,.bool false,.int .u8 0]⟩:=aL (by kernel_rfl) (by kernel_rfl) (by kernel_rfl)
theorem adl:aB Tryz.prog 8 ⟨4,24,.struct [(0,1,false),(1,1,false),(2,1,false),(3,1,false)],[.int .i64 0,.int .i64 0,.bool false,.int .u8 0]⟩:=aL (by kernel_rfl) (by kernel_rfl) (by kernel_rfl)
theorem adm:aB Tryz.prog 9 ⟨1,16,.str,[.string ⟨#[]⟩]⟩:=aL (by kernel_rfl) (by kernel_rfl) (by kernel_rfl)
theorem aaV:aB Tryz.prog 10 ⟨1,16,.str,[.string ⟨#[]⟩]⟩:=aL (by kernel_rfl) (by kernel_rfl) (by kernel_rfl)
theorem aaW:aB Tryz.prog 11 ⟨1,16,.str,[.string ⟨#[]⟩]⟩:=aL (by kernel_rfl) (by kernel_rfl) (by kernel_rfl)
theorem aaX:aB Tryz.prog 12 ⟨1,8,.int .u64,[.int .u64 0]⟩:=aL (by kernel_rfl) (by kernel_rfl) (by kernel_rfl)
theorem aaY:aB Tryz.prog 13 ⟨2,24,.struct [(0,1,false),(1,1,false)],[.string ⟨#[]⟩,.int .u64 0]⟩:=aL (by kernel_rfl) (by kernel_rfl) (by kernel_rfl)
theorem aaZ:aB Tryz.prog 14 ⟨2,24,.struct [(0,1,false),(1,1,false)],[.string ⟨#[]⟩,.int .u64 0]⟩:=aL (by kernel_rfl) (by kernel_rfl) (by kernel_rfl)
theorem aa0:aB Tryz.prog 18 ⟨1,8,.struct [(0,1,false)],[.pointer none]⟩:=aL (by kernel_rfl) (by kernel_rfl) (by kernel_rfl)
theorem aa1:aB Tryz.prog 19 ⟨1,8,.struct [(0,1,false)],[.pointer none]⟩:=aL (by kernel_rfl) (by kernel_rfl) (by kernel_rfl)
theorem aa2:aB Tryz.prog 21 ⟨1,4,.int .i32,[.int .i32 0]⟩:=aL (by kernel_rfl) (by kernel_rfl) (by kernel_rfl)
theorem aa3:aB Tryz.prog 22 ⟨1,24,.slice 26,[.slice none 0 0]⟩:=aL (by kernel_rfl) (by kernel_rfl) (by kernel_rfl)
theorem aa4:aB Tryz.prog 23 ⟨3,40,.struct [(0,1,false),(1,1,false),(2,1,false)],[.bool false,.string ⟨#[]⟩,.string ⟨#[]⟩]⟩:=aL (by kernel_rfl) (by kernel_rfl) (by kernel_rfl)
theorem aa5:aB Tryz.prog 24 ⟨3,40,.struct [(0,1,false),(1,1,false),(2,1,false)],[.bool false,.string ⟨#[]⟩,.string ⟨#[]⟩]⟩:=aL (by kernel_rfl) (by kernel_rfl) (by kernel_rfl)
theorem aa6:aB Tryz.prog 25 ⟨6,80,.struct [(0,3,true),(3,3,true)],[.bool false,.string ⟨#[]⟩,.string ⟨#[]⟩,.bool false,.string ⟨#[]⟩,.string ⟨#[]⟩]⟩:=aL (by kernel_rfl) (by kernel_rfl) (by kernel_rfl)
theorem aa7:aB Tryz.prog 26 ⟨6,80,.struct [(0,3,true),(3,3,true)],[.bool false,.string ⟨#[]⟩,.string ⟨#[]⟩,.bool false,.string ⟨#[]⟩,.string ⟨#[]⟩]⟩:=aL (by kernel_rfl) (by kernel_rfl) (by kernel_rfl)
theorem aa8:aB Tryz.prog 27 ⟨1,8,.other,[.nilFunc]⟩:=aL (by kernel_rfl) (by kernel_rfl) (by kernel_rfl)
theorem aa9:aB Tryz.prog 28 ⟨1,8,.other,[.nilFunc]⟩:=aL (by kernel_rfl) (by kernel_rfl) (by kernel_rfl)
theorem aba:aB Tryz.prog 29 ⟨1,8,.int .i64,[.int .i64 0]⟩:=aL (by kernel_rfl) (by kernel_rfl) (by kernel_rfl)
theorem abb:aB Tryz.prog 31 ⟨1,8,.other,[.nilFunc]⟩:=aL (by kernel_rfl) (by kernel_rfl) (by kernel_rfl)
theorem abc:aB Tryz.prog 32 ⟨1,8,.other,[.nilFunc]⟩:=aL (by kernel_rfl) (by kernel_rfl) (by kernel_rfl)
theorem abd:aB Tryz.prog 33 ⟨1,8,.other,[.nilFunc]⟩:=aL (by kernel_rfl) (by kernel_rfl) (by kernel_rfl)
theorem abe:aB Tryz.prog 34 ⟨1,8,.other,[.nilFunc]⟩:=aL (by kernel_rfl) (by kernel_rfl) (by kernel_rfl)
theorem abf:aB Tryz.prog 36 ⟨1,8,.other,[.nilFunc]⟩:=aL (by kernel_rfl) (by kernel_rfl) (by kernel_rfl)
theorem abg:aB Tryz.prog 38 ⟨1,8,.other,[.nilFunc]⟩:=aL (by kernel_rfl) (by kernel_rfl) (by kernel_rfl)
theorem abh:aB Tryz.prog 39 ⟨12,160,.struct [(0,6,true),(6,6,true)],[.bool false,.string ⟨#[]⟩,.string ⟨#[]⟩,.bool false,.string ⟨#[]⟩,.string ⟨#[]⟩,.bool false,.string ⟨#[]⟩,.string ⟨#[]⟩,.bool false,.string ⟨#[]⟩,.string ⟨#[]⟩]⟩:=aL (by kernel_rfl) (by kernel_rfl) (by kernel_rfl)
theorem abi:aB Tryz.prog 40 ⟨12,160,.struct [(0,6,true),(6,6,true)],[.bool false,.string ⟨#[]⟩,.string ⟨#[]⟩,.bool false,.string ⟨#[]⟩,.string ⟨#[]⟩,.bool false,.string ⟨#[]⟩,.string ⟨#[]⟩,.bool false,.string ⟨#[]⟩,.string ⟨#[]⟩]⟩:=aL (by kernel_rfl) (by kernel_rfl) (by kernel_rfl)
theorem abj:aB Tryz.prog 41 ⟨1,8,.other,[.nilFunc]⟩:=aL (by kernel_rfl) (by kernel_rfl) (by kernel_rfl)
theorem abk:aB Tryz.prog 42 ⟨1,8,.other,[.nilFunc]⟩:=aL (by kernel_rfl) (by kernel_rfl) (by kernel_rfl)
theorem abl:aB Tryz.prog 43 ⟨1,8,.other,[.nilFunc]⟩:=aL (by kernel_rfl) (by kernel_rfl) (by kernel_rfl)
theorem abm:aB Tryz.prog 44 ⟨1,8,.other,[.nilFunc]⟩:=aL (by kernel_rfl) (by kernel_rfl) (by kernel_rfl)
theorem abn:aB Tryz.prog 45 ⟨1,8,.other,[.nilFunc]⟩:=aL (by kernel_rfl) (by kernel_rfl) (by kernel_rfl)
theorem abo:aB Tryz.prog 47 ⟨1,8,.other,[.nilFunc]⟩:=aL (by kernel_rfl) (by kernel_rfl) (by kernel_rfl)
theorem abp:aB Tryz.prog 48 ⟨1,8,.other,[.nilFunc]⟩:=aL (by kernel_rfl) (by kernel_rfl) (by kernel_rfl)
theorem abq:aB Tryz.prog 49 ⟨1,8,.other,[.nilFunc]⟩:=aL (by kernel_rfl) (by kernel_rfl) (by kernel_rfl)
theorem abr:aB Tryz.prog 50 ⟨1,8,.other,[.nilFunc]⟩:=aL (by kernel_rfl) (by kernel_rfl) (by kernel_rfl)
theorem abt:aB Tryz.prog 51 ⟨1,8,.other,[.nilFunc]⟩:=aL (by kernel_rfl) (by kernel_rfl) (by kernel_rfl)
theorem abu:aB Tryz.prog 52 ⟨1,8,.other,[.nilFunc]⟩:=aL (by kernel_rfl) (by kernel_rfl) (by kernel_rfl)
theorem abv:aB Tryz.prog 53 ⟨1,8,.other,[.nilFunc]⟩:=aL (by kernel_rfl) (by kernel_rfl) (by kernel_rfl)
theorem abw:aB Tryz.prog 54 ⟨1,8,.other,[.nilFunc]⟩:=aL (by kernel_rfl) (by kernel_rfl) (by kernel_rfl)
theorem abx:aB Tryz.prog 55 ⟨1,24,.slice 24,[.slice none 0 0]⟩:=aL (by kernel_rfl) (by kernel_rfl) (by kernel_rfl)
theorem aby:aB Tryz.prog 56 ⟨1,8,.other,[.nilFunc]⟩:=aL (by kernel_rfl) (by kernel_rfl) (by kernel_rfl)
theorem abz:aB Tryz.prog 57 ⟨1,8,.other,[.nilFunc]⟩:=aL (by kernel_rfl) (by kernel_rfl) (by kernel_rfl)
theorem abA:aB Tryz.prog 59 ⟨1,8,.other,[.nilFunc]⟩:=aL (by kernel_rfl) (by kernel_rfl) (by kernel_rfl)
theorem abB:aB Tryz.prog 61 ⟨1,8,.other,[.nilFunc]⟩:=aL (by kernel_rfl) (by kernel_rfl) (by kernel_rfl)
theorem abC:aB Tryz.prog 62 ⟨1,8,.other,[.nilFunc]⟩:=aL (by kernel_rfl) (by kernel_rfl) (by kernel_rfl)
theorem abD:aB Tryz.prog 63 ⟨1,8,.other,[.nilFunc]⟩:=aL (by kernel_rfl) (by kernel_rfl) (by kernel_rfl)
theorem abE:aB Tryz.prog 64 ⟨1,8,.other,[.nilFunc]⟩:=aL (by kernel_rfl) (by kernel_rfl) (by kernel_rfl)
theorem abF:aB Tryz.prog 65 ⟨1,8,.other,[.nilFunc]⟩:=aL (by kernel_rfl) (by kernel_rfl) (by kernel_rfl)
theorem abG:aB Tryz.prog 67 ⟨1,8,.other,[.nilFunc]⟩:=aL (by kernel_rfl) (by kernel_rfl) (by kernel_rfl)
theorem abH:aB Tryz.prog 68 ⟨1,24,.slice 22,[.slice none 0 0]⟩:=aL (by kernel_rfl) (by kernel_rfl) (by kernel_rfl)
theorem abI:aB Tryz.prog 69 ⟨1,8,.other,[.nilFunc]⟩:=aL (by kernel_rfl) (by kernel_rfl) (by kernel_rfl)
theorem abJ:aB Tryz.prog 70 ⟨1,8,.other,[.nilFunc]⟩:=aL (by kernel_rfl) (by kernel_rfl) (by kernel_rfl)
theorem abK:aB Tryz.prog 71 ⟨1,8,.other,[.nilFunc]⟩:=aL (by kernel_rfl) (by kernel_rfl) (by kernel_rfl)
theorem abL:aB Tryz.prog 72 ⟨1,8,.other,[.nilFunc]⟩:=aL (by kernel_rfl) (by kernel_rfl) (by kernel_rfl)
theorem abM:aB Tryz.prog 73 ⟨1,8,.other,[.nilFunc]⟩:=aL (by kernel_rfl) (by kernel_rfl) (by kernel_rfl)
theorem abN:aB Tryz.prog 74 ⟨1,8,.other,[.nilFunc]⟩:=aL (by kernel_rfl) (by kernel_rfl) (by kernel_rfl)
theorem abO:aB Tryz.prog 75 ⟨1,8,.other,[.nilFunc]⟩:=aL (by kernel_rfl) (by kernel_rfl) (by kernel_rfl)
theorem abP:aB Tryz.prog 76 ⟨1,8,.other,[.nilFunc]⟩:=aL (by kernel_rfl) (by kernel_rfl) (by kernel_rfl)
theorem abQ:aB Tryz.prog 77 ⟨1,8,.other,[.nilFunc]⟩:=aL (by kernel_rfl) (by kernel_rfl) (by kernel_rfl)
theorem abR:aB Tryz.prog 78 ⟨1,8,.other,[.nilFunc]⟩:=aL (by kernel_rfl) (by kernel_rfl) (by kernel_rfl)
theorem abS:aB Tryz.prog 79 ⟨1,8,.other,[.nilFunc]⟩:=aL (by kernel_rfl) (by kernel_rfl) (by kernel_rfl)
theorem abT:aB Tryz.prog 80 ⟨1,8,.other,[.nilFunc]⟩:=aL (by kernel_rfl) (by kernel_rfl) (by kernel_rfl)
theorem abU:aB Tryz.prog 81 ⟨1,8,.other,[.nilFunc]⟩:=aL (by kernel_rfl) (by kernel_rfl) (by kernel_rfl)
theorem abV:aB Tryz.prog 82 ⟨1,8,.other,[.nilFunc]⟩:=aL (by kernel_rfl) (by kernel_rfl) (by kernel_rfl)
theorem abW:aB Tryz.prog 83 ⟨1,8,.other,[.nilFunc]⟩:=aL (by kernel_rfl) (by kernel_rfl) (by kernel_rfl)
theorem abX:aB Tryz.prog 84 ⟨1,8,.other,[.nilFunc]⟩:=aL (by kernel_rfl) (by kernel_rfl) (by kernel_rfl)
theorem abY:aB Tryz.prog 85 ⟨1,8,.other,[.nilFunc]⟩:=aL (by kernel_rfl) (by kernel_rfl) (by kernel_rfl)
theorem abZ:aB Tryz.prog 86 ⟨1,8,.other,[.nilFunc]⟩:=aL (by kernel_rfl) (by kernel_rfl) (by kernel_rfl)
theorem ab0:aB Tryz.prog 88 ⟨1,8,.other,[.nilFunc]⟩:=aL (by kernel_rfl) (by kernel_rfl) (by kernel_rfl)
theorem ab1:aB Tryz.prog 89 ⟨1,8,.other,[.nilFunc]⟩:=aL (by kernel_rfl) (by kernel_rfl) (by kernel_rfl)
theorem ab2:aB Tryz.prog 90 ⟨1,8,.other,[.nilFunc]⟩:=aL (by kernel_rfl) (by kernel_rfl) (by kernel_rfl)
theorem ab3:aB Tryz.prog 91 ⟨1,8,.other,[.nilFunc]⟩:=aL (by kernel_rfl) (by kernel_rfl) (by kernel_rfl)
theorem ab4:aB Tryz.prog 92 ⟨2,24,.struct [(0,1,false),(1,1,false)],[.bool false,.string ⟨#[]⟩]⟩:=aL (by kernel_rfl) (by kernel_rfl) (by kernel_rfl)
theorem ab5:aB Tryz.prog 93 ⟨2,24,.struct [(0,1,false),(1,1,false)],[.bool false,.string ⟨#[]⟩]⟩:=aL (by kernel_rfl) (by kernel_rfl) (by kernel_rfl)
theorem ab6:aB Tryz.prog 94 ⟨1,8,.other,[.nilFunc]⟩:=aL (by kernel_rfl) (by kernel_rfl) (by kernel_rfl)
theorem ab7:aB Tryz.prog 95 ⟨1,8,.other,[.nilFunc]⟩:=aL (by kernel_rfl) (by kernel_rfl) (by kernel_rfl)
theorem ab8:aB Tryz.prog 96 ⟨4,48,.struct [(0,2,true),(2,2,true)],[.bool false,.string ⟨#[]⟩,.bool false,.string ⟨#[]⟩]⟩:=aL (by kernel_rfl) (by kernel_rfl) (by kernel_rfl)
theorem ab9:aB Tryz.prog 97 ⟨4,48,.struct [(0,2,true),(2,2,true)],[.bool false,.string ⟨#[]⟩,.bool false,.string ⟨#[]⟩]⟩:=aL (by kernel_rfl) (by kernel_rfl) (by kernel_rfl)
theorem aca:aB Tryz.prog 98 ⟨1,8,.other,[.nilFunc]⟩:=aL (by kernel_rfl) (by kernel_rfl) (by kernel_rfl)
theorem acb:aB Tryz.prog 99 ⟨1,8,.other,[.nilFunc]⟩:=aL (by kernel_rfl) (by kernel_rfl) (by kernel_rfl)
theorem Yq:aB Tryz.prog 100 ⟨1,8,.other,[.nilFunc]⟩:=aL (by kernel_rfl) (by kernel_rfl) (by kernel_rfl)
theorem Yr:aB Tryz.prog 101 ⟨1,8,.other,[.nilFunc]⟩:=aL (by kernel_rfl) (by kernel_rfl) (by kernel_rfl)
theorem Ys:aB Tryz.prog 102 ⟨1,8,.other,[.nilFunc]⟩:=aL (by kernel_rfl) (by kernel_rfl) (by kernel_rfl)
theorem Yt:aB Tryz.prog 103 ⟨1,8,.other,[.nilFunc]⟩:=aL (by kernel_rfl) (by kernel_rfl) (by kernel_rfl)
theorem Yu:aB Tryz.prog 104 ⟨1,8,.other,[.nilFunc]⟩:=aL (by kernel_rfl) (by kernel_rfl) (by kernel_rfl)
theorem Yv:aB Tryz.prog 105 ⟨1,8,.other,[.nilFunc]⟩:=aL (by kernel_rfl) (by kernel_rfl) (by kernel_rfl)
theorem Yw:aB Tryz.prog 106 ⟨1,8,.other,[.nilFunc]⟩:=aL (by kernel_rfl) (by kernel_rfl) (by kernel_rfl)
theorem Yx:aB Tryz.prog 107 ⟨1,8,.other,[.nilFunc]⟩:=aL (by kernel_rfl) (by kernel_rfl) (by kernel_rfl)
theorem Yy:aB Tryz.prog 108 ⟨1,8,.other,[.nilFunc]⟩:=aL (by kernel_rfl) (by kernel_rfl) (by kernel_rfl)
theorem Yz:aB Tryz.prog 110 ⟨1,8,.other,[.nilFunc]⟩:=aL (by kernel_rfl) (by kernel_rfl) (by kernel_rfl)
theorem YA:aB Tryz.prog 111 ⟨1,8,.other,[.nilFunc]⟩:=aL (by kernel_rfl) (by kernel_rfl) (by kernel_rfl)
theorem YB:aB Tryz.prog 112 ⟨1,8,.other,[.nilFunc]⟩:=aL (by kernel_rfl) (by kernel_rfl) (by kernel_rfl)
theorem YC:aB Tryz.prog 113 ⟨1,8,.other,[.nilFunc]⟩:=aL (by kernel_rfl) (by kernel_rfl) (by kernel_rfl)
theorem YD:aB Tryz.prog 114 ⟨1,8,.other,[.nilFunc]⟩:=aL (by kernel_rfl) (by kernel_rfl) (by kernel_rfl)
theorem YE:aB Tryz.prog 115 ⟨1,24,.slice 3,[.slice none 0 0]⟩:=aL (by kernel_rfl) (by kernel_rfl) (by kernel_rfl)
theorem YF:aB Tryz.prog 116 ⟨1,8,.other,[.nilFunc]⟩:=aL (by kernel_rfl) (by kernel_rfl) (by kernel_rfl)
theorem YG:aB Tryz.prog 117 ⟨1,8,.other,[.nilFunc]⟩:=aL (by kernel_rfl) (by kernel_rfl) (by kernel_rfl)
theorem YH:aB Tryz.prog 118 ⟨1,8,.other,[.nilFunc]⟩:=aL (by kernel_rfl) (by kernel_rfl) (by kernel_rfl)
theorem YI:aB Tryz.prog 119 ⟨1,8,.other,[.nilFunc]⟩:=aL (by kernel_rfl) (by kernel_rfl) (by kernel_rfl)
theorem YJ:aB Tryz.prog 120 ⟨9,120,.struct [(0,3,true),(3,3,true),(6,3,true)],[.bool false,.string ⟨#[]⟩,.string ⟨#[]⟩,.bool false,.string ⟨#[]⟩,.string ⟨#[]⟩,.bool false,.string ⟨#[]⟩,.string ⟨#[]⟩]⟩:=aL (by kernel_rfl) (by kernel_rfl) (by kernel_rfl)
theorem YK:aB Tryz.prog 121 ⟨9,120,.struct [(0,3,true),(3,3,true),(6,3,true)],[.bool false,.string ⟨#[]⟩,.string ⟨#[]⟩,.bool false,.string ⟨#[]⟩,.string ⟨#[]⟩,.bool false,.string ⟨#[]⟩,.string ⟨#[]⟩]⟩:=aL (by kernel_rfl) (by kernel_rfl) (by kernel_rfl)
theorem YL:aB Tryz.prog 123 ⟨1,8,.other,[.nilFunc]⟩:=aL (by kernel_rfl) (by kernel_rfl) (by kernel_rfl)
theorem YM:aB Tryz.prog 124 ⟨1,8,.other,[.nilFunc]⟩:=aL (by kernel_rfl) (by kernel_rfl) (by kernel_rfl)
theorem YN:aB Tryz.prog 125 ⟨1,8,.other,[.nilFunc]⟩:=aL (by kernel_rfl) (by kernel_rfl) (by kernel_rfl)
theorem YO:aB Tryz.prog 126 ⟨1,8,.other,[.nilFunc]⟩:=aL (by kernel_rfl) (by kernel_rfl) (by kernel_rfl)
theorem YP:aB Tryz.prog 127 ⟨1,8,.other,[.nilFunc]⟩:=aL (by kernel_rfl) (by kernel_rfl) (by kernel_rfl)
theorem YQ:aB Tryz.prog 128 ⟨1,8,.other,[.nilFunc]⟩:=aL (by kernel_rfl) (by kernel_rfl) (by kernel_rfl)
theorem YR:aB Tryz.prog 129 ⟨1,8,.int .u64,[.int .u64 0]⟩:=aL (by kernel_rfl) (by kernel_rfl) (by kernel_rfl)
theorem YT:aB Tryz.prog 130 ⟨1,8,.other,[.nilFunc]⟩:=aL (by kernel_rfl) (by kernel_rfl) (by kernel_rfl)
theorem YU:aB Tryz.prog 131 ⟨1,4,.int .u32,[.int .u32 0]⟩:=aL (by kernel_rfl) (by kernel_rfl) (by kernel_rfl)
theorem YV:aB Tryz.prog 132 ⟨1,8,.int .u64,[.int .u64 0]⟩:=aL (by kernel_rfl) (by kernel_rfl) (by kernel_rfl)
theorem YW:aB Tryz.prog 133 ⟨1,24,.slice 131,[.slice none 0 0]⟩:=aL (by kernel_rfl) (by kernel_rfl) (by kernel_rfl)
theorem YX:aB Tryz.prog 134 ⟨1,24,.slice 131,[.slice none 0 0]⟩:=aL (by kernel_rfl) (by kernel_rfl) (by kernel_rfl)
theorem YY:aB Tryz.prog 135 ⟨1,8,.other,[.nilFunc]⟩:=aL (by kernel_rfl) (by kernel_rfl) (by kernel_rfl)
theorem YZ:aB Tryz.prog 137 ⟨1,8,.other,[.nilFunc]⟩:=aL (by kernel_rfl) (by kernel_rfl) (by kernel_rfl)
theorem Y0:aB Tryz.prog 138 ⟨1,8,.other,[.nilFunc]⟩:=aL (by kernel_rfl) (by kernel_rfl) (by kernel_rfl)
theorem Y1:aB Tryz.prog 139 ⟨1,8,.other,[.nilFunc]⟩:=aL (by kernel_rfl) (by kernel_rfl) (by kernel_rfl)
theorem Y2:aB Tryz.prog 140 ⟨1,8,.other,[.nilFunc]⟩:=aL (by kernel_rfl) (by kernel_rfl) (by kernel_rfl)
theorem Y3:aB Tryz.prog 142 ⟨1,8,.other,[.nilFunc]⟩:=aL (by kernel_rfl) (by kernel_rfl) (by kernel_rfl)
theorem Y4:aB Tryz.prog 143 ⟨1,8,.other,[.nilFunc]⟩:=aL (by kernel_rfl) (by kernel_rfl) (by kernel_rfl)
theorem Y5:aB Tryz.prog 144 ⟨1,8,.other,[.nilFunc]⟩:=aL (by kernel_rfl) (by kernel_rfl) (by kernel_rfl)
theorem Y6:aB Tryz.prog 146 ⟨1,8,.other,[.nilFunc]⟩:=aL (by kernel_rfl) (by kernel_rfl) (by kernel_rfl)
theorem Y7:aB Tryz.prog 147 ⟨1,8,.other,[.nilFunc]⟩:=aL (by kernel_rfl) (by kernel_rfl) (by kernel_rfl)
theorem Y8:aB Tryz.prog 148 ⟨1,8,.other,[.nilFunc]⟩:=aL (by kernel_rfl) (by kernel_rfl) (by kernel_rfl)
theorem Y9:aB Tryz.prog 149 ⟨1,8,.other,[.nilFunc]⟩:=aL (by kernel_rfl) (by kernel_rfl) (by kernel_rfl)
theorem Za:aB Tryz.prog 150 ⟨1,8,.other,[.nilFunc]⟩:=aL (by kernel_rfl) (by kernel_rfl) (by kernel_rfl)
theorem Zb:aB Tryz.prog 152 ⟨1,8,.other,[.nilFunc]⟩:=aL (by kernel_rfl) (by kernel_rfl) (by kernel_rfl)
theorem Zc:aB Tryz.prog 153 ⟨1,8,.other,[.nilFunc]⟩:=aL (by kernel_rfl) (by kernel_rfl) (by kernel_rfl)
theorem Zd:aB Tryz.prog 154 ⟨1,8,.other,[.nilFunc]⟩:=aL (by kernel_rfl) (by kernel_rfl) (by kernel_rfl)
theorem Ze:aB Tryz.prog 156 ⟨1,8,.other,[.nilFunc]⟩:=aL (by kernel_rfl) (by kernel_rfl) (by kernel_rfl)
theorem Zf:aB Tryz.prog 157 ⟨1,8,.other,[.nilFunc]⟩:=aL (by kernel_rfl) (by kernel_rfl) (by kernel_rfl)
theorem Zg:aB Tryz.prog 158 ⟨1,8,.other,[.nilFunc]⟩:=aL (by kernel_rfl) (by kernel_rfl) (by kernel_rfl)
theorem Zh:aB Tryz.prog 159 ⟨8,8,.array 8 5,[.int .u8 0,.int .u8 0,.int .u8 0,.int .u8 0,.int .u8 0,.int .u8 0,.int .u8 0,.int .u8 0]⟩:=aL (by kernel_rfl) (by kernel_rfl) (by kernel_rfl)
theorem Zi:aB Tryz.prog 160 ⟨1,24,.slice 5,[.slice none 0 0]⟩:=aL (by kernel_rfl) (by kernel_rfl) (by kernel_rfl)
theorem Zj:aB Tryz.prog 162 ⟨1,8,.other,[.nilFunc]⟩:=aL (by kernel_rfl) (by kernel_rfl) (by kernel_rfl)
theorem Zk:aB Tryz.prog 163 ⟨1,8,.other,[.nilFunc]⟩:=aL (by kernel_rfl) (by kernel_rfl) (by kernel_rfl)
theorem Zl:aB Tryz.prog 164 ⟨1,8,.other,[.nilFunc]⟩:=aL (by kernel_rfl) (by kernel_rfl) (by kernel_rfl)
theorem Zm:aB Tryz.prog 165 ⟨1,8,.other,[.nilFunc]⟩:=aL (by kernel_rfl) (by kernel_rfl) (by kernel_rfl)
theorem Zn:aB Tryz.prog 167 ⟨1,8,.other,[.nilFunc]⟩:=aL (by kernel_rfl) (by kernel_rfl) (by kernel_rfl)
theorem Zo:aB Tryz.prog 168 ⟨1,8,.other,[.nilFunc]⟩:=aL (by kernel_rfl) (by kernel_rfl) (by kernel_rfl)
theorem Zp:aB Tryz.prog 169 ⟨1,8,.other,[.nilFunc]⟩:=aL (by kernel_rfl) (by kernel_rfl) (by kernel_rfl)
theorem Zq:aB Tryz.prog 170 ⟨1,8,.other,[.nilFunc]⟩:=aL (by kernel_rfl) (by kernel_rfl) (by kernel_rfl)
theorem Zr:aB Tryz.prog 172 ⟨1,8,.other,[.nilFunc]⟩:=aL (by kernel_rfl) (by kernel_rfl) (by kernel_rfl)
theorem Zs:aB Tryz.prog 173 ⟨8,128,.array 8 9,[.string ⟨#[]⟩,.string ⟨#[]⟩,.string ⟨#[]⟩,.string ⟨#[]⟩,.string ⟨#[]⟩,.string ⟨#[]⟩,.string ⟨#[]⟩,.string ⟨#[]⟩]⟩:=aL (by kernel_rfl) (by kernel_rfl) (by kernel_rfl)
theorem Zt:aB Tryz.prog 177 ⟨4,40,.struct [(0,1,false),(1,1,false),(2,1,false),(3,1,false)],[.pointer none,.pointer none,.pointer none,.string ⟨#[]⟩]⟩:=aL (by kernel_rfl) (by kernel_rfl) (by kernel_rfl)
theorem Zu:aB Tryz.prog 178 ⟨4,40,.struct [(0,1,false),(1,1,false),(2,1,false),(3,1,false)],[.pointer none,.pointer none,.pointer none,.string ⟨#[]⟩]⟩:=aL (by kernel_rfl) (by kernel_rfl) (by kernel_rfl)
theorem Zv:aB Tryz.prog 182 ⟨1,8,.other,[.nilFunc]⟩:=aL (by kernel_rfl) (by kernel_rfl) (by kernel_rfl)
theorem Zw:aB Tryz.prog 183 ⟨1,1,.int .u8,[.int .u8 0]⟩:=aL (by kernel_rfl) (by kernel_rfl) (by kernel_rfl)
theorem Zx:aB Tryz.prog 184 ⟨1,1,.int .u8,[.int .u8 0]⟩:=aL (by kernel_rfl) (by kernel_rfl) (by kernel_rfl)
theorem Zy:aB Tryz.prog 185 ⟨1,8,.other,[.nilFunc]⟩:=aL (by kernel_rfl) (by kernel_rfl) (by kernel_rfl)
theorem Zz:aB Tryz.prog 187 ⟨1,4,.int .i32,[.int .i32 0]⟩:=aL (by kernel_rfl) (by kernel_rfl) (by kernel_rfl)
theorem ZA:aB Tryz.prog 188 ⟨1,4,.int .i32,[.int .i32 0]⟩:=aL (by kernel_rfl) (by kernel_rfl) (by kernel_rfl)
theorem ZB:aB Tryz.prog 189 ⟨11,48,.struct [(0,1,false),(1,1,false),(2,1,false),(3,1,false),(4,1,false),(5,1,false),(6,1,false),(7,1,false),(8,1,false),(9,1,false),(10,1,false)],[.int .u64 0,.int .u64 0,.int .u32 0,.int .u8 0,.int .u8 0,.int .u8 0,.int .u8 0,.nilFunc,.pointer none,.int .i32 0,.int .i32 0]⟩:=aL (by kernel_rfl) (by kernel_rfl) (by kernel_rfl)
theorem ZC:aB Tryz.prog 190 ⟨11,48,.struct [(0,1,false),(1,1,false),(2,1,false),(3,1,false),(4,1,false),(5,1,false),(6,1,false),(7,1,false),(8,1,false),(9,1,false),(10,1,false)],[.int .u64 0,.int .u64 0,.int .u32 0,.int .u8 0,.int .u8 0,.int .u8 0,.int .u8 0,.nilFunc,.pointer none,.int .i32 0,.int .i32 0]⟩:=aL (by kernel_rfl) (by kernel_rfl) (by kernel_rfl)
theorem ZD:aB Tryz.prog 191 ⟨1,16,.struct [(0,1,false)],[.string ⟨#[]⟩]⟩:=aL (by kernel_rfl) (by kernel_rfl) (by kernel_rfl)
theorem ZF:aB Tryz.prog 192 ⟨1,16,.struct [(0,1,false)],[.string ⟨#[]⟩]⟩:=aL (by kernel_rfl) (by kernel_rfl) (by kernel_rfl)
theorem u4:∀ t ti,tt t=some ti→aB Tryz.prog t ti:=by
 intro t ti h;unfold tt at h
 split at h
 ·cases h; exact ade
 ·cases h; exact adf
 ·cases h; exact adg
 ·cases h; exact adh
 ·cases h; exact adi
 ·cases h; exact adj
 ·cases h; exact adk
 ·cases h; exact adl
 ·cases h; exact adm
 ·cases h; exact aaV
 ·cases h; exact aaW
 ·cases h; exact aaX
 ·cases h; exact aaY
 ·cases h; exact aaZ
 ·cases h; exact aa0
 ·cases h; exact aa1
 ·cases h; exact aa2
 ·cases h; exact aa3
 ·cases h; exact aa4
 ·cases h; exact aa5
 ·cases h; exact aa6
 ·cases h; exact aa7
 ·cases h; exact aa8
 ·cases h; exact aa9
 ·cases h; exact aba
 ·cases h; exact abb
 ·cases h; exact abc
 ·cases h; exact abd
 ·cases h; exact abe
 ·cases h; exact abf
 ·cases h; exact abg
 ·cases h; exact abh
 ·cases h; exact abi
 ·cases h; exact abj
 ·cases h; exact abk
 ·cases h; exact abl
 ·cases h; exact abm
 ·cases h; exact abn
 ·cases h; exact abo
 ·cases h; exact abp
 ·cases h; exact abq
 ·cases h; exact abr
 ·cases h; exact abt
 ·cases h; exact abu
 ·cases h; exact abv
 ·cases h; exact abw
 ·cases h; exact abx
 ·cases h; exact aby
 ·cases h; exact abz
 ·cases h; exact abA
 ·cases h; exact abB
 ·cases h; exact abC
 ·cases h; exact abD
 ·cases h; exact abE
 ·cases h; exact abF
 ·cases h; exact abG
 ·cases h; exact abH
 ·cases h; exact abI
 ·cases h; exact abJ
 ·cases h; exact abK
 ·cases h; exact abL
 ·cases h; exact abM
 ·cases h; exact abN
 ·cases h; exact abO
 ·cases h; exact abP
 ·cases h; exact abQ
 ·cases h; exact abR
 ·cases h; exact abS
 ·cases h; exact abT
 ·cases h; exact abU
 ·cases h; exact abV
 ·cases h; exact abW
 ·cases h; exact abX
 ·cases h; exact abY
 ·cases h; exact abZ
 ·cases h; exact ab0
 ·cases h; exact ab1
 ·cases h; exact ab2
 ·cases h; exact ab3
 ·cases h; exact ab4
 ·cases h; exact ab5
 ·cases h; exact ab6
 ·cases h; exact ab7
 ·cases h; exact ab8
 ·cases h; exact ab9
 ·cases h; exact aca
 ·cases h; exact acb
 ·cases h; exact Yq
 ·cases h; exact Yr
 ·cases h; exact Ys
 ·cases h; exact Yt
 ·cases h; exact Yu
 ·cases h; exact Yv
 ·cases h; exact Yw
 ·cases h; exact Yx
 ·cases h; exact Yy
 ·cases h; exact Yz
 ·cases h; exact YA
 ·cases h; exact YB
 ·cases h; exact YC
 ·cases h; exact YD
 ·cases h; exact YE
 ·cases h; exact YF
 ·cases h; exact YG
 ·cases h; exact YH
 ·cases h; exact YI
 ·cases h; exact YJ
 ·cases h; exact YK
 ·cases h; exact YL
 ·cases h; exact YM
 ·cases h; exact YN
 ·cases h; exact YO
 ·cases h; exact YP
 ·cases h; exact YQ
 ·cases h; exact YR
 ·cases h; exact YT
 ·cases h; exact YU
 ·cases h; exact YV
 ·cases h; exact YW
 ·cases h; exact YX
 ·cases h; exact YY
 ·cases h; exact YZ
 ·cases h; exact Y0
 ·cases h; exact Y1
 ·cases h; exact Y2
 ·cases h; exact Y3
 ·cases h; exact Y4
 ·cases h; exact Y5
 ·cases h; exact Y6
 ·cases h; exact Y7
 ·cases h; exact Y8
 ·cases h; exact Y9
 ·cases h; exact Za
 ·cases h; exact Zb
 ·cases h; exact Zc
 ·cases h; exact Zd
 ·cases h; exact Ze
 ·cases h; exact Zf
 ·cases h; exact Zg
 ·cases h; exact Zh
 ·cases h; exact Zi
 ·cases h; exact Zj
 ·cases h; exact Zk
 ·cases h; exact Zl
 ·cases h; exact Zm
 ·cases h; exact Zn
 ·cases h; exact Zo
 ·cases h; exact Zp
 ·cases h; exact Zq
 ·cases h; exact Zr
 ·cases h; exact Zs
 ·cases h; exact Zt
 ·cases h; exact Zu
 ·cases h; exact Zv
 ·cases h; exact Zw
 ·cases h; exact Zx
 ·cases h; exact Zy
 ·cases h; exact Zz
 ·cases h; exact ZA
 ·cases h; exact ZB
 ·cases h; exact ZC
 ·cases h; exact ZD
 ·cases h; exact ZF
 ·cases h
def En (cs:List (Nat × uO)) (fs:List (Nat × FT):=[]) (is:List (Nat × (Nat→FT→Nu→FT)):=[]) (iu:Bool:=false):Env:={ tt:=tt,eqs:=[],iu:=iu,Φ:=qI cs,Ψ:=qI fs,It:=qI is }
theorem bD {cs:List (Nat × uO)} {fs:List (Nat × FT)} {is:List (Nat × (Nat→FT→Nu→FT))} {iu:Bool} (h:u9 (Dk Tryz.prog) cs) (J:u9 (fM Tryz.prog) fs):EnvOk Tryz.prog (En cs fs is iu):=⟨u4,(fun _ h=>nomatch h),fun _ _=>wL h,fun _ _=>wL J⟩
theorem vP {cs:List (Nat × uO)} {fs:List (Nat × FT)} {is:List (Nat × (Nat→FT→Nu→FT))} {iu:Bool} (h:u9 (zN Tryz.prog) is):gP Tryz.prog (En cs fs is iu):=fun _ _=>wL h
set_option maxRecDepth 20000
open Go Go.Ae
def E0:Env:={ tt:=tt,eqs:=[],Φ:=fun _=>none }
theorem mg:EnvOk Tryz.prog E0:=⟨u4,fun t h=>by simp [E0] at h,fun g S h=>by simp [E0] at h,fun g F h=>by simp [E0] at h⟩
theorem mixed:Tryz.prog.follows .mixedOrders=true:=by kernel_rfl
theorem aN:nN Tryz.prog cI:=VY mixed
theorem WV:bh Tryz.prog 197 uK:=by
 refine bk mg aN Tryz.func197 (enters_of Tryz.func197 (by kernel_rfl) rfl) (fun _=>rfl) (fun _=>rfl) ?_
 intro ⟨x,y,c⟩ hp;have hp:x < 4294967296∧y < 4294967296∧c≤1:=hp;simp only [uK];conv=>whnf
 simp (disch:=omega) only [bL,wN,cl]
 congr
 omega
theorem ND:bh Tryz.prog 167 lO:=by
 refine bk mg aN Tryz.func167 (enters_of Tryz.func167 (by kernel_rfl) rfl) (fun _=>rfl) (fun _=>rfl) ?_
 intro ⟨x,y,c⟩ hp;have hp:x < 4294967296∧y < 4294967296∧c≤1:=hp;simp only [lO];conv=>whnf
 show Value.tuple ⟨[.int .u32 (CL x y c),.int .u32 (G8 x y c)]⟩=_
 rw [Mm hp.1 hp.2.1 hp.2.2,UT hp.1 hp.2.1 hp.2.2]
 split <;> rfl
theorem WW:bh Tryz.prog 195 CM:=by
 refine bk mg aN Tryz.func195 (enters_of Tryz.func195 (by kernel_rfl) rfl) (fun _=>rfl) (fun _=>rfl) ?_
 intro ⟨x,y,c⟩ hp;have hp:x < c∧y < 4294967296∧c < 4294967296:=hp;simp only [CM];conv=>whnf
 have h1:((c:Int) != 0)=true:=by simp; omega
 have J:decide ((c:Int)≤(x:Int))=false:=by simp; omega
 simp only [h1];conv=>whnf
 simp only [J];conv=>whnf
 refine .inl ⟨11,[[],[],[1],[0,1,2],[0,1,2,3],[],[],[6],[5,6,7],[5,6,7,8],[0,1,2,3,4],[0,1,2,3,4,5,6,7,8,9,10]],by kernel_rfl,?_⟩
 conv=>whnf
 try simp (disch:=omega) only [ax,bL,di,dE,cl,dT,dx,dV,c7,dn,dw,dC,dy,dK,toNat_cast,ay,Nat.zero_add,dS,toNat_0,toNat_1,Nat.sub_zero,dX,dY,eD,eE,dM,dW,dU,dZ]
 refine nq (decide_eq_true (by omega)) ?_
 conv=>whnf
 refine nq (decide_eq_true (by rw [bL (by omega) (by omega)]; omega)) ?_
 conv=>whnf
 try simp (disch:=omega) only [ax,bL,di,dE,cl,dT,dx,dV,c7,dn,dw,dC,dy,dK,toNat_cast,ay,Nat.zero_add,dS,toNat_0,toNat_1,Nat.sub_zero,dX,dY,eD,eE,dM,dW,dU,dZ]
 have e1:((x:Int)*4294967296+y).tdiv c=((x*4294967296+y) / c:Nat):=rfl;have e2:((x:Int)*4294967296+y).tmod c=((x*4294967296+y) % c:Nat):=rfl;have e3:(x*4294967296+y) / c < 4294967296:=by
  refine (Nat.div_lt_iff_lt_mul (by omega)).2 ?_
  have:(x+1)*4294967296≤c*4294967296:=Nat.mul_le_mul_right _ hp.1;omega
 have e4:(x*4294967296+y) % c < c:=Nat.mod_lt _ (by omega)
 generalize (x*4294967296+y) / c=q at *;generalize (x*4294967296+y) % c=r at *;rw [e1,e2,bL (by omega) (by omega),di (by omega) (by omega),di (by omega) (by omega)]
theorem WX:bh Tryz.prog 196 Ha:=by
 refine bk mg aN Tryz.func196 (enters_of Tryz.func196 (by kernel_rfl) rfl) (fun _=>rfl) (fun _=>rfl) ?_
 intro (x:Nat) (hx:x < 4294967296);simp only [Ha];have fin:∀ (y k:Nat),y < 256→∀ (T:ByteArray),(∀ x,x < 256→b8 T x=e9 x)→k≤24→IntKind.i64.wrap ((k:Int)+IntKind.i64.wrap (b8 T (IntKind.u8.wrap (y:Int)).toNat:Int))=((k+e9 y:Nat):Int):=by
  intro y k hy T hT hk;have hb:=Xw hy;rw [dE (by omega) (by omega),toNat_cast,hT y hy]
  simp (disch:=omega) only [ax];omega
 conv=>whnf
 refine aK (fun h=>?_) (fun h=>?_)
 ·have h:65536≤x:=by simp at h; omega
  conv=>whnf
  have e1:(x:Int).fdiv (2 ^ min (Int.toNat 16) IntKind.u32.bits)=((x / 65536:Nat):Int):=by rw [dw]; rfl
  simp only [e1];refine aK (fun J=>?_) (fun J=>?_)
  ·have J:256≤x / 65536:=by simp at J; omega
   conv=>whnf
   have e2:((x / 65536:Nat):Int).fdiv (2 ^ min (Int.toNat 8) IntKind.u32.bits)=((x / 65536 / 256:Nat):Int):=by rw [dn]; rfl
   simp only [e2];refine ⟨⟨?_,?_⟩,?_⟩
   ·rw [lI]; omega
   ·show _ < ((256:Nat):Int)
    rw [lI]; omega
   ·conv=>whnf
    have e3:IntKind.i64.wrap (16+8)=((24:Nat):Int):=rfl;rw [e3];refine congrArg (Value.int .i64) ((fin (x / 65536 / 256) 24 (by omega) _ (by decide +kernel) (by omega)).trans ?_)
    have a1:=Bu (x:=x) (k:=16) (by omega)
    have a2:=Bu (x:=x / 65536) (k:=8) (by omega)
    have q1:(2:Nat) ^ 16=65536:=rfl;have q2:(2:Nat) ^ 8=256:=rfl;rw [q1] at a1;rw [q2] at a2;rw [a1,a2]; omega
  ·have J:x / 65536 < 256:=by simp at J; omega
   conv=>whnf
   refine ⟨⟨?_,?_⟩,?_⟩
   ·rw [lI]; omega
   ·show _ < ((256:Nat):Int)
    rw [lI]; omega
   ·conv=>whnf
    refine congrArg (Value.int .i64) ((fin (x / 65536) 16 (by omega) _ (by decide +kernel) (by omega)).trans ?_)
    have a1:=Bu (x:=x) (k:=16) (by omega)
    have q1:(2:Nat) ^ 16=65536:=rfl;rw [q1] at a1;rw [a1]
 ·have h:x < 65536:=by simp at h; omega
  conv=>whnf
  refine aK (fun J=>?_) (fun J=>?_)
  ·have J:256≤x:=by simp at J; omega
   conv=>whnf
   have e2:(x:Int).fdiv (2 ^ min (Int.toNat 8) IntKind.u32.bits)=((x / 256:Nat):Int):=by rw [dn]; rfl
   simp only [e2];refine ⟨⟨?_,?_⟩,?_⟩
   ·rw [lI]; omega
   ·show _ < ((256:Nat):Int)
    rw [lI]; omega
   ·conv=>whnf
    have e3:IntKind.i64.wrap (0+8)=((8:Nat):Int):=rfl;rw [e3];refine congrArg (Value.int .i64) ((fin (x / 256) 8 (by omega) _ (by decide +kernel) (by omega)).trans ?_)
    have a1:=Bu (x:=x) (k:=8) (by omega)
    have q1:(2:Nat) ^ 8=256:=rfl;rw [q1] at a1;rw [a1]
  ·have J:x < 256:=by simp at J; omega
   conv=>whnf
   refine ⟨⟨?_,?_⟩,?_⟩
   ·rw [lI]; omega
   ·show _ < ((256:Nat):Int)
    rw [lI]; omega
   ·conv=>whnf
    refine congrArg (Value.int .i64) ((fin x 0 (by omega) _ (by decide +kernel) (by omega)).trans ?_)
    rw [Nat.zero_add]
def E1:Env:={ tt:=tt,eqs:=[],Φ:=fun g=>match g with | 196=>some (.p Ha) | _=>none }
theorem aeW:EnvOk Tryz.prog E1:=⟨u4,fun t h=>by simp [E1] at h,(fun g S h=>by
 simp only [E1] at h
 split at h
 ·cases h; exact WX
 ·cases h),fun g F h=>by simp [E1] at h⟩
theorem ZG:bh Tryz.prog 184 C9:=by
 refine bk aeW aN Tryz.func184 (enters_of Tryz.func184 (by kernel_rfl) rfl) (fun _=>rfl) (fun _=>rfl) ?_
 intro (x:Nat) (hx:x < 4294967296);simp only [C9];conv=>whnf
 refine ⟨x,rfl,hx,?_⟩;conv=>whnf
 have hb:=M3 hx;rw [ax (by omega) (by omega)]
 congr 1; omega
open Go Go.Ae
theorem Gn:bh Tryz.prog 165 kT:=by
 refine bk mg aN Tryz.func165 (enters_of Tryz.func165 (by kernel_rfl) rfl) (fun _=>rfl) (fun _=>rfl) ?_
 intro (s:ByteArray) (hs:s.size≤1099511627776);simp only [kT];conv=>whnf
 refine .inl ⟨fun mm tz hz=>∃ (u:ByteArray),bA (some (.string u)::aF 12 []) tz∧hz=[]∧u.size=mm∧(ab u=ab s∧u.size≤s.size),.inl ⟨_,s,(.aa (.sk 12 .nil rfl)),rfl,rfl,?_⟩,?_⟩
 ·exact ⟨rfl,Nat.le_refl _⟩
 rintro mm aT _ ⟨u,aw,rfl,rfl,⟨hu,hle⟩⟩
 obtain ⟨az,rfl⟩:∃ az:Nat→Value,aT=.string u::zs az 1 12 []:=bI aw;clear aw;conv=>whnf
 refine aK (fun h1=>?_) (fun h1=>?_)
 ·simp only [h1];conv=>whnf
  rw [qC] at h1;have h1:u.size≠0:=fun h=>by simp [FG.2 h] at h1
  refine ⟨⟨by omega,by omega⟩,?_⟩
  conv=>whnf
  refine aK (fun J=>?_) (fun J=>?_)
  ·conv=>whnf
   refine ⟨⟨by omega,by omega,by omega⟩,?_⟩
   conv=>whnf
   have e1:u.extract (Int.toNat 1) (Int.toNat u.size)=u.extract 1 u.size:=rfl;have J:b8 u 0=0:=by
    have J:((b8 u 0:Nat):Int)=0:=by simpa using J
    omega
   have h3:=tY (s:=u) (i:=0) (by omega)
   have h4:=gq u;have ba:(u.extract 1 u.size).size=u.size - 1:=EE (by omega) (Nat.le_refl _)
   have hb:ab (u.extract 1 u.size)=ab u:=by
    rw [EJ (by omega) (Nat.le_refl _),Nat.sub_self,Nat.pow_zero,Nat.div_one]
    refine Nat.mod_eq_of_lt ?_;rw [J,Nat.sub_zero] at h3;have h5:ab u / C ^ (u.size - 1) < C:=(Nat.div_lt_iff_lt_mul (gX _)).2 (by
     rw [Nat.mul_comm,← Nat.pow_succ,show (u.size - 1).succ=u.size by omega]; exact h4)
    rw [Nat.mod_eq_of_lt h5] at h3;rcases Nat.lt_or_ge (ab u) (C ^ (u.size - 1)) with h6 | h6
    ·exact h6
    ·have:=Nat.div_pos h6 (gX _);omega
   refine .inl ⟨_,?_,u.extract 1 u.size,(.aa (.sk 12 .nil rfl)),rfl,rfl,?_⟩
   ·rw [ba]; omega
   ·exact ⟨by rw [hb,hu],by rw [ba]; omega⟩
  ·conv=>whnf
   have J:b8 u 0≠0:=by
    intro h;have e:b8 u (Int.toNat 0)=b8 u 0:=rfl;rw [e,h] at J;simp at J
   rw [← hu,← y7 (.inr J)]
 ·simp only [h1];conv=>whnf
  rw [qC] at h1;have h1:u=⟨#[]⟩:=by simpa using h1
  have J:u.size=0:=FG.1 h1;rw [← hu,← y7 (.inl J)]
def Ea:Env:={ tt:=tt,eqs:=[],Φ:=fun g=>match g with
 | 165=>some (.p kT)
 | _=>none }
theorem DH:EnvOk Tryz.prog Ea:=⟨u4,fun t h=>by simp [Ea] at h,(fun g S h=>by
 simp only [Ea] at h
 split at h
 ·cases h; exact Gn
 ·cases h),fun g F h=>by simp [Ea] at h⟩
theorem Cw:cU Tryz.prog 161 sI:=by
 refine dh DH aN Tryz.func161 (enters_of Tryz.func161 (by kernel_rfl) rfl) ?_ ?_ ?_
 ·intro i b hb;cases i with
  | none=>simp [sI,LV.ae] at hb
  | some i=>simp [sI,LV.ae] at hb; rw [hb]; rfl
 ·intro i b hb; simp [sI] at hb
 intro i hp;cases i with
 | none =>
  conv=>whnf
  refine .inr ⟨1,?_⟩;conv=>whnf
  exact ⟨_,rfl,.refl _⟩
 | some i =>
  obtain ⟨n,N,c⟩:=i;have hp:N < 4294967296 ^ n∧n≤274877906944:=hp;conv=>whnf
  refine .inl ⟨fun mm tz hz=>∃ (m:Nat),bA (some (.slice (some ⟨0,0,none⟩) m c)::aF 20 []) tz∧hz=[some (.flat false n 1 (bo N))]∧m=mm∧(N < 4294967296 ^ m∧m≤n),.inl ⟨_,n,(.aa (.sk 20 .nil rfl)),rfl,rfl,?_⟩,?_⟩
  ·exact ⟨hp.1,Nat.le_refl _⟩
  rintro mm aT _ ⟨m,aw,rfl,rfl,h⟩
  obtain ⟨az,rfl⟩:∃ az:Nat→Value,aT=.slice (some ⟨0,0,none⟩) m c::zs az 1 20 []:=bI aw;clear aw;conv=>whnf
  refine aK (fun h1=>?_) (fun h1=>?_)
  ·simp only [h1];have h1:0 < m:=by simpa using h1
   conv=>whnf
   try simp (disch:=omega) only [ax,bL,di,dE,cl,dT,dx,dV,c7,dn,dw,dC,dy,dK,toNat_cast,ay,Nat.zero_add,dS,toNat_0,toNat_1,Nat.sub_zero,dX,dY,eD,eE,dM,dW,dU,dZ]
   refine ⟨⟨by omega,by omega⟩,?_⟩
   try simp (disch:=omega) only [ax,bL,di,dE,cl,dT,dx,dV,c7,dn,dw,dC,dy,dK,toNat_cast,ay,Nat.zero_add,dS,toNat_0,toNat_1,Nat.sub_zero,dX,dY,eD,eE,dM,dW,dU,dZ]
   conv=>whnf
   refine ⟨by omega,?_⟩
   conv=>whnf
   refine aK (fun J=>?_) (fun J=>?_)
   ·have J:ao N (m - 1)=0:=by
     have J:((ao N (m - 1):Nat):Int)=0:=by simpa using J
     omega
    conv=>whnf
    try simp (disch:=omega) only [ax,bL,di,dE,cl,dT,dx,dV,c7,dn,dw,dC,dy,dK,toNat_cast,ay,Nat.zero_add,dS,toNat_0,toNat_1,Nat.sub_zero,dX,dY,eD,eE,dM,dW,dU,dZ]
    refine ⟨⟨by omega,by omega,by omega⟩,?_⟩
    try simp (disch:=omega) only [ax,bL,di,dE,cl,dT,dx,dV,c7,dn,dw,dC,dy,dK,toNat_cast,ay,Nat.zero_add,dS,toNat_0,toNat_1,Nat.sub_zero,dX,dY,eD,eE,dM,dW,dU,dZ]
    conv=>whnf
    refine .inl ⟨_,?_,m - 1,(.aa (.sk 20 .nil rfl)),rfl,rfl,?_⟩
    ·omega
    ·refine ⟨?_,by omega⟩
     have h3:=mod_succ N (m - 1);have h4:=Nat.mod_lt N (eh (m - 1));rw [show m - 1+1=m by omega,J,Nat.mod_eq_of_lt h.1] at h3
     have h5:N % B ^ (m - 1) < 4294967296 ^ (m - 1):=h4;omega
   ·have J:ao N (m - 1)≠0:=by
     intro h;rw [h] at J;simp at J
    conv=>whnf
    have e:=Pn (N:=N) (n:=m) h.1 (.inr J);refine ⟨_,rfl,?_⟩;rw [e];exact .refl _
  ·simp only [h1];have h1:m=0:=by simpa using h1
   conv=>whnf
   have e:=Pn (N:=N) (n:=m) h.1 (.inl h1);refine ⟨_,rfl,?_⟩;rw [e];exact .refl _
theorem Cx:cU Tryz.prog 135 uX:=by
 refine dh DH aN Tryz.func135 (enters_of Tryz.func135 (by kernel_rfl) rfl) ?_ ?_ ?_
 ·intro i b hb; simp [uX] at hb
 ·intro i b hb; simp [uX] at hb; rw [← hb]; rfl
 intro (s:ByteArray) (hs:s.size≤1099511627776);conv=>whnf
 refine ⟨s,rfl,hs,?_⟩;conv=>whnf
 have ba:=jm s;have cG:=OK (ab s);generalize hN:ab s=N at *;have e1:IntKind.i64.wrap ((IntKind.i64.wrap (IntKind.i64.wrap (((nb N).size:Int)+4) - 1)).tdiv 4)=((nl N:Nat):Int):=by
  rw [gD];simp (disch:=omega) only [ax];have:((aQ N:Int)+4 - 1)=((aQ N+3:Nat):Int):=by omega
  rw [this,dM,ax (by omega) (by omega),cG]
 simp only [e1];refine ⟨⟨by omega,by omega,by show _*((4:Nat):Int)≤_; omega⟩,?_⟩
 try simp (disch:=omega) only [ax,bL,di,dE,cl,dT,dx,dV,c7,dn,dw,dC,dy,dK,toNat_cast,ay,Nat.zero_add,dS,toNat_0,toNat_1,Nat.sub_zero,dX,dY,eD,eE,dM,dW,dU,dZ]
 conv=>whnf
 simp only [tN];refine .inl ⟨fun mm tz hz=>∃ (i:Nat) (Y:Nat),bA (some (.string (nb N))::aF 2 (some (.slice (some ⟨0,0,none⟩) (nl N) (nl N))::aF 11 (some (.int .i64 (nb N).size)::some (.int .i64 i)::aF 24 []))) tz∧hz=[some (.flat true (nl N) 1 (bo Y))]∧aQ N - i=mm∧(i≤aQ N∧Y=N % C ^ i),.inl ⟨_,0,0,(.aa (.sk 2 (.aa (.sk 11 (.aa (.aa (.sk 24 .nil rfl))) rfl)) rfl)),rfl,rfl,?_⟩,?_⟩
 ·exact ⟨Nat.zero_le _,by simp [Nat.mod_one]⟩
 rintro mm aT _ ⟨i,Y,aw,rfl,rfl,⟨h,hY⟩⟩
 obtain ⟨az,rfl⟩:∃ az:Nat→Value,aT=.string (nb N)::zs az 1 2 (.slice (some ⟨0,0,none⟩) (nl N) (nl N)::zs az 4 11 (.int .i64 (nb N).size::.int .i64 i::zs az 17 24 [])):=bI aw;clear aw;have Dv:=gD N;conv=>whnf
 refine aK (fun h1=>?_) (fun h1=>?_)
 ·have h1:i < aQ N:=by rw [Dv] at h1; simpa using h1
  conv=>whnf
  have AN:=wD (nb N) ((nb N).size - 1 - i);have dt:b8 (nb N) ((nb N).size - 1 - i)=N / C ^ i % C:=by
   rw [tY (by omega),ik]; congr 3; omega
  obtain ⟨au,an⟩:=UU N i;rw [← hY,← dt] at au;rw [← hY] at an;have hd:=Ty _ _ _ an AN (Nat.mod_lt _ (by omega))
  have bV:ao Y (i / 4)+b8 (nb N) ((nb N).size - 1 - i)*256 ^ (i % 4) < B:=by
   have J:(b8 (nb N) ((nb N).size - 1 - i)+1)*256 ^ (i % 4)≤256*256 ^ (i % 4):=Nat.mul_le_mul_right _ AN;have h3:256*256 ^ (i % 4)≤B:=by
    have:(256:Nat) ^ (i % 4)≤256 ^ 3:=Nat.pow_le_pow_right (by decide) (by omega)
    have e:(256:Nat) ^ 3=16777216:=rfl;have e2:B=4294967296:=rfl;omega
   rw [Nat.add_mul] at J;omega
  refine .inl ⟨13,[[],[],[1],[0,1,2],[0,1,2,3],[],[],[5,6],[5,6,7],[],[9],[9,10],[5,6,7,8,9,10,11],[0,1,2,3,4,5,6,7,8,9,10,11,12],[0,1,2,3,4,5,6,7,8,9,10,11,12,13],[0,1,2,3,4,5,6,7,8,9,10,11,12,13,14]],by kernel_rfl,?_⟩
  conv=>whnf
  try simp (disch:=omega) only [ax,bL,di,dE,cl,dT,dx,dV,c7,dn,dw,dC,dy,dK,toNat_cast,ay,Nat.zero_add,dS,toNat_0,toNat_1,Nat.sub_zero,dX,dY,eD,eE,dM,dW,dU,dZ]
  refine ⟨⟨by omega,by omega⟩,?_⟩
  conv=>whnf
  refine ⟨by show i / 4 < nl N; omega,?_⟩
  conv=>whnf
  refine ⟨⟨by omega,by omega⟩,?_⟩
  conv=>whnf
  have afo:b8 (nb N) ((nb N).size - 1 - i) < 256:=AN
  try simp (disch:=omega) only [ax,bL,di,dE,cl,dT,dx,dV,c7,dn,dw,dC,dy,dK,toNat_cast,ay,Nat.zero_add,dS,toNat_0,toNat_1,Nat.sub_zero,dX,dY,eD,eE,dM,dW,dU,dZ]
  simp only [Int.natCast_nonneg,decide_true];conv=>whnf
  simp only [hd];refine ⟨⟨by omega,by omega⟩,?_⟩
  conv=>whnf
  refine ⟨by show i / 4 < nl N; omega,?_⟩
  conv=>whnf
  try simp (disch:=omega) only [ax,bL,di,dE,cl,dT,dx,dV,c7,dn,dw,dC,dy,dK,toNat_cast,ay,Nat.zero_add,dS,toNat_0,toNat_1,Nat.sub_zero,dX,dY,eD,eE,dM,dW,dU,dZ]
  rw [fE bV,au];refine .inr ⟨[0],[0,3,15,16],?_⟩;conv=>whnf
  intro _;conv=>whnf
  refine ⟨_,?_,i+1,N % C ^ (i+1),(.aa (.sk 2 (.aa (.sk 11 (.aa (.aa (.sk 24 .nil rfl))) rfl)) rfl)),rfl,rfl,?_⟩
  ·omega
  ·exact ⟨by omega,rfl⟩
 ·have h1:i=aQ N:=by
   have h1:¬ i < aQ N:=by rw [Dv] at h1; simpa using h1
   omega
  subst h1;have hYN:Y=ab s:=by rw [hY,hN,Nat.mod_eq_of_lt (lN N)]
  conv=>whnf
  refine ⟨0,?_⟩;conv=>whnf
  rw [hYN,hN];refine ⟨⟨rfl,aG.aR (fun h=>by cases h) (fun r hr=>rfl)⟩,_,rfl,?_⟩
  rw [hN];exact .cap _ _ _ rfl
open Go Go.Ae
theorem WY:cU Tryz.prog 162 y8:=by
 refine dh DH aN Tryz.func162 (enters_of Tryz.func162 (by kernel_rfl) rfl) ?_ ?_ ?_
 ·intro i b hb;cases i with
  | none=>simp [y8,LV.ae] at hb
  | some i=>simp [y8,LV.ae] at hb; rw [hb]; rfl
 ·intro i b hb; simp [y8] at hb
 intro i hp;cases i with
 | none =>
  conv=>whnf
  refine .inr ⟨1,?_⟩;conv=>whnf
  refine ⟨⟨#[]⟩,rfl,Nat.zero_le _,?_⟩;conv=>whnf
  exact ⟨_,rfl,.refl _⟩
 | some i =>
  obtain ⟨n,N,c⟩:=i;have hp:N < 4294967296 ^ n∧n≤274877906944:=hp;conv=>whnf
  refine .inl ⟨fun mm tz hz=>∃ (i:Nat) (out:Value) (hp:aA),bA (some (.slice (some ⟨0,0,none⟩) n c)::aF 2 (some (out)::some (.int .i64 (IntKind.i64.wrap ((i:Int) - 1)))::aF 36 [])) tz∧hz=hp∧i=mm∧(i≤n∧((out=.slice none 0 0∧hp=[some (.flat false n 1 (bo N))]∧i=n)∨(∃ m g,out=.slice (some ⟨1,0,none⟩) m aM∧hp=[some (.flat false n 1 (bo N)),some (.flat true m 1 g)]∧m=4*(n - i)∧∀ r,r < m→g r=[.int .u8 ((N / B ^ i / C ^ (m - 1 - r) % C:Nat):Int)]))),.inl ⟨_,n,.slice none 0 0,[some (.flat false n 1 (bo N))],(.aa (.sk 2 (.aa (.aa (.sk 36 .nil rfl))) rfl)),rfl,rfl,?_⟩,?_⟩
  ·exact ⟨Nat.le_refl _,.inl ⟨rfl,rfl,rfl⟩⟩
  rintro mm aT _ ⟨i,out,hp,aw,rfl,rfl,⟨hi,h⟩⟩
  obtain ⟨az,rfl⟩:∃ az:Nat→Value,aT=.slice (some ⟨0,0,none⟩) n c::zs az 1 2 (out::.int .i64 (IntKind.i64.wrap ((i:Int) - 1))::zs az 5 36 []):=bI aw;clear aw;rcases h with ⟨rfl,rfl,rfl⟩ | ⟨m,g,rfl,rfl,rfl,hg⟩
  ·-- nothing written yet
   conv=>whnf
   refine aK (fun h1=>?_) (fun h1=>?_)
   ·have h1:0 < i:=by
     rcases Nat.eq_zero_or_pos i with h | h
     ·subst h; revert h1; decide
     ·exact h
    have hl:=cK N (i - 1);have hl:ao N (i - 1) < 4294967296:=hl;have ei:IntKind.i64.wrap ((i:Int) - 1)=((i - 1:Nat):Int):=by rw [ax (by omega) (by omega)]; omega
    simp only [ei];conv=>whnf
    refine .inl ⟨25,[[],[],[],[1,2],[1,2,3],[1,2,3,4],[1,2,3,4,5],[],[],[7,8],[7,8,9],[7,8,9,10],[7,8,9,10,11],[],[],[13,14],[13,14,15],[13,14,15,16],[13,14,15,16,17],[],[],[19,20],[19,20,21],[19,20,21,22],[1,2,3,4,5,6,7,8,9,10,11,12,13,14,15,16,17,18,19,20,21,22,23],[0,1,2,3,4,5,6,7,8,9,10,11,12,13,14,15,16,17,18,19,20,21,22,23,24],[0,1,2,3,4,5,6,7,8,9,10,11,12,13,14,15,16,17,18,19,20,21,22,23,24,25]],by kernel_rfl,?_⟩
    conv=>whnf
    refine ⟨⟨by omega,by omega⟩,?_⟩
    simp only [toNat_cast,ay,Nat.zero_add];conv=>whnf
    refine ⟨by omega,?_⟩
    conv=>whnf
    refine ⟨⟨by omega,by omega⟩,?_⟩
    simp only [toNat_cast,ay,Nat.zero_add];conv=>whnf
    refine ⟨by omega,?_⟩
    conv=>whnf
    refine ⟨⟨by omega,by omega⟩,?_⟩
    simp only [toNat_cast,ay,Nat.zero_add];conv=>whnf
    refine ⟨by omega,?_⟩
    conv=>whnf
    refine ⟨⟨by omega,by omega⟩,?_⟩
    simp only [toNat_cast,ay,Nat.zero_add];conv=>whnf
    refine ⟨by omega,?_⟩
    conv=>whnf
    simp only [dC,dw,dn,Po,Pp,Qe,Qf];refine ⟨by decide,?_⟩
    conv=>whnf
    refine .inr ⟨[0,26],[0,3,4],?_⟩;conv=>whnf
    intro _;conv=>whnf
    refine ⟨_,?_,i - 1,.slice (some ⟨1,0,none⟩) 4 aM,[some (.flat false i 1 (bo N)),some (.flat true 4 1 _)],(.aa (.sk 2 (.aa (.aa (.sk 36 .nil rfl))) rfl)),rfl,rfl,?_⟩
    ·omega
    ·refine ⟨by omega,.inr ⟨4,_,rfl,rfl,by omega,fun r hr=>?_⟩⟩
     have:=Lu (N:=N) (i:=i) (m:=0) (g:=fun _=>[]) h1 (fun r hr=>absurd hr (by omega)) rfl rfl rfl rfl r (by omega)
     rw [gp (by omega),Nat.sub_zero] at this
     rw [this]
   ·have h1:i=0:=by
     rcases Nat.eq_zero_or_pos i with h | h
     ·exact h
     ·rw [ax (by omega) (by omega)] at h1
      simp at h1; omega
    subst h1;have hN:N=0:=by simpa using hp.1
    subst hN;conv=>whnf
    refine ⟨⟨#[]⟩,rfl,Nat.zero_le _,?_⟩;conv=>whnf
    exact ⟨_,rfl,.refl _⟩
  ·-- behind the first limb
   conv=>whnf
   refine aK (fun h1=>?_) (fun h1=>?_)
   ·have h1:0 < i:=by
     rcases Nat.eq_zero_or_pos i with h | h
     ·subst h; revert h1; decide
     ·exact h
    have hl:=cK N (i - 1);have hl:ao N (i - 1) < 4294967296:=hl;have ei:IntKind.i64.wrap ((i:Int) - 1)=((i - 1:Nat):Int):=by rw [ax (by omega) (by omega)]; omega
    simp only [ei];conv=>whnf
    refine .inl ⟨25,[[],[],[],[1,2],[1,2,3],[1,2,3,4],[1,2,3,4,5],[],[],[7,8],[7,8,9],[7,8,9,10],[7,8,9,10,11],[],[],[13,14],[13,14,15],[13,14,15,16],[13,14,15,16,17],[],[],[19,20],[19,20,21],[19,20,21,22],[1,2,3,4,5,6,7,8,9,10,11,12,13,14,15,16,17,18,19,20,21,22,23],[0,1,2,3,4,5,6,7,8,9,10,11,12,13,14,15,16,17,18,19,20,21,22,23,24],[0,1,2,3,4,5,6,7,8,9,10,11,12,13,14,15,16,17,18,19,20,21,22,23,24,25]],by kernel_rfl,?_⟩
    conv=>whnf
    refine ⟨⟨by omega,by omega⟩,?_⟩
    simp only [toNat_cast,ay,Nat.zero_add];conv=>whnf
    refine ⟨by omega,?_⟩
    conv=>whnf
    refine ⟨⟨by omega,by omega⟩,?_⟩
    simp only [toNat_cast,ay,Nat.zero_add];conv=>whnf
    refine ⟨by omega,?_⟩
    conv=>whnf
    refine ⟨⟨by omega,by omega⟩,?_⟩
    simp only [toNat_cast,ay,Nat.zero_add];conv=>whnf
    refine ⟨by omega,?_⟩
    conv=>whnf
    refine ⟨⟨by omega,by omega⟩,?_⟩
    simp only [toNat_cast,ay,Nat.zero_add];conv=>whnf
    refine ⟨by omega,?_⟩
    conv=>whnf
    simp only [dC,dw,dn,Po,Pp,Qe,Qf];refine ⟨⟨by decide,rfl,?_⟩,?_⟩
    ·show (4*(n - i)+4)*1≤_
     omega
    conv=>whnf
    refine ⟨[0,4],?_⟩;conv=>whnf
    intro _;conv=>whnf
    refine .inr ⟨[0,1],[0,3,4],?_⟩;conv=>whnf
    intro _;conv=>whnf
    refine ⟨_,?_,i - 1,.slice (some ⟨1,0,none⟩) (4*(n - i)+4) aM,[some (.flat false n 1 (bo N)),some (.flat true (4*(n - i)+4) 1 _)],(.aa (.sk 2 (.aa (.aa (.sk 36 .nil rfl))) rfl)),rfl,rfl,?_⟩
    ·omega
    ·exact ⟨by omega,.inr ⟨4*(n - i)+4,_,rfl,rfl,by omega,Lu h1 hg rfl rfl rfl rfl⟩⟩
   ·have h1:i=0:=by
     rcases Nat.eq_zero_or_pos i with h | h
     ·exact h
     ·rw [ax (by omega) (by omega)] at h1
      simp at h1; omega
    subst h1;rw [Nat.pow_zero,Nat.div_one] at hg;rw [Nat.sub_zero] at hg;have an:N < C ^ (4*n):=by rw [← Dy]; exact hp.1
    by_cases hn:n=0
    ·subst hn;have hN:N=0:=by simpa using hp.1
     subst hN;conv=>whnf
     refine ⟨⟨#[]⟩,rfl,Nat.zero_le _,?_⟩;conv=>whnf
     exact ⟨_,rfl,.refl _⟩
    ·obtain ⟨m,hm⟩:∃ m,4*n=m+1:=⟨4*n - 1,by omega⟩
     rw [hm] at hg an;rw [Nat.sub_zero,hm];have hs:=wq hg;conv=>whnf
     refine ⟨⟨by show 0+(m+1)≤m+1; omega,fun r hr=>⟨_,by show g (0+r)=_; rw [Nat.zero_add]; exact hg r hr⟩⟩,?_⟩
     rw [show (aj.flat true (m+1) 1 g).row=g from rfl,hs]
     conv=>whnf
     refine ⟨be (m+1) N,rfl,?_,?_⟩
     ·show (be (m+1) N).size≤_
      rw [w8]; omega
     conv=>whnf
     rw [GC,Nat.mod_eq_of_lt an];exact ⟨_,rfl,.refl _⟩
def Eb:Env:={ tt:=tt,eqs:=[],Φ:=fun g=>match g with
 | 165=>some (.p kT)
 | 161=>some (.q sI)
 | 162=>some (.q y8)
 | 135=>some (.q uX)
 | _=>none }
theorem Qt:EnvOk Tryz.prog Eb:=⟨u4,fun t h=>by simp [Eb] at h,(fun g S h=>by
 simp only [Eb] at h
 split at h
 ·cases h; exact Gn
 ·cases h; exact Cw
 ·cases h; exact WY
 ·cases h; exact Cx
 ·cases h),fun g F h=>by simp [Eb] at h⟩
theorem GU:cU Tryz.prog 131 uY:=by
 refine dh Qt aN Tryz.func131 (enters_of Tryz.func131 (by kernel_rfl) rfl) ?_ ?_ ?_
 ·intro i b hb;obtain ⟨neg,i⟩:=i;cases i with
  | none=>simp [uY,LV.ae] at hb
  | some i=>simp [uY,LV.ae] at hb; rw [hb]; rfl
 ·intro i b hb; simp [uY] at hb
 intro ⟨neg,i⟩ hp;have fin:∀ N:Nat,(!(nb N).toList == (⟨#[]⟩:ByteArray).toList)=(N != 0):=by
  intro N;rw [qC];by_cases h:N=0
  ·subst h; simp [qj]
  ·simp [h,KC]
 cases i with
 | none =>
  cases neg
  all_goals
   conv=>whnf
   refine ⟨none,[],rfl,trivial,?_⟩;conv=>whnf
   refine ⟨_,rfl,?_⟩;conv=>whnf
   refine ⟨none,[],rfl,trivial,?_⟩;conv=>whnf
   refine ⟨_,rfl,?_⟩;conv=>whnf
   simp only [LV.num,fin];exact ⟨_,rfl,.refl _⟩
 | some i =>
  obtain ⟨n,N,c⟩:=i;have hp:N < 4294967296 ^ n∧n≤274877906944:=hp;have cG:=jN hp.1;cases neg
  all_goals
   conv=>whnf
   refine ⟨some (n,N,c),[0],rfl,hp,?_⟩;conv=>whnf
   refine ⟨aG.aR (fun h=>h) (fun r hr=>rfl),?_⟩
   conv=>whnf
   refine ⟨_,rfl,?_⟩;conv=>whnf
   refine ⟨some (nl N,N,c),[0],rfl,⟨b6 N,by omega⟩,?_⟩
   conv=>whnf
   refine ⟨?_,?_⟩
   ·exact ⟨(fun h=>by cases h),rfl,cG,fun _ _=>rfl,fun r hr v hv=>dD (l:=bo N r) rfl v hv⟩
   conv=>whnf
   refine ⟨_,rfl,?_⟩;conv=>whnf
   simp only [LV.num,fin];exact ⟨_,rfl,.refl _⟩
open Go Go.Ae
theorem Fp:cU Tryz.prog 136 wP:=by
 refine dh Qt aN Tryz.func136 (enters_of Tryz.func136 (by kernel_rfl) rfl) ?_ ?_ ?_
 ·intro i b hb; simp [wP,kE] at hb; rcases hb with rfl | rfl <;> rfl
 ·intro i b hb; simp [wP] at hb
 intro ⟨A,ca,D,cd⟩ hp;have hp:nl A≤137438953472∧nl D≤137438953472:=hp;conv=>whnf
 refine aK (fun h=>?_) (fun h=>?_)
 ·have h:nl A≠nl D:=by
   intro e;have e':((nl A:Nat):Int)=((nl D:Nat):Int):=by rw [e]
   simp [e'] at h
  conv=>whnf
  refine aK (fun J=>?_) (fun J=>?_)
  ·have J:nl A < nl D:=by simpa using J
   conv=>whnf
   have:=KW J;refine ⟨_,rfl,?_⟩;simp only [cP,if_pos this];exact .refl _
  ·have J:nl D < nl A:=by
    have J:¬ nl A < nl D:=by simpa using J
    omega
   conv=>whnf
   have:=KW J;refine ⟨_,rfl,?_⟩;simp only [cP,if_neg (show ¬ A < D by omega),if_pos this]
   exact .refl _
 ·have h:nl D=nl A:=by
   by_cases e:nl A=nl D
   ·exact e.symm
   ·have e':((nl A:Nat):Int)≠((nl D:Nat):Int):=by omega
    simp [e'] at h
  conv=>whnf
  refine .inl ⟨fun mm tz hz=>∃ (i:Nat),bA (some (.slice (some ⟨0,0,none⟩) (nl A) ca)::some (.slice (some ⟨1,0,none⟩) (nl D) cd)::aF 3 (some (.int .i64 (IntKind.i64.wrap ((i:Int) - 1)))::aF 37 [])) tz∧hz=[some (.flat false (nl A) 1 (bo A)),some (.flat false (nl D) 1 (bo D))]∧i=mm∧(i≤nl A∧A / B ^ i=D / B ^ i),.inl ⟨_,nl A,(.aa (.aa (.sk 3 (.aa (.sk 37 .nil rfl)) rfl))),rfl,rfl,?_⟩,?_⟩
  ·refine ⟨Nat.le_refl _,?_⟩;have h1:=b6 A;have J:=b6 D;rw [h] at J;rw [Nat.div_eq_of_lt h1,Nat.div_eq_of_lt J]
  rintro mm aT _ ⟨i,aw,rfl,rfl,⟨hi,he⟩⟩
  obtain ⟨az,rfl⟩:∃ az:Nat→Value,aT=.slice (some ⟨0,0,none⟩) (nl A) ca::.slice (some ⟨1,0,none⟩) (nl D) cd::zs az 2 3 (.int .i64 (IntKind.i64.wrap ((i:Int) - 1))::zs az 6 37 []):=bI aw;clear aw;conv=>whnf
  refine aK (fun h1=>?_) (fun h1=>?_)
  ·have h1:0 < i:=by
    rcases Nat.eq_zero_or_pos i with h | h
    ·subst h; revert h1; decide
    ·exact h
   have ei:IntKind.i64.wrap ((i:Int) - 1)=((i - 1:Nat):Int):=by rw [ax (by omega) (by omega)]; omega
   have hA:=qf A (i - 1);have hD:=qf D (i - 1);rw [show i - 1+1=i by omega] at hA hD
   rw [← he] at hD;simp only [ei];conv=>whnf
   refine .inl ⟨8,[[],[],[0,1],[0,1,2],[],[],[4,5],[4,5,6],[0,1,2,3,4,5,6,7],[0,1,2,3,4,5,6,7,8]],by kernel_rfl,?_⟩
   conv=>whnf
   refine ⟨⟨by omega,by omega⟩,?_⟩
   try simp (disch:=omega) only [ax,bL,di,dE,cl,dT,dx,dV,c7,dn,dw,dC,dy,dK,toNat_cast,ay,Nat.zero_add,dS,toNat_0,toNat_1,Nat.sub_zero,dX,dY,eD,eE,dM,dW,dU,dZ]
   conv=>whnf
   refine ⟨by show i - 1 < nl A; omega,?_⟩
   conv=>whnf
   refine ⟨⟨by omega,by omega⟩,?_⟩
   try simp (disch:=omega) only [ax,bL,di,dE,cl,dT,dx,dV,c7,dn,dw,dC,dy,dK,toNat_cast,ay,Nat.zero_add,dS,toNat_0,toNat_1,Nat.sub_zero,dX,dY,eD,eE,dM,dW,dU,dZ]
   conv=>whnf
   refine ⟨by show i - 1 < nl D; omega,?_⟩
   conv=>whnf
   refine aK (fun J=>?_) (fun J=>?_)
   ·have J:ao A (i - 1) < ao D (i - 1):=by simpa using J
    conv=>whnf
    have an:A < D:=by
     rcases Nat.lt_or_ge A D with h | h
     ·exact h
     ·have:=Nat.div_le_div_right (c:=B ^ (i - 1)) h;omega
    refine ⟨_,rfl,?_⟩;simp only [cP,if_pos an];exact .refl _
   ·have J:ao D (i - 1)≤ao A (i - 1):=by simpa using J
    conv=>whnf
    refine .inl ⟨8,[[],[],[0,1],[0,1,2],[],[],[4,5],[4,5,6],[0,1,2,3,4,5,6,7],[0,1,2,3,4,5,6,7,8]],by kernel_rfl,?_⟩
    conv=>whnf
    refine ⟨⟨by omega,by omega⟩,?_⟩
    try simp (disch:=omega) only [ax,bL,di,dE,cl,dT,dx,dV,c7,dn,dw,dC,dy,dK,toNat_cast,ay,Nat.zero_add,dS,toNat_0,toNat_1,Nat.sub_zero,dX,dY,eD,eE,dM,dW,dU,dZ]
    conv=>whnf
    refine ⟨by show i - 1 < nl A; omega,?_⟩
    conv=>whnf
    refine ⟨⟨by omega,by omega⟩,?_⟩
    try simp (disch:=omega) only [ax,bL,di,dE,cl,dT,dx,dV,c7,dn,dw,dC,dy,dK,toNat_cast,ay,Nat.zero_add,dS,toNat_0,toNat_1,Nat.sub_zero,dX,dY,eD,eE,dM,dW,dU,dZ]
    conv=>whnf
    refine ⟨by show i - 1 < nl D; omega,?_⟩
    conv=>whnf
    refine aK (fun h3=>?_) (fun h3=>?_)
    ·have h3:ao D (i - 1) < ao A (i - 1):=by simpa using h3
     conv=>whnf
     have an:D < A:=by
      rcases Nat.lt_or_ge D A with h | h
      ·exact h
      ·have:=Nat.div_le_div_right (c:=B ^ (i - 1)) h;omega
     refine ⟨_,rfl,?_⟩;simp only [cP,if_neg (show ¬ A < D by omega),if_pos an]
     exact .refl _
    ·have h3:ao A (i - 1)≤ao D (i - 1):=by simpa using h3
     conv=>whnf
     refine .inr ⟨[0,1],[0,1,5],?_⟩;conv=>whnf
     intro _;conv=>whnf
     refine ⟨_,?_,i - 1,(.aa (.aa (.sk 3 (.aa (.sk 37 .nil rfl)) rfl))),rfl,rfl,?_⟩
     ·omega
     ·refine ⟨by omega,?_⟩
      rw [hA,hD,show ao A (i - 1)=ao D (i - 1) by omega]
  ·have h1:i=0:=by
    rcases Nat.eq_zero_or_pos i with h | h
    ·exact h
    ·rw [ax (by omega) (by omega)] at h1
     simp at h1; omega
   subst h1;rw [Nat.pow_zero,Nat.div_one,Nat.div_one] at he;conv=>whnf
   refine ⟨_,rfl,?_⟩;simp only [cP,he,Nat.lt_irrefl,if_false];exact .refl _
def Ec:Env:={ tt:=tt,eqs:=[],Φ:=fun g=>match g with
 | 165=>some (.p kT)
 | 161=>some (.q sI)
 | 167=>some (.p lO)
 | _=>none }
theorem IG:EnvOk Tryz.prog Ec:=⟨u4,fun t h=>by simp [Ec] at h,(fun g S h=>by
 simp only [Ec] at h
 split at h
 ·cases h; exact Gn
 ·cases h; exact Cw
 ·cases h; exact ND
 ·cases h),fun g F h=>by simp [Ec] at h⟩
theorem WZ:cU Tryz.prog 143 CN:=by
 refine dh IG aN Tryz.func143 (enters_of Tryz.func143 (by kernel_rfl) rfl) ?_ ?_ ?_
 ·intro i b hb; simp [CN,kE] at hb; rcases hb with rfl | rfl <;> rfl
 ·intro i b hb; simp [CN] at hb; rw [← hb]; rfl
 intro ⟨A,ca,D,cd⟩ hp;have hp:(nl A≤137438953472∧nl D≤137438953472)∧D≤A:=hp;have cG:=lJ hp.2;conv=>whnf
 refine ⟨⟨by omega,by omega,by show ((nl A:Nat):Int)*((4:Nat):Int)≤_; omega⟩,?_⟩
 simp only [toNat_cast,tN];conv=>whnf
 refine .inl ⟨fun mm tz hz=>∃ (i:Nat) (Y:Nat) (b:Nat),bA (some (.slice (some ⟨0,0,none⟩) (nl A) ca)::some (.slice (some ⟨1,0,none⟩) (nl D) cd)::aF 3 (some (.slice (some ⟨2,0,none⟩) (nl A) (nl A))::some (.int .u32 b)::aF 6 (some (.slice (some ⟨0,0,none⟩) (nl A) ca)::some (.int .i64 (nl A))::some (.int .i64 i)::aF 25 []))) tz∧hz=[some (.flat false (nl A) 1 (bo A)),some (.flat false (nl D) 1 (bo D)),some (.flat true (nl A) 1 (bo Y))]∧nl A - i=mm∧(i≤nl A∧b≤1∧Y < B ^ i∧A % B ^ i+b*B ^ i=Y+D % B ^ i),.inl ⟨_,0,0,0,(.aa (.aa (.sk 3 (.aa (.aa (.sk 6 (.aa (.aa (.aa (.sk 25 .nil rfl)))) rfl))) rfl))),rfl,rfl,?_⟩,?_⟩
 ·simp [Nat.mod_one]
 rintro mm aT _ ⟨i,Y,b,aw,rfl,rfl,⟨hi,hb,hY,he⟩⟩
 obtain ⟨az,rfl⟩:∃ az:Nat→Value,aT=.slice (some ⟨0,0,none⟩) (nl A) ca::.slice (some ⟨1,0,none⟩) (nl D) cd::zs az 2 3 (.slice (some ⟨2,0,none⟩) (nl A) (nl A)::.int .u32 b::zs az 7 6 (.slice (some ⟨0,0,none⟩) (nl A) ca::.int .i64 (nl A)::.int .i64 i::zs az 16 25 [])):=bI aw;clear aw;conv=>whnf
 refine aK (fun h1=>?_) (fun h1=>?_)
 ·have h1:i < nl A:=by simpa using h1
  conv=>whnf
  refine ⟨⟨by omega,by omega⟩,?_⟩
  try simp (disch:=omega) only [ax,bL,di,dE,cl,dT,dx,dV,c7,dn,dw,dC,dy,dK,toNat_cast,ay,Nat.zero_add,dS,toNat_0,toNat_1,Nat.sub_zero,dX,dY,eD,eE,dM,dW,dU,dZ]
  conv=>whnf
  refine ⟨by show i < nl A; omega,?_⟩
  conv=>whnf
  have tC:=cK A i;have Em:=cK D i;have c9:∃ d,d=(ao A i+2*4294967296 - ao D i - b) % 4294967296:=⟨_,rfl⟩;obtain ⟨d,hd⟩:=c9;have dJ:d < B:=by rw [hd]; exact Nat.mod_lt _ (by decide)
  have au:=Tz (b':=if ao A i < ao D i+b then 1 else 0) hY he (by
   have e:B=4294967296:=rfl
   split <;> omega) dJ
  refine aK (fun J=>?_) (fun J=>?_)
  ·have J:i < nl D:=by simpa using J
   conv=>whnf
   refine ⟨⟨by omega,by omega⟩,?_⟩
   try simp (disch:=omega) only [ax,bL,di,dE,cl,dT,dx,dV,c7,dn,dw,dC,dy,dK,toNat_cast,ay,Nat.zero_add,dS,toNat_0,toNat_1,Nat.sub_zero,dX,dY,eD,eE,dM,dW,dU,dZ]
   conv=>whnf
   refine ⟨by show i < nl D; omega,?_⟩
   conv=>whnf
   refine ⟨(ao A i,ao D i,b),rfl,⟨tC,Em,hb⟩,?_⟩;simp only [lO,← hd];conv=>whnf
   refine ⟨⟨by omega,by omega⟩,?_⟩
   try simp (disch:=omega) only [ax,bL,di,dE,cl,dT,dx,dV,c7,dn,dw,dC,dy,dK,toNat_cast,ay,Nat.zero_add,dS,toNat_0,toNat_1,Nat.sub_zero,dX,dY,eD,eE,dM,dW,dU,dZ]
   conv=>whnf
   refine ⟨by show i < nl A; omega,?_⟩
   conv=>whnf
   try simp (disch:=omega) only [ax,bL,di,dE,cl,dT,dx,dV,c7,dn,dw,dC,dy,dK,toNat_cast,ay,Nat.zero_add,dS,toNat_0,toNat_1,Nat.sub_zero,dX,dY,eD,eE,dM,dW,dU,dZ]
   rw [fE dJ];refine .inl ⟨_,?_,i+1,cH Y i d,if ao A i < ao D i+b then 1 else 0,(.aa (.aa (.sk 3 (.aa (.aa (.sk 6 (.aa (.aa (.aa (.sk 25 .nil rfl)))) rfl))) rfl))),rfl,rfl,?_⟩
   ·omega
   ·exact ⟨by omega,by split <;> omega,au.1,au.2⟩
  ·have J:nl D≤i:=by
    have J:¬ i < nl D:=by simpa using J
    omega
   have h0:=uf (b6 D) J;rw [h0] at hd au;rw [Nat.zero_add] at au;conv=>whnf
   refine ⟨(ao A i,0,b),rfl,⟨tC,(by show 0 < 4294967296; decide),hb⟩,?_⟩
   simp only [lO,← hd];conv=>whnf
   refine ⟨⟨by omega,by omega⟩,?_⟩
   try simp (disch:=omega) only [ax,bL,di,dE,cl,dT,dx,dV,c7,dn,dw,dC,dy,dK,toNat_cast,ay,Nat.zero_add,dS,toNat_0,toNat_1,Nat.sub_zero,dX,dY,eD,eE,dM,dW,dU,dZ]
   conv=>whnf
   refine ⟨by show i < nl A; omega,?_⟩
   conv=>whnf
   try simp (disch:=omega) only [ax,bL,di,dE,cl,dT,dx,dV,c7,dn,dw,dC,dy,dK,toNat_cast,ay,Nat.zero_add,dS,toNat_0,toNat_1,Nat.sub_zero,dX,dY,eD,eE,dM,dW,dU,dZ]
   rw [fE dJ];refine .inl ⟨_,?_,i+1,cH Y i d,if ao A i < b then 1 else 0,(.aa (.aa (.sk 3 (.aa (.aa (.sk 6 (.aa (.aa (.aa (.sk 25 .nil rfl)))) rfl))) rfl))),rfl,rfl,?_⟩
   ·omega
   ·exact ⟨by omega,by split <;> omega,au.1,au.2⟩
 ·have h1:i=nl A:=by
   have h1:¬ i < nl A:=by simpa using h1
   omega
  subst h1;have Eo:Y=A - D∧b=0:=by
   rw [Nat.mod_eq_of_lt (b6 A),Nat.mod_eq_of_lt (Nat.lt_of_le_of_lt hp.2 (b6 A))] at he;rcases Nat.eq_zero_or_pos b with h | h
   ·subst h; omega
   ·have:b=1:=by omega
    subst this;omega
  conv=>whnf
  refine ⟨some (nl A,Y,nl A),[2],rfl,⟨hY,by omega⟩,?_⟩
  conv=>whnf
  refine ⟨aG.aR (fun h=>by cases h) (fun r hr=>rfl),?_⟩
  conv=>whnf
  refine ⟨_,rfl,?_⟩;conv=>whnf
  refine ⟨2,?_⟩;conv=>whnf
  rw [Eo.1];have hle:=lJ (show A - D≤A by omega)
  refine ⟨⟨rfl,⟨(fun h=>by cases h),rfl,hle,fun _ _=>rfl,fun r hr v hv=>dD (l:=bo (A - D) r) rfl v hv⟩⟩,_,rfl,?_⟩
  exact .cap _ _ _ rfl
open Go Go.Ae
theorem W0:cU Tryz.prog 139 CO:=by
 refine dh IG aN Tryz.func139 (enters_of Tryz.func139 (by kernel_rfl) rfl) ?_ ?_ ?_
 ·intro i b hb; simp [CO,kE] at hb; rcases hb with rfl | rfl <;> rfl
 ·intro i b hb; simp [CO] at hb; rw [← hb]; rfl
 intro ⟨A,ca,D,cd⟩ hp;have hp:nl A≤137438953472∧nl D≤137438953472:=hp;conv=>whnf
 have e1:IntKind.i64.wrap (((nl A:Nat):Int)+((nl D:Nat):Int))=((nl A+nl D:Nat):Int):=by rw [ax (by omega) (by omega)]; omega
 simp only [e1];refine ⟨⟨by omega,by omega,by show ((nl A+nl D:Nat):Int)*((4:Nat):Int)≤_; omega⟩,?_⟩
 simp only [toNat_cast,tN];conv=>whnf
 refine .inl ⟨fun mm tz hz=>∃ (i:Nat) (Y:Nat),bA (some (.slice (some ⟨0,0,none⟩) (nl A) ca)::some (.slice (some ⟨1,0,none⟩) (nl D) cd)::aF 3 (some (.slice (some ⟨2,0,none⟩) (nl A+nl D) (nl A+nl D))::aF 11 (some (.slice (some ⟨0,0,none⟩) (nl A) ca)::some (.int .i64 (nl A))::some (.int .i64 i)::aF 47 []))) tz∧hz=[some (.flat false (nl A) 1 (bo A)),some (.flat false (nl D) 1 (bo D)),some (.flat true (nl A+nl D) 1 (bo Y))]∧nl A - i=mm∧(i≤nl A∧Y=A % B ^ i*D),.inl ⟨_,0,0,(.aa (.aa (.sk 3 (.aa (.sk 11 (.aa (.aa (.aa (.sk 47 .nil rfl)))) rfl)) rfl))),rfl,rfl,?_⟩,?_⟩
 ·exact ⟨Nat.zero_le _,by simp [Nat.mod_one]⟩
 rintro mm aT _ ⟨i,Y,aw,rfl,rfl,⟨hi,hY⟩⟩
 obtain ⟨az,rfl⟩:∃ az:Nat→Value,aT=.slice (some ⟨0,0,none⟩) (nl A) ca::.slice (some ⟨1,0,none⟩) (nl D) cd::zs az 2 3 (.slice (some ⟨2,0,none⟩) (nl A+nl D) (nl A+nl D)::zs az 6 11 (.slice (some ⟨0,0,none⟩) (nl A) ca::.int .i64 (nl A)::.int .i64 i::zs az 20 47 [])):=bI aw;clear aw;conv=>whnf
 refine aK (fun h1=>?_) (fun h1=>?_)
 ·have h1:i < nl A:=by simpa using h1
  have aeX:Y < B ^ (i+nl D):=by
   rw [hY,Nat.pow_add];exact Nat.mul_lt_mul_of_lt_of_le (Nat.mod_lt _ (eh i)) (Nat.le_of_lt (b6 D)) (eh _)
  conv=>whnf
  refine ⟨⟨by omega,by omega⟩,?_⟩
  try simp (disch:=omega) only [ax,bL,di,dE,cl,dT,dx,dV,c7,dn,dw,dC,dy,dK,toNat_cast,ay,Nat.zero_add,dS,toNat_0,toNat_1,Nat.sub_zero,dX,dY,eD,eE,dM,dW,dU,dZ]
  conv=>whnf
  refine ⟨by show i < nl A; omega,?_⟩
  conv=>whnf
  refine .inl ⟨fun mm tz hz=>∃ (k:Nat) (Z:Nat) (c:Nat),bA (some (.slice (some ⟨0,0,none⟩) (nl A) ca)::some (.slice (some ⟨1,0,none⟩) (nl D) cd)::aF 3 (some (.slice (some ⟨2,0,none⟩) (nl A+nl D) (nl A+nl D))::some (.int .i64 i)::some (.int .u32 (ao A i))::some (.int .u64 c)::aF 8 (some (.slice (some ⟨0,0,none⟩) (nl A) ca)::some (.int .i64 (nl A))::some (.int .i64 i)::aF 4 (some (.slice (some ⟨1,0,none⟩) (nl D) cd)::some (.int .i64 (nl D))::some (.int .i64 k)::aF 40 [])))) tz∧hz=[some (.flat false (nl A) 1 (bo A)),some (.flat false (nl D) 1 (bo D)),some (.flat true (nl A+nl D) 1 (bo Z))]∧nl D - k=mm∧(k≤nl D∧c < B∧Z < B ^ (i+nl D)∧Z+c*B ^ (i+k)=Y+ao A i*(D % B ^ k)*B ^ i),.inl ⟨_,0,Y,0,(.aa (.aa (.sk 3 (.aa (.aa (.aa (.aa (.sk 8 (.aa (.aa (.aa (.sk 4 (.aa (.aa (.aa (.sk 40 .nil rfl)))) rfl)))) rfl))))) rfl))),rfl,rfl,?_⟩,?_⟩
  ·exact ⟨Nat.zero_le _,by decide,aeX,by simp [Nat.mod_one]⟩
  rintro mm aT _ ⟨k,Z,c,aw,rfl,rfl,⟨hk,hc,hZ,he⟩⟩
  obtain ⟨az,rfl⟩:∃ az:Nat→Value,aT=.slice (some ⟨0,0,none⟩) (nl A) ca::.slice (some ⟨1,0,none⟩) (nl D) cd::zs az 2 3 (.slice (some ⟨2,0,none⟩) (nl A+nl D) (nl A+nl D)::.int .i64 i::.int .u32 (ao A i)::.int .u64 c::zs az 9 8 (.slice (some ⟨0,0,none⟩) (nl A) ca::.int .i64 (nl A)::.int .i64 i::zs az 20 4 (.slice (some ⟨1,0,none⟩) (nl D) cd::.int .i64 (nl D)::.int .i64 k::zs az 27 40 []))):=bI aw;clear aw;have tC:=cK A i;have Em:=cK D k;have Rv:=cK Z (i+k);conv=>whnf
  refine aK (fun J=>?_) (fun J=>?_)
  ·have J:k < nl D:=by simpa using J
   obtain ⟨t,ht⟩:∃ t,t=c+(ao A i*ao D k+ao Z (i+k)):=⟨_,rfl⟩;have au:=TA he ht;have aeY:=KY hc tC Em Rv ht;conv=>whnf
   refine ⟨⟨by omega,by omega⟩,?_⟩
   try simp (disch:=omega) only [ax,bL,di,dE,cl,dT,dx,dV,c7,dn,dw,dC,dy,dK,toNat_cast,ay,Nat.zero_add,dS,toNat_0,toNat_1,Nat.sub_zero,dX,dY,eD,eE,dM,dW,dU,dZ]
   conv=>whnf
   refine ⟨by show k < nl D; omega,?_⟩
   conv=>whnf
   have e2:IntKind.i64.wrap (((i:Nat):Int)+((k:Nat):Int))=((i+k:Nat):Int):=by rw [ax (by omega) (by omega)]; omega
   have hv:=UX hc tC Em Rv ht;have ic:=Nat.mod_lt t (show 0 < B by decide)
   simp only [e2,toNat_cast,ay,Nat.zero_add];refine ⟨⟨by omega,by omega⟩,?_⟩
   conv=>whnf
   refine ⟨by show i+k < nl A+nl D; omega,?_⟩
   conv=>whnf
   simp only [hv,e2,eI];refine ⟨⟨by omega,by omega⟩,?_⟩
   simp only [toNat_cast,ay,Nat.zero_add];conv=>whnf
   refine ⟨by show i+k < nl A+nl D; omega,?_⟩
   conv=>whnf
   simp only [cl,jO];rw [fE ic];have e3:IntKind.i64.wrap (((k:Nat):Int)+1)=((k+1:Nat):Int):=by rw [ax (by omega) (by omega)]; rfl
   simp only [e3];refine .inl ⟨_,?_,k+1,cH Z (i+k) (t % B),t / B,(.aa (.aa (.sk 3 (.aa (.aa (.aa (.aa (.sk 8 (.aa (.aa (.aa (.sk 4 (.aa (.aa (.aa (.sk 40 .nil rfl)))) rfl)))) rfl))))) rfl))),rfl,rfl,?_⟩
   ·omega
   ·exact ⟨by omega,aeY.1,mB hZ (by omega) ic,au⟩
  ·have J:k=nl D:=by
    have J:¬ k < nl D:=by simpa using J
    omega
   subst J;have aZ:=UW hY (b6 D) hZ he;have e2:IntKind.i64.wrap (((i:Nat):Int)+((nl D:Nat):Int))=((i+nl D:Nat):Int):=by rw [ax (by omega) (by omega)]; omega
   conv=>whnf
   simp only [e2,eI,Nat.mod_eq_of_lt hc];refine ⟨⟨by omega,by omega⟩,?_⟩
   simp only [toNat_cast,ay,Nat.zero_add];conv=>whnf
   refine ⟨by show i+nl D < nl A+nl D; omega,?_⟩
   conv=>whnf
   rw [fE hc]
   try simp (disch:=omega) only [ax,bL,di,dE,cl,dT,dx,dV,c7,dn,dw,dC,dy,dK,toNat_cast,ay,Nat.zero_add,dS,toNat_0,toNat_1,Nat.sub_zero,dX,dY,eD,eE,dM,dW,dU,dZ]
   skip
   refine .inl ⟨_,?_,i+1,cH Z (i+nl D) c,(.aa (.aa (.sk 3 (.aa (.sk 11 (.aa (.aa (.aa (.sk 47 .nil rfl)))) rfl)) rfl))),rfl,rfl,?_⟩
   ·omega
   ·exact ⟨by omega,aZ⟩
 ·have h1:i=nl A:=by
   have h1:¬ i < nl A:=by simpa using h1
   omega
  subst h1;rw [Nat.mod_eq_of_lt (b6 A)] at hY;have an:Y < B ^ (nl A+nl D):=by
   rw [hY,Nat.pow_add];exact Nat.mul_lt_mul_of_lt_of_le (b6 A) (Nat.le_of_lt (b6 D)) (eh _)
  conv=>whnf
  refine ⟨some (nl A+nl D,Y,nl A+nl D),[2],rfl,⟨an,by omega⟩,?_⟩
  conv=>whnf
  refine ⟨aG.aR (fun h=>by cases h) (fun r hr=>rfl),?_⟩
  conv=>whnf
  refine ⟨_,rfl,?_⟩;conv=>whnf
  refine ⟨2,?_⟩;conv=>whnf
  have hle:=jN an;subst hY;refine ⟨⟨rfl,⟨(fun h=>by cases h),rfl,hle,fun _ _=>rfl,fun r hr v hv=>dD (l:=bo (A*D) r) rfl v hv⟩⟩,_,rfl,?_⟩
  exact .cap _ _ _ rfl
open Go Go.Ae
theorem ZH:cU Tryz.prog 142 Da:=by
 refine dh IG aN Tryz.func142 (enters_of Tryz.func142 (by kernel_rfl) rfl) ?_ ?_ ?_
 ·intro i b hb; simp [Da,kE] at hb; rcases hb with rfl | rfl <;> rfl
 ·intro i b hb; simp [Da] at hb; rw [← hb]; rfl
 intro ⟨A,ca,D,cd⟩ hp;have hp:nl A≤137438953472∧nl D≤137438953472:=hp;conv=>whnf
 refine aK (fun h0=>?_) (fun h0=>?_)
 ·have h0:(nl A < nl D):=by simpa using h0
  have rz:nl A≤nl D:=by omega
  have eS:A+D=(D+A):=by omega
  conv=>whnf
  have e1:IntKind.i64.wrap (((nl D:Nat):Int)+1)=((nl D+1:Nat):Int):=by rw [ax (by omega) (by omega)]; rfl
  simp only [e1];have fL:decide (nl D+1=aM)=false:=decide_eq_false (by unfold aM; omega)
  refine ⟨⟨by omega,by omega,by show ((nl D+1:Nat):Int)*((4:Nat):Int)≤_; omega⟩,?_⟩
  simp only [toNat_cast,toNat_0];conv=>whnf
  refine .inl ⟨fun mm tz hz=>∃ (i:Nat) (Z:Nat) (c:Nat) (g:Nat→List Value),bA (some (.slice (some ⟨1,0,none⟩) (nl D) cd)::some (.slice (some ⟨0,0,none⟩) (nl A) ca)::aF 3 (some (.slice (some ⟨2,0,none⟩) i (nl D+1))::some (.int .u64 c)::aF 13 (some (.slice (some ⟨1,0,none⟩) (nl D) cd)::some (.int .i64 (nl D))::some (.int .i64 i)::aF 33 []))) tz∧hz=[some (.flat false (nl A) 1 (bo A)),some (.flat false (nl D) 1 (bo D)),some (.flat true i 1 g)]∧nl D - i=mm∧(i≤nl D∧c≤1∧Z < B ^ i∧Z+c*B ^ i=D % B ^ i+A % B ^ i∧∀ r,r < i→g r=bo Z r),.inl ⟨_,0,0,0,_,(.aa (.aa (.sk 3 (.aa (.aa (.sk 13 (.aa (.aa (.aa (.sk 33 .nil rfl)))) rfl))) rfl))),rfl,rfl,?_⟩,?_⟩
  ·exact ⟨Nat.zero_le _,by decide,by simp,by simp [Nat.mod_one],fun r hr=>absurd hr (by omega)⟩
  rintro mm aT _ ⟨i,Z,c,g,aw,rfl,rfl,⟨hi,hc,hZ,he,hg⟩⟩
  obtain ⟨az,rfl⟩:∃ az:Nat→Value,aT=.slice (some ⟨1,0,none⟩) (nl D) cd::.slice (some ⟨0,0,none⟩) (nl A) ca::zs az 2 3 (.slice (some ⟨2,0,none⟩) i (nl D+1)::.int .u64 c::zs az 7 13 (.slice (some ⟨1,0,none⟩) (nl D) cd::.int .i64 (nl D)::.int .i64 i::zs az 23 33 [])):=bI aw;clear aw;conv=>whnf
  refine aK (fun h1=>?_) (fun h1=>?_)
  ·have h1:i < nl D:=by simpa using h1
   conv=>whnf
   refine ⟨⟨by omega,by omega⟩,?_⟩
   try simp (disch:=omega) only [ax,bL,di,dE,cl,dT,dx,dV,c7,dn,dw,dC,dy,dK,toNat_cast,ay,Nat.zero_add,dS,toNat_0,toNat_1,Nat.sub_zero,dX,dY,eD,eE,dM,dW,dU,dZ]
   conv=>whnf
   refine ⟨by show i < nl D; omega,?_⟩
   conv=>whnf
   have hlX:ao D i < 4294967296:=cK D i;have hlY:ao A i < 4294967296:=cK A i;obtain ⟨t,ht⟩:∃ t,t=c+ao D i+ao A i:=⟨_,rfl⟩;have au:=Mn he ht;have ic:t % B < B:=Nat.mod_lt t (show 0 < B by decide)
   have fI:t / B≤1:=by
    have e:B=4294967296:=rfl;rw [e]; omega
   have JM:=BV (a:=c) (b:=ao D i) (by omega) (by omega)
   have AO:=BV (a:=c+ao D i) (b:=ao A i) (by omega) (by omega)
   rw [← ht] at AO;have e3:IntKind.i64.wrap (((i:Nat):Int)+1)=((i+1:Nat):Int):=by rw [ax (by omega) (by omega)]; rfl
   have aZ:=Cn hZ ic hg;simp only [JM];refine aK (fun J=>?_) (fun J=>?_)
   ·have J:i < nl A:=by simpa using J
    conv=>whnf
    refine ⟨⟨by omega,by omega⟩,?_⟩
    try simp (disch:=omega) only [ax,bL,di,dE,cl,dT,dx,dV,c7,dn,dw,dC,dy,dK,toNat_cast,ay,Nat.zero_add,dS,toNat_0,toNat_1,Nat.sub_zero,dX,dY,eD,eE,dM,dW,dU,dZ]
    conv=>whnf
    refine ⟨by show i < nl A; omega,?_⟩
    conv=>whnf
    simp only [AO,eI];rw [fL];conv=>whnf
    refine nq ?_ ?_
    ·rw [Nat.ble_eq]; show i+1≤nl D+1; omega
    refine ⟨by show 0+i=i; omega,?_⟩
    conv=>whnf
    simp only [cl,jO,e3];refine .inr ⟨[0,1,2],[0,1,5,6,20,21,22],?_⟩;conv=>whnf
    intro _;conv=>whnf
    refine ⟨_,?_,i+1,Z+t % B*B ^ i,t / B,_,(.aa (.aa (.sk 3 (.aa (.aa (.sk 13 (.aa (.aa (.aa (.sk 33 .nil rfl)))) rfl))) rfl))),rfl,rfl,?_⟩
    ·omega
    ·exact ⟨by omega,fI,wu hZ ic,au,aZ⟩
   ·have J:nl A≤i:=by
     have J:¬ i < nl A:=by simpa using J
     omega
    have h0:=uf (b6 A) J;have e4:c+ao D i=t:=by omega
    conv=>whnf
    simp only [e4,eI];rw [fL];conv=>whnf
    refine nq ?_ ?_
    ·rw [Nat.ble_eq]; show i+1≤nl D+1; omega
    refine ⟨by show 0+i=i; omega,?_⟩
    conv=>whnf
    simp only [cl,jO,e3];refine .inr ⟨[0,1,2],[0,1,5,6,20,21,22],?_⟩;conv=>whnf
    intro _;conv=>whnf
    refine ⟨_,?_,i+1,Z+t % B*B ^ i,t / B,_,(.aa (.aa (.sk 3 (.aa (.aa (.sk 13 (.aa (.aa (.aa (.sk 33 .nil rfl)))) rfl))) rfl))),rfl,rfl,?_⟩
    ·omega
    ·exact ⟨by omega,fI,wu hZ ic,au,aZ⟩
  ·have h1:i=nl D:=by
    have h1:¬ i < nl D:=by simpa using h1
    omega
   subst h1;rw [Nat.mod_eq_of_lt (b6 D),Nat.mod_eq_of_lt (Nat.lt_of_lt_of_le (b6 A) (Nat.pow_le_pow_right (by decide) rz))] at he
   have vQ:c < B:=by have e:B=4294967296:=rfl; omega
   have aZ:=Cn hZ vQ hg;have an:=wu hZ vQ;rw [he] at an aZ;conv=>whnf
   simp only [eI,Nat.mod_eq_of_lt vQ];rw [fL];conv=>whnf
   refine nq ?_ ?_
   ·rw [Nat.ble_eq]; show nl D+1≤nl D+1; omega
   refine ⟨by show 0+nl D=nl D; omega,?_⟩
   conv=>whnf
   refine ⟨some (nl D+1,D+A,nl D+1),[2],rfl,⟨an,by omega⟩,?_⟩
   conv=>whnf
   refine ⟨⟨(fun h=>by cases h),rfl,Nat.le_refl _,fun r hr=>(aZ r hr).symm,fun r hr v hv=>dD (l:=bo (D+A) r) rfl v hv⟩,?_⟩
   conv=>whnf
   refine ⟨_,rfl,?_⟩;conv=>whnf
   refine ⟨2,?_⟩;conv=>whnf
   have hle:=jN an;show (_∧aG (dN (A+D)) _)∧∃ v',cM _ 3 (lg 2 (A+D))=some v'∧_
   rw [eS];refine ⟨⟨rfl,⟨(fun h=>by cases h),rfl,hle,fun r hr=>(aZ r (Nat.lt_of_lt_of_le hr hle)).symm,fun r hr v hv=>dD (l:=bo (D+A) r) rfl v hv⟩⟩,_,rfl,?_⟩
   exact .cap _ _ _ rfl
 ·have h0:(¬ nl A < nl D):=by simpa using h0
  have rz:nl D≤nl A:=by omega
  have eS:A+D=(A+D):=by omega
  conv=>whnf
  have e1:IntKind.i64.wrap (((nl A:Nat):Int)+1)=((nl A+1:Nat):Int):=by rw [ax (by omega) (by omega)]; rfl
  simp only [e1];have fL:decide (nl A+1=aM)=false:=decide_eq_false (by unfold aM; omega)
  refine ⟨⟨by omega,by omega,by show ((nl A+1:Nat):Int)*((4:Nat):Int)≤_; omega⟩,?_⟩
  simp only [toNat_cast,toNat_0];conv=>whnf
  refine .inl ⟨fun mm tz hz=>∃ (i:Nat) (Z:Nat) (c:Nat) (g:Nat→List Value),bA (some (.slice (some ⟨0,0,none⟩) (nl A) ca)::some (.slice (some ⟨1,0,none⟩) (nl D) cd)::aF 3 (some (.slice (some ⟨2,0,none⟩) i (nl A+1))::some (.int .u64 c)::aF 13 (some (.slice (some ⟨0,0,none⟩) (nl A) ca)::some (.int .i64 (nl A))::some (.int .i64 i)::aF 33 []))) tz∧hz=[some (.flat false (nl A) 1 (bo A)),some (.flat false (nl D) 1 (bo D)),some (.flat true i 1 g)]∧nl A - i=mm∧(i≤nl A∧c≤1∧Z < B ^ i∧Z+c*B ^ i=A % B ^ i+D % B ^ i∧∀ r,r < i→g r=bo Z r),.inl ⟨_,0,0,0,_,(.aa (.aa (.sk 3 (.aa (.aa (.sk 13 (.aa (.aa (.aa (.sk 33 .nil rfl)))) rfl))) rfl))),rfl,rfl,?_⟩,?_⟩
  ·exact ⟨Nat.zero_le _,by decide,by simp,by simp [Nat.mod_one],fun r hr=>absurd hr (by omega)⟩
  rintro mm aT _ ⟨i,Z,c,g,aw,rfl,rfl,⟨hi,hc,hZ,he,hg⟩⟩
  obtain ⟨az,rfl⟩:∃ az:Nat→Value,aT=.slice (some ⟨0,0,none⟩) (nl A) ca::.slice (some ⟨1,0,none⟩) (nl D) cd::zs az 2 3 (.slice (some ⟨2,0,none⟩) i (nl A+1)::.int .u64 c::zs az 7 13 (.slice (some ⟨0,0,none⟩) (nl A) ca::.int .i64 (nl A)::.int .i64 i::zs az 23 33 [])):=bI aw;clear aw;conv=>whnf
  refine aK (fun h1=>?_) (fun h1=>?_)
  ·have h1:i < nl A:=by simpa using h1
   conv=>whnf
   refine ⟨⟨by omega,by omega⟩,?_⟩
   try simp (disch:=omega) only [ax,bL,di,dE,cl,dT,dx,dV,c7,dn,dw,dC,dy,dK,toNat_cast,ay,Nat.zero_add,dS,toNat_0,toNat_1,Nat.sub_zero,dX,dY,eD,eE,dM,dW,dU,dZ]
   conv=>whnf
   refine ⟨by show i < nl A; omega,?_⟩
   conv=>whnf
   have hlX:ao A i < 4294967296:=cK A i;have hlY:ao D i < 4294967296:=cK D i;obtain ⟨t,ht⟩:∃ t,t=c+ao A i+ao D i:=⟨_,rfl⟩;have au:=Mn he ht;have ic:t % B < B:=Nat.mod_lt t (show 0 < B by decide)
   have fI:t / B≤1:=by
    have e:B=4294967296:=rfl;rw [e]; omega
   have JM:=BV (a:=c) (b:=ao A i) (by omega) (by omega)
   have AO:=BV (a:=c+ao A i) (b:=ao D i) (by omega) (by omega)
   rw [← ht] at AO;have e3:IntKind.i64.wrap (((i:Nat):Int)+1)=((i+1:Nat):Int):=by rw [ax (by omega) (by omega)]; rfl
   have aZ:=Cn hZ ic hg;simp only [JM];refine aK (fun J=>?_) (fun J=>?_)
   ·have J:i < nl D:=by simpa using J
    conv=>whnf
    refine ⟨⟨by omega,by omega⟩,?_⟩
    try simp (disch:=omega) only [ax,bL,di,dE,cl,dT,dx,dV,c7,dn,dw,dC,dy,dK,toNat_cast,ay,Nat.zero_add,dS,toNat_0,toNat_1,Nat.sub_zero,dX,dY,eD,eE,dM,dW,dU,dZ]
    conv=>whnf
    refine ⟨by show i < nl D; omega,?_⟩
    conv=>whnf
    simp only [AO,eI];rw [fL];conv=>whnf
    refine nq ?_ ?_
    ·rw [Nat.ble_eq]; show i+1≤nl A+1; omega
    refine ⟨by show 0+i=i; omega,?_⟩
    conv=>whnf
    simp only [cl,jO,e3];refine .inr ⟨[0,1,2],[0,1,5,6,20,21,22],?_⟩;conv=>whnf
    intro _;conv=>whnf
    refine ⟨_,?_,i+1,Z+t % B*B ^ i,t / B,_,(.aa (.aa (.sk 3 (.aa (.aa (.sk 13 (.aa (.aa (.aa (.sk 33 .nil rfl)))) rfl))) rfl))),rfl,rfl,?_⟩
    ·omega
    ·exact ⟨by omega,fI,wu hZ ic,au,aZ⟩
   ·have J:nl D≤i:=by
     have J:¬ i < nl D:=by simpa using J
     omega
    have h0:=uf (b6 D) J;have e4:c+ao A i=t:=by omega
    conv=>whnf
    simp only [e4,eI];rw [fL];conv=>whnf
    refine nq ?_ ?_
    ·rw [Nat.ble_eq]; show i+1≤nl A+1; omega
    refine ⟨by show 0+i=i; omega,?_⟩
    conv=>whnf
    simp only [cl,jO,e3];refine .inr ⟨[0,1,2],[0,1,5,6,20,21,22],?_⟩;conv=>whnf
    intro _;conv=>whnf
    refine ⟨_,?_,i+1,Z+t % B*B ^ i,t / B,_,(.aa (.aa (.sk 3 (.aa (.aa (.sk 13 (.aa (.aa (.aa (.sk 33 .nil rfl)))) rfl))) rfl))),rfl,rfl,?_⟩
    ·omega
    ·exact ⟨by omega,fI,wu hZ ic,au,aZ⟩
  ·have h1:i=nl A:=by
    have h1:¬ i < nl A:=by simpa using h1
    omega
   subst h1;rw [Nat.mod_eq_of_lt (b6 A),Nat.mod_eq_of_lt (Nat.lt_of_lt_of_le (b6 D) (Nat.pow_le_pow_right (by decide) rz))] at he
   have vQ:c < B:=by have e:B=4294967296:=rfl; omega
   have aZ:=Cn hZ vQ hg;have an:=wu hZ vQ;rw [he] at an aZ;conv=>whnf
   simp only [eI,Nat.mod_eq_of_lt vQ];rw [fL];conv=>whnf
   refine nq ?_ ?_
   ·rw [Nat.ble_eq]; show nl A+1≤nl A+1; omega
   refine ⟨by show 0+nl A=nl A; omega,?_⟩
   conv=>whnf
   refine ⟨some (nl A+1,A+D,nl A+1),[2],rfl,⟨an,by omega⟩,?_⟩
   conv=>whnf
   refine ⟨⟨(fun h=>by cases h),rfl,Nat.le_refl _,fun r hr=>(aZ r hr).symm,fun r hr v hv=>dD (l:=bo (A+D) r) rfl v hv⟩,?_⟩
   conv=>whnf
   refine ⟨_,rfl,?_⟩;conv=>whnf
   refine ⟨2,?_⟩;conv=>whnf
   have hle:=jN an;show (_∧aG (dN (A+D)) _)∧∃ v',cM _ 3 (lg 2 (A+D))=some v'∧_
   rw [eS];refine ⟨⟨rfl,⟨(fun h=>by cases h),rfl,hle,fun r hr=>(aZ r (Nat.lt_of_lt_of_le hr hle)).symm,fun r hr v hv=>dD (l:=bo (A+D) r) rfl v hv⟩⟩,_,rfl,?_⟩
   exact .cap _ _ _ rfl
open Go Go.Ae
def Ef:Env:=En [(161,.q sI),(195,.p CM)]
theorem IH:EnvOk Tryz.prog Ef:=bD ⟨Cw,WW,trivial⟩ trivial
theorem W2:cU Tryz.prog 183 CP:=by
 refine dh IH aN Tryz.func183 (enters_of Tryz.func183 (by kernel_rfl) rfl) ?_ ?_ ?_
 ·intro i b hb; simp [CP,dN] at hb; rcases hb with rfl | rfl <;> rfl
 ·intro i b hb; simp [CP] at hb; rw [← hb]; rfl
 intro ⟨A,ca,d⟩ hp;have hp:nl A≤137438953472∧0 < d∧d < 4294967296:=hp;conv=>whnf
 refine ⟨⟨by omega,by omega,by show ((nl A:Nat):Int)*((4:Nat):Int)≤_; omega⟩,?_⟩
 simp only [toNat_cast,tN];conv=>whnf
 refine .inl ⟨fun mm tz hz=>∃ (i:Nat) (rem:Nat) (Y:Nat),bA (some (.slice (some ⟨0,0,none⟩) (nl A) ca)::some (.int .u32 d)::aF 4 (some (.slice (some ⟨1,0,none⟩) (nl A) (nl A))::some (.int .u32 rem)::some (.int .i64 (IntKind.i64.wrap ((i:Int) - 1)))::aF 26 [])) tz∧hz=[some (.flat false (nl A) 1 (bo A)),some (.flat true (nl A) 1 (bo Y))]∧i=mm∧(i≤nl A∧rem=A / B ^ i % d∧Y=A / B ^ i / d*B ^ i),.inl ⟨_,nl A,0,0,(.aa (.aa (.sk 4 (.aa (.aa (.aa (.sk 26 .nil rfl)))) rfl))),rfl,rfl,?_⟩,?_⟩
 ·have h:=Nat.div_eq_of_lt (b6 A);exact ⟨Nat.le_refl _,by rw [h]; simp,by rw [h]; simp⟩
 rintro mm aT _ ⟨i,rem,Y,aw,rfl,rfl,⟨hi,hr,hY⟩⟩
 obtain ⟨az,rfl⟩:∃ az:Nat→Value,aT=.slice (some ⟨0,0,none⟩) (nl A) ca::.int .u32 d::zs az 2 4 (.slice (some ⟨1,0,none⟩) (nl A) (nl A)::.int .u32 rem::.int .i64 (IntKind.i64.wrap ((i:Int) - 1))::zs az 9 26 []):=bI aw;clear aw;conv=>whnf
 refine aK (fun h1=>?_) (fun h1=>?_)
 ·have h1:0 < i:=by
   rcases Nat.eq_zero_or_pos i with h | h
   ·subst h; revert h1; decide
   ·exact h
  obtain ⟨i,rfl⟩:∃ i',i=i'+1:=⟨i - 1,by omega⟩
  have ei:IntKind.i64.wrap (((i+1:Nat):Int) - 1)=((i:Nat):Int):=by rw [ax (by omega) (by omega)]; omega
  simp only [ei];have hl:=cK A i;have fy:rem < d:=by rw [hr]; exact Nat.mod_lt _ hp.2.1
  obtain ⟨t,ht⟩:∃ t,t=rem*B+ao A i:=⟨_,rfl⟩;have jD:=ht;rw [hr] at jD;have au:=Lw hp.2.1 jD;have hse:=UY hp.2.1 jD;have an:=V9 hp.2.1 jD;conv=>whnf
  refine ⟨⟨by omega,by omega⟩,?_⟩
  try simp (disch:=omega) only [ax,bL,di,dE,cl,dT,dx,dV,c7,dn,dw,dC,dy,dK,toNat_cast,ay,Nat.zero_add,dS,toNat_0,toNat_1,Nat.sub_zero,dX,dY,eD,eE,dM,dW,dU,dZ]
  conv=>whnf
  refine ⟨by show i < nl A; omega,?_⟩
  conv=>whnf
  refine ⟨(rem,ao A i,d),rfl,⟨fy,hl,hp.2.2⟩,?_⟩;have rC:rem*4294967296+ao A i=t:=ht.symm;simp only [CM,rC];conv=>whnf
  refine ⟨⟨by omega,by omega⟩,?_⟩
  try simp (disch:=omega) only [ax,bL,di,dE,cl,dT,dx,dV,c7,dn,dw,dC,dy,dK,toNat_cast,ay,Nat.zero_add,dS,toNat_0,toNat_1,Nat.sub_zero,dX,dY,eD,eE,dM,dW,dU,dZ]
  conv=>whnf
  refine ⟨by show i < nl A; omega,?_⟩
  conv=>whnf
  rw [fE an];refine .inl ⟨_,?_,i,t % d,cH Y i (t / d),(.aa (.aa (.sk 4 (.aa (.aa (.aa (.sk 26 .nil rfl)))) rfl))),rfl,rfl,?_⟩
  ·omega
  ·exact ⟨by omega,au.1.symm,by rw [hY]; exact hse⟩
 ·have h1:i=0:=by
   rcases Nat.eq_zero_or_pos i with h | h
   ·exact h
   ·have e:IntKind.i64.wrap ((i:Int) - 1)=((i - 1:Nat):Int):=by rw [ax (by omega) (by omega)]; omega
    rw [e] at h1;exact absurd h1 (by simp)
  subst h1;rw [Nat.pow_zero,Nat.div_one] at hr hY;rw [Nat.mul_one] at hY;subst hr hY;have an:A / d < B ^ nl A:=Nat.lt_of_le_of_lt (Nat.div_le_self _ _) (b6 A);have hle:=jN an;conv=>whnf
  refine ⟨some (nl A,A / d,nl A),[1],rfl,⟨an,by omega⟩,?_⟩
  conv=>whnf
  refine ⟨aG.aR (fun h=>by cases h) (fun r hr=>rfl),?_⟩
  conv=>whnf
  refine ⟨_,rfl,?_⟩;conv=>whnf
  refine ⟨1,?_⟩;conv=>whnf
  refine ⟨⟨rfl,⟨(fun h=>⟨rfl,rfl⟩),rfl,Nat.le_refl _,fun _ _=>rfl,fun r hr v hv=>dD (l:=bo (A / d) r) rfl v hv⟩⟩,_,rfl,?_⟩
  exact .two (.cap _ _ _ rfl) (.refl _)
theorem W3:cU Tryz.prog 185 CQ:=by
 refine dh IH aN Tryz.func185 (enters_of Tryz.func185 (by kernel_rfl) rfl) ?_ ?_ ?_
 ·intro i b hb; simp [CQ,dN] at hb; rcases hb with rfl | rfl <;> rfl
 ·intro i b hb; simp [CQ] at hb; rw [← hb]; rfl
 intro ⟨A,ca,s⟩ hp;have hp:nl A≤137438953472∧s≤31:=hp;conv=>whnf
 have e1:IntKind.i64.wrap (((nl A:Nat):Int)+1)=((nl A+1:Nat):Int):=by rw [ax (by omega) (by omega)]; rfl
 simp only [e1];refine ⟨⟨by omega,by omega,by show ((nl A+1:Nat):Int)*((4:Nat):Int)≤_; omega⟩,?_⟩
 simp only [toNat_cast,tN];conv=>whnf
 refine .inl ⟨fun mm tz hz=>∃ (i:Nat) (Y:Nat),bA (some (.slice (some ⟨0,0,none⟩) (nl A) ca)::some (.int .i64 s)::aF 3 (some (.slice (some ⟨1,0,none⟩) (nl A+1) (nl A+1))::aF 7 (some (.slice (some ⟨0,0,none⟩) (nl A) ca)::some (.int .i64 (nl A))::some (.int .i64 i)::aF 25 []))) tz∧hz=[some (.flat false (nl A) 1 (bo A)),some (.flat true (nl A+1) 1 (bo Y))]∧nl A - i=mm∧(i≤nl A∧Y=A % B ^ i*2 ^ s),.inl ⟨_,0,0,(.aa (.aa (.sk 3 (.aa (.sk 7 (.aa (.aa (.aa (.sk 25 .nil rfl)))) rfl)) rfl))),rfl,rfl,?_⟩,?_⟩
 ·exact ⟨Nat.zero_le _,by simp [Nat.mod_one]⟩
 rintro mm aT _ ⟨i,Y,aw,rfl,rfl,⟨hi,hY⟩⟩
 obtain ⟨az,rfl⟩:∃ az:Nat→Value,aT=.slice (some ⟨0,0,none⟩) (nl A) ca::.int .i64 s::zs az 2 3 (.slice (some ⟨1,0,none⟩) (nl A+1) (nl A+1)::zs az 6 7 (.slice (some ⟨0,0,none⟩) (nl A) ca::.int .i64 (nl A)::.int .i64 i::zs az 16 25 [])):=bI aw;clear aw;conv=>whnf
 refine aK (fun h1=>?_) (fun h1=>?_)
 ·have h1:i < nl A:=by simpa using h1
  have hl:=cK A i;have hu:ao Y i < 2 ^ s:=by rw [hY]; exact Lx
  have JC:=aao (l:=ao A i) hp.2 hu;have aeZ:=Pq (l:=ao A i) hp.2 hu;have au:=TB (A:=A) (i:=i) hp.2;rw [← hY] at au;have J:=wQ hp.2;have Rw:ao A i*2 ^ s / B < B:=by
   refine (Nat.div_lt_iff_lt_mul (by decide)).2 ?_
   exact Nat.mul_lt_mul_of_lt_of_le hl (by show _≤4294967296; omega) (by decide)
  conv=>whnf
  refine ⟨⟨by omega,by omega⟩,?_⟩
  try simp (disch:=omega) only [ax,bL,di,dE,cl,dT,dx,dV,c7,dn,dw,dC,dy,dK,toNat_cast,ay,Nat.zero_add,dS,toNat_0,toNat_1,Nat.sub_zero,dX,dY,eD,eE,dM,dW,dU,dZ]
  conv=>whnf
  refine ⟨by show i < nl A; omega,?_⟩
  conv=>whnf
  have kF:IntKind.u64.wrap ((ao A i:Nat):Int)=((ao A i:Nat):Int):=bL (by omega) (by have:B=4294967296:=rfl; omega)
  have hv:=Xx hp.2 hl;have yk:ao A i*2 ^ s / B % B=ao A i*2 ^ s / B:=Nat.mod_eq_of_lt Rw;have e3:IntKind.i64.wrap (((i:Nat):Int)+1)=((i+1:Nat):Int):=by rw [ax (by omega) (by omega)]; rfl
  simp only [toNat_cast,kF,hv];refine ⟨⟨by omega,by omega⟩,?_⟩
  simp only [toNat_cast,ay,Nat.zero_add];conv=>whnf
  refine ⟨by show i < nl A+1; omega,?_⟩
  conv=>whnf
  simp only [eI,JC,e3,cl,jO,yk];refine ⟨⟨by omega,by omega⟩,?_⟩
  simp only [toNat_cast,ay,Nat.zero_add];conv=>whnf
  refine ⟨by show i < nl A+1; omega,?_⟩
  conv=>whnf
  rw [fE aeZ];simp only [e3,cl,jO,eI,yk];refine ⟨⟨by omega,by omega⟩,?_⟩
  simp only [toNat_cast,ay,Nat.zero_add];conv=>whnf
  refine ⟨by show i+1 < nl A+1; omega,?_⟩
  conv=>whnf
  rw [fE Rw,au];simp only [e3];refine .inl ⟨_,?_,i+1,A % B ^ (i+1)*2 ^ s,(.aa (.aa (.sk 3 (.aa (.sk 7 (.aa (.aa (.aa (.sk 25 .nil rfl)))) rfl)) rfl))),rfl,rfl,?_⟩
  ·omega
  ·exact ⟨by omega,rfl⟩
 ·have h1:i=nl A:=by
   have h1:¬ i < nl A:=by simpa using h1
   omega
  subst h1;rw [Nat.mod_eq_of_lt (b6 A)] at hY;subst hY;conv=>whnf
  refine ⟨1,?_⟩;conv=>whnf
  refine ⟨⟨rfl,⟨(fun h=>⟨rfl,rfl⟩),rfl,Nat.le_refl _,fun _ _=>rfl,fun r hr v hv=>dD (l:=bo (A*2 ^ s) r) rfl v hv⟩⟩,_,rfl,?_⟩
  exact .refl _
theorem Un:cU Tryz.prog 187 BX:=by
 refine dh IH aN Tryz.func187 (enters_of Tryz.func187 (by kernel_rfl) rfl) ?_ ?_ ?_
 ·intro i b hb; simp [BX,dN] at hb; rcases hb with rfl | rfl <;> rfl
 ·intro i b hb; simp [BX] at hb; rw [← hb]; rfl
 intro ⟨A,ca,s⟩ hp;have hp:nl A≤137438953472∧s≤31:=hp;conv=>whnf
 refine ⟨⟨by omega,by omega,by show ((nl A:Nat):Int)*((4:Nat):Int)≤_; omega⟩,?_⟩
 simp only [toNat_cast,tN];conv=>whnf
 refine .inl ⟨fun mm tz hz=>∃ (i:Nat) (Y:Nat),bA (some (.slice (some ⟨0,0,none⟩) (nl A) ca)::some (.int .i64 s)::aF 3 (some (.slice (some ⟨1,0,none⟩) (nl A) (nl A))::aF 6 (some (.int .i64 (nl A))::some (.int .i64 i)::aF 31 []))) tz∧hz=[some (.flat false (nl A) 1 (bo A)),some (.flat true (nl A) 1 (bo Y))]∧nl A - i=mm∧(i≤nl A∧Y=A / 2 ^ s % B ^ i),.inl ⟨_,0,0,(.aa (.aa (.sk 3 (.aa (.sk 6 (.aa (.aa (.sk 31 .nil rfl))) rfl)) rfl))),rfl,rfl,?_⟩,?_⟩
 ·exact ⟨Nat.zero_le _,by simp [Nat.mod_one]⟩
 rintro mm aT _ ⟨i,Y,aw,rfl,rfl,⟨hi,hY⟩⟩
 obtain ⟨az,rfl⟩:∃ az:Nat→Value,aT=.slice (some ⟨0,0,none⟩) (nl A) ca::.int .i64 s::zs az 2 3 (.slice (some ⟨1,0,none⟩) (nl A) (nl A)::zs az 6 6 (.int .i64 (nl A)::.int .i64 i::zs az 14 31 [])):=bI aw;clear aw;conv=>whnf
 refine aK (fun h1=>?_) (fun h1=>?_)
 ·have h1:i < nl A:=by simpa using h1
  have hl:=cK A i;have g8:ao A (i+1) < B:=cK A (i+1);have e3:IntKind.i64.wrap (((i:Nat):Int)+1)=((i+1:Nat):Int):=by rw [ax (by omega) (by omega)]; rfl
  have kF:IntKind.u64.wrap ((ao A i:Nat):Int)=((ao A i:Nat):Int):=bL (by omega) (by have:B=4294967296:=rfl; omega)
  have ae0:IntKind.u64.wrap ((ao A (i+1):Nat):Int)=((ao A (i+1):Nat):Int):=bL (by omega) (by have:B=4294967296:=rfl; omega)
  have hd:=So (A:=A) (i:=i) hp.2;have Eo:cH Y i (ao (A / 2 ^ s) i)=A / 2 ^ s % B ^ (i+1):=by
   rw [mod_succ,← hY];exact Bj (by rw [hY]; exact Nat.mod_lt _ (eh i))
  conv=>whnf
  refine ⟨⟨by omega,by omega⟩,?_⟩
  try simp (disch:=omega) only [ax,bL,di,dE,cl,dT,dx,dV,c7,dn,dw,dC,dy,dK,toNat_cast,ay,Nat.zero_add,dS,toNat_0,toNat_1,Nat.sub_zero,dX,dY,eD,eE,dM,dW,dU,dZ]
  conv=>whnf
  refine ⟨by show i < nl A; omega,?_⟩
  conv=>whnf
  simp only [e3,kF];refine aK (fun J=>?_) (fun J=>?_)
  ·have J:i+1 < nl A:=by
    have J:=of_decide_eq_true J;omega
   conv=>whnf
   simp only [e3];refine ⟨⟨by omega,by omega⟩,?_⟩
   simp only [toNat_cast,ay,Nat.zero_add];conv=>whnf
   refine ⟨by show i+1 < nl A; omega,?_⟩
   conv=>whnf
   have rh:IntKind.u64.wrap (((ao A (i+1):Nat):Int)*4294967296)=((ao A (i+1):Nat):Int)*4294967296:=bL (by omega) (by have:B=4294967296:=rfl; omega)
   simp only [ae0,dx,rh,Wb g8 hl];simp only [NV hp.2,toNat_cast,eI];refine ⟨⟨by omega,by omega⟩,?_⟩
   simp only [toNat_cast,ay,Nat.zero_add];conv=>whnf
   refine ⟨by show i < nl A; omega,?_⟩
   conv=>whnf
   simp only [e3,← hd];rw [fE (cK (A / 2 ^ s) i),Eo];refine .inl ⟨_,?_,i+1,A / 2 ^ s % B ^ (i+1),(.aa (.aa (.sk 3 (.aa (.sk 6 (.aa (.aa (.sk 31 .nil rfl))) rfl)) rfl))),rfl,rfl,?_⟩
   ·omega
   ·exact ⟨by omega,rfl⟩
  ·have J:nl A≤i+1:=by
    have J:=of_decide_eq_false J;omega
   have h0:=uf (b6 A) J;rw [h0,Nat.zero_mul,Nat.add_zero] at hd;conv=>whnf
   simp only [NV hp.2,toNat_cast,eI];refine ⟨⟨by omega,by omega⟩,?_⟩
   simp only [toNat_cast,ay,Nat.zero_add];conv=>whnf
   refine ⟨by show i < nl A; omega,?_⟩
   conv=>whnf
   simp only [e3,← hd];rw [fE (cK (A / 2 ^ s) i),Eo];refine .inl ⟨_,?_,i+1,A / 2 ^ s % B ^ (i+1),(.aa (.aa (.sk 3 (.aa (.sk 6 (.aa (.aa (.sk 31 .nil rfl))) rfl)) rfl))),rfl,rfl,?_⟩
   ·omega
   ·exact ⟨by omega,rfl⟩
 ·have h1:i=nl A:=by
   have h1:¬ i < nl A:=by simpa using h1
   omega
  subst h1;have an:A / 2 ^ s < B ^ nl A:=Nat.lt_of_le_of_lt (Nat.div_le_self _ _) (b6 A);have hle:=jN an;rw [Nat.mod_eq_of_lt an] at hY;subst hY;conv=>whnf
  refine ⟨some (nl A,A / 2 ^ s,nl A),[1],rfl,⟨an,by omega⟩,?_⟩
  conv=>whnf
  refine ⟨aG.aR (fun h=>by cases h) (fun r hr=>rfl),?_⟩
  conv=>whnf
  refine ⟨_,rfl,?_⟩;conv=>whnf
  refine ⟨1,?_⟩;conv=>whnf
  refine ⟨⟨rfl,⟨(fun h=>⟨rfl,rfl⟩),rfl,Nat.le_refl _,fun _ _=>rfl,fun r hr v hv=>dD (l:=bo (A / 2 ^ s) r) rfl v hv⟩⟩,_,rfl,?_⟩
  exact .cap _ _ _ rfl
end Go.Proofs.YtlapbjdhekcipaaGreat
