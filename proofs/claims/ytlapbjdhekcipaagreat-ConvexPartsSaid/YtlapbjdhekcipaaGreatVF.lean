import Derived.Test.YtlapbjdhekcipaaGreatProg
import Derived.Shelf.Abstract
import Derived.Test.YtlapbjdhekcipaaGreatVE
set_option linter.unusedVariables false
set_option linter.unusedSimpArgs false
namespace Go.Proofs.YtlapbjdhekcipaaGreat
open Go Go.Ae
def tt:TT:=fun t=>match t with
 | 1=>some ⟨1,8,.other,[.nilFunc]⟩
 | 2=>some ⟨1,8,.int .i64,[.int .i64 0]⟩
 | 3=>some ⟨1,8,.int .i64,[.int .i64 0]⟩
 | 4=>some ⟨1,1,.bool,[.bool false]⟩
 | 5=>some ⟨1,1,.int .u8,[.int .u8 0]⟩
 | 6=>some ⟨1,1,.int .u8,[.int .u8 0]⟩
 | 7=>some ⟨4,24,.struct [(0,1,false),(1,1,false),(2,1,false),(3,1,false)],[.int .i64 0,.int .i64 0,.bool false,.int .u8 0]⟩
 | 8=>some ⟨4,24,.struct [(0,1,false),(1,1,false),(2,1,false),(3,1,false)],[.int .i64 0,.int .i64 0,.bool false,.int .u8 0]⟩
 | 9=>some ⟨1,16,.str,[.string ⟨#[]⟩]⟩
 | 10=>some ⟨1,16,.str,[.string ⟨#[]⟩]⟩
 | 11=>some ⟨1,16,.str,[.string ⟨#[]⟩]⟩
 | 12=>some ⟨1,8,.int .u64,[.int .u64 0]⟩
 | 13=>some ⟨2,24,.struct [(0,1,false),(1,1,false)],[.string ⟨#[]⟩,.int .u64 0]⟩
 | 14=>some ⟨2,24,.struct [(0,1,false),(1,1,false)],[.string ⟨#[]⟩,.int .u64 0]⟩
 | 18=>some ⟨1,8,.struct [(0,1,false)],[.pointer none]⟩
 | 19=>some ⟨1,8,.struct [(0,1,false)],[.pointer none]⟩
 | 21=>some ⟨1,4,.int .i32,[.int .i32 0]⟩
 | 22=>some ⟨1,24,.slice 26,[.slice none 0 0]⟩
 | 23=>some ⟨3,40,.struct [(0,1,false),(1,1,false),(2,1,false)],[.bool false,.string ⟨#[]⟩,.string ⟨#[]⟩]⟩
 | 24=>some ⟨3,40,.struct [(0,1,false),(1,1,false),(2,1,false)],[.bool false,.string ⟨#[]⟩,.string ⟨#[]⟩]⟩
 | 25=>some ⟨6,80,.struct [(0,3,true),(3,3,true)],[.bool false,.string ⟨#[]⟩,.string ⟨#[]⟩,.bool false,.string ⟨#[]⟩,.string ⟨#[]⟩]⟩
 | 26=>some ⟨6,80,.struct [(0,3,true),(3,3,true)],[.bool false,.string ⟨#[]⟩,.string ⟨#[]⟩,.bool false,.string ⟨#[]⟩,.string ⟨#[]⟩]⟩
 | 27=>some ⟨1,8,.other,[.nilFunc]⟩
 | 28=>some ⟨1,8,.other,[.nilFunc]⟩
 | 29=>some ⟨1,8,.int .i64,[.int .i64 0]⟩
 | 31=>some ⟨1,8,.other,[.nilFunc]⟩
 | 32=>some ⟨1,8,.other,[.nilFunc]⟩
 | 33=>some ⟨1,8,.other,[.nilFunc]⟩
 | 34=>some ⟨1,8,.other,[.nilFunc]⟩
 | 36=>some ⟨1,8,.other,[.nilFunc]⟩
 | 38=>some ⟨1,8,.other,[.nilFunc]⟩
 | 39=>some ⟨12,160,.struct [(0,6,true),(6,6,true)],[.bool false,.string ⟨#[]⟩,.string ⟨#[]⟩,.bool false,.string ⟨#[]⟩,.string ⟨#[]⟩,.bool false,.string ⟨#[]⟩,.string ⟨#[]⟩,.bool false,.string ⟨#[]⟩,.string ⟨#[]⟩]⟩
 | 40=>some ⟨12,160,.struct [(0,6,true),(6,6,true)],[.bool false,.string ⟨#[]⟩,.string ⟨#[]⟩,.bool false,.string ⟨#[]⟩,.string ⟨#[]⟩,.bool false,.string ⟨#[]⟩,.string ⟨#[]⟩,.bool false,.string ⟨#[]⟩,.string ⟨#[]⟩]⟩
 | 41=>some ⟨1,8,.other,[.nilFunc]⟩
 | 42=>some ⟨1,8,.other,[.nilFunc]⟩
 | 43=>some ⟨1,8,.other,[.nilFunc]⟩
 | 44=>some ⟨1,8,.other,[.nilFunc]⟩
 | 45=>some ⟨1,8,.other,[.nilFunc]⟩
 | 47=>some ⟨1,8,.other,[.nilFunc]⟩
 | 48=>some ⟨1,8,.other,[.nilFunc]⟩
 | 49=>some ⟨1,8,.other,[.nilFunc]⟩
 | 50=>some ⟨1,8,.other,[.nilFunc]⟩
 | 51=>some ⟨1,8,.other,[.nilFunc]⟩
 | 52=>some ⟨1,8,.other,[.nilFunc]⟩
 | 53=>some ⟨1,8,.other,[.nilFunc]⟩
 | 54=>some ⟨1,8,.other,[.nilFunc]⟩
 | 55=>some ⟨1,24,.slice 24,[.slice none 0 0]⟩
 | 56=>some ⟨1,8,.other,[.nilFunc]⟩
 | 57=>some ⟨1,8,.other,[.nilFunc]⟩
 | 59=>some ⟨1,8,.other,[.nilFunc]⟩
 | 61=>some ⟨1,8,.other,[.nilFunc]⟩
 | 62=>some ⟨1,8,.other,[.nilFunc]⟩
 | 63=>some ⟨1,8,.other,[.nilFunc]⟩
 | 64=>some ⟨1,8,.other,[.nilFunc]⟩
 | 65=>some ⟨1,8,.other,[.nilFunc]⟩
 | 67=>some ⟨1,8,.other,[.nilFunc]⟩
 | 68=>some ⟨1,24,.slice 22,[.slice none 0 0]⟩
 | 69=>some ⟨1,8,.other,[.nilFunc]⟩
 | 70=>some ⟨1,8,.other,[.nilFunc]⟩
 | 71=>some ⟨1,8,.other,[.nilFunc]⟩
 | 72=>some ⟨1,8,.other,[.nilFunc]⟩
 | 73=>some ⟨1,8,.other,[.nilFunc]⟩
 | 74=>some ⟨1,8,.other,[.nilFunc]⟩
 | 75=>some ⟨1,8,.other,[.nilFunc]⟩
 | 76=>some ⟨1,8,.other,[.nilFunc]⟩
 | 77=>some ⟨1,8,.other,[.nilFunc]⟩
 | 78=>some ⟨1,8,.other,[.nilFunc]⟩
 | 79=>some ⟨1,8,.other,[.nilFunc]⟩
 | 80=>some ⟨1,8,.other,[.nilFunc]⟩
 | 81=>some ⟨1,8,.other,[.nilFunc]⟩
 | 82=>some ⟨1,8,.other,[.nilFunc]⟩
 | 83=>some ⟨1,8,.other,[.nilFunc]⟩
 | 84=>some ⟨1,8,.other,[.nilFunc]⟩
 | 85=>some ⟨1,8,.other,[.nilFunc]⟩
 | 86=>some ⟨1,8,.other,[.nilFunc]⟩
 | 88=>some ⟨1,8,.other,[.nilFunc]⟩
 | 89=>some ⟨1,8,.other,[.nilFunc]⟩
 | 90=>some ⟨1,8,.other,[.nilFunc]⟩
 | 91=>some ⟨1,8,.other,[.nilFunc]⟩
 | 92=>some ⟨2,24,.struct [(0,1,false),(1,1,false)],[.bool false,.string ⟨#[]⟩]⟩
 | 93=>some ⟨2,24,.struct [(0,1,false),(1,1,false)],[.bool false,.string ⟨#[]⟩]⟩
 | 94=>some ⟨1,8,.other,[.nilFunc]⟩
 | 95=>some ⟨1,8,.other,[.nilFunc]⟩
 | 96=>some ⟨4,48,.struct [(0,2,true),(2,2,true)],[.bool false,.string ⟨#[]⟩,.bool false,.string ⟨#[]⟩]⟩
 | 97=>some ⟨4,48,.struct [(0,2,true),(2,2,true)],[.bool false,.string ⟨#[]⟩,.bool false,.string ⟨#[]⟩]⟩
 | 98=>some ⟨1,8,.other,[.nilFunc]⟩
 | 99=>some ⟨1,8,.other,[.nilFunc]⟩
 | 100=>some ⟨1,8,.other,[.nilFunc]⟩
 | 101=>some ⟨1,8,.other,[.nilFunc]⟩
 | 102=>some ⟨1,8,.other,[.nilFunc]⟩
 | 103=>some ⟨1,8,.other,[.nilFunc]⟩
 | 104=>some ⟨1,8,.other,[.nilFunc]⟩
 | 105=>some ⟨1,8,.other,[.nilFunc]⟩
 | 106=>some ⟨1,8,.other,[.nilFunc]⟩
 | 107=>some ⟨1,8,.other,[.nilFunc]⟩
 | 108=>some ⟨1,8,.other,[.nilFunc]⟩
 | 110=>some ⟨1,8,.other,[.nilFunc]⟩
 | 111=>some ⟨1,8,.other,[.nilFunc]⟩
 | 112=>some ⟨1,8,.other,[.nilFunc]⟩
 | 113=>some ⟨1,8,.other,[.nilFunc]⟩
 | 114=>some ⟨1,8,.other,[.nilFunc]⟩
 | 115=>some ⟨1,24,.slice 3,[.slice none 0 0]⟩
 | 116=>some ⟨1,8,.other,[.nilFunc]⟩
 | 117=>some ⟨1,8,.other,[.nilFunc]⟩
 | 118=>some ⟨1,8,.other,[.nilFunc]⟩
 | 119=>some ⟨1,8,.other,[.nilFunc]⟩
 | 120=>some ⟨9,120,.struct [(0,3,true),(3,3,true),(6,3,true)],[.bool false,.string ⟨#[]⟩,.string ⟨#[]⟩,.bool false,.string ⟨#[]⟩,.string ⟨#[]⟩,.bool false,.string ⟨#[]⟩,.string ⟨#[]⟩]⟩
 | 121=>some ⟨9,120,.struct [(0,3,true),(3,3,true),(6,3,true)],[.bool false,.string ⟨#[]⟩,.string ⟨#[]⟩,.bool false,.string ⟨#[]⟩,.string ⟨#[]⟩,.bool false,.string ⟨#[]⟩,.string ⟨#[]⟩]⟩
 | 123=>some ⟨1,8,.other,[.nilFunc]⟩
 | 124=>some ⟨1,8,.other,[.nilFunc]⟩
 | 125=>some ⟨1,8,.other,[.nilFunc]⟩
 | 126=>some ⟨1,8,.other,[.nilFunc]⟩
 | 127=>some ⟨1,8,.other,[.nilFunc]⟩
 | 128=>some ⟨1,8,.other,[.nilFunc]⟩
 | 129=>some ⟨1,8,.int .u64,[.int .u64 0]⟩
 | 130=>some ⟨1,8,.other,[.nilFunc]⟩
 | 131=>some ⟨1,4,.int .u32,[.int .u32 0]⟩
 | 132=>some ⟨1,8,.int .u64,[.int .u64 0]⟩
 | 133=>some ⟨1,24,.slice 131,[.slice none 0 0]⟩
 | 134=>some ⟨1,24,.slice 131,[.slice none 0 0]⟩
 | 135=>some ⟨1,8,.other,[.nilFunc]⟩
 | 137=>some ⟨1,8,.other,[.nilFunc]⟩
 | 138=>some ⟨1,8,.other,[.nilFunc]⟩
 | 139=>some ⟨1,8,.other,[.nilFunc]⟩
 | 140=>some ⟨1,8,.other,[.nilFunc]⟩
 | 142=>some ⟨1,8,.other,[.nilFunc]⟩
 | 143=>some ⟨1,8,.other,[.nilFunc]⟩
 | 144=>some ⟨1,8,.other,[.nilFunc]⟩
 | 146=>some ⟨1,8,.other,[.nilFunc]⟩
 | 147=>some ⟨1,8,.other,[.nilFunc]⟩
 | 148=>some ⟨1,8,.other,[.nilFunc]⟩
 | 149=>some ⟨1,8,.other,[.nilFunc]⟩
 | 150=>some ⟨1,8,.other,[.nilFunc]⟩
 | 152=>some ⟨1,8,.other,[.nilFunc]⟩
 | 153=>some ⟨1,8,.other,[.nilFunc]⟩
 | 154=>some ⟨1,8,.other,[.nilFunc]⟩
 | 156=>some ⟨1,8,.other,[.nilFunc]⟩
 | 157=>some ⟨1,8,.other,[.nilFunc]⟩
 | 158=>some ⟨1,8,.other,[.nilFunc]⟩
 | 159=>some ⟨8,8,.array 8 5,[.int .u8 0,.int .u8 0,.int .u8 0,.int .u8 0,.int .u8 0,.int .u8 0,.int .u8 0,.int .u8 0]⟩
 | 160=>some ⟨1,24,.slice 5,[.slice none 0 0]⟩
 | 162=>some ⟨1,8,.other,[.nilFunc]⟩
 | 163=>some ⟨1,8,.other,[.nilFunc]⟩
 | 164=>some ⟨1,8,.other,[.nilFunc]⟩
 | 165=>some ⟨1,8,.other,[.nilFunc]⟩
 | 167=>some ⟨1,8,.other,[.nilFunc]⟩
 | 168=>some ⟨1,8,.other,[.nilFunc]⟩
 | 169=>some ⟨1,8,.other,[.nilFunc]⟩
 | 170=>some ⟨1,8,.other,[.nilFunc]⟩
 | 172=>some ⟨1,8,.other,[.nilFunc]⟩
 | 173=>some ⟨8,128,.array 8 9,[.string ⟨#[]⟩,.string ⟨#[]⟩,.string ⟨#[]⟩,.string ⟨#[]⟩,.string ⟨#[]⟩,.string ⟨#[]⟩,.string ⟨#[]⟩,.string ⟨#[]⟩]⟩
 | 177=>some ⟨4,40,.struct [(0,1,false),(1,1,false),(2,1,false),(3,1,false)],[.pointer none,.pointer none,.pointer none,.string ⟨#[]⟩]⟩
 | 178=>some ⟨4,40,.struct [(0,1,false),(1,1,false),(2,1,false),(3,1,false)],[.pointer none,.pointer none,.pointer none,.string ⟨#[]⟩]⟩
 | 182=>some ⟨1,8,.other,[.nilFunc]⟩
 | 183=>some ⟨1,1,.int .u8,[.int .u8 0]⟩
 | 184=>some ⟨1,1,.int .u8,[.int .u8 0]⟩
 | 185=>some ⟨1,8,.other,[.nilFunc]⟩
 | 187=>some ⟨1,4,.int .i32,[.int .i32 0]⟩
 | 188=>some ⟨1,4,.int .i32,[.int .i32 0]⟩
 | 189=>some ⟨11,48,.struct [(0,1,false),(1,1,false),(2,1,false),(3,1,false),(4,1,false),(5,1,false),(6,1,false),(7,1,false),(8,1,false),(9,1,false),(10,1,false)],[.int .u64 0,.int .u64 0,.int .u32 0,.int .u8 0,.int .u8 0,.int .u8 0,.int .u8 0,.nilFunc,.pointer none,.int .i32 0,.int .i32 0]⟩
 | 190=>some ⟨11,48,.struct [(0,1,false),(1,1,false),(2,1,false),(3,1,false),(4,1,false),(5,1,false),(6,1,false),(7,1,false),(8,1,false),(9,1,false),(10,1,false)],[.int .u64 0,.int .u64 0,.int .u32 0,.int .u8 0,.int .u8 0,.int .u8 0,.int .u8 0,.nilFunc,.pointer none,.int .i32 0,.int .i32 0]⟩
 | 191=>some ⟨1,16,.struct [(0,1,false)],[.string ⟨#[]⟩]⟩
 | 192=>some ⟨1,16,.struct [(0,1,false)],[.string ⟨#[]⟩]⟩
 | _=>none
theorem abJ:ay Tryz.prog 1 ⟨1,8,.other,[.nilFunc]⟩:=aF (by kernel_rfl) (by kernel_rfl) (by kernel_rfl)
theorem abK:ay Tryz.prog 2 ⟨1,8,.int .i64,[.int .i64 0]⟩:=aF (by kernel_rfl) (by kernel_rfl) (by kernel_rfl)
theorem abL:ay Tryz.prog 3 ⟨1,8,.int .i64,[.int .i64 0]⟩:=aF (by kernel_rfl) (by kernel_rfl) (by kernel_rfl)
theorem abM:ay Tryz.prog 4 ⟨1,1,.bool,[.bool false]⟩:=aF (by kernel_rfl) (by kernel_rfl) (by kernel_rfl)
theorem abN:ay Tryz.prog 5 ⟨1,1,.int .u8,[.int .u8 0]⟩:=aF (by kernel_rfl) (by kernel_rfl) (by kernel_rfl)
theorem abO:ay Tryz.prog 6 ⟨1,1,.int .u8,[.int .u8 0]⟩:=aF (by kernel_rfl) (by kernel_rfl) (by kernel_rfl)
theorem abP:ay Tryz.prog 7 ⟨4,24,.struct [(0,1,false),(1,1,false),(2,1,false),(3,1,false)],[.int .i64 0,.int .i64 0,.bool false,.int .u8 0]⟩:=aF (by kernel_rfl) (by kernel_rfl) (by kernel_rfl)
theorem abQ:ay Tryz.prog 8 ⟨4,24,.struct [(0,1,false),(1,1,false),(2,1,false),(3,1,false)],[.int .i64 0,.int .i64 0,.bool false,.int .u8 0]⟩:=aF (by kernel_rfl) (by kernel_rfl) (by kernel_rfl)
theorem abR:ay Tryz.prog 9 ⟨1,16,.str,[.string ⟨#[]⟩]⟩:=aF (by kernel_rfl) (by kernel_rfl) (by kernel_rfl)
theorem Zx:ay Tryz.prog 10 ⟨1,16,.str,[.string ⟨#[]⟩]⟩:=aF (by kernel_rfl) (by kernel_rfl) (by kernel_rfl)
theorem Zy:ay Tryz.prog 11 ⟨1,16,.str,[.string ⟨#[]⟩]⟩:=aF (by kernel_rfl) (by kernel_rfl) (by kernel_rfl)
theorem Zz:ay Tryz.prog 12 ⟨1,8,.int .u64,[.int .u64 0]⟩:=aF (by kernel_rfl) (by kernel_rfl) (by kernel_rfl)
theorem ZA:ay Tryz.prog 13 ⟨2,24,.struct [(0,1,false),(1,1,false)],[.string ⟨#[]⟩,.int .u64 0]⟩:=aF (by kernel_rfl) (by kernel_rfl) (by kernel_rfl)
theorem ZB:ay Tryz.prog 14 ⟨2,24,.struct [(0,1,false),(1,1,false)],[.string ⟨#[]⟩,.int .u64 0]⟩:=aF (by kernel_rfl) (by kernel_rfl) (by kernel_rfl)
theorem ZC:ay Tryz.prog 18 ⟨1,8,.struct [(0,1,false)],[.pointer none]⟩:=aF (by kernel_rfl) (by kernel_rfl) (by kernel_rfl)
theorem ZD:ay Tryz.prog 19 ⟨1,8,.struct [(0,1,false)],[.pointer none]⟩:=aF (by kernel_rfl) (by kernel_rfl) (by kernel_rfl)
theorem ZF:ay Tryz.prog 21 ⟨1,4,.int .i32,[.int .i32 0]⟩:=aF (by kernel_rfl) (by kernel_rfl) (by kernel_rfl)
theorem ZG:ay Tryz.prog 22 ⟨1,24,.slice 26,[.slice none 0 0]⟩:=aF (by kernel_rfl) (by kernel_rfl) (by kernel_rfl)
theorem ZH:ay Tryz.prog 23 ⟨3,40,.struct [(0,1,false),(1,1,false),(2,1,false)],[.bool false,.string ⟨#[]⟩,.string ⟨#[]⟩]⟩:=aF (by kernel_rfl) (by kernel_rfl) (by kernel_rfl)
theorem ZI:ay Tryz.prog 24 ⟨3,40,.struct [(0,1,false),(1,1,false),(2,1,false)],[.bool false,.string ⟨#[]⟩,.string ⟨#[]⟩]⟩:=aF (by kernel_rfl) (by kernel_rfl) (by kernel_rfl)
theorem ZJ:ay Tryz.prog 25 ⟨6,80,.struct [(0,3,true),(3,3,true)],[.bool false,.string ⟨#[]⟩,.string ⟨#[]⟩,.bool false,.string ⟨#[]⟩,.string ⟨#[]⟩]⟩:=aF (by kernel_rfl) (by kernel_rfl) (by kernel_rfl)
theorem ZK:ay Tryz.prog 26 ⟨6,80,.struct [(0,3,true),(3,3,true)],[.bool false,.string ⟨#[]⟩,.string ⟨#[]⟩,.bool false,.string ⟨#[]⟩,.string ⟨#[]⟩]⟩:=aF (by kernel_rfl) (by kernel_rfl) (by kernel_rfl)
theorem ZL:ay Tryz.prog 27 ⟨1,8,.other,[.nilFunc]⟩:=aF (by kernel_rfl) (by kernel_rfl) (by kernel_rfl)
theorem ZM:ay Tryz.prog 28 ⟨1,8,.other,[.nilFunc]⟩:=aF (by kernel_rfl) (by kernel_rfl) (by kernel_rfl)
theorem ZN:ay Tryz.prog 29 ⟨1,8,.int .i64,[.int .i64 0]⟩:=aF (by kernel_rfl) (by kernel_rfl) (by kernel_rfl)
theorem ZO:ay Tryz.prog 31 ⟨1,8,.other,[.nilFunc]⟩:=aF (by kernel_rfl) (by kernel_rfl) (by kernel_rfl)
theorem ZP:ay Tryz.prog 32 ⟨1,8,.other,[.nilFunc]⟩:=aF (by kernel_rfl) (by kernel_rfl) (by kernel_rfl)
theorem ZQ:ay Tryz.prog 33 ⟨1,8,.other,[.nilFunc]⟩:=aF (by kernel_rfl) (by kernel_rfl) (by kernel_rfl)
theorem ZR:ay Tryz.prog 34 ⟨1,8,.other,[.nilFunc]⟩:=aF (by kernel_rfl) (by kernel_rfl) (by kernel_rfl)
theorem ZS:ay Tryz.prog 36 ⟨1,8,.other,[.nilFunc]⟩:=aF (by kernel_rfl) (by kernel_rfl) (by kernel_rfl)
theorem ZT:ay Tryz.prog 38 ⟨1,8,.other,[.nilFunc]⟩:=aF (by kernel_rfl) (by kernel_rfl) (by kernel_rfl)
theorem ZU:ay Tryz.prog 39 ⟨12,160,.struct [(0,6,true),(6,6,true)],[.bool false,.string ⟨#[]⟩,.string ⟨#[]⟩,.bool false,.string ⟨#[]⟩,.string ⟨#[]⟩,.bool false,.string ⟨#[]⟩,.string ⟨#[]⟩,.bool false,.string ⟨#[]⟩,.string ⟨#[]⟩]⟩:=aF (by kernel_rfl) (by kernel_rfl) (by kernel_rfl)
theorem ZV:ay Tryz.prog 40 ⟨12,160,.struct [(0,6,true),(6,6,true)],[.bool false,.string ⟨#[]⟩,.string ⟨#[]⟩,.bool false,.string ⟨#[]⟩,.string ⟨#[]⟩,.bool false,.string ⟨#[]⟩,.string ⟨#[]⟩,.bool false,.string ⟨#[]⟩,.string ⟨#[]⟩]⟩:=aF (by kernel_rfl) (by kernel_rfl) (by kernel_rfl)
theorem ZW:ay Tryz.prog 41 ⟨1,8,.other,[.nilFunc]⟩:=aF (by kernel_rfl) (by kernel_rfl) (by kernel_rfl)
theorem ZX:ay Tryz.prog 42 ⟨1,8,.other,[.nilFunc]⟩:=aF (by kernel_rfl) (by kernel_rfl) (by kernel_rfl)
theorem ZY:ay Tryz.prog 43 ⟨1,8,.other,[.nilFunc]⟩:=aF (by kernel_rfl) (by kernel_rfl) (by kernel_rfl)
theorem ZZ:ay Tryz.prog 44 ⟨1,8,.other,[.nilFunc]⟩:=aF (by kernel_rfl) (by kernel_rfl) (by kernel_rfl)
theorem Z0:ay Tryz.prog 45 ⟨1,8,.other,[.nilFunc]⟩:=aF (by kernel_rfl) (by kernel_rfl) (by kernel_rfl)
theorem Z1:ay Tryz.prog 47 ⟨1,8,.other,[.nilFunc]⟩:=aF (by kernel_rfl) (by kernel_rfl) (by kernel_rfl)
theorem Z2:ay Tryz.prog 48 ⟨1,8,.other,[.nilFunc]⟩:=aF (by kernel_rfl) (by kernel_rfl) (by kernel_rfl)
theorem Z3:ay Tryz.prog 49 ⟨1,8,.other,[.nilFunc]⟩:=aF (by kernel_rfl) (by kernel_rfl) (by kernel_rfl)
theorem Z4:ay Tryz.prog 50 ⟨1,8,.other,[.nilFunc]⟩:=aF (by kernel_rfl) (by kernel_rfl) (by kernel_rfl)
theorem Z5:ay Tryz.prog 51 ⟨1,8,.other,[.nilFunc]⟩:=aF (by kernel_rfl) (by kernel_rfl) (by kernel_rfl)
theorem Z6:ay Tryz.prog 52 ⟨1,8,.other,[.nilFunc]⟩:=aF (by kernel_rfl) (by kernel_rfl) (by kernel_rfl)
theorem Z7:ay Tryz.prog 53 ⟨1,8,.other,[.nilFunc]⟩:=aF (by kernel_rfl) (by kernel_rfl) (by kernel_rfl)
theorem Z8:ay Tryz.prog 54 ⟨1,8,.other,[.nilFunc]⟩:=aF (by kernel_rfl) (by kernel_rfl) (by kernel_rfl)
theorem Z9:ay Tryz.prog 55 ⟨1,24,.slice 24,[.slice none 0 0]⟩:=aF (by kernel_rfl) (by kernel_rfl) (by kernel_rfl)
theorem aaa:ay Tryz.prog 56 ⟨1,8,.other,[.nilFunc]⟩:=aF (by kernel_rfl) (by kernel_rfl) (by kernel_rfl)
theorem aab:ay Tryz.prog 57 ⟨1,8,.other,[.nilFunc]⟩:=aF (by kernel_rfl) (by kernel_rfl) (by kernel_rfl)
theorem aac:ay Tryz.prog 59 ⟨1,8,.other,[.nilFunc]⟩:=aF (by kernel_rfl) (by kernel_rfl) (by kernel_rfl)
theorem aad:ay Tryz.prog 61 ⟨1,8,.other,[.nilFunc]⟩:=aF (by kernel_rfl) (by kernel_rfl) (by kernel_rfl)
theorem aae:ay Tryz.prog 62 ⟨1,8,.other,[.nilFunc]⟩:=aF (by kernel_rfl) (by kernel_rfl) (by kernel_rfl)
theorem aaf:ay Tryz.prog 63 ⟨1,8,.other,[.nilFunc]⟩:=aF (by kernel_rfl) (by kernel_rfl) (by kernel_rfl)
theorem aag:ay Tryz.prog 64 ⟨1,8,.other,[.nilFunc]⟩:=aF (by kernel_rfl) (by kernel_rfl) (by kernel_rfl)
theorem aah:ay Tryz.prog 65 ⟨1,8,.other,[.nilFunc]⟩:=aF (by kernel_rfl) (by kernel_rfl) (by kernel_rfl)
theorem aai:ay Tryz.prog 67 ⟨1,8,.other,[.nilFunc]⟩:=aF (by kernel_rfl) (by kernel_rfl) (by kernel_rfl)
theorem aaj:ay Tryz.prog 68 ⟨1,24,.slice 22,[.slice none 0 0]⟩:=aF (by kernel_rfl) (by kernel_rfl) (by kernel_rfl)
theorem aak:ay Tryz.prog 69 ⟨1,8,.other,[.nilFunc]⟩:=aF (by kernel_rfl) (by kernel_rfl) (by kernel_rfl)
theorem aal:ay Tryz.prog 70 ⟨1,8,.other,[.nilFunc]⟩:=aF (by kernel_rfl) (by kernel_rfl) (by kernel_rfl)
theorem aam:ay Tryz.prog 71 ⟨1,8,.other,[.nilFunc]⟩:=aF (by kernel_rfl) (by kernel_rfl) (by kernel_rfl)
theorem aan:ay Tryz.prog 72 ⟨1,8,.other,[.nilFunc]⟩:=aF (by kernel_rfl) (by kernel_rfl) (by kernel_rfl)
theorem aao:ay Tryz.prog 73 ⟨1,8,.other,[.nilFunc]⟩:=aF (by kernel_rfl) (by kernel_rfl) (by kernel_rfl)
theorem aap:ay Tryz.prog 74 ⟨1,8,.other,[.nilFunc]⟩:=aF (by kernel_rfl) (by kernel_rfl) (by kernel_rfl)
theorem aaq:ay Tryz.prog 75 ⟨1,8,.other,[.nilFunc]⟩:=aF (by kernel_rfl) (by kernel_rfl) (by kernel_rfl)
theorem aar:ay Tryz.prog 76 ⟨1,8,.other,[.nilFunc]⟩:=aF (by kernel_rfl) (by kernel_rfl) (by kernel_rfl)
theorem aas:ay Tryz.prog 77 ⟨1,8,.other,[.nilFunc]⟩:=aF (by kernel_rfl) (by kernel_rfl) (by kernel_rfl)
theorem aat:ay Tryz.prog 78 ⟨1,8,.other,[.nilFunc]⟩:=aF (by kernel_rfl) (by kernel_rfl) (by kernel_rfl)
theorem aau:ay Tryz.prog 79 ⟨1,8,.other,[.nilFunc]⟩:=aF (by kernel_rfl) (by kernel_rfl) (by kernel_rfl)
theorem aav:ay Tryz.prog 80 ⟨1,8,.other,[.nilFunc]⟩:=aF (by kernel_rfl) (by kernel_rfl) (by kernel_rfl)
theorem aaw:ay Tryz.prog 81 ⟨1,8,.other,[.nilFunc]⟩:=aF (by kernel_rfl) (by kernel_rfl) (by kernel_rfl)
theorem aax:ay Tryz.prog 82 ⟨1,8,.other,[.nilFunc]⟩:=aF (by kernel_rfl) (by kernel_rfl) (by kernel_rfl)
theorem aay:ay Tryz.prog 83 ⟨1,8,.other,[.nilFunc]⟩:=aF (by kernel_rfl) (by kernel_rfl) (by kernel_rfl)
theorem aaz:ay Tryz.prog 84 ⟨1,8,.other,[.nilFunc]⟩:=aF (by kernel_rfl) (by kernel_rfl) (by kernel_rfl)
theorem aaA:ay Tryz.prog 85 ⟨1,8,.other,[.nilFunc]⟩:=aF (by kernel_rfl) (by kernel_rfl) (by kernel_rfl)
theorem aaB:ay Tryz.prog 86 ⟨1,8,.other,[.nilFunc]⟩:=aF (by kernel_rfl) (by kernel_rfl) (by kernel_rfl)
theorem aaC:ay Tryz.prog 88 ⟨1,8,.other,[.nilFunc]⟩:=aF (by kernel_rfl) (by kernel_rfl) (by kernel_rfl)
theorem aaD:ay Tryz.prog 89 ⟨1,8,.other,[.nilFunc]⟩:=aF (by kernel_rfl) (by kernel_rfl) (by kernel_rfl)
theorem aaE:ay Tryz.prog 90 ⟨1,8,.other,[.nilFunc]⟩:=aF (by kernel_rfl) (by kernel_rfl) (by kernel_rfl)
theorem aaF:ay Tryz.prog 91 ⟨1,8,.other,[.nilFunc]⟩:=aF (by kernel_rfl) (by kernel_rfl) (by kernel_rfl)
theorem aaG:ay Tryz.prog 92 ⟨2,24,.struct [(0,1,false),(1,1,false)],[.bool false,.string ⟨#[]⟩]⟩:=aF (by kernel_rfl) (by kernel_rfl) (by kernel_rfl)
theorem aaH:ay Tryz.prog 93 ⟨2,24,.struct [(0,1,false),(1,1,false)],[.bool false,.string ⟨#[]⟩]⟩:=aF (by kernel_rfl) (by kernel_rfl) (by kernel_rfl)
theorem aaI:ay Tryz.prog 94 ⟨1,8,.other,[.nilFunc]⟩:=aF (by kernel_rfl) (by kernel_rfl) (by kernel_rfl)
theorem aaJ:ay Tryz.prog 95 ⟨1,8,.other,[.nilFunc]⟩:=aF (by kernel_rfl) (by kernel_rfl) (by kernel_rfl)
theorem aaK:ay Tryz.prog 96 ⟨4,48,.struct [(0,2,true),(2,2,true)],[.bool false,.string ⟨#[]⟩,.bool false,.string ⟨#[]⟩]⟩:=aF (by kernel_rfl) (by kernel_rfl) (by kernel_rfl)
theorem aaL:ay Tryz.prog 97 ⟨4,48,.struct [(0,2,true),(2,2,true)],[.bool false,.string ⟨#[]⟩,.bool false,.string ⟨#[]⟩]⟩:=aF (by kernel_rfl) (by kernel_rfl) (by kernel_rfl)
theorem aaM:ay Tryz.prog 98 ⟨1,8,.other,[.nilFunc]⟩:=aF (by kernel_rfl) (by kernel_rfl) (by kernel_rfl)
theorem aaN:ay Tryz.prog 99 ⟨1,8,.other,[.nilFunc]⟩:=aF (by kernel_rfl) (by kernel_rfl) (by kernel_rfl)
theorem W4:ay Tryz.prog 100 ⟨1,8,.other,[.nilFunc]⟩:=aF (by kernel_rfl) (by kernel_rfl) (by kernel_rfl)
theorem W5:ay Tryz.prog 101 ⟨1,8,.other,[.nilFunc]⟩:=aF (by kernel_rfl) (by kernel_rfl) (by kernel_rfl)
theorem W6:ay Tryz.prog 102 ⟨1,8,.other,[.nilFunc]⟩:=aF (by kernel_rfl) (by kernel_rfl) (by kernel_rfl)
theorem W7:ay Tryz.prog 103 ⟨1,8,.other,[.nilFunc]⟩:=aF (by kernel_rfl) (by kernel_rfl) (by kernel_rfl)
theorem W8:ay Tryz.prog 104 ⟨1,8,.other,[.nilFunc]⟩:=aF (by kernel_rfl) (by kernel_rfl) (by kernel_rfl)
theorem W9:ay Tryz.prog 105 ⟨1,8,.other,[.nilFunc]⟩:=aF (by kernel_rfl) (by kernel_rfl) (by kernel_rfl)
theorem Xa:ay Tryz.prog 106 ⟨1,8,.other,[.nilFunc]⟩:=aF (by kernel_rfl) (by kernel_rfl) (by kernel_rfl)
theorem Xb:ay Tryz.prog 107 ⟨1,8,.other,[.nilFunc]⟩:=aF (by kernel_rfl) (by kernel_rfl) (by kernel_rfl)
theorem Xc:ay Tryz.prog 108 ⟨1,8,.other,[.nilFunc]⟩:=aF (by kernel_rfl) (by kernel_rfl) (by kernel_rfl)
theorem Xd:ay Tryz.prog 110 ⟨1,8,.other,[.nilFunc]⟩:=aF (by kernel_rfl) (by kernel_rfl) (by kernel_rfl)
theorem Xe:ay Tryz.prog 111 ⟨1,8,.other,[.nilFunc]⟩:=aF (by kernel_rfl) (by kernel_rfl) (by kernel_rfl)
theorem Xf:ay Tryz.prog 112 ⟨1,8,.other,[.nilFunc]⟩:=aF (by kernel_rfl) (by kernel_rfl) (by kernel_rfl)
theorem Xg:ay Tryz.prog 113 ⟨1,8,.other,[.nilFunc]⟩:=aF (by kernel_rfl) (by kernel_rfl) (by kernel_rfl)
theorem Xh:ay Tryz.prog 114 ⟨1,8,.other,[.nilFunc]⟩:=aF (by kernel_rfl) (by kernel_rfl) (by kernel_rfl)
theorem Xi:ay Tryz.prog 115 ⟨1,24,.slice 3,[.slice none 0 0]⟩:=aF (by kernel_rfl) (by kernel_rfl) (by kernel_rfl)
theorem Xj:ay Tryz.prog 116 ⟨1,8,.other,[.nilFunc]⟩:=aF (by kernel_rfl) (by kernel_rfl) (by kernel_rfl)
theorem Xk:ay Tryz.prog 117 ⟨1,8,.other,[.nilFunc]⟩:=aF (by kernel_rfl) (by kernel_rfl) (by kernel_rfl)
theorem Xl:ay Tryz.prog 118 ⟨1,8,.other,[.nilFunc]⟩:=aF (by kernel_rfl) (by kernel_rfl) (by kernel_rfl)
theorem Xm:ay Tryz.prog 119 ⟨1,8,.other,[.nilFunc]⟩:=aF (by kernel_rfl) (by kernel_rfl) (by kernel_rfl)
theorem Xn:ay Tryz.prog 120 ⟨9,120,.struct [(0,3,true),(3,3,true),(6,3,true)],[.bool false,.string ⟨#[]⟩,.string ⟨#[]⟩,.bool false,.string ⟨#[]⟩,.string ⟨#[]⟩,.bool false,.string ⟨#[]⟩,.string ⟨#[]⟩]⟩:=aF (by kernel_rfl) (by kernel_rfl) (by kernel_rfl)
theorem Xo:ay Tryz.prog 121 ⟨9,120,.struct [(0,3,true),(3,3,true),(6,3,true)],[.bool false,.string ⟨#[]⟩,.string ⟨#[]⟩,.bool false,.string ⟨#[]⟩,.string ⟨#[]⟩,.bool false,.string ⟨#[]⟩,.string ⟨#[]⟩]⟩:=aF (by kernel_rfl) (by kernel_rfl) (by kernel_rfl)
theorem Xp:ay Tryz.prog 123 ⟨1,8,.other,[.nilFunc]⟩:=aF (by kernel_rfl) (by kernel_rfl) (by kernel_rfl)
theorem Xq:ay Tryz.prog 124 ⟨1,8,.other,[.nilFunc]⟩:=aF (by kernel_rfl) (by kernel_rfl) (by kernel_rfl)
theorem Xr:ay Tryz.prog 125 ⟨1,8,.other,[.nilFunc]⟩:=aF (by kernel_rfl) (by kernel_rfl) (by kernel_rfl)
theorem Xs:ay Tryz.prog 126 ⟨1,8,.other,[.nilFunc]⟩:=aF (by kernel_rfl) (by kernel_rfl) (by kernel_rfl)
theorem Xt:ay Tryz.prog 127 ⟨1,8,.other,[.nilFunc]⟩:=aF (by kernel_rfl) (by kernel_rfl) (by kernel_rfl)
theorem Xu:ay Tryz.prog 128 ⟨1,8,.other,[.nilFunc]⟩:=aF (by kernel_rfl) (by kernel_rfl) (by kernel_rfl)
theorem Xv:ay Tryz.prog 129 ⟨1,8,.int .u64,[.int .u64 0]⟩:=aF (by kernel_rfl) (by kernel_rfl) (by kernel_rfl)
theorem Xw:ay Tryz.prog 130 ⟨1,8,.other,[.nilFunc]⟩:=aF (by kernel_rfl) (by kernel_rfl) (by kernel_rfl)
theorem Xx:ay Tryz.prog 131 ⟨1,4,.int .u32,[.int .u32 0]⟩:=aF (by kernel_rfl) (by kernel_rfl) (by kernel_rfl)
theorem Xy:ay Tryz.prog 132 ⟨1,8,.int .u64,[.int .u64 0]⟩:=aF (by kernel_rfl) (by kernel_rfl) (by kernel_rfl)
theorem Xz:ay Tryz.prog 133 ⟨1,24,.slice 131,[.slice none 0 0]⟩:=aF (by kernel_rfl) (by kernel_rfl) (by kernel_rfl)
theorem XA:ay Tryz.prog 134 ⟨1,24,.slice 131,[.slice none 0 0]⟩:=aF (by kernel_rfl) (by kernel_rfl) (by kernel_rfl)
theorem XB:ay Tryz.prog 135 ⟨1,8,.other,[.nilFunc]⟩:=aF (by kernel_rfl) (by kernel_rfl) (by kernel_rfl)
theorem XC:ay Tryz.prog 137 ⟨1,8,.other,[.nilFunc]⟩:=aF (by kernel_rfl) (by kernel_rfl) (by kernel_rfl)
theorem XD:ay Tryz.prog 138 ⟨1,8,.other,[.nilFunc]⟩:=aF (by kernel_rfl) (by kernel_rfl) (by kernel_rfl)
theorem XE:ay Tryz.prog 139 ⟨1,8,.other,[.nilFunc]⟩:=aF (by kernel_rfl) (by kernel_rfl) (by kernel_rfl)
theorem XF:ay Tryz.prog 140 ⟨1,8,.other,[.nilFunc]⟩:=aF (by kernel_rfl) (by kernel_rfl) (by kernel_rfl)
theorem XG:ay Tryz.prog 142 ⟨1,8,.other,[.nilFunc]⟩:=aF (by kernel_rfl) (by kernel_rfl) (by kernel_rfl)
theorem XH:ay Tryz.prog 143 ⟨1,8,.other,[.nilFunc]⟩:=aF (by kernel_rfl) (by kernel_rfl) (by kernel_rfl)
theorem XI:ay Tryz.prog 144 ⟨1,8,.other,[.nilFunc]⟩:=aF (by kernel_rfl) (by kernel_rfl) (by kernel_rfl)
theorem XJ:ay Tryz.prog 146 ⟨1,8,.other,[.nilFunc]⟩:=aF (by kernel_rfl) (by kernel_rfl) (by kernel_rfl)
theorem XL:ay Tryz.prog 147 ⟨1,8,.other,[.nilFunc]⟩:=aF (by kernel_rfl) (by kernel_rfl) (by kernel_rfl)
theorem XM:ay Tryz.prog 148 ⟨1,8,.other,[.nilFunc]⟩:=aF (by kernel_rfl) (by kernel_rfl) (by kernel_rfl)
theorem XN:ay Tryz.prog 149 ⟨1,8,.other,[.nilFunc]⟩:=aF (by kernel_rfl) (by kernel_rfl) (by kernel_rfl)
theorem XO:ay Tryz.prog 150 ⟨1,8,.other,[.nilFunc]⟩:=aF (by kernel_rfl) (by kernel_rfl) (by kernel_rfl)
theorem XP:ay Tryz.prog 152 ⟨1,8,.other,[.nilFunc]⟩:=aF (by kernel_rfl) (by kernel_rfl) (by kernel_rfl)
theorem XQ:ay Tryz.prog 153 ⟨1,8,.other,[.nilFunc]⟩:=aF (by kernel_rfl) (by kernel_rfl) (by kernel_rfl)
theorem XR:ay Tryz.prog 154 ⟨1,8,.other,[.nilFunc]⟩:=aF (by kernel_rfl) (by kernel_rfl) (by kernel_rfl)
theorem XT:ay Tryz.prog 156 ⟨1,8,.other,[.nilFunc]⟩:=aF (by kernel_rfl) (by kernel_rfl) (by kernel_rfl)
theorem XU:ay Tryz.prog 157 ⟨1,8,.other,[.nilFunc]⟩:=aF (by kernel_rfl) (by kernel_rfl) (by kernel_rfl)
theorem XW:ay Tryz.prog 158 ⟨1,8,.other,[.nilFunc]⟩:=aF (by kernel_rfl) (by kernel_rfl) (by kernel_rfl)
theorem XX:ay Tryz.prog 159 ⟨8,8,.array 8 5,[.int .u8 0,.int .u8 0,.int .u8 0,.int .u8 0,.int .u8 0,.int .u8 0,.int .u8 0,.int .u8 0]⟩:=aF (by kernel_rfl) (by kernel_rfl) (by kernel_rfl)
theorem XY:ay Tryz.prog 160 ⟨1,24,.slice 5,[.slice none 0 0]⟩:=aF (by kernel_rfl) (by kernel_rfl) (by kernel_rfl)
theorem XZ:ay Tryz.prog 162 ⟨1,8,.other,[.nilFunc]⟩:=aF (by kernel_rfl) (by kernel_rfl) (by kernel_rfl)
theorem X0:ay Tryz.prog 163 ⟨1,8,.other,[.nilFunc]⟩:=aF (by kernel_rfl) (by kernel_rfl) (by kernel_rfl)
theorem X1:ay Tryz.prog 164 ⟨1,8,.other,[.nilFunc]⟩:=aF (by kernel_rfl) (by kernel_rfl) (by kernel_rfl)
theorem X2:ay Tryz.prog 165 ⟨1,8,.other,[.nilFunc]⟩:=aF (by kernel_rfl) (by kernel_rfl) (by kernel_rfl)
theorem X3:ay Tryz.prog 167 ⟨1,8,.other,[.nilFunc]⟩:=aF (by kernel_rfl) (by kernel_rfl) (by kernel_rfl)
theorem X4:ay Tryz.prog 168 ⟨1,8,.other,[.nilFunc]⟩:=aF (by kernel_rfl) (by kernel_rfl) (by kernel_rfl)
theorem X5:ay Tryz.prog 169 ⟨1,8,.other,[.nilFunc]⟩:=aF (by kernel_rfl) (by kernel_rfl) (by kernel_rfl)
theorem X6:ay Tryz.prog 170 ⟨1,8,.other,[.nilFunc]⟩:=aF (by kernel_rfl) (by kernel_rfl) (by kernel_rfl)
theorem X7:ay Tryz.prog 172 ⟨1,8,.other,[.nilFunc]⟩:=aF (by kernel_rfl) (by kernel_rfl) (by kernel_rfl)
theorem X8:ay Tryz.prog 173 ⟨8,128,.array 8 9,[.string ⟨#[]⟩,.string ⟨#[]⟩,.string ⟨#[]⟩,.string ⟨#[]⟩,.string ⟨#[]⟩,.string ⟨#[]⟩,.string ⟨#[]⟩,.string ⟨#[]⟩]⟩:=aF (by kernel_rfl) (by kernel_rfl) (by kernel_rfl)
theorem X9:ay Tryz.prog 177 ⟨4,40,.struct [(0,1,false),(1,1,false),(2,1,false),(3,1,false)],[.pointer none,.pointer none,.pointer none,.string ⟨#[]⟩]⟩:=aF (by kernel_rfl) (by kernel_rfl) (by kernel_rfl)
theorem Ya:ay Tryz.prog 178 ⟨4,40,.struct [(0,1,false),(1,1,false),(2,1,false),(3,1,false)],[.pointer none,.pointer none,.pointer none,.string ⟨#[]⟩]⟩:=aF (by kernel_rfl) (by kernel_rfl) (by kernel_rfl)
theorem Yb:ay Tryz.prog 182 ⟨1,8,.other,[.nilFunc]⟩:=aF (by kernel_rfl) (by kernel_rfl) (by kernel_rfl)
theorem Yc:ay Tryz.prog 183 ⟨1,1,.int .u8,[.int .u8 0]⟩:=aF (by kernel_rfl) (by kernel_rfl) (by kernel_rfl)
theorem Yd:ay Tryz.prog 184 ⟨1,1,.int .u8,[.int .u8 0]⟩:=aF (by kernel_rfl) (by kernel_rfl) (by kernel_rfl)
theorem Ye:ay Tryz.prog 185 ⟨1,8,.other,[.nilFunc]⟩:=aF (by kernel_rfl) (by kernel_rfl) (by kernel_rfl)
theorem Yf:ay Tryz.prog 187 ⟨1,4,.int .i32,[.int .i32 0]⟩:=aF (by kernel_rfl) (by kernel_rfl) (by kernel_rfl)
theorem Yg:ay Tryz.prog 188 ⟨1,4,.int .i32,[.int .i32 0]⟩:=aF (by kernel_rfl) (by kernel_rfl) (by kernel_rfl)
theorem Yh:ay Tryz.prog 189 ⟨11,48,.struct [(0,1,false),(1,1,false),(2,1,false),(3,1,false),(4,1,false),(5,1,false),(6,1,false),(7,1,false),(8,1,false),(9,1,false),(10,1,false)],[.int .u64 0,.int .u64 0,.int .u32 0,.int .u8 0,.int .u8 0,.int .u8 0,.int .u8 0,.nilFunc,.pointer none,.int .i32 0,.int .i32 0]⟩:=aF (by kernel_rfl) (by kernel_rfl) (by kernel_rfl)
theorem Yi:ay Tryz.prog 190 ⟨11,48,.struct [(0,1,false),(1,1,false),(2,1,false),(3,1,false),(4,1,false),(5,1,false),(6,1,false),(7,1,false),(8,1,false),(9,1,false),(10,1,false)],[.int .u64 0,.int .u64 0,.int .u32 0,.int .u8 0,.int .u8 0,.int .u8 0,.int .u8 0,.nilFunc,.pointer none,.int .i32 0,.int .i32 0]⟩:=aF (by kernel_rfl) (by kernel_rfl) (by kernel_rfl)
theorem Yj:ay Tryz.prog 191 ⟨1,16,.struct [(0,1,false)],[.string ⟨#[]⟩]⟩:=aF (by kernel_rfl) (by kernel_rfl) (by kernel_rfl)
theorem Yk:ay Tryz.prog 192 ⟨1,16,.struct [(0,1,false)],[.string ⟨#[]⟩]⟩:=aF (by kernel_rfl) (by kernel_rfl) (by kernel_rfl)
theorem uO:∀ t ti,tt t=some ti→ay Tryz.prog t ti:=by
 intro t ti h;unfold tt at h
 split at h
 ·cases h; exact abJ
 ·cases h; exact abK
 ·cases h; exact abL
 ·cases h; exact abM
 ·cases h; exact abN
 ·cases h; exact abO
 ·cases h; exact abP
 ·cases h; exact abQ
 ·cases h; exact abR
 ·cases h; exact Zx
 ·cases h; exact Zy
 ·cases h; exact Zz
 ·cases h; exact ZA
 ·cases h; exact ZB
 ·cases h; exact ZC
 ·cases h; exact ZD
 ·cases h; exact ZF
 ·cases h; exact ZG
 ·cases h; exact ZH
 ·cases h; exact ZI
 ·cases h; exact ZJ
 ·cases h; exact ZK
 ·cases h; exact ZL
 ·cases h; exact ZM
 ·cases h; exact ZN
 ·cases h; exact ZO
 ·cases h; exact ZP
 ·cases h; exact ZQ
 ·cases h; exact ZR
 ·cases h; exact ZS
 ·cases h; exact ZT
 ·cases h; exact ZU
 ·cases h; exact ZV
 ·cases h; exact ZW
 ·cases h; exact ZX
 ·cases h; exact ZY
 ·cases h; exact ZZ
 ·cases h; exact Z0
 ·cases h; exact Z1
 ·cases h; exact Z2
 ·cases h; exact Z3
 ·cases h; exact Z4
 ·cases h; exact Z5
 ·cases h; exact Z6
 ·cases h; exact Z7
 ·cases h; exact Z8
 ·cases h; exact Z9
 ·cases h; exact aaa
 ·cases h; exact aab
 ·cases h; exact aac
 ·cases h; exact aad
 ·cases h; exact aae
 ·cases h; exact aaf
 ·cases h; exact aag
 ·cases h; exact aah
 ·cases h; exact aai
 ·cases h; exact aaj
 ·cases h; exact aak
 ·cases h; exact aal
 ·cases h; exact aam
 ·cases h; exact aan
 ·cases h; exact aao
 ·cases h; exact aap
 ·cases h; exact aaq
 ·cases h; exact aar
 ·cases h; exact aas
 ·cases h; exact aat
 ·cases h; exact aau
 ·cases h; exact aav
 ·cases h; exact aaw
 ·cases h; exact aax
 ·cases h; exact aay
 ·cases h; exact aaz
 ·cases h; exact aaA
 ·cases h; exact aaB
 ·cases h; exact aaC
 ·cases h; exact aaD
 ·cases h; exact aaE
 ·cases h; exact aaF
 ·cases h; exact aaG
 ·cases h; exact aaH
 ·cases h; exact aaI
 ·cases h; exact aaJ
 ·cases h; exact aaK
 ·cases h; exact aaL
 ·cases h; exact aaM
 ·cases h; exact aaN
 ·cases h; exact W4
 ·cases h; exact W5
 ·cases h; exact W6
 ·cases h; exact W7
 ·cases h; exact W8
 ·cases h; exact W9
 ·cases h; exact Xa
 ·cases h; exact Xb
 ·cases h; exact Xc
 ·cases h; exact Xd
 ·cases h; exact Xe
 ·cases h; exact Xf
 ·cases h; exact Xg
 ·cases h; exact Xh
 ·cases h; exact Xi
 ·cases h; exact Xj
 ·cases h; exact Xk
 ·cases h; exact Xl
 ·cases h; exact Xm
 ·cases h; exact Xn
 ·cases h; exact Xo
 ·cases h; exact Xp
 ·cases h; exact Xq
 ·cases h; exact Xr
 ·cases h; exact Xs
 ·cases h; exact Xt
 ·cases h; exact Xu
 ·cases h; exact Xv
 ·cases h; exact Xw
 ·cases h; exact Xx
 ·cases h; exact Xy
 ·cases h; exact Xz
 ·cases h; exact XA
 ·cases h; exact XB
 ·cases h; exact XC
 ·cases h; exact XD
 ·cases h; exact XE
 ·cases h; exact XF
 ·cases h; exact XG
 ·cases h; exact XH
 ·cases h; exact XI
 ·cases h; exact XJ
 ·cases h; exact XL
 ·cases h; exact XM
 ·cases h; exact XN
 ·cases h; exact XO
 ·cases h; exact XP
 ·cases h; exact XQ
 ·cases h; exact XR
 ·cases h; exact XT
 ·cases h; exact XU
 ·cases h; exact XW
 ·cases h; exact XX
 ·cases h; exact XY
 ·cases h; exact XZ
 ·cases h; exact X0
 ·cases h; exact X1
 ·cases h; exact X2
 ·cases h; exact X3
 ·cases h; exact X4
 ·cases h; exact X5
 ·cases h; exact X6
 ·cases h; exact X7
 ·cases h; exact X8
 ·cases h; exact X9
 ·cases h; exact Ya
 ·cases h; exact Yb
 ·cases h; exact Yc
 ·cases h; exact Yd
 ·cases h; exact Ye
 ·cases h; exact Yf
 ·cases h; exact Yg
 ·cases h; exact Yh
 ·cases h; exact Yi
 ·cases h; exact Yj
 ·cases h; exact Yk
 ·cases h
def En (cs:List (Nat × uy)) (fs:List (Nat × FT):=[]) (is:List (Nat × (Nat→FT→Nu→FT)):=[]) (ig:Bool:=false):Env:={ tt:=tt,eqs:=[],ig:=ig,Φ:=qC cs,Ψ:=qC fs,It:=qC is }
theorem bI {cs:List (Nat × uy)} {fs:List (Nat × FT)} {is:List (Nat × (Nat→FT→Nu→FT))} {ig:Bool} (h:uT (CJ Tryz.prog) cs) (J:uT (gi Tryz.prog) fs):EnvOk Tryz.prog (En cs fs is ig):=⟨uO,(fun _ h=>nomatch h),fun _ _=>wx h,fun _ _=>wx J⟩
theorem vE {cs:List (Nat × uy)} {fs:List (Nat × FT)} {is:List (Nat × (Nat→FT→Nu→FT))} {ig:Bool} (h:uT (zj Tryz.prog) is):gL Tryz.prog (En cs fs is ig):=fun _ _=>wx h
set_option maxRecDepth 20000
open Go Go.Ae
def E0:Env:={ tt:=tt,eqs:=[],Φ:=fun _=>none }
theorem l6:EnvOk Tryz.prog E0:=⟨uO,fun t h=>by simp [E0] at h,fun g S h=>by simp [E0] at h,fun g F h=>by simp [E0] at h⟩
theorem mixed:Tryz.prog.follows .mixedOrders=true:=by kernel_rfl
theorem aM:nF Tryz.prog cL:=UJ mixed
theorem VG:bf Tryz.prog 197 uo:=by
 refine bk l6 aM Tryz.func197 (enters_of Tryz.func197 (by kernel_rfl) rfl) (fun _=>rfl) (fun _=>rfl) ?_
 intro ⟨x,y,c⟩ hp;have hp:x < 4294967296∧y < 4294967296∧c≤1:=hp;simp only [uo];conv=>whnf
 simp (disch:=omega) only [bL,wA,cf]
 congr
 omega
theorem MP:bf Tryz.prog 167 lM:=by
 refine bk l6 aM Tryz.func167 (enters_of Tryz.func167 (by kernel_rfl) rfl) (fun _=>rfl) (fun _=>rfl) ?_
 intro ⟨x,y,c⟩ hp;have hp:x < 4294967296∧y < 4294967296∧c≤1:=hp;simp only [lM];conv=>whnf
 show Value.tuple ⟨[.int .u32 (Ca x y c),.int .u32 (GF x y c)]⟩=_
 rw [Lz hp.1 hp.2.1 hp.2.2,TC hp.1 hp.2.1 hp.2.2]
 split <;> rfl
theorem VH:bf Tryz.prog 195 Cb:=by
 refine bk l6 aM Tryz.func195 (enters_of Tryz.func195 (by kernel_rfl) rfl) (fun _=>rfl) (fun _=>rfl) ?_
 intro ⟨x,y,c⟩ hp;have hp:x < c∧y < 4294967296∧c < 4294967296:=hp;simp only [Cb];conv=>whnf
 have h1:((c:Int) != 0)=true:=by simp; omega
 have J:decide ((c:Int)≤(x:Int))=false:=by simp; omega
 simp only [h1];conv=>whnf
 simp only [J];conv=>whnf
 refine .inl ⟨11,[[],[],[1],[0,1,2],[0,1,2,3],[],[],[6],[5,6,7],[5,6,7,8],[0,1,2,3,4],[0,1,2,3,4,5,6,7,8,9,10]],by kernel_rfl,?_⟩
 conv=>whnf
 try simp (disch:=omega) only [ar,bL,c8,dA,cf,dO,dm,dQ,c0,db,dk,dy,dn,dG,toNat_cast,ax,Nat.zero_add,dN,toNat_0,toNat_1,Nat.sub_zero,dS,dT,dW,dX,dI,dR,dP,dU]
 refine m8 (decide_eq_true (by omega)) ?_
 conv=>whnf
 refine m8 (decide_eq_true (by rw [bL (by omega) (by omega)]; omega)) ?_
 conv=>whnf
 try simp (disch:=omega) only [ar,bL,c8,dA,cf,dO,dm,dQ,c0,db,dk,dy,dn,dG,toNat_cast,ax,Nat.zero_add,dN,toNat_0,toNat_1,Nat.sub_zero,dS,dT,dW,dX,dI,dR,dP,dU]
 have e1:((x:Int)*4294967296+y).tdiv c=((x*4294967296+y) / c:Nat):=rfl;have e2:((x:Int)*4294967296+y).tmod c=((x*4294967296+y) % c:Nat):=rfl;have e3:(x*4294967296+y) / c < 4294967296:=by
  refine (Nat.div_lt_iff_lt_mul (by omega)).2 ?_
  have:(x+1)*4294967296≤c*4294967296:=Nat.mul_le_mul_right _ hp.1;omega
 have e4:(x*4294967296+y) % c < c:=Nat.mod_lt _ (by omega)
 generalize (x*4294967296+y) / c=q at *;generalize (x*4294967296+y) % c=r at *;rw [e1,e2,bL (by omega) (by omega),c8 (by omega) (by omega),c8 (by omega) (by omega)]
theorem VI:bf Tryz.prog 196 GH:=by
 refine bk l6 aM Tryz.func196 (enters_of Tryz.func196 (by kernel_rfl) rfl) (fun _=>rfl) (fun _=>rfl) ?_
 intro (x:Nat) (hx:x < 4294967296);simp only [GH];have fin:∀ (y k:Nat),y < 256→∀ (T:ByteArray),(∀ x,x < 256→bX T x=eY x)→k≤24→IntKind.i64.wrap ((k:Int)+IntKind.i64.wrap (bX T (IntKind.u8.wrap (y:Int)).toNat:Int))=((k+eY y:Nat):Int):=by
  intro y k hy T hT hk;have hb:=Wf hy;rw [dA (by omega) (by omega),toNat_cast,hT y hy]
  simp (disch:=omega) only [ar];omega
 conv=>whnf
 refine aI (fun h=>?_) (fun h=>?_)
 ·have h:65536≤x:=by simp at h; omega
  conv=>whnf
  have e1:(x:Int).fdiv (2 ^ min (Int.toNat 16) IntKind.u32.bits)=((x / 65536:Nat):Int):=by rw [dk]; rfl
  simp only [e1];refine aI (fun J=>?_) (fun J=>?_)
  ·have J:256≤x / 65536:=by simp at J; omega
   conv=>whnf
   have e2:((x / 65536:Nat):Int).fdiv (2 ^ min (Int.toNat 8) IntKind.u32.bits)=((x / 65536 / 256:Nat):Int):=by rw [db]; rfl
   simp only [e2];refine ⟨⟨?_,?_⟩,?_⟩
   ·rw [lI]; omega
   ·show _ < ((256:Nat):Int)
    rw [lI]; omega
   ·conv=>whnf
    have e3:IntKind.i64.wrap (16+8)=((24:Nat):Int):=rfl;rw [e3];refine congrArg (Value.int .i64) ((fin (x / 65536 / 256) 24 (by omega) _ (by decide +kernel) (by omega)).trans ?_)
    have a1:=A1 (x:=x) (k:=16) (by omega)
    have a2:=A1 (x:=x / 65536) (k:=8) (by omega)
    have q1:(2:Nat) ^ 16=65536:=rfl;have q2:(2:Nat) ^ 8=256:=rfl;rw [q1] at a1;rw [q2] at a2;rw [a1,a2]; omega
  ·have J:x / 65536 < 256:=by simp at J; omega
   conv=>whnf
   refine ⟨⟨?_,?_⟩,?_⟩
   ·rw [lI]; omega
   ·show _ < ((256:Nat):Int)
    rw [lI]; omega
   ·conv=>whnf
    refine congrArg (Value.int .i64) ((fin (x / 65536) 16 (by omega) _ (by decide +kernel) (by omega)).trans ?_)
    have a1:=A1 (x:=x) (k:=16) (by omega)
    have q1:(2:Nat) ^ 16=65536:=rfl;rw [q1] at a1;rw [a1]
 ·have h:x < 65536:=by simp at h; omega
  conv=>whnf
  refine aI (fun J=>?_) (fun J=>?_)
  ·have J:256≤x:=by simp at J; omega
   conv=>whnf
   have e2:(x:Int).fdiv (2 ^ min (Int.toNat 8) IntKind.u32.bits)=((x / 256:Nat):Int):=by rw [db]; rfl
   simp only [e2];refine ⟨⟨?_,?_⟩,?_⟩
   ·rw [lI]; omega
   ·show _ < ((256:Nat):Int)
    rw [lI]; omega
   ·conv=>whnf
    have e3:IntKind.i64.wrap (0+8)=((8:Nat):Int):=rfl;rw [e3];refine congrArg (Value.int .i64) ((fin (x / 256) 8 (by omega) _ (by decide +kernel) (by omega)).trans ?_)
    have a1:=A1 (x:=x) (k:=8) (by omega)
    have q1:(2:Nat) ^ 8=256:=rfl;rw [q1] at a1;rw [a1]
  ·have J:x < 256:=by simp at J; omega
   conv=>whnf
   refine ⟨⟨?_,?_⟩,?_⟩
   ·rw [lI]; omega
   ·show _ < ((256:Nat):Int)
    rw [lI]; omega
   ·conv=>whnf
    refine congrArg (Value.int .i64) ((fin x 0 (by omega) _ (by decide +kernel) (by omega)).trans ?_)
    rw [Nat.zero_add]
def E1:Env:={ tt:=tt,eqs:=[],Φ:=fun g=>match g with | 196=>some (.p GH) | _=>none }
theorem adv:EnvOk Tryz.prog E1:=⟨uO,fun t h=>by simp [E1] at h,(fun g S h=>by
 simp only [E1] at h
 split at h
 ·cases h; exact VI
 ·cases h),fun g F h=>by simp [E1] at h⟩
theorem Yl:bf Tryz.prog 184 Cv:=by
 refine bk adv aM Tryz.func184 (enters_of Tryz.func184 (by kernel_rfl) rfl) (fun _=>rfl) (fun _=>rfl) ?_
 intro (x:Nat) (hx:x < 4294967296);simp only [Cv];conv=>whnf
 refine ⟨x,rfl,hx,?_⟩;conv=>whnf
 have hb:=Mj hx;rw [ar (by omega) (by omega)]
 congr 1; omega
open Go Go.Ae
theorem FQ:bf Tryz.prog 165 kX:=by
 refine bk l6 aM Tryz.func165 (enters_of Tryz.func165 (by kernel_rfl) rfl) (fun _=>rfl) (fun _=>rfl) ?_
 intro (s:ByteArray) (hs:s.size≤1099511627776);simp only [kX];conv=>whnf
 refine .inl ⟨fun mm tz hz=>∃ (u:ByteArray),bA (some (.string u)::aB 12 []) tz∧hz=[]∧u.size=mm∧(ab u=ab s∧u.size≤s.size),.inl ⟨_,s,(.aa (.sk 12 .nil rfl)),rfl,rfl,?_⟩,?_⟩
 ·exact ⟨rfl,Nat.le_refl _⟩
 rintro mm aS _ ⟨u,au,rfl,rfl,⟨hu,hle⟩⟩
 obtain ⟨az,rfl⟩:∃ az:Nat→Value,aS=.string u::zs az 1 12 []:=bJ au;clear au;conv=>whnf
 refine aI (fun h1=>?_) (fun h1=>?_)
 ·simp only [h1];conv=>whnf
  rw [qk] at h1;have h1:u.size≠0:=fun h=>by simp [E2.2 h] at h1
  refine ⟨⟨by omega,by omega⟩,?_⟩
  conv=>whnf
  refine aI (fun J=>?_) (fun J=>?_)
  ·conv=>whnf
   refine ⟨⟨by omega,by omega,by omega⟩,?_⟩
   conv=>whnf
   have e1:u.extract (Int.toNat 1) (Int.toNat u.size)=u.extract 1 u.size:=rfl;have J:bX u 0=0:=by
    have J:((bX u 0:Nat):Int)=0:=by simpa using J
    omega
   have h3:=tM (s:=u) (i:=0) (by omega)
   have h4:=gu u;have aU:(u.extract 1 u.size).size=u.size - 1:=DV (by omega) (Nat.le_refl _)
   have hb:ab (u.extract 1 u.size)=ab u:=by
    rw [DZ (by omega) (Nat.le_refl _),Nat.sub_self,Nat.pow_zero,Nat.div_one]
    refine Nat.mod_eq_of_lt ?_;rw [J,Nat.sub_zero] at h3;have h5:ab u / C ^ (u.size - 1) < C:=(Nat.div_lt_iff_lt_mul (gQ _)).2 (by
     rw [Nat.mul_comm,← Nat.pow_succ,show (u.size - 1).succ=u.size by omega]; exact h4)
    rw [Nat.mod_eq_of_lt h5] at h3;rcases Nat.lt_or_ge (ab u) (C ^ (u.size - 1)) with h6 | h6
    ·exact h6
    ·have:=Nat.div_pos h6 (gQ _);omega
   refine .inl ⟨_,?_,u.extract 1 u.size,(.aa (.sk 12 .nil rfl)),rfl,rfl,?_⟩
   ·rw [aU]; omega
   ·exact ⟨by rw [hb,hu],by rw [aU]; omega⟩
  ·conv=>whnf
   have J:bX u 0≠0:=by
    intro h;have e:bX u (Int.toNat 0)=bX u 0:=rfl;rw [e,h] at J;simp at J
   rw [← hu,← yI (.inr J)]
 ·simp only [h1];conv=>whnf
  rw [qk] at h1;have h1:u=⟨#[]⟩:=by simpa using h1
  have J:u.size=0:=E2.1 h1;rw [← hu,← yI (.inl J)]
def Ea:Env:={ tt:=tt,eqs:=[],Φ:=fun g=>match g with
 | 165=>some (.p kX)
 | _=>none }
theorem C6:EnvOk Tryz.prog Ea:=⟨uO,fun t h=>by simp [Ea] at h,(fun g S h=>by
 simp only [Ea] at h
 split at h
 ·cases h; exact FQ
 ·cases h),fun g F h=>by simp [Ea] at h⟩
theorem BS:dc Tryz.prog 161 sD:=by
 refine eg C6 aM Tryz.func161 (enters_of Tryz.func161 (by kernel_rfl) rfl) ?_ ?_ ?_
 ·intro i b hb;cases i with
  | none=>simp [sD,LV.aj] at hb
  | some i=>simp [sD,LV.aj] at hb; rw [hb]; rfl
 ·intro i b hb; simp [sD] at hb
 intro i hp;cases i with
 | none =>
  conv=>whnf
  refine .inr ⟨1,?_⟩;conv=>whnf
  exact ⟨_,rfl,.refl _⟩
 | some i =>
  obtain ⟨n,N,c⟩:=i;have hp:N < 4294967296 ^ n∧n≤274877906944:=hp;conv=>whnf
  refine .inl ⟨fun mm tz hz=>∃ (m:Nat),bA (some (.slice (some ⟨0,0,none⟩) m c)::aB 20 []) tz∧hz=[some (.flat false n 1 (bo N))]∧m=mm∧(N < 4294967296 ^ m∧m≤n),.inl ⟨_,n,(.aa (.sk 20 .nil rfl)),rfl,rfl,?_⟩,?_⟩
  ·exact ⟨hp.1,Nat.le_refl _⟩
  rintro mm aS _ ⟨m,au,rfl,rfl,h⟩
  obtain ⟨az,rfl⟩:∃ az:Nat→Value,aS=.slice (some ⟨0,0,none⟩) m c::zs az 1 20 []:=bJ au;clear au;conv=>whnf
  refine aI (fun h1=>?_) (fun h1=>?_)
  ·simp only [h1];have h1:0 < m:=by simpa using h1
   conv=>whnf
   try simp (disch:=omega) only [ar,bL,c8,dA,cf,dO,dm,dQ,c0,db,dk,dy,dn,dG,toNat_cast,ax,Nat.zero_add,dN,toNat_0,toNat_1,Nat.sub_zero,dS,dT,dW,dX,dI,dR,dP,dU]
   refine ⟨⟨by omega,by omega⟩,?_⟩
   try simp (disch:=omega) only [ar,bL,c8,dA,cf,dO,dm,dQ,c0,db,dk,dy,dn,dG,toNat_cast,ax,Nat.zero_add,dN,toNat_0,toNat_1,Nat.sub_zero,dS,dT,dW,dX,dI,dR,dP,dU]
   conv=>whnf
   refine ⟨by omega,?_⟩
   conv=>whnf
   refine aI (fun J=>?_) (fun J=>?_)
   ·have J:al N (m - 1)=0:=by
     have J:((al N (m - 1):Nat):Int)=0:=by simpa using J
     omega
    conv=>whnf
    try simp (disch:=omega) only [ar,bL,c8,dA,cf,dO,dm,dQ,c0,db,dk,dy,dn,dG,toNat_cast,ax,Nat.zero_add,dN,toNat_0,toNat_1,Nat.sub_zero,dS,dT,dW,dX,dI,dR,dP,dU]
    refine ⟨⟨by omega,by omega,by omega⟩,?_⟩
    try simp (disch:=omega) only [ar,bL,c8,dA,cf,dO,dm,dQ,c0,db,dk,dy,dn,dG,toNat_cast,ax,Nat.zero_add,dN,toNat_0,toNat_1,Nat.sub_zero,dS,dT,dW,dX,dI,dR,dP,dU]
    conv=>whnf
    refine .inl ⟨_,?_,m - 1,(.aa (.sk 20 .nil rfl)),rfl,rfl,?_⟩
    ·omega
    ·refine ⟨?_,by omega⟩
     have h3:=mod_succ N (m - 1);have h4:=Nat.mod_lt N (dV (m - 1));rw [show m - 1+1=m by omega,J,Nat.mod_eq_of_lt h.1] at h3
     have h5:N % B ^ (m - 1) < 4294967296 ^ (m - 1):=h4;omega
   ·have J:al N (m - 1)≠0:=by
     intro h;rw [h] at J;simp at J
    conv=>whnf
    have e:=Oq (N:=N) (n:=m) h.1 (.inr J);refine ⟨_,rfl,?_⟩;rw [e];exact .refl _
  ·simp only [h1];have h1:m=0:=by simpa using h1
   conv=>whnf
   have e:=Oq (N:=N) (n:=m) h.1 (.inl h1);refine ⟨_,rfl,?_⟩;rw [e];exact .refl _
theorem BT:dc Tryz.prog 135 uH:=by
 refine eg C6 aM Tryz.func135 (enters_of Tryz.func135 (by kernel_rfl) rfl) ?_ ?_ ?_
 ·intro i b hb; simp [uH] at hb
 ·intro i b hb; simp [uH] at hb; rw [← hb]; rfl
 intro (s:ByteArray) (hs:s.size≤1099511627776);conv=>whnf
 refine ⟨s,rfl,hs,?_⟩;conv=>whnf
 have aU:=jg s;have cD:=NM (ab s);generalize hN:ab s=N at *;have e1:IntKind.i64.wrap ((IntKind.i64.wrap (IntKind.i64.wrap (((nb N).size:Int)+4) - 1)).tdiv 4)=((nl N:Nat):Int):=by
  rw [gE];simp (disch:=omega) only [ar];have:((aQ N:Int)+4 - 1)=((aQ N+3:Nat):Int):=by omega
  rw [this,dI,ar (by omega) (by omega),cD]
 simp only [e1];refine ⟨⟨by omega,by omega,by show _*((4:Nat):Int)≤_; omega⟩,?_⟩
 try simp (disch:=omega) only [ar,bL,c8,dA,cf,dO,dm,dQ,c0,db,dk,dy,dn,dG,toNat_cast,ax,Nat.zero_add,dN,toNat_0,toNat_1,Nat.sub_zero,dS,dT,dW,dX,dI,dR,dP,dU]
 conv=>whnf
 simp only [tD];refine .inl ⟨fun mm tz hz=>∃ (i:Nat) (Y:Nat),bA (some (.string (nb N))::aB 2 (some (.slice (some ⟨0,0,none⟩) (nl N) (nl N))::aB 11 (some (.int .i64 (nb N).size)::some (.int .i64 i)::aB 24 []))) tz∧hz=[some (.flat true (nl N) 1 (bo Y))]∧aQ N - i=mm∧(i≤aQ N∧Y=N % C ^ i),.inl ⟨_,0,0,(.aa (.sk 2 (.aa (.sk 11 (.aa (.aa (.sk 24 .nil rfl))) rfl)) rfl)),rfl,rfl,?_⟩,?_⟩
 ·exact ⟨Nat.zero_le _,by simp [Nat.mod_one]⟩
 rintro mm aS _ ⟨i,Y,au,rfl,rfl,⟨h,hY⟩⟩
 obtain ⟨az,rfl⟩:∃ az:Nat→Value,aS=.string (nb N)::zs az 1 2 (.slice (some ⟨0,0,none⟩) (nl N) (nl N)::zs az 4 11 (.int .i64 (nb N).size::.int .i64 i::zs az 17 24 [])):=bJ au;clear au;have CU:=gE N;conv=>whnf
 refine aI (fun h1=>?_) (fun h1=>?_)
 ·have h1:i < aQ N:=by rw [CU] at h1; simpa using h1
  conv=>whnf
  have Ak:=wj (nb N) ((nb N).size - 1 - i);have di:bX (nb N) ((nb N).size - 1 - i)=N / C ^ i % C:=by
   rw [tM (by omega),ia]; congr 3; omega
  obtain ⟨ao,ak⟩:=TD N i;rw [← hY,← di] at ao;rw [← hY] at ak;have hd:=Sg _ _ _ ak Ak (Nat.mod_lt _ (by omega))
  have bQ:al Y (i / 4)+bX (nb N) ((nb N).size - 1 - i)*256 ^ (i % 4) < B:=by
   have J:(bX (nb N) ((nb N).size - 1 - i)+1)*256 ^ (i % 4)≤256*256 ^ (i % 4):=Nat.mul_le_mul_right _ Ak;have h3:256*256 ^ (i % 4)≤B:=by
    have:(256:Nat) ^ (i % 4)≤256 ^ 3:=Nat.pow_le_pow_right (by decide) (by omega)
    have e:(256:Nat) ^ 3=16777216:=rfl;have e2:B=4294967296:=rfl;omega
   rw [Nat.add_mul] at J;omega
  refine .inl ⟨13,[[],[],[1],[0,1,2],[0,1,2,3],[],[],[5,6],[5,6,7],[],[9],[9,10],[5,6,7,8,9,10,11],[0,1,2,3,4,5,6,7,8,9,10,11,12],[0,1,2,3,4,5,6,7,8,9,10,11,12,13],[0,1,2,3,4,5,6,7,8,9,10,11,12,13,14]],by kernel_rfl,?_⟩
  conv=>whnf
  try simp (disch:=omega) only [ar,bL,c8,dA,cf,dO,dm,dQ,c0,db,dk,dy,dn,dG,toNat_cast,ax,Nat.zero_add,dN,toNat_0,toNat_1,Nat.sub_zero,dS,dT,dW,dX,dI,dR,dP,dU]
  refine ⟨⟨by omega,by omega⟩,?_⟩
  conv=>whnf
  refine ⟨by show i / 4 < nl N; omega,?_⟩
  conv=>whnf
  refine ⟨⟨by omega,by omega⟩,?_⟩
  conv=>whnf
  have adZ:bX (nb N) ((nb N).size - 1 - i) < 256:=Ak
  try simp (disch:=omega) only [ar,bL,c8,dA,cf,dO,dm,dQ,c0,db,dk,dy,dn,dG,toNat_cast,ax,Nat.zero_add,dN,toNat_0,toNat_1,Nat.sub_zero,dS,dT,dW,dX,dI,dR,dP,dU]
  simp only [Int.natCast_nonneg,decide_true];conv=>whnf
  simp only [hd];refine ⟨⟨by omega,by omega⟩,?_⟩
  conv=>whnf
  refine ⟨by show i / 4 < nl N; omega,?_⟩
  conv=>whnf
  try simp (disch:=omega) only [ar,bL,c8,dA,cf,dO,dm,dQ,c0,db,dk,dy,dn,dG,toNat_cast,ax,Nat.zero_add,dN,toNat_0,toNat_1,Nat.sub_zero,dS,dT,dW,dX,dI,dR,dP,dU]
  rw [fy bQ,ao];refine .inr ⟨[0],[0,3,15,16],?_⟩;conv=>whnf
  intro _;conv=>whnf
  refine ⟨_,?_,i+1,N % C ^ (i+1),(.aa (.sk 2 (.aa (.sk 11 (.aa (.aa (.sk 24 .nil rfl))) rfl)) rfl)),rfl,rfl,?_⟩
  ·omega
  ·exact ⟨by omega,rfl⟩
 ·have h1:i=aQ N:=by
   have h1:¬ i < aQ N:=by rw [CU] at h1; simpa using h1
   omega
  subst h1;have hYN:Y=ab s:=by rw [hY,hN,Nat.mod_eq_of_lt (lL N)]
  conv=>whnf
  refine ⟨0,?_⟩;conv=>whnf
  rw [hYN,hN];refine ⟨⟨rfl,aO.aW (fun h=>by cases h) (fun r hr=>rfl)⟩,_,rfl,?_⟩
  rw [hN];exact .cap _ _ _ rfl
open Go Go.Ae
theorem VJ:dc Tryz.prog 162 yJ:=by
 refine eg C6 aM Tryz.func162 (enters_of Tryz.func162 (by kernel_rfl) rfl) ?_ ?_ ?_
 ·intro i b hb;cases i with
  | none=>simp [yJ,LV.aj] at hb
  | some i=>simp [yJ,LV.aj] at hb; rw [hb]; rfl
 ·intro i b hb; simp [yJ] at hb
 intro i hp;cases i with
 | none =>
  conv=>whnf
  refine .inr ⟨1,?_⟩;conv=>whnf
  refine ⟨⟨#[]⟩,rfl,Nat.zero_le _,?_⟩;conv=>whnf
  exact ⟨_,rfl,.refl _⟩
 | some i =>
  obtain ⟨n,N,c⟩:=i;have hp:N < 4294967296 ^ n∧n≤274877906944:=hp;conv=>whnf
  refine .inl ⟨fun mm tz hz=>∃ (i:Nat) (out:Value) (hp:aw),bA (some (.slice (some ⟨0,0,none⟩) n c)::aB 2 (some (out)::some (.int .i64 (IntKind.i64.wrap ((i:Int) - 1)))::aB 36 [])) tz∧hz=hp∧i=mm∧(i≤n∧((out=.slice none 0 0∧hp=[some (.flat false n 1 (bo N))]∧i=n)∨(∃ m g,out=.slice (some ⟨1,0,none⟩) m aK∧hp=[some (.flat false n 1 (bo N)),some (.flat true m 1 g)]∧m=4*(n - i)∧∀ r,r < m→g r=[.int .u8 ((N / B ^ i / C ^ (m - 1 - r) % C:Nat):Int)]))),.inl ⟨_,n,.slice none 0 0,[some (.flat false n 1 (bo N))],(.aa (.sk 2 (.aa (.aa (.sk 36 .nil rfl))) rfl)),rfl,rfl,?_⟩,?_⟩
  ·exact ⟨Nat.le_refl _,.inl ⟨rfl,rfl,rfl⟩⟩
  rintro mm aS _ ⟨i,out,hp,au,rfl,rfl,⟨hi,h⟩⟩
  obtain ⟨az,rfl⟩:∃ az:Nat→Value,aS=.slice (some ⟨0,0,none⟩) n c::zs az 1 2 (out::.int .i64 (IntKind.i64.wrap ((i:Int) - 1))::zs az 5 36 []):=bJ au;clear au;rcases h with ⟨rfl,rfl,rfl⟩ | ⟨m,g,rfl,rfl,rfl,hg⟩
  ·-- nothing written yet
   conv=>whnf
   refine aI (fun h1=>?_) (fun h1=>?_)
   ·have h1:0 < i:=by
     rcases Nat.eq_zero_or_pos i with h | h
     ·subst h; revert h1; decide
     ·exact h
    have hl:=cH N (i - 1);have hl:al N (i - 1) < 4294967296:=hl;have ei:IntKind.i64.wrap ((i:Int) - 1)=((i - 1:Nat):Int):=by rw [ar (by omega) (by omega)]; omega
    simp only [ei];conv=>whnf
    refine .inl ⟨25,[[],[],[],[1,2],[1,2,3],[1,2,3,4],[1,2,3,4,5],[],[],[7,8],[7,8,9],[7,8,9,10],[7,8,9,10,11],[],[],[13,14],[13,14,15],[13,14,15,16],[13,14,15,16,17],[],[],[19,20],[19,20,21],[19,20,21,22],[1,2,3,4,5,6,7,8,9,10,11,12,13,14,15,16,17,18,19,20,21,22,23],[0,1,2,3,4,5,6,7,8,9,10,11,12,13,14,15,16,17,18,19,20,21,22,23,24],[0,1,2,3,4,5,6,7,8,9,10,11,12,13,14,15,16,17,18,19,20,21,22,23,24,25]],by kernel_rfl,?_⟩
    conv=>whnf
    refine ⟨⟨by omega,by omega⟩,?_⟩
    simp only [toNat_cast,ax,Nat.zero_add];conv=>whnf
    refine ⟨by omega,?_⟩
    conv=>whnf
    refine ⟨⟨by omega,by omega⟩,?_⟩
    simp only [toNat_cast,ax,Nat.zero_add];conv=>whnf
    refine ⟨by omega,?_⟩
    conv=>whnf
    refine ⟨⟨by omega,by omega⟩,?_⟩
    simp only [toNat_cast,ax,Nat.zero_add];conv=>whnf
    refine ⟨by omega,?_⟩
    conv=>whnf
    refine ⟨⟨by omega,by omega⟩,?_⟩
    simp only [toNat_cast,ax,Nat.zero_add];conv=>whnf
    refine ⟨by omega,?_⟩
    conv=>whnf
    simp only [dy,dk,db,Ot,Ou,O9,Pa];refine ⟨by decide,?_⟩
    conv=>whnf
    refine .inr ⟨[0,26],[0,3,4],?_⟩;conv=>whnf
    intro _;conv=>whnf
    refine ⟨_,?_,i - 1,.slice (some ⟨1,0,none⟩) 4 aK,[some (.flat false i 1 (bo N)),some (.flat true 4 1 _)],(.aa (.sk 2 (.aa (.aa (.sk 36 .nil rfl))) rfl)),rfl,rfl,?_⟩
    ·omega
    ·refine ⟨by omega,.inr ⟨4,_,rfl,rfl,by omega,fun r hr=>?_⟩⟩
     have:=KR (N:=N) (i:=i) (m:=0) (g:=fun _=>[]) h1 (fun r hr=>absurd hr (by omega)) rfl rfl rfl rfl r (by omega)
     rw [gr (by omega),Nat.sub_zero] at this
     rw [this]
   ·have h1:i=0:=by
     rcases Nat.eq_zero_or_pos i with h | h
     ·exact h
     ·rw [ar (by omega) (by omega)] at h1
      simp at h1; omega
    subst h1;have hN:N=0:=by simpa using hp.1
    subst hN;conv=>whnf
    refine ⟨⟨#[]⟩,rfl,Nat.zero_le _,?_⟩;conv=>whnf
    exact ⟨_,rfl,.refl _⟩
  ·-- behind the first limb
   conv=>whnf
   refine aI (fun h1=>?_) (fun h1=>?_)
   ·have h1:0 < i:=by
     rcases Nat.eq_zero_or_pos i with h | h
     ·subst h; revert h1; decide
     ·exact h
    have hl:=cH N (i - 1);have hl:al N (i - 1) < 4294967296:=hl;have ei:IntKind.i64.wrap ((i:Int) - 1)=((i - 1:Nat):Int):=by rw [ar (by omega) (by omega)]; omega
    simp only [ei];conv=>whnf
    refine .inl ⟨25,[[],[],[],[1,2],[1,2,3],[1,2,3,4],[1,2,3,4,5],[],[],[7,8],[7,8,9],[7,8,9,10],[7,8,9,10,11],[],[],[13,14],[13,14,15],[13,14,15,16],[13,14,15,16,17],[],[],[19,20],[19,20,21],[19,20,21,22],[1,2,3,4,5,6,7,8,9,10,11,12,13,14,15,16,17,18,19,20,21,22,23],[0,1,2,3,4,5,6,7,8,9,10,11,12,13,14,15,16,17,18,19,20,21,22,23,24],[0,1,2,3,4,5,6,7,8,9,10,11,12,13,14,15,16,17,18,19,20,21,22,23,24,25]],by kernel_rfl,?_⟩
    conv=>whnf
    refine ⟨⟨by omega,by omega⟩,?_⟩
    simp only [toNat_cast,ax,Nat.zero_add];conv=>whnf
    refine ⟨by omega,?_⟩
    conv=>whnf
    refine ⟨⟨by omega,by omega⟩,?_⟩
    simp only [toNat_cast,ax,Nat.zero_add];conv=>whnf
    refine ⟨by omega,?_⟩
    conv=>whnf
    refine ⟨⟨by omega,by omega⟩,?_⟩
    simp only [toNat_cast,ax,Nat.zero_add];conv=>whnf
    refine ⟨by omega,?_⟩
    conv=>whnf
    refine ⟨⟨by omega,by omega⟩,?_⟩
    simp only [toNat_cast,ax,Nat.zero_add];conv=>whnf
    refine ⟨by omega,?_⟩
    conv=>whnf
    simp only [dy,dk,db,Ot,Ou,O9,Pa];refine ⟨⟨by decide,rfl,?_⟩,?_⟩
    ·show (4*(n - i)+4)*1≤_
     omega
    conv=>whnf
    refine ⟨[0,4],?_⟩;conv=>whnf
    intro _;conv=>whnf
    refine .inr ⟨[0,1],[0,3,4],?_⟩;conv=>whnf
    intro _;conv=>whnf
    refine ⟨_,?_,i - 1,.slice (some ⟨1,0,none⟩) (4*(n - i)+4) aK,[some (.flat false n 1 (bo N)),some (.flat true (4*(n - i)+4) 1 _)],(.aa (.sk 2 (.aa (.aa (.sk 36 .nil rfl))) rfl)),rfl,rfl,?_⟩
    ·omega
    ·exact ⟨by omega,.inr ⟨4*(n - i)+4,_,rfl,rfl,by omega,KR h1 hg rfl rfl rfl rfl⟩⟩
   ·have h1:i=0:=by
     rcases Nat.eq_zero_or_pos i with h | h
     ·exact h
     ·rw [ar (by omega) (by omega)] at h1
      simp at h1; omega
    subst h1;rw [Nat.pow_zero,Nat.div_one] at hg;rw [Nat.sub_zero] at hg;have ak:N < C ^ (4*n):=by rw [← CX]; exact hp.1
    by_cases hn:n=0
    ·subst hn;have hN:N=0:=by simpa using hp.1
     subst hN;conv=>whnf
     refine ⟨⟨#[]⟩,rfl,Nat.zero_le _,?_⟩;conv=>whnf
     exact ⟨_,rfl,.refl _⟩
    ·obtain ⟨m,hm⟩:∃ m,4*n=m+1:=⟨4*n - 1,by omega⟩
     rw [hm] at hg ak;rw [Nat.sub_zero,hm];have hs:=v8 hg;conv=>whnf
     refine ⟨⟨by show 0+(m+1)≤m+1; omega,fun r hr=>⟨_,by show g (0+r)=_; rw [Nat.zero_add]; exact hg r hr⟩⟩,?_⟩
     rw [show (ah.flat true (m+1) 1 g).row=g from rfl,hs]
     conv=>whnf
     refine ⟨be (m+1) N,rfl,?_,?_⟩
     ·show (be (m+1) N).size≤_
      rw [wL]; omega
     conv=>whnf
     rw [F6,Nat.mod_eq_of_lt ak];exact ⟨_,rfl,.refl _⟩
def Eb:Env:={ tt:=tt,eqs:=[],Φ:=fun g=>match g with
 | 165=>some (.p kX)
 | 161=>some (.q sD)
 | 162=>some (.q yJ)
 | 135=>some (.q uH)
 | _=>none }
theorem Pn:EnvOk Tryz.prog Eb:=⟨uO,fun t h=>by simp [Eb] at h,(fun g S h=>by
 simp only [Eb] at h
 split at h
 ·cases h; exact FQ
 ·cases h; exact BS
 ·cases h; exact VJ
 ·cases h; exact BT
 ·cases h),fun g F h=>by simp [Eb] at h⟩
theorem Gp:dc Tryz.prog 131 uI:=by
 refine eg Pn aM Tryz.func131 (enters_of Tryz.func131 (by kernel_rfl) rfl) ?_ ?_ ?_
 ·intro i b hb;obtain ⟨neg,i⟩:=i;cases i with
  | none=>simp [uI,LV.aj] at hb
  | some i=>simp [uI,LV.aj] at hb; rw [hb]; rfl
 ·intro i b hb; simp [uI] at hb
 intro ⟨neg,i⟩ hp;have fin:∀ N:Nat,(!(nb N).toList == (⟨#[]⟩:ByteArray).toList)=(N != 0):=by
  intro N;rw [qk];by_cases h:N=0
  ·subst h; simp [oS]
  ·simp [h,J2]
 cases i with
 | none =>
  cases neg
  all_goals
   conv=>whnf
   refine ⟨none,[],rfl,trivial,?_⟩;conv=>whnf
   refine ⟨_,rfl,?_⟩;conv=>whnf
   refine ⟨none,[],rfl,trivial,?_⟩;conv=>whnf
   refine ⟨_,rfl,?_⟩;conv=>whnf
   simp only [LV.num,fin];exact ⟨_,rfl,.refl _⟩
 | some i =>
  obtain ⟨n,N,c⟩:=i;have hp:N < 4294967296 ^ n∧n≤274877906944:=hp;have cD:=jT hp.1;cases neg
  all_goals
   conv=>whnf
   refine ⟨some (n,N,c),[0],rfl,hp,?_⟩;conv=>whnf
   refine ⟨aO.aW (fun h=>h) (fun r hr=>rfl),?_⟩
   conv=>whnf
   refine ⟨_,rfl,?_⟩;conv=>whnf
   refine ⟨some (nl N,N,c),[0],rfl,⟨bV N,by omega⟩,?_⟩
   conv=>whnf
   refine ⟨?_,?_⟩
   ·exact ⟨(fun h=>by cases h),rfl,cD,fun _ _=>rfl,fun r hr v hv=>dz (l:=bo N r) rfl v hv⟩
   conv=>whnf
   refine ⟨_,rfl,?_⟩;conv=>whnf
   simp only [LV.num,fin];exact ⟨_,rfl,.refl _⟩
open Go Go.Ae
theorem EH:dc Tryz.prog 136 wC:=by
 refine eg Pn aM Tryz.func136 (enters_of Tryz.func136 (by kernel_rfl) rfl) ?_ ?_ ?_
 ·intro i b hb; simp [wC,kC] at hb; rcases hb with rfl | rfl <;> rfl
 ·intro i b hb; simp [wC] at hb
 intro ⟨A,ca,D,cd⟩ hp;have hp:nl A≤137438953472∧nl D≤137438953472:=hp;conv=>whnf
 refine aI (fun h=>?_) (fun h=>?_)
 ·have h:nl A≠nl D:=by
   intro e;have e':((nl A:Nat):Int)=((nl D:Nat):Int):=by rw [e]
   simp [e'] at h
  conv=>whnf
  refine aI (fun J=>?_) (fun J=>?_)
  ·have J:nl A < nl D:=by simpa using J
   conv=>whnf
   have:=Kk J;refine ⟨_,rfl,?_⟩;simp only [cM,if_pos this];exact .refl _
  ·have J:nl D < nl A:=by
    have J:¬ nl A < nl D:=by simpa using J
    omega
   conv=>whnf
   have:=Kk J;refine ⟨_,rfl,?_⟩;simp only [cM,if_neg (show ¬ A < D by omega),if_pos this]
   exact .refl _
 ·have h:nl D=nl A:=by
   by_cases e:nl A=nl D
   ·exact e.symm
   ·have e':((nl A:Nat):Int)≠((nl D:Nat):Int):=by omega
    simp [e'] at h
  conv=>whnf
  refine .inl ⟨fun mm tz hz=>∃ (i:Nat),bA (some (.slice (some ⟨0,0,none⟩) (nl A) ca)::some (.slice (some ⟨1,0,none⟩) (nl D) cd)::aB 3 (some (.int .i64 (IntKind.i64.wrap ((i:Int) - 1)))::aB 37 [])) tz∧hz=[some (.flat false (nl A) 1 (bo A)),some (.flat false (nl D) 1 (bo D))]∧i=mm∧(i≤nl A∧A / B ^ i=D / B ^ i),.inl ⟨_,nl A,(.aa (.aa (.sk 3 (.aa (.sk 37 .nil rfl)) rfl))),rfl,rfl,?_⟩,?_⟩
  ·refine ⟨Nat.le_refl _,?_⟩;have h1:=bV A;have J:=bV D;rw [h] at J;rw [Nat.div_eq_of_lt h1,Nat.div_eq_of_lt J]
  rintro mm aS _ ⟨i,au,rfl,rfl,⟨hi,he⟩⟩
  obtain ⟨az,rfl⟩:∃ az:Nat→Value,aS=.slice (some ⟨0,0,none⟩) (nl A) ca::.slice (some ⟨1,0,none⟩) (nl D) cd::zs az 2 3 (.int .i64 (IntKind.i64.wrap ((i:Int) - 1))::zs az 6 37 []):=bJ au;clear au;conv=>whnf
  refine aI (fun h1=>?_) (fun h1=>?_)
  ·have h1:0 < i:=by
    rcases Nat.eq_zero_or_pos i with h | h
    ·subst h; revert h1; decide
    ·exact h
   have ei:IntKind.i64.wrap ((i:Int) - 1)=((i - 1:Nat):Int):=by rw [ar (by omega) (by omega)]; omega
   have hA:=pZ A (i - 1);have hD:=pZ D (i - 1);rw [show i - 1+1=i by omega] at hA hD
   rw [← he] at hD;simp only [ei];conv=>whnf
   refine .inl ⟨8,[[],[],[0,1],[0,1,2],[],[],[4,5],[4,5,6],[0,1,2,3,4,5,6,7],[0,1,2,3,4,5,6,7,8]],by kernel_rfl,?_⟩
   conv=>whnf
   refine ⟨⟨by omega,by omega⟩,?_⟩
   try simp (disch:=omega) only [ar,bL,c8,dA,cf,dO,dm,dQ,c0,db,dk,dy,dn,dG,toNat_cast,ax,Nat.zero_add,dN,toNat_0,toNat_1,Nat.sub_zero,dS,dT,dW,dX,dI,dR,dP,dU]
   conv=>whnf
   refine ⟨by show i - 1 < nl A; omega,?_⟩
   conv=>whnf
   refine ⟨⟨by omega,by omega⟩,?_⟩
   try simp (disch:=omega) only [ar,bL,c8,dA,cf,dO,dm,dQ,c0,db,dk,dy,dn,dG,toNat_cast,ax,Nat.zero_add,dN,toNat_0,toNat_1,Nat.sub_zero,dS,dT,dW,dX,dI,dR,dP,dU]
   conv=>whnf
   refine ⟨by show i - 1 < nl D; omega,?_⟩
   conv=>whnf
   refine aI (fun J=>?_) (fun J=>?_)
   ·have J:al A (i - 1) < al D (i - 1):=by simpa using J
    conv=>whnf
    have ak:A < D:=by
     rcases Nat.lt_or_ge A D with h | h
     ·exact h
     ·have:=Nat.div_le_div_right (c:=B ^ (i - 1)) h;omega
    refine ⟨_,rfl,?_⟩;simp only [cM,if_pos ak];exact .refl _
   ·have J:al D (i - 1)≤al A (i - 1):=by simpa using J
    conv=>whnf
    refine .inl ⟨8,[[],[],[0,1],[0,1,2],[],[],[4,5],[4,5,6],[0,1,2,3,4,5,6,7],[0,1,2,3,4,5,6,7,8]],by kernel_rfl,?_⟩
    conv=>whnf
    refine ⟨⟨by omega,by omega⟩,?_⟩
    try simp (disch:=omega) only [ar,bL,c8,dA,cf,dO,dm,dQ,c0,db,dk,dy,dn,dG,toNat_cast,ax,Nat.zero_add,dN,toNat_0,toNat_1,Nat.sub_zero,dS,dT,dW,dX,dI,dR,dP,dU]
    conv=>whnf
    refine ⟨by show i - 1 < nl A; omega,?_⟩
    conv=>whnf
    refine ⟨⟨by omega,by omega⟩,?_⟩
    try simp (disch:=omega) only [ar,bL,c8,dA,cf,dO,dm,dQ,c0,db,dk,dy,dn,dG,toNat_cast,ax,Nat.zero_add,dN,toNat_0,toNat_1,Nat.sub_zero,dS,dT,dW,dX,dI,dR,dP,dU]
    conv=>whnf
    refine ⟨by show i - 1 < nl D; omega,?_⟩
    conv=>whnf
    refine aI (fun h3=>?_) (fun h3=>?_)
    ·have h3:al D (i - 1) < al A (i - 1):=by simpa using h3
     conv=>whnf
     have ak:D < A:=by
      rcases Nat.lt_or_ge D A with h | h
      ·exact h
      ·have:=Nat.div_le_div_right (c:=B ^ (i - 1)) h;omega
     refine ⟨_,rfl,?_⟩;simp only [cM,if_neg (show ¬ A < D by omega),if_pos ak]
     exact .refl _
    ·have h3:al A (i - 1)≤al D (i - 1):=by simpa using h3
     conv=>whnf
     refine .inr ⟨[0,1],[0,1,5],?_⟩;conv=>whnf
     intro _;conv=>whnf
     refine ⟨_,?_,i - 1,(.aa (.aa (.sk 3 (.aa (.sk 37 .nil rfl)) rfl))),rfl,rfl,?_⟩
     ·omega
     ·refine ⟨by omega,?_⟩
      rw [hA,hD,show al A (i - 1)=al D (i - 1) by omega]
  ·have h1:i=0:=by
    rcases Nat.eq_zero_or_pos i with h | h
    ·exact h
    ·rw [ar (by omega) (by omega)] at h1
     simp at h1; omega
   subst h1;rw [Nat.pow_zero,Nat.div_one,Nat.div_one] at he;conv=>whnf
   refine ⟨_,rfl,?_⟩;simp only [cM,he,Nat.lt_irrefl,if_false];exact .refl _
def Ec:Env:={ tt:=tt,eqs:=[],Φ:=fun g=>match g with
 | 165=>some (.p kX)
 | 161=>some (.q sD)
 | 167=>some (.p lM)
 | _=>none }
theorem HW:EnvOk Tryz.prog Ec:=⟨uO,fun t h=>by simp [Ec] at h,(fun g S h=>by
 simp only [Ec] at h
 split at h
 ·cases h; exact FQ
 ·cases h; exact BS
 ·cases h; exact MP
 ·cases h),fun g F h=>by simp [Ec] at h⟩
theorem VK:dc Tryz.prog 143 Cc:=by
 refine eg HW aM Tryz.func143 (enters_of Tryz.func143 (by kernel_rfl) rfl) ?_ ?_ ?_
 ·intro i b hb; simp [Cc,kC] at hb; rcases hb with rfl | rfl <;> rfl
 ·intro i b hb; simp [Cc] at hb; rw [← hb]; rfl
 intro ⟨A,ca,D,cd⟩ hp;have hp:(nl A≤137438953472∧nl D≤137438953472)∧D≤A:=hp;have cD:=lJ hp.2;conv=>whnf
 refine ⟨⟨by omega,by omega,by show ((nl A:Nat):Int)*((4:Nat):Int)≤_; omega⟩,?_⟩
 simp only [toNat_cast,tD];conv=>whnf
 refine .inl ⟨fun mm tz hz=>∃ (i:Nat) (Y:Nat) (b:Nat),bA (some (.slice (some ⟨0,0,none⟩) (nl A) ca)::some (.slice (some ⟨1,0,none⟩) (nl D) cd)::aB 3 (some (.slice (some ⟨2,0,none⟩) (nl A) (nl A))::some (.int .u32 b)::aB 6 (some (.slice (some ⟨0,0,none⟩) (nl A) ca)::some (.int .i64 (nl A))::some (.int .i64 i)::aB 25 []))) tz∧hz=[some (.flat false (nl A) 1 (bo A)),some (.flat false (nl D) 1 (bo D)),some (.flat true (nl A) 1 (bo Y))]∧nl A - i=mm∧(i≤nl A∧b≤1∧Y < B ^ i∧A % B ^ i+b*B ^ i=Y+D % B ^ i),.inl ⟨_,0,0,0,(.aa (.aa (.sk 3 (.aa (.aa (.sk 6 (.aa (.aa (.aa (.sk 25 .nil rfl)))) rfl))) rfl))),rfl,rfl,?_⟩,?_⟩
 ·simp [Nat.mod_one]
 rintro mm aS _ ⟨i,Y,b,au,rfl,rfl,⟨hi,hb,hY,he⟩⟩
 obtain ⟨az,rfl⟩:∃ az:Nat→Value,aS=.slice (some ⟨0,0,none⟩) (nl A) ca::.slice (some ⟨1,0,none⟩) (nl D) cd::zs az 2 3 (.slice (some ⟨2,0,none⟩) (nl A) (nl A)::.int .u32 b::zs az 7 6 (.slice (some ⟨0,0,none⟩) (nl A) ca::.int .i64 (nl A)::.int .i64 i::zs az 16 25 [])):=bJ au;clear au;conv=>whnf
 refine aI (fun h1=>?_) (fun h1=>?_)
 ·have h1:i < nl A:=by simpa using h1
  conv=>whnf
  refine ⟨⟨by omega,by omega⟩,?_⟩
  try simp (disch:=omega) only [ar,bL,c8,dA,cf,dO,dm,dQ,c0,db,dk,dy,dn,dG,toNat_cast,ax,Nat.zero_add,dN,toNat_0,toNat_1,Nat.sub_zero,dS,dT,dW,dX,dI,dR,dP,dU]
  conv=>whnf
  refine ⟨by show i < nl A; omega,?_⟩
  conv=>whnf
  have tj:=cH A i;have DD:=cH D i;have c6:∃ d,d=(al A i+2*4294967296 - al D i - b) % 4294967296:=⟨_,rfl⟩;obtain ⟨d,hd⟩:=c6;have dE:d < B:=by rw [hd]; exact Nat.mod_lt _ (by decide)
  have ao:=Sh (b':=if al A i < al D i+b then 1 else 0) hY he (by
   have e:B=4294967296:=rfl
   split <;> omega) dE
  refine aI (fun J=>?_) (fun J=>?_)
  ·have J:i < nl D:=by simpa using J
   conv=>whnf
   refine ⟨⟨by omega,by omega⟩,?_⟩
   try simp (disch:=omega) only [ar,bL,c8,dA,cf,dO,dm,dQ,c0,db,dk,dy,dn,dG,toNat_cast,ax,Nat.zero_add,dN,toNat_0,toNat_1,Nat.sub_zero,dS,dT,dW,dX,dI,dR,dP,dU]
   conv=>whnf
   refine ⟨by show i < nl D; omega,?_⟩
   conv=>whnf
   refine ⟨(al A i,al D i,b),rfl,⟨tj,DD,hb⟩,?_⟩;simp only [lM,← hd];conv=>whnf
   refine ⟨⟨by omega,by omega⟩,?_⟩
   try simp (disch:=omega) only [ar,bL,c8,dA,cf,dO,dm,dQ,c0,db,dk,dy,dn,dG,toNat_cast,ax,Nat.zero_add,dN,toNat_0,toNat_1,Nat.sub_zero,dS,dT,dW,dX,dI,dR,dP,dU]
   conv=>whnf
   refine ⟨by show i < nl A; omega,?_⟩
   conv=>whnf
   try simp (disch:=omega) only [ar,bL,c8,dA,cf,dO,dm,dQ,c0,db,dk,dy,dn,dG,toNat_cast,ax,Nat.zero_add,dN,toNat_0,toNat_1,Nat.sub_zero,dS,dT,dW,dX,dI,dR,dP,dU]
   rw [fy dE];refine .inl ⟨_,?_,i+1,cF Y i d,if al A i < al D i+b then 1 else 0,(.aa (.aa (.sk 3 (.aa (.aa (.sk 6 (.aa (.aa (.aa (.sk 25 .nil rfl)))) rfl))) rfl))),rfl,rfl,?_⟩
   ·omega
   ·exact ⟨by omega,by split <;> omega,ao.1,ao.2⟩
  ·have J:nl D≤i:=by
    have J:¬ i < nl D:=by simpa using J
    omega
   have h0:=tT (bV D) J;rw [h0] at hd ao;rw [Nat.zero_add] at ao;conv=>whnf
   refine ⟨(al A i,0,b),rfl,⟨tj,(by show 0 < 4294967296; decide),hb⟩,?_⟩
   simp only [lM,← hd];conv=>whnf
   refine ⟨⟨by omega,by omega⟩,?_⟩
   try simp (disch:=omega) only [ar,bL,c8,dA,cf,dO,dm,dQ,c0,db,dk,dy,dn,dG,toNat_cast,ax,Nat.zero_add,dN,toNat_0,toNat_1,Nat.sub_zero,dS,dT,dW,dX,dI,dR,dP,dU]
   conv=>whnf
   refine ⟨by show i < nl A; omega,?_⟩
   conv=>whnf
   try simp (disch:=omega) only [ar,bL,c8,dA,cf,dO,dm,dQ,c0,db,dk,dy,dn,dG,toNat_cast,ax,Nat.zero_add,dN,toNat_0,toNat_1,Nat.sub_zero,dS,dT,dW,dX,dI,dR,dP,dU]
   rw [fy dE];refine .inl ⟨_,?_,i+1,cF Y i d,if al A i < b then 1 else 0,(.aa (.aa (.sk 3 (.aa (.aa (.sk 6 (.aa (.aa (.aa (.sk 25 .nil rfl)))) rfl))) rfl))),rfl,rfl,?_⟩
   ·omega
   ·exact ⟨by omega,by split <;> omega,ao.1,ao.2⟩
 ·have h1:i=nl A:=by
   have h1:¬ i < nl A:=by simpa using h1
   omega
  subst h1;have DE:Y=A - D∧b=0:=by
   rw [Nat.mod_eq_of_lt (bV A),Nat.mod_eq_of_lt (Nat.lt_of_le_of_lt hp.2 (bV A))] at he;rcases Nat.eq_zero_or_pos b with h | h
   ·subst h; omega
   ·have:b=1:=by omega
    subst this;omega
  conv=>whnf
  refine ⟨some (nl A,Y,nl A),[2],rfl,⟨hY,by omega⟩,?_⟩
  conv=>whnf
  refine ⟨aO.aW (fun h=>by cases h) (fun r hr=>rfl),?_⟩
  conv=>whnf
  refine ⟨_,rfl,?_⟩;conv=>whnf
  refine ⟨2,?_⟩;conv=>whnf
  rw [DE.1];have hle:=lJ (show A - D≤A by omega)
  refine ⟨⟨rfl,⟨(fun h=>by cases h),rfl,hle,fun _ _=>rfl,fun r hr v hv=>dz (l:=bo (A - D) r) rfl v hv⟩⟩,_,rfl,?_⟩
  exact .cap _ _ _ rfl
open Go Go.Ae
theorem VL:dc Tryz.prog 139 Cd:=by
 refine eg HW aM Tryz.func139 (enters_of Tryz.func139 (by kernel_rfl) rfl) ?_ ?_ ?_
 ·intro i b hb; simp [Cd,kC] at hb; rcases hb with rfl | rfl <;> rfl
 ·intro i b hb; simp [Cd] at hb; rw [← hb]; rfl
 intro ⟨A,ca,D,cd⟩ hp;have hp:nl A≤137438953472∧nl D≤137438953472:=hp;conv=>whnf
 have e1:IntKind.i64.wrap (((nl A:Nat):Int)+((nl D:Nat):Int))=((nl A+nl D:Nat):Int):=by rw [ar (by omega) (by omega)]; omega
 simp only [e1];refine ⟨⟨by omega,by omega,by show ((nl A+nl D:Nat):Int)*((4:Nat):Int)≤_; omega⟩,?_⟩
 simp only [toNat_cast,tD];conv=>whnf
 refine .inl ⟨fun mm tz hz=>∃ (i:Nat) (Y:Nat),bA (some (.slice (some ⟨0,0,none⟩) (nl A) ca)::some (.slice (some ⟨1,0,none⟩) (nl D) cd)::aB 3 (some (.slice (some ⟨2,0,none⟩) (nl A+nl D) (nl A+nl D))::aB 11 (some (.slice (some ⟨0,0,none⟩) (nl A) ca)::some (.int .i64 (nl A))::some (.int .i64 i)::aB 47 []))) tz∧hz=[some (.flat false (nl A) 1 (bo A)),some (.flat false (nl D) 1 (bo D)),some (.flat true (nl A+nl D) 1 (bo Y))]∧nl A - i=mm∧(i≤nl A∧Y=A % B ^ i*D),.inl ⟨_,0,0,(.aa (.aa (.sk 3 (.aa (.sk 11 (.aa (.aa (.aa (.sk 47 .nil rfl)))) rfl)) rfl))),rfl,rfl,?_⟩,?_⟩
 ·exact ⟨Nat.zero_le _,by simp [Nat.mod_one]⟩
 rintro mm aS _ ⟨i,Y,au,rfl,rfl,⟨hi,hY⟩⟩
 obtain ⟨az,rfl⟩:∃ az:Nat→Value,aS=.slice (some ⟨0,0,none⟩) (nl A) ca::.slice (some ⟨1,0,none⟩) (nl D) cd::zs az 2 3 (.slice (some ⟨2,0,none⟩) (nl A+nl D) (nl A+nl D)::zs az 6 11 (.slice (some ⟨0,0,none⟩) (nl A) ca::.int .i64 (nl A)::.int .i64 i::zs az 20 47 [])):=bJ au;clear au;conv=>whnf
 refine aI (fun h1=>?_) (fun h1=>?_)
 ·have h1:i < nl A:=by simpa using h1
  have adw:Y < B ^ (i+nl D):=by
   rw [hY,Nat.pow_add];exact Nat.mul_lt_mul_of_lt_of_le (Nat.mod_lt _ (dV i)) (Nat.le_of_lt (bV D)) (dV _)
  conv=>whnf
  refine ⟨⟨by omega,by omega⟩,?_⟩
  try simp (disch:=omega) only [ar,bL,c8,dA,cf,dO,dm,dQ,c0,db,dk,dy,dn,dG,toNat_cast,ax,Nat.zero_add,dN,toNat_0,toNat_1,Nat.sub_zero,dS,dT,dW,dX,dI,dR,dP,dU]
  conv=>whnf
  refine ⟨by show i < nl A; omega,?_⟩
  conv=>whnf
  refine .inl ⟨fun mm tz hz=>∃ (k:Nat) (Z:Nat) (c:Nat),bA (some (.slice (some ⟨0,0,none⟩) (nl A) ca)::some (.slice (some ⟨1,0,none⟩) (nl D) cd)::aB 3 (some (.slice (some ⟨2,0,none⟩) (nl A+nl D) (nl A+nl D))::some (.int .i64 i)::some (.int .u32 (al A i))::some (.int .u64 c)::aB 8 (some (.slice (some ⟨0,0,none⟩) (nl A) ca)::some (.int .i64 (nl A))::some (.int .i64 i)::aB 4 (some (.slice (some ⟨1,0,none⟩) (nl D) cd)::some (.int .i64 (nl D))::some (.int .i64 k)::aB 40 [])))) tz∧hz=[some (.flat false (nl A) 1 (bo A)),some (.flat false (nl D) 1 (bo D)),some (.flat true (nl A+nl D) 1 (bo Z))]∧nl D - k=mm∧(k≤nl D∧c < B∧Z < B ^ (i+nl D)∧Z+c*B ^ (i+k)=Y+al A i*(D % B ^ k)*B ^ i),.inl ⟨_,0,Y,0,(.aa (.aa (.sk 3 (.aa (.aa (.aa (.aa (.sk 8 (.aa (.aa (.aa (.sk 4 (.aa (.aa (.aa (.sk 40 .nil rfl)))) rfl)))) rfl))))) rfl))),rfl,rfl,?_⟩,?_⟩
  ·exact ⟨Nat.zero_le _,by decide,adw,by simp [Nat.mod_one]⟩
  rintro mm aS _ ⟨k,Z,c,au,rfl,rfl,⟨hk,hc,hZ,he⟩⟩
  obtain ⟨az,rfl⟩:∃ az:Nat→Value,aS=.slice (some ⟨0,0,none⟩) (nl A) ca::.slice (some ⟨1,0,none⟩) (nl D) cd::zs az 2 3 (.slice (some ⟨2,0,none⟩) (nl A+nl D) (nl A+nl D)::.int .i64 i::.int .u32 (al A i)::.int .u64 c::zs az 9 8 (.slice (some ⟨0,0,none⟩) (nl A) ca::.int .i64 (nl A)::.int .i64 i::zs az 20 4 (.slice (some ⟨1,0,none⟩) (nl D) cd::.int .i64 (nl D)::.int .i64 k::zs az 27 40 []))):=bJ au;clear au;have tj:=cH A i;have DD:=cH D k;have Qh:=cH Z (i+k);conv=>whnf
  refine aI (fun J=>?_) (fun J=>?_)
  ·have J:k < nl D:=by simpa using J
   obtain ⟨t,ht⟩:∃ t,t=c+(al A i*al D k+al Z (i+k)):=⟨_,rfl⟩;have ao:=Si he ht;have adx:=Km hc tj DD Qh ht;conv=>whnf
   refine ⟨⟨by omega,by omega⟩,?_⟩
   try simp (disch:=omega) only [ar,bL,c8,dA,cf,dO,dm,dQ,c0,db,dk,dy,dn,dG,toNat_cast,ax,Nat.zero_add,dN,toNat_0,toNat_1,Nat.sub_zero,dS,dT,dW,dX,dI,dR,dP,dU]
   conv=>whnf
   refine ⟨by show k < nl D; omega,?_⟩
   conv=>whnf
   have e2:IntKind.i64.wrap (((i:Nat):Int)+((k:Nat):Int))=((i+k:Nat):Int):=by rw [ar (by omega) (by omega)]; omega
   have hv:=TF hc tj DD Qh ht;have g7:=Nat.mod_lt t (show 0 < B by decide)
   simp only [e2,toNat_cast,ax,Nat.zero_add];refine ⟨⟨by omega,by omega⟩,?_⟩
   conv=>whnf
   refine ⟨by show i+k < nl A+nl D; omega,?_⟩
   conv=>whnf
   simp only [hv,e2,eh];refine ⟨⟨by omega,by omega⟩,?_⟩
   simp only [toNat_cast,ax,Nat.zero_add];conv=>whnf
   refine ⟨by show i+k < nl A+nl D; omega,?_⟩
   conv=>whnf
   simp only [cf,jU];rw [fy g7];have e3:IntKind.i64.wrap (((k:Nat):Int)+1)=((k+1:Nat):Int):=by rw [ar (by omega) (by omega)]; rfl
   simp only [e3];refine .inl ⟨_,?_,k+1,cF Z (i+k) (t % B),t / B,(.aa (.aa (.sk 3 (.aa (.aa (.aa (.aa (.sk 8 (.aa (.aa (.aa (.sk 4 (.aa (.aa (.aa (.sk 40 .nil rfl)))) rfl)))) rfl))))) rfl))),rfl,rfl,?_⟩
   ·omega
   ·exact ⟨by omega,adx.1,mo hZ (by omega) g7,ao⟩
  ·have J:k=nl D:=by
    have J:¬ k < nl D:=by simpa using J
    omega
   subst J;have aX:=TE hY (bV D) hZ he;have e2:IntKind.i64.wrap (((i:Nat):Int)+((nl D:Nat):Int))=((i+nl D:Nat):Int):=by rw [ar (by omega) (by omega)]; omega
   conv=>whnf
   simp only [e2,eh,Nat.mod_eq_of_lt hc];refine ⟨⟨by omega,by omega⟩,?_⟩
   simp only [toNat_cast,ax,Nat.zero_add];conv=>whnf
   refine ⟨by show i+nl D < nl A+nl D; omega,?_⟩
   conv=>whnf
   rw [fy hc]
   try simp (disch:=omega) only [ar,bL,c8,dA,cf,dO,dm,dQ,c0,db,dk,dy,dn,dG,toNat_cast,ax,Nat.zero_add,dN,toNat_0,toNat_1,Nat.sub_zero,dS,dT,dW,dX,dI,dR,dP,dU]
   skip
   refine .inl ⟨_,?_,i+1,cF Z (i+nl D) c,(.aa (.aa (.sk 3 (.aa (.sk 11 (.aa (.aa (.aa (.sk 47 .nil rfl)))) rfl)) rfl))),rfl,rfl,?_⟩
   ·omega
   ·exact ⟨by omega,aX⟩
 ·have h1:i=nl A:=by
   have h1:¬ i < nl A:=by simpa using h1
   omega
  subst h1;rw [Nat.mod_eq_of_lt (bV A)] at hY;have ak:Y < B ^ (nl A+nl D):=by
   rw [hY,Nat.pow_add];exact Nat.mul_lt_mul_of_lt_of_le (bV A) (Nat.le_of_lt (bV D)) (dV _)
  conv=>whnf
  refine ⟨some (nl A+nl D,Y,nl A+nl D),[2],rfl,⟨ak,by omega⟩,?_⟩
  conv=>whnf
  refine ⟨aO.aW (fun h=>by cases h) (fun r hr=>rfl),?_⟩
  conv=>whnf
  refine ⟨_,rfl,?_⟩;conv=>whnf
  refine ⟨2,?_⟩;conv=>whnf
  have hle:=jT ak;subst hY;refine ⟨⟨rfl,⟨(fun h=>by cases h),rfl,hle,fun _ _=>rfl,fun r hr v hv=>dz (l:=bo (A*D) r) rfl v hv⟩⟩,_,rfl,?_⟩
  exact .cap _ _ _ rfl
open Go Go.Ae
theorem Ym:dc Tryz.prog 142 Cw:=by
 refine eg HW aM Tryz.func142 (enters_of Tryz.func142 (by kernel_rfl) rfl) ?_ ?_ ?_
 ·intro i b hb; simp [Cw,kC] at hb; rcases hb with rfl | rfl <;> rfl
 ·intro i b hb; simp [Cw] at hb; rw [← hb]; rfl
 intro ⟨A,ca,D,cd⟩ hp;have hp:nl A≤137438953472∧nl D≤137438953472:=hp;conv=>whnf
 refine aI (fun h0=>?_) (fun h0=>?_)
 ·have h0:(nl A < nl D):=by simpa using h0
  have kc:nl A≤nl D:=by omega
  have eS:A+D=(D+A):=by omega
  conv=>whnf
  have e1:IntKind.i64.wrap (((nl D:Nat):Int)+1)=((nl D+1:Nat):Int):=by rw [ar (by omega) (by omega)]; rfl
  simp only [e1];have fM:decide (nl D+1=aK)=false:=decide_eq_false (by unfold aK; omega)
  refine ⟨⟨by omega,by omega,by show ((nl D+1:Nat):Int)*((4:Nat):Int)≤_; omega⟩,?_⟩
  simp only [toNat_cast,toNat_0];conv=>whnf
  refine .inl ⟨fun mm tz hz=>∃ (i:Nat) (Z:Nat) (c:Nat) (g:Nat→List Value),bA (some (.slice (some ⟨1,0,none⟩) (nl D) cd)::some (.slice (some ⟨0,0,none⟩) (nl A) ca)::aB 3 (some (.slice (some ⟨2,0,none⟩) i (nl D+1))::some (.int .u64 c)::aB 13 (some (.slice (some ⟨1,0,none⟩) (nl D) cd)::some (.int .i64 (nl D))::some (.int .i64 i)::aB 33 []))) tz∧hz=[some (.flat false (nl A) 1 (bo A)),some (.flat false (nl D) 1 (bo D)),some (.flat true i 1 g)]∧nl D - i=mm∧(i≤nl D∧c≤1∧Z < B ^ i∧Z+c*B ^ i=D % B ^ i+A % B ^ i∧∀ r,r < i→g r=bo Z r),.inl ⟨_,0,0,0,_,(.aa (.aa (.sk 3 (.aa (.aa (.sk 13 (.aa (.aa (.aa (.sk 33 .nil rfl)))) rfl))) rfl))),rfl,rfl,?_⟩,?_⟩
  ·exact ⟨Nat.zero_le _,by decide,by simp,by simp [Nat.mod_one],fun r hr=>absurd hr (by omega)⟩
  rintro mm aS _ ⟨i,Z,c,g,au,rfl,rfl,⟨hi,hc,hZ,he,hg⟩⟩
  obtain ⟨az,rfl⟩:∃ az:Nat→Value,aS=.slice (some ⟨1,0,none⟩) (nl D) cd::.slice (some ⟨0,0,none⟩) (nl A) ca::zs az 2 3 (.slice (some ⟨2,0,none⟩) i (nl D+1)::.int .u64 c::zs az 7 13 (.slice (some ⟨1,0,none⟩) (nl D) cd::.int .i64 (nl D)::.int .i64 i::zs az 23 33 [])):=bJ au;clear au;conv=>whnf
  refine aI (fun h1=>?_) (fun h1=>?_)
  ·have h1:i < nl D:=by simpa using h1
   conv=>whnf
   refine ⟨⟨by omega,by omega⟩,?_⟩
   try simp (disch:=omega) only [ar,bL,c8,dA,cf,dO,dm,dQ,c0,db,dk,dy,dn,dG,toNat_cast,ax,Nat.zero_add,dN,toNat_0,toNat_1,Nat.sub_zero,dS,dT,dW,dX,dI,dR,dP,dU]
   conv=>whnf
   refine ⟨by show i < nl D; omega,?_⟩
   conv=>whnf
   have hlX:al D i < 4294967296:=cH D i;have hlY:al A i < 4294967296:=cH A i;obtain ⟨t,ht⟩:∃ t,t=c+al D i+al A i:=⟨_,rfl⟩;have ao:=LA he ht;have g7:t % B < B:=Nat.mod_lt t (show 0 < B by decide)
   have fI:t / B≤1:=by
    have e:B=4294967296:=rfl;rw [e]; omega
   have Ja:=Bp (a:=c) (b:=al D i) (by omega) (by omega)
   have Al:=Bp (a:=c+al D i) (b:=al A i) (by omega) (by omega)
   rw [← ht] at Al;have e3:IntKind.i64.wrap (((i:Nat):Int)+1)=((i+1:Nat):Int):=by rw [ar (by omega) (by omega)]; rfl
   have aX:=BL hZ g7 hg;simp only [Ja];refine aI (fun J=>?_) (fun J=>?_)
   ·have J:i < nl A:=by simpa using J
    conv=>whnf
    refine ⟨⟨by omega,by omega⟩,?_⟩
    try simp (disch:=omega) only [ar,bL,c8,dA,cf,dO,dm,dQ,c0,db,dk,dy,dn,dG,toNat_cast,ax,Nat.zero_add,dN,toNat_0,toNat_1,Nat.sub_zero,dS,dT,dW,dX,dI,dR,dP,dU]
    conv=>whnf
    refine ⟨by show i < nl A; omega,?_⟩
    conv=>whnf
    simp only [Al,eh];rw [fM];conv=>whnf
    refine m8 ?_ ?_
    ·rw [Nat.ble_eq]; show i+1≤nl D+1; omega
    refine ⟨by show 0+i=i; omega,?_⟩
    conv=>whnf
    simp only [cf,jU,e3];refine .inr ⟨[0,1,2],[0,1,5,6,20,21,22],?_⟩;conv=>whnf
    intro _;conv=>whnf
    refine ⟨_,?_,i+1,Z+t % B*B ^ i,t / B,_,(.aa (.aa (.sk 3 (.aa (.aa (.sk 13 (.aa (.aa (.aa (.sk 33 .nil rfl)))) rfl))) rfl))),rfl,rfl,?_⟩
    ·omega
    ·exact ⟨by omega,fI,v9 hZ g7,ao,aX⟩
   ·have J:nl A≤i:=by
     have J:¬ i < nl A:=by simpa using J
     omega
    have h0:=tT (bV A) J;have e4:c+al D i=t:=by omega
    conv=>whnf
    simp only [e4,eh];rw [fM];conv=>whnf
    refine m8 ?_ ?_
    ·rw [Nat.ble_eq]; show i+1≤nl D+1; omega
    refine ⟨by show 0+i=i; omega,?_⟩
    conv=>whnf
    simp only [cf,jU,e3];refine .inr ⟨[0,1,2],[0,1,5,6,20,21,22],?_⟩;conv=>whnf
    intro _;conv=>whnf
    refine ⟨_,?_,i+1,Z+t % B*B ^ i,t / B,_,(.aa (.aa (.sk 3 (.aa (.aa (.sk 13 (.aa (.aa (.aa (.sk 33 .nil rfl)))) rfl))) rfl))),rfl,rfl,?_⟩
    ·omega
    ·exact ⟨by omega,fI,v9 hZ g7,ao,aX⟩
  ·have h1:i=nl D:=by
    have h1:¬ i < nl D:=by simpa using h1
    omega
   subst h1;rw [Nat.mod_eq_of_lt (bV D),Nat.mod_eq_of_lt (Nat.lt_of_lt_of_le (bV A) (Nat.pow_le_pow_right (by decide) kc))] at he
   have vF:c < B:=by have e:B=4294967296:=rfl; omega
   have aX:=BL hZ vF hg;have ak:=v9 hZ vF;rw [he] at ak aX;conv=>whnf
   simp only [eh,Nat.mod_eq_of_lt vF];rw [fM];conv=>whnf
   refine m8 ?_ ?_
   ·rw [Nat.ble_eq]; show nl D+1≤nl D+1; omega
   refine ⟨by show 0+nl D=nl D; omega,?_⟩
   conv=>whnf
   refine ⟨some (nl D+1,D+A,nl D+1),[2],rfl,⟨ak,by omega⟩,?_⟩
   conv=>whnf
   refine ⟨⟨(fun h=>by cases h),rfl,Nat.le_refl _,fun r hr=>(aX r hr).symm,fun r hr v hv=>dz (l:=bo (D+A) r) rfl v hv⟩,?_⟩
   conv=>whnf
   refine ⟨_,rfl,?_⟩;conv=>whnf
   refine ⟨2,?_⟩;conv=>whnf
   have hle:=jT ak;show (_∧aO (dK (A+D)) _)∧∃ v',cQ _ 3 (lu 2 (A+D))=some v'∧_
   rw [eS];refine ⟨⟨rfl,⟨(fun h=>by cases h),rfl,hle,fun r hr=>(aX r (Nat.lt_of_lt_of_le hr hle)).symm,fun r hr v hv=>dz (l:=bo (D+A) r) rfl v hv⟩⟩,_,rfl,?_⟩
   exact .cap _ _ _ rfl
 ·have h0:(¬ nl A < nl D):=by simpa using h0
  have kc:nl D≤nl A:=by omega
  have eS:A+D=(A+D):=by omega
  conv=>whnf
  have e1:IntKind.i64.wrap (((nl A:Nat):Int)+1)=((nl A+1:Nat):Int):=by rw [ar (by omega) (by omega)]; rfl
  simp only [e1];have fM:decide (nl A+1=aK)=false:=decide_eq_false (by unfold aK; omega)
  refine ⟨⟨by omega,by omega,by show ((nl A+1:Nat):Int)*((4:Nat):Int)≤_; omega⟩,?_⟩
  simp only [toNat_cast,toNat_0];conv=>whnf
  refine .inl ⟨fun mm tz hz=>∃ (i:Nat) (Z:Nat) (c:Nat) (g:Nat→List Value),bA (some (.slice (some ⟨0,0,none⟩) (nl A) ca)::some (.slice (some ⟨1,0,none⟩) (nl D) cd)::aB 3 (some (.slice (some ⟨2,0,none⟩) i (nl A+1))::some (.int .u64 c)::aB 13 (some (.slice (some ⟨0,0,none⟩) (nl A) ca)::some (.int .i64 (nl A))::some (.int .i64 i)::aB 33 []))) tz∧hz=[some (.flat false (nl A) 1 (bo A)),some (.flat false (nl D) 1 (bo D)),some (.flat true i 1 g)]∧nl A - i=mm∧(i≤nl A∧c≤1∧Z < B ^ i∧Z+c*B ^ i=A % B ^ i+D % B ^ i∧∀ r,r < i→g r=bo Z r),.inl ⟨_,0,0,0,_,(.aa (.aa (.sk 3 (.aa (.aa (.sk 13 (.aa (.aa (.aa (.sk 33 .nil rfl)))) rfl))) rfl))),rfl,rfl,?_⟩,?_⟩
  ·exact ⟨Nat.zero_le _,by decide,by simp,by simp [Nat.mod_one],fun r hr=>absurd hr (by omega)⟩
  rintro mm aS _ ⟨i,Z,c,g,au,rfl,rfl,⟨hi,hc,hZ,he,hg⟩⟩
  obtain ⟨az,rfl⟩:∃ az:Nat→Value,aS=.slice (some ⟨0,0,none⟩) (nl A) ca::.slice (some ⟨1,0,none⟩) (nl D) cd::zs az 2 3 (.slice (some ⟨2,0,none⟩) i (nl A+1)::.int .u64 c::zs az 7 13 (.slice (some ⟨0,0,none⟩) (nl A) ca::.int .i64 (nl A)::.int .i64 i::zs az 23 33 [])):=bJ au;clear au;conv=>whnf
  refine aI (fun h1=>?_) (fun h1=>?_)
  ·have h1:i < nl A:=by simpa using h1
   conv=>whnf
   refine ⟨⟨by omega,by omega⟩,?_⟩
   try simp (disch:=omega) only [ar,bL,c8,dA,cf,dO,dm,dQ,c0,db,dk,dy,dn,dG,toNat_cast,ax,Nat.zero_add,dN,toNat_0,toNat_1,Nat.sub_zero,dS,dT,dW,dX,dI,dR,dP,dU]
   conv=>whnf
   refine ⟨by show i < nl A; omega,?_⟩
   conv=>whnf
   have hlX:al A i < 4294967296:=cH A i;have hlY:al D i < 4294967296:=cH D i;obtain ⟨t,ht⟩:∃ t,t=c+al A i+al D i:=⟨_,rfl⟩;have ao:=LA he ht;have g7:t % B < B:=Nat.mod_lt t (show 0 < B by decide)
   have fI:t / B≤1:=by
    have e:B=4294967296:=rfl;rw [e]; omega
   have Ja:=Bp (a:=c) (b:=al A i) (by omega) (by omega)
   have Al:=Bp (a:=c+al A i) (b:=al D i) (by omega) (by omega)
   rw [← ht] at Al;have e3:IntKind.i64.wrap (((i:Nat):Int)+1)=((i+1:Nat):Int):=by rw [ar (by omega) (by omega)]; rfl
   have aX:=BL hZ g7 hg;simp only [Ja];refine aI (fun J=>?_) (fun J=>?_)
   ·have J:i < nl D:=by simpa using J
    conv=>whnf
    refine ⟨⟨by omega,by omega⟩,?_⟩
    try simp (disch:=omega) only [ar,bL,c8,dA,cf,dO,dm,dQ,c0,db,dk,dy,dn,dG,toNat_cast,ax,Nat.zero_add,dN,toNat_0,toNat_1,Nat.sub_zero,dS,dT,dW,dX,dI,dR,dP,dU]
    conv=>whnf
    refine ⟨by show i < nl D; omega,?_⟩
    conv=>whnf
    simp only [Al,eh];rw [fM];conv=>whnf
    refine m8 ?_ ?_
    ·rw [Nat.ble_eq]; show i+1≤nl A+1; omega
    refine ⟨by show 0+i=i; omega,?_⟩
    conv=>whnf
    simp only [cf,jU,e3];refine .inr ⟨[0,1,2],[0,1,5,6,20,21,22],?_⟩;conv=>whnf
    intro _;conv=>whnf
    refine ⟨_,?_,i+1,Z+t % B*B ^ i,t / B,_,(.aa (.aa (.sk 3 (.aa (.aa (.sk 13 (.aa (.aa (.aa (.sk 33 .nil rfl)))) rfl))) rfl))),rfl,rfl,?_⟩
    ·omega
    ·exact ⟨by omega,fI,v9 hZ g7,ao,aX⟩
   ·have J:nl D≤i:=by
     have J:¬ i < nl D:=by simpa using J
     omega
    have h0:=tT (bV D) J;have e4:c+al A i=t:=by omega
    conv=>whnf
    simp only [e4,eh];rw [fM];conv=>whnf
    refine m8 ?_ ?_
    ·rw [Nat.ble_eq]; show i+1≤nl A+1; omega
    refine ⟨by show 0+i=i; omega,?_⟩
    conv=>whnf
    simp only [cf,jU,e3];refine .inr ⟨[0,1,2],[0,1,5,6,20,21,22],?_⟩;conv=>whnf
    intro _;conv=>whnf
    refine ⟨_,?_,i+1,Z+t % B*B ^ i,t / B,_,(.aa (.aa (.sk 3 (.aa (.aa (.sk 13 (.aa (.aa (.aa (.sk 33 .nil rfl)))) rfl))) rfl))),rfl,rfl,?_⟩
    ·omega
    ·exact ⟨by omega,fI,v9 hZ g7,ao,aX⟩
  ·have h1:i=nl A:=by
    have h1:¬ i < nl A:=by simpa using h1
    omega
   subst h1;rw [Nat.mod_eq_of_lt (bV A),Nat.mod_eq_of_lt (Nat.lt_of_lt_of_le (bV D) (Nat.pow_le_pow_right (by decide) kc))] at he
   have vF:c < B:=by have e:B=4294967296:=rfl; omega
   have aX:=BL hZ vF hg;have ak:=v9 hZ vF;rw [he] at ak aX;conv=>whnf
   simp only [eh,Nat.mod_eq_of_lt vF];rw [fM];conv=>whnf
   refine m8 ?_ ?_
   ·rw [Nat.ble_eq]; show nl A+1≤nl A+1; omega
   refine ⟨by show 0+nl A=nl A; omega,?_⟩
   conv=>whnf
   refine ⟨some (nl A+1,A+D,nl A+1),[2],rfl,⟨ak,by omega⟩,?_⟩
   conv=>whnf
   refine ⟨⟨(fun h=>by cases h),rfl,Nat.le_refl _,fun r hr=>(aX r hr).symm,fun r hr v hv=>dz (l:=bo (A+D) r) rfl v hv⟩,?_⟩
   conv=>whnf
   refine ⟨_,rfl,?_⟩;conv=>whnf
   refine ⟨2,?_⟩;conv=>whnf
   have hle:=jT ak;show (_∧aO (dK (A+D)) _)∧∃ v',cQ _ 3 (lu 2 (A+D))=some v'∧_
   rw [eS];refine ⟨⟨rfl,⟨(fun h=>by cases h),rfl,hle,fun r hr=>(aX r (Nat.lt_of_lt_of_le hr hle)).symm,fun r hr v hv=>dz (l:=bo (A+D) r) rfl v hv⟩⟩,_,rfl,?_⟩
   exact .cap _ _ _ rfl
open Go Go.Ae
def Ef:Env:=En [(161,.q sD),(195,.p Cb)]
theorem HX:EnvOk Tryz.prog Ef:=bI ⟨BS,VH,trivial⟩ trivial
theorem VM:dc Tryz.prog 183 Ce:=by
 refine eg HX aM Tryz.func183 (enters_of Tryz.func183 (by kernel_rfl) rfl) ?_ ?_ ?_
 ·intro i b hb; simp [Ce,dK] at hb; rcases hb with rfl | rfl <;> rfl
 ·intro i b hb; simp [Ce] at hb; rw [← hb]; rfl
 intro ⟨A,ca,d⟩ hp;have hp:nl A≤137438953472∧0 < d∧d < 4294967296:=hp;conv=>whnf
 refine ⟨⟨by omega,by omega,by show ((nl A:Nat):Int)*((4:Nat):Int)≤_; omega⟩,?_⟩
 simp only [toNat_cast,tD];conv=>whnf
 refine .inl ⟨fun mm tz hz=>∃ (i:Nat) (rem:Nat) (Y:Nat),bA (some (.slice (some ⟨0,0,none⟩) (nl A) ca)::some (.int .u32 d)::aB 4 (some (.slice (some ⟨1,0,none⟩) (nl A) (nl A))::some (.int .u32 rem)::some (.int .i64 (IntKind.i64.wrap ((i:Int) - 1)))::aB 26 [])) tz∧hz=[some (.flat false (nl A) 1 (bo A)),some (.flat true (nl A) 1 (bo Y))]∧i=mm∧(i≤nl A∧rem=A / B ^ i % d∧Y=A / B ^ i / d*B ^ i),.inl ⟨_,nl A,0,0,(.aa (.aa (.sk 4 (.aa (.aa (.aa (.sk 26 .nil rfl)))) rfl))),rfl,rfl,?_⟩,?_⟩
 ·have h:=Nat.div_eq_of_lt (bV A);exact ⟨Nat.le_refl _,by rw [h]; simp,by rw [h]; simp⟩
 rintro mm aS _ ⟨i,rem,Y,au,rfl,rfl,⟨hi,hr,hY⟩⟩
 obtain ⟨az,rfl⟩:∃ az:Nat→Value,aS=.slice (some ⟨0,0,none⟩) (nl A) ca::.int .u32 d::zs az 2 4 (.slice (some ⟨1,0,none⟩) (nl A) (nl A)::.int .u32 rem::.int .i64 (IntKind.i64.wrap ((i:Int) - 1))::zs az 9 26 []):=bJ au;clear au;conv=>whnf
 refine aI (fun h1=>?_) (fun h1=>?_)
 ·have h1:0 < i:=by
   rcases Nat.eq_zero_or_pos i with h | h
   ·subst h; revert h1; decide
   ·exact h
  obtain ⟨i,rfl⟩:∃ i',i=i'+1:=⟨i - 1,by omega⟩
  have ei:IntKind.i64.wrap (((i+1:Nat):Int) - 1)=((i:Nat):Int):=by rw [ar (by omega) (by omega)]; omega
  simp only [ei];have hl:=cH A i;have fw:rem < d:=by rw [hr]; exact Nat.mod_lt _ hp.2.1
  obtain ⟨t,ht⟩:∃ t,t=rem*B+al A i:=⟨_,rfl⟩;have jD:=ht;rw [hr] at jD;have ao:=KT hp.2.1 jD;have hse:=TG hp.2.1 jD;have ak:=UU hp.2.1 jD;conv=>whnf
  refine ⟨⟨by omega,by omega⟩,?_⟩
  try simp (disch:=omega) only [ar,bL,c8,dA,cf,dO,dm,dQ,c0,db,dk,dy,dn,dG,toNat_cast,ax,Nat.zero_add,dN,toNat_0,toNat_1,Nat.sub_zero,dS,dT,dW,dX,dI,dR,dP,dU]
  conv=>whnf
  refine ⟨by show i < nl A; omega,?_⟩
  conv=>whnf
  refine ⟨(rem,al A i,d),rfl,⟨fw,hl,hp.2.2⟩,?_⟩;have pN:rem*4294967296+al A i=t:=ht.symm;simp only [Cb,pN];conv=>whnf
  refine ⟨⟨by omega,by omega⟩,?_⟩
  try simp (disch:=omega) only [ar,bL,c8,dA,cf,dO,dm,dQ,c0,db,dk,dy,dn,dG,toNat_cast,ax,Nat.zero_add,dN,toNat_0,toNat_1,Nat.sub_zero,dS,dT,dW,dX,dI,dR,dP,dU]
  conv=>whnf
  refine ⟨by show i < nl A; omega,?_⟩
  conv=>whnf
  rw [fy ak];refine .inl ⟨_,?_,i,t % d,cF Y i (t / d),(.aa (.aa (.sk 4 (.aa (.aa (.aa (.sk 26 .nil rfl)))) rfl))),rfl,rfl,?_⟩
  ·omega
  ·exact ⟨by omega,ao.1.symm,by rw [hY]; exact hse⟩
 ·have h1:i=0:=by
   rcases Nat.eq_zero_or_pos i with h | h
   ·exact h
   ·have e:IntKind.i64.wrap ((i:Int) - 1)=((i - 1:Nat):Int):=by rw [ar (by omega) (by omega)]; omega
    rw [e] at h1;exact absurd h1 (by simp)
  subst h1;rw [Nat.pow_zero,Nat.div_one] at hr hY;rw [Nat.mul_one] at hY;subst hr hY;have ak:A / d < B ^ nl A:=Nat.lt_of_le_of_lt (Nat.div_le_self _ _) (bV A);have hle:=jT ak;conv=>whnf
  refine ⟨some (nl A,A / d,nl A),[1],rfl,⟨ak,by omega⟩,?_⟩
  conv=>whnf
  refine ⟨aO.aW (fun h=>by cases h) (fun r hr=>rfl),?_⟩
  conv=>whnf
  refine ⟨_,rfl,?_⟩;conv=>whnf
  refine ⟨1,?_⟩;conv=>whnf
  refine ⟨⟨rfl,⟨(fun h=>⟨rfl,rfl⟩),rfl,Nat.le_refl _,fun _ _=>rfl,fun r hr v hv=>dz (l:=bo (A / d) r) rfl v hv⟩⟩,_,rfl,?_⟩
  exact .two (.cap _ _ _ rfl) (.refl _)
theorem VN:dc Tryz.prog 185 Cf:=by
 refine eg HX aM Tryz.func185 (enters_of Tryz.func185 (by kernel_rfl) rfl) ?_ ?_ ?_
 ·intro i b hb; simp [Cf,dK] at hb; rcases hb with rfl | rfl <;> rfl
 ·intro i b hb; simp [Cf] at hb; rw [← hb]; rfl
 intro ⟨A,ca,s⟩ hp;have hp:nl A≤137438953472∧s≤31:=hp;conv=>whnf
 have e1:IntKind.i64.wrap (((nl A:Nat):Int)+1)=((nl A+1:Nat):Int):=by rw [ar (by omega) (by omega)]; rfl
 simp only [e1];refine ⟨⟨by omega,by omega,by show ((nl A+1:Nat):Int)*((4:Nat):Int)≤_; omega⟩,?_⟩
 simp only [toNat_cast,tD];conv=>whnf
 refine .inl ⟨fun mm tz hz=>∃ (i:Nat) (Y:Nat),bA (some (.slice (some ⟨0,0,none⟩) (nl A) ca)::some (.int .i64 s)::aB 3 (some (.slice (some ⟨1,0,none⟩) (nl A+1) (nl A+1))::aB 7 (some (.slice (some ⟨0,0,none⟩) (nl A) ca)::some (.int .i64 (nl A))::some (.int .i64 i)::aB 25 []))) tz∧hz=[some (.flat false (nl A) 1 (bo A)),some (.flat true (nl A+1) 1 (bo Y))]∧nl A - i=mm∧(i≤nl A∧Y=A % B ^ i*2 ^ s),.inl ⟨_,0,0,(.aa (.aa (.sk 3 (.aa (.sk 7 (.aa (.aa (.aa (.sk 25 .nil rfl)))) rfl)) rfl))),rfl,rfl,?_⟩,?_⟩
 ·exact ⟨Nat.zero_le _,by simp [Nat.mod_one]⟩
 rintro mm aS _ ⟨i,Y,au,rfl,rfl,⟨hi,hY⟩⟩
 obtain ⟨az,rfl⟩:∃ az:Nat→Value,aS=.slice (some ⟨0,0,none⟩) (nl A) ca::.int .i64 s::zs az 2 3 (.slice (some ⟨1,0,none⟩) (nl A+1) (nl A+1)::zs az 6 7 (.slice (some ⟨0,0,none⟩) (nl A) ca::.int .i64 (nl A)::.int .i64 i::zs az 16 25 [])):=bJ au;clear au;conv=>whnf
 refine aI (fun h1=>?_) (fun h1=>?_)
 ·have h1:i < nl A:=by simpa using h1
  have hl:=cH A i;have hu:al Y i < 2 ^ s:=by rw [hY]; exact KU
  have IY:=Y1 (l:=al A i) hp.2 hu;have ady:=Ov (l:=al A i) hp.2 hu;have ao:=Sj (A:=A) (i:=i) hp.2;rw [← hY] at ao;have J:=wD hp.2;have Qi:al A i*2 ^ s / B < B:=by
   refine (Nat.div_lt_iff_lt_mul (by decide)).2 ?_
   exact Nat.mul_lt_mul_of_lt_of_le hl (by show _≤4294967296; omega) (by decide)
  conv=>whnf
  refine ⟨⟨by omega,by omega⟩,?_⟩
  try simp (disch:=omega) only [ar,bL,c8,dA,cf,dO,dm,dQ,c0,db,dk,dy,dn,dG,toNat_cast,ax,Nat.zero_add,dN,toNat_0,toNat_1,Nat.sub_zero,dS,dT,dW,dX,dI,dR,dP,dU]
  conv=>whnf
  refine ⟨by show i < nl A; omega,?_⟩
  conv=>whnf
  have kH:IntKind.u64.wrap ((al A i:Nat):Int)=((al A i:Nat):Int):=bL (by omega) (by have:B=4294967296:=rfl; omega)
  have hv:=Wg hp.2 hl;have Qj:al A i*2 ^ s / B % B=al A i*2 ^ s / B:=Nat.mod_eq_of_lt Qi;have e3:IntKind.i64.wrap (((i:Nat):Int)+1)=((i+1:Nat):Int):=by rw [ar (by omega) (by omega)]; rfl
  simp only [toNat_cast,kH,hv];refine ⟨⟨by omega,by omega⟩,?_⟩
  simp only [toNat_cast,ax,Nat.zero_add];conv=>whnf
  refine ⟨by show i < nl A+1; omega,?_⟩
  conv=>whnf
  simp only [eh,IY,e3,cf,jU,Qj];refine ⟨⟨by omega,by omega⟩,?_⟩
  simp only [toNat_cast,ax,Nat.zero_add];conv=>whnf
  refine ⟨by show i < nl A+1; omega,?_⟩
  conv=>whnf
  rw [fy ady];simp only [e3,cf,jU,eh,Qj];refine ⟨⟨by omega,by omega⟩,?_⟩
  simp only [toNat_cast,ax,Nat.zero_add];conv=>whnf
  refine ⟨by show i+1 < nl A+1; omega,?_⟩
  conv=>whnf
  rw [fy Qi,ao];simp only [e3];refine .inl ⟨_,?_,i+1,A % B ^ (i+1)*2 ^ s,(.aa (.aa (.sk 3 (.aa (.sk 7 (.aa (.aa (.aa (.sk 25 .nil rfl)))) rfl)) rfl))),rfl,rfl,?_⟩
  ·omega
  ·exact ⟨by omega,rfl⟩
 ·have h1:i=nl A:=by
   have h1:¬ i < nl A:=by simpa using h1
   omega
  subst h1;rw [Nat.mod_eq_of_lt (bV A)] at hY;subst hY;conv=>whnf
  refine ⟨1,?_⟩;conv=>whnf
  refine ⟨⟨rfl,⟨(fun h=>⟨rfl,rfl⟩),rfl,Nat.le_refl _,fun _ _=>rfl,fun r hr v hv=>dz (l:=bo (A*2 ^ s) r) rfl v hv⟩⟩,_,rfl,?_⟩
  exact .refl _
theorem S6:dc Tryz.prog 187 Br:=by
 refine eg HX aM Tryz.func187 (enters_of Tryz.func187 (by kernel_rfl) rfl) ?_ ?_ ?_
 ·intro i b hb; simp [Br,dK] at hb; rcases hb with rfl | rfl <;> rfl
 ·intro i b hb; simp [Br] at hb; rw [← hb]; rfl
 intro ⟨A,ca,s⟩ hp;have hp:nl A≤137438953472∧s≤31:=hp;conv=>whnf
 refine ⟨⟨by omega,by omega,by show ((nl A:Nat):Int)*((4:Nat):Int)≤_; omega⟩,?_⟩
 simp only [toNat_cast,tD];conv=>whnf
 refine .inl ⟨fun mm tz hz=>∃ (i:Nat) (Y:Nat),bA (some (.slice (some ⟨0,0,none⟩) (nl A) ca)::some (.int .i64 s)::aB 3 (some (.slice (some ⟨1,0,none⟩) (nl A) (nl A))::aB 6 (some (.int .i64 (nl A))::some (.int .i64 i)::aB 31 []))) tz∧hz=[some (.flat false (nl A) 1 (bo A)),some (.flat true (nl A) 1 (bo Y))]∧nl A - i=mm∧(i≤nl A∧Y=A / 2 ^ s % B ^ i),.inl ⟨_,0,0,(.aa (.aa (.sk 3 (.aa (.sk 6 (.aa (.aa (.sk 31 .nil rfl))) rfl)) rfl))),rfl,rfl,?_⟩,?_⟩
 ·exact ⟨Nat.zero_le _,by simp [Nat.mod_one]⟩
 rintro mm aS _ ⟨i,Y,au,rfl,rfl,⟨hi,hY⟩⟩
 obtain ⟨az,rfl⟩:∃ az:Nat→Value,aS=.slice (some ⟨0,0,none⟩) (nl A) ca::.int .i64 s::zs az 2 3 (.slice (some ⟨1,0,none⟩) (nl A) (nl A)::zs az 6 6 (.int .i64 (nl A)::.int .i64 i::zs az 14 31 [])):=bJ au;clear au;conv=>whnf
 refine aI (fun h1=>?_) (fun h1=>?_)
 ·have h1:i < nl A:=by simpa using h1
  have hl:=cH A i;have ja:al A (i+1) < B:=cH A (i+1);have e3:IntKind.i64.wrap (((i:Nat):Int)+1)=((i+1:Nat):Int):=by rw [ar (by omega) (by omega)]; rfl
  have kH:IntKind.u64.wrap ((al A i:Nat):Int)=((al A i:Nat):Int):=bL (by omega) (by have:B=4294967296:=rfl; omega)
  have adz:IntKind.u64.wrap ((al A (i+1):Nat):Int)=((al A (i+1):Nat):Int):=bL (by omega) (by have:B=4294967296:=rfl; omega)
  have hd:=Rd (A:=A) (i:=i) hp.2;have DE:cF Y i (al (A / 2 ^ s) i)=A / 2 ^ s % B ^ (i+1):=by
   rw [mod_succ,← hY];exact AQ (by rw [hY]; exact Nat.mod_lt _ (dV i))
  conv=>whnf
  refine ⟨⟨by omega,by omega⟩,?_⟩
  try simp (disch:=omega) only [ar,bL,c8,dA,cf,dO,dm,dQ,c0,db,dk,dy,dn,dG,toNat_cast,ax,Nat.zero_add,dN,toNat_0,toNat_1,Nat.sub_zero,dS,dT,dW,dX,dI,dR,dP,dU]
  conv=>whnf
  refine ⟨by show i < nl A; omega,?_⟩
  conv=>whnf
  simp only [e3,kH];refine aI (fun J=>?_) (fun J=>?_)
  ·have J:i+1 < nl A:=by
    have J:=of_decide_eq_true J;omega
   conv=>whnf
   simp only [e3];refine ⟨⟨by omega,by omega⟩,?_⟩
   simp only [toNat_cast,ax,Nat.zero_add];conv=>whnf
   refine ⟨by show i+1 < nl A; omega,?_⟩
   conv=>whnf
   have qZ:IntKind.u64.wrap (((al A (i+1):Nat):Int)*4294967296)=((al A (i+1):Nat):Int)*4294967296:=bL (by omega) (by have:B=4294967296:=rfl; omega)
   simp only [adz,dm,qZ,UX ja hl];simp only [M6 hp.2,toNat_cast,eh];refine ⟨⟨by omega,by omega⟩,?_⟩
   simp only [toNat_cast,ax,Nat.zero_add];conv=>whnf
   refine ⟨by show i < nl A; omega,?_⟩
   conv=>whnf
   simp only [e3,← hd];rw [fy (cH (A / 2 ^ s) i),DE];refine .inl ⟨_,?_,i+1,A / 2 ^ s % B ^ (i+1),(.aa (.aa (.sk 3 (.aa (.sk 6 (.aa (.aa (.sk 31 .nil rfl))) rfl)) rfl))),rfl,rfl,?_⟩
   ·omega
   ·exact ⟨by omega,rfl⟩
  ·have J:nl A≤i+1:=by
    have J:=of_decide_eq_false J;omega
   have h0:=tT (bV A) J;rw [h0,Nat.zero_mul,Nat.add_zero] at hd;conv=>whnf
   simp only [M6 hp.2,toNat_cast,eh];refine ⟨⟨by omega,by omega⟩,?_⟩
   simp only [toNat_cast,ax,Nat.zero_add];conv=>whnf
   refine ⟨by show i < nl A; omega,?_⟩
   conv=>whnf
   simp only [e3,← hd];rw [fy (cH (A / 2 ^ s) i),DE];refine .inl ⟨_,?_,i+1,A / 2 ^ s % B ^ (i+1),(.aa (.aa (.sk 3 (.aa (.sk 6 (.aa (.aa (.sk 31 .nil rfl))) rfl)) rfl))),rfl,rfl,?_⟩
   ·omega
   ·exact ⟨by omega,rfl⟩
 ·have h1:i=nl A:=by
   have h1:¬ i < nl A:=by simpa using h1
   omega
  subst h1;have ak:A / 2 ^ s < B ^ nl A:=Nat.lt_of_le_of_lt (Nat.div_le_self _ _) (bV A);have hle:=jT ak;rw [Nat.mod_eq_of_lt ak] at hY;subst hY;conv=>whnf
  refine ⟨some (nl A,A / 2 ^ s,nl A),[1],rfl,⟨ak,by omega⟩,?_⟩
  conv=>whnf
  refine ⟨aO.aW (fun h=>by cases h) (fun r hr=>rfl),?_⟩
  conv=>whnf
  refine ⟨_,rfl,?_⟩;conv=>whnf
  refine ⟨1,?_⟩;conv=>whnf
  refine ⟨⟨rfl,⟨(fun h=>⟨rfl,rfl⟩),rfl,Nat.le_refl _,fun _ _=>rfl,fun r hr v hv=>dz (l:=bo (A / 2 ^ s) r) rfl v hv⟩⟩,_,rfl,?_⟩
  exact .cap _ _ _ rfl
end Go.Proofs.YtlapbjdhekcipaaGreat
