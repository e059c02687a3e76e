/- Cells and bounds under the board's name, where no board is checked. -/
import Derived.Test.YtlhblnphfpijkaaCellA
